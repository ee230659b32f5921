-- out of the kit's print, turned by wip/own_print.py
import Derived.Test.YtkkhldjhhjpobaaGreatPFnStepsByGapsx0
import Derived.Test.YtkkhldjhhjpobaaGreatPFnStepsByGapsx5
import Derived.Test.YtkkhldjhhjpobaaGreatPFnStepsByGapsx6
import Derived.Test.YtkkhldjhhjpobaaGreatPFnStepsByGapsx8
namespace Go.Proofs.YtkkhldjhhjpobaaGreat.PFnStepsByGaps
open Go.RowKit Go.Proofs.YtkkhldjhhjpobaaGreatW.PrintWords Go.Proofs.YtkkhldjhhjpobaaGreatW.PrintLast Go.Proofs.YtkkhldjhhjpobaaGreatW.PrintMore
attribute [local go_sem] max2_int min2_int max_two min_two max_three min_three max_four min_four   -- for this text's walks alone
set_option linter.unusedVariables false
set_option linter.unusedSimpArgs false

/-! ### impl_allGaps: function 53 -/
open Go.Shelf Go.RowKit Go.Lib Go.Sort in
def impl_allGaps.ren : Go.Shelf.Ren := ⟨fun | 6 => 69 | 15 => 79 | 14 => 78 | 28 => 91 | 29 => 92 | 20 => 83 | 21 => 84 | 22 => 85 | 23 => 86 | 24 => 87 | 25 => 88 | 26 => 89 | 27 => 90 | 46 => 101 | 47 => 102 | 48 => 103 | 49 => 104 | 50 => 105 | 57 => 109 | n => n, fun | 22 => 42 | 24 => 24 | 25 => 77 | 3 => 3 | 39 => 79 | 0 => 0 | 53 => 93 | 55 => 47 | 4 => 4 | 46 => 87 | 45 => 86 | 50 => 29 | 5 => 5 | 9 => 9 | 66 => 99 | 70 => 103 | 76 => 107 | 77 => 40 | n => n, fun | n => n⟩
open Go.Shelf Go.RowKit Go.Lib Go.Sort in
theorem impl_allGaps.lay : Go.Proofs.SlLaysF.n6 Tryz.prog impl_allGaps.ren := {
 mixed := by kernel_rfl
 f6 := ⟨Tryz.f69.name, by decide, Tryz.func69.trans (congrArg some (by kernel_rfl))⟩
 f14 := ⟨Tryz.f78.name, by decide, Tryz.func78.trans (congrArg some (by kernel_rfl))⟩
 f15 := Tryz.func79.trans (congrArg some (by kernel_rfl))
 f20 := ⟨Tryz.f83.name, by decide, Tryz.func83.trans (congrArg some (by kernel_rfl))⟩
 f21 := ⟨Tryz.f84.name, by decide, Tryz.func84.trans (congrArg some (by kernel_rfl))⟩
 f22 := ⟨Tryz.f85.name, by decide, Tryz.func85.trans (congrArg some (by kernel_rfl))⟩
 f23 := ⟨Tryz.f86.name, by decide, Tryz.func86.trans (congrArg some (by kernel_rfl))⟩
 f24 := ⟨Tryz.f87.name, by decide, Tryz.func87.trans (congrArg some (by kernel_rfl))⟩
 f25 := ⟨Tryz.f88.name, by decide, Tryz.func88.trans (congrArg some (by kernel_rfl))⟩
 f26 := ⟨Tryz.f89.name, by decide, Tryz.func89.trans (congrArg some (by kernel_rfl))⟩
 f27 := ⟨Tryz.f90.name, by decide, Tryz.func90.trans (congrArg some (by kernel_rfl))⟩
 f28 := Tryz.func91.trans (congrArg some (by kernel_rfl))
 f29 := Tryz.func92.trans (congrArg some (by kernel_rfl))
 f46 := ⟨Tryz.f101.name, by decide, Tryz.func101.trans (congrArg some (by kernel_rfl))⟩
 f47 := Tryz.func102.trans (congrArg some (by kernel_rfl))
 f48 := Tryz.func103.trans (congrArg some (by kernel_rfl))
 f49 := ⟨Tryz.f104.name, by decide, Tryz.func104.trans (congrArg some (by kernel_rfl))⟩
 f50 := ⟨Tryz.f105.name, by decide, Tryz.func105.trans (congrArg some (by kernel_rfl))⟩
 f57 := ⟨Tryz.f109.name, by decide, Tryz.func109.trans (congrArg some (by kernel_rfl))⟩
 t0 := Tryz.underlying0
 a0 := Tryz.isAgg0
 z0 := Tryz.sizeOf0
 v0 := Tryz.zeroValue0
 t3 := Tryz.underlying3
 a3 := Tryz.isAgg3
 z3 := Tryz.sizeOf3
 v3 := Tryz.zeroValue3
 t4 := Tryz.underlying4
 a4 := Tryz.isAgg4
 z4 := Tryz.sizeOf4
 v4 := Tryz.zeroValue4
 t5 := Tryz.underlying5
 a5 := Tryz.isAgg5
 z5 := Tryz.sizeOf5
 v5 := Tryz.zeroValue5
 t9 := Tryz.underlying9
 a9 := Tryz.isAgg9
 z9 := Tryz.sizeOf9
 v9 := Tryz.zeroValue9
 t22 := Tryz.underlying42
 a22 := Tryz.isAgg42
 z22 := Tryz.sizeOf42
 v22 := Tryz.zeroValue42
 a24 := Tryz.isAgg24
 z24 := Tryz.sizeOf24
 t25 := Tryz.underlying77
 a25 := Tryz.isAgg77
 z25 := Tryz.sizeOf77
 v25 := Tryz.zeroValue77
 t39 := Tryz.underlying79
 a39 := Tryz.isAgg79
 z39 := Tryz.sizeOf79
 v39 := Tryz.zeroValue79
 t45 := Tryz.underlying86
 a45 := Tryz.isAgg86
 z45 := Tryz.sizeOf86
 v45 := Tryz.zeroValue86
 t46 := Tryz.underlying87
 a46 := Tryz.isAgg87
 z46 := Tryz.sizeOf87
 v46 := Tryz.zeroValue87
 t50 := Tryz.underlying29
 a50 := Tryz.isAgg29
 z50 := Tryz.sizeOf29
 v50 := Tryz.zeroValue29
 t53 := Tryz.underlying93
 a53 := Tryz.isAgg93
 z53 := Tryz.sizeOf93
 v53 := Tryz.zeroValue93
 t55 := Tryz.underlying47
 a55 := Tryz.isAgg47
 z55 := Tryz.sizeOf47
 v55 := Tryz.zeroValue47
 t66 := Tryz.underlying99
 a66 := Tryz.isAgg99
 z66 := Tryz.sizeOf99
 v66 := Tryz.zeroValue99
 t70 := Tryz.underlying103
 a70 := Tryz.isAgg103
 z70 := Tryz.sizeOf103
 v70 := Tryz.zeroValue103
 t76 := Tryz.underlying107
 a76 := Tryz.isAgg107
 z76 := Tryz.sizeOf107
 v76 := Tryz.zeroValue107
 t77 := Tryz.underlying40
 a77 := Tryz.isAgg40
 z77 := Tryz.sizeOf40
 v77 := Tryz.zeroValue40 }
open Go.RowKit Go.Lib Go.Sort in
open Go.Shelf Go.RowKit Go.Lib Go.Sort in
theorem impl_allGaps.sort_ {α : Type} [Inhabited α] (enc : α → Value) (h1 : OneCell enc) (cf : α → α → Int) (hO : SWO (ltOf cf)) (g : Nat) (cb : Array Value) (blk off cap : Nat) (d : Array α) (w : World) (eg : ∀ args w, (callFunc g args).run Tryz.prog w = .ok (.enter g args) w) (hcmp : CmpLays1 Tryz.prog g cb enc cf blk off d.size w) (hH : Holds enc w blk off d) (hblk : blk < w.heap.size) (hsz : d.size < 4611686018427387904) :
  Calls Tryz.prog 69 #[.slice (some ⟨blk, off, none⟩) d.size cap, .func (.func g) #[] cb] w fun e w' =>
   e = .returned (.tuple #[]) ∧ ∃ d' n os, PermIn 0 d.size d d' ∧ SortedIn (ltOf cf) 0 d.size d' ∧ w' = sortWorld enc w blk off n d' os := Any.slices_SortFunc impl_allGaps.lay enc h1 cf hO g cb blk off cap d w eg hcmp hH hblk hsz
/-- slices.Compare, as one function. -/
def impl_allGaps.cm : List Int → List Int → Int
 | [], [] => 0
 | [], _ :: _ => -1
 | _ :: _, [] => 1
 | x :: l, y :: m => if x < y then -1 else if y < x then 1 else impl_allGaps.cm l m
theorem impl_allGaps.cm_self (l : List Int) : impl_allGaps.cm l l = 0 := by
 induction l with
 | nil => rfl
 | cons x l ih => simp only [impl_allGaps.cm]; rw [if_neg (by omega), if_neg (by omega), ih]
theorem impl_allGaps.cm_swap (l : List Int) : ∀ m, impl_allGaps.cm m l = -impl_allGaps.cm l m := by
 induction l with
 | nil => intro m; cases m <;> rfl
 | cons x l ih =>
  intro m
  cases m with
  | nil => rfl
  | cons y m =>
   simp only [impl_allGaps.cm]
   by_cases h1 : x < y
   ·rw [if_pos h1, if_neg (by omega), if_pos h1]; rfl
   ·by_cases h2 : y < x
    ·rw [if_pos h2, if_neg h1, if_pos h2]
    ·rw [if_neg h2, if_neg h1, if_neg h1, if_neg h2, ih]
theorem impl_allGaps.cm_zero (l : List Int) : ∀ m, impl_allGaps.cm l m = 0 → l = m := by
 induction l with
 | nil => intro m h; cases m with
  | nil => rfl
  | cons y m => simp [impl_allGaps.cm] at h
 | cons x l ih =>
  intro m h
  cases m with
  | nil => simp [impl_allGaps.cm] at h
  | cons y m =>
   simp only [impl_allGaps.cm] at h
   by_cases h1 : x < y
   ·rw [if_pos h1] at h; simp at h
   ·by_cases h2 : y < x
    ·rw [if_neg h1, if_pos h2] at h; simp at h
    ·rw [if_neg h1, if_neg h2] at h
     rw [ih m h, show x = y by omega]
theorem impl_allGaps.cm_trans (l : List Int) : ∀ m n, impl_allGaps.cm l m ≤ 0 → impl_allGaps.cm m n ≤ 0 → impl_allGaps.cm l n ≤ 0 := by
 induction l with
 | nil => intro m n _ _; cases n <;> simp [impl_allGaps.cm]
 | cons x l ih =>
  intro m n h1 h2
  cases m with
  | nil => simp [impl_allGaps.cm] at h1
  | cons y m =>
   cases n with
   | nil => simp [impl_allGaps.cm] at h2
   | cons z n =>
    simp only [impl_allGaps.cm] at h1 h2 ⊢
    by_cases a1 : x < y
    ·by_cases b1 : y < z
     ·rw [if_pos (by omega)]; omega
     ·by_cases b2 : z < y
      ·rw [if_neg b1, if_pos b2] at h2; omega
      ·rw [if_pos (by omega)]; omega
    ·by_cases a2 : y < x
     ·rw [if_neg a1, if_pos a2] at h1; omega
     ·rw [if_neg a1, if_neg a2] at h1
      by_cases b1 : y < z
      ·rw [if_pos (by omega)]; omega
      ·by_cases b2 : z < y
       ·rw [if_neg b1, if_pos b2] at h2; omega
       ·rw [if_neg b1, if_neg b2] at h2
        rw [if_neg (by omega), if_neg (by omega)]
        exact ih m n h1 h2
theorem impl_allGaps.swo {α : Type} (f : α → List Int) : Go.Sort.SWO (Go.Proofs.ltOf fun i j : α => impl_allGaps.cm (f i) (f j)) where
 irrefl x := by
  show decide (impl_allGaps.cm (f x) (f x) < 0) = false
  rw [impl_allGaps.cm_self]
  rfl
 trans x y z h1 h2 := by
  replace h1 : impl_allGaps.cm (f x) (f y) < 0 := of_decide_eq_true h1
  replace h2 : impl_allGaps.cm (f y) (f z) < 0 := of_decide_eq_true h2
  show decide (impl_allGaps.cm (f x) (f z) < 0) = true
  rw [decide_eq_true_eq]
  have a := impl_allGaps.cm_trans _ _ _ (Int.le_of_lt h1) (Int.le_of_lt h2)
  by_cases e : impl_allGaps.cm (f x) (f z) = 0
  ·have e2 := impl_allGaps.cm_zero _ _ e
   rw [e2] at h1
   have := impl_allGaps.cm_swap (f y) (f z)
   omega
  ·omega
 ntrans x y z h1 h2 := by
  replace h1 : ¬ impl_allGaps.cm (f x) (f y) < 0 := of_decide_eq_false h1
  replace h2 : ¬ impl_allGaps.cm (f y) (f z) < 0 := of_decide_eq_false h2
  show decide (impl_allGaps.cm (f x) (f z) < 0) = false
  rw [decide_eq_false_iff_not]
  have s1 := impl_allGaps.cm_swap (f x) (f y)
  have s2 := impl_allGaps.cm_swap (f y) (f z)
  have s3 := impl_allGaps.cm_swap (f x) (f z)
  have a := impl_allGaps.cm_trans (f z) (f y) (f x) (by omega) (by omega)
  omega
def impl_allGaps.srt (L : List (List Int)) : List (List Int) := L.mergeSort fun x y => decide (impl_allGaps.cm x y ≤ 0)
theorem impl_allGaps.srt_uniq {L M : List (List Int)} (hp : M.Perm L) (hs : M.Pairwise fun x y => impl_allGaps.cm x y ≤ 0) : M = impl_allGaps.srt L := by
 have h1 : (impl_allGaps.srt L).Pairwise fun x y => impl_allGaps.cm x y ≤ 0 := by
  have := List.pairwise_mergeSort (le := fun x y => decide (impl_allGaps.cm x y ≤ 0)) (fun a b c h1 h2 => by rw [decide_eq_true_eq] at *; exact impl_allGaps.cm_trans _ _ _ h1 h2) (fun a b => by
   have := impl_allGaps.cm_swap a b
   by_cases h : impl_allGaps.cm a b ≤ 0
   ·simp [h]
   ·simp [h]; omega) L
  exact this.imp (fun h => of_decide_eq_true h)
 exact List.Perm.eq_of_pairwise (le := fun x y => impl_allGaps.cm x y ≤ 0) (fun a b _ _ h1 h2 => impl_allGaps.cm_zero _ _ (by have := impl_allGaps.cm_swap a b; omega)) hs h1 (hp.trans (List.mergeSort_perm L _).symm)
section
open Go.Shelf Go.RowKit Go.Lib Go.Sort
theorem impl_allGaps.heap_s {α : Type} [Inhabited α] (enc : α → Value) {w : World} {g n : Nat} {os : Array Obj} {cur : Array Value} {e : TypeId} {fr : Nat × Nat} (d : Array α) (hb : w.heap[g]? = some (.cells cur e fr)) :
  (sortWorld enc w g 0 n d os).heap[g]? = some (.cells (putCells enc 0 d cur) e fr) := by
 have hg : g < w.heap.size := (Array.getElem?_eq_some_iff.1 hb).1
 unfold sortWorld
 rw [heap_grow_old _ _ (by simpa using hg)]
 simp [putRow, mapBlock, Sort.ahead, Array.getElem?_modify, hb, onCells]
theorem impl_allGaps.grown_s {α : Type} [Inhabited α] (enc : α → Value) {w : World} {g n : Nat} {os : Array Obj} (d : Array α) : w.grownBy (sortWorld enc w g 0 n d os) (some g) := by
 unfold sortWorld
 refine ⟨rfl, rfl, rfl, by simp, fun k hk hne => ?_⟩
 rw [heap_grow_old _ _ (by simpa using hk)]
 have : g ≠ k := fun e => hne (by rw [e])
 simp [putRow, mapBlock, Sort.ahead, Array.getElem?_modify, this]
theorem impl_allGaps.take_s {α : Type} [Inhabited α] (enc : α → Value) (cur : Array Value) (d : Array α) (h : d.size ≤ cur.size) : (putCells enc 0 d cur).toList.take d.size = d.toList.map enc := by
 apply List.ext_getElem?
 intro j
 by_cases hj : j < d.size
 ·rw [List.getElem?_take_of_lt hj, Array.getElem?_toList]
  simp [putCells, hj, show j < cur.size by omega]
 ·rw [List.getElem?_take_eq_none (by omega), List.getElem?_eq_none (by simp; omega)]
set_option maxHeartbeats 2000000 in
theorem impl_allGaps.sortN (k : Nat) (w : World) (base : Nat) (ok : Nat → Prop) (v : Value) (L : List (List Int)) (hN : Kd.N (Kd.slice 3 (Kd.int .i64)) 24 w base ok v L) (hne : L ≠ []) (hsz : L.length < 4611686018427387904) (hcmp : ∀ x ∈ L, ∀ y ∈ L, slices_Compare_int_int.f k x y = some (impl_allGaps.cm x y)) :
  Calls Tryz.prog 69 #[v, .func (.func 70) #[] #[]] w fun e w' => e = .returned (.tuple #[]) ∧ Kd.N (Kd.slice 3 (Kd.int .i64)) 24 w' base ok v (impl_allGaps.srt L) ∧ w.grownBy w' v.ownBlock ∧ ∀ q, v.ownBlock = some q → base ≤ q := by
 obtain ⟨h0, rows, hrl, ⟨_, inner, ⟨hil, hx⟩, hr⟩, hF⟩ := hN
 have hpos : 0 < L.length := List.length_pos_iff.2 hne
 rcases hx with ⟨_, hz⟩ | ⟨g, cap, cur, rfl, hbase, hb, h1, h2, h3, h4⟩
 ·omega
 have hgw : g < w.heap.size := (Array.getElem?_eq_some_iff.1 hb).1
 have hil1 : inner.length = L.length := by
  have e1 : inner.length = rows.length * 1 := hil
  omega
 have h41 : cur.toList.take L.length = inner := by
  have e1 : cur.toList.take (rows.length * 1) = inner := h4
  rwa [Nat.mul_one, hrl] at e1
 have h31 : cur.size = cap := by
  have e1 : cur.size = cap * 1 := h3
  omega
 haveI : Inhabited (Fin L.length) := ⟨⟨0, hpos⟩⟩
 let enc : Fin L.length → Value := fun i => inner[i.val]'(by have := i.isLt; omega)
 have hK : ∀ (i : Fin L.length) (W : World), (∀ q, ok q ∧ some q ≠ some g → q < w.heap.size → W.heap[q]? = w.heap[q]?) → (Kd.slice 3 (Kd.int .i64)).K W L[i.val] [enc i] := by
  intro i W hW
  have hi := i.isLt
  have hrow : rows[i.val]? = some [enc i] := by
   have e1 : rows[i.val]? = some (rows[i.val]'(by omega)) := List.getElem?_eq_getElem (by omega)
   have e2 := (hr.2 i.val _ e1).1
   have e3 : (inner.drop (i.val * 1)).take 1 = [enc i] := by
    rw [Nat.mul_one, List.drop_eq_getElem_cons (by omega)]
    rfl
   have e4 : (inner.drop (i.val * 1)).take 1 = rows[i.val]'(by omega) := e2
   rw [e1, ← e4, e3]
  exact hF i.val _ _ (List.getElem?_eq_getElem hi) hrow W hW
 have h1c : OneCell enc := fun i => by
  obtain ⟨A, c, e, _⟩ := hK i w (fun _ _ _ => rfl)
  have e2 : enc i = .slice A L[i.val].length c := by injection e
  rw [e2]
  rfl
 let d : Array (Fin L.length) := Array.ofFn id
 have hds : d.size = L.length := by simp [d]
 have hd : ∀ j (hj : j < L.length), d[j]! = ⟨j, hj⟩ := fun j hj => by simp [d, hj]
 have hH : Holds enc w g 0 d := by
  intro j hj
  have hj2 : j < L.length := by omega
  refine ⟨?_, by simp [World.frozen?, hb]⟩
  have e1 : (cur.toList.take L.length)[j]? = some (inner[j]'(by omega)) := by rw [h41]; exact List.getElem?_eq_getElem (by omega)
  rw [List.getElem?_take_of_lt hj2, Array.getElem?_toList] at e1
  rw [hd j hj2]
  simp only [World.cell?, hb, Nat.zero_add]
  exact e1
 have hcm : CmpLays1 Tryz.prog 70 #[] enc (fun i j => impl_allGaps.cm L[i.val] L[j.val]) g 0 d.size w := by
  intro m os dk hs x y
  have hW : ∀ q, ok q ∧ some q ≠ some g → q < w.heap.size → (sortWorld enc w g 0 m dk os).heap[q]? = w.heap[q]? := fun q hq hlt => (impl_allGaps.grown_s enc dk).block q hlt hq.2
  obtain ⟨A1, c1, e1, l1, r1⟩ := hK x _ hW
  obtain ⟨A2, c2, e2, l2, r2⟩ := hK y _ hW
  have e1' : enc x = .slice A1 L[x.val].length c1 := by injection e1
  have e2' : enc y = .slice A2 L[y.val].length c2 := by injection e2
  rw [Array.append_empty, e1', e2']
  refine (slices_Compare_int_int.calls k A1 c1 _ A2 c2 _ _ _ r1 l1 r2 l2 (hcmp _ (List.getElem_mem _) _ (List.getElem_mem _))).mono ?_
  rintro e w' ⟨rfl, ⟨n, rfl⟩⟩
  exact ⟨rfl, n, #[], by rw [grow_empty]⟩
 have eg : ∀ args w, (callFunc 70 args).run Tryz.prog w = .ok (.enter 70 args) w := Go.Proofs.enters_of Tryz.func70 (by kernel_rfl) rfl
 have hs := impl_allGaps.sort_ enc h1c (fun i j => impl_allGaps.cm L[i.val] L[j.val]) (impl_allGaps.swo fun i : Fin L.length => L[i.val]) 70 #[] g 0 cap d w eg hcm hH hgw (by omega)
 have hln : rows.length = d.size := by omega
 rw [hln]
 refine hs.mono ?_
 rintro e w' ⟨rfl, d', n, os, hp, hso, rfl⟩
 have hgr := impl_allGaps.grown_s enc (w := w) (g := g) (n := n) (os := os) d'
 have hd's : d'.size = L.length := by rw [hp.1, hds]
 have hperm : d'.toList.Perm d.toList := by
  have e1 := hp.2.2
  rw [Array.extract_eq_self_of_le (by omega), Array.extract_eq_self_of_le (by omega)] at e1
  exact e1
 have hL : d.toList.map (fun i => L[i.val]) = L := by
  refine List.ext_getElem (by simp [d]) (fun j a b => ?_)
  simp [d]
 have hM : d'.toList.map (fun i => L[i.val]) = impl_allGaps.srt L := by
  refine impl_allGaps.srt_uniq ?_ ?_
  ·have := hperm.map (fun i : Fin L.length => L[i.val])
   rwa [hL] at this
  ·rw [List.pairwise_map, List.pairwise_iff_getElem]
   intro i j hi hj hij
   have hi' : i < d'.size := by simpa using hi
   have hj' : j < d'.size := by simpa using hj
   have e1 := of_decide_eq_false (hso i j (Nat.zero_le _) hij (by omega))
   rw [getElem!_pos d' i hi', getElem!_pos d' j hj'] at e1
   have e2 := impl_allGaps.cm_swap L[(d'[i]'hi').val] L[(d'[j]'hj').val]
   simp only [Array.getElem_toList]
   simp only at e1
   omega
 have hown : ∀ q, (Value.slice (some ⟨g, 0, none⟩) d.size cap).ownBlock = some q → base ≤ q := by
  intro q hq
  have e : g = q := by simpa [Value.ownBlock] using hq
  omega
 refine ⟨rfl, ⟨h0, d'.toList.map (fun i => [enc i]), by rw [← hM]; simp, ⟨fun q hq => hq.symm, d'.toList.map enc, ⟨by show (d'.toList.map enc).length = (d'.toList.map fun i => [enc i]).length * 1; simp, .inr ⟨g, cap, putCells enc 0 d' cur, by simp [hd's, hds], hbase, impl_allGaps.heap_s enc d' hb, by simp [hd's]; omega, h2, by show (putCells enc 0 d' cur).size = cap * 1; simp [putCells, h31], ?_⟩⟩, ?_⟩, ?_⟩, hgr, hown⟩
 ·have e1 := impl_allGaps.take_s enc cur d' (by omega)
  have e2 : (d'.toList.map fun i => [enc i]).length = d'.size := by simp
  rw [e2]
  show (putCells enc 0 d' cur).toList.take (d'.size * 1) = _
  rw [Nat.mul_one]
  exact e1
 ·refine ⟨by show (d'.toList.map enc).length = (d'.toList.map fun i => [enc i]).length * 1; simp, fun j p hj => ?_⟩
  have hj1 : j < d'.size := by have := (List.getElem?_eq_some_iff.1 hj).1; simpa using this
  have e1 : p = [enc (d'[j]'hj1)] := by
   have := (List.getElem?_eq_some_iff.1 hj).2
   simpa using this.symm
  subst e1
  have e2 : ((d'.toList.map enc).drop (j * 1)).take 1 = [enc (d'[j]'hj1)] := by
   rw [Nat.mul_one, List.drop_eq_getElem_cons (by simpa using hj1)]
   simp
  refine ⟨e2, (congrArg List.length e2).trans rfl, fun u hu => ?_⟩
  have hu2 : u ∈ ((d'.toList.map enc).drop (j * 1)).take 1 := hu
  rw [e2] at hu2
  rw [List.mem_singleton.1 hu2]
  exact h1c _
 ·intro j x c hx hc W hW
  rw [← hM] at hx
  have hj1 : j < d'.size := by have := (List.getElem?_eq_some_iff.1 hc).1; simpa using this
  have e1 : c = [enc (d'[j]'hj1)] := by
   have := (List.getElem?_eq_some_iff.1 hc).2
   simpa using this.symm
  have e2 : x = L[(d'[j]'hj1).val] := by
   have := (List.getElem?_eq_some_iff.1 hx).2
   simpa using this.symm
  subst e1 e2
  refine hK _ W (fun q hq hlt => ?_)
  exact (hW q ⟨hq.1, by simpa [Value.ownBlock] using hq.2⟩ (Nat.lt_of_lt_of_le hlt hgr.size)).trans (hgr.block q hlt hq.2)
end
def impl_allGaps.done (k : Nat) (L : List (List Int)) : Bool := !L.isEmpty && (decide (L.length < 4611686018427387904) && L.all fun x => L.all fun y => decide (slices_Compare_int_int.f k x y = some (impl_allGaps.cm x y)))
theorem impl_allGaps.done_iff (k : Nat) (L : List (List Int)) : impl_allGaps.done k L = true ↔ L ≠ [] ∧ L.length < 4611686018427387904 ∧ ∀ x ∈ L, ∀ y ∈ L, slices_Compare_int_int.f k x y = some (impl_allGaps.cm x y) := by
 unfold impl_allGaps.done
 simp [List.all_eq_true]
theorem impl_allGaps.done_mono {k : Nat} {L : List (List Int)} (h : impl_allGaps.done k L = true) : impl_allGaps.done (k + 1) L = true := by
 rw [impl_allGaps.done_iff] at h ⊢
 exact ⟨h.1, h.2.1, fun x hx y hy => slices_Compare_int_int.mono _ _ _ _ (h.2.2 x hx y hy)⟩
def impl_allGaps.Kp (w w' : World) : Prop := w.heap.size ≤ w'.heap.size ∧ ∀ (i : Nat) (cs : Array Value) (t : Nat), t ≠ 24 → t ≠ 42 → w.heap[i]? = some (Obj.cells cs t (0, 0)) → w'.heap[i]? = some (Obj.cells cs t (0, 0))
theorem impl_allGaps.Kp.refl (w : World) : impl_allGaps.Kp w w := ⟨Nat.le_refl _, fun _ _ _ _ _ h => h⟩
theorem impl_allGaps.Kp.trans {w w1 w2 : World} (h : impl_allGaps.Kp w w1) (k : impl_allGaps.Kp w1 w2) : impl_allGaps.Kp w w2 := ⟨Nat.le_trans h.1 k.1, fun i cs t h1 h2 hi => k.2 i cs t h1 h2 (h.2 i cs t h1 h2 hi)⟩
theorem impl_allGaps.Kp.below {w w1 : World} (h : Below w.heap.size w w1) : impl_allGaps.Kp w w1 := ⟨h.size, fun i cs t _ _ hi => (h.block i (blk_lt hi)).trans hi⟩
theorem impl_allGaps.Kp.grown {w w1 : World} {row : Option Nat} (h : w.grownBy w1 row) (hr : ∀ k, row = some k → ∃ cells, w.heap[k]? = some (.cells cells 24 (0, 0))) : impl_allGaps.Kp w w1 := by
 refine ⟨h.size, fun i cs t ht _ hi => (h.block i (blk_lt hi) ?_).trans hi⟩
 intro he
 obtain ⟨cells, hc⟩ := hr i he.symm
 rw [hi] at hc
 simp at hc
 exact ht hc.2
theorem impl_allGaps.Kp.set {w : World} {g : Nat} {cells : Array Value} (h : w.heap[g]? = some (.cells cells 42 (0, 0))) (u : Value) : impl_allGaps.Kp w (w.setCell ⟨g, 0, none⟩ u) := by
 refine ⟨by simp, fun i cs t _ ht hi => ?_⟩
 have hne : i ≠ g := by
  rintro rfl
  rw [hi] at h
  simp at h
  exact ht h.2
 exact (Below.heap_setCell w ⟨g, 0, none⟩ u i hne).trans hi
theorem impl_allGaps.Kp.row {w w1 : World} {base : Nat} {u : Value} {l : List Int} (h : impl_allGaps.Kp w w1) (hu : Kd.R (Kd.int .i64) 3 w base (fun _ => True) u l) : Kd.R (Kd.int .i64) 3 w1 base (fun _ => True) u l := by
 refine Kd.R_mono (Kd.R_move (Kd.R_bound hu) ?_) (fun _ _ => trivial)
 rintro k ⟨_, _, _, q, hq, cells, hc⟩
 have : q = 3 := by simpa [Kd.int, Kd.scalar] using hq
 subst this
 rw [h.2 k cells _ (by decide) (by decide) hc, hc]
def impl_allGaps.Is (w0 W : World) (gt : Nat) (v : Value) (L : List (List Int)) : Prop :=
 W.heap[gt]? = some (.cells #[v] 42 (0, 0)) ∧ w0.heap.size ≤ gt ∧ Kd.S (Kd.slice 3 (Kd.int .i64)) 24 W w0.heap.size (fun _ => True) v L
theorem impl_allGaps.Is.below {w0 W W1 : World} {gt : Nat} {v : Value} {L : List (List Int)} (h : impl_allGaps.Is w0 W gt v L) (hw : Below W.heap.size W W1) : impl_allGaps.Is w0 W1 gt v L := by
 obtain ⟨h2, h4, h5⟩ := h
 exact ⟨(hw.block _ (blk_lt h2)).trans h2, h4, Kd.S_below h5 hw⟩
def impl_allGaps.T2 : Bool × List (List Nat × List Nat) := (true, [([], []), ([], []), ([1], [1]), ([2], [2]), ([0, 3, 2], [0, 3]), ([4, 4, 0, 1, 2, 3, 4], [4])])
def impl_allGaps.B2 : List Nat := [0, 0, 2, 6, 15, 31]
theorem impl_allGaps.tab2 : rtab .any (opsOf Tryz.f68 0) = impl_allGaps.T2 := by kernel_rfl
theorem impl_allGaps.bits2 : waitsOk impl_allGaps.T2.2 impl_allGaps.B2 = true := by kernel_rfl
def impl_allGaps.T5 : Bool × List (List Nat × List Nat) := (true, [([], []), ([], []), ([1], [1]), ([], []), ([3], [3]), ([2, 4, 2], [2, 4]), ([], []), ([0, 5, 6, 5], [0, 5, 6])])
def impl_allGaps.B5 : List Nat := [0, 0, 2, 0, 8, 30, 0, 127]
theorem impl_allGaps.tab5 : rtab .any (opsOf Tryz.f77 5) = impl_allGaps.T5 := by kernel_rfl
theorem impl_allGaps.bits5 : waitsOk impl_allGaps.T5.2 impl_allGaps.B5 = true := by kernel_rfl
set_option maxHeartbeats 8000000 in
set_option maxRecDepth 100000 in
theorem impl_allGaps.each (k : Nat) (l t : List Int) (L : List (List Int)) (gt : Nat) (u v : Value) (w0 w : World) (hr : impl_reversed.f k l = some t) (hL : L.length < 1000000000000) (hI : impl_allGaps.Is w0 w gt v L) (hU : Kd.R (Kd.int .i64) 3 w w0.heap.size (fun _ => True) u l) (hB : Below w0.heap.size w0 w) :
  Calls Tryz.prog 68 #[u, .pointer (some ⟨gt, 0, none⟩)] w fun e w' => e = .returned (.tuple #[]) ∧ ∃ v', impl_allGaps.Is w0 w' gt v' (L ++ [t]) ∧ Below w0.heap.size w0 w' ∧ impl_allGaps.Kp w w' := by
 obtain ⟨A, c, rfl⟩ := Kd.R_slice hU
 have CO := Aside0.mk (show w.cell? ⟨gt, 0, none⟩ = some v from (blk_cell hI.1 0).trans rfl)
 have HI := Aside0.mk hI
 have HU := Aside0.mk hU
 have HB := Aside0.mk hB
 have HK := Aside0.mk (impl_allGaps.Kp.refl w)
 have HL := Aside0.mk hL
 have A3 := Aside0.mk hr
 clear hI hU hB hL hr
 go_enter Tryz.func68, Tryz.ntmps68
 try go_wp2
 refine start_ (n := 6) (S := fun w' => w'.cell? ⟨gt, 0, none⟩ = some v) (ds := [5]) #[false, false, false, false, false, false] (by kernel_rfl) rfl rfl (pw_cell_below (below_drew1 (Below.refl _ _)) CO.out) (fun hHeld => ?_); refine with_tabW impl_allGaps.tab2 impl_allGaps.bits2 (fun HT_ HW_ => ?_)
 have n0_ := Aside0.mk (impl_allGaps.Is.below HI.out (below_drew1 (Below.refl _ _)))
 have n1_ := Aside0.mk (below_drew1 HB.out)
 have n2_ := Aside0.mk (Kd.R_drew HU.out)
 have n3_ := Aside0.mk (impl_allGaps.Kp.trans HK.out (impl_allGaps.Kp.below (below_drew1 (Below.refl _ _))))
 clear HI HB HU HK CO
 have HI := n0_
 have HB := n1_
 have HU := n2_
 have HK := n3_
 clear n0_ n1_ n2_ n3_
 generalize World.drew _ = w4 at HI HB HU HK hHeld ⊢
 refine pure_ (i := 1) (N := some 4) (v := ?_) (a' := ?_) #[false, true, false, false, false, false] rfl rfl (any_of HT_.out (by kernel_rfl)) (fun _ _ _ h => h) (Or.inl ⟨by rfl, ?_⟩) ?_ ?_
 rotate_left
 ·intro w'
  go_simp
  with_reducible rfl
 rotate_left
 ·simp only [Act.put, List.setIfInBounds_toArray, List.set_cons_zero, List.set_cons_succ, i64_w, i32_w]
  rfl
 refine take_ (i := 0) (N := some 3) (v := ?_) (a' := ?_) #[true, true, false, false, false, false] rfl rfl (take_ofW HT_.out HW_.out (by kernel_rfl)) (fun _ _ _ h => h) (Or.inl ⟨by rfl, ?_⟩) hHeld ?_ ?_
 rotate_left
 ·intro w' s0
  go_simp
  with_reducible rfl
 rotate_left
 ·simp only [Act.put, List.setIfInBounds_toArray, List.set_cons_zero, List.set_cons_succ, i64_w, i32_w]
  rfl
 refine one_ (i := 2) (N := some 5) #[true, true, true, false, false, false] rfl rfl (one_of HT_.out (by kernel_rfl)) (by decide) (fun K hK => ?_)
 refine goes_ Tryz.func40 (by kernel_rfl) rfl #[.slice A l.length c] (by rfl) rfl rfl (by (try simp only [List.map_toArray, List.map_cons, List.map_nil]); first | done | rfl) ?_
 refine (impl_reversed.calls k A c l t _ (Kd.R_reads' HU.out).2.2 (Kd.R_reads' HU.out).2.1 A3.out).mono ?_
 rintro e w5 ⟨vc, rfl, hoc, hbc⟩
 refine ⟨_, rfl, ?_⟩
 obtain ⟨Ac, cc, rfl⟩ := Kd.R_slice hoc
 have hHeld := pw_cell_below hbc hHeld
 have HS := Aside0.mk (Kd.S_elder' HI.out.2.2 (Kd.R_base hoc) hbc)
 have HC := Aside0.mk (Kd.R_lower hoc HB.out.size)
 have n0_ := Aside0.mk (impl_allGaps.Is.below HI.out hbc)
 have n1_ := Aside0.mk (below_step HB.out hbc)
 have n3_ := Aside0.mk (impl_allGaps.Kp.trans HK.out (impl_allGaps.Kp.below hbc))
 clear HI HB HK HU hoc hbc
 have HI := n0_
 have HB := n1_
 have HK := n3_
 clear n0_ n1_ n3_
 refine hK.out _ _ hHeld (fun hHeld => ?_)
 clear hK K
 refine norm_ (a' := ?_) ?_ ?_
 rotate_left
 ·show Act.put _ (some 5) _ = _
  simp only [Act.put, List.setIfInBounds_toArray, List.set_cons_zero, List.set_cons_succ, i64_w, i32_w]
  rfl
 refine one_ (i := 3) (N := some 6) #[true, true, true, true, false, false] rfl rfl (one_of HT_.out (by kernel_rfl)) (by decide) (fun K hK => ?_)
 refine value_ (w1 := ?_) (v := ?_) (by rfl) rfl ?_ ?_
 rotate_left 2
 ·go_simp
  constructor
  ·rfl
  ·rfl
 refine hK.out _ _ (pw_cell_below (below_alloc (Below.refl _ _) _) hHeld) (fun hHeld2 => ?_)
 clear hK K
 refine norm_ (a' := ?_) ?_ ?_
 rotate_left
 ·show Act.put _ (some 6) _ = _
  simp only [Act.put, List.setIfInBounds_toArray, List.set_cons_zero, List.set_cons_succ, i64_w, i32_w]
  rfl
 refine one_ (i := 4) (N := some 7) #[true, true, true, true, true, false] rfl rfl (one_of HT_.out (by kernel_rfl)) (by decide) (fun K hK => ?_)
 refine Kd.S_append_step (Kd.slice 3 (Kd.int .i64)) (w0 := w0) w0.heap.size (by rfl) (.tmp 3) (.tmp 6) 42 24 (.slice none 0 0) 24 rfl Tryz.underlying42 info24 rfl (by decide) (by omega) v L t [.slice Ac t.length cc] (fun _ => True) (fun k_ => some k_ = (.slice Ac t.length cc : Value).ownBlock) rfl rfl ?aP ?aK ?aF ?aO ?aB ?aS ?aL ?_
 case aP => exact Kd.M_row (Kd.R_tight rfl HC.out)
 case aK => exact fun k_ hk_ => ⟨trivial, (Kd.R_apart' HC.out (Kd.S_typed HI.out.2.2) (by decide)).1 k_ hk_.symm |>.2⟩
 case aF => exact fun _ _ => trivial
 case aO => exact HS.out
 case aB => exact HB.out
 case aS => exact HB.out.size
 case aL => have := HL.out; omega
 intro v1 w6 ho hb hg hat
 obtain ⟨Av1, cv1, ev1⟩ := Kd.S_slice ho
 obtain ⟨m1, em1⟩ : ∃ m1, (L ++ [t]).length = m1 := ⟨_, rfl⟩
 rw [em1] at ev1
 subst ev1
 clear em1
 obtain ⟨i2, i4, i5⟩ := HI.out
 have j2 : w6.heap[gt]? = some (Obj.cells #[v] 42 (0, 0)) := blk_grown i2 hg (fun e_ => Kd.S_ne i5 i2 (by decide) e_)
 have KG := Aside0.mk (impl_allGaps.Kp.grown hg (Kd.S_typed i5))
 have HO := Aside0.mk ho
 have HB6 := Aside0.mk hb
 have J2 := Aside0.mk j2
 have I4 := Aside0.mk i4
 have hHeld3 : w6.cell? ⟨gt, 0, none⟩ = some v := (blk_cell j2 0).trans rfl
 have hf6 := blk_frozen j2 0
 clear ho hb hg hat i2 i4 i5 j2 hHeld hHeld2 HS HC
 refine hK.out _ _ hHeld3 (fun _ => ?_)
 clear hK K
 refine norm_ (a' := ?_) ?_ ?_
 rotate_left
 ·show Act.put _ (some 7) _ = _
  simp only [Act.put, List.setIfInBounds_toArray, List.set_cons_zero, List.set_cons_succ, i64_w, i32_w]
  rfl
 refine last_ (i := 5) (N := none) #[true, true, true, true, true, true] rfl rfl (one_of HT_.out (by kernel_rfl)) (by decide) (fun K hK => ?_)
 refine skip_ (w1 := ?_) (by rfl) rfl ?_ ?_
 rotate_left
 ·go_simp
  rfl
 refine hK.out _ _ ?_
 clear hK K
 refine done_ (done_of HT_.out (by kernel_rfl)) ?_
 try go_wp2
 first | go_end0 | ((try simp only [Exit.inBlock, Exit.then]); refine bodyPost_ret (results_none rfl _ _ _) rfl ?_) | skip
 have hfin : impl_allGaps.Is w0 (w6.setCell ⟨gt, 0, none⟩ (.slice Av1 m1 cv1)) gt (.slice Av1 m1 cv1) (L ++ [t]) ∧ Below w0.heap.size w0 (w6.setCell ⟨gt, 0, none⟩ (.slice Av1 m1 cv1)) ∧ impl_allGaps.Kp w (w6.setCell ⟨gt, 0, none⟩ (.slice Av1 m1 cv1)) :=
  ⟨⟨by simpa using blk_set J2.out 0 (.slice Av1 m1 cv1), I4.out, Kd.S_set HO.out J2.out (by decide) 0 (.slice Av1 m1 cv1)⟩, below_set HB6.out I4.out, impl_allGaps.Kp.trans (impl_allGaps.Kp.trans HK.out KG.out) (impl_allGaps.Kp.set J2.out (.slice Av1 m1 cv1))⟩
 exact ⟨rfl, _, hfin⟩
def impl_allGaps.on (n m : Int) : Nat → Bool → List Int → Int → List (List Int) → Option (List (List Int))
 | 0, _, _, _, _ => none
 | k + 1, false, l, d, L =>
  if (l.length : Int) = n then (impl_reversed.f k l).bind fun t => if L.length < 1000000000000 then some (L ++ [t]) else none
  else impl_allGaps.on n m k true l d L
 | k + 1, true, l, d, L =>
  if d ≤ m then
   if l.length < 1000000000000 then (impl_allGaps.on n m k false (l ++ [d]) d L).bind fun L1 => impl_allGaps.on n m k true l (wrap64 (d + 1)) L1 else none
  else some L
theorem impl_allGaps.on_mono (n m : Int) : ∀ k o l d L, LeO (impl_allGaps.on n m k o l d L) (impl_allGaps.on n m (k + 1) o l d L)
 | 0, _, _, _, _ => fun r h => by simp [impl_allGaps.on] at h
 | k + 1, false, l, d, L => by
  rw [impl_allGaps.on, impl_allGaps.on]
  exact LeO.ite (LeO.bind (impl_reversed.mono _ _) (fun _ => LeO.refl _)) (impl_allGaps.on_mono n m k _ _ _ _)
 | k + 1, true, l, d, L => by
  rw [impl_allGaps.on, impl_allGaps.on]
  exact LeO.ite (LeO.ite (LeO.bind (impl_allGaps.on_mono n m k _ _ _ _) (fun _ => impl_allGaps.on_mono n m k _ _ _ _)) (LeO.none _)) (LeO.refl _)
def impl_allGaps.fe (gt : Nat) : Value := .func (.func 68) #[] #[.pointer (some ⟨gt, 0, none⟩)]
def impl_allGaps.fo (gn ge gm gf : Nat) : Value := .func (.func 77) #[] #[.pointer (some ⟨gn, 0, none⟩), .pointer (some ⟨ge, 0, none⟩), .pointer (some ⟨gm, 0, none⟩), .pointer (some ⟨gf, 0, none⟩)]
def impl_allGaps.St (W : World) (n m : Int) (gn ge gm gf gt : Nat) : Prop :=
 W.heap[gn]? = some (.cells #[.int .i64 n] 3 (0, 0)) ∧ W.heap[ge]? = some (.cells #[.func (.func 68) #[] #[.pointer (some ⟨gt, 0, none⟩)]] 74 (0, 0)) ∧ W.heap[gm]? = some (.cells #[.int .i64 m] 3 (0, 0)) ∧
  W.heap[gf]? = some (.cells #[.func (.func 77) #[] #[.pointer (some ⟨gn, 0, none⟩), .pointer (some ⟨ge, 0, none⟩), .pointer (some ⟨gm, 0, none⟩), .pointer (some ⟨gf, 0, none⟩)]] 80 (0, 0))
theorem impl_allGaps.St.kp {W W1 : World} {n m : Int} {gn ge gm gf gt : Nat} (h : impl_allGaps.St W n m gn ge gm gf gt) (k : impl_allGaps.Kp W W1) : impl_allGaps.St W1 n m gn ge gm gf gt :=
 ⟨k.2 _ _ _ (by decide) (by decide) h.1, k.2 _ _ _ (by decide) (by decide) h.2.1, k.2 _ _ _ (by decide) (by decide) h.2.2.1, k.2 _ _ _ (by decide) (by decide) h.2.2.2⟩
theorem impl_allGaps.app (W : World) (base : Nat) (l : List Int) (d : Int) (A : Option Addr) (c g : Nat) (hu : Kd.R (Kd.int .i64) 3 W base (fun _ => True) (.slice A l.length c) l) (hg : W.cell? ⟨g, 0, none⟩ = some (.int .i64 d)) (hbase : base ≤ W.heap.size) (hl : l.length < 1000000000000) :
  ∃ v' w', (Builtin.append_ #[24, 24] 24 #[.slice A l.length c, .slice (some ⟨g, 0, none⟩) 1 1]).run Tryz.prog W = .ok v' w' ∧ Kd.R (Kd.int .i64) 3 w' base (fun _ => True) v' (l ++ [d]) ∧ Below base W w' := by
 obtain ⟨i, hi, hz⟩ := Option.map_eq_some_iff.1 info3
 obtain ⟨hz1, hz2, hz3⟩ : i.zero = some (.int .i64 0) ∧ i.size = 1 ∧ i.bytes = 8 := by simpa [Prod.mk.injEq] using hz
 have hown := Kd.own_of_R hu
 have hnews : ∀ j x, ([Value.int .i64 d] : List Value)[j]? = some x → W.cell? ((⟨g, 0, none⟩ : Addr).add j) = some x := by
  intro j x hj
  have h0 : j = 0 := by
   have := (List.getElem?_eq_some_iff.1 hj).1
   simpa using this
  subst h0
  rw [add_plain, hg]
  simpa using hj
 obtain ⟨v', w', hrun, r1, r2, _⟩ := run_append_own (P := Tryz.prog) W base 24 24 3 i (.int .i64 0) 1 8 Tryz.underlying24 hi hz1 hz2 hz3 rfl (by decide) _ _ _ hown ⟨g, 0, none⟩ 1 1 [.int .i64 d] rfl hnews (by intro u hu; simp at hu; subst hu; rfl) (by simp only [maxLen]; omega) (by omega) hbase
 refine ⟨v', w', hrun, Kd.R_of_own (enc := Value.int .i64) (h1 := fun _ => rfl) ?_ (fun _ _ => trivial), (Below.refl base W).grown r2 hbase (fun k hk => Kd.R_base hu k hk)⟩
 rw [List.length_append, List.length_singleton]
 have e : encs (Value.int .i64) (l ++ [d]) = encs (Value.int .i64) l ++ [.int .i64 d] := by simp [encs]
 rw [e]
 exact r1
theorem impl_allGaps.app_run {P : Program} {ev : Operand → Value} {o : Oper} (s x : Operand) (t : TypeId) {v1 v2 v' : Value} {W w' : World} (hop : o.op = .call { callee := .builtin .append, args := #[s, x], argTypes := #[t, t] }) (hs : ev s = v1) (hx : ev x = v2)
  (hrun : (Builtin.append_ #[t, t] o.type #[v1, v2]).run P W = .ok v' w') : (execOp ev o).run P W = .ok (.value v') w' := by
 simp [execOp, hop, resolve, invoke, builtin, hs, hx, hrun, Result.andThen]
set_option maxHeartbeats 8000000 in
set_option maxRecDepth 100000 in
theorem impl_allGaps.on_calls (n m : Int) : ∀ (k : Nat) (l : List Int) (d0 : Int) (L r : List (List Int)) (gn ge gm gf gt : Nat) (u v : Value) (w0 w : World), impl_allGaps.on n m k false l d0 L = some r → impl_allGaps.St w n m gn ge gm gf gt → impl_allGaps.Is w0 w gt v L → Kd.R (Kd.int .i64) 3 w w0.heap.size (fun _ => True) u l → Below w0.heap.size w0 w →
  Calls Tryz.prog 77 #[u, .int .i64 d0, .pointer (some ⟨gn, 0, none⟩), .pointer (some ⟨ge, 0, none⟩), .pointer (some ⟨gm, 0, none⟩), .pointer (some ⟨gf, 0, none⟩)] w fun e w' => e = .returned (.tuple #[]) ∧ ∃ v', impl_allGaps.Is w0 w' gt v' r ∧ Below w0.heap.size w0 w' ∧ impl_allGaps.Kp w w' := by
 intro k
 induction k using Nat.strongRecOn with
 | _ k ih =>
 intro l d0 L r gn ge gm gf gt u v w0 w h hS hI hU hB
 cases k with
 | zero => exact absurd h (by simp [impl_allGaps.on])
 | succ k =>
 have IH := Aside0.mk ih
 clear ih
 obtain ⟨A, c, rfl⟩ := Kd.R_slice hU
 have cn : w.cell? ⟨gn, 0, none⟩ = some (.int .i64 n) := (blk_cell hS.1 0).trans rfl
 have ce : w.cell? ⟨ge, 0, none⟩ = some (.func (.func 68) #[] #[.pointer (some ⟨gt, 0, none⟩)]) := (blk_cell hS.2.1 0).trans rfl
 have HS0 := Aside0.mk hS
 have HI := Aside0.mk hI
 have HU := Aside0.mk hU
 have HB := Aside0.mk hB
 have HK := Aside0.mk (impl_allGaps.Kp.refl w)
 clear hI hU hB hS
 simp only [impl_allGaps.on] at h
 by_cases q1 : (l.length : Int) = n
 case pos =>
  rw [if_pos q1] at h
  have b1 : ((l.length : Int) == n) = true := beq_iff_eq.mpr q1
  clear q1
  obtain ⟨t, ht, h2⟩ := Option.bind_eq_some_iff.1 h
  by_cases q3 : L.length < 1000000000000
  case neg => rw [if_neg q3] at h2; exact absurd h2 (by simp)
  case pos =>
   rw [if_pos q3] at h2
   obtain rfl := Option.some.inj h2
   have he := impl_allGaps.each k l t L gt (.slice A l.length c) v w0 w ht q3 HI.out HU.out HB.out
   change Calls Tryz.prog 68 _ _ _ at he
   clear ht h h2 q3
   go_enter Tryz.func77, Tryz.ntmps77
   go_wp2_with (go_at_call 68; refine he.mono ?_; rintro e w2 ⟨rfl, v', hi2, hb2, hk2⟩)
   first | go_end0 | ((try simp only [Exit.inBlock, Exit.then]); refine bodyPost_ret (results_none rfl _ _ _) rfl ?_)
   first | exact ⟨rfl, v', hi2, hb2, hk2⟩ | exact ⟨rfl, ⟨v', hi2⟩, hb2, hk2⟩
 case neg =>
  rw [if_neg q1] at h
  have b1 : ((l.length : Int) == n) = false := beq_eq_false_iff_ne.mpr q1
  clear q1
  have H := Aside0.mk h
  clear h
  go_enter Tryz.func77, Tryz.ntmps77
  go_wp2
  go_loopg [8] k (fun kq v8 w' => ∃ (d : Int) (L1 : List (List Int)) (v1 : Value), v8 = .int .i64 d ∧ w'.cell? ⟨gm, 0, none⟩ = some (.int .i64 m) ∧ Aside0 (impl_allGaps.on n m kq true l d L1 = some r) ∧ Aside0 (kq ≤ k) ∧ Aside0 (impl_allGaps.St w' n m gn ge gm gf gt) ∧ Aside0 (impl_allGaps.Is w0 w' gt v1 L1) ∧ Aside0 (Kd.R (Kd.int .i64) 3 w' w0.heap.size (fun _ => True) (.slice A l.length c) l) ∧ Aside0 (Below w0.heap.size w0 w') ∧ Aside0 (impl_allGaps.Kp w w'))
  case atStart => exact ⟨d0, L, v, rfl, (blk_cell HS0.out.2.2.1 0).trans rfl, H, ⟨Nat.le_refl _⟩, HS0, HI, HU, HB, HK⟩
  case round =>
   clear H HI HU HB HK HS0 cn ce b1
   obtain ⟨d, L1, v1, rfl, cm, HA, HK1, HS0, HI, HU, HB, HK⟩ := hrel
   cases gk with
   | zero => exact absurd HA.out (by simp [impl_allGaps.on])
   | succ k1 =>
    have H1 := HA.out
    clear HA
    simp only [impl_allGaps.on] at H1
    by_cases p1 : d ≤ m
    case pos =>
     rw [if_pos p1] at H1
     have p1d : decide (d ≤ m) = true := decide_eq_true p1
     by_cases p2 : l.length < 1000000000000
     case neg => rw [if_neg p2] at H1; exact absurd H1 (by simp)
     case pos =>
       rw [if_pos p2] at H1
       have LM := Aside0.mk p2
       obtain ⟨L2, hu, H2⟩ := Option.bind_eq_some_iff.1 H1
       have A1 := Aside0.mk hu
       have A2 := Aside0.mk H2
       have A3 := Aside0.mk (show slices_Clone_int_int.f l = some l by unfold slices_Clone_int_int.f; exact if_pos (by omega))
       clear hu H1 H2 p1 p2
       go_wp2
       have CF := Aside0.mk (show wr.cell? ⟨gf, 0, none⟩ = some (.func (.func 77) #[] #[.pointer (some ⟨gn, 0, none⟩), .pointer (some ⟨ge, 0, none⟩), .pointer (some ⟨gm, 0, none⟩), .pointer (some ⟨gf, 0, none⟩)]) from (blk_cell HS0.out.2.2.2 0).trans rfl)
       refine start_ (n := 8) (S := fun w' => w'.cell? ⟨gf, 0, none⟩ = some (.func (.func 77) #[] #[.pointer (some ⟨gn, 0, none⟩), .pointer (some ⟨ge, 0, none⟩), .pointer (some ⟨gm, 0, none⟩), .pointer (some ⟨gf, 0, none⟩)])) (ds := [7]) #[false, false, false, false, false, false, false, false] (by kernel_rfl) rfl rfl (pw_cell_below (below_drew1 (Below.refl _ _)) CF.out) (fun hHeld => ?_); refine with_tabW impl_allGaps.tab5 impl_allGaps.bits5 (fun HT_ HW_ => ?_)
       have n0_ := Aside0.mk (impl_allGaps.Is.below HI.out (below_drew1 (Below.refl _ _)))
       have n1_ := Aside0.mk (below_drew1 HB.out)
       have n2_ := Aside0.mk (Kd.R_drew HU.out)
       have n3_ := Aside0.mk (impl_allGaps.Kp.trans HK.out (impl_allGaps.Kp.below (below_drew1 (Below.refl _ _))))
       have n4_ := Aside0.mk (impl_allGaps.St.kp HS0.out (impl_allGaps.Kp.below (below_drew1 (Below.refl _ _))))
       clear HI HB HU HK CF HS0 cm
       have HI := n0_
       have HB := n1_
       have HU := n2_
       have HK := n3_
       have HS0 := n4_
       clear n0_ n1_ n2_ n3_ n4_
       generalize World.drew _ = w4 at HI HB HU HK HS0 hHeld ⊢
       refine pure_ (i := 1) (N := some 23) (v := ?_) (a' := ?_) #[false, true, false, false, false, false, false, false] rfl rfl (any_of HT_.out (by kernel_rfl)) (fun _ _ _ h => h) (Or.inl ⟨by rfl, ?_⟩) ?_ ?_
       rotate_left
       ·intro w'
        go_simp
        with_reducible rfl
       rotate_left
       ·simp only [Act.put, List.setIfInBounds_toArray, List.set_cons_zero, List.set_cons_succ, i64_w, i32_w]
        rfl
       refine pure_ (i := 3) (N := some 25) (v := ?_) (a' := ?_) #[false, true, false, true, false, false, false, false] rfl rfl (any_of HT_.out (by kernel_rfl)) (fun _ _ _ h => h) (Or.inl ⟨by rfl, ?_⟩) ?_ ?_
       rotate_left
       ·intro w'
        go_simp
        with_reducible rfl
       rotate_left
       ·simp only [Act.put, List.setIfInBounds_toArray, List.set_cons_zero, List.set_cons_succ, i64_w, i32_w]
        rfl
       refine pure_ (i := 6) (N := some 28) (v := ?_) (a' := ?_) #[false, true, false, true, false, false, true, false] rfl rfl (any_of HT_.out (by kernel_rfl)) (fun _ _ _ h => h) (Or.inl ⟨by rfl, ?_⟩) ?_ ?_
       rotate_left
       ·intro w'
        go_simp
        with_reducible rfl
       rotate_left
       ·simp only [Act.put, List.setIfInBounds_toArray, List.set_cons_zero, List.set_cons_succ, i64_w, i32_w]
        rfl
       refine take_ (i := 0) (N := some 22) (v := ?_) (a' := ?_) #[true, true, false, true, false, false, true, false] rfl rfl (take_ofW HT_.out HW_.out (by kernel_rfl)) (fun _ _ _ h => h) (Or.inl ⟨by rfl, ?_⟩) hHeld ?_ ?_
       rotate_left
       ·intro w' s0
        go_simp
        with_reducible rfl
       rotate_left
       ·simp only [Act.put, List.setIfInBounds_toArray, List.set_cons_zero, List.set_cons_succ, i64_w, i32_w]
        rfl
       refine two_ (i := 2) (j := 4) (Ni := some 24) (Nj := some 26) #[true, true, true, true, false, false, true, false] #[true, true, false, true, true, false, true, false] rfl rfl rfl rfl (two_of HT_.out (by kernel_rfl)) (by decide) (by decide) (fun K hK => ?b1) (fun K hK => ?b2)
       case' b1 =>
        refine goes_ Tryz.func64 (by kernel_rfl) rfl #[.slice A l.length c] (by rfl) rfl rfl (by (try simp only [List.map_toArray, List.map_cons, List.map_nil]); first | done | rfl) ?_
        refine (slices_Clone_int_int.calls A c l l _ (Kd.R_reads' HU.out).2.2 (Kd.R_reads' HU.out).2.1 A3.out).mono ?_
        rintro e w5 ⟨vc, rfl, hoc, hbc⟩
        refine ⟨_, rfl, ?_⟩
        obtain ⟨Ac, cc, rfl⟩ := Kd.R_slice hoc
        have hHeld1 := pw_cell_below hbc hHeld
        refine hK.out _ _ hHeld1 (fun _ => ?_)
        clear hK K
        refine norm_ (a' := ?_) ?_ ?_
        rotate_left
        ·show Act.put _ (some 24) _ = _
         simp only [Act.put, List.setIfInBounds_toArray, List.set_cons_zero, List.set_cons_succ, i64_w, i32_w]
         rfl
        refine one_ (i := 4) (N := some 26) #[true, true, true, true, true, false, true, false] rfl rfl (one_of HT_.out (by kernel_rfl)) (by decide) (fun K hK => ?_)
        refine value_ (w1 := ?_) (v := ?_) (by rfl) rfl ?_ ?_
        rotate_left 2
        ·go_simp
         constructor
         ·rfl
         ·rfl
        refine hK.out _ _ (pw_cell_below (below_alloc (Below.refl _ _) _) hHeld1) (fun _ => ?_)
        clear hK K
        refine norm_ (a' := ?_) ?_ ?_
        rotate_left
        ·show Act.put _ (some 26) _ = _
         simp only [Act.put, List.setIfInBounds_toArray, List.set_cons_zero, List.set_cons_succ, i64_w, i32_w]
         rfl
        have HC := Aside0.mk (Kd.R_alloc hoc (.cells #[.int .i64 d] 3))
        have HBC := Aside0.mk (below_alloc hbc (.cells #[.int .i64 d] 3))
        have hcl : (w5.alloc (.cells #[.int .i64 d] 3)).cell? ⟨w5.heap.size, 0, none⟩ = some (.int .i64 d) := by rw [World.cell?_alloc_at _ _ _ _ rfl]; rfl
        have hH5 := pw_cell_below (below_alloc (Below.refl w5.heap.size w5) (.cells #[.int .i64 d] 3)) hHeld1
        clear hoc hbc hHeld1
        generalize w5.alloc (.cells #[.int .i64 d] 3) = W5 at HC HBC hcl hH5 ⊢
        generalize w5.heap.size = gd at hcl ⊢
       case' b2 =>
        refine value_ (w1 := ?_) (v := ?_) (by rfl) rfl ?_ ?_
        rotate_left 2
        ·go_simp
         constructor
         ·rfl
         ·rfl
        have hHeld1 := pw_cell_below (below_alloc (Below.refl w4.heap.size w4) (.cells #[.int .i64 d] 3)) hHeld
        refine hK.out _ _ hHeld1 (fun _ => ?_)
        clear hK K
        refine norm_ (a' := ?_) ?_ ?_
        rotate_left
        ·show Act.put _ (some 26) _ = _
         simp only [Act.put, List.setIfInBounds_toArray, List.set_cons_zero, List.set_cons_succ, i64_w, i32_w]
         rfl
        refine one_ (i := 2) (N := some 24) #[true, true, true, true, true, false, true, false] rfl rfl (one_of HT_.out (by kernel_rfl)) (by decide) (fun K hK => ?_)
        refine goes_ Tryz.func64 (by kernel_rfl) rfl #[.slice A l.length c] (by rfl) rfl rfl (by (try simp only [List.map_toArray, List.map_cons, List.map_nil]); first | done | rfl) ?_
        refine (slices_Clone_int_int.calls A c l l _ (Kd.C_alloc (Kd.R_reads' HU.out).2.2 _) (Kd.R_reads' HU.out).2.1 A3.out).mono ?_
        rintro e w5 ⟨vc, rfl, hoc, hbc⟩
        refine ⟨_, rfl, ?_⟩
        obtain ⟨Ac, cc, rfl⟩ := Kd.R_slice hoc
        have hH5 := pw_cell_below hbc hHeld1
        refine hK.out _ _ hH5 (fun _ => ?_)
        clear hK K
        refine norm_ (a' := ?_) ?_ ?_
        rotate_left
        ·show Act.put _ (some 24) _ = _
         simp only [Act.put, List.setIfInBounds_toArray, List.set_cons_zero, List.set_cons_succ, i64_w, i32_w]
         rfl
        have HBC := Aside0.mk (below_step (below_alloc (Below.refl w4.heap.size w4) (.cells #[.int .i64 d] 3)) hbc)
        have HC := Aside0.mk (Kd.R_lower hoc (show w4.heap.size ≤ (w4.alloc (.cells #[.int .i64 d] 3)).heap.size by simp))
        have hcl0 : (w4.alloc (.cells #[.int .i64 d] 3)).cell? ⟨w4.heap.size, 0, none⟩ = some (.int .i64 d) := by rw [World.cell?_alloc_at _ _ _ _ rfl]; rfl
        have hcl := pw_cell_below hbc hcl0
        clear hoc hbc hHeld1 hcl0
        rename World => W5
        obtain ⟨gd, hgd⟩ : ∃ gd, gd = w4.heap.size := ⟨_, rfl⟩
        rw [← hgd] at hcl
        simp only [← hgd]
        clear hgd
       all_goals
        obtain ⟨v2, w6, hrun, ho, hb0⟩ := impl_allGaps.app W5 w4.heap.size l d Ac cc gd HC.out hcl HBC.out.size LM.out
        have hb := HBC.out.trans hb0
        refine one_ (i := 5) (N := some 27) #[true, true, true, true, true, true, true, false] rfl rfl (one_of HT_.out (by kernel_rfl)) (by decide) (fun K hK => ?_)
        refine value_ (w1 := w6) (v := v2) (by rfl) rfl ?_ ?_
        ·exact impl_allGaps.app_run (.tmp 24) (.tmp 26) 24 (by rfl) (by rfl) (by rfl) hrun
        clear hrun hb0 hcl
        have hHeld3 := pw_cell_below hb hHeld
        have n0_ := Aside0.mk (impl_allGaps.Is.below HI.out hb)
        have n1_ := Aside0.mk (below_step HB.out hb)
        have n2_ := Aside0.mk (Kd.R_below HU.out hb)
        have n3_ := Aside0.mk (impl_allGaps.Kp.trans HK.out (impl_allGaps.Kp.below hb))
        have n4_ := Aside0.mk (impl_allGaps.St.kp HS0.out (impl_allGaps.Kp.below hb))
        have HV := Aside0.mk (Kd.R_lower ho HB.out.size)
        clear HI HB HK HU HS0 ho hb hHeld HC HBC hH5
        have HI := n0_
        have HB := n1_
        have HU := n2_
        have HK := n3_
        have HS0 := n4_
        clear n0_ n1_ n2_ n3_ n4_
        refine hK.out _ _ hHeld3 (fun _ => ?_)
        clear hK K
        refine norm_ (a' := ?_) ?_ ?_
        rotate_left
        ·show Act.put _ (some 27) _ = _
         simp only [Act.put, List.setIfInBounds_toArray, List.set_cons_zero, List.set_cons_succ, i64_w, i32_w]
         rfl
        refine last_ (i := 7) (N := some 29) #[true, true, true, true, true, true, true, true] rfl rfl (one_of HT_.out (by kernel_rfl)) (by decide) (fun K hK => ?_)
        refine call_ 77 #[v2, .int .i64 d, .pointer (some ⟨gn, 0, none⟩), .pointer (some ⟨ge, 0, none⟩), .pointer (some ⟨gm, 0, none⟩), .pointer (some ⟨gf, 0, none⟩)] (by rfl) rfl ?_ ?_
        ·go_simp
         first | done | rfl
        refine (IH.out k1 (by have := HK1.out; omega) (l ++ [d]) _ L1 L2 gn ge gm gf gt v2 v1 w0 _ A1.out HS0.out HI.out HV.out HB.out).mono ?_
        rintro e w7 ⟨rfl, v3, hi6, hb6, hk6⟩
        refine ⟨_, rfl, ?_⟩
        refine hK.out _ _ ?_
        clear hK K
        refine norm_ (a' := ?_) ?_ ?_
        rotate_left
        ·show Act.put _ (some 29) _ = _
         simp only [Act.put, List.setIfInBounds_toArray, List.set_cons_zero, List.set_cons_succ, i64_w, i32_w]
         rfl
        have n0_ := Aside0.mk hi6
        have n1_ := Aside0.mk hb6
        have n3_ := Aside0.mk (impl_allGaps.Kp.trans HK.out hk6)
        have n2_ := Aside0.mk (impl_allGaps.Kp.row hk6 HU.out)
        have n4_ := Aside0.mk (impl_allGaps.St.kp HS0.out hk6)
        clear HI HB HK HU HV HS0 hi6 hb6 hk6
        have HI := n0_
        have HB := n1_
        have HK := n3_
        have HU := n2_
        have HS0 := n4_
        clear n0_ n1_ n2_ n3_ n4_
        refine done_ (done_of HT_.out (by kernel_rfl)) ?_
        try go_wp2
        go_roundg k1
        case measure => have := HK1.out; omega
        case rel => exact ⟨_, L2, v3, rfl, (blk_cell HS0.out.2.2.1 0).trans rfl, A2, ⟨by have := HK1.out; omega⟩, HS0, HI, HU, HB, HK⟩
    case neg =>
     rw [if_neg p1] at H1
     have p1d : decide (d ≤ m) = false := decide_eq_false p1
     clear p1
     obtain rfl := Option.some.inj H1
     go_wp2
     first | go_end0 | ((try simp only [Exit.inBlock, Exit.then]); refine bodyPost_ret (results_none rfl _ _ _) rfl ?_)
     first | exact ⟨rfl, v1, HI.out, HB.out, HK.out⟩ | exact ⟨rfl, ⟨v1, HI.out⟩, HB.out, HK.out⟩
theorem impl_allGaps.alloc_old (W : World) (o : Obj) (g : Nat) (hg : g < W.heap.size) : (W.alloc o).heap[g]? = W.heap[g]? := (below_alloc (Below.refl _ _) o : Below W.heap.size W (W.alloc o)).block g hg
theorem impl_allGaps.alloc_at (W : World) (o : Obj) (g : Nat) (hg : g = W.heap.size) : (W.alloc o).heap[g]? = some o := by subst hg; exact heap_alloc_new W o
theorem impl_allGaps.S_empty (W : World) (base : Nat) (hb : base ≤ W.heap.size) : Kd.S (Kd.slice 3 (Kd.int .i64)) 24 (W.alloc (.cells #[] 24)) base (fun _ => True) (.slice (some ⟨W.heap.size, 0, none⟩) 0 0) [] :=
 Kd.S_bare ⟨fun _ _ => trivial, [], own_lit W base 24 .i64 [] hb (by simp), Reps.none _ _⟩
set_option maxHeartbeats 8000000 in
set_option maxRecDepth 100000 in
theorem impl_allGaps.nf (n m d0 : Int) (k : Nat) (L r : List (List Int)) (gt : Nat) (v : Value) (w0 w : World) (h : impl_allGaps.on n m k false [] d0 L = some r) (hI : impl_allGaps.Is w0 w gt v L) (hB : Below w0.heap.size w0 w) :
  Calls Tryz.prog 67 #[.int .i64 n, .int .i64 d0, .int .i64 m, .func (.func 68) #[] #[.pointer (some ⟨gt, 0, none⟩)]] w fun e w' => e = .returned (.tuple #[]) ∧ ∃ v', impl_allGaps.Is w0 w' gt v' r ∧ Below w0.heap.size w0 w' := by
 have hmf : ∀ (fn : Fn) (first cap : Array Value) (w : World), (Instr.makeFunc fn first cap).run Tryz.prog w = .ok (.func fn first cap) w := fun _ _ _ _ => rfl
 have hsf : ∀ (b : Addr) (fn : Fn) (first cap : Array Value) (md : Mode) (W : World), (store b (.func fn first cap) md).run Tryz.prog W = stored Tryz.prog W b (.func fn first cap) md := fun b _ _ _ md W => run_store Tryz.prog W b _ md rfl
 have H := Aside0.mk h
 have HI := Aside0.mk hI
 have HB := Aside0.mk hB
 clear h hI hB
 have key : ∀ W1 W2 W3 W4 : World, W1 = w.alloc (.cells #[.int .i64 n] 3) → W2 = W1.alloc (.cells #[.int .i64 m] 3) → W3 = W2.alloc (.cells #[.func (.func 68) #[] #[.pointer (some ⟨gt, 0, none⟩)]] 74) →
   W4 = W3.alloc (.cells #[.func (.func 77) #[] #[.pointer (some ⟨w.heap.size, 0, none⟩), .pointer (some ⟨w.heap.size + 1 + 1, 0, none⟩), .pointer (some ⟨w.heap.size + 1, 0, none⟩), .pointer (some ⟨w.heap.size + 1 + 1 + 1, 0, none⟩)]] 80) →
   Calls Tryz.prog 77 #[.slice none 0 0, .int .i64 d0, .pointer (some ⟨w.heap.size, 0, none⟩), .pointer (some ⟨w.heap.size + 1 + 1, 0, none⟩), .pointer (some ⟨w.heap.size + 1, 0, none⟩), .pointer (some ⟨w.heap.size + 1 + 1 + 1, 0, none⟩)] W4 fun e w' => e = .returned (.tuple #[]) ∧ ∃ v', impl_allGaps.Is w0 w' gt v' r ∧ Below w0.heap.size w0 w' := by
  intro W1 W2 W3 W4 e1 e2 e3 e4
  have s1 : W1.heap.size = w.heap.size + 1 := by rw [e1]; simp
  have s2 : W2.heap.size = w.heap.size + 1 + 1 := by rw [e2]; simp [s1]
  have s3 : W3.heap.size = w.heap.size + 1 + 1 + 1 := by rw [e3]; simp [s2]
  have hb : Below w.heap.size w W4 := by rw [e4, e3, e2, e1]; exact below_alloc (below_alloc (below_alloc (below_alloc (Below.refl _ _) _) _) _) _
  have f4 : W4.heap[w.heap.size + 1 + 1 + 1]? = _ := (congrArg (fun W : World => W.heap[w.heap.size + 1 + 1 + 1]?) e4).trans (impl_allGaps.alloc_at W3 _ _ s3.symm)
  have f3 : W4.heap[w.heap.size + 1 + 1]? = _ := (congrArg (fun W : World => W.heap[w.heap.size + 1 + 1]?) e4).trans ((impl_allGaps.alloc_old W3 _ _ (by omega)).trans ((congrArg (fun W : World => W.heap[w.heap.size + 1 + 1]?) e3).trans (impl_allGaps.alloc_at W2 _ _ s2.symm)))
  have f2 : W4.heap[w.heap.size + 1]? = _ := (congrArg (fun W : World => W.heap[w.heap.size + 1]?) e4).trans ((impl_allGaps.alloc_old W3 _ _ (by omega)).trans ((congrArg (fun W : World => W.heap[w.heap.size + 1]?) e3).trans ((impl_allGaps.alloc_old W2 _ _ (by omega)).trans ((congrArg (fun W : World => W.heap[w.heap.size + 1]?) e2).trans (impl_allGaps.alloc_at W1 _ _ s1.symm)))))
  have f1 : W4.heap[w.heap.size]? = _ := (congrArg (fun W : World => W.heap[w.heap.size]?) e4).trans ((impl_allGaps.alloc_old W3 _ _ (by omega)).trans ((congrArg (fun W : World => W.heap[w.heap.size]?) e3).trans ((impl_allGaps.alloc_old W2 _ _ (by omega)).trans ((congrArg (fun W : World => W.heap[w.heap.size]?) e2).trans ((impl_allGaps.alloc_old W1 _ _ (by omega)).trans ((congrArg (fun W : World => W.heap[w.heap.size]?) e1).trans (impl_allGaps.alloc_at w _ _ rfl)))))))
  refine (impl_allGaps.on_calls n m k [] d0 L r w.heap.size (w.heap.size + 1 + 1) (w.heap.size + 1) (w.heap.size + 1 + 1 + 1) gt (.slice none 0 0) v w0 W4 H.out ⟨f1, f3, f2, f4⟩ (impl_allGaps.Is.below HI.out hb) (Kd.R_nil _ _ _ _ _) (below_step HB.out hb)).mono ?_
  rintro e w' ⟨rfl, v', h1, h2, _⟩
  exact ⟨rfl, v', h1, h2⟩
 have key2 := key _ _ _ _ rfl rfl rfl rfl
 clear key
 change Calls Tryz.prog 77 _ _ _ at key2
 go_enter Tryz.func67, Tryz.ntmps67
 go_wp2_with (go_at_call 77; refine key2.mono ?_; rintro e w2 ⟨rfl, v', hi2, hb2⟩)
 first | go_end0 | ((try simp only [Exit.inBlock, Exit.then]); refine bodyPost_ret (results_none rfl _ _ _) rfl ?_)
 first | exact ⟨rfl, v', hi2, hb2⟩ | exact ⟨rfl, ⟨v', hi2⟩, hb2⟩
def impl_allGaps.f (k : Nat) (a0 a1 : Int) : Option (List (List Int)) :=
 (impl_allGaps.on (wrap64 (Int.tdiv a0 2)) (wrap64 (a1 - 1)) k false [] 0 []).bind fun L => if impl_allGaps.done k L = true then some (impl_allGaps.srt L) else none
theorem impl_allGaps.mono : ∀ a0 a1 k, LeO (impl_allGaps.f k a0 a1) (impl_allGaps.f (k + 1) a0 a1) := by
 intro a0 a1 k
 unfold impl_allGaps.f
 refine LeO.bind (impl_allGaps.on_mono _ _ _ _ _ _ _) (fun L => ?_)
 intro r h
 by_cases hd : impl_allGaps.done k L = true
 ·rw [if_pos hd] at h
  rw [if_pos (impl_allGaps.done_mono hd)]
  exact h
 ·rw [if_neg hd] at h
  exact absurd h (by simp)
set_option maxHeartbeats 8000000 in
set_option maxRecDepth 100000 in
theorem impl_allGaps.calls (k : Nat) (a0 a1 : Int) (r : List (List Int)) (w : World) (h : impl_allGaps.f k a0 a1 = some r) :
  Calls Tryz.prog 53 #[.int .i64 a0, .int .i64 a1] w fun e w' => ∃ v0_ : Value, e = .returned v0_ ∧ Kd.N (Kd.slice 3 (Kd.int .i64)) 24 w' w.heap.size (fun k_ => w.heap.size ≤ k_) v0_ r ∧ Below w.heap.size w w' := by
 have hmf : ∀ (fn : Fn) (first cap : Array Value) (w : World), (Instr.makeFunc fn first cap).run Tryz.prog w = .ok (.func fn first cap) w := fun _ _ _ _ => rfl
 unfold impl_allGaps.f at h
 obtain ⟨L, hL, h2⟩ := Option.bind_eq_some_iff.1 h
 by_cases hd : impl_allGaps.done k L = true
 case neg => rw [if_neg hd] at h2; exact absurd h2 (by simp)
 case pos =>
 rw [if_pos hd] at h2
 rw [impl_allGaps.done_iff] at hd
 obtain rfl := Option.some.inj h2
 have hb0 : Below w.heap.size w ((w.alloc (.cells #[] 24)).alloc (.cells #[.slice (some ⟨w.heap.size, 0, none⟩) 0 0] 42)) := below_alloc (below_alloc (Below.refl _ _) _) _
 have hI : impl_allGaps.Is w ((w.alloc (.cells #[] 24)).alloc (.cells #[.slice (some ⟨w.heap.size, 0, none⟩) 0 0] 42)) (w.heap.size + 1) (.slice (some ⟨w.heap.size, 0, none⟩) 0 0) [] :=
  ⟨impl_allGaps.alloc_at _ _ _ (by simp), by omega, Kd.S_below (impl_allGaps.S_empty w w.heap.size (Nat.le_refl _)) (below_alloc (Below.refl _ _) _)⟩
 have hnf := impl_allGaps.nf _ _ _ _ _ _ _ _ _ _ hL hI hb0
 change Calls Tryz.prog 67 _ _ _ at hnf
 have hso : ∀ (W : World) (v : Value), Aside0 (impl_allGaps.Is w W (w.heap.size + 1) v L) → Calls Tryz.prog 69 #[v, .func (.func 70) #[] #[]] W fun e w' => e = .returned (.tuple #[]) ∧ Kd.N (Kd.slice 3 (Kd.int .i64)) 24 w' w.heap.size (fun k_ => w.heap.size ≤ k_) v (impl_allGaps.srt L) ∧ W.grownBy w' v.ownBlock ∧ ∀ q, v.ownBlock = some q → w.heap.size ≤ q := by
  intro W v hi
  exact impl_allGaps.sortN k W w.heap.size (fun k_ => w.heap.size ≤ k_) v L (Kd.N_mono (Kd.S_N (Kd.S_bound hi.out.2.2)) (fun k hk => hk.2.1)) hd.1 hd.2.1 hd.2.2
 clear hd hL h h2 hI hb0
 go_enter Tryz.func53, Tryz.ntmps53
 go_wp2_with (first
  | (go_at_call 67; refine hnf.mono ?_; rintro e w2 ⟨rfl, v2, hi2, hb2⟩; have HI2 := Aside0.mk hi2; have HB2 := Aside0.mk hb2; have hc2 : w2.cell? ⟨w.heap.size + 1, 0, none⟩ = some v2 := (blk_cell hi2.1 0).trans rfl; have hs2 := hso w2 v2 HI2; clear hi2 hb2 hso hnf)
  | (go_at_call 69; refine hs2.mono ?_; rintro e w3 ⟨rfl, hN, hg, hq⟩; have j3 : w3.heap[w.heap.size + 1]? = some (Obj.cells #[v2] 42 (0, 0)) := blk_grown HI2.out.1 hg (fun e_ => Kd.S_ne HI2.out.2.2 HI2.out.1 (by decide) e_); have hc3 : w3.cell? ⟨w.heap.size + 1, 0, none⟩ = some v2 := (blk_cell j3 0).trans rfl; have HN := Aside0.mk hN; have HB3 := Aside0.mk (HB2.out.grown hg (below_size HB2.out) (fun k hk => hq k hk)); clear hN hg hq j3 hs2 hc2))
 go_ret
 exact ⟨_, rfl, HN.out, HB3.out⟩

end Go.Proofs.YtkkhldjhhjpobaaGreat.PFnStepsByGaps
