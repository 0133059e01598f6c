/- What slices.Sorted makes of what slices.Values hands back. -/
import Derived.Test.YtinhkpcgdfppkaaRaw
import Derived.Shelf.SlSortCmp.NoneTotal
import Derived.Shelf.SlicesG.Cmp
import Derived.Ground.SlsfProg
import Derived.Ground.SlgcProg
import Derived.Test.YtinhkpcgdfppkaaRows
namespace Go.VM
open Go Go.Proofs Go.Proofs.Ytinhkpcgdfppkaa
open Go.Shelf
def srsSort_ren : Go.Shelf.Ren := ⟨fun | 6 => 68 | 15 => 80 | 14 => 79 | 28 => 94 | 29 => 95 | 20 => 86 | 21 => 87 | 22 => 88 | 23 => 89 | 24 => 90 | 25 => 91 | 26 => 92 | 27 => 93 | 46 => 100 | 47 => 101 | 48 => 102 | 49 => 103 | 50 => 104 | 57 => 105 | n => n, fun | 22 => 50 | 24 => 42 | 25 => 100 | 3 => 3 | 39 => 112 | 0 => 0 | 53 => 125 | 55 => 127 | 4 => 4 | 46 => 118 | 45 => 117 | 50 => 122 | 5 => 5 | 9 => 9 | 66 => 129 | 70 => 133 | 76 => 135 | 77 => 136 | n => n, fun | n => n⟩
theorem srsSort : Go.Proofs.SlLaysF0.n6 Try.prog srsSort_ren := {
 mixed := by kernel_rfl
 f6 := ⟨Try.f68.name, by decide, Try.func68.trans (congrArg some (by kernel_rfl))⟩
 f14 := ⟨Try.f79.name, by decide, Try.func79.trans (congrArg some (by kernel_rfl))⟩
 f15 := Try.func80.trans (congrArg some (by kernel_rfl))
 f20 := ⟨Try.f86.name, by decide, Try.func86.trans (congrArg some (by kernel_rfl))⟩
 f21 := ⟨Try.f87.name, by decide, Try.func87.trans (congrArg some (by kernel_rfl))⟩
 f22 := ⟨Try.f88.name, by decide, Try.func88.trans (congrArg some (by kernel_rfl))⟩
 f23 := ⟨Try.f89.name, by decide, Try.func89.trans (congrArg some (by kernel_rfl))⟩
 f24 := ⟨Try.f90.name, by decide, Try.func90.trans (congrArg some (by kernel_rfl))⟩
 f25 := ⟨Try.f91.name, by decide, Try.func91.trans (congrArg some (by kernel_rfl))⟩
 f26 := ⟨Try.f92.name, by decide, Try.func92.trans (congrArg some (by kernel_rfl))⟩
 f27 := ⟨Try.f93.name, by decide, Try.func93.trans (congrArg some (by kernel_rfl))⟩
 f28 := Try.func94.trans (congrArg some (by kernel_rfl))
 f29 := Try.func95.trans (congrArg some (by kernel_rfl))
 f46 := ⟨Try.f100.name, by decide, Try.func100.trans (congrArg some (by kernel_rfl))⟩
 f47 := Try.func101.trans (congrArg some (by kernel_rfl))
 f48 := Try.func102.trans (congrArg some (by kernel_rfl))
 f49 := ⟨Try.f103.name, by decide, Try.func103.trans (congrArg some (by kernel_rfl))⟩
 f50 := ⟨Try.f104.name, by decide, Try.func104.trans (congrArg some (by kernel_rfl))⟩
 f57 := ⟨Try.f105.name, by decide, Try.func105.trans (congrArg some (by kernel_rfl))⟩
 t0 := Try.underlying0
 a0 := Try.isAgg0
 z0 := Try.sizeOf0
 v0 := Try.zeroValue0
 t3 := Try.underlying3
 a3 := Try.isAgg3
 z3 := Try.sizeOf3
 v3 := Try.zeroValue3
 t4 := Try.underlying4
 a4 := Try.isAgg4
 z4 := Try.sizeOf4
 v4 := Try.zeroValue4
 t5 := Try.underlying5
 a5 := Try.isAgg5
 z5 := Try.sizeOf5
 v5 := Try.zeroValue5
 t9 := Try.underlying9
 a9 := Try.isAgg9
 z9 := Try.sizeOf9
 v9 := Try.zeroValue9
 t22 := Try.underlying50
 a22 := Try.isAgg50
 z22 := Try.sizeOf50
 v22 := Try.zeroValue50
 t25 := Try.underlying100
 a25 := Try.isAgg100
 z25 := Try.sizeOf100
 v25 := Try.zeroValue100
 t39 := Try.underlying112
 a39 := Try.isAgg112
 z39 := Try.sizeOf112
 v39 := Try.zeroValue112
 t45 := Try.underlying117
 a45 := Try.isAgg117
 z45 := Try.sizeOf117
 v45 := Try.zeroValue117
 t46 := Try.underlying118
 a46 := Try.isAgg118
 z46 := Try.sizeOf118
 v46 := Try.zeroValue118
 t50 := Try.underlying122
 a50 := Try.isAgg122
 z50 := Try.sizeOf122
 v50 := Try.zeroValue122
 t53 := Try.underlying125
 a53 := Try.isAgg125
 z53 := Try.sizeOf125
 v53 := Try.zeroValue125
 t55 := Try.underlying127
 a55 := Try.isAgg127
 z55 := Try.sizeOf127
 v55 := Try.zeroValue127
 t66 := Try.underlying129
 a66 := Try.isAgg129
 z66 := Try.sizeOf129
 v66 := Try.zeroValue129
 t70 := Try.underlying133
 a70 := Try.isAgg133
 z70 := Try.sizeOf133
 v70 := Try.zeroValue133
 t76 := Try.underlying135
 a76 := Try.isAgg135
 z76 := Try.sizeOf135
 v76 := Try.zeroValue135
 t77 := Try.underlying136
 a77 := Try.isAgg136
 z77 := Try.sizeOf136
 v77 := Try.zeroValue136 }
def srsCmp_ren : Go.Shelf.Ren := ⟨fun | 5 => 57 | 7 => 77 | n => n, fun | 22 => 3 | 3 => 3 | 4 => 4 | n => n, fun | n => n⟩
theorem srsCmp : Go.Proofs.SlLaysC2.n5 Try.prog srsCmp_ren := {
 mixed := by kernel_rfl
 f5 := ⟨Try.f57.name, by decide, Try.func57.trans (congrArg some (by kernel_rfl))⟩
 f7 := ⟨Try.f77.name, by decide, Try.func77.trans (congrArg some (by kernel_rfl))⟩
 t3 := Try.underlying3
 a3 := Try.isAgg3
 z3 := Try.sizeOf3
 v3 := Try.zeroValue3
 t4 := Try.underlying4
 a4 := Try.isAgg4
 z4 := Try.sizeOf4
 v4 := Try.zeroValue4
 t22 := Try.underlying3
 a22 := Try.isAgg3
 z22 := Try.sizeOf3
 v22 := Try.zeroValue3 }
end Go.VM
namespace Go.VM
open Go Go.Proofs Go.Proofs.Ytinhkpcgdfppkaa Go.RowKit Go.Shelf Go.Sort
def keyC {α : Type} (f : α → Int) (x y : α) : Int := Go.Lib.compareInt (f x) (f y)
theorem keyLt {α : Type} (f : α → Int) (x y : α) : ltOf (keyC f) x y = decide (f x < f y) := by
 unfold ltOf keyC Go.Lib.compareInt
 by_cases h1 : f x < f y
 ·simp [h1]
 ·by_cases h2 : f y < f x <;> simp [h1, h2]
theorem keySwo {α : Type} (f : α → Int) : SWO (ltOf (keyC f)) where
 irrefl x := by rw [keyLt]; simp
 trans x y z h1 h2 := by rw [keyLt] at *; simp at *; omega
 ntrans x y z h1 h2 := by rw [keyLt] at *; simp at *; omega
def sortBy {α : Type} [Inhabited α] (f : α → Int) (l : List α) : List α := (pdq (ltOf (keyC f)) l.toArray 0 l.toArray.size (Go.Lib.bitLen l.toArray.size) true true).toList
theorem sortBy_perm {α : Type} [Inhabited α] (f : α → Int) (l : List α) : (sortBy f l).Perm l := by
 have h := (pdq_sorts (ltOf (keyC f)) (keySwo f) l.toArray 0 l.toArray.size (Go.Lib.bitLen l.toArray.size) true true (Nat.zero_le _) (Nat.le_refl _) (Or.inl rfl)).1
 obtain ⟨h1, _, h3⟩ := h
 unfold sortBy
 rw [Array.extract_eq_self_of_le (by rw [h1]; exact Nat.le_refl _), Array.extract_eq_self_of_le (Nat.le_refl _)] at h3
 exact h3
theorem sortBy_sorted {α : Type} [Inhabited α] (f : α → Int) (l : List α) (i j : Nat) (x y : α) (hij : i < j) (hx : (sortBy f l)[i]? = some x) (hy : (sortBy f l)[j]? = some y) : f x ≤ f y := by
 have h := pdq_sorts (ltOf (keyC f)) (keySwo f) l.toArray 0 l.toArray.size (Go.Lib.bitLen l.toArray.size) true true (Nat.zero_le _) (Nat.le_refl _) (Or.inl rfl)
 obtain ⟨⟨h1, _, _⟩, h2⟩ := h
 unfold sortBy at hx hy
 generalize pdq (ltOf (keyC f)) l.toArray 0 l.toArray.size (Go.Lib.bitLen l.toArray.size) true true = d at *
 have hjl : j < d.size := by
  have := (List.getElem?_eq_some_iff.1 hy).1
  simpa using this
 have h3 := h2 i j (Nat.zero_le _) hij (by omega)
 rw [keyLt] at h3
 rw [Array.getElem?_toList] at hx hy
 have e1 : d[i]! = x := by simp [getElem!_def, hx]
 have e2 : d[j]! = y := by simp [getElem!_def, hy]
 rw [e1, e2] at h3
 have := of_decide_eq_false h3
 omega
set_option maxHeartbeats 1000000 in
theorem srsClosure (a b c d : Int) (W : World) : Calls Try.prog 69 #[.agg #[.int .i64 a, .int .i64 b], .agg #[.int .i64 c, .int .i64 d]] W fun e w' => e = .returned (.int .i64 (Go.Lib.compareInt a c)) ∧ ∃ q os', w' = grow (W.drewN q) os' := by
 have hcon := fun W' => AnyG.cmp_Compare_int srsCmp a c W'
 change ∀ W', Calls Try.prog 57 _ _ _ at hcon
 generalize Go.Lib.compareInt a c = r at hcon ⊢
 go_enter Try.func69, Try.ntmps69
 go_wp2_with (go_at_call 57; refine (hcon _).mono ?_; rintro e w' ⟨rfl, rfl⟩)
 go_ret
 exact ⟨rfl, 0, _, by rw [alloc_eq_grow, alloc_eq_grow, grow_grow]; rfl⟩
section
variable {α : Type} (f g : α → Int)
def encP (x : α) : List Value := [.int .i64 (f x), .int .i64 (g x)]
def keysP : List α → List Int
 | [] => []
 | x :: l => f x :: g x :: keysP l
theorem keysP_len : ∀ l : List α, (keysP f g l).length = l.length * 2
 | [] => rfl
 | x :: l => by simp only [keysP, List.length_cons, keysP_len l]; omega
theorem keysP_get : ∀ (l : List α) (t : Nat), t < l.length * 2 → ∃ x, l[t / 2]? = some x ∧ (keysP f g l)[t]? = some (if t % 2 = 0 then f x else g x)
 | [], t, h => by simp at h
 | x :: l, 0, _ => ⟨x, rfl, rfl⟩
 | x :: l, 1, _ => ⟨x, rfl, rfl⟩
 | x :: l, t + 2, h => by
  obtain ⟨y, h1, h2⟩ := keysP_get l t (by simp at h; omega)
  refine ⟨y, ?_, ?_⟩
  ·rw [show (t + 2) / 2 = t / 2 + 1 by omega]; simpa using h1
  ·rw [show (t + 2) % 2 = t % 2 by omega, ← h2]; simp [keysP]
theorem flatPT (tc : α → List T) (htc : ∀ x, tc x = [tI (f x), tI (g x)]) : ∀ l : List α, (l.map tc).flatten = (keysP f g l).map tI
 | [] => rfl
 | x :: l => by simp [keysP, htc, flatPT tc htc l]
variable [Inhabited α]
theorem flatP (l : List α) : (flatK (encP f g) 2 l.toArray) = ((keysP f g l).map (Value.int .i64)).toArray := by
 refine ext_get! (by simp [keysP_len]) fun t ht => ?_
 have ht' : t < l.length * 2 := by simpa using ht
 rw [get_flatK _ _ _ t (by simpa using ht')]
 obtain ⟨x, h1, h2⟩ := keysP_get f g l t ht'
 have hx : l.toArray[t / 2]! = x := by simp [getElem!_def, h1]
 have hr : ((keysP f g l).map (Value.int .i64)).toArray[t]! = Value.int .i64 (if t % 2 = 0 then f x else g x) := by simp [getElem!_def, h2]
 rw [hx, hr]
 have : t % 2 = 0 ∨ t % 2 = 1 := by omega
 rcases this with e | e <;> rw [e] <;> rfl
theorem cellsI {w : World} {ok : Nat → Prop} : ∀ (ns : List Int) (cs : List Value), Pt (RepT w ok) cs (ns.map tI) → cs = ns.map (Value.int .i64)
 | [], cs, h => by have := h.1; simp at this; simpa using this
 | n :: ns, [], h => by have := h.1; simp at this
 | n :: ns, c :: cs, h => by
  have h0 := h.2 0 c (tI n) rfl rfl
  have ih := cellsI ns cs ⟨by have := h.1; simpa using this, fun j v x hv hx => h.2 (j + 1) v x (by simpa using hv) (by simpa using hx)⟩
  subst ih
  cases h0
  rfl
theorem repsI {w : World} {ok : Nat → Prop} (ns : List Int) : Pt (RepT w ok) (ns.map (Value.int .i64)) (ns.map tI) := by
 refine ⟨by simp, fun j v x hv hx => ?_⟩
 simp only [List.getElem?_map, Option.map_eq_some_iff] at hv hx
 obtain ⟨a, ha, rfl⟩ := hv
 obtain ⟨b, hb, rfl⟩ := hx
 rw [ha] at hb; cases hb
 exact .sc _ rfl
theorem srsHeap {w : World} {q n : Nat} {os : Array Obj} {cur : Array Value} {e : TypeId} {fr : Nat × Nat} (F : Array Value) (hb : w.heap[q]? = some (.cells cur e fr)) :
  (grow (putRow id (Sort.ahead w n) q 0 F) os).heap[q]? = some (.cells (putCells id 0 F cur) e fr) := by
 have hg : q < w.heap.size := (Array.getElem?_eq_some_iff.1 hb).1
 rw [heap_grow_old _ _ (by simpa using hg)]
 simp [putRow, mapBlock, Sort.ahead, Array.getElem?_modify, hb, onCells]
theorem srsFr {w : World} {q n : Nat} {os : Array Obj} {mine : Nat → Prop} (F : Array Value) (hm : mine q) : Fr w (grow (putRow id (Sort.ahead w n) q 0 F) os) mine := by
 refine ⟨rfl, rfl, rfl, by simp, fun k hk hne => ?_⟩
 rw [heap_grow_old _ _ (by simpa using hk)]
 have : q ≠ k := fun e => hne (by rw [← e]; exact hm)
 simp [putRow, mapBlock, Sort.ahead, Array.getElem?_modify, this]
theorem srsTake (cur F : Array Value) (h : F.size ≤ cur.size) : (putCells id 0 F cur).toList.take F.size = F.toList := by
 apply List.ext_getElem?
 intro j
 by_cases hj : j < F.size
 ·rw [List.getElem?_take_of_lt hj, Array.getElem?_toList]
  simp [putCells, hj, show j < cur.size by omega]
 ·rw [List.getElem?_take_eq_none (by omega), List.getElem?_eq_none (by simp; omega)]
set_option maxHeartbeats 1000000 in
theorem sortFn_fun (tc : α → List T) (htc : ∀ x, tc x = [tI (f x), tI (g x)]) (l : List α) (hlen : l.length < 4611686018427387904) (o : Oid) :
  Fun Try.prog 68 false [o] [.c (.slO o), .c (.fn 69 [])] (heapOf [(o, .arr 42 2 (l.map tc))]) (.tup []) (heapOf [(o, .arr 42 2 ((sortBy f l).map tc))]) := by
 intro w ok B args hlt hbl hp ho
 obtain ⟨v, u, rfl⟩ : ∃ v u, args = [v, u] := by
  have := hp.1
  match args, this with
  | [v, u], _ => exact ⟨v, u, rfl⟩
 have hin : heapOf [(o, .arr 42 2 (l.map tc))] o = some (.arr 42 2 (l.map tc)) := by simp [heapOf, Heap.put]
 have hv : RepC w ok B v (.slO o) := hp.2 0 v _ rfl rfl
 have hu : RepC w ok B u (.fn 69 []) := hp.2 1 u _ rfl rfl
 have only : ∀ (rows : List (List T)) o' ob', heapOf [(o, .arr 42 2 rows)] o' = some ob' → o' = o ∧ ob' = .arr 42 2 rows := by
  intro rows o' ob' hg
  by_cases e1 : o' = o
  ·subst e1; simp [heapOf, Heap.put] at hg; exact ⟨rfl, hg.symm⟩
  ·simp [heapOf, Heap.put, e1, noHeap] at hg
 cases hu with
 | fn f2 cs2 caps2 hc2 =>
 have : cs2 = [] := by have := hc2.1; simpa using this
 subst this
 obtain ⟨h0, hkr, cs, hown, hpt⟩ := ho.rep o _ hin
 rw [flatPT f g tc htc] at hpt
 have hcs := cellsI _ _ hpt
 subst hcs
 obtain ⟨hl1, hc1⟩ := hown
 cases hv with
 | slO _ a len cap hB =>
 have hlen2 : (sortBy f l).length = l.length := (sortBy_perm f l).length_eq
 rcases hc1 with ⟨hv1, hz⟩ | ⟨q, cap1, cur, hv1, _, hg, hle, hmx, hsz, htk⟩
 ·rw [hB] at hv1
  cases hv1
  have hl0 : l = [] := by simpa using hz
  subst hl0
  refine (callsIn_wide (n := 6)).1 ((callsIn_wide (n := 6)).2 (AnyF.slices_SortFunc_none srsSort none 0 (.func (.func 69) #[] #[]) w)) |>.mono ?_
  rintro e w' ⟨rfl, rfl⟩
  have hs0 : sortBy f ([] : List α) = [] := List.eq_nil_of_length_eq_zero hlen2
  rw [hs0]
  refine ⟨_, B, rfl, Fr.refl _ _, ⟨#[], rfl, Pt.nil⟩, ⟨fun o' ob hg => ?_, fun o1 o2 ob1 ob2 k g1 g2 k1 k2 => ho.apart o1 o2 ob1 ob2 k g1 g2 k1 k2⟩, fun o' ob k hg hk _ => ⟨o', ob, hg, hk⟩, fun _ _ => rfl⟩
  obtain ⟨rfl, rfl⟩ := only _ _ _ hg
  exact ⟨h0, by simp, [], ⟨rfl, .inl ⟨hB, rfl⟩⟩, Pt.nil⟩
 ·rw [hB] at hv1
  have hn : l.length = (l.map tc).length := by simp
  obtain ⟨rfl, hle2, hcc⟩ : a = some ⟨q, 0, none⟩ ∧ len = l.length ∧ cap = cap1 := by
   injection hv1 with e1 e2 e3
   exact ⟨e1, by rw [e2, hn], e3⟩
  subst hle2 hcc
  have hblk : q < w.heap.size := (Array.getElem?_eq_some_iff.1 hg).1
  have hsz2 : l.toArray.size < 4611686018427387904 := by simpa using hlen
  have hH : HoldsK (encP f g) 2 w q 0 l.toArray := by
   unfold HoldsK
   rw [flatP]
   intro j hj
   have hj' : j < (keysP f g l).length := by simpa using hj
   refine ⟨?_, by simp [World.frozen?, hg]⟩
   have h1 : (cur.toList.take (l.length * 2))[j]? = ((keysP f g l).map (Value.int .i64))[j]? := by rw [← htk, hn]
   rw [List.getElem?_take_of_lt (by rw [← keysP_len f g l]; exact hj')] at h1
   simp only [World.cell?, hg, Nat.zero_add]
   simp only [Option.isSome_none, Bool.false_eq_true, if_false]
   rw [← Array.getElem?_toList, h1]
   simp [hj']
  have cS := AnyQ.slices_SortFunc_eq srsSort 2 Try.isAgg42 Try.sizeOf42 (encP f g) (fun _ => rfl) (fun x v hv => by simp [encP] at hv; rcases hv with rfl | rfl <;> rfl) (keyC f) (keySwo f) 69 #[] q 0 cap l.toArray w (enters_of Try.func69 (by kernel_rfl) rfl) (fun _ _ _ _ x y => srsClosure (f x) (g x) (f y) (g y) _) hH hblk hsz2
  change Calls Try.prog 68 _ _ _ at cS
  rw [List.size_toArray] at cS
  refine cS.mono ?_
  rintro e w' ⟨rfl, nn, os, rfl⟩
  have hsd : sortWorldK (encP f g) 2 w q 0 nn (pdq (ltOf (keyC f)) l.toArray 0 l.length (Go.Lib.bitLen l.length) true true) os = grow (putRow id (Sort.ahead w nn) q 0 ((keysP f g (sortBy f l)).map (Value.int .i64)).toArray) os := by
   unfold sortWorldK putRowK
   rw [← flatP]
   rfl
  rw [hsd]
  have hmine : blks B (heapOf [(o, .arr 42 2 (l.map tc))]) q := ⟨o, _, hin, by rw [hB]; rfl⟩
  refine ⟨_, B, rfl, srsFr _ hmine, ⟨#[], rfl, Pt.nil⟩, ⟨fun o' ob hg2 => ?_, fun o1 o2 ob1 ob2 k g1 g2 k1 k2 => ?_⟩, fun o' ob k hg2 hk _ => ?_, fun _ _ => rfl⟩
  ·obtain ⟨rfl, rfl⟩ := only _ _ _ hg2
   have hks : (keysP f g (sortBy f l)).length = l.length * 2 := by rw [keysP_len, hlen2]
   refine ⟨h0, fun row hrw => ?_, (keysP f g (sortBy f l)).map (Value.int .i64), ⟨by simp [hks, hlen2], .inr ⟨q, cap, _, by rw [hB]; simp [hlen2], Nat.zero_le _, srsHeap _ hg, by simp [hlen2]; simpa using hle, hmx, by simp [putCells, hsz], ?_⟩⟩, ?_⟩
   ·obtain ⟨x, _, rfl⟩ := List.mem_map.1 hrw
    rw [htc]; rfl
   ·have h9 := srsTake cur ((keysP f g (sortBy f l)).map (Value.int .i64)).toArray (by simp at hle; simp [hks, hsz]; omega)
    simp only [List.size_toArray, List.length_map, hks] at h9
    simp only [List.length_map, hlen2]
    exact h9
   ·rw [flatPT f g tc htc]
    exact repsI _
  ·rw [(only _ _ _ g1).1, (only _ _ _ g2).1]
  ·obtain ⟨rfl, _⟩ := only _ _ _ hg2
   exact ⟨o', _, hin, hk⟩
end
end Go.VM
