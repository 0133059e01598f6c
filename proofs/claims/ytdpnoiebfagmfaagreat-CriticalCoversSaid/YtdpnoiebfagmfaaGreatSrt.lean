/- What slices.Sorted makes of what slices.Values hands back. -/
import Derived.Test.YtdpnoiebfagmfaaGreatVm2
import Derived.Shelf.SlIterI.Nil
import Derived.Shelf.SlIterI.Sorted
import Derived.Shelf.SlSortCmp.NoneTotal
import Derived.Shelf.SlicesG.Cmp
import Derived.Ground.GgzProg
import Derived.Ground.SlsfProg
import Derived.Ground.SlgcProg
import Derived.Test.YtdpnoiebfagmfaaGreatRows
namespace Go.VM
open Go Go.Proofs Go.Proofs.YtdpnoiebfagmfaaGreat
open Go.Shelf
def srkKeys_ren : Go.Shelf.Ren := ⟨fun | 7 => 29 | 10 => 42 | n => n, fun | 23 => 63 | 26 => 3 | 3 => 3 | 28 => 67 | 0 => 0 | 27 => 66 | 33 => 79 | 4 => 4 | n => n, fun | n => n⟩
theorem srkKeys : Go.Proofs.SlLaysZI.n7 Tryz.prog srkKeys_ren := {
 mixed := by kernel_rfl
 f7 := ⟨Tryz.f29.name, by decide, Tryz.func29.trans (congrArg some (by kernel_rfl))⟩
 f10 := ⟨Tryz.f42.name, by decide, Tryz.func42.trans (congrArg some (by kernel_rfl))⟩
 t0 := Tryz.underlying0
 a0 := Tryz.isAgg0
 z0 := Tryz.sizeOf0
 v0 := Tryz.zeroValue0
 t4 := Tryz.underlying4
 a4 := Tryz.isAgg4
 z4 := Tryz.sizeOf4
 v4 := Tryz.zeroValue4
 t23 := Tryz.underlying63
 a23 := Tryz.isAgg63
 z23 := Tryz.sizeOf63
 v23 := Tryz.zeroValue63
 t26 := Tryz.underlying3
 a26 := Tryz.isAgg3
 z26 := Tryz.sizeOf3
 v26 := Tryz.zeroValue3
 t27 := Tryz.underlying66
 a27 := Tryz.isAgg66
 z27 := Tryz.sizeOf66
 v27 := Tryz.zeroValue66
 t28 := Tryz.underlying67
 a28 := Tryz.isAgg67
 z28 := Tryz.sizeOf67
 v28 := Tryz.zeroValue67
 t33 := Tryz.underlying79
 a33 := Tryz.isAgg79
 z33 := Tryz.sizeOf79
 v33 := Tryz.zeroValue79 }
def srkColl_ren : Go.Shelf.Ren := ⟨fun | 8 => 40 | 11 => 51 | n => n, fun | 26 => 3 | 28 => 67 | 24 => 61 | 0 => 0 | 33 => 79 | 4 => 4 | n => n, fun | n => n⟩
theorem srkColl : Go.Proofs.SlLaysZI.n8 Tryz.prog srkColl_ren := {
 mixed := by kernel_rfl
 f8 := ⟨Tryz.f40.name, by decide, Tryz.func40.trans (congrArg some (by kernel_rfl))⟩
 f11 := ⟨Tryz.f51.name, by decide, Tryz.func51.trans (congrArg some (by kernel_rfl))⟩
 t0 := Tryz.underlying0
 a0 := Tryz.isAgg0
 z0 := Tryz.sizeOf0
 v0 := Tryz.zeroValue0
 t24 := Tryz.underlying61
 a24 := Tryz.isAgg61
 z24 := Tryz.sizeOf61
 v24 := Tryz.zeroValue61
 t26 := Tryz.underlying3
 a26 := Tryz.isAgg3
 z26 := Tryz.sizeOf3
 v26 := Tryz.zeroValue3
 t28 := Tryz.underlying67
 a28 := Tryz.isAgg67
 z28 := Tryz.sizeOf67
 v28 := Tryz.zeroValue67
 i26 := by kernel_rfl }
def srkSortF_ren : Go.Shelf.Ren := ⟨fun | 6 => 41 | 15 => 53 | 14 => 52 | 28 => 96 | 29 => 97 | 20 => 88 | 21 => 89 | 22 => 90 | 23 => 91 | 24 => 92 | 25 => 93 | 26 => 94 | 27 => 95 | 46 => 125 | 47 => 126 | 48 => 127 | 49 => 128 | 50 => 129 | 57 => 146 | n => n, fun | 22 => 61 | 24 => 3 | 25 => 69 | 3 => 3 | 39 => 100 | 0 => 0 | 53 => 142 | 55 => 144 | 4 => 4 | 46 => 136 | 45 => 135 | 50 => 56 | 5 => 5 | 9 => 9 | 66 => 163 | 70 => 167 | 76 => 176 | 77 => 177 | n => n, fun | n => n⟩
theorem srkSortF : Go.Proofs.SlLaysF.n6 Tryz.prog srkSortF_ren := {
 mixed := by kernel_rfl
 f6 := ⟨Tryz.f41.name, by decide, Tryz.func41.trans (congrArg some (by kernel_rfl))⟩
 f14 := ⟨Tryz.f52.name, by decide, Tryz.func52.trans (congrArg some (by kernel_rfl))⟩
 f15 := Tryz.func53.trans (congrArg some (by kernel_rfl))
 f20 := ⟨Tryz.f88.name, by decide, Tryz.func88.trans (congrArg some (by kernel_rfl))⟩
 f21 := ⟨Tryz.f89.name, by decide, Tryz.func89.trans (congrArg some (by kernel_rfl))⟩
 f22 := ⟨Tryz.f90.name, by decide, Tryz.func90.trans (congrArg some (by kernel_rfl))⟩
 f23 := ⟨Tryz.f91.name, by decide, Tryz.func91.trans (congrArg some (by kernel_rfl))⟩
 f24 := ⟨Tryz.f92.name, by decide, Tryz.func92.trans (congrArg some (by kernel_rfl))⟩
 f25 := ⟨Tryz.f93.name, by decide, Tryz.func93.trans (congrArg some (by kernel_rfl))⟩
 f26 := ⟨Tryz.f94.name, by decide, Tryz.func94.trans (congrArg some (by kernel_rfl))⟩
 f27 := ⟨Tryz.f95.name, by decide, Tryz.func95.trans (congrArg some (by kernel_rfl))⟩
 f28 := Tryz.func96.trans (congrArg some (by kernel_rfl))
 f29 := Tryz.func97.trans (congrArg some (by kernel_rfl))
 f46 := ⟨Tryz.f125.name, by decide, Tryz.func125.trans (congrArg some (by kernel_rfl))⟩
 f47 := Tryz.func126.trans (congrArg some (by kernel_rfl))
 f48 := Tryz.func127.trans (congrArg some (by kernel_rfl))
 f49 := ⟨Tryz.f128.name, by decide, Tryz.func128.trans (congrArg some (by kernel_rfl))⟩
 f50 := ⟨Tryz.f129.name, by decide, Tryz.func129.trans (congrArg some (by kernel_rfl))⟩
 f57 := ⟨Tryz.f146.name, by decide, Tryz.func146.trans (congrArg some (by kernel_rfl))⟩
 t0 := Tryz.underlying0
 a0 := Tryz.isAgg0
 z0 := Tryz.sizeOf0
 v0 := Tryz.zeroValue0
 t3 := Tryz.underlying3
 a3 := Tryz.isAgg3
 z3 := Tryz.sizeOf3
 v3 := Tryz.zeroValue3
 t4 := Tryz.underlying4
 a4 := Tryz.isAgg4
 z4 := Tryz.sizeOf4
 v4 := Tryz.zeroValue4
 t5 := Tryz.underlying5
 a5 := Tryz.isAgg5
 z5 := Tryz.sizeOf5
 v5 := Tryz.zeroValue5
 t9 := Tryz.underlying9
 a9 := Tryz.isAgg9
 z9 := Tryz.sizeOf9
 v9 := Tryz.zeroValue9
 t22 := Tryz.underlying61
 a22 := Tryz.isAgg61
 z22 := Tryz.sizeOf61
 v22 := Tryz.zeroValue61
 a24 := Tryz.isAgg3
 z24 := Tryz.sizeOf3
 t25 := Tryz.underlying69
 a25 := Tryz.isAgg69
 z25 := Tryz.sizeOf69
 v25 := Tryz.zeroValue69
 t39 := Tryz.underlying100
 a39 := Tryz.isAgg100
 z39 := Tryz.sizeOf100
 v39 := Tryz.zeroValue100
 t45 := Tryz.underlying135
 a45 := Tryz.isAgg135
 z45 := Tryz.sizeOf135
 v45 := Tryz.zeroValue135
 t46 := Tryz.underlying136
 a46 := Tryz.isAgg136
 z46 := Tryz.sizeOf136
 v46 := Tryz.zeroValue136
 t50 := Tryz.underlying56
 a50 := Tryz.isAgg56
 z50 := Tryz.sizeOf56
 v50 := Tryz.zeroValue56
 t53 := Tryz.underlying142
 a53 := Tryz.isAgg142
 z53 := Tryz.sizeOf142
 v53 := Tryz.zeroValue142
 t55 := Tryz.underlying144
 a55 := Tryz.isAgg144
 z55 := Tryz.sizeOf144
 v55 := Tryz.zeroValue144
 t66 := Tryz.underlying163
 a66 := Tryz.isAgg163
 z66 := Tryz.sizeOf163
 v66 := Tryz.zeroValue163
 t70 := Tryz.underlying167
 a70 := Tryz.isAgg167
 z70 := Tryz.sizeOf167
 v70 := Tryz.zeroValue167
 t76 := Tryz.underlying176
 a76 := Tryz.isAgg176
 z76 := Tryz.sizeOf176
 v76 := Tryz.zeroValue176
 t77 := Tryz.underlying177
 a77 := Tryz.isAgg177
 z77 := Tryz.sizeOf177
 v77 := Tryz.zeroValue177 }
def srkCmp_ren : Go.Shelf.Ren := ⟨fun | 5 => 30 | 7 => 43 | n => n, fun | 22 => 3 | 3 => 3 | 4 => 4 | n => n, fun | n => n⟩
theorem srkCmp : Go.Proofs.SlLaysC2.n5 Tryz.prog srkCmp_ren := {
 mixed := by kernel_rfl
 f5 := ⟨Tryz.f30.name, by decide, Tryz.func30.trans (congrArg some (by kernel_rfl))⟩
 f7 := ⟨Tryz.f43.name, by decide, Tryz.func43.trans (congrArg some (by kernel_rfl))⟩
 t3 := Tryz.underlying3
 a3 := Tryz.isAgg3
 z3 := Tryz.sizeOf3
 v3 := Tryz.zeroValue3
 t4 := Tryz.underlying4
 a4 := Tryz.isAgg4
 z4 := Tryz.sizeOf4
 v4 := Tryz.zeroValue4
 t22 := Tryz.underlying3
 a22 := Tryz.isAgg3
 z22 := Tryz.sizeOf3
 v22 := Tryz.zeroValue3 }
end Go.VM
namespace Go.VM
open Go Go.Proofs Go.Proofs.YtdpnoiebfagmfaaGreat Go.RowKit Go.Shelf Go.Sort
def insI (x : Int) : List Int → List Int
 | [] => [x]
 | y :: ys => if x ≤ y then x :: y :: ys else y :: insI x ys
def sortI : List Int → List Int
 | [] => []
 | x :: xs => insI x (sortI xs)
theorem insI_perm (x : Int) : ∀ ys : List Int, (insI x ys).Perm (x :: ys)
 | [] => List.Perm.refl _
 | y :: ys => by
  simp only [insI]
  split
  ·exact List.Perm.refl _
  ·exact ((insI_perm x ys).cons y).trans (List.Perm.swap x y ys)
theorem sortI_perm : ∀ zs : List Int, (sortI zs).Perm zs
 | [] => List.Perm.refl _
 | x :: xs => (insI_perm x (sortI xs)).trans ((sortI_perm xs).cons x)
theorem insI_sorted (x : Int) : ∀ ys : List Int, ys.Pairwise (· ≤ ·) → (insI x ys).Pairwise (· ≤ ·)
 | [], _ => by simp [insI]
 | y :: ys, h => by
  simp only [insI]
  have h' := List.pairwise_cons.1 h
  split
  ·rename_i hxy
   refine List.pairwise_cons.2 ⟨fun z hz => ?_, h⟩
   rcases List.mem_cons.1 hz with rfl | hz
   ·exact hxy
   ·have := h'.1 z hz; omega
  ·rename_i hxy
   refine List.pairwise_cons.2 ⟨fun z hz => ?_, insI_sorted x ys h'.2⟩
   rcases List.mem_cons.1 ((insI_perm x ys).mem_iff.1 hz) with rfl | hz
   ·omega
   ·exact h'.1 z hz
theorem sortI_sorted : ∀ zs : List Int, (sortI zs).Pairwise (· ≤ ·)
 | [] => List.Pairwise.nil
 | x :: xs => insI_sorted x _ (sortI_sorted xs)
theorem sorted_unique : ∀ a b : List Int, a.Perm b → a.Pairwise (· ≤ ·) → b.Pairwise (· ≤ ·) → a = b
 | [], b, h, _, _ => (List.nil_perm.1 h).symm ▸ rfl
 | x :: a, [], h, _, _ => by have := h.length_eq; simp at this
 | x :: a, y :: b, h, ha, hb => by
  have ha' := List.pairwise_cons.1 ha
  have hb' := List.pairwise_cons.1 hb
  have h1 : x ≤ y := by
   rcases List.mem_cons.1 (h.mem_iff.2 (List.mem_cons_self : y ∈ y :: b)) with e | e
   ·omega
   ·exact ha'.1 y e
  have h2 : y ≤ x := by
   rcases List.mem_cons.1 (h.mem_iff.1 (List.mem_cons_self : x ∈ x :: a)) with e | e
   ·omega
   ·exact hb'.1 x e
  obtain rfl : x = y := by omega
  rw [sorted_unique a b h.cons_inv ha'.2 hb'.2]
theorem merge_sortI (zs : List Int) : zs.mergeSort (fun x y => decide (x ≤ y)) = sortI zs := by
 refine sorted_unique _ _ ((List.mergeSort_perm zs _).trans (sortI_perm zs).symm) ?_ (sortI_sorted zs)
 have := List.pairwise_mergeSort (le := fun x y : Int => decide (x ≤ y)) (fun a b c h1 h2 => by simp at *; omega) (fun a b => by simp; omega) zs
 exact this.imp (fun h => by simpa using h)
theorem blk_row {w : World} {base : Nat} {e : TypeId} {k : Nat} {v : Value} {n : Nat} {xs : List Value} (h : w.ownsRow base e k v n xs) {b : Nat} (hb : blkOf v = some b) : base ≤ b := by
 rcases h.2 with ⟨rfl, _⟩ | ⟨g, cap, cur, rfl, hg, _⟩
 ·simp [blkOf] at hb
 ·simp [blkOf] at hb; omega
theorem srkLt (x y : Int) : ltOf Go.Lib.compareInt x y = decide (x < y) := by
 unfold ltOf Go.Lib.compareInt
 by_cases h1 : x < y
 ·simp [h1]
 ·by_cases h2 : y < x <;> simp [h1, h2]
theorem srkSwo : SWO (ltOf Go.Lib.compareInt) where
 irrefl x := by rw [srkLt]; simp
 trans x y z h1 h2 := by rw [srkLt] at *; simp at *; omega
 ntrans x y z h1 h2 := by rw [srkLt] at *; simp at *; omega
theorem srkReads (blk off size : Nat) (w : World) : CmpReads Tryz.prog 30 #[] (Value.int .i64) Go.Lib.compareInt blk off size w :=
 fun _ _ _ _ x y => (AnyG.cmp_Compare_int srkCmp x y _).mono fun _ _ ⟨he, hw⟩ => ⟨he, 0, hw⟩
theorem sortI_of_perm {a b : List Int} (h : a.Perm b) : sortI a = sortI b := sorted_unique _ _ ((sortI_perm a).trans (h.trans (sortI_perm b).symm)) (sortI_sorted a) (sortI_sorted b)
theorem srkMerge (ss : List Int) : ss.mergeSort (fun x y => !(ltOf Go.Lib.compareInt) y x) = sortI ss := by
 rw [← merge_sortI]
 congr 1
 funext x y
 rw [srkLt]
 by_cases h : y < x
 ·simp [h]
 ·simp [h]; omega
theorem insD_perm {H : Type} (x : Lit × DataW H) : ∀ l, (DataW.insert x l).Perm (x :: l)
 | [] => List.Perm.refl _
 | y :: r => by
  simp only [DataW.insert]
  split
  ·exact List.Perm.refl _
  ·exact ((insD_perm x r).cons y).trans (List.Perm.swap x y r)
theorem foldD_perm {H : Type} : ∀ l : List (Lit × DataW H), (l.foldr DataW.insert []).Perm l
 | [] => List.Perm.refl _
 | x :: l => (insD_perm x _).trans ((foldD_perm l).cons x)
def srkR : Value → Option (DataW Unit × List MemPlace) := fun _ => some (.nil, [])
theorem srkInfo : Tryz.prog.underlying 3 = some (.int .i64) := by kernel_rfl
def keysOk (m : List (Int × Int)) : Prop := (m.map (·.1)).Nodup ∧ (∀ p ∈ m, (Lit.int .i64 p.1).wf = true) ∧ m.length ≤ 17592186043904
instance (m : List (Int × Int)) : Decidable (keysOk m) := by unfold keysOk; exact inferInstance
def keysB (m : List (Int × Int)) : Bool := decide (keysOk m)
set_option maxHeartbeats 1000000 in
theorem srkSorted (Bm b : Nat) (es : Array MapEntry) (clock : Nat) (m : List (Int × Int)) (w : World) (hBm : Bm < w.heap.size) (hcell : w.cell? ⟨Bm, 0, none⟩ = some (.map (some b))) (hb : w.heap[b]? = some (.map es clock))
  (hes : es.size = m.length) (hk : ∀ (i : Nat) e p, es[i]? = some e → m[i]? = some p → e.key = .int .i64 p.1 ∧ e.born = i) (hclock : clock = m.length) (hm : keysOk m) :
  Calls Tryz.prog 28 #[.func (.func 42) #[] #[.pointer (some ⟨Bm, 0, none⟩)], .func (.func 30) #[] #[]] w fun e W' => ∃ v, e = .returned v ∧ W'.ownsRow w.heap.size 3 1 v m.length ((sortI (m.map (·.1))).map (Value.int .i64)) ∧ (∃ a l c, v = .slice a l c) ∧ Below w.heap.size w W' := by
 obtain ⟨hnd, hwf, hlen⟩ := hm
 have hmax : m.length ≤ maxLen := by simp [maxLen]; omega
 have hkeys : es.toList.map (·.key) = m.map (fun p => Value.int .i64 p.1) := by
  apply List.ext_getElem?
  intro i
  simp only [List.getElem?_map, Array.getElem?_toList]
  by_cases hi : i < m.length
  ·have h1 : es[i]? = some es[i] := Array.getElem?_eq_getElem (by omega)
   have h2 : m[i]? = some m[i] := List.getElem?_eq_getElem hi
   rw [h1, h2, Option.map_some, Option.map_some, (hk i _ _ h1 h2).1]
  ·rw [Array.getElem?_eq_none (by omega), List.getElem?_eq_none (by omega)]; rfl
 have hborn : es.toList.map (·.born) = List.range m.length := by
  apply List.ext_getElem?
  intro i
  simp only [List.getElem?_map, Array.getElem?_toList]
  by_cases hi : i < m.length
  ·have h1 : es[i]? = some es[i] := Array.getElem?_eq_getElem (by omega)
   have h2 : m[i]? = some m[i] := List.getElem?_eq_getElem hi
   rw [h1, Option.map_some, (hk i _ _ h1 h2).2, List.getElem?_range hi]
  ·rw [Array.getElem?_eq_none (by omega), List.getElem?_eq_none (by simp; omega)]; rfl
 have hrd : ∀ x ∈ es.toList, ∃ p ∈ m, x.key = .int .i64 p.1 ∧ Go.WideElems.rd (H := Unit) Tryz.prog 3 srkR x = some (.int .i64 p.1, .nil) := by
  intro x hx
  have h1 : x.key ∈ es.toList.map (·.key) := List.mem_map.2 ⟨x, hx, rfl⟩
  rw [hkeys] at h1
  obtain ⟨p, hp, hpe⟩ := List.mem_map.1 h1
  obtain ⟨xk, xv, xb⟩ := x
  simp only at hpe
  subst hpe
  exact ⟨p, hp, rfl, Go.WideElems.rd_mk (H := Unit) (yv := ((DataW.nil : DataW Unit), ([] : List MemPlace))) (Go.Maps.keyOf_int_mk srkInfo (hwf p hp)) rfl⟩
 have hfit : Go.WideElems.Fit Tryz.prog 3 srkR es clock := by
  refine ⟨by omega, ⟨fun x hx => ?_, by rw [hborn]; exact List.nodup_range, ?_⟩, fun x hx => ?_⟩
  ·have : x.born ∈ es.toList.map (·.born) := List.mem_map.2 ⟨x, hx, rfl⟩
   rw [hborn] at this
   have := List.mem_range.1 this
   omega
  ·rw [hkeys]
   have : (m.map (fun p => Value.int .i64 p.1)) = (m.map (·.1)).map (Value.int .i64) := by simp
   rw [this]
   exact List.Pairwise.map _ (fun a b hab e => hab (by injection e)) hnd
  ·obtain ⟨p, _, _, hr⟩ := hrd x hx
   exact ⟨_, hr⟩
 have hperm : (intKeys (DataW.map ((es.toList.map (Go.WideElems.rg Tryz.prog 3 srkR)).foldr DataW.insert []))).Perm (m.map (·.1)) := by
  have h1 := (foldD_perm (es.toList.map (Go.WideElems.rg Tryz.prog 3 srkR))).map (fun p : Lit × DataW Unit => intOf p.1)
  refine h1.trans ?_
  rw [List.map_map]
  have : es.toList.map ((fun p : Lit × DataW Unit => intOf p.1) ∘ Go.WideElems.rg Tryz.prog 3 srkR) = (es.toList.map (·.key)).map (fun v => match v with | .int _ n => n | _ => 0) := by
   rw [List.map_map]
   apply List.map_congr_left
   intro x hx
   obtain ⟨p, _, hkx, hr⟩ := hrd x hx
   simp only [Function.comp, Go.WideElems.rg_of hr, hkx]
   rfl
  rw [this, hkeys, List.map_map]
  exact List.Perm.of_eq (by apply List.map_congr_left; intro p _; rfl)
 have hsize : Maps.size (DataW.map ((es.toList.map (Go.WideElems.rg Tryz.prog 3 srkR)).foldr DataW.insert [])) = m.length := by
  show ((es.toList.map (Go.WideElems.rg Tryz.prog 3 srkR)).foldr DataW.insert []).length = m.length
  rw [(foldD_perm _).length_eq, List.length_map, Array.length_toList, hes]
 have hown : w.ownsMap Tryz.prog 3 srkR b m.length (DataW.map ((es.toList.map (Go.WideElems.rg Tryz.prog 3 srkR)).foldr DataW.insert [])) := ⟨es, clock, hb, hfit, by omega, rfl⟩
 have hseq : SeqGives Fence.wide 3 Tryz.prog 42 #[.pointer (some ⟨Bm, 0, none⟩)] encZ (fun ss => ss.Perm (intKeys (DataW.map ((es.toList.map (Go.WideElems.rg Tryz.prog 3 srkR)).foldr DataW.insert [])))) (Maps.size (DataW.map ((es.toList.map (Go.WideElems.rg Tryz.prog 3 srkR)).foldr DataW.insert []))) w :=
  AnyZI.keys_gives (ρ := srkKeys_ren) { srkKeys with } Fence.wide _ trivial rfl (by omega) Bm b m.length _ w hBm hcell hown
 have cC := AnyZI.collect_in srkColl Fence.wide 5 trivial trivial rfl (by omega) 42 #[.pointer (some ⟨Bm, 0, none⟩)] trivial (enters_of Tryz.func42 (by kernel_rfl) rfl) _ _ (by rw [hsize]; exact hmax) (by rw [hsize]; omega) w hseq
 change CallsIn _ _ Tryz.prog 40 _ _ _ at cC
 refine (callsIn_wide (n := 6)).1 ?_
 have hfC : Fence.wide.fn 40 := trivial
 have hfF : Fence.wide.fn 41 := trivial
 have h1 : 1 ≤ 6 := by omega
 refine callsIn_of_wp Tryz.func28 rfl trivial ?_ rfl
 simp only [Tryz.ntmps28, List.size_toArray, List.length_cons, List.length_nil, Nat.reduceAdd, Nat.reduceSub, Array.replicate_succ, Array.replicate_zero, List.push_toArray, List.append_toArray, List.nil_append, List.cons_append]
 gi_wp2_with (gi_at_call 40; refine cC.mono ?_; rintro e W ⟨v, ss, rfl, hS, hrow, hnil, hbw⟩)
 have hss : ss.Perm (m.map (·.1)) := hS.trans hperm
 have hsl : ss.length = m.length := by rw [hss.length_eq, List.length_map]
 rcases hrow.2 with ⟨rfl, hz⟩ | ⟨gb, cap, cur, rfl, hbase, hgb, r1, r2, r3, r4⟩
 ·have hs0 : ss = [] := List.eq_nil_of_length_eq_zero hz
  subst hs0
  gi_wp2_with (gi_at_call 41; refine (callsIn_wide.2 (AnyF.slices_SortFunc_none { srkSortF with } none 0 _ W)).mono ?_; rintro e w' ⟨rfl, rfl⟩)
  go_ret
  have hm0 : m = [] := List.eq_nil_of_length_eq_zero (by simpa using hsl.symm)
  subst hm0
  exact ⟨.slice none 0 0, rfl, hrow, ⟨_, _, _, rfl⟩, hbw⟩
 ·have hH : Holds (Value.int .i64) W gb 0 ss.toArray := holds_of_block_i hgb (by simpa using r4)
  have hgl : gb < W.heap.size := (Array.getElem?_eq_some_iff.1 hgb).1
  have hsz : ss.toArray.size < 4611686018427387904 := by simp; omega
  have cS := Any.slices_SortFunc_total srkSortF (Value.int .i64) (fun _ => rfl) Go.Lib.compareInt srkSwo 30 #[] gb 0 cap ss.toArray W (enters_of Tryz.func30 (by kernel_rfl) rfl) (srkReads gb 0 ss.toArray.size W).lays hH hgl hsz (fun x y h1 h2 => by rw [srkLt] at h1 h2; simp at h1 h2; omega)
  change Calls Tryz.prog 41 _ _ _ at cS
  rw [List.size_toArray] at cS
  gi_wp2_with (gi_at_call 41; refine (callsIn_wide.2 cS).mono ?_; rintro e w' ⟨rfl, nn, os, rfl⟩)
  go_ret
  have hso : sortI (m.map (·.1)) = ss.mergeSort (fun x y => !(ltOf Go.Lib.compareInt) y x) := by rw [srkMerge, sortI_of_perm hss]
  refine ⟨_, rfl, ?_, ⟨_, _, _, rfl⟩, hbw.grown (grownBy_sorted_i _) hbw.size (fun j hj => by cases hj; exact hbase)⟩
  rw [hso, ← hsl]
  exact ownsRow_sorted_i (by simp) hbase hgb r1 r2 r3
abbrev mapI (m : List (Int × Int)) : Ob := mapOb (.int .i64) (fun n : Int => .int .i64 n) (fun y : Int => (.one (.sc (.int .i64 y)) : MT)) m
set_option maxHeartbeats 1000000 in
theorem mkeys_fun (m : List (Int × Int)) (mo r : Oid) (hr : r ≠ mo) :
  Fun Tryz.prog 29 false [mo] [.c (.mapO mo)] (heapOf [(mo, mapI m)]) (.c (.fn 42 [.ptr r])) (heapOf [(mo, mapI m), (r, .box [.mapO mo])]) := by
 intro w ok B args hlt hbl hp ho
 have hr' : mo ≠ r := fun e => hr e.symm
 obtain ⟨v, rfl⟩ : ∃ v, args = [v] := by
  have := hp.1
  match args, this with
  | [v], _ => exact ⟨v, rfl⟩
 have hin : heapOf [(mo, mapI m)] mo = some (mapI m) := by simp [heapOf, Heap.put]
 have hv : RepC w ok B v (.mapO mo) := hp.2 0 v _ rfl rfl
 cases hv with
 | mapO _ b hB =>
  have hblt : b < w.heap.size := (ho.rep mo _ hin).lt (by rw [hB]; rfl)
  have cK : Calls Tryz.prog 29 #[.map (some b)] w fun e w' => e = .returned (.func (.func 42) #[] #[.pointer (some ⟨w.heap.size, 0, none⟩)]) ∧ w' = w.alloc (.cells #[.map (some b)] 63) := (callsIn_wide (n := 6)).1 (AnyZI.keys_in srkKeys Fence.wide 6 trivial rfl (some b) w)
  refine cK.mono ?_
  rintro e W' ⟨rfl, rfl⟩
  have key : ∀ o' ob, heapOf [(mo, mapI m), (r, Ob.box [.mapO mo])] o' = some ob → (o' = mo ∧ ob = mapI m) ∨ (o' = r ∧ ob = .box [.mapO mo]) := by
   intro o' ob hg
   by_cases e1 : o' = mo
   ·subst e1; simp [heapOf, Heap.put] at hg; exact .inl ⟨rfl, hg.symm⟩
   ·by_cases e2 : o' = r
    ·subst e2; simp [heapOf, Heap.put, e1] at hg; exact .inr ⟨rfl, hg.symm⟩
    ·simp [heapOf, Heap.put, e1, e2, noHeap] at hg
  have fr : Fr w (w.alloc (.cells #[.map (some b)] 63)) (blks B (heapOf [(mo, mapI m)])) := Fr.alloc w _ _
  have hok : ∀ k, ok k → okOf w.heap.size ok (w.alloc (.cells #[.map (some b)] 63)) (fun x => if x = r then .pointer (some ⟨w.heap.size, 0, none⟩) else B x) (heapOf [(mo, mapI m), (r, .box [.mapO mo])]) k := by
   intro k hk
   have hkl := hlt k hk
   refine ⟨by simp; omega, fun _ => hk, fun o' ob hg hbk => ?_⟩
   rcases key o' ob hg with ⟨rfl, _⟩ | ⟨rfl, _⟩
   ·simp only [if_neg hr'] at hbk
    exact hbl k hk ⟨o', _, hin, hbk⟩
   ·simp [blkOf] at hbk; omega
  refine ⟨_, fun x => if x = r then .pointer (some ⟨w.heap.size, 0, none⟩) else B x, rfl, fr, RepC.fn 42 [.pointer (some ⟨w.heap.size, 0, none⟩)] [.ptr r] ⟨rfl, fun j u x hu hx => ?_⟩, ⟨fun o' ob hg => ?_, fun o1 o2 ob1 ob2 k h1 h2 k1 k2 => ?_⟩, fun o' ob k hg hbk hkl => ?_, fun o' ho' => ?_⟩
  ·cases j with
   | zero => simp at hu hx; subst hu hx; exact .ptr r _ (by simp)
   | succ j => simp at hu
  ·rcases key o' ob hg with ⟨rfl, rfl⟩ | ⟨rfl, rfl⟩
   ·simp only [if_neg hr']
    refine (ho.rep o' _ hin).mono (fun k hk => (Fr.alloc w _ fun _ => False).block k (hlt k hk) id) hok (fun o'' ho'' => by simp [Ob.refs, mapI, mapOb] at ho'') (fun k hk => ?_)
    have : k < w.heap.size := (ho.rep o' _ hin).lt hk
    exact (Fr.alloc w _ fun _ => False).block k this id
   ·simp only [if_true]
    refine ⟨w.heap.size, #[.map (some b)], 63, rfl, World.alloc_heap_new w _, ⟨rfl, fun j u x hu hx => ?_⟩⟩
    cases j with
    | zero => simp at hu hx; subst hu hx; exact .mapO mo b (by simp only [if_neg hr']; exact hB)
    | succ j => simp at hu
  ·rcases key o1 ob1 h1 with ⟨rfl, _⟩ | ⟨rfl, _⟩ <;> rcases key o2 ob2 h2 with ⟨rfl, _⟩ | ⟨rfl, _⟩
   ·rfl
   ·exfalso
    simp only [if_true, if_neg hr'] at k1 k2
    rw [hB] at k1; simp [blkOf] at k1 k2; omega
   ·exfalso
    simp only [if_true, if_neg hr'] at k1 k2
    rw [hB] at k2; simp [blkOf] at k1 k2; omega
   ·rfl
  ·rcases key o' ob hg with ⟨rfl, _⟩ | ⟨rfl, _⟩
   ·simp only [if_neg hr'] at hbk
    exact ⟨o', _, hin, hbk⟩
   ·simp [blkOf] at hbk; omega
  ·simp at ho'; subst ho'; simp [hr']
set_option maxHeartbeats 1000000 in
theorem skeys_fun (m : List (Int × Int)) (hm : keysOk m) (o mo r : Oid) (h1 : r ≠ o) (h2 : r ≠ mo) (h3 : o ≠ mo) :
  Fun Tryz.prog 28 false [o, mo] [.c (.fn 42 [.ptr o]), .c (.fn 30 [])] (heapOf [(o, .box [.mapO mo]), (mo, mapI m)]) (.c (.slO r)) (heapOf [(o, .box [.mapO mo]), (mo, mapI m), (r, .arr 3 1 ((sortI (m.map (·.1))).map fun x => [tI x]))]) := by
 intro w ok B args hlt hbl hp ho
 have h1' : o ≠ r := fun e => h1 e.symm
 have h2' : mo ≠ r := fun e => h2 e.symm
 have h3' : mo ≠ o := fun e => h3 e.symm
 obtain ⟨v, u, rfl⟩ : ∃ v u, args = [v, u] := by
  have := hp.1
  match args, this with
  | [v, u], _ => exact ⟨v, u, rfl⟩
 have hino : heapOf [(o, .box [.mapO mo]), (mo, mapI m)] o = some (.box [.mapO mo]) := by simp [heapOf, Heap.put]
 have hinm : heapOf [(o, .box [.mapO mo]), (mo, mapI m)] mo = some (mapI m) := by simp [heapOf, Heap.put, h3']
 have hv : RepC w ok B v (.fn 42 [.ptr o]) := hp.2 0 v _ rfl rfl
 have hu : RepC w ok B u (.fn 30 []) := hp.2 1 u _ rfl rfl
 cases hu with
 | fn f2 cs2 caps2 hc2 =>
 have : cs2 = [] := by have := hc2.1; simpa using this
 subst this
 cases hv with
 | fn f cs caps hc =>
  obtain ⟨q, rfl⟩ : ∃ q, cs = [q] := by
   have := hc.1
   match cs, this with
   | [q], _ => exact ⟨q, rfl⟩
  have hq : RepCap w ok B q (.ptr o) := hc.2 0 q _ rfl rfl
  cases hq with
  | ptr _ Bm hB =>
   obtain ⟨b', c, t, e1, hbm, hcs⟩ := ho.rep o _ hino
   rw [hB] at e1
   obtain rfl : Bm = b' := by injection e1 with e1; injection e1 with e1; injection e1
   obtain ⟨sv, hc1⟩ : ∃ sv, c = #[sv] := by
    have := hcs.1
    match c, this with
    | ⟨[sv]⟩, _ => exact ⟨sv, rfl⟩
   subst hc1
   have hsv : RepC w ok B sv (.mapO mo) := hcs.2 0 sv _ rfl rfl
   cases hsv with
   | mapO _ b hBm =>
    obtain ⟨b2, es', clock, e2, hbb, hclk, hsz, hent⟩ := ho.rep mo _ hinm
    rw [hBm] at e2
    obtain rfl : b = b2 := by injection e2 with e2; injection e2
    have hBlt : Bm < w.heap.size := (Array.getElem?_eq_some_iff.1 hbm).1
    have hblt : b < w.heap.size := (Array.getElem?_eq_some_iff.1 hbb).1
    have hcell : w.cell? ⟨Bm, 0, none⟩ = some (.map (some b)) := by simp [World.cell?, hbm]
    refine (srkSorted Bm b es' clock m w hBlt hcell hbb (by simpa using hsz) (fun i e p he hp2 => ?_) (by simpa using hclk) hm).mono ?_
    ·have := hent i e ((fun p : Int × Int => (Value.int .i64 p.1, (.one (.sc (.int .i64 p.2)) : MT))) p) he (by simp [hp2])
     exact ⟨this.1, this.2.2.1⟩
    rintro e W' ⟨v', rfl, hrow, ⟨a, l, c', rfl⟩, hbw⟩
    have key : ∀ o' ob, heapOf [(o, .box [.mapO mo]), (mo, mapI m), (r, .arr 3 1 ((sortI (m.map (·.1))).map fun x => [tI x]))] o' = some ob → (o' = o ∧ ob = .box [.mapO mo]) ∨ (o' = mo ∧ ob = mapI m) ∨ (o' = r ∧ ob = .arr 3 1 ((sortI (m.map (·.1))).map fun x => [tI x])) := by
     intro o' ob hg
     by_cases e1 : o' = o
     ·subst e1; simp [heapOf, Heap.put] at hg; exact .inl ⟨rfl, hg.symm⟩
     ·by_cases e2 : o' = mo
      ·subst e2; simp [heapOf, Heap.put, h3'] at hg; exact .inr (.inl ⟨rfl, hg.symm⟩)
      ·by_cases e3 : o' = r
       ·subst e3; simp [heapOf, Heap.put, e1, e2] at hg; exact .inr (.inr ⟨rfl, hg.symm⟩)
       ·simp [heapOf, Heap.put, e1, e2, e3, noHeap] at hg
    have hok : ∀ k, ok k → okOf w.heap.size ok W' (fun x => if x = r then .slice a l c' else B x) (heapOf [(o, .box [.mapO mo]), (mo, mapI m), (r, .arr 3 1 ((sortI (m.map (·.1))).map fun x => [tI x]))]) k := by
     intro k hk
     have hkl := hlt k hk
     refine ⟨by have := hbw.size; omega, fun _ => hk, fun o' ob hg hbk => ?_⟩
     rcases key o' ob hg with ⟨rfl, _⟩ | ⟨rfl, _⟩ | ⟨rfl, _⟩
     ·simp only [if_neg h1'] at hbk
      exact hbl k hk ⟨o', _, hino, hbk⟩
     ·simp only [if_neg h2'] at hbk
      exact hbl k hk ⟨o', _, hinm, hbk⟩
     ·simp only [if_true] at hbk
      have := blk_row hrow hbk; omega
    refine ⟨_, fun x => if x = r then .slice a l c' else B x, rfl, ⟨hbw.os, hbw.tape, hbw.output, hbw.size, fun k hk _ => hbw.block k hk⟩, RepC.slO r a l c' (by simp), ⟨fun o' ob hg => ?_, fun o1 o2 ob1 ob2 k g1 g2 k1 k2 => ?_⟩, fun o' ob k hg hbk hkl => ?_, fun o' ho' => ?_⟩
    ·rcases key o' ob hg with ⟨rfl, rfl⟩ | ⟨rfl, rfl⟩ | ⟨rfl, rfl⟩
     ·simp only [if_neg h1']
      refine (ho.rep o' _ hino).mono (fun k hk => hbw.block k (hlt k hk)) hok (fun o'' ho'' => ?_) (fun k hk => hbw.block k ((ho.rep o' _ hino).lt hk))
      simp [Ob.refs, C.refs] at ho''
      subst ho''
      simp [h2']
     ·simp only [if_neg h2']
      exact (ho.rep o' _ hinm).mono (fun k hk => hbw.block k (hlt k hk)) hok (fun o'' ho'' => by simp [Ob.refs, mapI, mapOb] at ho'') (fun k hk => hbw.block k ((ho.rep o' _ hinm).lt hk))
     ·simp only [if_true]
      refine ⟨by omega, fun row hrw => ?_, (sortI (m.map (·.1))).map (Value.int .i64), ?_, ?_⟩
      ·obtain ⟨x, _, rfl⟩ := List.mem_map.1 hrw; rfl
      ·have := ownsRow_base_a hrow (Nat.zero_le _)
       simpa [(sortI_perm (m.map (·.1))).length_eq] using this
      ·have hfl : ((sortI (m.map (·.1))).map fun x => [tI x]).flatten = (sortI (m.map (·.1))).map tI := by
        induction sortI (m.map (·.1)) with
        | nil => rfl
        | cons x l ih => simp [ih]
       rw [hfl]
       refine ⟨by simp, fun j u x hu hx => ?_⟩
       simp only [List.getElem?_map, Option.map_eq_some_iff] at hu hx
       obtain ⟨y, hy, rfl⟩ := hu
       obtain ⟨z, hz, rfl⟩ := hx
       rw [hy] at hz; cases hz
       exact .sc _ rfl
    ·have old : ∀ o' ob, (heapOf [(o, .box [.mapO mo]), (mo, mapI m)]) o' = some ob → ∀ k, blkOf (B o') = some k → k < w.heap.size := fun o' ob hg k hk => (ho.rep o' ob hg).lt hk
     rcases key o1 ob1 g1 with ⟨rfl, rfl⟩ | ⟨rfl, rfl⟩ | ⟨rfl, rfl⟩ <;> rcases key o2 ob2 g2 with ⟨rfl, rfl⟩ | ⟨rfl, rfl⟩ | ⟨rfl, rfl⟩
     ·rfl
     ·simp only [if_neg h1', if_neg h2'] at k1 k2; exact ho.apart _ _ _ _ k hino hinm k1 k2
     ·exfalso; simp only [if_neg h1', if_true] at k1 k2; have := old _ _ hino k k1; have := blk_row hrow k2; omega
     ·simp only [if_neg h1', if_neg h2'] at k1 k2; exact ho.apart _ _ _ _ k hinm hino k1 k2
     ·rfl
     ·exfalso; simp only [if_neg h2', if_true] at k1 k2; have := old _ _ hinm k k1; have := blk_row hrow k2; omega
     ·exfalso; simp only [if_neg h1', if_true] at k1 k2; have := old _ _ hino k k2; have := blk_row hrow k1; omega
     ·exfalso; simp only [if_neg h2', if_true] at k1 k2; have := old _ _ hinm k k2; have := blk_row hrow k1; omega
     ·rfl
    ·rcases key o' ob hg with ⟨rfl, _⟩ | ⟨rfl, _⟩ | ⟨rfl, _⟩
     ·simp only [if_neg h1'] at hbk
      exact ⟨o', _, hino, hbk⟩
     ·simp only [if_neg h2'] at hbk
      exact ⟨o', _, hinm, hbk⟩
     ·simp only [if_true] at hbk
      have := blk_row hrow hbk; omega
    ·rcases List.mem_cons.1 ho' with rfl | ho'
     ·simp [h1']
     ·simp at ho'; subst ho'; simp [h2']
end Go.VM
