/- The functions of the layer, walked by symbols in the raw machine, and their contracts. -/
import Derived.Test.YtliccamocpglcaaHx1
import Derived.Test.YtliccamocpglcaaRows
import Derived.KernelRfl
import Derived.RangeFuncNested
import Derived.RangeFuncBound
import Derived.RangeFuncCalls
import Derived.RangeFuncLeaves
import Derived.RangeFuncBox
import Derived.Shelf.Abstract
import Derived.WalkKit
import Derived.OwnWalkIn
import Derived.TacticsInMore
import Derived.LoopNIn
import Derived.LoopIn
import Derived.Shelf.SlSortCmp.NoneTotal
import Derived.Shelf.SlicesG.Cmp
import Derived.Ground.SlsfProg
import Derived.Ground.SlgcProg
import Derived.Deep.RegionHeld3
import Derived.Lib.Walk
import Derived.Handy
namespace Go.RM
open Go.VM (T lJ tI)
def p_heap_Retained_asg:RF:=⟨.region none [(⟨(some 9),.mv (.tmp 31),none⟩,2147483648)],[]⟩
def p_heap_Retained_bod:RF:=⟨.block 1 (.seq (.region (some [0,0,3,7,0,16,0,112,240,496,1023,2047,4095]) [(⟨(some 32),.load 1 false (.tmp 7),none⟩,128),(⟨(some 33),.mv (.tmp 9),none⟩,512),(⟨(some 34),.ixA 1 (.tmp 32) (.tmp 33),none⟩,12884901888),(⟨(some 35),.load 1 false (.tmp 34),none⟩,17179869184),(⟨(some 36),.fld 0 (.tmp 1),none⟩,2),(⟨(some 37),.load 1 false (.tmp 36),none⟩,68719476736),(⟨(some 38),.mv (.tmp 9),none⟩,512),(⟨(some 39),.ixA 4 (.tmp 37) (.tmp 38),none⟩,412316860416),(⟨(some 40),.fld 1 (.tmp 39),none⟩,549755813888),(⟨(some 41),.load 1 false (.tmp 40),none⟩,1099511627776),(⟨(some 42),.bin .add (.tmp 35) (.tmp 41),none⟩,2233382993920),(⟨(some 43),.ixA 1 (.tmp 32) (.tmp 33),none⟩,12884901888),(⟨none,.store 1 (.tmp 43) (.tmp 42),none⟩,13194139533312)]) (.region (some [0,0,2,6,14,0,62,126,255,511,0,0,3072,7168,16383,32767,65535]) [(⟨(some 44),.load 1 false (.tmp 7),none⟩,128),(⟨(some 45),.load 1 false (.tmp 6),none⟩,64),(⟨(some 46),.nilc (.tmp 45),none⟩,35184372088832),(⟨(some 47),.fld 0 (.tmp 46),none⟩,70368744177664),(⟨(some 48),.load 1 false (.tmp 47),none⟩,140737488355328),(⟨(some 49),.mv (.tmp 9),none⟩,512),(⟨(some 50),.ixA 1 (.tmp 48) (.tmp 49),none⟩,844424930131968),(⟨(some 51),.load 1 false (.tmp 50),none⟩,1125899906842624),(⟨(some 52),.ixA 1 (.tmp 44) (.tmp 51),none⟩,2269391999729664),(⟨(some 53),.load 1 false (.tmp 52),none⟩,4503599627370496),(⟨(some 54),.load 1 false (.tmp 7),none⟩,128),(⟨(some 55),.mv (.tmp 9),none⟩,512),(⟨(some 56),.ixA 1 (.tmp 54) (.tmp 55),none⟩,54043195528445952),(⟨(some 57),.load 1 false (.tmp 56),none⟩,72057594037927936),(⟨(some 58),.bin .add (.tmp 53) (.tmp 57),none⟩,153122387330596864),(⟨(some 59),.ixA 1 (.tmp 44) (.tmp 51),none⟩,2269391999729664),(⟨none,.store 1 (.tmp 59) (.tmp 58),none⟩,864691128455135232)])),[]⟩
def Yq (szs zs:List Int) (i:Nat):List Int:=zs.set i (IntKind.i64.wrap (zs.getD i 0 + szs.getD i 0))
def akV (dv:List Nat) (zs:List Int) (i:Nat):List Int:=zs.set (dv.getD i 0) (IntKind.i64.wrap (zs.getD (dv.getD i 0) 0 + zs.getD i 0))
def DK (szs:List Int) (dv:List Nat) (zs:List Int) (i:Nat):List Int:=akV dv (Yq szs zs i) i
set_option maxHeartbeats 4000000 in
theorem aAJ {orc:bZ} {b:Nat} {t:S} (hSt:Sb b t) {obs:List HO} {rts:List T} {roots:List (List T)} {hb n6 n7 pd mv mk mz i:Nat} {dv:List Nat} {dk:List Bool} {zs:List Int} {Γ:Tr V}
  (g1:look Γ 1 = .c (.ptr hb 0)) (g6:look Γ 6 = .c (.ptr n6 0)) (g7:look Γ 7 = .c (.ptr n7 0)) (g9:look Γ 9 = iV (i:Int))
  (e1:t.h.get hb = some (.cells cK [.im 4 (obs.map cX),.im 1 roots])) (e6:t.h.get n6 = some (.cells lK [.ptr pd 0])) (e7:t.h.get n7 = some (.cells iX [.sl mz 1 0 zs.length])) (hN:Nums t.h.get pd mv mk dv dk) (ez:t.h.get mz = some (.cells cq (zs.map sI)))
  (hn:obs.length≤60) (hi:i < obs.length) (hzl:zs.length = obs.length + 1) (hdl:dv.length = obs.length + 1) (hd:∀ v∈dv,v < obs.length + 1)
  (hne:mz ≠ hb∧mz ≠ n6∧mz ≠ n7∧mz ≠ pd∧mz ≠ mv∧mz ≠ mk) (hb0:b≤mz∧b≤hb∧b≤n6∧b≤n7∧b≤pd∧b≤mv) :
  Wp orc p_T p_heap_Retained_bod.code Γ t (fun k=>b≤k) True fun e Γ t'=>e = .normal∧Sb b t'∧t'.c = t.c∧t'.h.get mz = some (.cells cq ((DK (obs.map HO.size) dv zs i).map sI))∧∀ k,k ≠ mz→t'.h.get k = t.h.get k:=by
 unfold p_heap_Retained_bod
 obtain ⟨b1,b2,b3,b4,b5,b6⟩:=hb0
 have c1:=hSt.lt ez
 have d1:=hN.box
 have d2:=hN.vals
 have o1:(obs.map cX)[i]? = some (cX (obs[i])):=by rw [gk,ck hi]; rfl
 have z1:(zs.map sI)[i]? = some (sI (zs[i]'(by omega))):=by rw [gk,ck (by omega)]; rfl
 have v1:(dv.map nI)[i]? = some (nI (dv[i]'(by omega))):=by rw [gk,ck (by omega)]; rfl
 have hdi:=hd (dv[i]'(by omega)) (List.getElem_mem _)
 refine dz ?_
 replace G:=bw g1 (bw g6 (bw g7 g9))
 refine az (oW rfl ?_)
 refine wK rfl (by first | exact MS.load1 (by simp only [evS,Nat.reduceEqDiff,reduceIte,List.length_map,G]; first | done | rfl) (by assumption) (by first | rfl | assumption | (simp only [pw,gk,List.length_map,G]; done) | simp) | exact MS.loadI1 (by simp only [evS,Nat.reduceEqDiff,reduceIte,List.length_map,G]; first | done | rfl) | exact MS.loadI2 (by simp only [evS,Nat.reduceEqDiff,reduceIte,List.length_map,G]; first | done | rfl)) (fun k hk=>by first | exact False.elim hk | (dsimp only at hk ⊢; omega) | omega) (fun x hx=>by simp at hx) ?_
 refine rVL ?_
 refine rXL ?_
 refine rLL ?_
 refine rPL ?_
 refine rLL ?_
 refine rVL ?_
 refine rXL ?_
 refine rPL ?_
 refine rLL ?_
 refine rPL ?_
 refine rXL ?_
 refine rTL ?_
 refine xz hSt (by omega) (by omega) ?_
 intro s1 hst1 hsc1 hS1
 first | replace e1:=hst1.at e1 (by omega) | replace e1:=hst1.self
 first | replace e6:=hst1.at e6 (by omega) | replace e6:=hst1.self
 first | replace e7:=hst1.at e7 (by omega) | replace e7:=hst1.self
 first | replace ez:=hst1.at ez (by omega) | replace ez:=hst1.self
 first | replace d1:=hst1.at d1 (by omega) | replace d1:=hst1.self
 first | replace d2:=hst1.at d2 (by omega) | replace d2:=hst1.self
 refine uX ?_
 dsimp only [aj]
 have hr1:(zs.map sI).set i (.sc (.int .i64 (IntKind.i64.wrap (zs[i]'(by omega) + obs[i].size)))) = (Yq (obs.map HO.size) zs i).map sI:=by
  unfold Yq
  rw [List.map_set,List.getD,List.getD,gk,ck (by omega),ck hi]
  rfl
 rw [hr1] at ez
 have hk1:∀ k,k ≠ mz→s1.h.get k = t.h.get k:=hst1.keep
 try clear G
 clear hst1 z1 o1
 obtain ⟨zs1,hzs1⟩ : ∃ zs1,zs1 = Yq (obs.map HO.size) zs i:=⟨_,rfl⟩
 have hl1:zs1.length = obs.length + 1:=by rw [hzs1,Yq,vw]; exact hzl
 rw [← hzs1] at ez
 have z2:(zs1.map sI)[i]? = some (sI (zs1[i]'(by omega))):=by rw [gk,ck (by omega)]; rfl
 have z3:(zs1.map sI)[dv[i]'(by omega)]? = some (sI (zs1[dv[i]'(by omega)]'(by omega))):=by rw [gk,ck (by omega)]; rfl
 replace G:=bw g1 (bw g6 (bw g7 g9))
 refine oW rfl ?_
 refine wK rfl (by first | exact MS.load1 (by simp only [evS,Nat.reduceEqDiff,reduceIte,List.length_map,G]; first | done | rfl) (by assumption) (by first | rfl | assumption | (simp only [pw,gk,List.length_map,G]; done) | simp) | exact MS.loadI1 (by simp only [evS,Nat.reduceEqDiff,reduceIte,List.length_map,G]; first | done | rfl) | exact MS.loadI2 (by simp only [evS,Nat.reduceEqDiff,reduceIte,List.length_map,G]; first | done | rfl)) (fun k hk=>by first | exact False.elim hk | (dsimp only at hk ⊢; omega) | omega) (fun x hx=>by simp at hx) ?_
 refine rLL ?_
 refine rPL ?_
 refine rPL ?_
 refine rLL ?_
 refine rVL ?_
 refine rXL ?_
 refine rLL ?_
 refine rXL ?_
 refine rLL ?_
 refine rLL ?_
 refine rVL ?_
 refine rXL ?_
 refine rLL ?_
 refine rPL ?_
 refine rXL ?_
 refine rTL ?_
 refine xz hS1 (by omega) (by omega) ?_
 intro s2 hst2 hsc2 hS2
 first | replace e1:=hst2.at e1 (by omega) | replace e1:=hst2.self
 first | replace e6:=hst2.at e6 (by omega) | replace e6:=hst2.self
 first | replace e7:=hst2.at e7 (by omega) | replace e7:=hst2.self
 first | replace ez:=hst2.at ez (by omega) | replace ez:=hst2.self
 first | replace d1:=hst2.at d1 (by omega) | replace d1:=hst2.self
 first | replace d2:=hst2.at d2 (by omega) | replace d2:=hst2.self
 refine uX ?_
 try dsimp only [aj]
 refine ⟨rfl,hS2,by omega,?_,fun k hk=>by rw [hst2.keep k hk,hk1 k hk]⟩
 rw [hst2.self]
 have hr2:(zs1.map sI).set (dv[i]'(by omega)) (.sc (.int .i64 (IntKind.i64.wrap ((zs1[dv[i]'(by omega)]'(by omega)) + zs1[i]'(by omega))))) = (akV dv zs1 i).map sI:=by
  unfold akV
  rw [List.map_set,show dv.getD i 0 = dv[i]'(by omega) by simp only [List.getD]; rw [ck (by omega)]; rfl,List.getD,List.getD,ck (by omega),ck (by omega)]
  rfl
 rw [DK,← hzs1,← hr2]
end Go.RM
namespace Go.RM
open Go.VM (T lJ tI)
def p_heap_Retained_pre:RF:=⟨.seq (.region none [(⟨(some 1),.box cK (.tmp 0),none⟩,1),(⟨(some 2),.mv (.con (.c (.sc (.slice none 0 0)))),none⟩,0),(⟨(some 3),.mv (.con (.c (.sc (.int .i64 0)))),none⟩,0)]) (.seq (.seq (.region none [(⟨(some 10),.load 2 true (.tmp 1),none⟩,2),(⟨(some 11),.call iY [(.tmp 10)],none⟩,1024),(⟨(some 4),.mv (.tmp 11),none⟩,2048)]) (.seq (.region none [(⟨(some 12),.mv (.tmp 4),none⟩,16),(⟨(some 13),.bin .neq (.tmp 12) (.con (.c (.sc (.int .i64 0)))),none⟩,4096)]) (.cond (.tmp 13) (.seq (.region none [(⟨(some 14),.mv (.tmp 4),none⟩,16),(⟨(some 2),.mv (.con (.c (.sc (.slice none 0 0)))),none⟩,0),(⟨(some 3),.mv (.tmp 14),none⟩,16384)]) (.ret)) (.skip)))) (.seq (.region none [(⟨(some 15),.load 2 true (.tmp 1),none⟩,2),(⟨(some 16),.call kz [(.tmp 15)],none⟩,32768),(⟨(some 5),.mv (.tmp 16),none⟩,65536)]) (.seq (.region none [(⟨(some 17),.mv (.tmp 5),none⟩,32),(⟨(some 18),.call e8 [(.tmp 17)],none⟩,131072),(⟨(some 6),.alloc lK [(.sc (.pointer none))],none⟩,0),(⟨none,.store 1 (.tmp 6) (.tmp 18),none⟩,262208)]) (.seq (.region none [(⟨(some 19),.fld 0 (.tmp 1),none⟩,2),(⟨(some 20),.load 1 false (.tmp 19),none⟩,524288),(⟨(some 21),.lenS (.tmp 20),none⟩,1048576),(⟨(some 22),.bin .add (.tmp 21) (.con (.c (.sc (.int .i64 1)))),none⟩,2097152),(⟨(some 23),.mksl cq 1 8 [(.sc (.int .i64 0))] (.tmp 22) (.tmp 22),none⟩,4194304),(⟨(some 7),.alloc iX [(.sc (.slice none 0 0))],none⟩,0),(⟨none,.store 1 (.tmp 7) (.tmp 23),none⟩,8388736)]) (.region none [(⟨(some 24),.mv (.tmp 5),none⟩,32),(⟨(some 25),.nilc (.tmp 24),none⟩,16777216),(⟨(some 26),.fld 2 (.tmp 25),none⟩,33554432),(⟨(some 27),.load 1 false (.tmp 26),none⟩,67108864),(⟨(some 28),.sub 1 (.tmp 27) (some (.con (.c (.sc (.int .i64 1))))) none,none⟩,134217728),(⟨(some 29),.call fV [(.tmp 28)],none⟩,268435456)]))))),[]⟩
def p_heap_Retained_post:RF:=⟨.seq (.region none [(⟨(some 60),.load 1 false (.tmp 7),none⟩,128),(⟨(some 61),.fld 0 (.tmp 1),none⟩,2),(⟨(some 62),.load 1 false (.tmp 61),none⟩,2305843009213693952),(⟨(some 63),.lenS (.tmp 62),none⟩,4611686018427387904),(⟨(some 64),.sub 1 (.tmp 60) none (some (.tmp 63)),none⟩,10376293541461622784),(⟨(some 2),.mv (.tmp 64),none⟩,18446744073709551616),(⟨(some 3),.mv (.con (.c (.sc (.int .i64 0)))),none⟩,0)]) (.ret),[.tmp 2,.tmp 3]⟩
set_option maxHeartbeats 4000000 in
theorem ZY {orc:bZ} {b:Nat} {s:S} (hS:Sb b s) (x:X):Cp orc p_T fV [.c x] s (fun k=>b≤k) True fun v s'=>v = .c (.fn dV [.ptr s.c 0])∧Sb b s'∧s'.c = s.c + 1∧s'.h.get s.c = some (.cells iX [x])∧∀ k,k < s.c→s'.h.get k = s.h.get k:=by
 have hle:=hS.le
 refine jV (rf:=fK) rfl ?_
 unfold fK
 obtain ⟨Γ,hΓ⟩ : ∃ Γ,Γ = ofL [V.c x] 0 .lf:=⟨_,rfl⟩
 have g0:look Γ 0 = .c x:=by rw [hΓ]; rfl
 rw [← hΓ]
 try clear G
 clear hΓ
 replace G:=g0
 refine az (aq ?_)
 refine m9 rfl (MS.box hS (by simp only [evS,Nat.reduceEqDiff,reduceIte,b9,G]; first | done | rfl)) (fun k hk=>by first | exact False.elim hk | (dsimp only at hk ⊢; omega) | omega) ?_
 refine dW hS ?_
 intro s1 hst1 hsc1 hS1
 have hn1:=hst1.self
 refine qV ?_
 refine aQ ?_
 dsimp only [aj]
 refine az (aq ?_)
 refine dq rfl (by simp only [evS,Nat.reduceEqDiff,reduceIte,PU,bQ,scV,bV,iV,cV,isB,isI,mX,tq,mkV,Y6,List.mapM_cons,List.mapM_nil,Option.pure_def,Option.bind_eq_bind,G]; try rfl) ?_
 refine qV ?_
 refine aQ ?_
 dsimp only [aj]
 refine nZ ?_
 exact ⟨.inr rfl,[.c (.fn dV [.ptr s.c 0])],0,by simp only [tz,evS,Nat.reduceEqDiff,reduceIte]; rfl,cY,rfl,hS1,by omega,hn1,fun k hk=>hst1.keep k (by omega)⟩
def L4 (orc:bZ) (rows roots:List (List T)) (e:Int):Prop :=
 ∀ s,Cp orc aIW iY [.agg [.im 4 rows,.im 1 roots]] s (fun _=>False) True fun v s'=>s = s'∧v = iV e
set_option maxHeartbeats 4000000 in
theorem N9 {orc:bZ} {b:Nat} {s:S} (hS:Sb b s) {rows roots:List (List T)} {e:Int} (hc:L4 orc rows roots e) (he:e ≠ 0) :
  Cp orc aIW jj [.agg [.im 4 rows,.im 1 roots]] s (fun k=>b≤k) True fun v s'=>v = .tup [.c (.sc cV),iV e]∧Sb b s':=by
 have hle:=hS.le
 refine jV (rf:=uz) rfl ?_
 unfold uz
 obtain ⟨Γ,hΓ⟩ : ∃ Γ,Γ = ofL [V.agg [.im 4 rows,.im 1 roots]] 0 .lf:=⟨_,rfl⟩
 have g0:look Γ 0 = .agg [.im 4 rows,.im 1 roots]:=by rw [hΓ]; rfl
 rw [← hΓ]
 try clear G
 clear hΓ
 replace G:=g0
 refine az (aq ?_)
 refine m9 rfl (MS.box hS (by simp only [evS,Nat.reduceEqDiff,reduceIte,b9,G]; first | done | rfl)) (fun k hk=>by first | exact False.elim hk | (dsimp only at hk ⊢; omega) | omega) ?_
 refine dW hS ?_
 intro s1 hst1 hsc1 hS1
 have hn1:=hst1.self
 refine qV ?_
 refine qV ?_
 refine aQ ?_
 dsimp only [aj]
 refine az (az ?_)
 refine aq ?_
 refine qA ?_
 refine qC (hC:=hc s1) (h:=?_)
 intro v2 s2 hq2
 obtain ⟨rfl,rfl⟩:=hq2
 refine qV ?_
 refine aQ ?_
 try dsimp only [aj]
 refine az (aq ?_)
 refine qV ?_
 refine qP ?_
 refine aQ ?_
 dsimp only [aj]
 refine aW (t:=true) ?_ ?_
 ·simp only [evS,Nat.reduceEqDiff,reduceIte]
  rw [vk he]
  rfl
 dsimp only [cond_true]
 refine az (aq ?_)
 refine qV ?_
 refine qV ?_
 refine qV ?_
 refine aQ ?_
 dsimp only [aj]
 refine nZ ?_
 exact ⟨.inr rfl,[.c (.sc cV),iV e],0,by simp only [tz,evS,Nat.reduceEqDiff,reduceIte]; rfl,cY,rfl,by assumption⟩
structure axX (b:Nat) (obs:List HO) (rts:List Int) (ord dv:List Nat) (dk:List Bool) (zs:List Int) (hb n6 n7 pd mv mk mz nb no:Nat) (s:S):Prop where
 sb:Sb b s
 e1:s.h.get hb = some (.cells cK [.im 4 (obs.map cX),.im 1 (rts.map eX)])
 e6:s.h.get n6 = some (.cells lK [.ptr pd 0])
 e7:s.h.get n7 = some (.cells iX [.sl mz 1 0 zs.length])
 nums:Nums s.h.get pd mv mk dv dk
 ez:s.h.get mz = some (.cells cq (zs.map sI))
 eb:s.h.get nb = some (.cells iX [.sl no 1 1 (ord.length - 1)])
 eo:s.h.get no = some (.cells cq (ord.map nI))
 ne:mz ≠ hb∧mz ≠ n6∧mz ≠ n7∧mz ≠ pd∧mz ≠ mv∧mz ≠ mk∧mz ≠ nb∧mz ≠ no
 le:b≤mz∧b≤hb∧b≤n6∧b≤n7∧b≤pd∧b≤mv∧b≤nb∧b≤no
set_option maxHeartbeats 4000000 in
theorem aLq {orc:bZ} {b:Nat} {s:S} (hS:Sb b s) {obs:List HO} {rts:List Int} {to fr:List (List Nat)} {ord vals:List Nat} {known:List Bool} (hB:AV orc obs rts to fr ord vals known) {dv:List Nat} {dk:List Bool} (hD:acx orc to fr ord vals known dv dk) (hc:kY orc (obs.map cX) (rts.map eX) 0) (hol:1≤ord.length) {Γ:Tr V} (g0:look Γ 0 = .agg [.im 4 (obs.map cX),.im 1 (rts.map eX)]) :
  Wp orc p_T p_heap_Retained_pre.code Γ s (fun k=>b≤k) True fun e Γ t=>e = .normal∧∃ hb n6 n7 pd mv mk mz nb no,look Γ 1 = .c (.ptr hb 0)∧look Γ 6 = .c (.ptr n6 0)∧look Γ 7 = .c (.ptr n7 0)∧look Γ 29 = .c (.fn dV [.ptr nb 0])∧axX b obs rts ord dv dk (List.replicate (obs.length + 1) 0) hb n6 n7 pd mv mk mz nb no t:=by
 have hle:=hS.le
 unfold p_heap_Retained_pre
 replace G:=g0
 refine az (aq ?_)
 refine m9 rfl (MS.box hS (by simp only [evS,Nat.reduceEqDiff,reduceIte,b9,G]; first | done | rfl)) (fun k hk=>by first | exact False.elim hk | (dsimp only at hk ⊢; omega) | omega) ?_
 refine dW hS ?_
 intro s1 hst1 hsc1 hS1
 have hn1:=hst1.self
 refine qV ?_
 refine qV ?_
 refine aQ ?_
 dsimp only [aj]
 refine az (az ?_)
 refine aq ?_
 refine qA ?_
 refine qC (hC:=hc s1) (h:=?_)
 intro v2 s2 hq2
 obtain ⟨rfl,rfl⟩:=hq2
 refine qV ?_
 refine aQ ?_
 try dsimp only [aj]
 refine az (aq ?_)
 refine qV ?_
 refine qP ?_
 refine aQ ?_
 dsimp only [aj]
 refine aW (t:=false) ?_ (eY ?_)
 ·simp only [evS,Nat.reduceEqDiff,reduceIte]; rfl
 dsimp only [aj]
 have hsm:=hB.small
 have hvl:=hD.vl
 have hkl:=hD.kl
 rw [hB.tol] at hvl hkl
 replace G:=g0
 refine az (aq ?_)
 refine qAL ?_
 refine qCL (hC:=hB.cp b s1 hS1) (h:=?_)
 intro v3 s3 hq3
 obtain ⟨g,rfl,hSg,hcg,hkg,hG⟩:=hq3
 replace hn1:s3.h.get _ = _:=(hkg _ (by omega)).trans hn1
 refine qVL ?_
 refine aQ ?_
 dsimp only [aj]
 refine az (aq ?_)
 refine qVL ?_
 refine qCL (hC:=hD.cp b s3 g hSg hG) (h:=?_)
 intro v4 s4 hq4
 obtain ⟨pd,mv,mk,rfl,hSd,hcd,hN,⟨lo1,lo2,lo3⟩,hkd⟩:=hq4
 replace hn1:s4.h.get _ = _:=(hkd _ (by omega)).trans hn1
 replace hG:=hG.keep (h':=s4.h.get) (fun k _ hk=>hkd k hk)
 have d1:=hN.box
 have d2:=hN.vals
 have d3:=hN.known
 obtain ⟨own,nt,nf,no,np,nv,nk,xs,xf,q1,_,_,q4,_,_,⟨v1,_,_,v4,_,_,_⟩,⟨u1,_,_,u4,_,_,_⟩⟩:=hG.ex
 have cN:=hSd.lt d1
 have cN2:=hSd.lt d2
 have cN3:=hSd.lt d3
 refine qM (MS.alloc hSd) ?_
 refine dW hSd ?_
 intro s5 hst5 hsc5 hS5
 replace hn1:=hst5.at hn1 (by omega)
 replace d1:=hst5.at d1 (by omega)
 replace d2:=hst5.at d2 (by omega)
 replace d3:=hst5.at d3 (by omega)
 replace q1:=hst5.at q1 (by omega)
 replace q4:=hst5.at q4 (by omega)
 have hn5:=hst5.self
 refine qTL ?_
 refine t8 hS5 (by omega) (by omega) ?_
 intro s6 hst6 hsc6 hS6
 first | replace hn1:=hst6.at hn1 (by omega) | replace hn1:=hst6.self
 first | replace d1:=hst6.at d1 (by omega) | replace d1:=hst6.self
 first | replace d2:=hst6.at d2 (by omega) | replace d2:=hst6.self
 first | replace d3:=hst6.at d3 (by omega) | replace d3:=hst6.self
 first | replace q1:=hst6.at q1 (by omega) | replace q1:=hst6.self
 first | replace q4:=hst6.at q4 (by omega) | replace q4:=hst6.self
 first | replace hn5:=hst6.at hn5 (by omega) | replace hn5:=hst6.self
 refine aQ ?_
 dsimp only [aj]
 have r1:=Fz (n:=obs.length + 1) (by omega)
 have hwr:IntKind.i64.wrap ((obs.length:Int) + 1) = ((obs.length + 1:Nat):Int):=by rw [wr (by omega) (by omega)]; rfl
 replace G:=bw g0 hwr
 refine az (aq ?_)
 refine qPL ?_
 refine qLL ?_
 refine qPL ?_
 refine qPL ?_
 refine m9 rfl (MS.mksl hS6 (by simp only [evS,Nat.reduceEqDiff,reduceIte,List.length_map,G]; try rfl) (by simp only [evS,Nat.reduceEqDiff,reduceIte,List.length_map,G]; try rfl) (by first | exact iw _ | omega) (by first | assumption | rfl)) (fun k hk=>by first | exact False.elim hk | (dsimp only at hk ⊢; omega) | omega) ?_
 refine dW hS6 ?_
 intro s7 hst7 hsc7 hS7
 replace hn1:=hst7.at hn1 (by omega)
 replace d1:=hst7.at d1 (by omega)
 replace d2:=hst7.at d2 (by omega)
 replace d3:=hst7.at d3 (by omega)
 replace q1:=hst7.at q1 (by omega)
 replace q4:=hst7.at q4 (by omega)
 replace hn5:=hst7.at hn5 (by omega)
 have hn7:=hst7.self
 refine qM (MS.alloc hS7) ?_
 refine dW hS7 ?_
 intro s8 hst8 hsc8 hS8
 replace hn1:=hst8.at hn1 (by omega)
 replace d1:=hst8.at d1 (by omega)
 replace d2:=hst8.at d2 (by omega)
 replace d3:=hst8.at d3 (by omega)
 replace q1:=hst8.at q1 (by omega)
 replace q4:=hst8.at q4 (by omega)
 replace hn5:=hst8.at hn5 (by omega)
 replace hn7:=hst8.at hn7 (by omega)
 have hn8:=hst8.self
 refine qTL ?_
 refine t8 hS8 (by omega) (by omega) ?_
 intro s9 hst9 hsc9 hS9
 first | replace hn1:=hst9.at hn1 (by omega) | replace hn1:=hst9.self
 first | replace d1:=hst9.at d1 (by omega) | replace d1:=hst9.self
 first | replace d2:=hst9.at d2 (by omega) | replace d2:=hst9.self
 first | replace d3:=hst9.at d3 (by omega) | replace d3:=hst9.self
 first | replace q1:=hst9.at q1 (by omega) | replace q1:=hst9.self
 first | replace q4:=hst9.at q4 (by omega) | replace q4:=hst9.self
 first | replace hn5:=hst9.at hn5 (by omega) | replace hn5:=hst9.self
 first | replace hn7:=hst9.at hn7 (by omega) | replace hn7:=hst9.self
 first | replace hn8:=hst9.at hn8 (by omega) | replace hn8:=hst9.self
 refine aQ ?_
 dsimp only [aj]
 refine aq ?_
 refine qVL ?_
 refine qPL ?_
 refine qPL ?_
 refine qLL ?_
 refine dq rfl (by first | exact afZ  (m:=1) (by simp only [evS,Nat.reduceEqDiff,reduceIte,List.length_map,G]; first | done | rfl) (by simp only [evS,Nat.reduceEqDiff,reduceIte,List.length_map,G]; first | done | rfl) (by omega) | (simp only [evS,Nat.reduceEqDiff,reduceIte,PU,bQ,scV,bV,iV,cV,isB,isI,mX,tq,mkV,List.length_map,G]; rfl)) ?_
 refine qCL (hC:=ZY hS9 (.sl no 1 1 (ord.length - 1))) (h:=?_)
 intro v10 s10 hq10
 obtain ⟨rfl,hSb,hcb,hnb,hkb⟩:=hq10
 refine aQ ?_
 try dsimp only [aj]
 have f1:=hS9.lt hn1
 have f2:=hS9.lt d1
 have f3:=hS9.lt d2
 have f4:=hS9.lt d3
 have f5:=hS9.lt q4
 have f6:=hS9.lt hn5
 have f7:=hS9.lt hn7
 have f8:=hS9.lt hn8
 exact ⟨rfl,s.c,s4.c,s7.c,pd,mv,mk,s6.c,s9.c,no,lkL,lkL,lkL,lkL,⟨hSb,(hkb _ f1).trans hn1,(hkb _ f6).trans hn5,by rw [lw]; exact (hkb _ f8).trans hn8,⟨(hkb _ f2).trans d1,(hkb _ f3).trans d2,(hkb _ f4).trans d3⟩,by rw [hkb _ f7,hn7]; simp [sI],hnb,(hkb _ f5).trans q4,by omega,by omega⟩⟩
set_option maxHeartbeats 4000000 in
theorem awq {orc:bZ} {b:Nat} {s:S} {obs:List HO} {rts:List Int} {ord dv:List Nat} {dk:List Bool} {zs:List Int} {hb n6 n7 pd mv mk mz nb no:Nat} (hR:axX b obs rts ord dv dk zs hb n6 n7 pd mv mk mz nb no s) (hzl:zs.length = obs.length + 1) {Γ:Tr V} (g1:look Γ 1 = .c (.ptr hb 0)) (g7:look Γ 7 = .c (.ptr n7 0)) :
  Wp orc p_T p_heap_Retained_post.code Γ s (fun k=>b≤k) True fun e Γ t=>e = .ret∧t = s∧look Γ 2 = .c (.sl mz 1 0 obs.length)∧look Γ 3 = iV 0:=by
 obtain ⟨hS,e1,e6,e7,hN,ez,eb,eo,⟨x1,x2,x3,x4,x5,x6,x7,x8⟩,⟨b1,b2,b3,b4,b5,b6,b7,b8⟩⟩:=hR
 unfold p_heap_Retained_post
 replace G:=bw g1 g7
 refine az (aq ?_)
 refine qLL ?_
 refine qPL ?_
 refine qLL ?_
 refine qPL ?_
 refine dq rfl (by first | exact SJ  (by simp only [evS,Nat.reduceEqDiff,reduceIte,List.length_map,G]; first | done | rfl) (by simp only [evS,Nat.reduceEqDiff,reduceIte,List.length_map,G]; first | done | rfl) (by omega) | (simp only [evS,Nat.reduceEqDiff,reduceIte,PU,bQ,scV,bV,iV,cV,isB,isI,mX,tq,mkV,List.length_map,G]; rfl)) ?_
 refine qVL ?_
 refine qVL ?_
 refine aQ ?_
 dsimp only [aj]
 exact nZ ⟨rfl,rfl,lkL,lkL⟩
end Go.RM
namespace Go.RM
open Go.Proofs Go.Proofs.Ytliccamocpglcaa
def sL:Code→Code | .seq a _=>a | c=>c
def sR:Code→Code | .seq _ b=>b | c=>c
def bB:Code→Code | .block _ b=>b | c=>c
def rgA:Code→Code | .rangeFunc _ _ a _=>a | c=>c
def rB:Code→Code | .rangeFunc _ _ _ b=>b | c=>c
noncomputable def NY:Code:=((Try.prog.funcs[19]?).bind (·.body)).getD .skip
noncomputable def aqq:Code:=sR (sR (sR (sR (sR NY))))
noncomputable def N5:Code:=bB (sR (sL aqq))
noncomputable def cPost:Code:=sR aqq
set_option maxRecDepth 100000 in
theorem aqV:NY = .seq (sL NY) (.seq (sL (sR NY)) (.seq (sL (sR (sR NY))) (.seq (sL (sR (sR (sR NY)))) (.seq (sL (sR (sR (sR (sR NY))))) (.seq (.seq (sL (sL aqq)) (.block 0 (.rangeFunc (.tmp 29) #[30,31] (rgA N5) (rB N5)))) cPost))))):=by kernel_rfl
set_option maxRecDepth 100000 in
theorem avq:dj Try.prog 65 cPost = some p_heap_Retained_post.code:=by kernel_rfl
set_option maxRecDepth 100000 in
theorem ayq:dj Try.prog 65 (rgA N5) = some p_heap_Retained_asg.code:=by kernel_rfl
set_option maxRecDepth 100000 in
theorem ayz:dj Try.prog 65 (rB N5) = some p_heap_Retained_bod.code:=by kernel_rfl
end Go.RM
namespace Go.RM
open Go.VM (T lJ tI)
open Go.Proofs Go.Proofs.Ytliccamocpglcaa
theorem aMz {φ:Ren} {v:Value} {z:Int} (h:RepX φ v (sI z)):v = .int .i64 z:=by cases h; rfl
theorem Qx {φ ψ:Ren} (hle:φ.le ψ) {v:Value} {n off:Nat} (h:RepV ψ v (.c (.ptr n off))) (hs:∃ l,φ n = some l):RepV φ v (.c (.ptr n off)):=by
 obtain ⟨l,hl⟩:=hs
 have h:RepX ψ v (.ptr n off):=h
 cases h with
 | ptr _ _ b β lim hb =>
  have:=hle.loc n l hl
  rw [hb] at this
  cases this
  exact RepX.ptr n off b β lim hl
theorem aoz {w:World} {b:Nat} {arr:Array Value} {e:TypeId} {p:Nat × Nat} (h:w.heap[b]? = some (.cells arr e p)) (o:Nat):w.cell? ⟨b,o,none⟩ = arr[o]?:=by
 simp [World.cell?,h]
theorem UW {X Y:World} {b o:Nat} (h:Y.heap[b]? = X.heap[b]?):Y.cell? ⟨b,o,none⟩ = X.cell? ⟨b,o,none⟩:=by
 simp [World.cell?,h]
theorem amZ {w0 w:World} {φ:Ren} {h:Hp} (R:Rel w0 φ h w) {nb no:Nat} {ls:List Nat} {r:Nat} {e e':TypeId} (eb:h nb = some (.cells e [.sl no 1 1 ls.length])) (eo:h no = some (.cells e' ((r :: ls).map nI))) :
  ∃ Bs Bo lm bo βo lo,φ nb = some (Bs,Bo,lm)∧φ no = some (bo,βo,lo)∧Go.Proofs.Good ⟨Bs,Bo,none⟩ bo (βo + 1) (ls.map fun (k:Nat)=>(k:Int)) w:=by
 obtain ⟨Bs,Bo,lm,arr,h1,h2,h3,h4,h5⟩:=R.rep _ _ eb
 obtain ⟨bo,βo,lo,arr',k1,k2,k3,k4,k5⟩:=R.rep _ _ eo
 refine ⟨Bs,Bo,lm,bo,βo,lo,h1,k1,?_⟩
 obtain ⟨v,e1,e2⟩:=h5 0 _ rfl
 cases e2 with
 | sl _ _ _ _ b β lim o cap g1 g2 g3 g4 =>
  rw [k1] at g1
  cases g1
  refine ⟨o,cap,?_,?_,fun j hj=>?_⟩
  ·rw [aoz h2,List.length_map]; exact e1
  ·rw [List.length_map]; exact g3
  ·rw [List.length_map] at hj
   obtain ⟨v,q1,q2⟩:=k5 (j + 1) (nI ls[j]) (by rw [zw,List.getElem?_cons_succ,gk,ck hj]; rfl)
   rw [aoz k2,show βo + 1 + j = βo + (j + 1) by omega,q1,aMz q2,gk,ck hj]
   rfl
theorem V1 {Bs Bo b off:Nat} {zs:List Int} {X Y:World} (h:Go.Proofs.Good ⟨Bs,Bo,none⟩ b off zs X) (h1:Y.heap[Bs]? = X.heap[Bs]?) (h2:Y.heap[b]? = X.heap[b]?):Go.Proofs.Good ⟨Bs,Bo,none⟩ b off zs Y:=by
 obtain ⟨o,cap,g1,g2,g3⟩:=h
 exact ⟨o,cap,(UW h1).trans g1,g2,fun j hj=>(UW h2).trans (g3 j hj)⟩
end Go.RM
namespace Go.RM
open Go.VM (T lJ tI)
open Go.Proofs Go.Proofs.Ytliccamocpglcaa
theorem BV {H:Hp} {s:S} (hi:Inv H s):d7 H s = s.h.get:=by
 funext m
 unfold d7
 cases hb:s.w.testBit m with
 | true=>rfl
 | false=>exact (hi m hb).symm
theorem aoj {φ:Ren} {w:World} {n:Nat} {o:O} (h:RepO φ w n o) (hl:o.live = true):∃ l,φ n = some l:=by
 cases o with
 | cells e xs=>obtain ⟨b,β,lim,arr,h1,_⟩:=h; exact ⟨_,h1⟩
 | map kd rng es=>obtain ⟨b,es',clock,h1,_⟩:=h; exact ⟨_,h1⟩
 | iter m size seen=>obtain ⟨b,bm,β,lim,last,es',h1,_⟩:=h; exact ⟨_,h1⟩
 | itern=>obtain ⟨b,h1,_⟩:=h; exact ⟨_,h1⟩
 | dmap kd es=>obtain ⟨b,es',clock,h1,_⟩:=h; exact ⟨_,h1⟩
 | dead=>simp [O.live] at hl
def aCV (ψ:Ren) (h:Hp) (D:Nat):Prop:=∃ n p,h n = some p∧p.live = true∧blk ψ n D
open Classical in
noncomputable def frz (ψ:Ren) (h:Hp) (W:World):Nat→Option Obj:=fun D=>if aCV ψ h D then none else W.heap[D]?
theorem amW {w0 W:World} {ψ:Ren} {h:Hp} (R:Rel w0 ψ h W):Rel w0 (ψ.withFz (frz ψ h W)) h W:=R.refz _ fun D o hD=>by
 unfold frz at hD
 split at hD
 ·simp at hD
 ·rename_i hn
  exact ⟨hD,fun n p h1 h2 h3=>hn ⟨n,p,h1,h2,h3⟩⟩
theorem ZK {w0 W W':World} {φ1 ψ ψ2:Ren} {h h':Hp} {B:Nat} (hf1:∀ D,φ1.fz D = none) (hψ:φ1.le ψ) (R:Rel w0 ψ h W) (hlv:∀ n p k,h n = some p→p.live = true→blk ψ n k→k < B) (hle:(ψ.withFz (frz ψ h W)).le ψ2) (R2:Rel w0 ψ2 h' W') (hdom:∀ n p,h' n = some p→p.live = true→∃ p',h n = some p'∧p'.live = true) :
  KeepsFrom B W W'∧φ1.le (ψ2.withFz fun _=>none)∧Rel w0 (ψ2.withFz fun _=>none) h' W'∧∀ n p k,h' n = some p→p.live = true→blk (ψ2.withFz fun _=>none) n k→k < B:=by
 have hstay:∀ D o,¬ aCV ψ h D→W.heap[D]? = some o→W'.heap[D]? = some o:=fun D o hn ho=>(R2.fz D o (hle.fz D o (by show frz ψ h W D = some o; unfold frz; rw [if_neg hn]; exact ho))).1
 have hloc:∀ n l,ψ n = some l→ψ2 n = some l:=fun n l hn=>hle.loc n l hn
 refine ⟨⟨?_,fun k o hk ho _=>hstay k o (fun ⟨n,p,h1,h2,h3⟩=>by have:=hlv n p k h1 h2 h3; omega) ho⟩,⟨fun n l hn=>hloc n l (hψ.loc n l hn),hle.w0.trans hψ.w0,hle.ok.trans hψ.ok,fun D o hD=>by rw [hf1 D] at hD; simp at hD⟩,R2.refz _ (fun D o hD=>by simp at hD),fun n p k hn hp hb=>?_⟩
 ·rcases Nat.lt_or_ge W'.heap.size W.heap.size with hlt | hge
  ·exfalso
   have hD:W.heap.size - 1 < W.heap.size:=by omega
   by_cases hL:aCV ψ h (W.heap.size - 1)
   ·obtain ⟨n,p,_,_,β,lim,h3⟩:=hL
    have:=R2.lt n (W.heap.size - 1) ⟨β,lim,hloc n _ h3⟩
    omega
   ·have:=hstay (W.heap.size - 1) _ hL (Array.getElem?_eq_getElem hD)
    have:=(mw.1 this).1
    omega
  ·exact hge
 ·obtain ⟨p',h1,h2⟩:=hdom n p hn hp
  obtain ⟨l,hl⟩:=aoj (R.rep n p' h1) h2
  obtain ⟨β,lim,h3⟩:=hb
  have h4:=hloc n l hl
  rw [show ψ2.loc n = some (k,β,lim) from h3] at h4
  cases h4
  exact hlv n p' k h1 h2 ⟨β,lim,hl⟩
structure ixAll (n:Nat) where
 k:Nat
 i:Nat
 ok:n = 0∨i < n
def aiY (n:Nat) (x:ixAll n):Array Value:=#[.int .i64 (x.k:Int),.int .i64 (x.i:Int)]
theorem aKV {n:Nat} {ls:List Nat} (h:∀ v∈ls,v < n) (k:Nat):n = 0∨(ls[k]?).getD 0 < n:=by
 cases he:ls[k]? with
 | none=>show n = 0∨0 < n; omega
 | some v=>exact .inr (h v (jk he))
def elI (n:Nat) (ls:List Nat) (h:∀ v∈ls,v < n) (k:Nat):ixAll n:=⟨ls.length - 1 - k,(ls[ls.length - 1 - k]?).getD 0,aKV h _⟩
theorem aHZ (n:Nat) (ls:List Nat) (h:∀ v∈ls,v < n) (k:Nat):aiY n (elI n ls h k) = #[.int .i64 (((ls.map fun (k:Nat)=>(k:Int)).length - 1 - k:Nat):Int),.int .i64 ((ls.map fun (k:Nat)=>(k:Int))[(ls.map fun (k:Nat)=>(k:Int)).length - 1 - k]?.getD 0)]:=by
 show (#[Value.int .i64 ((ls.length - 1 - k:Nat):Int),Value.int .i64 (((ls[ls.length - 1 - k]?).getD 0:Nat):Int)]:Array Value) = _
 rw [List.length_map,gk]
 cases ls[ls.length - 1 - k]? <;> rfl
theorem aKX (n:Nat) (ls:List Nat) (h:∀ v∈ls,v < n):(upK (elI n ls h) ls.length).map ixAll.i = ls.reverse:=by
 refine List.ext_getElem? fun j=>?_
 unfold upK
 rw [gk,gk]
 rcases Nat.lt_or_ge j ls.length with hj | hj
 ·rw [List.getElem?_range hj,List.getElem?_reverse hj,ck (by omega)]
  simp only [qw,elI]
  rw [ck (by omega)]; rfl
 ·rw [List.getElem?_eq_none (by simpa using hj),List.getElem?_eq_none (by simpa using hj)]; rfl
end Go.RM
namespace Go.RM
open Go.VM (T lJ tI)
open Go.Proofs Go.Proofs.Ytliccamocpglcaa Go.RowKit Go.Shelf
def slots (l:List (Nat × V)):Tr V:=l.foldr (fun p Γ=>putO (some p.1) p.2 Γ) .lf
theorem aQj {orc:bZ} {F:Nat→Prop} {D:Prop} {s:S} {hb n6 n7:Nat} {i:Nat}:Wp orc p_T p_heap_Retained_asg.code (slots [(1,.c (.ptr hb 0)),(6,.c (.ptr n6 0)),(7,.c (.ptr n7 0)),(31,iV (i:Int))]) s F D fun e Γ t=>e = .normal∧t = s∧look Γ 9 = iV (i:Int)∧look Γ 1 = .c (.ptr hb 0)∧look Γ 6 = .c (.ptr n6 0)∧look Γ 7 = .c (.ptr n7 0):=by
 unfold p_heap_Retained_asg
 refine aq ?_
 refine dq (v:=iV (i:Int)) rfl (by simp only [evS,slots,List.foldr,Nat.reduceEqDiff,reduceIte,bQ]) ?_
 refine aQ ?_
 refine ⟨rfl,rfl,?_,?_,?_,?_⟩ <;> simp only [evS,slots,List.foldr,Nat.reduceEqDiff,reduceIte]
def AxR (n:Nat) (φ1:Ren) (hb n6 n7:Nat) (x:ixAll n) (a':Act):Prop :=
 a'.defers = []∧65≤a'.tmps.size∧RepV φ1 (a'.tmps.getD 1 undef) (.c (.ptr hb 0))∧RepV φ1 (a'.tmps.getD 6 undef) (.c (.ptr n6 0))∧RepV φ1 (a'.tmps.getD 7 undef) (.c (.ptr n7 0))∧RepV φ1 (a'.tmps.getD 9 undef) (iV (x.i:Int))
def InvR (w0:World) (H:Hp) (φ1:Ren) (b:Nat) (B:Nat) (obs:List HO) (rts:List Int) (ord dv:List Nat) (dk:List Bool) (hb n6 n7 pd mv mk mz nb no:Nat) (zs:List Int) (W:World):Prop :=
 ∃ ψ s',φ1.le ψ∧(∀ D,ψ.fz D = none)∧Rel w0 ψ s'.h.get W∧Inv H s'∧(∀ n p k,s'.h.get n = some p→p.live = true→blk ψ n k→k < B)∧axX b obs rts ord dv dk zs hb n6 n7 pd mv mk mz nb no s'
section
variable {orc:bZ} {w0:World} {H:Hp} {φ1:Ren} {b B n:Nat} {obs:List HO} {rts:List Int} {ord dv:List Nat} {dk:List Bool} {hb n6 n7 pd mv mk mz nb no:Nat} {zs:List Int} {W:World}
theorem InvR.grown (h:InvR w0 H φ1 b B obs rts ord dv dk hb n6 n7 pd mv mk mz nb no zs W) (hB:w0.heap.size≤B) {Y:World} {row:Option Nat} (hg:W.grownBy Y row) (hr:∀ r,row = some r→B≤r):InvR w0 H φ1 b B obs rts ord dv dk hb n6 n7 pd mv mk mz nb no zs Y:=by
 obtain ⟨ψ,s',h1,h2,h3,h4,h5,h6⟩:=h
 exact ⟨ψ,s',h1,h2,h3.grown h2 hg h5 hr hB,h4,h5,h6⟩
theorem M3 {ψ:Ren} {a':Act} {l:List (Nat × V)} (h:∀ p∈l,RepV ψ (a'.tmps.getD p.1 undef) p.2):EnvR ψ a' (look (slots l)):=by
 intro t
 induction l with
 | nil=>exact trivial
 | cons p l ih =>
  show RepV ψ _ (look (putO (some p.1) p.2 (slots l)) t)
  rw [bY]
  split
  ·rename_i hp; subst hp; exact h p (List.mem_cons_self ..)
  ·exact ih fun q hq=>h q (List.mem_cons_of_mem _ hq)
theorem aDV (ho:iW Try.prog w0 orc) (hoi:e9 orc) (hf1:∀ D,φ1.fz D = none) (hs1:(∃ l,φ1 hb = some l)∧(∃ l,φ1 n6 = some l)∧∃ l,φ1 n7 = some l) {a:Act} (ha:65≤a.tmps.size) (k1:RepV φ1 (a.tmps.getD 1 undef) (.c (.ptr hb 0))) (k6:RepV φ1 (a.tmps.getD 6 undef) (.c (.ptr n6 0))) (k7:RepV φ1 (a.tmps.getD 7 undef) (.c (.ptr n7 0)))
  (h:InvR w0 H φ1 b B obs rts ord dv dk hb n6 n7 pd mv mk mz nb no zs W) (x:ixAll n) {l dn:Nat} {K:Act→World→Prop} (hK:∀ a' W',KeepsFrom B W W'→InvR w0 H φ1 b B obs rts ord dv dk hb n6 n7 pd mv mk mz nb no zs W'→AxR n φ1 hb n6 n7 x a'→K a' W') :
  (rgA N5).wpIn (FW (some l)) dn Try.prog (Exit.then K (fun _ _ _=>False)) { tmps:=((#[30,31]:Array Tmp).zip (aiY n x)).foldl (fun t (p,v)=>t.setIfInBounds p v) a.tmps,defers:=[] } W:=by
 obtain ⟨ψ,s',h1,h2,h3,h4,h5,h6⟩:=h
 have hst:StR [] w0 65 H H (ψ.withFz (frz ψ s'.h.get W)) (look (slots [(1,.c (.ptr hb 0)),(6,.c (.ptr n6 0)),(7,.c (.ptr n7 0)),(31,iV (x.i:Int))])) s' { tmps:=((#[30,31]:Array Tmp).zip (aiY n x)).foldl (fun t (p,v)=>t.setIfInBounds p v) a.tmps,defers:=[] } W:=by
  have hfold:((#[30,31]:Array Tmp).zip (aiY n x)).foldl (fun t (p,v)=>t.setIfInBounds p v) a.tmps = (a.tmps.setIfInBounds 30 (.int .i64 (x.k:Int))).setIfInBounds 31 (.int .i64 (x.i:Int)):=by
   unfold aiY
   simp
  rw [hfold]
  have hle1:φ1.le (ψ.withFz (frz ψ s'.h.get W)):=⟨h1.loc,h1.w0,h1.ok,fun D o hD=>by rw [hf1 D] at hD; simp at hD⟩
  have aK:∀ t,t ≠ 30→t ≠ 31→((a.tmps.setIfInBounds 30 (.int .i64 (x.k:Int))).setIfInBounds 31 (.int .i64 (x.i:Int))).getD t undef = a.tmps.getD t undef:=by
   intro t t1 t2
   simp [Array.getD_eq_getD_getElem?,Array.getElem?_setIfInBounds,Ne.symm t1,Ne.symm t2]
  refine ⟨_,Ren.le_refl _,M3 fun p hp=>?_,by rw [BV h4]; exact amW h3,h4,rfl,by simpa using ha⟩
  simp only [List.mem_cons,List.not_mem_nil,or_false] at hp
  rcases hp with rfl | rfl | rfl | rfl
  ·rw [aK _ (by dsimp only; decide) (by dsimp only; decide)]; exact k1.mono hle1
  ·rw [aK _ (by dsimp only; decide) (by dsimp only; decide)]; exact k6.mono hle1
  ·rw [aK _ (by dsimp only; decide) (by dsimp only; decide)]; exact k7.mono hle1
  ·have:((a.tmps.setIfInBounds 30 (.int .i64 (x.k:Int))).setIfInBounds 31 (.int .i64 (x.i:Int))).getD 31 undef = .int .i64 (x.i:Int):=by
    rw [Array.getD_eq_getD_getElem?,Array.getElem?_setIfInBounds,if_pos rfl,if_pos (by rw [Array.size_setIfInBounds]; omega)]
    rfl
   rw [this]
   exact RepX.sc _ rfl
 refine wpIn_mono (G0 (P:=Try.prog) qj ho hoi (aQj (F:=fun _=>True) (D:=True)) ayq (fun _ _=>rfl) hst) ?_
 rintro e a' W' ⟨ex,Γ',t,hx,⟨rfl,rfl,q9,q1,q6,q7⟩,ψ2,hle2,he2,R2,hi2,hd2,hs2⟩
 rw [BV hi2] at R2
 obtain ⟨m1,m2,m3,m4⟩:=ZK hf1 h1 h3 h5 hle2 R2 (fun n p hn hp=>⟨p,hn,hp⟩)
 have hle3:φ1.le ψ2:=⟨m2.loc,m2.w0,m2.ok,fun D o hD=>by rw [hf1 D] at hD; simp at hD⟩
 cases e <;> simp only [XM] at hx
 refine hK a' W' m1 ⟨_,t,m2,fun _=>rfl,m3,hi2,m4,h6⟩ ⟨hd2,hs2,Qx hle3 (q1 ▸ he2 1) hs1.1,Qx hle3 (q6 ▸ he2 6) hs1.2.1,Qx hle3 (q7 ▸ he2 7) hs1.2.2,?_⟩
 have:=he2 9
 rw [q9] at this
 rw [d8 (u:=.int .i64 (x.i:Int)) this]
 exact RepX.sc _ rfl
theorem auK (ho:iW Try.prog w0 orc) (hoi:e9 orc) (hf1:∀ D,φ1.fz D = none) (hn:obs.length≤60) (hzl:zs.length = obs.length + 1) (hdl:dv.length = obs.length + 1) (hd:∀ v∈dv,v < obs.length + 1) {x:ixAll n} {a':Act} (hA:AxR n φ1 hb n6 n7 x a') (hx:x.i < obs.length)
  (h:InvR w0 H φ1 b B obs rts ord dv dk hb n6 n7 pd mv mk mz nb no zs W) {l dn:Nat} {Q:Exit→Act→World→Prop} (hQ:∀ a'' W',KeepsFrom B W W'→InvR w0 H φ1 b B obs rts ord dv dk hb n6 n7 pd mv mk mz nb no (DK (obs.map HO.size) dv zs x.i) W'→Q .normal a'' W') :
  (rB N5).wpIn (FW (some l)) dn Try.prog Q a' W:=by
 obtain ⟨ψ,s',h1,h2,h3,h4,h5,h6⟩:=h
 obtain ⟨A1,A2,A3,A4,A5,A6⟩:=hA
 have hle1:φ1.le (ψ.withFz (frz ψ s'.h.get W)):=⟨h1.loc,h1.w0,h1.ok,fun D o hD=>by rw [hf1 D] at hD; simp at hD⟩
 have hst:StR [] w0 65 H H (ψ.withFz (frz ψ s'.h.get W)) (look (slots [(1,.c (.ptr hb 0)),(6,.c (.ptr n6 0)),(7,.c (.ptr n7 0)),(9,iV (x.i:Int))])) s' a' W:=by
  refine ⟨_,Ren.le_refl _,M3 fun p hp=>?_,by rw [BV h4]; exact amW h3,h4,A1,A2⟩
  simp only [List.mem_cons,List.not_mem_nil,or_false] at hp
  rcases hp with rfl | rfl | rfl | rfl
  ·exact A3.mono hle1
  ·exact A4.mono hle1
  ·exact A5.mono hle1
  ·exact A6.mono hle1
 obtain ⟨hS,e1,e6,e7,hN,ez,eb,eo,⟨x1,x2,x3,x4,x5,x6,x7,x8⟩,⟨b1,b2,b3,b4,b5,b6,b7,b8⟩⟩:=h6
 refine wpIn_mono (G0 (P:=Try.prog) qj ho hoi (aAJ (rts:=[]) (roots:=rts.map eX) (i:=x.i) hS (by simp only [evS,slots,List.foldr,Nat.reduceEqDiff,reduceIte]) (by simp only [evS,slots,List.foldr,Nat.reduceEqDiff,reduceIte]) (by simp only [evS,slots,List.foldr,Nat.reduceEqDiff,reduceIte]) (by simp only [evS,slots,List.foldr,Nat.reduceEqDiff,reduceIte]) e1 e6 e7 hN ez hn hx hzl hdl hd ⟨x1,x2,x3,x4,x5,x6⟩ ⟨b1,b2,b3,b4,b5,b6⟩) ayz (fun _ _=>rfl) hst) ?_
 rintro e a'' W' ⟨ex,Γ',t,hx',⟨rfl,k1,k2,k3,k4⟩,ψ2,hle2,he2,R2,hi2,hd2,hs2⟩
 rw [BV hi2] at R2
 have hdom:∀ n p,t.h.get n = some p→p.live = true→∃ p',s'.h.get n = some p'∧p'.live = true:=fun m p hm hp=>by
  by_cases hmz:m = mz
  ·subst hmz; exact ⟨_,ez,rfl⟩
  ·rw [k4 m hmz] at hm; exact ⟨p,hm,hp⟩
 obtain ⟨m1,m2,m3,m4⟩:=ZK hf1 h1 h3 h5 hle2 R2 hdom
 cases e <;> simp only [XM] at hx'
 have hrl:(DK (obs.map HO.size) dv zs x.i).length = zs.length:=by unfold DK akV Yq; rw [vw,vw]
 refine hQ a'' W' m1 ⟨_,t,m2,fun _=>rfl,m3,hi2,m4,⟨k1,(k4 _ x1.symm).trans e1,(k4 _ x2.symm).trans e6,by rw [hrl]; exact (k4 _ x3.symm).trans e7,hN.keep (k4 _ x4.symm) (k4 _ x5.symm) (k4 _ x6.symm),k3,(k4 _ x7.symm).trans eb,(k4 _ x8.symm).trans eo,⟨x1,x2,x3,x4,x5,x6,x7,x8⟩,⟨b1,b2,b3,b4,b5,b6,b7,b8⟩⟩⟩
end
end Go.RM
namespace Go.RM
open Go.VM (T lJ tI)
open Go.Proofs Go.Proofs.Ytliccamocpglcaa Go.RowKit Go.Shelf
set_option maxHeartbeats 4000000 in
theorem axQ {orc:bZ} {w0:World} (ho:iW Try.prog w0 orc) (hoi:e9 orc) {H:Hp} {φ0:Ren} {b:Nat} {s:S} {a:Act} {w:World} {Γ:Tr V} {dn:Nat} (hdn:3≤dn) {obs:List HO} {rts:List Int} {r:Nat} {ls dv:List Nat} {dk:List Bool} {zs:List Int} {hb n6 n7 pd mv mk mz nb no:Nat}
  (st:StR [] w0 65 H H φ0 (look Γ) s a w) (g1:look Γ 1 = .c (.ptr hb 0)) (g6:look Γ 6 = .c (.ptr n6 0)) (g7:look Γ 7 = .c (.ptr n7 0)) (g29:look Γ 29 = .c (.fn dV [.ptr nb 0])) (hR:axX b obs rts (r :: ls) dv dk zs hb n6 n7 pd mv mk mz nb no s)
  (hn:obs.length≤60) (hzl:zs.length = obs.length + 1) (hdl:dv.length = obs.length + 1) (hd:∀ v∈dv,v < obs.length + 1) (hls:∀ v∈ls,v < obs.length) (hll:ls.length≤1000)
  {Q:Exit→Act→World→Prop} (hQ:∀ D W φ s',w0.heap.size≤D→φ.ok = φ0.ok→φ.fz D = some (.deferred (some []))→StR [{ target:=.collected D,args:=#[] }] w0 65 H H φ (look Γ) s' { a with defers:=[{ target:=.collected D,args:=#[] }] } W→axX b obs rts (r :: ls) dv dk (ls.reverse.foldl (DK (obs.map HO.size) dv) zs) hb n6 n7 pd mv mk mz nb no s'→Q .normal { a with defers:=[{ target:=.collected D,args:=#[] }] } W) :
  (Code.rangeFunc (.tmp 29) #[30,31] (rgA N5) (rB N5)).wpIn (FW none) dn Try.prog Q a w:=by
 obtain ⟨φ,hle,he,R,hi,hdf,hsz⟩:=st
 rw [BV hi] at R
 obtain ⟨Bs,Bo,lm,bo,βo,lo,l1,l2,hG⟩:=amZ R (by have:=hR.eb; simpa using this) hR.eo
 have hBs:=R.lt nb Bs ⟨_,_,l1⟩
 have hbo:=R.lt no bo ⟨_,_,l2⟩
 have hf1:∀ D,(φ.withFz fun _=>none).fz D = none:=fun _=>rfl
 have hev:a.eval (.tmp 29) = .func (.func 50) #[] #[.pointer (some ⟨Bs,Bo,none⟩)]:=by
  have h29:=he 29
  rw [g29] at h29
  have h29':RepX φ (a.tmps.getD 29 undef) (.fn 50 [.ptr nb 0]):=h29
  show a.tmps.getD 29 undef = _
  generalize a.tmps.getD 29 undef = v at h29'
  cases h29' with
  | fn _ cs _ hl hc =>
   obtain ⟨c,rfl⟩ : ∃ c,cs = [c]:=by
    cases cs with
    | nil=>simp at hl
    | cons c cs=>cases cs with
     | nil=>exact ⟨c,rfl⟩
     | cons _ _=>simp at hl
   have:=hc 0 c _ rfl rfl
   cases this with
   | ptr _ _ b β lim hb' =>
    rw [l1] at hb'
    cases hb'
    rfl
 have hpt:∀ {n},(∃ o,s.h.get n = some o∧o.live = true)→∃ l,(φ.withFz fun _=>none) n = some l:=fun ⟨o,h1,h2⟩=>aoj (RepO.refz (fun _=>none) (R.rep _ o h1)) h2
 have hs1:(∃ l,(φ.withFz fun _=>none) hb = some l)∧(∃ l,(φ.withFz fun _=>none) n6 = some l)∧∃ l,(φ.withFz fun _=>none) n7 = some l:=⟨hpt ⟨_,hR.e1,rfl⟩,hpt ⟨_,hR.e6,rfl⟩,hpt ⟨_,hR.e7,rfl⟩⟩
 have hB0:=R.fr.size
 have k1:RepV (φ.withFz fun _=>none) (a.tmps.getD 1 undef) (.c (.ptr hb 0)):=by have:=he 1; rw [g1] at this; exact this.refz _
 have k6:RepV (φ.withFz fun _=>none) (a.tmps.getD 6 undef) (.c (.ptr n6 0)):=by have:=he 6; rw [g6] at this; exact this.refz _
 have k7:RepV (φ.withFz fun _=>none) (a.tmps.getD 7 undef) (.c (.ptr n7 0)):=by have:=he 7; rw [g7] at this; exact this.refz _
 have hgood:∀ {zs W},InvR w0 H (φ.withFz fun _=>none) b w.heap.size obs rts (r :: ls) dv dk hb n6 n7 pd mv mk mz nb no zs W→Go.Proofs.Good ⟨Bs,Bo,none⟩ bo (βo + 1) (ls.map fun (k:Nat)=>(k:Int)) W:=by
  rintro zs W ⟨ψ,s',h1,h2,h3,h4,h5,h6⟩
  obtain ⟨Bs',Bo',lm',bo',βo',lo',l1',l2',hG'⟩:=amZ h3 (by have:=h6.eb; simpa using this) h6.eo
  have q1:=h1.loc nb _ l1
  have q2:=h1.loc no _ l2
  rw [l1'] at q1
  rw [l2'] at q2
  cases q1
  cases q2
  exact hG'
 have hfold:∀ (pre:List (ixAll obs.length)) x,(pre++[x]).foldl (fun z (y:ixAll obs.length)=>DK (obs.map HO.size) dv z y.i) zs = DK (obs.map HO.size) dv (pre.foldl (fun z (y:ixAll obs.length)=>DK (obs.map HO.size) dv z y.i) zs) x.i:=fun pre x=>by rw [List.foldl_append]; rfl
 have hflen:∀ (pre:List (ixAll obs.length)),(pre.foldl (fun z (y:ixAll obs.length)=>DK (obs.map HO.size) dv z y.i) zs).length = obs.length + 1:=by
  intro pre
  have:∀ (pre:List (ixAll obs.length)) (z:List Int),(pre.foldl (fun z (y:ixAll obs.length)=>DK (obs.map HO.size) dv z y.i) z).length = z.length:=by
   intro pre
   induction pre with
   | nil=>intro z; rfl
   | cons x pre ih=>intro z; rw [List.foldl_cons,ih]; unfold DK akV Yq; rw [vw,vw]
  rw [this,hzl]
 refine wpIn_rangeFunc_ownH (F:=FW none) rfl (by omega) (gf:=50) (lb:=#[.pointer (some ⟨Bs,Bo,none⟩)]) hev trivial (enters_of Try.func50 (by kernel_rfl) rfl) (encs:=aiY obs.length)
  (Kp:=fun X Y=>Go.Proofs.Good ⟨Bs,Bo,none⟩ bo (βo + 1) (ls.map fun (k:Nat)=>(k:Int)) X→Go.Proofs.Good ⟨Bs,Bo,none⟩ bo (βo + 1) (ls.map fun (k:Nat)=>(k:Int)) Y)
  (S:=fun ys=>ys = upK (elI obs.length ls hls) (ls.map fun (k:Nat)=>(k:Int)).length) (Sp:=fun _=>True) (N:=(ls.map fun (k:Nat)=>(k:Int)).length) (w0:=w)
  (fun l J Jx W hW _ _ hY h0=>aIj (FW none) (dn - 1) trivial rfl (by omega) l Bs Bo bo (βo + 1) (ls.map fun (k:Nat)=>(k:Int)) (by rw [List.length_map]; omega) (aiY obs.length) (elI obs.length ls hls) (fun k _=>aHZ _ _ hls k) J Jx (fun pre x W hJ hlt=>hY pre x W hJ hlt) W (V1 hG (hW.block Bs hBs) (hW.block bo hbo)) h0)
  (fun h k x=>k (h x)) (fun W l o o' hl _ _ _ hg=>V1 hg (World.putObj_heap_other (by omega)) (World.putObj_heap_other (by omega))) (Below.refl _ _) (fun _=>rfl)
  (fun pre W=>InvR w0 H (φ.withFz fun _=>none) b w.heap.size obs rts (r :: ls) dv dk hb n6 n7 pd mv mk mz nb no (pre.foldl (fun z (y:ixAll obs.length)=>DK (obs.map HO.size) dv z y.i) zs) W)
  (fun _ _ _=>False)
  (fun pre X Y row h hg hr=>h.grown hB0 hg fun r e=>(hr r e).1)
  (fun _ _ _ _ _ hs _ _=>hs)
  ⟨_,s,Ren.le_refl _,fun _=>rfl,R.refz _ (fun D o hD=>by simp at hD),hi,fun n p k _ _ hb'=>R.lt n k hb',hR⟩
  (fun x a' _=>AxR obs.length (φ.withFz fun _=>none) hb n6 n7 x a')
  (fun _ _ _ _ _ _ hs _ _=>hs)
  ?assign ?body ?done ?stop
 case assign =>
  intro l pre x W K hI hK
  exact aDV (n:=obs.length) ho hoi hf1 hs1 hsz k1 k6 k7 hI x fun a' W' h1 h2 h3=>hK a' W' h1 (fun _=>hgood h2) h2 h3
 case body =>
  intro l pre x a' W hl hr hI hA hlt
  rw [List.length_map] at hlt
  have hxi:x.i < obs.length:=by
   rcases x.ok with h0 | h0
   ·cases ls with
    | nil=>simp at hlt
    | cons v ls=>have:=hls v (List.mem_cons_self ..); omega
   ·exact h0
  refine auK ho hoi hf1 hn (hflen pre) hdl hd hA hxi hI fun a'' W' h1 h2=>?_
  refine ⟨h1,fun _=>hgood h2,?_⟩
  show InvR _ _ _ _ _ _ _ _ _ _ _ _ _ _ _ _ _ _ _ _ _
  rw [hfold]
  exact h2
 case done =>
  rintro D xs W hD rfl ⟨ψ,s',h1,h2,h3,h4,h5,h6⟩ hW
  rw [hdf]
  have hfz:Rel w0 (ψ.withFz fun k=>if k = D then some (.deferred (some [])) else none) s'.h.get W:=h3.refz _ fun k o hk=>by
   split at hk
   ·rename_i hkD
    subst hkD
    cases hk
    exact ⟨hW,fun n p hn hp hb'=>by have:=h5 n p k hn hp hb'; omega⟩
   ·simp at hk
  have hleq:(φ.withFz fun _=>none).le (ψ.withFz fun k=>if k = D then some (.deferred (some [])) else none):=⟨h1.loc,h1.w0,h1.ok,fun k o hk=>by simp [Ren.withFz] at hk⟩
  refine hQ D W (ψ.withFz fun k=>if k = D then some (.deferred (some [])) else none) s' (by omega) (h1.ok.trans hle.ok) (by show (if D = D then _ else _) = _; rw [if_pos rfl]) ⟨_,Ren.le_refl _,fun t=>((he t).refz _).mono hleq,by rw [BV h4]; exact hfz,h4,rfl,hsz⟩ ?_
  have:(upK (elI obs.length ls hls) (ls.map fun (k:Nat)=>(k:Int)).length).foldl (fun z (y:ixAll obs.length)=>DK (obs.map HO.size) dv z y.i) zs = ls.reverse.foldl (DK (obs.map HO.size) dv) zs:=by
   rw [← aKX obs.length ls hls,List.foldl_map,List.length_map]
  rw [← this]
  exact h6
 case stop =>
  rintro D c pre W _ _ h _
  exact h.elim
end Go.RM
namespace Go.RM
open Go.VM (T lJ tI Pt Fun aX kJ oX j6)
open Go.Proofs Go.Proofs.Ytliccamocpglcaa Go.RowKit Go.Shelf
theorem Rel.putFz {w0 W:World} {φ:Ren} {h:Hp} (R:Rel w0 φ h W) {D:Nat} {o:Obj} (hD:φ.fz D = some o) (hw:w0.heap.size≤D) (o':Obj):Rel w0 (φ.withFz fun _=>none) h (W.putObj D o'):=by
 have hne:=(R.fz D o hD).2
 have hsame:∀ n p b,h n = some p→p.live = true→blk φ n b→(W.putObj D o').heap[b]? = W.heap[b]?:=fun n p b hn hp hb=>World.putObj_heap_other (fun e=>hne n p hn hp (by first | exact e ▸ hb | exact e.symm ▸ hb))
 have hg:=grownBy_putObj' W D o'
 refine ⟨fun n p hn=>((R.rep n p hn).refz (fun _=>none)).keep (Ren.le_refl _) (fun b ho hb=>hsame n p b hn ho hb) (fun m size seen b ho hb=>?_),R.inj,R.old,R.iters,R.dom,fun n b hb=>wk (R.lt n b hb) hg.size,⟨hg.os.trans R.fr.os,hg.tape.trans R.fr.tape,hg.output.trans R.fr.output,Nat.le_trans R.fr.size hg.size,fun b hb _=>(World.putObj_heap_other (by omega)).trans (R.fr.block b hb id)⟩,R.w0e,R.okl,fun D o hD=>by simp [Ren.withFz] at hD⟩
 obtain ⟨kd,es,hm⟩:=R.iters n m size seen (ho ▸ hn)
 exact hsame m _ b hm rfl hb
theorem akx {orc:bZ} {T:Tr RF} {A B:RC} {Γ:Tr V} {s:S} {F:Nat→Prop} {D:Prop} {Q:Ex→Tr V→S→Prop} (h:Wp orc T (.seq A B) Γ s F D Q):Wp orc T A Γ s F False fun e Γ s=>(e = .normal→Wp orc T B Γ s F False Q)∧(e ≠ .normal→Q e Γ s):=by
 obtain ⟨n,outs,r,h1,h2,h3,_⟩:=h
 cases n with
 | zero=>simp [exec] at h1
 | succ n =>
  dsimp only at h1
  rw [sJ] at h1
  obtain ⟨l,r0,hl,hr0,hmem⟩:=sj h1
  refine ⟨n,l,r0,hl,fun p hp=>?_,fun k hk=>h3 k (hr0 k hk),fun h=>h.elim⟩
  obtain ⟨zs,q,hz,hzs,hq⟩:=hmem p hp
  obtain ⟨e,Γ1,s1⟩:=p
  refine ⟨fun he=>?_,fun he=>?_⟩
  ·subst he
   exact ⟨n,zs,q,hz,fun p hp=>h2 p (hzs p hp),fun k hk=>h3 k (hq k hk),fun h=>h.elim⟩
  ·cases e <;> first | exact absurd rfl he | (cases hz; exact h2 _ (hzs _ (fw.2 rfl)))
theorem GY {P:Program} {orc:bZ} {T:Tr RF} (hT:TOk P T) {w0:World} (ho:iW P w0 orc) (hoi:e9 orc) {A B:RC} {x y:Code} {Γ:Tr V} {s:S} {F:Nat→Prop} {D:Prop} {Q:Ex→Tr V→S→Prop} {nt:Nat} {fr:Option Nat} {dn:Nat} {ds:List Deferred} {H:Hp} {φ0:Ren} {a:Act} {w:World} {Q':Exit→Act→World→Prop}
  (h:Wp orc T (.seq A B) Γ s F D Q) (hQ:∀ e Γ s,Q e Γ s→e = .normal) (hx:dj P nt x = some A) (st:StR ds w0 nt H H φ0 (look Γ) s a w) (hk:∀ Γ' s' a' w',Wp orc T B Γ' s' F False Q→StR ds w0 nt H H φ0 (look Γ') s' a' w'→y.wpIn (FW fr) dn P Q' a' w'):(Code.seq x y).wpIn (FW fr) dn P Q' a w:=by
 refine wpIn_seq (wpIn_mono (G0 hT ho hoi (akx h) hx (fun _ _=>rfl) st) ?_)
 rintro e a' w' ⟨ex,Γ',s',hxm,⟨h1,h2⟩,st'⟩
 have hex:ex = .normal:=by
  by_cases he:ex = .normal
  ·exact he
  ·exact hQ _ _ _ (h2 he)
 subst hex
 cases e <;> simp only [XM] at hxm
 exact hk Γ' s' a' w' (h1 rfl) st'
def rcL:RC→RC | .seq a _=>a | c=>c
def rR:RC→RC | .seq _ b=>b | c=>c
set_option maxRecDepth 100000 in
theorem aux:p_heap_Retained_pre.code = .seq (rcL p_heap_Retained_pre.code) (.seq (rcL (rR p_heap_Retained_pre.code)) (.seq (rcL (rR (rR p_heap_Retained_pre.code))) (.seq (rcL (rR (rR (rR p_heap_Retained_pre.code)))) (.seq (rcL (rR (rR (rR (rR p_heap_Retained_pre.code))))) (rR (rR (rR (rR (rR p_heap_Retained_pre.code))))))))):=by kernel_rfl
set_option maxRecDepth 100000 in
theorem pc1:dj Try.prog 65 (sL NY) = some (rcL p_heap_Retained_pre.code):=by kernel_rfl
set_option maxRecDepth 100000 in
theorem pc2:dj Try.prog 65 (sL (sR NY)) = some (rcL (rR p_heap_Retained_pre.code)):=by kernel_rfl
set_option maxRecDepth 100000 in
theorem pc3:dj Try.prog 65 (sL (sR (sR NY))) = some (rcL (rR (rR p_heap_Retained_pre.code))):=by kernel_rfl
set_option maxRecDepth 100000 in
theorem pc4:dj Try.prog 65 (sL (sR (sR (sR NY)))) = some (rcL (rR (rR (rR p_heap_Retained_pre.code)))):=by kernel_rfl
set_option maxRecDepth 100000 in
theorem pc5:dj Try.prog 65 (sL (sR (sR (sR (sR NY))))) = some (rcL (rR (rR (rR (rR p_heap_Retained_pre.code))))):=by kernel_rfl
set_option maxRecDepth 100000 in
theorem pc6:dj Try.prog 65 (sL (sL aqq)) = some (rR (rR (rR (rR (rR p_heap_Retained_pre.code))))):=by kernel_rfl
end Go.RM
namespace Go.RM
open Go.VM (T lJ tI Pt Fun aX kJ oX j6)
open Go.Proofs Go.Proofs.Ytliccamocpglcaa Go.RowKit Go.Shelf
def tQ (obs:List HO) (dv ls:List Nat):List Int:=ls.reverse.foldl (DK (obs.map HO.size) dv) (List.replicate (obs.length + 1) 0)
theorem I4 (obs:List HO) (dv ls:List Nat):(tQ obs dv ls).length = obs.length + 1:=by
 unfold tQ
 have:∀ (l:List Nat) (z:List Int),(l.foldl (DK (obs.map HO.size) dv) z).length = z.length:=by
  intro l
  induction l with
  | nil=>intro z; rfl
  | cons x l ih=>intro z; rw [List.foldl_cons,ih]; unfold DK akV Yq; rw [vw,vw]
 rw [this,lw]
set_option maxHeartbeats 4000000 in
theorem F5 {orc:bZ} (ho:∀ w0,iW Try.prog w0 orc) (hoi:e9 orc) {obs:List HO} {rts:List Int} {to fr:List (List Nat)} {r:Nat} {ls vals:List Nat} {known:List Bool} (hB:AV orc obs rts to fr (r :: ls) vals known) {dv:List Nat} {dk:List Bool} (hD:acx orc to fr (r :: ls) vals known dv dk) (hc:kY orc (obs.map cX) (rts.map eX) 0)
  (hd:∀ v∈dv,v < obs.length + 1) (hls:∀ v∈ls,v < obs.length) (hll:ls.length≤1000) (hS0:Sb 0 s0) {w:World} {φ:Ren} (R:Rel w φ (d7 (fun _=>none) s0) w) {arg:Value} (harg:RepV φ arg (.agg [.im 4 (obs.map cX),.im 1 (rts.map eX)])) :
  Calls Try.prog 19 #[arg] w fun e w'=>∃ (v:Value) (ψ:Ren) (t:S) (m:Nat),e = .returned v∧ψ.ok = φ.ok∧Rel w ψ t.h.get w'∧RepV ψ v (.tup [.c (.sl m 1 0 obs.length),iV 0])∧t.h.get m = some (.cells cq ((tQ obs dv ls).map sI)):=by
 refine (callsIn_wide (n:=5)).1 ?_
 refine callsIn_of_wp_marks (F:=FW none) (c:=NY) Try.func19 (by kernel_rfl) trivial ?_ rfl
 rw [Try.ntmps19,aqV]
 have st:StR [] w 65 (fun _=>none) (fun _=>none) φ (look (slots [(0,.agg [.im 4 (obs.map cX),.im 1 (rts.map eX)])])) s0 { tmps:=#[arg]++Array.replicate (65 - #[arg].size) undef,defers:=[] } w:=by
  have aK:(#[arg]++Array.replicate (65 - #[arg].size) undef).getD 0 undef = arg:=by
   rw [Array.getD_eq_getD_getElem?,Array.getElem?_append_left (by simp)]
   rfl
  have hsz:65≤(#[arg]++Array.replicate (65 - #[arg].size) undef).size:=by
   rw [Array.size_append,Array.size_replicate]
   omega
  have hin:Inv (fun _=>none) s0:=fun n _=>rfl
  generalize #[arg]++Array.replicate (65 - #[arg].size) undef = tm at aK hsz
  refine ⟨φ,Ren.le_refl _,M3 fun p hp=>?_,R,hin,rfl,hsz⟩
  rw [fw.1 hp]
  show RepV φ (tm.getD 0 undef) _
  rw [aK]
  exact harg
 have hpre:=aLq (orc:=orc) (b:=0) (s:=s0) hS0 hB hD hc (by simp) (Γ:=slots [(0,.agg [.im 4 (obs.map cX),.im 1 (rts.map eX)])]) (by simp only [evS,slots,List.foldr,reduceIte])
 rw [aux] at hpre
 have hN:∀ {P:Prop} {e:Ex},e = .normal∧P→e = .normal:=fun h=>h.1
 refine GY qj (ho w) hoi hpre (fun _ _ _ h=>h.1) pc1 st fun Γ1 s1 a1 w1 h1 st1=>?_
 refine GY qj (ho w) hoi h1 (fun _ _ _ h=>h.1) pc2 st1 fun Γ2 s2 a2 w2 h2 st2=>?_
 refine GY qj (ho w) hoi h2 (fun _ _ _ h=>h.1) pc3 st2 fun Γ3 s3 a3 w3 h3 st3=>?_
 refine GY qj (ho w) hoi h3 (fun _ _ _ h=>h.1) pc4 st3 fun Γ4 s4 a4 w4 h4 st4=>?_
 refine GY qj (ho w) hoi h4 (fun _ _ _ h=>h.1) pc5 st4 fun Γ5 s5 a5 w5 h5 st5=>?_
 refine wpIn_seq (wpIn_seq (wpIn_mono (G0 qj (ho w) hoi h5 pc6 (fun _ _=>rfl) st5) ?_))
 rintro e a6 w6 ⟨ex,Γ6,s6,hx,⟨rfl,hb,n6,n7,pd,mv,mk,mz,nb,no,g1,g6,g7,g29,hR⟩,st6⟩
 cases e <;> simp only [XM] at hx
 have hvl:=hD.vl
 rw [hB.tol] at hvl
 refine wpIn_block (axQ (ho w) hoi (by omega:3≤5) st6 g1 g6 g7 g29 hR hB.small (lw ..) hvl hd hls hll fun D W ψ s' hwD hok hfz st' hR'=>?_)
 show cPost.wpIn _ _ _ _ _ _
 refine wpIn_mono (G0 qj (ho w) hoi (awq (orc:=orc) hR' (I4 obs dv ls) g1 g7) avq (fun _ _=>rfl) st') ?_
 rintro e a7 w7 ⟨ex,Γ7,s7,hx7,⟨rfl,rfl,k2,k3⟩,ψ2,hle2,he2,R2,hi2,hd2,hs2⟩
 have R2':=R2
 rw [BV hi2] at R2
 have hfz2:=hle2.fz D _ hfz
 have hK:=(R2.fz D _ hfz2).1
 cases e <;> simp only [XM] at hx7
 have R3:=R2'.putFz hfz2 hwD (.deferred none)
 have R4:=R3
 rw [BV hi2] at R4
 have hres:O2 [.tmp 2,.tmp 3] Γ7 s7 = some ([(.tup [.c (.sl mz 1 0 obs.length),iV 0],s7)],0):=by
  have:tz Γ7 s7 [.tmp 2,.tmp 3] = some ([.c (.sl mz 1 0 obs.length),iV 0],0):=by simp only [tz,evS,k2,k3]; rfl
  unfold O2
  rw [this]
  rfl
 obtain ⟨v,hv,p,hp,hps,hrep⟩:=Cq (P:=Try.prog) (fn:=Try.f19) (fun t=>(he2 t).refz _) R3 hi2 (by kernel_rfl:Try.f19.results.toList.mapM (BJ Try.prog) = some [.tmp 2,.tmp 3]) hres (fun _ _=>rfl)
 rw [fw.1 hp] at hrep
 show LeavesInM _ _ _ _ _ _ a7.defers .returning w7
 rw [hd2]
 refine ⟨by simp,.inl ⟨D,_,rfl,run_takeDeferred hK,?_⟩⟩
 exact ⟨v,hv,v,ψ2.withFz fun _=>none,s7,mz,rfl,hle2.ok.trans hok,R4,hrep,hR'.ez⟩
end Go.RM
namespace Go.RM
open Go.VM (T lJ tI Pt Fun aX kJ oX j6)
open Go.Proofs Go.Proofs.Ytliccamocpglcaa
def AX (l:List Int):List (List T):=l.map fun z=>[tI z]
theorem Rq (l:List Int):(AX l).flatten = l.map tI:=by
 unfold AX
 induction l with
 | nil=>rfl
 | cons x l ih=>rw [zw,List.flatten_cons,ih]; rfl
theorem HJ {h:Hp} {fresh:Bool} {m n:Nat} {e:TypeId} {l:List Int} (hm:h m = some (.cells e (l.map sI))) (hn:n≤l.length):TreeX h fresh (.sl m 1 0 n) (.sl 1 (AX (l.take n))):=by
 have hl:(AX (l.take n)).length = n:=by unfold AX; rw [List.length_map,List.length_take]; omega
 have:=TreeX.sl (h:=h) (fresh:=fresh) m 1 0 (AX (l.take n)) e (l.map sI) ((l.take n).map sI) hm ?_ ?_ ?_ ?_
 ·rw [hl] at this; exact this
 ·rw [hl]
  unfold cut
  simp only [List.drop_zero,Nat.mul_one,← List.map_take]
  rw [show ((l.take n).map sI).length = n by rw [List.length_map,List.length_take]; omega,Nat.beq_refl]
  rfl
 ·intro row hr
  unfold AX at hr
  obtain ⟨z,_,rfl⟩:=yw.1 hr
  rfl
 ·rw [Rq,List.length_map,List.length_map]
 ·intro j x t hx ht
  rw [Rq,gk] at ht
  rw [gk] at hx
  cases hz:(l.take n)[j]? with
  | none=>rw [hz] at hx; simp at hx
  | some z =>
   rw [hz] at hx ht
   cases hx
   cases ht
   exact TreeX.sc _
theorem XK {orc:bZ} (ho:∀ w0,iW Try.prog w0 orc) (hoi:e9 orc) {obs:List HO} {rts:List Int} {to fr:List (List Nat)} {r:Nat} {ls vals:List Nat} {known:List Bool} (hB:AV orc obs rts to fr (r :: ls) vals known) {dv:List Nat} {dk:List Bool} (hD:acx orc to fr (r :: ls) vals known dv dk) (hc:kY orc (obs.map cX) (rts.map eX) 0)
  (hd:∀ v∈dv,v < obs.length + 1) (hls:∀ v∈ls,v < obs.length) (hll:ls.length≤1000) (fresh:Bool) :
  Fun Try.prog 19 fresh [] [.agg [.imm (.sl 4 (obs.map cX)),.imm (.sl 1 (rts.map eX))]] aX (.tup [.c (.imm (.sl 1 (AX ((tQ obs dv ls).take obs.length)))),.c (.imm (tI 0))]) aX:=by
 refine ahJ (us:=[.agg [.im 4 (obs.map cX),.im 1 (rts.map eX)]]) rfl fun w φ args R hp=>?_
 obtain ⟨arg,rfl⟩ : ∃ arg,args = [arg]:=by
  have:=hp.1
  cases args with
  | nil=>simp at this
  | cons a l=>cases l with
   | nil=>exact ⟨a,rfl⟩
   | cons _ _=>simp at this
 refine (F5 ho hoi hB hD hc hd hls hll ⟨iw _,fun _ _=>rfl,fun k h=>by simp [s0] at h⟩ R (hp.2 0 arg _ rfl rfl)).mono fun e w' hh=>?_
 obtain ⟨v,ψ,t,m,h1,h2,h3,h4,h5⟩:=hh
 exact ⟨v,ψ,t,_,h1,h2,h3,h4,Pt.cons (HJ h5 (by rw [I4]; omega)) (Pt.cons (TreeX.sc _) Pt.nil)⟩
end Go.RM
namespace Go.RM
open Go.VM (T lJ tI Pt Fun aX kJ oX j6)
open Go.Proofs Go.Proofs.Ytliccamocpglcaa
theorem sb0:Sb 0 s0:=⟨iw _,fun _ _=>rfl,fun k h=>by simp [s0] at h⟩
theorem R1 {orc:bZ} (ho:∀ w0,iW Try.prog w0 orc) (hoi:e9 orc) {obs:List HO} {rts:List Int} {to fr:List (List Nat)} {ord vals:List Nat} {known:List Bool} (hB:AV orc obs rts to fr ord vals known) {dv:List Nat} {dk:List Bool} (hD:acx orc to fr ord vals known dv dk) (hc:kY orc (obs.map cX) (rts.map eX) 0) (fresh:Bool) :
  Fun Try.prog iK fresh [] [.agg [.imm (.sl 4 (obs.map cX)),.imm (.sl 1 (rts.map eX))]] aX (.tup [.c (.imm (.sl 1 (AX (i9 obs.length dv dk)))),.c (.imm (tI 0))]) aX:=by
 have hl:(i9 obs.length dv dk).length = obs.length:=by rw [i9,List.length_map,List.length_range]
 refine mW qj ho hoi (us:=[.agg [.im 4 (obs.map cX),.im 1 (rts.map eX)]]) rfl (afQ sb0 hB hD hc) fun v s ⟨m,hv,hm⟩=>?_
 subst hv
 have:=HJ (fresh:=fresh) (n:=obs.length) hm (by omega)
 rw [List.take_of_length_le (by omega)] at this
 exact Pt.cons this (Pt.cons (TreeX.sc _) Pt.nil)
theorem xX {h:Hp} {fresh:Bool} {e:Int}:TreeV h fresh (.tup [.c (.sc cV),iV e]) (.tup [.c (.imm (.sl 1 [])),.c (.imm (tI e))]):=Pt.cons (TreeX.nil 1) (Pt.cons (TreeX.sc _) Pt.nil)
theorem T2 {orc:bZ} (ho:∀ w0,iW Try.prog w0 orc) (hoi:e9 orc) {rows roots:List (List T)} {e:Int} (hc:kY orc rows roots e) (he:e ≠ 0) (fresh:Bool) :
  Fun Try.prog iK fresh [] [.agg [.imm (.sl 4 rows),.imm (.sl 1 roots)]] aX (.tup [.c (.imm (.sl 1 [])),.c (.imm (tI e))]) aX :=
 mW qj ho hoi (us:=[.agg [.im 4 rows,.im 1 roots]]) rfl (adj sb0 hc he) fun v s hv=>by subst hv; exact xX
theorem YZ {orc:bZ} (ho:∀ w0,iW Try.prog w0 orc) (hoi:e9 orc) {rows roots:List (List T)} {e:Int} (hc:L4 orc rows roots e) (he:e ≠ 0) (fresh:Bool) :
  Fun Try.prog jj fresh [] [.agg [.imm (.sl 4 rows),.imm (.sl 1 roots)]] aX (.tup [.c (.imm (.sl 1 [])),.c (.imm (tI e))]) aX :=
 mW apj ho hoi (us:=[.agg [.im 4 rows,.im 1 roots]]) rfl (N9 sb0 hc he) fun v s hv=>by obtain ⟨hv,_⟩:=hv; subst hv; exact xX
theorem aqK {orc:bZ} (ho:∀ w0,iW Try.prog w0 orc) (hoi:e9 orc) {rows roots:List (List T)} {e:Int} (hc:kY orc rows roots e) (he:e ≠ 0) (fresh:Bool) :
  Fun Try.prog pJ fresh [] [.agg [.imm (.sl 4 rows),.imm (.sl 1 roots)]] aX (.tup [.c (.imm (.sl 1 [])),.c (.imm (tI e))]) aX :=
 mW qj ho hoi (us:=[.agg [.im 4 rows,.im 1 roots]]) rfl (asx sb0 hc he) fun v s hv=>by subst hv; exact xX
end Go.RM
namespace Go.RM
open Go.VM (T lJ tI Pt Fun aX kJ oX j6)
open Go.Proofs Go.Proofs.Ytliccamocpglcaa
def tB (b:Bool):T:=.sc (.bool b)
def J9 (l:List Bool):List (List T):=l.map fun z=>[tB z]
theorem RW (l:List Bool):(J9 l).flatten = l.map tB:=by
 unfold J9
 induction l with
 | nil=>rfl
 | cons x l ih=>rw [zw,List.flatten_cons,ih]; rfl
theorem ajj {h:Hp} {fresh:Bool} {m:Nat} {e:TypeId} {l:List Bool} (hm:h m = some (.cells e (l.map bI))):TreeX h fresh (.sl m 1 0 l.length) (.sl 1 (J9 l)):=by
 have hl:(J9 l).length = l.length:=by unfold J9; rw [List.length_map]
 have:=TreeX.sl (h:=h) (fresh:=fresh) m 1 0 (J9 l) e (l.map bI) (l.map bI) hm ?_ ?_ ?_ ?_
 ·rw [hl] at this; exact this
 ·rw [hl]
  unfold cut
  simp only [List.drop_zero,Nat.mul_one]
  rw [List.take_of_length_le (by rw [List.length_map]; omega),List.length_map,Nat.beq_refl]
  rfl
 ·intro row hr
  unfold J9 at hr
  obtain ⟨z,_,rfl⟩:=yw.1 hr
  rfl
 ·rw [RW,List.length_map,List.length_map]
 ·intro j x t hx ht
  rw [RW,gk] at ht
  rw [gk] at hx
  cases hz:l[j]? with
  | none=>rw [hz] at hx; simp at hx
  | some z =>
   rw [hz] at hx ht
   cases hx
   cases ht
   exact TreeX.sc _
theorem arK {orc:bZ} (ho:∀ w0,iW Try.prog w0 orc) (hoi:e9 orc) {obs:List HO} {rts:List Int} {to fr:List (List Nat)} {ord vals:List Nat} {known:List Bool} (hB:AV orc obs rts to fr ord vals known) (hc:kY orc (obs.map cX) (rts.map eX) 0) (fresh:Bool) :
  Fun Try.prog pJ fresh [] [.agg [.imm (.sl 4 (obs.map cX)),.imm (.sl 1 (rts.map eX))]] aX (.tup [.c (.imm (.sl 1 (J9 (known.take obs.length)))),.c (.imm (tI 0))]) aX:=by
 have hl:(known.take obs.length).length = obs.length:=by rw [List.length_take,hB.kl]; omega
 refine mW qj ho hoi (us:=[.agg [.im 4 (obs.map cX),.im 1 (rts.map eX)]]) rfl (aCj sb0 hB hc) fun v s ⟨m,hv,hm⟩=>?_
 subst hv
 have:=ajj (fresh:=fresh) hm
 rw [hl] at this
 exact Pt.cons this (Pt.cons (TreeX.sc _) Pt.nil)
end Go.RM
namespace Go.RM
open Go.VM (T lJ tI Pt Fun aX kJ oX j6)
open Go.Proofs Go.Proofs.Ytliccamocpglcaa
theorem afq {orc:bZ} (ho:∀ w0,iW Try.prog w0 orc) (hoi:e9 orc) {obs:List HO} {rts:List Int} {to fr:List (List Nat)} {ord vals:List Nat} {known:List Bool} (hB:AV orc obs rts to fr ord vals known) (hc:kY orc (obs.map cX) (rts.map eX) 0) (htl:∀ l∈to,l.length≤1000) {id:Int} {want:Nat} (hf:Tj orc (obs.map cX) (rts.map eX) id want true) (hwant:want < obs.length)
  {f:Nat} {bv:List Nat} {bk:List Bool} (hbfs:ahZ to f (((List.replicate (obs.length + 1) 0).set obs.length obs.length,(List.replicate (obs.length + 1) false).set obs.length true),[obs.length]) = some (bv,bk))
  {kw:Bool} (hkw:bk[want]? = some kw) {f2:Nat} {acc:List Int} (hback:kw = true→H3 obs bv f2 want [] = some acc∧acc.length≤1000∧0 < acc.length) (fresh:Bool) :
  Fun Try.prog m6 fresh [] [.agg [.imm (.sl 4 (obs.map cX)),.imm (.sl 1 (rts.map eX))],.c (.imm (tI id))] aX (if kw then .tup [.c (.imm (.sl 1 (AX acc.reverse))),.c (.imm (tI 0))] else .tup [.c (.imm (.sl 1 [])),.c (.imm (tI 5))]) aX:=by
 refine mW qj ho hoi (us:=[.agg [.im 4 (obs.map cX),.im 1 (rts.map eX)],.c (.sc (.int .i64 id))]) rfl (aJx sb0 hB hc htl hf hwant hbfs hkw hback) fun v s hv=>?_
 rcases hv with ⟨hk,hv⟩ | ⟨hk,m,hv,hm⟩
 ·subst hk hv
  exact xX
 ·subst hk hv
  have:=HJ (fresh:=fresh) (n:=acc.length) hm (by rw [List.length_reverse]; omega)
  rw [List.take_of_length_le (by rw [List.length_reverse]; omega)] at this
  exact Pt.cons this (Pt.cons (TreeX.sc _) Pt.nil)
theorem axZ {orc:bZ} (ho:∀ w0,iW Try.prog w0 orc) (hoi:e9 orc) {rows roots:List (List T)} {e:Int} (hc:kY orc rows roots e) (he:e ≠ 0) (id:Int) (fresh:Bool) :
  Fun Try.prog m6 fresh [] [.agg [.imm (.sl 4 rows),.imm (.sl 1 roots)],.c (.imm (tI id))] aX (.tup [.c (.imm (.sl 1 [])),.c (.imm (tI e))]) aX :=
 mW qj ho hoi (us:=[.agg [.im 4 rows,.im 1 roots],.c (.sc (.int .i64 id))]) rfl (aDq sb0 hc he id) fun v s hv=>by subst hv; exact xX
theorem avJ {orc:bZ} (ho:∀ w0,iW Try.prog w0 orc) (hoi:e9 orc) {rows roots:List (List T)} (hc:kY orc rows roots 0) {id:Int} {k:Nat} (hf:Tj orc rows roots id k false) (fresh:Bool) :
  Fun Try.prog m6 fresh [] [.agg [.imm (.sl 4 rows),.imm (.sl 1 roots)],.c (.imm (tI id))] aX (.tup [.c (.imm (.sl 1 [])),.c (.imm (tI 5))]) aX :=
 mW qj ho hoi (us:=[.agg [.im 4 rows,.im 1 roots],.c (.sc (.int .i64 id))]) rfl (arZ sb0 hc hf) fun v s hv=>by subst hv; exact xX
end Go.RM
namespace Go.VM
open Go Go.Proofs Go.Proofs.Ytliccamocpglcaa
open Go.Shelf
def srsSort_ren:Go.Shelf.Ren:=⟨fun | 6=>39 | 15=>54 | 14=>53 | 28=>65 | 29=>66 | 20=>57 | 21=>58 | 22=>59 | 23=>60 | 24=>61 | 25=>62 | 26=>63 | 27=>64 | 46=>68 | 47=>69 | 48=>70 | 49=>71 | 50=>72 | 57=>74 | n=>n,fun | 22=>23 | 24=>3 | 25=>68 | 3=>3 | 39=>82 | 0=>0 | 53=>92 | 55=>94 | 4=>4 | 46=>86 | 45=>85 | 50=>33 | 5=>5 | 9=>9 | 66=>96 | 70=>100 | 76=>102 | 77=>103 | n=>n,fun | n=>n⟩
theorem srsSort:Go.Proofs.SlLaysF.n6 Try.prog srsSort_ren:={
 mixed:=by kernel_rfl
 f6:=⟨Try.f39.name,by decide,Try.func39.trans (congrArg some (by kernel_rfl))⟩
 f14:=⟨Try.f53.name,by decide,Try.func53.trans (congrArg some (by kernel_rfl))⟩
 f15:=Try.func54.trans (congrArg some (by kernel_rfl))
 f20:=⟨Try.f57.name,by decide,Try.func57.trans (congrArg some (by kernel_rfl))⟩
 f21:=⟨Try.f58.name,by decide,Try.func58.trans (congrArg some (by kernel_rfl))⟩
 f22:=⟨Try.f59.name,by decide,Try.func59.trans (congrArg some (by kernel_rfl))⟩
 f23:=⟨Try.f60.name,by decide,Try.func60.trans (congrArg some (by kernel_rfl))⟩
 f24:=⟨Try.f61.name,by decide,Try.func61.trans (congrArg some (by kernel_rfl))⟩
 f25:=⟨Try.f62.name,by decide,Try.func62.trans (congrArg some (by kernel_rfl))⟩
 f26:=⟨Try.f63.name,by decide,Try.func63.trans (congrArg some (by kernel_rfl))⟩
 f27:=⟨Try.f64.name,by decide,Try.func64.trans (congrArg some (by kernel_rfl))⟩
 f28:=Try.func65.trans (congrArg some (by kernel_rfl))
 f29:=Try.func66.trans (congrArg some (by kernel_rfl))
 f46:=⟨Try.f68.name,by decide,Try.func68.trans (congrArg some (by kernel_rfl))⟩
 f47:=Try.func69.trans (congrArg some (by kernel_rfl))
 f48:=Try.func70.trans (congrArg some (by kernel_rfl))
 f49:=⟨Try.f71.name,by decide,Try.func71.trans (congrArg some (by kernel_rfl))⟩
 f50:=⟨Try.f72.name,by decide,Try.func72.trans (congrArg some (by kernel_rfl))⟩
 f57:=⟨Try.f74.name,by decide,Try.func74.trans (congrArg some (by kernel_rfl))⟩
 t0:=Try.underlying0
 a0:=Try.isAgg0
 z0:=Try.sizeOf0
 v0:=Try.zeroValue0
 t3:=Try.underlying3
 a3:=Try.isAgg3
 z3:=Try.sizeOf3
 v3:=Try.zeroValue3
 t4:=Try.underlying4
 a4:=Try.isAgg4
 z4:=Try.sizeOf4
 v4:=Try.zeroValue4
 t5:=Try.underlying5
 a5:=Try.isAgg5
 z5:=Try.sizeOf5
 v5:=Try.zeroValue5
 t9:=Try.underlying9
 a9:=Try.isAgg9
 z9:=Try.sizeOf9
 v9:=Try.zeroValue9
 t22:=Try.underlying23
 a22:=Try.isAgg23
 z22:=Try.sizeOf23
 v22:=Try.zeroValue23
 a24:=Try.isAgg3
 z24:=Try.sizeOf3
 t25:=Try.underlying68
 a25:=Try.isAgg68
 z25:=Try.sizeOf68
 v25:=Try.zeroValue68
 t39:=Try.underlying82
 a39:=Try.isAgg82
 z39:=Try.sizeOf82
 v39:=Try.zeroValue82
 t45:=Try.underlying85
 a45:=Try.isAgg85
 z45:=Try.sizeOf85
 v45:=Try.zeroValue85
 t46:=Try.underlying86
 a46:=Try.isAgg86
 z46:=Try.sizeOf86
 v46:=Try.zeroValue86
 t50:=Try.underlying33
 a50:=Try.isAgg33
 z50:=Try.sizeOf33
 v50:=Try.zeroValue33
 t53:=Try.underlying92
 a53:=Try.isAgg92
 z53:=Try.sizeOf92
 v53:=Try.zeroValue92
 t55:=Try.underlying94
 a55:=Try.isAgg94
 z55:=Try.sizeOf94
 v55:=Try.zeroValue94
 t66:=Try.underlying96
 a66:=Try.isAgg96
 z66:=Try.sizeOf96
 v66:=Try.zeroValue96
 t70:=Try.underlying100
 a70:=Try.isAgg100
 z70:=Try.sizeOf100
 v70:=Try.zeroValue100
 t76:=Try.underlying102
 a76:=Try.isAgg102
 z76:=Try.sizeOf102
 v76:=Try.zeroValue102
 t77:=Try.underlying103
 a77:=Try.isAgg103
 z77:=Try.sizeOf103
 v77:=Try.zeroValue103 }
def aiW:Go.Shelf.Ren:=⟨fun | 5=>42 | 7=>55 | n=>n,fun | 22=>3 | 3=>3 | 4=>4 | n=>n,fun | n=>n⟩
theorem srsCmp:Go.Proofs.SlLaysC2.n5 Try.prog aiW:={
 mixed:=by kernel_rfl
 f5:=⟨Try.f42.name,by decide,Try.func42.trans (congrArg some (by kernel_rfl))⟩
 f7:=⟨Try.f55.name,by decide,Try.func55.trans (congrArg some (by kernel_rfl))⟩
 t3:=Try.underlying3
 a3:=Try.isAgg3
 z3:=Try.sizeOf3
 v3:=Try.zeroValue3
 t4:=Try.underlying4
 a4:=Try.isAgg4
 z4:=Try.sizeOf4
 v4:=Try.zeroValue4
 t22:=Try.underlying3
 a22:=Try.isAgg3
 z22:=Try.sizeOf3
 v22:=Try.zeroValue3 }
end Go.VM
namespace Go.RM
open Go Go.Proofs Go.Proofs.Ytliccamocpglcaa Go.Shelf Go.Sort
def orI (a b:Int):Int:=if a ≠ 0 then a else b
set_option maxHeartbeats 2000000 in
theorem aCW (a b:Int) (W:World) (q cap:Nat) (h0:W.cell? ⟨q,0,none⟩ = some (.int .i64 a)) (h1:W.cell? ⟨q,1,none⟩ = some (.int .i64 b)) :
  Calls Try.prog 41 #[.slice (some ⟨q,0,none⟩) 2 cap] W fun e w'=>e = .returned (.int .i64 (orI a b))∧w' = W:=by
 go_enter Try.func41,Try.ntmps41
 go_wp2
 refine wp_loop_rounds 3 ?_
 rw [rounds_succ]
 go_wp2
 ·go_ret
  rename_i h
  refine ⟨?_,rfl⟩
  rw [orI,if_pos (by simpa using h)]
  rfl
 ·rename_i h
  rw [rounds_succ]
  go_wp2
  ·go_ret
   refine ⟨?_,rfl⟩
   rw [orI,if_neg (by simpa using h)]
   rfl
  ·rename_i h2
   rw [rounds_succ]
   go_wp2
   go_ret
   refine ⟨?_,rfl⟩
   have hb:b = 0:=by simpa using h2
   rw [orI,if_neg (by simpa using h),hb]
   rfl
set_option maxHeartbeats 8000000 in
theorem aMY (x y:Nat) (sx sy ix iy:Int) (W:World) (q6 o6 q2 o2 mz om oz oo n1 c1 n2 c2:Nat) (hx:x < n1) (hy:y < n1) (hx2:x < n2) (hy2:y < n2)
  (h6:W.cell? ⟨q6,o6,none⟩ = some (.slice (some ⟨mz,om,none⟩) n1 c1)) (h2:W.cell? ⟨q2,o2,none⟩ = some (.slice (some ⟨oz,oo,none⟩) n2 c2))
  (hsx:W.cell? ⟨mz,om + x,none⟩ = some (.int .i64 sx)) (hsy:W.cell? ⟨mz,om + y,none⟩ = some (.int .i64 sy)) (hix:W.cell? ⟨oz,oo + x * 4,none⟩ = some (.int .i64 ix)) (hiy:W.cell? ⟨oz,oo + y * 4,none⟩ = some (.int .i64 iy)) :
  Calls Try.prog 40 #[.int .i64 (x:Int),.int .i64 (y:Int),.pointer (some ⟨q6,o6,none⟩),.pointer (some ⟨q2,o2,none⟩)] W fun e w'=>e = .returned (.int .i64 (orI (Go.Lib.compareInt sy sx) (Go.Lib.compareInt ix iy)))∧∃ q os',w' = grow (W.drewN q) os':=by
 have hcon:=fun a c W'=>AnyG.cmp_Compare_int Go.VM.srsCmp a c W'
 change ∀ a c W',Calls Try.prog 42 _ _ _ at hcon
 go_enter Try.func40,Try.ntmps40
 go_wp2
 go_region_held3 (fun w'=>w'.cell? ⟨q6,o6,none⟩ = some (.slice (some ⟨mz,om,none⟩) n1 c1)∧w'.cell? ⟨q2,o2,none⟩ = some (.slice (some ⟨oz,oo,none⟩) n2 c2)∧w'.cell? ⟨mz,om + x,none⟩ = some (.int .i64 sx)∧w'.cell? ⟨mz,om + y,none⟩ = some (.int .i64 sy)∧w'.cell? ⟨oz,oo + x * 4,none⟩ = some (.int .i64 ix)∧w'.cell? ⟨oz,oo + y * 4,none⟩ = some (.int .i64 iy)) (go_keep) (first | (go_at_call 42; refine (hcon _ _ _).mono ?_; rintro e w' ⟨rfl,rfl⟩) | (go_at_call 41; refine (aCW (Go.Lib.compareInt sy sx) (Go.Lib.compareInt ix iy) _ _ _ (by simp [go_sem]) (by simp [go_sem])).mono ?_; rintro e w' ⟨rfl,rfl⟩))
 go_wp2
 go_ret
 exact ⟨rfl,1,_,by rw [alloc_eq_grow]; rfl⟩
end Go.RM
namespace Go.RM
open Go.VM (T lJ tI Pt Fr RepT)
open Go Go.Proofs Go.Proofs.Ytliccamocpglcaa Go.Shelf Go.Sort Go.RowKit
theorem akK {w0 w w':World} {φ ψ:Ren} {h h':Hp} {c m:Nat} {e:TypeId} {xs:List X} (R:Rel w0 φ h w) (hc:h c = none) (R':Rel w ψ h' w') (hm:h' m = some (.cells e xs)) (hsc:∀ x∈xs,∃ v,x = .sc v) :
  ∃ l,ψ m = some l∧φ.le (φ.put c l)∧Rel w0 (φ.put c l) (upd h c (.cells e xs)) w':=by
 obtain ⟨b,β,lim,arr,h1,h2,h3,h4,h5⟩:=R'.rep m _ hm
 refine ⟨_,h1,Ren.le_put _ (R.dom c hc),Rel.new R hc (R'.old m _ b hm rfl ⟨β,lim,h1⟩) (R'.lt m b ⟨β,lim,h1⟩) R'.fr (fun m size seen he=>by cases he) fun φ' he hle=>?_⟩
 refine ⟨b,β,lim,arr,by rw [he]; exact Ren.put_self _ _ _,h2,h3,h4,fun j x hx=>?_⟩
 obtain ⟨v,hv,hr⟩:=h5 j x hx
 obtain ⟨u,rfl⟩:=hsc x (jk hx)
 cases hr with | sc _ h1 => exact ⟨_,hv,.sc _ h1⟩
theorem amJ {φ:Ren} {w:World} (hfr:Fr φ.w0 w fun _=>False) (hok:∀ b,φ.ok b→b < φ.w0.heap.size) {v:Value} {k:Nat} {rows:List (List T)} (h:RepX φ v (.im k rows)):RepX ⟨fun _=>none,w,φ.ok,fun _=>none⟩ v (.im k rows):=by
 cases h with | im _ _ _ h => exact .im _ _ _ (h.mono (fun b hb => hfr.block b (hok b hb) id) fun _ h => h)
theorem aBq {w:World} {ok:Nat→Prop} (hlt:∀ b,ok b→b < w.heap.size):Rel w ⟨fun _=>none,w,ok,fun _=>none⟩ (d7 (fun _=>none) s0) w:=by
 have hn:∀ m,d7 (fun _=>none) s0 m = none:=fun m=>by simp [d7,s0]
 exact ⟨fun m o h=>by rw [hn] at h; simp at h,fun m _ o _ _ h=>by rw [hn] at h; simp at h,fun m o _ h=>by rw [hn] at h; simp at h,fun m _ _ _ h=>by rw [hn] at h; simp at h,fun _ _=>rfl,fun m b ⟨_,_,h⟩=>by simp at h,Fr.refl _ _,rfl,hlt,fun D o h=>by simp at h⟩
theorem asJ {orc:bZ} (ho:∀ w0,iW Try.prog w0 orc) (hoi:e9 orc) {obs:List HO} {rts:List Int} {to fr:List (List Nat)} {r:Nat} {ls vals:List Nat} {known:List Bool} (hB:AV orc obs rts to fr (r :: ls) vals known) {dv:List Nat} {dk:List Bool} (hD:acx orc to fr (r :: ls) vals known dv dk) (hc:kY orc (obs.map cX) (rts.map eX) 0)
  (hd:∀ v∈dv,v < obs.length + 1) (hls:∀ v∈ls,v < obs.length) (hll:ls.length≤1000) {w0 w:World} {s:S} {g h2:Hp} {φ:Ren} {vs:List Value} (hn:s.h.get s.c = none) (hr:h2 s.c = g s.c) (hi:Inv g s) (R:Rel w0 φ (d7 h2 s) w) (hv:Pt (RepV φ) vs [.agg [.im 4 (obs.map cX),.im 1 (rts.map eX)]]) :
  Calls Try.prog 19 vs.toArray w fun e w'=>∃ v,e = .returned v∧∃ φ',φ.le φ'∧Rel w0 φ' (d7 h2 (wz s (.cells cq ((tQ obs dv ls).map sI)))) w'∧RepV φ' v (.tup [.c (.sl s.c 1 0 obs.length),iV 0]):=by
 obtain ⟨arg,rfl⟩ : ∃ arg,vs = [arg]:=by
  have:=hv.1
  cases vs with
  | nil=>simp at this
  | cons a l=>cases l with
   | nil=>exact ⟨a,rfl⟩
   | cons _ _=>simp at this
 have harg:RepV φ arg (.agg [.im 4 (obs.map cX),.im 1 (rts.map eX)]):=hv.2 0 arg _ rfl rfl
 have hw0:=R.w0e
 have hfr:Fr φ.w0 w fun _=>False:=by rw [hw0]; exact R.fr
 have hokl:∀ b,φ.ok b→b < φ.w0.heap.size:=by rw [hw0]; exact R.okl
 obtain ⟨cs,rfl,hcs⟩:=harg
 have harg':RepV ⟨fun _=>none,w,φ.ok,fun _=>none⟩ (.agg cs) (.agg [.im 4 (obs.map cX),.im 1 (rts.map eX)]):=by
  refine ⟨cs,rfl,hcs.1,fun j v x hv hx=>?_⟩
  have h:=hcs.2 j v x hv hx
  match j,hx with
  | 0,hx=>cases hx; exact amJ hfr hokl h
  | 1,hx=>cases hx; exact amJ hfr hokl h
 have hrb:=aBq (w:=w) (ok:=φ.ok) fun b hb=>wk (hokl b hb) (by rw [hw0]; exact R.fr.size)
 refine (F5 ho hoi hB hD hc hd hls hll ⟨iw _,fun _ _=>rfl,fun k h=>by simp [s0] at h⟩ hrb harg').mono fun e w' hh=>?_
 obtain ⟨v,ψ,t,m,h1,h2',h3,h4,h5⟩:=hh
 have hnone:d7 h2 s s.c = none:=(j0 hi hr).trans hn
 obtain ⟨l,e1,hle,R'⟩:=akK R hnone h3 h5 (fun x hx=>by obtain ⟨z,_,rfl⟩:=yw.1 hx; exact ⟨_,rfl⟩)
 refine ⟨v,h1,_,hle,?_,?_⟩
 ·have:d7 h2 (wz s (.cells cq ((tQ obs dv ls).map sI))) = upd (d7 h2 s) s.c (.cells cq ((tQ obs dv ls).map sI)):=K1
  rw [this]; exact R'
 ·obtain ⟨us,rfl,hp⟩:=h4
  refine ⟨us,rfl,hp.1,fun j u x hu hx=>?_⟩
  have h:=hp.2 j u
  match j,hx with
  | 0,hx =>
   cases hx
   have h:=h _ hu rfl
   cases h with
   | sl _ _ _ _ b β lim o cap g1 g2 g3 g4 =>
    rw [g1] at e1
    cases e1
    exact .sl _ _ _ _ b β lim o cap (Ren.put_self _ _ _) g2 g3 g4
  | 1,hx =>
   cases hx
   have h:=h _ hu rfl
   cases h with | sc _ h1 => exact .sc _ h1
end Go.RM
namespace Go.RM
open Go.VM (T lJ tI Pt Fr RepT)
open Go Go.Proofs Go.Proofs.Ytliccamocpglcaa Go.Shelf Go.Sort Go.RowKit
def Mj (obs:List HO) (i:Nat):Int:=(obs[i]?.map HO.id).getD 0
def cfT (obs:List HO) (zs:List Int) (x y:Fin obs.length):Int:=orI (Go.Lib.compareInt (zs.getD y 0) (zs.getD x 0)) (Go.Lib.compareInt (Mj obs x) (Mj obs y))
def arq (obs:List HO):Bool:=(List.range obs.length).all fun i=>(List.range obs.length).all fun j=>decide (Mj obs i = Mj obs j→i = j)
theorem aTX (a b c d:Int):decide (orI (Go.Lib.compareInt a b) (Go.Lib.compareInt c d) < 0) = decide (a < b∨(a = b∧c < d)):=by
 unfold orI Go.Lib.compareInt
 rw [decide_eq_decide]
 repeat' split
 all_goals omega
theorem cf_lt (obs:List HO) (zs:List Int) (x y:Fin obs.length):ltOf (cfT obs zs) x y = decide (zs.getD y 0 < zs.getD x 0∨(zs.getD y 0 = zs.getD x 0∧Mj obs x < Mj obs y)):=aTX _ _ _ _
theorem aQX (obs:List HO) (zs:List Int):SWO (ltOf (cfT obs zs)) where
 irrefl x:=by rw [cf_lt]; simp
 trans x y z h1 h2:=by rw [cf_lt] at *; simp only [jw] at *; omega
 ntrans x y z h1 h2:=by rw [cf_lt] at *; simp only [decide_eq_false_iff_not] at *; omega
theorem aEj (obs:List HO) (zs:List Int) (hid:arq obs = true) (x y:Fin obs.length) (h1:ltOf (cfT obs zs) x y = false) (h2:ltOf (cfT obs zs) y x = false):x = y:=by
 rw [cf_lt] at h1 h2
 simp only [decide_eq_false_iff_not] at h1 h2
 unfold arq at hid
 rw [uk] at hid
 have h3:=hid x (List.mem_range.2 x.2)
 rw [uk] at h3
 have h4:=of_decide_eq_true (h3 y (List.mem_range.2 y.2))
 exact Fin.ext (h4 (by omega))
def topSort (obs:List HO) (zs:List Int) (l:List (Fin obs.length)):List (Fin obs.length):=l.mergeSort fun x y=>!ltOf (cfT obs zs) y x
def Mx {n:Nat} (x:Fin n):Value:=.int .i64 ((x:Nat):Int)
def nF {n:Nat} (l:List (Fin n)):List X:=l.map fun x:Fin n=>nI x.val
section
variable {n:Nat} [Inhabited (Fin n)]
theorem aGJ {w:World} {q off m:Nat} {d:Array (Fin n)} {os:Array Obj} {cur:Array Value} {e:TypeId} {fr:Nat × Nat} (hb:w.heap[q]? = some (.cells cur e fr)) :
  (sortWorld Mx w q off m d os).heap[q]? = some (.cells (putCells Mx off d cur) e fr):=by
 have hg:q < w.heap.size:=(mw.1 hb).1
 unfold sortWorld
 rw [heap_grow_old _ _ (by simpa using hg)]
 simp [putRow,mapBlock,Sort.ahead,Array.getElem?_modify,hb,onCells]
theorem FJ {w:World} {q off m k:Nat} {d:Array (Fin n)} {os:Array Obj} (hk:k < w.heap.size) (hne:k ≠ q):(sortWorld Mx w q off m d os).heap[k]? = w.heap[k]?:=by
 unfold sortWorld
 rw [heap_grow_old _ _ (by simpa using hk)]
 simp [putRow,mapBlock,Sort.ahead,Array.getElem?_modify,Ne.symm hne]
theorem aRz {w:World} {q off m:Nat} {d:Array (Fin n)} {os:Array Obj} {mine:Nat→Prop} (hm:mine q):Fr w (sortWorld Mx w q off m d os) mine :=
 ⟨rfl,rfl,rfl,by simp [sortWorld,grow,putRow,mapBlock,Sort.ahead],fun k hk hne=>FJ hk fun e=>hne (by rw [e]; exact hm)⟩
theorem PZ {w:World} {b:Nat} {arr:Array Value} {e:TypeId} {fr:Nat × Nat} (h:w.heap[b]? = some (.cells arr e fr)) (i:Nat):w.cell? ⟨b,i,none⟩ = arr[i]?:=by
 simp [World.cell?,h]
theorem GJ {w w':World} {b:Nat} (h:w'.heap[b]? = w.heap[b]?) (i:Nat):w'.cell? ⟨b,i,none⟩ = w.cell? ⟨b,i,none⟩:=World.cell?_of_block h
end
theorem PK {obs:List HO} {i:Nat} (hi:i < obs.length):(obs.map cX)[i]? = some (cX obs[i]):=by rw [gk,ck hi]; rfl
set_option maxHeartbeats 2000000 in
theorem agQ {obs:List HO} {roots:List (List T)} {zs:List Int} (hid:arq obs = true) (hz:obs.length≤zs.length) {lF:List (Fin obs.length)} (hne:lF ≠ []) (hll:lF.length≤1000)
  {w0 w:World} {s:S} {g h2:Hp} {φ:Ren} {vs:List Value} {m p6 p2 mz:Nat} (hm:s.h.get m = some (.cells cq (nF lF))) (h6:s.h.get p6 = some (.cells iX [.sl mz 1 0 obs.length])) (hmz:s.h.get mz = some (.cells cq (zs.map sI))) (hp2:s.h.get p2 = some (.cells cK [.im 4 (obs.map cX),.im 1 roots]))
  (ne6:p6 ≠ m) (ne2:p2 ≠ m) (nez:mz ≠ m) (rm:h2 m = g m) (r6:h2 p6 = g p6) (r2:h2 p2 = g p2) (rz:h2 mz = g mz) (hi:Inv g s) (R:Rel w0 φ (d7 h2 s) w) (hv:Pt (RepV φ) vs [.c (.sl m 1 0 lF.length),.c (.fn i1 [.ptr p6 0,.ptr p2 0])]) :
  Calls Try.prog 39 vs.toArray w fun e w'=>∃ v,e = .returned v∧∃ φ',φ.le φ'∧Rel w0 φ' (d7 h2 (pV s m (.cells cq (nF (topSort obs zs lF))))) w'∧RepV φ' v (.tup []):=by
 obtain ⟨v,u,rfl⟩ : ∃ v u,vs = [v,u]:=by
  have:=hv.1
  match vs,this with
  | [v,u],_=>exact ⟨v,u,rfl⟩
 have hv0:RepX φ v (.sl m 1 0 lF.length):=hv.2 0 v _ rfl rfl
 have hu0:RepX φ u (.fn i1 [.ptr p6 0,.ptr p2 0]):=hv.2 1 u _ rfl rfl
 have hpos:0 < lF.length:=List.length_pos_iff.2 hne
 obtain ⟨x0,hx0⟩ : ∃ x,x∈lF:=List.exists_mem_of_ne_nil _ hne
 have inh:Inhabited (Fin obs.length):=⟨x0⟩
 cases hv0 with
 | sl _ _ _ _ b β lim o cap g1 g2 g3 g4 =>
 have ho:=(g3 hpos).symm
 simp only [Nat.add_zero] at ho
 subst ho
 cases hu0 with
 | fn _ cs _ hcl hcs =>
 obtain ⟨c6,c2,rfl⟩ : ∃ c6 c2,cs = [c6,c2]:=by
  match cs,hcl with
  | [a,c],_=>exact ⟨a,c,rfl⟩
 have k6:RepX φ c6 (.ptr p6 0):=hcs 0 c6 _ rfl rfl
 have k2:RepX φ c2 (.ptr p2 0):=hcs 1 c2 _ rfl rfl
 cases k6 with
 | ptr _ _ b6 β6 lim6 f6 =>
 cases k2 with
 | ptr _ _ b2 β2 lim2 f2 =>
 simp only [Nat.add_zero] at *
 have gm:=(j0 hi rm).trans hm
 have gp6:=(j0 hi r6).trans h6
 have gp2:=(j0 hi r2).trans hp2
 have gmz:=(j0 hi rz).trans hmz
 obtain ⟨b',β',lim',arr,a1,a2,a3,a4,a5⟩:=R.rep m _ gm
 rw [g1] at a1; cases a1
 obtain ⟨b',β',lim',arr6,d1,d2,d3,d4,d5⟩:=R.rep p6 _ gp6
 rw [f6] at d1; cases d1
 obtain ⟨b',β',lim',arr2,e1,e2,e3,e4,e5⟩:=R.rep p2 _ gp2
 rw [f2] at e1; cases e1
 obtain ⟨bz,βz,limz,arrz,z1,z2,z3,z4,z5⟩:=R.rep mz _ gmz
 obtain ⟨v6,j1,j2⟩:=d5 0 _ rfl
 obtain ⟨v2,j3,j4⟩:=e5 0 _ rfl
 simp only [Nat.add_zero] at j1 j3
 have hnpos:0 < obs.length:=Nat.lt_of_le_of_lt (Nat.zero_le _) x0.2
 cases j2 with
 | sl _ _ _ _ bz' βz' limz' oz capz y1 y2 y3 y4 =>
 rw [z1] at y1; cases y1
 have y3:=(y3 hnpos).symm
 simp only [Nat.add_zero] at y3
 subst y3
 cases j4 with
 | im _ _ _ hT =>
 rw [show (obs.map cX) = cX obs[0] :: (obs.map cX).tail by
  cases obs with
  | nil=>simp at hnpos
  | cons a l=>rfl] at hT
 rw [show cX obs[0] :: (obs.map cX).tail = obs.map cX by
  cases obs with
  | nil=>simp at hnpos
  | cons a l=>rfl] at hT
 obtain ⟨bo,oo,capo,fo,q1,q2,q3,q4,q5⟩ : ∃ bo oo capo,∃ f:Nat→Nat→Value,v2 = .slice (some ⟨bo,oo,none⟩) obs.length capo∧φ.ok bo∧obs.length≤capo∧(∀ (i:Nat) row (j:Nat) x,(obs.map cX)[i]? = some row→row[j]? = some x→φ.w0.cell? ⟨bo,oo + i * 4 + j,none⟩ = some (f i j))∧(∀ (i:Nat) row (j:Nat) x,(obs.map cX)[i]? = some row→row[j]? = some x→RepT φ.w0 φ.ok (f i j) x):=by
  generalize hrows:obs.map cX = rows at hT
  have hl:rows.length = obs.length:=by rw [← hrows,List.length_map]
  cases hT with
  | nil=>simp at hl; omega
  | sl bo oo capo _ _ fo hok hle hk hc hr=>exact ⟨bo,oo,capo,fo,by rw [hl],hok,by omega,hc,hr⟩
 subst q1
 rw [R.w0e] at q4 q5
 have hbo:bo < w0.heap.size:=R.okl bo q2
 have hob:=R.old m _ b gm rfl ⟨_,_,g1⟩
 have nb6:b6 ≠ b:=fun e=>ne6 (R.inj p6 m _ _ b gp6 gm rfl rfl ⟨_,_,e ▸ f6⟩ ⟨_,_,g1⟩)
 have nb2:b2 ≠ b:=fun e=>ne2 (R.inj p2 m _ _ b gp2 gm rfl rfl ⟨_,_,e ▸ f2⟩ ⟨_,_,g1⟩)
 have nbz:bz ≠ b:=fun e=>nez (R.inj mz m _ _ b gmz gm rfl rfl ⟨_,_,e ▸ z1⟩ ⟨_,_,g1⟩)
 have nbo:bo ≠ b:=by omega
 have l6:=(mw.1 d2).1
 have l2:=(mw.1 e2).1
 have lz:=(mw.1 z2).1
 have lb:=(mw.1 a2).1
 have lo:bo < w.heap.size:=wk hbo R.fr.size
 have hcmp:CmpLays1 Try.prog 40 #[.pointer (some ⟨b6,β6,none⟩),.pointer (some ⟨b2,β2,none⟩)] Mx (cfT obs zs) b β lF.toArray.size w:=by
  intro m' os dk _ x y
  have hzs:∀ i:Fin obs.length,(sortWorld Mx w b β m' dk os).cell? ⟨bz,βz + (i:Nat),none⟩ = some (.int .i64 (zs.getD i 0)):=fun i=>by
   rw [GJ (FJ lz nbz),PZ z2]
   have hil:(i:Nat) < zs.length:=by have:=i.2; omega
   obtain ⟨u,hu,hr⟩:=z5 i (sI zs[(i:Nat)]) (by rw [gk,ck hil]; rfl)
   cases hr
   rw [hu,sk,ck hil]; rfl
  have hob:∀ i:Fin obs.length,(sortWorld Mx w b β m' dk os).cell? ⟨bo,oo + (i:Nat) * 4,none⟩ = some (.int .i64 (Mj obs i)):=fun i=>by
   rw [GJ (FJ lo nbo),GJ (R.fr.block bo hbo id)]
   have h1:=q4 i _ 0 _ (PK i.2) rfl
   have h2:=q5 i _ 0 _ (PK i.2) rfl
   simp only [Nat.add_zero] at h1
   generalize fo (i:Nat) 0 = u at h1 h2
   cases h2
   rw [h1,Mj,ck i.2]; rfl
  have:=aMY x y (zs.getD x 0) (zs.getD y 0) (Mj obs x) (Mj obs y) (sortWorld Mx w b β m' dk os) b6 β6 b2 β2 bz βz bo oo obs.length capz obs.length capo x.2 y.2 x.2 y.2
   (by rw [GJ (FJ l6 nb6),PZ d2]; exact j1) (by rw [GJ (FJ l2 nb2),PZ e2]; exact j3) (hzs x) (hzs y) (hob x) (hob y)
  exact this
 have hH:Holds Mx w b β lF.toArray:=by
  intro j hj
  have hj':j < lF.length:=by simpa using hj
  obtain ⟨u,hu,hr⟩:=a5 j (nI lF[j]) (by rw [nF,gk,ck hj']; rfl)
  cases hr
  refine ⟨?_,by simp [World.frozen?,a2]⟩
  rw [PZ a2,hu]
  simp [Mx,hj']
 have cS:=Any.slices_SortFunc_total Go.VM.srsSort Mx (fun _=>rfl) (cfT obs zs) (aQX obs zs) 40 #[.pointer (some ⟨b6,β6,none⟩),.pointer (some ⟨b2,β2,none⟩)] b β cap lF.toArray w (enters_of Try.func40 (by kernel_rfl) rfl) hcmp hH lb (by simp; omega) (aEj obs zs hid)
 change Calls Try.prog 39 _ _ _ at cS
 rw [List.size_toArray] at cS
 refine cS.mono ?_
 rintro e w' ⟨rfl,nn,os,rfl⟩
 refine ⟨_,rfl,φ,Ren.le_refl φ,?_,⟨#[],rfl,Go.VM.Pt.nil⟩⟩
 have hov:d7 h2 (pV s m (.cells cq (nF (topSort obs zs lF)))) = upd (d7 h2 s) m (.cells cq (nF (topSort obs zs lF))):=K1
 rw [hov]
 have htl:(topSort obs zs lF).length = lF.length:=List.length_mergeSort _
 refine R.put gm rfl (aRz ⟨_,_,g1⟩) ⟨b,β,lim,_,g1,aGJ a2,by simp [putCells,a3],by simp only [nF,List.length_map,htl]; simp only [nF,List.length_map] at a4; exact a4,fun j x hx=>?_⟩ (fun p m' size seen hp he _=>?_) (fun m' size seen he=>by cases he)
 ·rw [nF,gk] at hx
  obtain ⟨t,ht,rfl⟩:=aw.1 hx
  have hjl:j < (topSort obs zs lF).length:=(cw.1 ht).1
  have hlt:β + j < arr.size:=by simp only [nF,List.length_map] at a4; omega
  refine ⟨Mx t,?_,.sc _ rfl⟩
  rw [List.toList_toArray]
  change (putCells Mx β (topSort obs zs lF).toArray arr)[β + j]? = _
  simp only [putCells,Array.getElem?_mapIdx,Array.getElem?_eq_getElem hlt,qw]
  have h1:β≤β + j∧β + j < β + (topSort obs zs lF).toArray.size:=by simp; omega
  rw [if_pos h1]
  congr 1
  have h3:β + j - β = j:=by omega
  rw [h3]
  have h4:=(cw.1 ht).2
  simp [getElem!_def,ht]
 ·obtain ⟨kd,es,h⟩:=R.iters p m' size seen hp
  subst he
  rw [gm] at h; cases h
end Go.RM
namespace Go.RM
open Go.VM (T lJ)
open Go.Proofs Go.Proofs.Ytliccamocpglcaa
def aBY (orc:bZ) (obs:List HO) (rts:List Int) (zs:List Int):Prop :=
 ∀ b s,Sb b s→Cp orc p_T jj [.agg [.im 4 (obs.map cX),.im 1 (rts.map eX)]] s (fun k=>b≤k) True fun v s'=>v = .tup [.c (.sl s.c 1 0 obs.length),iV 0]∧Sb b s'∧s'.c = s.c + 1∧s'.h.get s.c = some (.cells cq (zs.map sI))∧∀ k,k < s.c→s'.h.get k = s.h.get k
structure aBV (orc:bZ) (obs:List HO) (rts:List Int) (zs:List Int) (lF lS:List (Fin obs.length)):Prop where
 nil:lF = []→∀ s p6 p2,Cp orc p_T fY [.c (.sc cV),.c (.fn i1 [.ptr p6 0,.ptr p2 0])] s (fun _=>False) True fun v s'=>s = s'∧v = .tup []
 own:lF ≠ []→∀ b s m p6 p2 mz,Sb b s→s.h.get m = some (.cells cq (nF lF))→s.h.get p6 = some (.cells iX [.sl mz 1 0 obs.length])→s.h.get mz = some (.cells cq (zs.map sI))→s.h.get p2 = some (.cells cK [.im 4 (obs.map cX),.im 1 (rts.map eX)]) →
  p6 ≠ m→p2 ≠ m→mz ≠ m→b≤m→b≤p6→b≤p2→b≤mz →
  Cp orc p_T fY [.c (.sl m 1 0 lF.length),.c (.fn i1 [.ptr p6 0,.ptr p2 0])] s (fun k=>b≤k) True fun v s'=>v = .tup []∧Sb b s'∧s'.c = s.c∧s'.h.get m = some (.cells cq (nF lS))∧∀ k,k ≠ m→s'.h.get k = s.h.get k
theorem aKj {e:Opd→V} {x h:Opd} {k:Nat} (hx:e x = .c (.sc cV)) (hh:e h = iV 0):bQ e (.sub k x none (some h)) = some (.c (.sc cV)):=by
 simp only [bQ,hx,cV,bnd,hh,iV,mX,gw]
 rfl
theorem aEY {e:Opd→V} {a c:Opd} {x y:Int} (ha:e a = iV x) (hc:e c = iV y):bQ e (.mm false [a,c]) = some (iV (min x y)):=by
 simp only [bQ,zw,List.map_nil,ha,hc]
 rfl
set_option maxHeartbeats 4000000 in
theorem aIz {orc:bZ} {b:Nat} {s:S} (hS:Sb b s) {rows roots:List (List T)} {e:Int} (hc:L4 orc rows roots e) (he:e ≠ 0) (n:Int) :
  Cp orc aIW wZ [.agg [.im 4 rows,.im 1 roots],.c (.sc (.int .i64 n))] s (fun k=>b≤k) True fun v s'=>v = .tup [.c (.sc cV),iV e]:=by
 have hle:=hS.le
 refine jV (rf:=pq) rfl ?_
 unfold pq
 obtain ⟨Γ,hΓ⟩ : ∃ Γ,Γ = ofL [V.agg [.im 4 rows,.im 1 roots],.c (.sc (.int .i64 n))] 0 .lf:=⟨_,rfl⟩
 have g0:look Γ 0 = .agg [.im 4 rows,.im 1 roots]:=by rw [hΓ]; rfl
 rw [← hΓ]
 try clear G
 clear hΓ
 replace G:=g0
 refine az (aq ?_)
 refine m9 rfl (MS.box hS (by simp only [evS,Nat.reduceEqDiff,reduceIte,b9,G]; first | done | rfl)) (fun k hk=>by first | exact False.elim hk | (dsimp only at hk ⊢; omega) | omega) ?_
 refine dW hS ?_
 intro s1 hst1 hsc1 hS1
 have hn1:=hst1.self
 refine qV ?_
 refine qV ?_
 refine aQ ?_
 dsimp only [aj]
 refine az (aq ?_)
 refine qA ?_
 refine qC (hC:=N9 (b:=b) hS1 hc he) (h:=?_)
 intro v2 s2 hq2
 obtain ⟨rfl,hSr⟩:=hq2
 have hlr:=hSr.le
 refine qV ?_
 refine qP ?_
 refine qP ?_
 refine qM (MS.alloc hSr) ?_
 refine dW hSr ?_
 intro s3 hst3 hsc3 hS3
 have hn3:=hst3.self
 refine qT ?_
 refine t8 hS3 (by omega) (by omega) ?_
 intro s4 hst4 hsc4 hS4
 first | replace hn3:=hst4.at hn3 (by omega) | replace hn3:=hst4.self
 refine qV ?_
 refine aQ ?_
 dsimp only [aj]
 refine az (az ?_)
 refine aq ?_
 refine qV ?_
 refine qP ?_
 refine aQ ?_
 try dsimp only [aj]
 refine aW (t:=true) ?_ ?_
 ·simp only [evS,Nat.reduceEqDiff,reduceIte]
  rw [vk he]
  rfl
 dsimp only [cond_true]
 refine az (aq ?_)
 refine qV ?_
 refine qV ?_
 refine qV ?_
 refine aQ ?_
 dsimp only [aj]
 refine nZ ?_
 exact ⟨.inr rfl,[.c (.sc cV),iV e],0,by simp only [tz,evS,Nat.reduceEqDiff,reduceIte]; rfl,cY,rfl⟩
set_option maxHeartbeats 4000000 in
theorem aKz {orc:bZ} {b:Nat} {s:S} (hS:Sb b s) {obs:List HO} {rts:List Int} {zs:List Int} (hc:aBY orc obs rts zs) {n:Int} (hn:n < 0) :
  Cp orc p_T wZ [.agg [.im 4 (obs.map cX),.im 1 (rts.map eX)],.c (.sc (.int .i64 n))] s (fun k=>b≤k) True fun v s'=>v = .tup [.c (.sc cV),iV 2]:=by
 have hle:=hS.le
 refine jV (rf:=pq) rfl ?_
 unfold pq
 obtain ⟨Γ,hΓ⟩ : ∃ Γ,Γ = ofL [V.agg [.im 4 (obs.map cX),.im 1 (rts.map eX)],.c (.sc (.int .i64 n))] 0 .lf:=⟨_,rfl⟩
 have g0:look Γ 0 = .agg [.im 4 (obs.map cX),.im 1 (rts.map eX)]:=by rw [hΓ]; rfl
 have g1:look Γ 1 = .c (.sc (.int .i64 n)):=by rw [hΓ]; rfl
 rw [← hΓ]
 try clear G
 clear hΓ
 replace G:=bw g0 g1
 refine az (aq ?_)
 refine m9 rfl (MS.box hS (by simp only [evS,Nat.reduceEqDiff,reduceIte,b9,G]; first | done | rfl)) (fun k hk=>by first | exact False.elim hk | (dsimp only at hk ⊢; omega) | omega) ?_
 refine dW hS ?_
 intro s1 hst1 hsc1 hS1
 have hn1:=hst1.self
 refine qV ?_
 refine qV ?_
 refine aQ ?_
 dsimp only [aj]
 refine az (aq ?_)
 refine qA ?_
 refine qC (hC:=hc b s1 hS1) (h:=?_)
 intro v2 s2 hq2
 obtain ⟨rfl,hSz,hcz,hz,hkz⟩:=hq2
 replace hn1:=(hkz _ (by omega)).trans hn1
 refine qV ?_
 refine qP ?_
 refine qP ?_
 refine qM (MS.alloc hSz) ?_
 refine dW hSz ?_
 intro s3 hst3 hsc3 hS3
 replace hn1:=hst3.at hn1 (by omega)
 have hn3:=hst3.self
 refine qT ?_
 refine t8 hS3 (by omega) (by omega) ?_
 intro s4 hst4 hsc4 hS4
 first | replace hn1:=hst4.at hn1 (by omega) | replace hn1:=hst4.self
 first | replace hn3:=hst4.at hn3 (by omega) | replace hn3:=hst4.self
 refine qV ?_
 refine aQ ?_
 dsimp only [aj]
 refine az (az ?_)
 refine aq ?_
 refine qV ?_
 refine qP ?_
 refine aQ ?_
 try dsimp only [aj]
 refine aW (t:=false) ?_ (eY ?_)
 ·simp only [evS,Nat.reduceEqDiff,reduceIte]; rfl
 dsimp only [aj]
 refine az (az ?_)
 refine aq ?_
 refine qV ?_
 refine qP ?_
 refine aQ ?_
 try dsimp only [aj]
 refine aW (t:=true) ?_ ?_
 ·simp only [evS,Nat.reduceEqDiff,reduceIte]
  rw [decide_eq_true hn]
  rfl
 dsimp only [cond_true]
 refine az (aq ?_)
 refine qV ?_
 refine qV ?_
 refine aQ ?_
 dsimp only [aj]
 refine nZ ?_
 exact ⟨.inr rfl,[.c (.sc cV),iV 2],0,by simp only [tz,evS,Nat.reduceEqDiff,reduceIte]; rfl,cY,rfl⟩
end Go.RM
namespace Go.RM
open Go.VM (T lJ tI)
open Go.Proofs Go.Proofs.Ytliccamocpglcaa
def nj (known:List Bool) (j:Nat):List Nat:=(List.range j).filter fun i=>known.getD i false
theorem zY (known:List Bool) (j:Nat):nj known (j + 1) = if known.getD j false = true then nj known j++[j] else nj known j:=by
 unfold nj
 rw [List.range_succ,List.filter_append]
 by_cases h:known.getD j false = true
 ·rw [if_pos h,List.filter_cons_of_pos (by simpa using h),List.filter_nil]
 ·rw [if_neg h,List.filter_cons_of_neg (by simpa using h),List.filter_nil,List.append_nil]
theorem N7 (known:List Bool) (j:Nat):(nj known j).length≤j:=by
 have:=List.length_filter_le (fun i=>known.getD i false) (List.range j)
 rw [List.length_range] at this
 exact this
structure TopS (b c hb p6 mz nk:Nat) (obs:List HO) (rts:List Int) (zs:List Int) (known:List Bool) (t:S):Prop where
 sb:Sb b t
 le:b≤hb∧b≤p6∧b≤mz∧b≤nk
 lt:hb < c∧p6 < c∧mz < c∧nk < t.c∧c≤t.c
 e2:t.h.get hb = some (.cells cK [.im 4 (obs.map cX),.im 1 (rts.map eX)])
 e6:t.h.get p6 = some (.cells iX [.sl mz 1 0 obs.length])
 ez:t.h.get mz = some (.cells cq (zs.map sI))
 ek:t.h.get nk = some (.cells w8 (known.map bI))
theorem TopS.keep {b c hb p6 mz nk:Nat} {obs:List HO} {rts:List Int} {zs:List Int} {known:List Bool} {t t':S} (h:TopS b c hb p6 mz nk obs rts zs known t) (hS:Sb b t') (hc:t.c≤t'.c) (hk:∀ k,k = hb∨k = p6∨k = mz∨k = nk→t'.h.get k = t.h.get k):TopS b c hb p6 mz nk obs rts zs known t' :=
 ⟨hS,h.le,⟨h.lt.1,h.lt.2.1,h.lt.2.2.1,wk h.lt.2.2.2.1 hc,Nat.le_trans h.lt.2.2.2.2 hc⟩,(hk _ (.inl rfl)).trans h.e2,(hk _ (.inr (.inl rfl))).trans h.e6,(hk _ (.inr (.inr (.inl rfl)))).trans h.ez,(hk _ (.inr (.inr (.inr rfl)))).trans h.ek⟩
theorem avK {α:Type} (l:List α) (n:Nat):l.take (l.take n).length = l.take n:=by
 rw [List.length_take]
 rcases Nat.le_total n l.length with h | h
 ·rw [Nat.min_eq_left h]
 ·rw [Nat.min_eq_right h,List.take_of_length_le (iw _),List.take_of_length_le h]
def outT (obs:List HO) (l:List (Fin obs.length)):List Int:=l.map fun x:Fin obs.length=>Mj obs x.val
set_option maxHeartbeats 8000000 in
theorem aOJ {orc:bZ} {b:Nat} {s:S} (hS:Sb b s) {obs:List HO} {rts:List Int} {to fr:List (List Nat)} {ord vals:List Nat} {known:List Bool} (hB:AV orc obs rts to fr ord vals known) {zs:List Int} (hc:aBY orc obs rts zs) {lF lS:List (Fin obs.length)} (hlF:lF.map (fun x:Fin obs.length=>x.val) = nj known obs.length) (hso:aBV orc obs rts zs lF lS) (hlS:lS.length = lF.length) {n:Int} (hn:0≤n) :
  Cp orc p_T wZ [.agg [.im 4 (obs.map cX),.im 1 (rts.map eX)],.c (.sc (.int .i64 n))] s (fun k=>b≤k) True fun v s'=>∃ m,v = .tup [.c (.sl m 1 0 (lS.take n.toNat).length),iV 0]∧s'.h.get m = some (.cells cq ((outT obs (lS.take n.toNat)).map sI)):=by
 have hle:=hS.le
 refine jV (rf:=pq) rfl ?_
 unfold pq
 obtain ⟨Γ,hΓ⟩ : ∃ Γ,Γ = ofL [V.agg [.im 4 (obs.map cX),.im 1 (rts.map eX)],.c (.sc (.int .i64 n))] 0 .lf:=⟨_,rfl⟩
 have g0:look Γ 0 = .agg [.im 4 (obs.map cX),.im 1 (rts.map eX)]:=by rw [hΓ]; rfl
 have g1:look Γ 1 = .c (.sc (.int .i64 n)):=by rw [hΓ]; rfl
 rw [← hΓ]
 try clear G
 clear hΓ
 have hkl:=hB.kl
 have hsm:=hB.small
 replace G:=bw g0 g1
 refine az (aq ?_)
 refine m9 rfl (MS.box hS (by simp only [evS,Nat.reduceEqDiff,reduceIte,b9,G]; first | done | rfl)) (fun k hk=>by first | exact False.elim hk | (dsimp only at hk ⊢; omega) | omega) ?_
 refine dW hS ?_
 intro s1 hst1 hsc1 hS1
 have hn1:=hst1.self
 refine qV ?_
 refine qV ?_
 refine aQ ?_
 dsimp only [aj]
 refine az (aq ?_)
 refine qA ?_
 refine qC (hC:=hc b s1 hS1) (h:=?_)
 intro v2 s2 hq2
 obtain ⟨rfl,hSz,hcz,hz,hkz⟩:=hq2
 replace hn1:=(hkz _ (by omega)).trans hn1
 refine qV ?_
 refine qP ?_
 refine qP ?_
 refine qM (MS.alloc hSz) ?_
 refine dW hSz ?_
 intro s3 hst3 hsc3 hS3
 replace hn1:=hst3.at hn1 (by omega)
 replace hz:=hst3.at hz (by omega)
 have hn3:=hst3.self
 refine qT ?_
 refine t8 hS3 (by omega) (by omega) ?_
 intro s4 hst4 hsc4 hS4
 first | replace hn1:=hst4.at hn1 (by omega) | replace hn1:=hst4.self
 first | replace hz:=hst4.at hz (by omega) | replace hz:=hst4.self
 first | replace hn3:=hst4.at hn3 (by omega) | replace hn3:=hst4.self
 refine qV ?_
 refine aQ ?_
 dsimp only [aj]
 refine az (az ?_)
 refine aq ?_
 refine qV ?_
 refine qP ?_
 refine aQ ?_
 try dsimp only [aj]
 refine aW (t:=false) ?_ (eY ?_)
 ·simp only [evS,Nat.reduceEqDiff,reduceIte]; rfl
 dsimp only [aj]
 refine az (az ?_)
 refine aq ?_
 refine qV ?_
 refine qP ?_
 refine aQ ?_
 try dsimp only [aj]
 refine aW (t:=false) ?_ (eY ?_)
 ·simp only [evS,Nat.reduceEqDiff,reduceIte]
  rw [vk (by omega)]
  rfl
 dsimp only [aj]
 refine az (aq ?_)
 refine qV ?_
 refine aQ ?_
 dsimp only [aj]
 have hn3:s4.h.get s2.c = some (.cells iX [.sl s1.c 1 0 obs.length]):=hn3
 refine fZ (fun Γ t=>look Γ 1 = iV n∧look Γ 2 = .c (.ptr s.c 0)∧look Γ 6 = .c (.ptr s2.c 0)∧∃ (nk:Nat) (x:X) (m:Nat),look Γ 8 = .c x∧RowN t.h.get cq x ((nj known obs.length).map nI) m∧(nj known obs.length = []→x = .sc cV)∧(s4.c≤m∧m < t.c∧m ≠ nk)∧TopS b s4.c s.c s2.c s1.c nk obs rts zs known t) ?_ ?_
 ·skip
  replace G:=bw g0 g1
  refine az (oW rfl ?_)
  refine wK rfl (by first | exact MS.loadA (by simp only [evS,Nat.reduceEqDiff,reduceIte,List.length_map,G]; first | done | rfl) (by assumption) (by first | rfl | assumption) | exact MS.loadIA (by simp only [evS,Nat.reduceEqDiff,reduceIte,List.length_map,G]; first | done | rfl) rfl rfl) (fun k hk=>by first | exact False.elim hk | (dsimp only at hk ⊢; omega) | omega) (fun x hx=>by simp at hx) ?_
  refine K4 (fun k => s4.c ≤ k) rfl (by simp only [zw,List.map_nil,List.cons_append,List.nil_append,evS,Nat.reduceEqDiff,reduceIte,List.length_map,G]; first | done | rfl) hS4 (fun k hk => by first | exact False.elim hk | (dsimp only at hk ⊢; omega) | omega) (by intro x hx; simp only [List.nil_append,List.cons_append,List.mem_cons,List.not_mem_nil,or_false] at hx; rcases hx with rfl <;> first | exact .inl (by dsimp only; decide) | (refine .inr fun k => ?_; refine ⟨?_,?_,?_⟩ <;> (intro hk; (try dsimp only at hk); first | exact hk.1.elim | exact hk.2.elim | omega))) (Cp.mono (hB.cp s4.c _ (Sb.zero hS4 (iw _))) (fun _ h => h) (fun h => h) ?_)
  intro v5 s5 hq5
  obtain ⟨g,rfl,hSg,hcg,hkg,hG⟩:=hq5
  refine ⟨hSg,fun j h1 _=>h1,?_⟩
  intro σ e1 e2 hSσ
  rw [← e1] at hkg hG
  rw [← e2] at hG hcg
  have hkg:∀ k,k < s4.c→σ.h.get k = s4.h.get k:=hkg
  have hcg:s4.c≤σ.c:=hcg
  replace hn1:σ.h.get _ = _:=(hkg _ (by omega)).trans hn1
  replace hz:σ.h.get _ = _:=(hkg _ (by omega)).trans hz
  replace hn3:σ.h.get _ = _:=(hkg _ (by omega)).trans hn3
  obtain ⟨own,nt,nf,no,np,nv,nk,xs,xf,q1,_,_,_,q5,_,⟨v1,_,_,_,v5,_,v7⟩,⟨u1,_,_,_,u5,_,u7⟩⟩:=hG.ex
  have q51:=q5.box
  have q53:=q5.known
  clear e1 e2 hSg
  refine rPL ?_
  refine rPL ?_
  refine rLL ?_
  refine rPL ?_
  refine rPL ?_
  refine rLL ?_
  refine rPL ?_
  refine rLL ?_
  refine rPL ?_
  refine sV rfl (by first | exact SJ  (by simp only [evS,Nat.reduceEqDiff,reduceIte,List.length_map,G]; first | done | rfl) (by simp only [evS,Nat.reduceEqDiff,reduceIte,List.length_map,G]; first | done | rfl) (by omega) | (simp only [evS,Nat.reduceEqDiff,reduceIte,PU,bQ,scV,bV,iV,cV,isB,isI,mX,tq,mkV,List.length_map,G]; rfl)) ?_
  refine rPL ?_
  refine rVL ?_
  refine uX ?_
  dsimp only [aj]
  have hgn:g ≠ nk:=fun e=>by rw [e,q53] at q1; cases q1
  have hT:TopS b s4.c s.c s2.c s1.c nk obs rts zs known σ:=⟨hSσ,by omega,by omega,hn1,hn3,hz,q53⟩
  refine dz (uQ (fun Γ t=>look Γ 1 = iV n∧look Γ 2 = .c (.ptr s.c 0)∧look Γ 6 = .c (.ptr s2.c 0)∧look Γ 35 = .c (.sl nk 1 0 obs.length)∧look Γ 36 = iV (obs.length:Int)∧∃ (j:Nat) (x:X) (m:Nat),look Γ 37 = iV (j:Int)∧j≤obs.length∧look Γ 8 = .c x∧RowN t.h.get cq x ((nj known j).map nI) m∧(nj known j = []→x = .sc cV)∧(s4.c≤m∧m < t.c∧m ≠ nk)∧TopS b s4.c s.c s2.c s1.c nk obs rts zs known t) (fun Γ _=>match look Γ 37 with
   | .c (.sc (.int _ i))=>obs.length - i.toNat
   | _=>0) ⟨lkL,lkL,lkL,lkL,lkL,0,.sc cV,g,lkL,Nat.zero_le _,lkL,.inl ⟨rfl,rfl⟩,fun _=>rfl,⟨by omega,by omega,hgn⟩,hT⟩ ?_)
  try clear G
  clear g0 g1 hn1 hz hn3 q1 q51 q53 hT
  rintro Γ t ⟨g1,g2,g6,g35,g36,j,x,m,g37,hj,g8,hrow,hnil,hm,hT⟩
  have hμ:(match look Γ 37 with
   | .c (.sc (.int _ i))=>obs.length - i.toNat
   | _=>0) = obs.length - j:=by rw [g37]; rfl
  have hS:=hT.sb
  have hek:=hT.ek
  have hlt:=hT.lt
  have hbl:=hT.le
  replace G:=bw g1 (bw g2 (bw g6 (bw g35 (bw g36 (bw g37 g8)))))
  refine az (aq ?_)
  refine qP ?_
  refine aQ ?_
  dsimp only [aj]
  by_cases hjl:j < obs.length
  ·refine az (aW (t:=true) ?_ (eY ?_))
   ·simp only [jX,bY,ow,isB,bV,scV]
    rw [decide_eq_true (by omega)]
   dsimp only [aj]
   obtain ⟨kj,hkj⟩ : ∃ k,known[j]? = some k:=⟨_,ck (by omega)⟩
   have hkj':(known.map bI)[j]? = some (.sc (.bool kj)):=by rw [gk,hkj]; rfl
   have hkd:known.getD j false = kj:=by rw [sk,hkj]; rfl
   have hll:=N7 known j
   have r8:l7 8 (((nj known j).map nI).length + 1) = true:=Fz (by rw [List.length_map]; omega)
   have hw:IntKind.i64.wrap ((j:Int) + 1) = ((j + 1:Nat):Int):=by rw [wr (by omega) (by omega)]; omega
   refine fZ (fun Γ t'=>look Γ 1 = iV n∧look Γ 2 = .c (.ptr s.c 0)∧look Γ 6 = .c (.ptr s2.c 0)∧look Γ 35 = .c (.sl nk 1 0 obs.length)∧look Γ 36 = iV (obs.length:Int)∧look Γ 37 = iV (j:Int)∧∃ (x:X) (m:Nat),look Γ 8 = .c x∧RowN t'.h.get cq x ((nj known (j + 1)).map nI) m∧(nj known (j + 1) = []→x = .sc cV)∧(s4.c≤m∧m < t'.c∧m ≠ nk)∧TopS b s4.c s.c s2.c s1.c nk obs rts zs known t') (dz ?_) ?_
   ·skip
    refine az (aq ?_)
    refine qV ?_
    refine qX ?_
    refine qL ?_
    refine qV ?_
    refine qV ?_
    refine aQ ?_
    dsimp only [aj]
    refine az (aq ?_)
    refine qV ?_
    refine aQ ?_
    dsimp only [aj]
    cases kj with
    | false =>
     refine aW (t:=false) (by simp only [evS,Nat.reduceEqDiff,reduceIte]; rfl) (eY ?_)
     dsimp only [aj]
     refine ⟨(by simp only [evS,Nat.reduceEqDiff,reduceIte,g1,g2,g6,g35,g36,g37,g8]; try rfl),(by simp only [evS,Nat.reduceEqDiff,reduceIte,g1,g2,g6,g35,g36,g37,g8]; try rfl),(by simp only [evS,Nat.reduceEqDiff,reduceIte,g1,g2,g6,g35,g36,g37,g8]; try rfl),(by simp only [evS,Nat.reduceEqDiff,reduceIte,g1,g2,g6,g35,g36,g37,g8]; try rfl),(by simp only [evS,Nat.reduceEqDiff,reduceIte,g1,g2,g6,g35,g36,g37,g8]; try rfl),(by simp only [evS,Nat.reduceEqDiff,reduceIte,g1,g2,g6,g35,g36,g37,g8]; try rfl),x,m,(by simp only [evS,Nat.reduceEqDiff,reduceIte,g1,g2,g6,g35,g36,g37,g8]; try rfl),?_,?_,hm,hT⟩
     ·rw [zY,if_neg (by rw [hkd]; simp)]
      exact hrow
     ·rw [zY,if_neg (by rw [hkd]; simp)]
      exact hnil
    | true =>
     refine aW (t:=true) (by simp only [evS,Nat.reduceEqDiff,reduceIte]; rfl) ?_
     dsimp only [cond_true]
     replace G:=bw g1 (bw g2 (bw g6 (bw g35 (bw g36 (bw g37 g8)))))
     refine aq ?_
     refine qV ?_
     refine qV ?_
     refine qM (MS.bsl1 hS (by simp only [evS,Nat.reduceEqDiff,reduceIte,G]; try rfl)) ?_
     refine dW hS ?_
     intro s6 hst6 hsc6 hS6
     replace hek:=hst6.at hek (by omega)
     have hn6:=hst6.self
     replace hrow:=hrow.keep (hst6.keep _ (by omega))
     refine HY rfl hS6 (by simp only [evS,Nat.reduceEqDiff,reduceIte,G]; try rfl) hrow (by omega) (by simp only [evS,Nat.reduceEqDiff,reduceIte,G]; try rfl) (by assumption) (by first | assumption | rfl) (fun k hk=>by first | exact False.elim hk | (dsimp only at hk ⊢; omega) | omega) ?_
     intro s7 hst7 hS7
     have hsa7:=hst7.c
     replace hek:=hst7.at hek (by omega) (by omega)
     replace hn6:=hst7.at hn6 (by omega) (by omega)
     have hn7:=hst7.self
     refine qV ?_
     refine aQ ?_
     try dsimp only [aj]
     refine ⟨lk,lk,lk,lk,lk,lk,.sl s6.c 1 0 (((nj known j).map nI).length + 1),s6.c,lk,?_,fun h=>?_,⟨by omega,by omega,by omega⟩,hT.keep hS7 (by omega) fun k hk=>?_⟩
     ·rw [zY,if_pos hkd,List.map_append]
      exact .inr ⟨by rw [tk]; rfl,hn7⟩
     ·rw [zY,if_pos hkd] at h
      simp at h
     ·rw [hst7.keep k (by omega) (by omega),hst6.keep k (by omega)]
   ·try clear G
    clear g1 g2 g6 g35 g36 g37 g8 hrow hnil hm hT hS hek hlt hbl x m
    rintro Γ2 t2 ⟨g1,g2,g6,g35,g36,g37,x,m,g8,hrow,hnil,hm,hT⟩
    have hw:IntKind.i64.wrap ((j:Int) + 1) = ((j + 1:Nat):Int):=by rw [wr (by omega) (by omega)]; omega
    replace G:=bw g1 (bw g2 (bw g6 (bw g35 (bw g36 (bw g37 (bw g8 hw))))))
    refine aq ?_
    refine qP ?_
    refine qV ?_
    refine aQ ?_
    try dsimp only [aj]
    refine ⟨⟨lk,lk,lk,lk,lk,j + 1,x,m,lk,by omega,lk,hrow,hnil,hm,hT⟩,?_⟩
    rw [hμ]
    simp only [evS,Nat.reduceEqDiff,reduceIte,hw]
    omega
  ·skip
   refine az (aW (t:=false) ?_ (nX ?_))
   ·simp only [jX,bY,ow,isB,bV,scV]
    rw [vk (by omega)]
   have hjn:j = obs.length:=by omega
   subst hjn
   simp only [aj,Nat.beq_refl,cond_true]
   exact ⟨(by simp only [evS,Nat.reduceEqDiff,reduceIte,g1,g2,g6,g35,g36,g37,g8]; try rfl),(by simp only [evS,Nat.reduceEqDiff,reduceIte,g1,g2,g6,g35,g36,g37,g8]; try rfl),(by simp only [evS,Nat.reduceEqDiff,reduceIte,g1,g2,g6,g35,g36,g37,g8]; try rfl),nk,x,m,(by simp only [evS,Nat.reduceEqDiff,reduceIte,g1,g2,g6,g35,g36,g37,g8]; try rfl),hrow,hnil,hm,hT⟩
 ·try clear G
  clear g0 g1 hn1 hz hn3
  rintro Γ t ⟨g1,g2,g6,nk,x,m,g8,hrow,hnil,hm,hT⟩
  have hS:=hT.sb
  have hlt:=hT.lt
  have hbl:=hT.le
  have he2:=hT.e2
  have hnk:=hm.2.2
  refine fZ (fun Γ t=>look Γ 1 = iV n∧look Γ 2 = .c (.ptr s.c 0)∧∃ (x:X) (m:Nat),look Γ 8 = .c x∧RowN t.h.get cq x (nF lS) m∧b≤m∧m < t.c∧m ≠ s.c∧s.c < t.c∧Sb b t∧t.h.get s.c = some (.cells cK [.im 4 (obs.map cX),.im 1 (rts.map eX)])) ?_ ?_
  ·by_cases hl0:lF = []
   ·have hx:x = .sc cV:=hnil (by rw [← hlF,hl0]; rfl)
    have hl1:lS = []:=ik (by rw [hlS,hl0]; rfl)
    subst hx
    replace G:=bw g1 (bw g2 (bw g6 g8))
    refine aq ?_
    refine qV ?_
    refine dq rfl (by simp only [evS,Nat.reduceEqDiff,reduceIte,PU,bQ,scV,bV,iV,cV,isB,isI,mX,tq,mkV,Y6,List.mapM_cons,List.mapM_nil,Option.pure_def,Option.bind_eq_bind,G]; try rfl) ?_
    refine qC (hC:=hso.nil hl0 _ _ _) (h:=?_)
    intro v8 s8 hq8
    obtain ⟨rfl,rfl⟩:=hq8
    refine aQ ?_
    try dsimp only [aj]
    refine ⟨lk,lk,.sc cV,m,lk,.inl ⟨rfl,by rw [hl1]; rfl⟩,by omega,by omega,by omega,by omega,hS,he2⟩
   ·have hmapn:(nj known obs.length).map nI = nF lF:=by rw [← hlF,List.map_map]; rfl
    rw [hmapn] at hrow
    rcases hrow with ⟨_,hx⟩ | ⟨hx,hmm⟩
    ·simp [nF] at hx; exact absurd hx hl0
    subst hx
    have hnl:(nF lF).length = lF.length:=by simp [nF]
    rw [hnl] at g8
    replace G:=bw g1 (bw g2 (bw g6 g8))
    refine aq ?_
    refine qV ?_
    refine dq rfl (by simp only [evS,Nat.reduceEqDiff,reduceIte,PU,bQ,scV,bV,iV,cV,isB,isI,mX,tq,mkV,Y6,List.mapM_cons,List.mapM_nil,Option.pure_def,Option.bind_eq_bind,G]; try rfl) ?_
    refine qC (hC:=hso.own hl0 b t m s2.c s.c s1.c hS hmm hT.e6 hT.ez hT.e2 (by omega) (by omega) (by omega) (by omega) (by omega) (by omega) (by omega)) (h:=?_)
    intro v9 s9 hq9
    obtain ⟨rfl,hSp,hcp,hmp,hkp⟩:=hq9
    refine aQ ?_
    try dsimp only [aj]
    refine ⟨lk,lk,.sl m 1 0 lF.length,m,lk,.inr ⟨by simp only [nF,List.length_map,hlS],hmp⟩,by omega,by omega,by omega,by omega,hSp,(hkp _ (by omega)).trans he2⟩
  ·try clear G
   clear g1 g2 g6 g8 hrow hnil hm hT hS hlt hbl he2 hnk x m nk
   rintro Γ t ⟨g1,g2,x,m,g8,hrow,hbm,hmt,hms,hst,hS,he2⟩
   have hln:(nF lS).length = lS.length:=by simp [nF]
   have hkk:(lS.take n.toNat).length = min n.toNat lS.length:=List.length_take
   obtain ⟨kk,hkd⟩ : ∃ kk,kk = (lS.take n.toNat).length:=⟨_,rfl⟩
   have hkl:kk≤lS.length:=by omega
   have hl60:lS.length≤60:=by
    have h1:=N7 known obs.length
    rw [← hlF,List.length_map] at h1
    omega
   have hmin:min n ((nF lS).length:Int) = (kk:Int):=by rw [hln]; omega
   replace G:=bw g1 (bw g2 g8)
   refine az (aq ?_)
   refine m9 rfl (MS.bsl hS rfl) (fun k hk=>by first | exact False.elim hk | (dsimp only at hk ⊢; omega) | omega) ?_
   refine dW hS ?_
   intro s10 hst10 hsc10 hS10
   replace he2:=hst10.at he2 (by omega)
   have hn10:=hst10.self
   refine qV ?_
   refine aQ ?_
   dsimp only [aj]
   refine fZ (fun Γ t'=>look Γ 2 = .c (.ptr s.c 0)∧∃ mo,look Γ 11 = .c (.sl mo 1 0 kk)∧t'.h.get mo = some (.cells cq ((outT obs (lS.take kk)).map sI))∧b≤mo∧Sb b t') ?_ ?_
   ·refine fZ (fun Γ t'=>look Γ 2 = .c (.ptr s.c 0)∧look Γ 11 = .c (.sl t.c 1 0 0)∧look Γ 58 = iV (kk:Int)∧look Γ 59 = iV 0∧∃ y,look Γ 57 = .c y∧(0 < kk→y = .sl m 1 0 kk∧t'.h.get m = some (.cells cq (nF lS)))∧t'.h.get t.c = some (.cells cq [])∧t'.h.get s.c = some (.cells cK [.im 4 (obs.map cX),.im 1 (rts.map eX)])∧t'.c = t.c + 1∧Sb b t') ?_ ?_
    ·rcases hrow with ⟨rfl,hx⟩ | ⟨rfl,hmm⟩
     ·have hz:lS.length = 0:=by rw [← hln,hx]; rfl
      have hk0:kk = 0:=by omega
      have hmin0:min n 0 = 0:=by omega
      subst hk0
      replace G:=bw g1 (bw g2 (bw g8 hmin0))
      refine aq ?_
      refine qV ?_
      refine qV ?_
      refine qV ?_
      refine qP ?_
      refine dq rfl (aEY (by simp only [evS,Nat.reduceEqDiff,reduceIte,G]; try rfl) (by simp only [evS,Nat.reduceEqDiff,reduceIte,G]; try rfl)) ?_
      refine dq rfl (by first | exact SJ  (by simp only [evS,Nat.reduceEqDiff,reduceIte,G]; first | done | rfl) (by simp only [evS,Nat.reduceEqDiff,reduceIte,G]; first | done | rfl) (by omega) | exact aKj (by simp only [evS,Nat.reduceEqDiff,reduceIte,G]; first | done | rfl) (by simp only [evS,Nat.reduceEqDiff,reduceIte,G]; first | done | rfl) | (simp only [evS,Nat.reduceEqDiff,reduceIte,PU,bQ,scV,bV,iV,cV,isB,isI,mX,tq,mkV,G]; rfl)) ?_
      refine qP ?_
      refine qV ?_
      refine aQ ?_
      try dsimp only [aj]
      exact ⟨lk,lk,lk,lk,.sc cV,lk,fun h=>absurd h (by omega),(by assumption),he2,(by assumption),(by assumption)⟩
     ·rw [hln] at g8 hmin
      replace G:=bw g1 (bw g2 (bw g8 hmin))
      refine aq ?_
      refine qV ?_
      refine qV ?_
      refine qV ?_
      refine qP ?_
      refine dq rfl (aEY (by simp only [evS,Nat.reduceEqDiff,reduceIte,G]; try rfl) (by simp only [evS,Nat.reduceEqDiff,reduceIte,G]; try rfl)) ?_
      refine dq rfl (by first | exact SJ  (by simp only [evS,Nat.reduceEqDiff,reduceIte,G]; first | done | rfl) (by simp only [evS,Nat.reduceEqDiff,reduceIte,G]; first | done | rfl) (by omega) | (simp only [evS,Nat.reduceEqDiff,reduceIte,PU,bQ,scV,bV,iV,cV,isB,isI,mX,tq,mkV,G]; rfl)) ?_
      refine qP ?_
      refine qV ?_
      refine aQ ?_
      try dsimp only [aj]
      exact ⟨lk,lk,lk,lk,.sl m 1 0 kk,lk,fun _=>⟨rfl,hst10.at hmm (by omega)⟩,(by assumption),he2,(by assumption),(by assumption)⟩
    ·try clear G
     clear g1 g2 g8 he2 hrow
     rintro Γ t' ⟨g2,g11,g58,g59,y,g57,hy,ho,he2,hct,hSt⟩
     refine dz (uQ (fun Γ u=>look Γ 2 = .c (.ptr s.c 0)∧look Γ 57 = .c y∧look Γ 58 = iV (kk:Int)∧∃ (i mo:Nat),look Γ 59 = iV (i:Int)∧i≤kk∧look Γ 11 = .c (.sl mo 1 0 i)∧u.h.get mo = some (.cells cq ((outT obs (lS.take i)).map sI))∧t.c≤mo∧Sb b u∧u.h.get s.c = some (.cells cK [.im 4 (obs.map cX),.im 1 (rts.map eX)])∧(0 < kk→y = .sl m 1 0 kk∧u.h.get m = some (.cells cq (nF lS)))) (fun Γ _=>match look Γ 59 with
      | .c (.sc (.int _ i))=>kk - i.toNat
      | _=>0) ⟨g2,g57,g58,0,t.c,g59,Nat.zero_le _,g11,ho,iw _,hSt,he2,hy⟩ ?_)
     try clear G
     clear g2 g11 g58 g59 g57 hy ho he2 hct hSt
     rintro Γ u ⟨g2,g57,g58,i,mo,g59,hik,g11,hmo,hmot,hSu,he2,hy⟩
     have hμ:(match look Γ 59 with
      | .c (.sc (.int _ i))=>kk - i.toNat
      | _=>0) = kk - i:=by rw [g59]; rfl
     have hbt:=hS.le
     have hul:(outT obs (lS.take i)).length = i:=by simp only [outT,List.length_map,List.length_take]; omega
     replace G:=bw g2 (bw g57 (bw g58 (bw g59 g11)))
     refine az (aq ?_)
     refine qP ?_
     refine aQ ?_
     dsimp only [aj]
     by_cases hil:i < kk
     ·refine az (aW (t:=true) ?_ (eY ?_))
      ·simp only [jX,bY,ow,isB,bV,scV]
       rw [decide_eq_true (by omega)]
      dsimp only [aj]
      obtain ⟨hy1,hym⟩:=hy (by omega)
      subst hy1
      have hil2:i < lS.length:=by omega
      have hsx:(nF lS)[i]? = some (nI lS[i].val):=by rw [nF,gk,ck hil2]; rfl
      have hxl:=lS[i].2
      have hrowo:(obs.map cX)[lS[i].val]? = some [.sc (.int .i64 (Mj obs lS[i].val)),tI obs[lS[i].val].size,.sc (.string obs[lS[i].val].ty),.sl 1 (obs[lS[i].val].refs.map eX)]:=by
       rw [PK hxl,Mj,ck hxl]; rfl
      have hw:IntKind.i64.wrap ((i:Int) + 1) = ((i + 1:Nat):Int):=by
       rw [wr (by omega) (by omega)]; omega
      have hmou:=hSu.lt hmo
      have hmu:=hSu.lt hym
      have hscu:=hSu.lt he2
      have r8:l7 8 (((outT obs (lS.take i)).map sI).length + 1) = true:=Fz (by rw [List.length_map,hul]; omega)
      have hrow:RowN u.h.get cq (.sl mo 1 0 i) ((outT obs (lS.take i)).map sI) mo:=.inr ⟨by rw [List.length_map,hul],hmo⟩
      refine fZ (fun Γ u'=>look Γ 2 = .c (.ptr s.c 0)∧look Γ 57 = .c (.sl m 1 0 kk)∧look Γ 58 = iV (kk:Int)∧look Γ 59 = iV (i:Int)∧∃ mo,look Γ 11 = .c (.sl mo 1 0 (i + 1))∧u'.h.get mo = some (.cells cq ((outT obs (lS.take (i + 1))).map sI))∧t.c≤mo∧Sb b u'∧u'.h.get s.c = some (.cells cK [.im 4 (obs.map cX),.im 1 (rts.map eX)])∧u'.h.get m = some (.cells cq (nF lS))) (dz ?_) ?_
      ·skip
       replace G:=bw g2 (bw g57 (bw g58 (bw g59 g11)))
       refine az (aq ?_)
       refine qX ?_
       refine qL ?_
       refine qV ?_
       refine aQ ?_
       dsimp only [aj]
       refine aq ?_
       refine qV ?_
       refine qP ?_
       refine qL ?_
       refine qV ?_
       refine qX ?_
       refine qP ?_
       refine qL ?_
       refine qM (MS.bsl1 hSu (by simp only [evS,Nat.reduceEqDiff,reduceIte,G]; try rfl)) ?_
       refine dW hSu ?_
       intro s11 hst11 hsc11 hS11
       replace hym:=hst11.at hym (by omega)
       replace he2:=hst11.at he2 (by omega)
       have hn11:=hst11.self
       replace hrow:=hrow.keep (hst11.keep _ (by omega))
       refine HY rfl hS11 (by simp only [evS,Nat.reduceEqDiff,reduceIte,G]; try rfl) hrow (by omega) (by simp only [evS,Nat.reduceEqDiff,reduceIte,G]; try rfl) (by assumption) (by first | assumption | rfl) (fun k hk=>by first | exact False.elim hk | (dsimp only at hk ⊢; omega) | omega) ?_
       intro s12 hst12 hS12
       have hsa12:=hst12.c
       replace hym:=hst12.at hym (by omega) (by omega)
       replace he2:=hst12.at he2 (by omega) (by omega)
       replace hn11:=hst12.at hn11 (by omega) (by omega)
       have hn12:=hst12.self
       refine qV ?_
       refine aQ ?_
       try dsimp only [aj]
       refine ⟨lk,lk,lk,lk,s11.c,?_,?_,by omega,hS12,he2,hym⟩
       ·simp only [List.length_map,hul]
        simp only [evS,Nat.reduceEqDiff,reduceIte]
       ·rw [hn12,List.take_add_one,ck hil2]
        simp only [outT,Option.toList_some,List.map_append,zw,List.map_nil]
        rfl
      ·try clear G
       clear g2 g57 g58 g59 g11 hmo hmot hSu he2 hym hrow hmou hmu hscu mo
       rintro Γ2 u2 ⟨g2,g57,g58,g59,mo,g11,hmo,hmot,hSu,he2,hym⟩
       replace G:=bw g2 (bw g57 (bw g58 (bw g59 (bw g11 hw))))
       refine aq ?_
       refine qP ?_
       refine qV ?_
       refine aQ ?_
       try dsimp only [aj]
       refine ⟨⟨lk,lk,lk,i + 1,mo,lk,by omega,lk,hmo,hmot,hSu,he2,fun _=>⟨rfl,hym⟩⟩,?_⟩
       rw [hμ]
       simp only [evS,Nat.reduceEqDiff,reduceIte,hw]
       omega
     ·skip
      refine az (aW (t:=false) ?_ (nX ?_))
      ·simp only [jX,bY,ow,isB,bV,scV]
       rw [vk (by omega)]
      have hjn:i = kk:=by omega
      subst hjn
      simp only [aj,Nat.beq_refl,cond_true]
      exact ⟨(by simp only [evS,Nat.reduceEqDiff,reduceIte,g2,g57,g58,g59,g11]; try rfl),mo,(by simp only [evS,Nat.reduceEqDiff,reduceIte,g2,g57,g58,g59,g11]; try rfl),hmo,by omega,hSu⟩
   ·try clear G
    clear g1 g2 g8 he2 hrow
    rintro Γ t' ⟨g2,mo,g11,hmo,hbmo,hSt⟩
    replace G:=bw g2 g11
    refine az (aq ?_)
    refine qV ?_
    refine qV ?_
    refine qV ?_
    refine aQ ?_
    dsimp only [aj]
    refine nZ ?_
    subst hkd
    exact ⟨.inr rfl,[.c (.sl mo 1 0 (lS.take n.toNat).length),iV 0],0,by simp only [tz,evS,Nat.reduceEqDiff,reduceIte,g11]; rfl,cY,mo,rfl,by rw [avK] at hmo; exact hmo⟩
end Go.RM
namespace Go.RM
open Go.VM (T lJ tI Pt Fr RepT Fun aX kJ oX j6)
open Go Go.Proofs Go.Proofs.Ytliccamocpglcaa Go.Shelf Go.Sort Go.RowKit
def F9 (obs:List HO) (rts:List Int):V:=.agg [.im 4 (obs.map cX),.im 1 (rts.map eX)]
structure SA (obs:List HO) (rts:List Int) (zs:List Int) (lF:List (Fin obs.length)) (args:List V) (s:S) (q:Nat × Nat × Nat × Nat):Prop where
  args:args = [.c (.sl q.1 1 0 lF.length),.c (.fn i1 [.ptr q.2.1 0,.ptr q.2.2.1 0])]
  hm:s.h.get q.1 = some (.cells cq (nF lF))
  h6:s.h.get q.2.1 = some (.cells iX [.sl q.2.2.2 1 0 obs.length])
  hmz:s.h.get q.2.2.2 = some (.cells cq (zs.map sI))
  hp2:s.h.get q.2.2.1 = some (.cells cK [.im 4 (obs.map cX),.im 1 (rts.map eX)])
  n6:q.2.1 ≠ q.1
  n2:q.2.2.1 ≠ q.1
  nz:q.2.2.2 ≠ q.1
theorem SA.uniq {obs:List HO} {rts:List Int} {zs:List Int} {lF:List (Fin obs.length)} {args:List V} {s:S} {q q':Nat × Nat × Nat × Nat} (h:SA obs rts zs lF args s q) (h':SA obs rts zs lF args s q'):q' = q:=by
  obtain ⟨m,p6,p2,mz⟩:=q
  obtain ⟨m',p6',p2',mz'⟩:=q'
  have e:=h.args.symm.trans h'.args
  simp only [List.cons.injEq,V.c.injEq,X.sl.injEq,X.fn.injEq,X.ptr.injEq,and_true,true_and] at e
  obtain ⟨rfl,rfl,rfl⟩:=e
  have e2:=h.h6.symm.trans h'.h6
  simp only [fk,O.cells.injEq,List.cons.injEq,X.sl.injEq,and_true,true_and] at e2
  rw [e2]
def apx (q:Nat × Nat × Nat × Nat):Nat:=Nat.lor (bit q.1) (Nat.lor (bit q.2.1) (Nat.lor (bit q.2.2.1) (bit q.2.2.2)))
theorem Ax (q:Nat × Nat × Nat × Nat) (k:Nat):(apx q).testBit k = true↔k = q.1∨k = q.2.1∨k = q.2.2.1∨k = q.2.2.2:=by
  unfold apx
  rw [f0,f0,f0,oQ,oQ,oQ,oQ]
  simp only [xk,jw]
open Classical in
noncomputable def yJ (base:bZ) (obs:List HO) (rts:List Int) (n:Nat) (zs:List Int) (lF:List (Fin obs.length)):bZ:=fun f args s =>
  if f = jj then (if args = [F9 obs rts]∧s.h.get s.c = none then some ([(.tup [.c (.sl s.c 1 0 n),iV 0],wz s (.cells cq (zs.map sI)))],bit s.c) else none)
  else if f = fY then
    (if lF = [] then (if ∃ p6 p2,args = [.c (.sc cV),.c (.fn i1 [.ptr p6 0,.ptr p2 0])] then some ([(.tup [],s)],0) else none)
     else if h:∃ q,SA obs rts zs lF args s q then some ([(.tup [],pV s h.choose.1 (.cells cq (nF (topSort obs zs lF))))],apx h.choose) else none)
  else base f args s
theorem amz {g:Hp} {s:S} {n:Nat} {o:O} (h:Inv g s):Inv g (pV s n o):=fun k hk=>by
  simp only [pV] at hk
  have h1:s.w.testBit k = false∧(bit n).testBit k = false:=by
    have:(Nat.lor s.w (bit n)).testBit k = (s.w.testBit k || (bit n).testBit k):=Nat.testBit_or ..
    rw [this,Bool.or_eq_false_iff] at hk; exact hk
  have hne:k ≠ n:=fun e=>by rw [oQ,e] at h1; simp at h1
  rw [(CJ s n o).keep k hne]; exact h k h1.1
theorem aIK {g:Hp} {s:S} {o:O} (h:Inv g s):Inv g (wz s o):=fun k hk=>amz (n:=s.c) (o:=o) h k hk
section
variable {base:bZ} {obs:List HO} {rts:List Int} {n:Nat} {zs:List Int} {lF:List (Fin obs.length)}
theorem akj (hb:e9 base):e9 (yJ base obs rts n zs lF):=by
  intro f args s outs r h g hi p hp
  unfold yJ at h
  split at h
  · split at h
    · cases h; rw [fw.1 hp]; exact aIK hi
    · cases h
  · split at h
    · split at h
      · split at h
        · cases h; rw [fw.1 hp]; exact hi
        · cases h
      · split at h
        · cases h; rw [fw.1 hp]; exact amz hi
        · cases h
    · exact hb f args s outs r h g hi p hp
end
theorem aqX {base:bZ} (ho:∀ w0,iW Try.prog w0 base) (hoi:e9 base) {obs:List HO} {rts:List Int} {to fr:List (List Nat)} {r:Nat} {ls vals:List Nat} {known:List Bool} (hB:AV base obs rts to fr (r :: ls) vals known) {dv:List Nat} {dk:List Bool} (hD:acx base to fr (r :: ls) vals known dv dk) (hc:kY base (obs.map cX) (rts.map eX) 0)
    (hd:∀ v∈dv,v < obs.length + 1) (hls:∀ v∈ls,v < obs.length) (hll:ls.length≤1000) (hid:arq obs = true) {lF:List (Fin obs.length)} (hlF:lF.length≤1000):∀ w0,iW Try.prog w0 (yJ base obs rts obs.length (tQ obs dv ls) lF):=by
  intro w0 f args s outs rr h
  unfold yJ at h
  split at h
  · rename_i hf
    subst hf
    split at h
    · rename_i hcond
      obtain ⟨rfl,hn⟩:=hcond
      cases h
      refine ⟨⟨_,Try.func19,by kernel_rfl,by kernel_rfl⟩,fun g h2 φ w vs hr hi R hv=>?_⟩
      refine (asJ ho hoi hB hD hc hd hls hll hn (hr s.c (jW s.c)) hi R hv).mono fun e w' ⟨v,he,φ',hle,R',hv'⟩=>⟨v,he,_,fw.2 rfl,φ',hle,R',hv'⟩
    · cases h
  · split at h
    · rename_i hf
      subst hf
      split at h
      · split at h
        · rename_i hcond
          obtain ⟨p6,p2,rfl⟩:=hcond
          cases h
          refine ⟨⟨_,Try.func39,by kernel_rfl,by kernel_rfl⟩,fun g h2 φ w vs hr hi R hv=>?_⟩
          obtain ⟨v,u,rfl⟩ : ∃ v u,vs = [v,u]:=by
            have:=hv.1
            match vs,this with
            | [v,u],_=>exact ⟨v,u,rfl⟩
          have hv0:RepX φ v (.sc cV):=hv.2 0 v _ rfl rfl
          cases hv0 with
          | sc _ _ =>
          have:=AnyF.slices_SortFunc_none (P:=Try.prog) (ρ:=Go.VM.srsSort_ren) { Go.VM.srsSort with } none 0 u w
          change Calls Try.prog 39 _ _ _ at this
          refine this.mono fun e w' ⟨he,hw⟩=>?_
          subst hw
          exact ⟨_,he,_,fw.2 rfl,φ,Ren.le_refl φ,R,⟨#[],rfl,Go.VM.Pt.nil⟩⟩
        · cases h
      · rename_i hne
        split at h
        · rename_i hq
          have hs:=hq.choose_spec
          generalize hq.choose = q at hs h
          cases h
          have ha:=hs.args
          subst ha
          refine ⟨⟨_,Try.func39,by kernel_rfl,by kernel_rfl⟩,fun g h2 φ w vs hr hi R hv=>?_⟩
          have hz:obs.length≤(tQ obs dv ls).length:=by rw [I4]; omega
          refine (agQ hid hz hne hlF hs.hm hs.h6 hs.hmz hs.hp2 hs.n6 hs.n2 hs.nz (hr _ ((Ax q _).2 (.inl rfl))) (hr _ ((Ax q _).2 (.inr (.inl rfl)))) (hr _ ((Ax q _).2 (.inr (.inr (.inl rfl))))) (hr _ ((Ax q _).2 (.inr (.inr (.inr rfl))))) hi R hv).mono fun e w' ⟨v,he,φ',hle,R',hv'⟩=>⟨v,he,_,fw.2 rfl,φ',hle,R',hv'⟩
        · cases h
    · exact ho w0 f args s outs rr h
theorem aoV {base:bZ} {obs:List HO} {rts:List Int} {zs:List Int} {lF:List (Fin obs.length)}:aBY (yJ base obs rts obs.length zs lF) obs rts zs:=by
  intro b s hS
  refine S7 (outs:=[(.tup [.c (.sl s.c 1 0 obs.length),iV 0],wz s (.cells cq (zs.map sI)))]) (r:=bit s.c) rfl ?_ (fun k hk=>by have:=cJ k hk; have:=hS.le; omega) (fun _=>⟨_,rfl⟩) fun p hp=>?_
  · unfold yJ
    rw [if_pos rfl,if_pos ⟨rfl,hS.free _ (iw _)⟩]
  · rw [fw.1 hp]
    exact ⟨rfl,hS.new _,rfl,(CZ s _).self,fun k hk=>(CZ s _).keep k (by omega)⟩
theorem aFQ {base:bZ} {obs:List HO} {rts:List Int} {zs:List Int} {lF:List (Fin obs.length)}:aBV (yJ base obs rts obs.length zs lF) obs rts zs lF (topSort obs zs lF):=by
  constructor
  · intro hl s p6 p2
    refine S7 (outs:=[(.tup [],s)]) (r:=0) rfl ?_ cY (fun _=>⟨_,rfl⟩) fun p hp=>?_
    · unfold yJ
      rw [if_neg (by decide),if_pos rfl,if_pos hl,if_pos ⟨p6,p2,rfl⟩]
    · rw [fw.1 hp]; exact ⟨rfl,rfl⟩
  · intro hl b s m p6 p2 mz hS hm h6 hmz hp2 n6 n2 nz bm b6 b2 bz
    have hSA:SA obs rts zs lF [.c (.sl m 1 0 lF.length),.c (.fn i1 [.ptr p6 0,.ptr p2 0])] s (m,p6,p2,mz):=⟨rfl,hm,h6,hmz,hp2,n6,n2,nz⟩
    refine S7 (outs:=[(.tup [],pV s m (.cells cq (nF (topSort obs zs lF))))]) (r:=apx (m,p6,p2,mz)) rfl ?_ (fun k hk=>?_) (fun _=>⟨_,rfl⟩) fun p hp=>?_
    · unfold yJ
      have hq:∃ q,SA obs rts zs lF [.c (.sl m 1 0 lF.length),.c (.fn i1 [.ptr p6 0,.ptr p2 0])] s q:=⟨_,hSA⟩
      rw [if_neg (by decide),if_pos rfl,if_neg hl,dif_pos hq,hSA.uniq hq.choose_spec]
    · rcases (Ax _ k).1 hk with h | h | h | h <;> (dsimp only at h; omega)
    · rw [fw.1 hp]
      exact ⟨rfl,hS.put bm (hS.lt hm) _,rfl,(CJ s _ _).self,fun k hk=>(CJ s _ _).keep k hk⟩
theorem aej {base:bZ} {obs:List HO} {rts:List Int} {n:Nat} {zs:List Int} {lF:List (Fin obs.length)} {f:FuncId} (h1:f ≠ jj) (h2:f ≠ fY) (args:List V) (s:S):yJ base obs rts n zs lF f args s = base f args s:=by
  unfold yJ
  rw [if_neg h1,if_neg h2]
end Go.RM
namespace Go.RM
open Go.VM (T lJ tI Pt Fr RepT Fun aX kJ oX j6)
open Go Go.Proofs Go.Proofs.Ytliccamocpglcaa
def tree51 (obs:List HO) (rts:List Int):Go.VM.V:=.agg [.imm (.sl 4 (obs.map cX)),.imm (.sl 1 (rts.map eX))]
structure Base51 (obs:List HO) (rts:List Int) (e:Int) (fnd:Int→Option (Int × Bool)):Prop where
 check:Fun Try.prog 25 true [] [tree51 obs rts] aX (.c (.imm (tI e))) aX
 find:∀ id r,fnd id = some r→Fun Try.prog 35 true [] [tree51 obs rts,.c (.imm (tI id))] aX (.tup [.c (.imm (tI r.1)),.c (.imm (.sc (.bool r.2)))]) aX
open Classical in
noncomputable def K51 (obs:List HO) (rts:List Int) (e:Int) (fnd:Int→Option (Int × Bool)):FuncId→List V→S→Option (V × Nat):=fun f args _ =>
 if f = iY∧args = [F9 obs rts] then some (iV e,0)
 else if h:f = gW∧∃ p:Int × (Int × Bool),args = [F9 obs rts,.c (.sc (.int .i64 p.1))]∧fnd p.1 = some p.2 then some (.tup [iV h.2.choose.2.1,bV h.2.choose.2.2],0) else none
section
variable {obs:List HO} {rts:List Int} {e:Int} {fnd:Int→Option (Int × Bool)}
theorem aaQ {h:Hp}:TreeV h false (F9 obs rts) (tree51 obs rts):=⟨rfl,fun j x c hx hc=>by
 match j,hx,hc with
 | 0,hx,hc=>cases hx; cases hc; exact ⟨_,rfl,.im _ _ rfl⟩
 | 1,hx,hc=>cases hx; cases hc; exact ⟨_,rfl,.im _ _ rfl⟩⟩
theorem Dz (hB:Base51 obs rts e fnd) (f:FuncId) (args:List V) (s:S) (res:V) (mask:Nat) (h:K51 obs rts e fnd f args s = some (res,mask)):Wj Try.prog f args s mask res:=by
 unfold K51 at h
 split at h
 ·rename_i hc
  obtain ⟨rfl,rfl⟩:=hc
  cases h
  exact ⟨⟨_,Try.func25,by kernel_rfl,by kernel_rfl⟩,_,_,true,Go.VM.Pt.cons aaQ Go.VM.Pt.nil,hB.check,rfl⟩
 ·split at h
  ·rename_i hc
   have hs:=hc.2.choose_spec
   generalize hc.2.choose = p at hs h
   obtain ⟨rfl,_⟩:=hc
   obtain ⟨rfl,hp⟩:=hs
   cases h
   exact ⟨⟨_,Try.func35,by kernel_rfl,by kernel_rfl⟩,_,_,true,Go.VM.Pt.cons aaQ (Go.VM.Pt.cons (show TreeV _ false (V.c (.sc (.int .i64 p.1))) (Go.VM.V.c (.imm (tI p.1))) from TreeX.sc _) Go.VM.Pt.nil),hB.find p.1 p.2 hp,rfl⟩
  ·cases h
theorem p8:kY (H4 (K51 obs rts e fnd)) (obs.map cX) (rts.map eX) e:=by
 intro s
 refine K7 (res:=iV e) (mask:=0) rfl ?_ cY ⟨rfl,rfl⟩
 unfold K51
 rw [if_pos ⟨rfl,rfl⟩]
theorem TK:L4 (H4 (K51 obs rts e fnd)) (obs.map cX) (rts.map eX) e:=by
 intro s
 refine K7 (res:=iV e) (mask:=0) rfl ?_ cY ⟨rfl,rfl⟩
 unfold K51
 rw [if_pos ⟨rfl,rfl⟩]
theorem QJ {id:Int} {r:Int × Bool} (hf:fnd id = some r) (s:S):K51 obs rts e fnd gW [F9 obs rts,.c (.sc (.int .i64 id))] s = some (.tup [iV r.1,bV r.2],0):=by
 unfold K51
 have hq:gW = gW∧∃ p:Int × (Int × Bool),[F9 obs rts,V.c (.sc (.int .i64 id))] = [F9 obs rts,.c (.sc (.int .i64 p.1))]∧fnd p.1 = some p.2:=⟨rfl,(id,r),rfl,hf⟩
 rw [if_neg (by rintro ⟨h,_⟩; exact absurd h (by decide)),dif_pos hq]
 have hs:=hq.2.choose_spec
 generalize hq.2.choose = p at hs
 obtain ⟨h1,h2⟩:=hs
 simp only [List.cons.injEq,V.c.injEq,X.sc.injEq,Value.int.injEq,true_and,and_true] at h1
 rw [← h1,hf] at h2
 cases h2
 rfl
theorem aEz {id:Int} {k:Nat} {ok:Bool} (hf:fnd id = some ((k:Int),ok)):Tj (H4 (K51 obs rts e fnd)) (obs.map cX) (rts.map eX) id k ok:=fun s =>
 K7 (res:=.tup [iV (k:Int),bV ok]) (mask:=0) rfl (QJ hf s) cY ⟨rfl,rfl⟩
end
def fndN (fnd:Int→Option (Int × Bool)) (id:Int):Nat:=match fnd id with
 | some (k,true)=>k.toNat
 | _=>0
def refsB (fnd:Int→Option (Int × Bool)) (n:Nat) (l:List Int):Bool:=decide (l.length≤1000) && l.all fun id=>match fnd id with
 | some (k,true)=>decide (0≤k) && decide (k.toNat < n + 1)
 | _=>false
theorem afz {fnd:Int→Option (Int × Bool)} {n:Nat} {l:List Int} (h:refsB fnd n l = true):l.length≤1000∧∀ id∈l,fnd id = some ((fndN fnd id:Int),true)∧fndN fnd id < n + 1:=by
 unfold refsB at h
 rw [dw,jw,uk] at h
 refine ⟨h.1,fun id hid=>?_⟩
 have:=h.2 id hid
 unfold fndN
 split at this
 ·rename_i k hk
  rw [dw,jw,jw] at this
  rw [hk]
  exact ⟨by rw [Int.toNat_of_nonneg this.1],this.2⟩
 ·cases this
def graphB (fnd:Int→Option (Int × Bool)) (obs:List HO) (rts:List Int):Bool:=decide (obs.length≤60) && (obs.all fun o=>refsB fnd obs.length o.refs) && refsB fnd obs.length rts
def O1 (fnd:Int→Option (Int × Bool)) (obs:List HO) (rts:List Int):Option (List Nat) :=
 bif graphB fnd obs rts then match uJ 100 (adds (fndN fnd) obs rts).1 obs.length (List.range (obs.length + 1)) [] with
  | some p=>bif decide (p.2.length≤1000) && p.2.all (fun i=>decide (i < obs.length + 1)) then some p.2.reverse else none
  | none=>none
 else none
def qJ (n:Nat) (ord:List Nat):List Nat × List Bool:=gY 0 ord (List.replicate (n + 1) 0,List.replicate (n + 1) false)
theorem placeFrom_len:∀ (ord:List Nat) (j:Nat) (p:List Nat × List Bool),(gY j ord p).1.length = p.1.length∧(gY j ord p).2.length = p.2.length
 | [],_,_=>⟨rfl,rfl⟩
 | i :: l,j,p=>by
  have:=placeFrom_len l (j + 1) (p.1.set i j,p.2.set i true)
  simpa [gY] using this
theorem addsFrom_len (fnd:Int→Nat):∀ (l:List HO) (j:Nat) (p:List (List Nat) × List (List Nat)),(addsFrom fnd j l p).1.length = p.1.length∧(addsFrom fnd j l p).2.length = p.2.length
 | [],_,_=>⟨rfl,rfl⟩
 | o :: l,j,p=>by
  have h1:=addsFrom_len fnd l (j + 1) ((o.refs.map fnd).foldl (fun p k=>addS p j k) p)
  have h2:=addSs_len j (o.refs.map fnd) p
  exact ⟨h1.1.trans h2.1,h1.2.trans h2.2⟩
theorem adds_len (fnd:Int→Nat) (obs:List HO) (rts:List Int):(adds fnd obs rts).1.length = obs.length + 1∧(adds fnd obs rts).2.length = obs.length + 1:=by
 unfold adds
 have h1:=addSs_len obs.length (rts.map fnd) (addsFrom fnd 0 obs (List.replicate (obs.length + 1) [],List.replicate (obs.length + 1) []))
 have h2:=addsFrom_len fnd obs 0 (List.replicate (obs.length + 1) [],List.replicate (obs.length + 1) [])
 exact ⟨by rw [h1.1,h2.1,lw],by rw [h1.2,h2.2,lw]⟩
theorem acq {orc:bZ} {fnd:Int→Option (Int × Bool)} {obs:List HO} {rts:List Int} (hfd:∀ id r,fnd id = some r→∀ s,Cp orc p_T gW [F9 obs rts,.c (.sc (.int .i64 id))] s (fun _=>False) True fun v s'=>s = s'∧v = .tup [iV r.1,bV r.2]) {ord:List Nat} (h:O1 fnd obs rts = some ord) :
  AV orc obs rts (adds (fndN fnd) obs rts).1 (adds (fndN fnd) obs rts).2 ord (qJ obs.length ord).1 (qJ obs.length ord).2:=by
 unfold O1 at h
 cases hg:graphB fnd obs rts with
 | false=>rw [hg] at h; cases h
 | true =>
  rw [hg] at h
  simp only [cond_true] at h
  unfold graphB at hg
  rw [dw,dw,jw,uk] at hg
  obtain ⟨⟨hn,ho⟩,hr⟩:=hg
  split at h
  ·rename_i p hp
   cases hb:decide (p.2.length≤1000) && p.2.all (fun i=>decide (i < obs.length + 1)) with
   | false=>rw [hb] at h; cases h
   | true =>
    rw [hb] at h
    simp only [cond_true,fk] at h
    subst h
    rw [dw,jw,uk] at hb
    have hrefs:awV orc (fndN fnd) obs rts:=by
     have key:∀ l:List Int,refsB fnd obs.length l = true→XQ orc (obs.map cX) (rts.map eX) (fndN fnd) l∧l.length≤1000∧∀ r∈l,fndN fnd r < obs.length + 1:=fun l hl=>by
      obtain ⟨h1,h2⟩:=afz hl
      refine ⟨fun s id hid=>?_,h1,fun r hr=>(h2 r hr).2⟩
      exact hfd id _ (h2 id hid).1 s
     exact ⟨fun o hm=>key o.refs (ho o hm),key rts hr⟩
    have hlen:=adds_len (fndN fnd) obs rts
    have hpl:=placeFrom_len p.2.reverse 0 (List.replicate (obs.length + 1) 0,List.replicate (obs.length + 1) false)
    exact ⟨fun b s hS=>aFj hS obs rts hn hrefs (us':=p.1) (ord':=p.2) hp hb.1 (fun i hi=>of_decide_eq_true (hb.2 i hi)),hlen.1,hlen.2,by rw [qJ,hpl.1,lw],by rw [qJ,hpl.2,lw],hn⟩
  ·cases h
section
variable {obs:List HO} {rts:List Int} {e:Int} {fnd:Int→Option (Int × Bool)}
theorem z7 {ord:List Nat} (h:O1 fnd obs rts = some ord):AV (H4 (K51 obs rts e fnd)) obs rts (adds (fndN fnd) obs rts).1 (adds (fndN fnd) obs rts).2 ord (qJ obs.length ord).1 (qJ obs.length ord).2 :=
 acq (fun id r hf s=>K7 (res:=.tup [iV r.1,bV r.2]) (mask:=0) rfl (QJ hf s) cY ⟨rfl,rfl⟩) h
end
def reachF (chk:Option Int) (fnd:Int→Option (Int × Bool)) (obs:List HO) (rts:List Int):Option (List Bool × Int) :=
 chk.bind fun e=>bif decide (e = 0) then (O1 fnd obs rts).map fun ord=>((qJ obs.length ord).2.take obs.length,0) else some ([],e)
theorem reachF_fun {chk:Option Int} {fnd:Int→Option (Int × Bool)} {obs:List HO} {rts:List Int} (hB:∀ e,chk = some e→Base51 obs rts e fnd) {r:List Bool × Int} (h:reachF chk fnd obs rts = some r) (fresh:Bool) :
  Fun Try.prog pJ fresh [] [tree51 obs rts] aX (.tup [.c (.imm (.sl 1 (J9 r.1))),.c (.imm (tI r.2))]) aX:=by
 unfold reachF at h
 obtain ⟨e,he,h⟩:=ak.1 h
 have hb:=hB e he
 have ho:=F6 (Dz hb)
 have hoi:=C8 (K51 obs rts e fnd)
 by_cases e0:e = 0
 ·subst e0
  simp only [decide_true,cond_true] at h
  obtain ⟨ord,h1,rfl⟩:=aw.1 h
  exact arK ho hoi (z7 h1) p8 fresh
 ·rw [vk e0] at h
  cases h
  exact aqK ho hoi p8 e0 fresh
def domsF (fnd:Int→Option (Int × Bool)) (obs:List HO) (rts:List Int) (ord:List Nat):Option (List Nat × List Bool):=match ord with
 | []=>none
 | root :: _=>bif decide (root < obs.length + 1∧obs.length≤60) && decide (ord.length≤1000) && (adds (fndN fnd) obs rts).2.all (fun l=>decide (l.length≤1000000)) then
   (match JZ 200 (qJ obs.length ord).1 (adds (fndN fnd) obs rts).2 ord 100 ((List.replicate (obs.length + 1) 0).set root root,(List.replicate (obs.length + 1) false).set root true) with
   | some p=>bif decide (p.1.length = obs.length + 1) && decide (p.2.length = obs.length + 1) && p.1.all (fun v=>decide (v < obs.length + 1)) then some p else none
   | none=>none) else none
theorem YY {orc:bZ} {fnd:Int→Option (Int × Bool)} {obs:List HO} {rts:List Int} {ord:List Nat} {p:List Nat × List Bool} (h:domsF fnd obs rts ord = some p) :
  acx orc (adds (fndN fnd) obs rts).1 (adds (fndN fnd) obs rts).2 ord (qJ obs.length ord).1 (qJ obs.length ord).2 p.1 p.2∧(∀ v∈p.1,v < obs.length + 1)∧∃ r ls,ord = r :: ls:=by
 unfold domsF at h
 split at h
 ·cases h
 ·rename_i root ls
  cases hb:decide (root < obs.length + 1∧obs.length≤60) && decide ((root :: ls).length≤1000) && (adds (fndN fnd) obs rts).2.all (fun l=>decide (l.length≤1000000)) with
  | false=>rw [hb] at h; cases h
  | true =>
   rw [hb] at h
   simp only [cond_true] at h
   rw [dw,dw,jw,jw,uk] at hb
   split at h
   ·rename_i q hq
    cases hc:decide (q.1.length = obs.length + 1) && decide (q.2.length = obs.length + 1) && q.1.all (fun v=>decide (v < obs.length + 1)) with
    | false=>rw [hc] at h; cases h
    | true =>
     rw [hc] at h
     cases h
     rw [dw,dw,jw,jw,uk] at hc
     have hl:=adds_len (fndN fnd) obs rts
     have hsm:=hb.1.2
     refine ⟨⟨fun b s g hS hG=>?_,by rw [hl.1]; exact hc.1.1,by rw [hl.1]; exact hc.1.2⟩,fun v hv=>of_decide_eq_true (hc.2 v hv),root,ls,rfl⟩
     exact Uj hS hG (by rw [hl.1]; omega) hsm (fun l hm=>of_decide_eq_true (hb.2 l hm)) (root:=root) rfl (by rw [hl.1]; exact hb.1.1.1) (F:=200) (f:=100) (by rw [hl.1]; exact hq)
   ·cases h
def dominatorsF (chk:Option Int) (fnd:Int→Option (Int × Bool)) (obs:List HO) (rts:List Int):Option (List Int × Int) :=
 chk.bind fun e=>bif decide (e = 0) then (O1 fnd obs rts).bind fun ord=>(domsF fnd obs rts ord).map fun p=>(i9 obs.length p.1 p.2,0) else some ([],e)
def retainedF (chk:Option Int) (fnd:Int→Option (Int × Bool)) (obs:List HO) (rts:List Int):Option (List Int × Int) :=
 chk.bind fun e=>bif decide (e = 0) then (O1 fnd obs rts).bind fun ord=>(domsF fnd obs rts ord).bind fun p=>bif (ord.drop 1).all (fun v=>decide (v < obs.length)) && decide (ord.length≤1000) then some ((tQ obs p.1 (ord.drop 1)).take obs.length,0) else none else some ([],e)
def M8 (obs:List HO) (ord:List Nat):List (Fin obs.length):=(List.finRange obs.length).filter fun i=>(qJ obs.length ord).2.getD i false
def topF (chk:Option Int) (fnd:Int→Option (Int × Bool)) (obs:List HO) (rts:List Int) (n:Int):Option (List Int × Int) :=
 chk.bind fun e=>bif decide (e = 0) then (O1 fnd obs rts).bind fun ord=>(domsF fnd obs rts ord).bind fun p=>bif (ord.drop 1).all (fun v=>decide (v < obs.length)) && decide (ord.length≤1000) && arq obs then
  (bif decide (n < 0) then some ([],2) else some (outT obs ((topSort obs (tQ obs p.1 (ord.drop 1)) (M8 obs ord)).take n.toNat),0)) else none else some ([],e)
def pathF (chk:Option Int) (fnd:Int→Option (Int × Bool)) (obs:List HO) (rts:List Int) (id:Int):Option (List Int × Int) :=
 chk.bind fun e=>bif decide (e = 0) then (match fnd id with
  | none=>none
  | some (k,false)=>bif decide (0≤k) then some ([],5) else none
  | some (k,true)=>bif decide (0≤k) && decide (k.toNat < obs.length) && (adds (fndN fnd) obs rts).1.all (fun l=>decide (l.length≤1000)) then (O1 fnd obs rts).bind fun _ =>
    (ahZ (adds (fndN fnd) obs rts).1 100 (((List.replicate (obs.length + 1) 0).set obs.length obs.length,(List.replicate (obs.length + 1) false).set obs.length true),[obs.length])).bind fun q =>
     (match q.2[k.toNat]? with
     | none=>none
     | some false=>some ([],5)
     | some true=>(H3 obs q.1 100 k.toNat []).bind fun acc=>bif decide (acc.length≤1000) && decide (0 < acc.length) then some (acc.reverse,0) else none) else none) else some ([],e)
section
variable {chk:Option Int} {fnd:Int→Option (Int × Bool)} {obs:List HO} {rts:List Int}
theorem dominatorsF_fun (hB:∀ e,chk = some e→Base51 obs rts e fnd) {r:List Int × Int} (h:dominatorsF chk fnd obs rts = some r) (fresh:Bool) :
  Fun Try.prog iK fresh [] [tree51 obs rts] aX (.tup [.c (.imm (.sl 1 (AX r.1))),.c (.imm (tI r.2))]) aX:=by
 unfold dominatorsF at h
 obtain ⟨e,he,h⟩:=ak.1 h
 have hb:=hB e he
 have ho:=F6 (Dz hb)
 have hoi:=C8 (K51 obs rts e fnd)
 by_cases e0:e = 0
 ·subst e0
  simp only [decide_true,cond_true] at h
  obtain ⟨ord,h1,h⟩:=ak.1 h
  obtain ⟨p,h2,rfl⟩:=aw.1 h
  exact R1 ho hoi (z7 h1) (YY h2).1 p8 fresh
 ·rw [vk e0] at h
  cases h
  exact T2 ho hoi p8 e0 fresh
theorem retainedF_fun (hB:∀ e,chk = some e→Base51 obs rts e fnd) {r:List Int × Int} (h:retainedF chk fnd obs rts = some r) (fresh:Bool) :
  Fun Try.prog jj fresh [] [tree51 obs rts] aX (.tup [.c (.imm (.sl 1 (AX r.1))),.c (.imm (tI r.2))]) aX:=by
 unfold retainedF at h
 obtain ⟨e,he,h⟩:=ak.1 h
 have hb:=hB e he
 have ho:=F6 (Dz hb)
 have hoi:=C8 (K51 obs rts e fnd)
 by_cases e0:e = 0
 ·subst e0
  simp only [decide_true,cond_true] at h
  obtain ⟨ord,h1,h⟩:=ak.1 h
  obtain ⟨p,h2,h⟩:=ak.1 h
  cases hc:(ord.drop 1).all (fun v=>decide (v < obs.length)) && decide (ord.length≤1000) with
  | false=>rw [hc] at h; cases h
  | true =>
   rw [hc] at h
   cases h
   rw [dw,uk,jw] at hc
   obtain ⟨hD,hd,root,ls,rfl⟩:=YY h2
   simp only [List.drop_succ_cons,List.drop_zero,List.length_cons] at hc ⊢
   exact XK ho hoi (z7 h1) hD p8 hd (fun v hv=>of_decide_eq_true (hc.1 v hv)) (by omega) fresh
 ·rw [vk e0] at h
  cases h
  exact YZ ho hoi TK e0 fresh
theorem atV (known:List Bool) (n:Nat):((List.finRange n).filter fun i:Fin n=>known.getD i false).map (fun x:Fin n=>x.val) = nj known n:=by
 unfold nj
 have h:(List.finRange n).map (fun x:Fin n=>x.val) = List.range n:=by
  apply List.ext_getElem
  ·simp
  ·intro i h1 h2; simp
 rw [← h,List.filter_map]
 rfl
theorem aDK {h:Hp} {fresh:Bool} {m:Nat} {obs:List HO} {L:List (Fin obs.length)} (hm:h m = some (.cells cq ((outT obs L).map sI))):TreeX h fresh (.sl m 1 0 L.length) (.sl 1 (AX (outT obs L))):=by
 have hl:(outT obs L).length = L.length:=by unfold outT; rw [List.length_map]
 have:=HJ (fresh:=fresh) (n:=L.length) hm (by omega)
 rw [List.take_of_length_le (by omega)] at this
 exact this
theorem topF_fun (hB:∀ e,chk = some e→Base51 obs rts e fnd) {n:Int} {r:List Int × Int} (h:topF chk fnd obs rts n = some r) (fresh:Bool) :
  Fun Try.prog wZ fresh [] [tree51 obs rts,.c (.imm (tI n))] aX (.tup [.c (.imm (.sl 1 (AX r.1))),.c (.imm (tI r.2))]) aX:=by
 unfold topF at h
 obtain ⟨e,he,h⟩:=ak.1 h
 have hb:=hB e he
 have ho:=F6 (Dz hb)
 have hoi:=C8 (K51 obs rts e fnd)
 by_cases e0:e = 0
 ·subst e0
  simp only [decide_true,cond_true] at h
  obtain ⟨ord,h1,h⟩:=ak.1 h
  obtain ⟨p,h2,h⟩:=ak.1 h
  cases hc:(ord.drop 1).all (fun v=>decide (v < obs.length)) && decide (ord.length≤1000) && arq obs with
  | false=>rw [hc] at h; cases h
  | true =>
   rw [hc] at h
   simp only [cond_true] at h
   rw [dw,dw,uk,jw] at hc
   obtain ⟨hD,hd,root,ls,rfl⟩:=YY h2
   simp only [List.drop_succ_cons,List.drop_zero,List.length_cons] at hc h
   have hB0:=z7 (e:=0) h1
   have hn60:obs.length≤60:=hB0.small
   have hkl:(M8 obs (root :: ls)).length≤1000:=by
    have h3:=List.length_filter_le (fun i:Fin obs.length=>(qJ obs.length (root :: ls)).2.getD i false) (List.finRange obs.length)
    rw [List.length_finRange] at h3
    unfold M8
    omega
   have hto:=aqX ho hoi hB0 hD p8 hd (fun v hv=>of_decide_eq_true (hc.1.1 v hv)) (by omega) hc.2 (lF:=M8 obs (root :: ls)) hkl
   have htoi:=akj (obs:=obs) (rts:=rts) (n:=obs.length) (zs:=tQ obs p.1 ls) (lF:=M8 obs (root :: ls)) hoi
   cases hn:decide (n < 0) with
   | true =>
    rw [hn] at h
    cases h
    have hn':=of_decide_eq_true hn
    exact mW qj hto htoi (us:=[F9 obs rts,.c (.sc (.int .i64 n))]) rfl (aKz sb0 (obs:=obs) (rts:=rts) aoV hn') fun v s hv=>by subst hv; exact xX
   | false =>
    rw [hn] at h
    cases h
    have hn':=of_decide_eq_false hn
    have hBt:AV (yJ (H4 (K51 obs rts 0 fnd)) obs rts obs.length (tQ obs p.1 ls) (M8 obs (root :: ls))) obs rts (adds (fndN fnd) obs rts).1 (adds (fndN fnd) obs rts).2 (root :: ls) (qJ obs.length (root :: ls)).1 (qJ obs.length (root :: ls)).2 :=
     acq (fun id r hf s=>S7 (outs:=[(.tup [iV r.1,bV r.2],s)]) (r:=0) rfl (by rw [aej (by decide) (by decide)]; unfold H4; rw [QJ hf]; rfl) cY (fun _=>⟨_,rfl⟩) fun p hp=>by rw [fw.1 hp]; exact ⟨rfl,rfl⟩) h1
    refine mW qj hto htoi (us:=[F9 obs rts,.c (.sc (.int .i64 n))]) rfl (aOJ sb0 hBt aoV (atV _ _) aFQ (List.length_mergeSort _) (by omega)) fun v s ⟨m,hv,hm⟩=>?_
    subst hv
    exact Pt.cons (aDK hm) (Pt.cons (TreeX.sc _) Pt.nil)
 ·rw [vk e0] at h
  cases h
  exact mW apj ho hoi (us:=[F9 obs rts,.c (.sc (.int .i64 n))]) rfl (aIz sb0 TK e0 n) fun v s hv=>by subst hv; exact xX
theorem pathF_fun (hB:∀ e,chk = some e→Base51 obs rts e fnd) {id:Int} {r:List Int × Int} (h:pathF chk fnd obs rts id = some r) (fresh:Bool) :
  Fun Try.prog m6 fresh [] [tree51 obs rts,.c (.imm (tI id))] aX (.tup [.c (.imm (.sl 1 (AX r.1))),.c (.imm (tI r.2))]) aX:=by
 unfold pathF at h
 obtain ⟨e,he,h⟩:=ak.1 h
 have hb:=hB e he
 have ho:=F6 (Dz hb)
 have hoi:=C8 (K51 obs rts e fnd)
 by_cases e0:e = 0
 ·subst e0
  simp only [decide_true,cond_true] at h
  split at h
  ·cases h
  ·rename_i k hk
   cases hc:decide (0≤k) with
   | false=>rw [hc] at h; cases h
   | true =>
    rw [hc] at h
    cases h
    have hk0:=of_decide_eq_true hc
    exact avJ ho hoi p8 (id:=id) (k:=k.toNat) (aEz (by rw [hk,Int.toNat_of_nonneg hk0])) fresh
  ·rename_i k hk
   cases hc:decide (0≤k) && decide (k.toNat < obs.length) && (adds (fndN fnd) obs rts).1.all (fun l=>decide (l.length≤1000)) with
   | false=>rw [hc] at h; cases h
   | true =>
    rw [hc] at h
    simp only [cond_true] at h
    rw [dw,dw,jw,jw,uk] at hc
    obtain ⟨ord,h1,h⟩:=ak.1 h
    obtain ⟨q,h2,h⟩:=ak.1 h
    have hat:=aEz (e:=0) (rts:=rts) (obs:=obs) (id:=id) (k:=k.toNat) (ok:=true) (fnd:=fnd) (by rw [hk,Int.toNat_of_nonneg hc.1.1])
    split at h
    ·cases h
    ·rename_i hq
     cases h
     exact afq ho hoi (z7 h1) p8 (fun l hl=>of_decide_eq_true (hc.2 l hl)) hat hc.1.2 h2 (kw:=false) hq (f2:=0) (acc:=[]) (fun h=>by cases h) fresh
    ·rename_i hq
     obtain ⟨acc,h3,h⟩:=ak.1 h
     cases hd:decide (acc.length≤1000) && decide (0 < acc.length) with
     | false=>rw [hd] at h; cases h
     | true =>
      rw [hd] at h
      cases h
      rw [dw,jw,jw] at hd
      exact afq ho hoi (z7 h1) p8 (fun l hl=>of_decide_eq_true (hc.2 l hl)) hat hc.1.2 h2 (kw:=true) hq (fun _=>⟨h3,hd.1,hd.2⟩) fresh
 ·rw [vk e0] at h
  cases h
  exact axZ ho hoi p8 e0 id fresh
end
end Go.RM
namespace Go.RM
open Go.Proofs Go.Proofs.Ytliccamocpglcaa
def t7:Nat:=18
def Bz:Nat:=32
def rQ:Nat:=28
def L7:Nat:=28
def kq:RF:=⟨.seq (.region none [(⟨(some 2),.box cK (.tmp 0),none⟩,1),(⟨(some 4),.alloc cK [(.sc (.slice none 0 0)),(.sc (.slice none 0 0))],none⟩,0)]) (.seq (.region (some [0,0,2,7,0,16,63,0,255]) [(⟨(some 6),.bsl m5 4 0 [(.sc (.int .i64 0)),(.sc (.int .i64 0)),(.sc (.string ⟨#[]⟩)),(.sc (.slice none 0 0))] [],none⟩,0),(⟨(some 7),.fld 0 (.tmp 2),none⟩,4),(⟨(some 8),.load 1 false (.tmp 7),none⟩,128),(⟨(some 9),.app m5 4 56 (.tmp 6) (.tmp 8),none⟩,320),(⟨(some 10),.fld 1 (.tmp 2),none⟩,4),(⟨(some 11),.load 1 false (.tmp 10),none⟩,1024),(⟨(some 12),.build [(.sc (.slice none 0 0)),(.sc (.slice none 0 0))] [(0,1,(.tmp 9)),(1,1,(.tmp 11))],none⟩,2560),(⟨(some 5),.alloc cK [(.sc (.slice none 0 0)),(.sc (.slice none 0 0))],none⟩,0),(⟨none,.store 2 (.tmp 5) (.tmp 12),none⟩,4128)]) (.seq (.region none [(⟨(some 13),.fld 0 (.tmp 5),none⟩,32),(⟨(some 14),.load 1 false (.tmp 13),none⟩,8192),(⟨(some 15),.mv (.tmp 1),none⟩,2),(⟨(some 16),.ixA 4 (.tmp 14) (.tmp 15),none⟩,49152),(⟨(some 17),.fld 3 (.tmp 16),none⟩,65536),(⟨none,.store 1 (.tmp 17) (.con (.c (.sc (.slice none 0 0)))),none⟩,131072)]) (.seq (.region none [(⟨(some 18),.load 2 true (.tmp 5),none⟩,32),(⟨none,.store 2 (.tmp 4) (.tmp 18),none⟩,262160)]) (.ret)))),[.cell 4 2 true]⟩
set_option maxRecDepth 100000 in
theorem zX:zj Try.prog 18 = some kq∧lV Try.prog 18 = true:=⟨by kernel_rfl,by kernel_rfl⟩
def rW:RF:=⟨.seq (.region none [(⟨(some 1),.box cK (.tmp 0),none⟩,1),(⟨(some 2),.mv (.con (.c (.sc (.slice none 0 0)))),none⟩,0)]) (.seq (.region none [(⟨(some 8),.load 2 true (.tmp 1),none⟩,2),(⟨(some 9),.call rQ [(.tmp 8),(.con (.c (.sc (.int .i64 (-1)))))],none⟩,256),(⟨(some 3),.mv (.tmp 9),none⟩,512)]) (.seq (.region none [(⟨(some 10),.mv (.tmp 3),none⟩,8),(⟨(some 11),.lenS (.tmp 10),none⟩,1024),(⟨(some 12),.mksl L7 1 24 [(.sc (.slice none 0 0))] (.tmp 11) (.tmp 11),none⟩,2048),(⟨(some 4),.mv (.tmp 12),none⟩,4096)]) (.seq (.seq (.region none [(⟨(some 5),.mv (.con (.c (.sc (.int .i64 0)))),none⟩,0)]) (.block 0 (.loop (.seq (.seq (.region none [(⟨(some 13),.mv (.tmp 5),none⟩,32),(⟨(some 14),.mv (.tmp 3),none⟩,8),(⟨(some 15),.lenS (.tmp 14),none⟩,16384),(⟨(some 16),.bin .lss (.tmp 13) (.tmp 15),none⟩,40960)]) (.cond (.tmp 16) (.skip) (.exit 0))) (.seq (.block 1 (.seq (.region none [(⟨(some 19),.load 2 true (.tmp 1),none⟩,2),(⟨(some 20),.mv (.tmp 5),none⟩,32),(⟨(some 21),.call rQ [(.tmp 19),(.tmp 20)],none⟩,1572864),(⟨(some 6),.mv (.tmp 21),none⟩,2097152)]) (.seq (.region none [(⟨(some 7),.mv (.con (.c (.sc (.int .i64 0)))),none⟩,0)]) (.block 2 (.loop (.seq (.seq (.region none [(⟨(some 22),.mv (.tmp 7),none⟩,128),(⟨(some 23),.mv (.tmp 3),none⟩,8),(⟨(some 24),.lenS (.tmp 23),none⟩,8388608),(⟨(some 25),.bin .lss (.tmp 22) (.tmp 24),none⟩,20971520)]) (.cond (.tmp 25) (.skip) (.exit 2))) (.seq (.block 3 (.region (some [0,0,0,0,12,28,0,0,192,448,960,1984,4032,4032,16320,32704,65472,131008,262080,524284,1048575,2097151]) [(⟨(some 28),.mv (.tmp 4),none⟩,16),(⟨(some 29),.mv (.tmp 5),none⟩,32),(⟨(some 30),.mv (.tmp 4),none⟩,16),(⟨(some 31),.mv (.tmp 5),none⟩,32),(⟨(some 32),.ixA 1 (.tmp 30) (.tmp 31),none⟩,3221225472),(⟨(some 33),.load 1 false (.tmp 32),none⟩,4294967296),(⟨(some 34),.mv (.tmp 3),none⟩,8),(⟨(some 35),.mv (.tmp 7),none⟩,128),(⟨(some 36),.ixA 1 (.tmp 34) (.tmp 35),none⟩,51539607552),(⟨(some 37),.load 1 false (.tmp 36),none⟩,68719476736),(⟨(some 38),.bin .gtr (.tmp 37) (.con (.c (.sc (.int .i64 0)))),none⟩,137438953472),(⟨(some 39),.mv (.tmp 38),none⟩,274877906944),(⟨(some 40),.mv (.tmp 6),(some (39,true))⟩,549755813952),(⟨(some 41),.mv (.tmp 7),(some (39,true))⟩,549755814016),(⟨(some 42),.ixA 1 (.tmp 40) (.tmp 41),(some (39,true))⟩,3848290697216),(⟨(some 43),.load 1 false (.tmp 42),(some (39,true))⟩,4947802324992),(⟨(some 44),.bin .eql (.tmp 43) (.con (.c (.sc (.int .i64 0)))),(some (39,true))⟩,9345848836096),(⟨(some 45),.pick (.tmp 39) (.tmp 44) (.con (.c (.sc (.bool false)))),none⟩,18141941858304),(⟨(some 46),.bsl w8 1 1 [(.sc (.bool false))] [(0,1,(.tmp 45))],none⟩,35184372088832),(⟨(some 47),.app w8 1 1 (.tmp 33) (.tmp 46),none⟩,70377334112256),(⟨(some 48),.ixA 1 (.tmp 28) (.tmp 29),none⟩,805306368),(⟨none,.store 1 (.tmp 48) (.tmp 47),none⟩,422212465065984)])) (.region none [(⟨(some 26),.mv (.tmp 7),none⟩,128),(⟨(some 27),.bin .add (.tmp 26) (.con (.c (.sc (.int .i64 1)))),none⟩,67108864),(⟨(some 7),.mv (.tmp 27),none⟩,134217728)])))))))) (.region none [(⟨(some 17),.mv (.tmp 5),none⟩,32),(⟨(some 18),.bin .add (.tmp 17) (.con (.c (.sc (.int .i64 1)))),none⟩,131072),(⟨(some 5),.mv (.tmp 18),none⟩,262144)])))))) (.seq (.region none [(⟨(some 49),.mv (.tmp 4),none⟩,16),(⟨(some 2),.mv (.tmp 49),none⟩,562949953421312)]) (.ret))))),[.tmp 2]⟩
set_option maxRecDepth 100000 in
theorem xZ:zj Try.prog 32 = some rW∧lV Try.prog 32 = true:=⟨by kernel_rfl,by kernel_rfl⟩
def d_T:Tr RF:=B3 [(t7,kq),(Bz,rW)]
theorem aOQ:TOk Try.prog d_T:=akQ fun p hp=>by
 simp only [List.mem_cons,List.not_mem_nil,or_false] at hp
 rcases hp with rfl | rfl
 ·exact zX
 ·exact xZ
end Go.RM
namespace Go.RM
open Go.VM (T lJ tI Pt Fun aX)
open Go.Proofs Go.Proofs.Ytliccamocpglcaa
theorem p7:∀ obs:List HO,(obs.map cX).flatten.length = obs.length * 4
 | []=>rfl
 | o :: l=>by
  rw [zw,List.flatten_cons,tk,p7 l,List.length_cons]
  show 4 + _ = _
  omega
set_option maxHeartbeats 4000000 in
theorem ahV {orc:bZ} {b:Nat} {s:S} (hS:Sb b s) {obs:List HO} {rts:List Int} {at_:Nat} (hat:at_ < obs.length) (hsm:obs.length≤60) :
  Cp orc d_T t7 [.agg [.im 4 (obs.map cX),.im 1 (rts.map eX)],.c (.sc (.int .i64 at_))] s (fun k=>b≤k) True fun v s'=>∃ m,v = .agg [.sl m 4 0 obs.length,.im 1 (rts.map eX)]∧s'.h.get m = some (.cells m5 (((obs.map cX).flatten.map imX).set (at_ * 4 + 3) (.sc cV))):=by
 have hle:=hS.le
 refine jV (rf:=kq) rfl ?_
 unfold kq
 obtain ⟨Γ,hΓ⟩ : ∃ Γ,Γ = ofL [V.agg [.im 4 (obs.map cX),.im 1 (rts.map eX)],.c (.sc (.int .i64 at_))] 0 .lf:=⟨_,rfl⟩
 have g0:look Γ 0 = .agg [.im 4 (obs.map cX),.im 1 (rts.map eX)]:=by rw [hΓ]; rfl
 have g1:look Γ 1 = .c (.sc (.int .i64 at_)):=by rw [hΓ]; rfl
 rw [← hΓ]
 try clear G
 clear hΓ
 have hbz:Nat.beq (obs.map cX).length 0 = false:=by
  rw [List.length_map]
  cases h:obs.length with
  | zero=>omega
  | succ n=>rfl
 have r8:l7 56 (0 + (obs.map cX).length) = true:=by
  unfold l7
  rw [dw,Nat.ble_eq,Nat.ble_eq,List.length_map]
  omega
 replace G:=bw g0 g1
 refine az (aq ?_)
 refine m9 rfl (MS.box hS (by simp only [evS,Nat.reduceEqDiff,reduceIte,b9,G]; first | done | rfl)) (fun k hk=>by first | exact False.elim hk | (dsimp only at hk ⊢; omega) | omega) ?_
 refine dW hS ?_
 intro s1 hst1 hsc1 hS1
 have hn1:=hst1.self
 refine qM (MS.alloc hS1) ?_
 refine dW hS1 ?_
 intro s2 hst2 hsc2 hS2
 replace hn1:=hst2.at hn1 (by omega)
 have hn2:=hst2.self
 refine aQ ?_
 dsimp only [aj]
 refine az (oW rfl ?_)
 refine wK rfl (MS.bsl hS2 rfl) (fun k hk=>by first | exact False.elim hk | (dsimp only at hk ⊢; omega) | omega) (fun x hx=>by simp at hx) ?_
 refine wx hS2 ?_
 intro s3 hst3 hsc3 hS3
 replace hn1:=hst3.at hn1 (by omega)
 replace hn2:=hst3.at hn2 (by omega)
 have hn3:=hst3.self
 refine rP ?_
 refine rL ?_
 refine wK rfl (MS.app_im hS3 (by simp only [evS,Nat.reduceEqDiff,reduceIte,G]; try rfl) (by assumption) (by first | assumption | rfl) (by simp only [evS,Nat.reduceEqDiff,reduceIte,G]; try rfl) (by first | assumption | rfl) (by first | assumption | rfl)) (fun k hk => by first | exact False.elim hk | (dsimp only at hk ⊢; omega) | omega) (by intro x hx; simp only [List.nil_append,List.cons_append,List.mem_cons,List.not_mem_nil,or_false] at hx; rcases hx with rfl | rfl <;> first | exact .inl (by dsimp only; decide) | (refine .inr fun k => ?_; refine ⟨?_,?_,?_⟩ <;> (intro hk; (try dsimp only at hk); first | exact hk.1.elim | exact hk.2.elim | omega))) ?_
 refine aJj hS3 (by omega) (by omega) ?_
 intro s4 hst4 hS4
 have hsa4:=hst4.c
 first | replace hn1:=hst4.at hn1 (by omega) (by omega) | replace hn1:=hst4.dead
 first | replace hn2:=hst4.at hn2 (by omega) (by omega) | replace hn2:=hst4.dead
 first | replace hn3:=hst4.at hn3 (by omega) (by omega) | replace hn3:=hst4.dead
 have hn4:=hst4.self
 refine rP ?_
 refine rL ?_
 refine sV rfl (by simp only [evS,Nat.reduceEqDiff,reduceIte,PU,bQ,scV,bV,iV,cV,isB,isI,mX,tq,mkV,fill,b9,setAt,List.take_zero,List.take_succ_cons,List.take_nil,List.drop_nil,List.append_nil,List.nil_append,List.cons_append,List.length_cons,List.length_nil,Nat.reduceAdd,Nat.reduceLeDiff,Pz,W8,eq_self,decide_true,Bool.and_self,G]; first | done | rfl) ?_
 refine rM (MS.alloc hS4) ?_
 refine wx hS4 ?_
 intro s5 hst5 hsc5 hS5
 replace hn1:=hst5.at hn1 (by omega)
 replace hn2:=hst5.at hn2 (by omega)
 replace hn3:=hst5.at hn3 (by omega)
 replace hn4:=hst5.at hn4 (by omega)
 have hn5:=hst5.self
 refine wK rfl (MS.storeA (by simp only [evS,Nat.reduceEqDiff,reduceIte,G]; try rfl) (by simp only [evS,Nat.reduceEqDiff,reduceIte,b9,G]; first | done | rfl) (by assumption) rfl (by first | rfl | (simp; done) | omega)) (fun k hk => by first | exact False.elim hk | (dsimp only at hk ⊢; omega) | omega) (by intro x hx; simp only [List.nil_append,List.cons_append,List.mem_cons,List.not_mem_nil,or_false] at hx; rcases hx with rfl | rfl | rfl | rfl | rfl <;> first | exact .inl (by dsimp only; decide) | (refine .inr fun k => ?_; refine ⟨?_,?_,?_⟩ <;> (intro hk; (try dsimp only at hk); first | exact hk.1.elim | exact hk.2.elim | omega))) ?_
 refine xz hS5 (by omega) (by omega) ?_
 intro s6 hst6 hsc6 hS6
 first | replace hn1:=hst6.at hn1 (by omega) | replace hn1:=hst6.self
 first | replace hn2:=hst6.at hn2 (by omega) | replace hn2:=hst6.self
 first | replace hn3:=hst6.at hn3 (by omega) | replace hn3:=hst6.self
 first | replace hn4:=hst6.at hn4 (by omega) | replace hn4:=hst6.self
 first | replace hn5:=hst6.at hn5 (by omega) | replace hn5:=hst6.self
 refine uX ?_
 dsimp only [aj]
 have hn4:s6.h.get s3.c = some (.cells m5 ((obs.map cX).flatten.map imX)):=hn4
 have hn5:s6.h.get s4.c = some (.cells cK [.sl s3.c 4 0 (obs.map cX).length,.im 1 (rts.map eX)]):=hn5
 have hcl:((obs.map cX).flatten.map imX).length = obs.length * 4:=by rw [List.length_map,p7]
 have hatl:at_ < (obs.map cX).length:=by rw [List.length_map]; exact hat
 generalize (obs.map cX).flatten.map imX = cl at hn4 hcl
 have h4:0 + at_ * 4 + 3 < cl.length:=by omega
 refine az (aq ?_)
 refine qP ?_
 refine qL ?_
 refine qV ?_
 refine qX ?_
 refine qP ?_
 refine qT ?_
 refine t8 hS6 (by omega) (by omega) ?_
 intro s7 hst7 hsc7 hS7
 first | replace hn2:=hst7.at hn2 (by omega) | replace hn2:=hst7.self
 first | replace hn4:=hst7.at hn4 (by omega) | replace hn4:=hst7.self
 first | replace hn5:=hst7.at hn5 (by omega) | replace hn5:=hst7.self
 refine aQ ?_
 dsimp only [aj]
 refine az (aq ?_)
 refine qA ?_
 refine m9 rfl (MS.storeA (by simp only [evS,Nat.reduceEqDiff,reduceIte,G]; try rfl) (by simp only [evS,Nat.reduceEqDiff,reduceIte,b9,G]; first | done | rfl) (by assumption) rfl (by first | rfl | (simp; done) | omega)) (fun k hk=>by first | exact False.elim hk | (dsimp only at hk ⊢; omega) | omega) ?_
 refine t8 hS7 (by omega) (by omega) ?_
 intro s8 hst8 hsc8 hS8
 first | replace hn2:=hst8.at hn2 (by omega) | replace hn2:=hst8.self
 first | replace hn4:=hst8.at hn4 (by omega) | replace hn4:=hst8.self
 first | replace hn5:=hst8.at hn5 (by omega) | replace hn5:=hst8.self
 refine aQ ?_
 dsimp only [aj]
 have hn2:s8.h.get s1.c = some (.cells cK [.sl s3.c 4 0 (obs.map cX).length,.im 1 (rts.map eX)]):=hn2
 have hlo:=hS8.le
 refine nZ ?_
 refine ⟨.inr rfl,[.agg [.sl s3.c 4 0 (obs.map cX).length,.im 1 (rts.map eX)]],Nat.lor (bit s1.c) 0,?_,fun k hk=>?_,s3.c,by rw [List.length_map]; rfl,hn4⟩
 ·simp only [tz,evS,Nat.reduceEqDiff,reduceIte,E9,hn2,gw]
  rfl
 ·rw [rj] at hk
  have:=cJ k hk; omega
def aPj (o:HO):HO:={ o with refs:=[] }
def xV (obs:List HO) (i:Nat):List HO:=obs.modify i aPj
theorem J5 (obs:List HO) (a i:Nat):(xV obs a)[i]? = obs[i]?.map fun o=>if a = i then aPj o else o:=by
 unfold xV
 rw [List.getElem?_modify]
 rfl
theorem P8:∀ (obs:List HO) (i j:Nat),j < 4→(obs.map cX).flatten[i * 4 + j]? = (obs[i]?).bind fun o=>(cX o)[j]?
 | [],i,j,_=>by simp
 | o :: l,0,j,hj=>by
  rw [zw,List.flatten_cons,List.getElem?_append_left (by show 0 * 4 + j < 4; omega)]
  simp
 | o :: l,i + 1,j,hj=>by
  rw [zw,List.flatten_cons,List.getElem?_append_right (by show 4≤_; omega)]
  have:(i + 1) * 4 + j - (cX o).length = i * 4 + j:=by show (i + 1) * 4 + j - 4 = _; omega
  rw [this,P8 l i j hj]
  rfl
theorem axj {h:Hp} (t:T):TreeX h false (imX t) t:=by
 cases t with
 | sc v=>exact .sc v
 | sl k rows=>exact .im k rows rfl
theorem without_fun {obs:List HO} {rts:List Int} {at_:Nat} (hat:at_ < obs.length) (hsm:obs.length≤60) :
  Fun Try.prog 18 false [] [.agg [.imm (.sl 4 (obs.map cX)),.imm (.sl 1 (rts.map eX))],.c (.imm (tI at_))] aX (.agg [.imm (.sl 4 ((xV obs at_).map cX)),.imm (.sl 1 (rts.map eX))]) aX:=by
 refine mW (orc:=fun _ _ _=>none) aOQ (fun w0 f args s outs r h=>by cases h) (fun f args s outs r h=>by cases h) (us:=[.agg [.im 4 (obs.map cX),.im 1 (rts.map eX)],.c (.sc (.int .i64 at_))]) rfl (ahV (rts:=rts) sb0 hat hsm) fun v s ⟨m,hv,hm⟩=>?_
 subst hv
 have hwl:(xV obs at_).length = obs.length:=List.length_modify ..
 have hfl:=p7 (xV obs at_)
 have hx:TreeX s.h.get false (.sl m 4 0 obs.length) (.sl 4 ((xV obs at_).map cX)):=by
  have:=TreeX.sl (h:=s.h.get) (fresh:=false) m 4 0 ((xV obs at_).map cX) m5 (((obs.map cX).flatten.map imX).set (at_ * 4 + 3) (.sc cV)) (((obs.map cX).flatten.map imX).set (at_ * 4 + 3) (.sc cV)) hm ?_ ?_ ?_ ?_
  ·rw [List.length_map,hwl] at this; exact this
  ·unfold cut
   simp only [List.drop_zero]
   rw [List.take_of_length_le (by rw [vw,List.length_map,List.length_map,p7,hwl]; omega),vw,List.length_map,List.length_map,p7,hwl,Nat.beq_refl]
   rfl
  ·intro row hr
   obtain ⟨o,_,rfl⟩:=yw.1 hr
   rfl
  ·rw [vw,List.length_map,p7,hfl,hwl]
  ·intro q x t hx ht
   have hq:q = q / 4 * 4 + q % 4:=by omega
   have hq4:q % 4 < 4:=Nat.mod_lt _ (by omega)
   rw [hq,P8 _ _ _ hq4] at ht
   rw [hq] at hx
   generalize q / 4 = i at hx ht
   generalize q % 4 = j at hx ht hq4
   obtain ⟨o',ho',ht⟩:=ak.1 ht
   rw [J5] at ho'
   rw [pw] at hx
   by_cases e:at_ * 4 + 3 = i * 4 + j
   ·rw [if_pos e] at hx
    have hij:at_ = i∧j = 3:=by omega
    obtain ⟨rfl,rfl⟩:=hij
    split at hx
    ·cases hx
     obtain ⟨o,_,rfl⟩:=aw.1 ho'
     rw [if_pos rfl] at ht
     cases ht
     exact .nil 1
    ·cases hx
   ·rw [if_neg e,gk,P8 _ _ _ hq4] at hx
    obtain ⟨y,hy,rfl⟩:=aw.1 hx
    obtain ⟨o,ho,hy2⟩:=ak.1 hy
    try clear G
    clear hy
    by_cases e2:at_ = i
    ·subst e2
     rw [ho,qw,if_pos rfl] at ho'
     cases ho'
     match j,hq4,hy2,ht with
     | 0,_,hy,ht=>cases hy; cases ht; exact .sc _
     | 1,_,hy,ht=>cases hy; cases ht; exact .sc _
     | 2,_,hy,ht=>cases hy; cases ht; exact .sc _
     | 3,_,_,_=>exact absurd rfl e
    ·rw [ho,qw,if_neg e2] at ho'
     cases ho'
     rw [hy2] at ht
     cases ht
     exact axj _
 exact ⟨rfl,fun j c y hc hy=>by
  match j,hc,hy with
  | 0,hc,hy=>cases hc; cases hy; exact ⟨_,rfl,hx⟩
  | 1,hc,hy=>cases hc; cases hy; exact ⟨_,rfl,.im _ _ rfl⟩⟩
end Go.RM
namespace Go.RM
open Go.VM (T lJ tI Pt Fr RepT Fun aX aZ Oid)
open Go Go.Proofs Go.Proofs.Ytliccamocpglcaa
structure RowsB (h:Hp) (own:Nat→Option Nat) (na:Nat) (ls:List (List Bool)) (xs:List X):Prop where
 arr:h na = some (.cells L7 xs)
 len:xs.length = ls.length
 row:∀ (i:Nat) x l,xs[i]? = some x→ls[i]? = some l→(x = .sc cV∧l = [])∨∃ n,x = .sl n 1 0 l.length∧h n = some (.cells w8 (l.map bI))∧own n = some i
theorem RowsB.upd {h h':Hp} {own own':Nat→Option Nat} {na:Nat} {ls:List (List Bool)} {xs:List X} (hR:RowsB h own na ls xs) {i nn:Nat} {v:Bool} {l:List Bool} (hl:ls[i]? = some l) (ha:h' na = some (.cells L7 (xs.set i (.sl nn 1 0 (l.length + 1))))) (hn:h' nn = some (.cells w8 ((l++[v]).map bI))) (ho:own' nn = some i)
  (hk:∀ n j,j ≠ i→own n = some j→h' n = h n∧own' n = some j):RowsB h' own' na (ls.set i (l++[v])) (xs.set i (.sl nn 1 0 (l.length + 1))):=by
 have hil:i < ls.length:=(cw.1 hl).1
 refine ⟨ha,by rw [vw,vw]; exact hR.len,fun j x l' hx hl'=>?_⟩
 rw [pw] at hx hl'
 by_cases e:i = j
 ·rw [if_pos e,if_pos (by rw [hR.len]; exact hil)] at hx
  rw [if_pos e,if_pos hil] at hl'
  cases hx; cases hl'
  subst e
  exact .inr ⟨nn,by rw [tk]; rfl,hn,ho⟩
 ·rw [if_neg e] at hx hl'
  rcases hR.row j x l' hx hl' with h1 | ⟨n,h1,h2,h3⟩
  ·exact .inl h1
  ·obtain ⟨k1,k2⟩:=hk n j (Ne.symm e) h3
   exact .inr ⟨n,h1,k1.trans h2,k2⟩
theorem RowsB.keep {h h':Hp} {own:Nat→Option Nat} {na:Nat} {ls:List (List Bool)} {xs:List X} (hR:RowsB h own na ls xs) (ha:h' na = h na) (hk:∀ n i,own n = some i→h' n = h n):RowsB h' own na ls xs :=
 ⟨ha.trans hR.arr,hR.len,fun i x l h1 h2=>by
  rcases hR.row i x l h1 h2 with h3 | ⟨n,h3,h4,h5⟩
  ·exact .inl h3
  ·exact .inr ⟨n,h3,(hk n i h5).trans h4,h5⟩⟩
def aRV (all rest:List Int) (n:Nat):List Bool:=(List.range n).map fun k=>decide (0 < all.getD k 0) && decide (rest.getD k 0 = 0)
def aTz (all:List Int) (rest:Nat→List Int) (n:Nat):List (List Bool):=(List.range n).map fun j=>aRV all (rest j) n
structure DomD (b hb ma no:Nat) (obs:List HO) (rts:List Int) (all:List Int) (own:Nat→Option Nat) (ls:List (List Bool)) (xs:List X) (s:S):Prop where
 sb:Sb b s
 e1:s.h.get hb = some (.cells cK [.im 4 (obs.map cX),.im 1 (rts.map eX)])
 ea:s.h.get ma = some (.cells cq (all.map sI))
 rows:RowsB s.h.get own no ls xs
 owned:∀ q j,own q = some j→b≤q∧q < s.c∧q ≠ hb∧q ≠ ma∧q ≠ no
 ne:no ≠ hb∧no ≠ ma
 le:b≤hb∧b≤ma∧b≤no
theorem DomD.keep {b hb ma no:Nat} {obs:List HO} {rts:List Int} {all:List Int} {own:Nat→Option Nat} {ls:List (List Bool)} {xs:List X} {s s':S} (h:DomD b hb ma no obs rts all own ls xs s) (hS:Sb b s') (hc:s.c≤s'.c) (hk:∀ k,k < s.c→s'.h.get k = s.h.get k):DomD b hb ma no obs rts all own ls xs s' :=
 ⟨hS,(hk _ (h.sb.lt h.e1)).trans h.e1,(hk _ (h.sb.lt h.ea)).trans h.ea,h.rows.keep (hk _ (h.sb.lt h.rows.arr)) (fun n i hn=>hk n (h.owned n i hn).2.1),fun q j hq=>let ⟨a1,a2,a3,a4,a5⟩:=h.owned q j hq; ⟨a1,wk a2 hc,a3,a4,a5⟩,h.ne,h.le⟩
theorem RowsB.toN {h:Hp} {own:Nat→Option Nat} {na:Nat} {ls:List (List Bool)} {xs:List X} (hR:RowsB h own na ls xs) {i:Nat} {x:X} {l:List Bool} (hx:xs[i]? = some x) (hl:ls[i]? = some l) (d:Nat):∃ n,RowN h w8 x (l.map bI) n∧(own n = some i∨n = d):=by
 rcases hR.row i x l hx hl with ⟨h1,h2⟩ | ⟨n,h1,h2,h3⟩
 ·exact ⟨d,.inl ⟨h1,by rw [h2]; rfl⟩,.inr rfl⟩
 ·exact ⟨n,.inr ⟨by rw [List.length_map]; exact h1,h2⟩,.inl h3⟩
end Go.RM
namespace Go.RM
open Go.VM (T lJ tI Pt Fr RepT Fun aX aZ Oid)
open Go Go.Proofs Go.Proofs.Ytliccamocpglcaa
theorem withoutF_map {α:Type} (f:α→HO) (c:α→α) (g:α→List T) (hg:∀ a,cX (f a) = g a) (hc:∀ a,aPj (f a) = f (c a)) (l:List α) (i:Nat):(xV (l.map f) i).map cX = (l.modify i c).map g:=by
 apply List.ext_getElem?
 intro j
 rw [gk,J5,gk,gk,List.getElem?_modify]
 cases l[j]? with
 | none=>rfl
 | some o =>
  by_cases e:i = j
  ·simp only [qw,if_pos e,Functor.map,hc,hg]
  ·simp only [qw,if_neg e,Functor.map,hg]
open Classical in
section
variable {dist:Int→Option (List Int)} {obs:List HO} {rts:List Int}
end
def ajX (dist:Int→Option (List Int)) (n:Nat):Option (List (List Bool)) :=
 (dist (-1)).bind fun all=>bif decide (n≤60) && decide (all.length = n) && (List.range n).all (fun i=>match dist (i:Int) with
  | some l=>decide (l.length = n)
  | none=>false) then some (aTz all (fun i=>(dist (i:Int)).getD []) n) else none
end Go.RM
