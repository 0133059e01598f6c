/- What slices.Sorted makes of what slices.Values hands back. -/
import Derived.Test.YtkemjaomoopdnaaGreatRaw
import Derived.Shelf.SortM.Plain
import Derived.Shelf.SortM.SortNone
import Derived.Ground.SlgmProg
import Derived.Test.YtkemjaomoopdnaaGreatRows
import Derived.RangeFuncBox
import Derived.RangeFuncLeaves
import Derived.Shelf.Abstract
import Derived.WalkKit
import Derived.OwnWalkIn
import Derived.TacticsInMore
import Derived.LoopNIn
import Derived.LoopIn
import Derived.Maps.AppendAt
import Derived.KernelRfl
import Derived.Shelf.SlIterI.Sorted
namespace Go.VM
open Go.Proofs Go.Proofs.YtkemjaomoopdnaaGreat
open Go.Shelf
def axJ:Go.Shelf.Ren:=⟨fun | 5=>116 | 8=>136 | 7=>135 | 19=>161 | 20=>137 | 10=>152 | 11=>153 | 12=>154 | 13=>155 | 14=>156 | 15=>157 | 16=>158 | 17=>159 | 18=>160 | 30=>165 | 31=>166 | 32=>167 | 33=>168 | 34=>169 | 35=>150 | 40=>171 | n=>n,fun | 23=>48 | 25=>3 | 3=>3 | 32=>170 | 22=>48 | 0=>0 | 44=>198 | 46=>95 | 4=>4 | 36=>192 | 35=>191 | 41=>64 | 5=>5 | 9=>9 | 53=>199 | 57=>203 | 63=>205 | 64=>206 | n=>n,fun | n=>n⟩
theorem aOj:Go.Proofs.SlLaysM.n5 Tryz.prog axJ:={
 mixed:=by kernel_rfl
 f5:=⟨Tryz.f116.name,by decide,Tryz.func116.trans (congrArg some (by kernel_rfl))⟩
 f7:=⟨Tryz.f135.name,by decide,Tryz.func135.trans (congrArg some (by kernel_rfl))⟩
 f8:=Tryz.func136.trans (congrArg some (by kernel_rfl))
 f10:=⟨Tryz.f152.name,by decide,Tryz.func152.trans (congrArg some (by kernel_rfl))⟩
 f11:=⟨Tryz.f153.name,by decide,Tryz.func153.trans (congrArg some (by kernel_rfl))⟩
 f12:=⟨Tryz.f154.name,by decide,Tryz.func154.trans (congrArg some (by kernel_rfl))⟩
 f13:=⟨Tryz.f155.name,by decide,Tryz.func155.trans (congrArg some (by kernel_rfl))⟩
 f14:=⟨Tryz.f156.name,by decide,Tryz.func156.trans (congrArg some (by kernel_rfl))⟩
 f15:=⟨Tryz.f157.name,by decide,Tryz.func157.trans (congrArg some (by kernel_rfl))⟩
 f16:=⟨Tryz.f158.name,by decide,Tryz.func158.trans (congrArg some (by kernel_rfl))⟩
 f17:=⟨Tryz.f159.name,by decide,Tryz.func159.trans (congrArg some (by kernel_rfl))⟩
 f18:=⟨Tryz.f160.name,by decide,Tryz.func160.trans (congrArg some (by kernel_rfl))⟩
 f19:=Tryz.func161.trans (congrArg some (by kernel_rfl))
 f20:=Tryz.func137.trans (congrArg some (by kernel_rfl))
 f30:=⟨Tryz.f165.name,by decide,Tryz.func165.trans (congrArg some (by kernel_rfl))⟩
 f31:=Tryz.func166.trans (congrArg some (by kernel_rfl))
 f32:=Tryz.func167.trans (congrArg some (by kernel_rfl))
 f33:=⟨Tryz.f168.name,by decide,Tryz.func168.trans (congrArg some (by kernel_rfl))⟩
 f34:=⟨Tryz.f169.name,by decide,Tryz.func169.trans (congrArg some (by kernel_rfl))⟩
 f35:=⟨Tryz.f150.name,by decide,Tryz.func150.trans (congrArg some (by kernel_rfl))⟩
 f40:=⟨Tryz.f171.name,by decide,Tryz.func171.trans (congrArg some (by kernel_rfl))⟩
 t0:=Tryz.underlying0
 a0:=Tryz.isAgg0
 z0:=Tryz.sizeOf0
 v0:=Tryz.zeroValue0
 t3:=Tryz.underlying3
 a3:=Tryz.isAgg3
 z3:=Tryz.sizeOf3
 v3:=Tryz.zeroValue3
 t4:=Tryz.underlying4
 a4:=Tryz.isAgg4
 z4:=Tryz.sizeOf4
 v4:=Tryz.zeroValue4
 t5:=Tryz.underlying5
 a5:=Tryz.isAgg5
 z5:=Tryz.sizeOf5
 v5:=Tryz.zeroValue5
 t9:=Tryz.underlying9
 a9:=Tryz.isAgg9
 z9:=Tryz.sizeOf9
 v9:=Tryz.zeroValue9
 t22:=Tryz.underlying48
 a22:=Tryz.isAgg48
 z22:=Tryz.sizeOf48
 v22:=Tryz.zeroValue48
 t23:=Tryz.underlying48
 a23:=Tryz.isAgg48
 z23:=Tryz.sizeOf48
 v23:=Tryz.zeroValue48
 t25:=Tryz.underlying3
 a25:=Tryz.isAgg3
 z25:=Tryz.sizeOf3
 v25:=Tryz.zeroValue3
 t32:=Tryz.underlying170
 a32:=Tryz.isAgg170
 z32:=Tryz.sizeOf170
 v32:=Tryz.zeroValue170
 t35:=Tryz.underlying191
 a35:=Tryz.isAgg191
 z35:=Tryz.sizeOf191
 v35:=Tryz.zeroValue191
 t36:=Tryz.underlying192
 a36:=Tryz.isAgg192
 z36:=Tryz.sizeOf192
 v36:=Tryz.zeroValue192
 t41:=Tryz.underlying64
 a41:=Tryz.isAgg64
 z41:=Tryz.sizeOf64
 v41:=Tryz.zeroValue64
 t44:=Tryz.underlying198
 a44:=Tryz.isAgg198
 z44:=Tryz.sizeOf198
 v44:=Tryz.zeroValue198
 t46:=Tryz.underlying95
 a46:=Tryz.isAgg95
 z46:=Tryz.sizeOf95
 v46:=Tryz.zeroValue95
 t53:=Tryz.underlying199
 a53:=Tryz.isAgg199
 z53:=Tryz.sizeOf199
 v53:=Tryz.zeroValue199
 t57:=Tryz.underlying203
 a57:=Tryz.isAgg203
 z57:=Tryz.sizeOf203
 v57:=Tryz.zeroValue203
 t63:=Tryz.underlying205
 a63:=Tryz.isAgg205
 z63:=Tryz.sizeOf205
 v63:=Tryz.zeroValue205
 t64:=Tryz.underlying206
 a64:=Tryz.isAgg206
 z64:=Tryz.sizeOf206
 v64:=Tryz.zeroValue206}
end Go.VM
namespace Go.VM
open Go Go.Proofs Go.Proofs.YtkemjaomoopdnaaGreat Go.RowKit Go.Shelf
attribute [local go_sem] Oper.semAt_some
def aMZ:Value→Int
 | .int _ q=>q
 | _=>0
def xJ(f:Nat→Int)(k:Nat):List Int:=(List.range k).map f
theorem SW(f:Nat→Int)(k:Nat):xJ f (k+1)=xJ f k++[f k]:=by simp[xJ,List.range_succ]
theorem ZY(f:Nat→Int)(k:Nat):(xJ f k).length=k:=by simp[xJ]
theorem atV(zs:List Int):xJ (fun j=>zs[j]?.getD 0) zs.length=zs:=by
 apply List.ext_getElem
 ·simp[xJ]
 ·intro i h1 h2
  simp[xJ,h2]
theorem ajY(zs:List Int){k:Nat}(hk:k≤zs.length):xJ (fun j=>zs[j]?.getD 0) k=zs.take k:=by
 apply List.ext_getElem
 ·simp[xJ,hk]
 ·intro i h1 h2
  have:i<zs.length:=by simp[xJ]at h1;omega
  simp[xJ,this]
set_option maxRecDepth 100000 in
set_option maxHeartbeats 2000000 in
theorem ayx(F:Fence)(n:Nat)(h7:F.fn 117)(hro:F.round=none)(hn:1≤n)(l Bs n₀ b off len cap:Nat)(zs:List Int)(hreach:len*8≤140737488351232)(hb:b<n₀)(J Jx:List Int→World→Prop)
  (hY:∀pre x W,J pre W→pre.length<len→YieldAt F (n-1) Tryz.prog l #[.int .i64 x] W fun e W' =>
   (e = .returned (.bool true)∧J (pre++[x]) W'∧Below n₀ W W')∨(e = .returned (.bool false)∧Jx (pre++[x]) W'))
  (W:World) (hBs:W.cell? ⟨Bs,0,none⟩=some (.slice (some ⟨b,off,none⟩) len cap)) (hc:∀j,j<len→W.cell? ⟨b,off+j,none⟩=some (.int .i64 (zs[j]?.getD 0))) (h0:J [] W) :
  CallsIn F n Tryz.prog 117 #[.func (.yield l) #[] #[],.pointer (some ⟨Bs,0,none⟩)] W fun e W'=>(∃v,e = .returned v) ∧
   ((∃ys,ys=xJ (fun j=>zs[j]?.getD 0) len∧J ys W')∨(∃pre,(∃k,k≤len∧pre=xJ (fun j=>zs[j]?.getD 0) k)∧Jx pre W')):=by
 refine callsIn_of_wp Tryz.func117 rfl h7 ?_ hro
 simp only[Tryz.ntmps117,List.size_toArray,List.length_cons,List.length_nil,Nat.reduceAdd,Nat.reduceSub,Array.replicate_succ,Array.replicate_zero,List.push_toArray,List.append_toArray,List.nil_append,List.cons_append]
 gi_wp2
 gi_loopw [7] (fun i wr=>∃k:Nat,k≤len∧i = .int .i64 k∧J (xJ (fun j=>zs[j]?.getD 0) k) wr∧Below n₀ W wr)
  (fun i _=>len-(aMZ i).toNat)
 case atStart=>exact⟨0,Nat.zero_le _,rfl,h0,Below.refl _ _⟩
 case round =>
  obtain⟨k,hk,rfl,hJs,hnx⟩:=hrel
  have hcx:k<len→wr.cell? ⟨b,off+k,none⟩=some (.int .i64 (zs[k]?.getD 0)):=fun h=>(hnx.cell (p:=⟨b,off+k,none⟩) hb).trans (hc k h)
  by_cases hlt:k<len
  ·obtain⟨fn,tmps,assign,body,hy,hR⟩:=hY _ (zs[k]?.getD 0) wr hJs (by rw[ZY];exact hlt)
   have hcx':=hcx hlt
   gi_wp2
   refine hR.mono ?_
   rintro e W3 (⟨rfl,hJ3,hk3⟩ | ⟨rfl,hJx3⟩)
   ·gi_wp2
    go_roundw
    case rel=>exact⟨k+1,by omega,by simp,by rw[SW];exact hJ3,hnx.trans hk3⟩
    case measure=>simp[aMZ];omega
   ·gi_wp2
    refine bodyPost_ret (results_none rfl _ _ _) rfl ?_
    exact⟨⟨_,rfl⟩,.inr ⟨_,⟨k+1,by omega,(SW _ _).symm⟩,hJx3⟩⟩
  ·obtain rfl:k=len:=by omega
   gi_wp2
   go_end0
   exact⟨⟨_,rfl⟩,.inl ⟨_,rfl,hJs⟩⟩
def SrtInts(n₀:Nat)(W:World)(sv:Value)(zs:List Int):Prop :=
 (∃a cap,sv = .slice a 0 cap∧zs=[])∨∃b off cap,sv = .slice (some ⟨b,off,none⟩) zs.length cap∧b<n₀∧∀j,j<zs.length→W.cell? ⟨b,off+j,none⟩=some (.int .i64 (zs[j]?.getD 0))
theorem SrtInts.below{n₀:Nat}{A B:World}(h:Below n₀ A B){sv:Value}{zs:List Int}:SrtInts n₀ A sv zs→SrtInts n₀ B sv zs
 | .inl e=>.inl e
 | .inr ⟨b,off,cap,e,hb,hc⟩=>.inr ⟨b,off,cap,e,hb,fun j hj=>(h.cell (p:=⟨b,off+j,none⟩) hb).trans (hc j hj)⟩
set_option maxRecDepth 100000 in
set_option maxHeartbeats 1000000 in
theorem acx(F:Fence)(n:Nat)(h7:F.fn 117)(hro:F.round=none)(l Bs:Nat)(a:Option Addr)(cap:Nat)(J:List Int→World→Prop)(W:World)(hBs:W.cell? ⟨Bs,0,none⟩=some (.slice a 0 cap))(h0:J [] W) :
  CallsIn F n Tryz.prog 117 #[.func (.yield l) #[] #[],.pointer (some ⟨Bs,0,none⟩)] W fun e W'=>(∃v,e = .returned v)∧J [] W':=by
 refine callsIn_of_wp Tryz.func117 rfl h7 ?_ hro
 simp only[Tryz.ntmps117,List.size_toArray,List.length_cons,List.length_nil,Nat.reduceAdd,Nat.reduceSub,Array.replicate_succ,Array.replicate_zero,List.push_toArray,List.append_toArray,List.nil_append,List.cons_append]
 gi_wp2
 gi_loopw [7] (fun i wr=>i = .int .i64 0∧J [] wr) (fun _ _=>0)
 case atStart=>exact⟨rfl,h0⟩
 case round =>
  obtain⟨rfl,hJs⟩:=hrel
  gi_wp2
  go_end0
  exact⟨⟨_,rfl⟩,hJs⟩
theorem aJK(F:Fence)(n:Nat)(h7:F.fn 117)(hro:F.round=none)(hn:1≤n)(Bs n₀:Nat)(sv:Value)(zs:List Int)(hreach:zs.length*8≤140737488351232)(w:World)(hBs:Bs<w.heap.size)(hn₀:n₀≤w.heap.size)
  (hc:w.cell? ⟨Bs,0,none⟩=some sv) (hI:SrtInts n₀ w sv zs) :
  SeqStopsK F n Tryz.prog 117 #[.pointer (some ⟨Bs,0,none⟩)] (fun x:Int=>#[Value.int .i64 x]) (Below n₀) (fun ys=>ys=zs) (fun pre=>pre <+: zs) zs.length w:=fun l J Jx W hW _ _ hY h0=>by
 have hc':=(hW.cell (p:=⟨Bs,0,none⟩) hBs).trans hc
 rcases hI.below (hW.mono hn₀)with⟨a,cap,rfl,rfl⟩ | ⟨b,off,cap,rfl,hb,hcs⟩
 ·exact(acx F n h7 hro l Bs a cap J W hc' h0).mono fun e W' ⟨he,hj⟩=>⟨he,.inl ⟨_,rfl,hj⟩⟩
 ·refine(ayx F n h7 hro hn l Bs n₀ b off zs.length cap zs hreach hb J Jx hY W hc' hcs h0).mono ?_
  rintro e W' ⟨he,⟨ys,rfl,hj⟩ | ⟨pre,⟨k,hk,rfl⟩,hj⟩⟩
  ·exact⟨he,.inl ⟨_,atV zs,hj⟩⟩
  ·exact⟨he,.inr ⟨_,by rw[ajY zs hk];exact List.take_prefix _ _,hj⟩⟩
theorem aTq:(Tryz.prog.info? 3).map (fun i=>(i.zero,i.size,i.bytes))=some (some (.int .i64 0),1,8):=by kernel_rfl
theorem aIV:Tryz.prog.underlying 48=some (.slice 3):=by kernel_rfl
set_option maxRecDepth 100000 in
set_option maxHeartbeats 2000000 in
theorem aGV(F:Fence)(n:Nat)(hA:F.fn 134)(hG:F.fn 117)(hro:F.round=none)(hn:2≤n)(Bs:Nat)(sv:Value)(zs:List Int)(hlen:zs.length≤maxLen)(hbytes:zs.length*8≤140737488351232)(w:World)(hBs:Bs<w.heap.size)
  (hcs:w.cell? ⟨Bs,0,none⟩=some sv) (hI:SrtInts w.heap.size w sv zs) :
  CallsIn F n Tryz.prog 134 #[.slice none 0 0,.func (.func 117) #[] #[.pointer (some ⟨Bs,0,none⟩)]] w fun e W'=>∃v,e = .returned v∧W'.ownsRow w.heap.size 3 1 v zs.length (zs.map (Value.int .i64))∧(v = .slice none 0 0↔zs=[])∧Below w.heap.size w W':=by
 have h1:1≤n:=by omega
 obtain⟨i0,hi,hz0,hz1,hz2⟩:=info_parts aTq
 refine callsIn_of_wp_marks Tryz.func134 rfl hA ?_ hro
 simp only[Tryz.ntmps134,List.size_toArray,List.length_cons,List.length_nil,Nat.reduceAdd,Nat.reduceSub,Array.replicate_succ,Array.replicate_zero,List.push_toArray,List.append_toArray,List.nil_append,List.cons_append]
 gi_wp2
 have bO:=Boxed.new w 48 (.slice none 0 0)
 have hB0:Below w.heap.size w (w.alloc (.cells #[.slice none 0 0] 48)):=(Below.refl _ w).alloc (kw _) _
 refine wpIn_rangeFunc_ownG hro h1 (gf:=117) (lb:=#[.pointer (some ⟨Bs,0,none⟩)]) rfl hG (enters_of Tryz.func117 (by kernel_rfl) rfl)
  (aJK F (n-1) hG hro (by omega) Bs w.heap.size sv zs hbytes _ (by simp;omega) (by simp) ((hB0.cell (p:=⟨Bs,0,none⟩) hBs).trans hcs) (hI.below hB0)) belowK_t (belowK_b (by simp)) (Below.refl _ _) (fun _=>rfl)
  (fun pre W=>(∃v,Boxed W w.heap.size 48 v∧W.ownsRow w.heap.size 3 1 v pre.length (pre.map (Value.int .i64))∧(v = .slice none 0 0↔pre=[]))∧Below w.heap.size w W)
  (fun _ _ _=>False)
  (OwnFrom.and (Own.from (holdsRow_own w.heap.size w.heap.size 48 3 1 (fun pre=>pre.length) (fun pre=>pre.map (Value.int .i64)) (fun pre v=>v = .slice none 0 0↔pre=[])) _) (ownFrom_below (kw _) (by simp)))
  (fun _ _ _ _ _ hs _ _=>hs)
  ⟨⟨_,bO,World.ownsRow_nil _ _ _ _,by simp⟩,hB0⟩
  (fun x=>{tmps:=#[.slice none 0 0,.func (.func 117) #[] #[.pointer (some ⟨Bs,0,none⟩)],.pointer (some ⟨w.heap.size,0,none⟩),undef,.slice none 0 0,.int .i64 x,.func (.func 117) #[] #[.pointer (some ⟨Bs,0,none⟩)],.int .i64 x,undef,undef,undef,undef,undef],defers:=[]}) ?assign ?body ?done ?stop
 case assign =>
  intro l x W K hK
  gi_wp2
  exact hK
 case body =>
  rintro l pre x W ⟨⟨v,hv,hrow,hnil⟩,hB⟩ hlt
  have hc:=hv.cell
  gi_wp2_with (gi_at_builtin;refine wpListIn_append_own _ rfl _ _ 48 rfl w.heap.size 3 i0 (.int .i64 0) 1 8 aIV hi hz0 hz1 hz2 rfl (by decide) _ _ _ rfl (hrow.alloc _) ⟨W.heap.size,0,none⟩ 1 1 [.int .i64 x] rfl rfl (cell_one_new _ _ _) (by simp[Value.oneCell']) (by omega) (by omega) (by have:=hB.size;simp;omega) ?_;intro v' w1 hown' hgrow _;obtain⟨g',cap',rfl⟩:=ownsRow_succ hown';obtain⟨hv1,hv2,hr2,hk2,hb2⟩:=hv.appended (by decide) hrow hB.size (kw _) hown' hgrow;have hc1:=hv1.cell;have hf1:=hv1.frozen)
  exact⟨hk2.from _,hb2,⟨_,hv2,by simpa using hr2,by simp⟩,hB.trans hb2⟩
 case done =>
  rintro D ys W hD rfl ⟨⟨v,hv,hrow,hnil⟩,hB⟩ hK
  have hc:=hv.cell
  gi_wp2
  refine⟨by simp,.inl ⟨_,_,rfl,run_takeDeferred hK,?_⟩⟩
  exact⟨_,results_tmp rfl _ _ _,v,rfl,ownsRow_putObj hrow _ hK rfl,hnil,hB.trans (belowK_b (w:=w) (kw _) W D _ _ (by simp at hD;omega) hK rfl rfl)⟩
 case stop =>
  rintro D c pre W _ _ h _
  exact h.elim
set_option maxHeartbeats 1000000 in
theorem avz(F:Fence)(n:Nat)(hC:F.fn 115)(hA:F.fn 134)(hG:F.fn 117)(hro:F.round=none)(hn:3≤n)(Bs:Nat)(sv:Value)(zs:List Int)(hlen:zs.length≤maxLen)(hbytes:zs.length*8≤140737488351232)(w:World)(hBs:Bs<w.heap.size)
  (hcs:w.cell? ⟨Bs,0,none⟩=some sv) (hI:SrtInts w.heap.size w sv zs) :
  CallsIn F n Tryz.prog 115 #[.func (.func 117) #[] #[.pointer (some ⟨Bs,0,none⟩)]] w fun e W'=>∃v,e = .returned v∧W'.ownsRow w.heap.size 3 1 v zs.length (zs.map (Value.int .i64))∧(v = .slice none 0 0↔zs=[])∧Below w.heap.size w W':=by
 have h1:1≤n:=by omega
 refine callsIn_of_wp Tryz.func115 rfl hC ?_ hro
 simp only[Tryz.ntmps115,List.size_toArray,List.length_cons,List.length_nil,Nat.reduceAdd,Nat.reduceSub,Array.replicate_succ,Array.replicate_zero,List.push_toArray,List.append_toArray,List.nil_append,List.cons_append]
 gi_wp2_with (gi_at_call 134;refine(aGV F (n-1) hA hG hro (by omega) Bs sv zs hlen hbytes _ hBs hcs hI).mono ?_;rintro e w' ⟨v,rfl,hrow,hnil,hb⟩)
 go_ret
 exact⟨v,rfl,hrow,hnil,hb⟩
end Go.VM
namespace Go.VM
open Go Go.Proofs Go.Proofs.YtkemjaomoopdnaaGreat Go.RowKit Go.Shelf Go.Sort
def ayQ(x:Int):List Int→List Int
 | []=>[x]
 | y::ys=>if x≤y then x::y::ys else y::ayQ x ys
def yJ:List Int→List Int
 | []=>[]
 | x::xs=>ayQ x (yJ xs)
theorem U1(x:Int):∀ys:List Int,(ayQ x ys).Perm (x::ys)
 | []=>List.Perm.refl _
 | y::ys=>by
  simp only[ayQ]
  split
  ·exact List.Perm.refl _
  ·exact((U1 x ys).cons y).trans (List.Perm.swap x y ys)
theorem xK:∀zs:List Int,(yJ zs).Perm zs
 | []=>List.Perm.refl _
 | x::xs=>(U1 x (yJ xs)).trans ((xK xs).cons x)
theorem W1(x:Int):∀ys:List Int,ys.Pairwise (·≤·)→(ayQ x ys).Pairwise (·≤·)
 | [],_=>by simp[ayQ]
 | y::ys,h=>by
  simp only[ayQ]
  have h':=List.pairwise_cons.1 h
  split
  ·rename_i hxy
   refine List.pairwise_cons.2 ⟨fun z hz=>?_,h⟩
   rcases mw.1 hz with rfl | hz
   ·exact hxy
   ·have:=h'.1 z hz;omega
  ·rename_i hxy
   refine List.pairwise_cons.2 ⟨fun z hz=>?_,W1 x ys h'.2⟩
   rcases mw.1 ((U1 x ys).mem_iff.1 hz)with rfl | hz
   ·omega
   ·exact h'.1 z hz
theorem GX:∀zs:List Int,(yJ zs).Pairwise (·≤·)
 | []=>List.Pairwise.nil
 | x::xs=>W1 x _ (GX xs)
theorem QK:∀a b:List Int,a.Perm b→a.Pairwise (·≤·)→b.Pairwise (·≤·)→a=b
 | [],b,h,_,_=>(List.nil_perm.1 h).symm▸rfl
 | x::a,[],h,_,_=>by have:=h.length_eq;simp at this
 | x::a,y::b,h,ha,hb=>by
  have ha':=List.pairwise_cons.1 ha
  have hb':=List.pairwise_cons.1 hb
  have h1:x≤y:=by
   rcases mw.1 (h.mem_iff.2 (List.mem_cons_self:y ∈ y::b))with e | e
   ·omega
   ·exact ha'.1 y e
  have h2:y≤x:=by
   rcases mw.1 (h.mem_iff.1 (List.mem_cons_self:x ∈ x::a))with e | e
   ·omega
   ·exact hb'.1 x e
  obtain rfl:x=y:=by omega
  rw[QK a b h.cons_inv ha'.2 hb'.2]
theorem atZ(zs:List Int):zs.mergeSort (fun x y=>decide (x≤y))=yJ zs:=by
 refine QK _ _ ((List.mergeSort_perm zs _).trans (xK zs).symm) ?_ (GX zs)
 have:=List.pairwise_mergeSort (le:=fun x y:Int=>decide (x≤y)) (fun a b c h1 h2=>by simp at *;omega) (fun a b=>by simp;omega) zs
 exact this.imp (fun h=>by simpa using h)
set_option maxHeartbeats 1000000 in
theorem aFQ(Bs:Nat)(sv:Value)(zs:List Int)(hlen:zs.length≤maxLen)(hbytes:zs.length*8≤140737488351232)(w:World)(hBs:Bs<w.heap.size)(hcs:w.cell? ⟨Bs,0,none⟩=some sv)(hI:SrtInts w.heap.size w sv zs) :
  Calls Tryz.prog 79 #[.func (.func 117) #[] #[.pointer (some ⟨Bs,0,none⟩)]] w fun e W'=>∃v,e = .returned v∧W'.ownsRow w.heap.size 3 1 v zs.length ((yJ zs).map (Value.int .i64))∧(∃a l c,v = .slice a l c)∧Below w.heap.size w W':=by
 refine(callsIn_wide (n:=6)).1 ?_
 have hfC:Fence.wide.fn 115:=trivial
 have hfQ:Fence.wide.fn 116:=trivial
 have h1:1≤6:=by omega
 refine callsIn_of_wp Tryz.func79 rfl trivial ?_ rfl
 simp only[Tryz.ntmps79,List.size_toArray,List.length_cons,List.length_nil,Nat.reduceAdd,Nat.reduceSub,Array.replicate_succ,Array.replicate_zero,List.push_toArray,List.append_toArray,List.nil_append,List.cons_append]
 gi_wp2_with (gi_at_call 115;refine(avz Fence.wide 5 trivial trivial trivial rfl (by omega) Bs sv zs hlen hbytes _ hBs hcs hI).mono ?_;rintro e W ⟨v,rfl,hrow,hnil,hb⟩)
 rcases hrow.2 with⟨rfl,hz⟩ | ⟨gb,cap,cur,rfl,hbase,hgb,r1,r2,r3,r4⟩
 ·have hss:zs=[]:=gk hz
  subst hss
  gi_wp2_with (gi_at_call 116;refine(callsIn_wide.2 (AnyM.slices_Sort_int_none aOj none 0 W)).mono ?_;rintro e w' ⟨rfl,rfl⟩)
  go_ret
  exact⟨.slice none 0 0,rfl,by simpa[yJ]using hrow,⟨_,_,_,rfl⟩,hb⟩
 ·have hH:Holds (Value.int .i64) W gb 0 zs.toArray:=holds_of_block_i hgb (by simpa using r4)
  have hgl:gb<W.heap.size:=(jk.1 hgb).1
  have hsz:zs.length<4611686018427387904:=by omega
  have cS:=AnyM.slices_Sort_int aOj gb 0 cap zs W hH hgl hsz
  change Calls Tryz.prog 116 _ _ _ at cS
  gi_wp2_with (gi_at_call 116;refine(callsIn_wide.2 cS).mono ?_;rintro e w' ⟨rfl,nn,os,rfl⟩)
  go_ret
  exact⟨_,rfl,atZ zs▸ownsRow_sorted_i (by simp) hbase hgb r1 r2 r3,⟨_,_,_,rfl⟩,hb.grown (grownBy_sorted_i _) hb.size (fun j hj=>by cases hj;exact hbase)⟩
theorem auJ{w:World}{ok:Nat→Prop}{sv:Value}{zs:List Int}(hok:∀b,ok b→b<w.heap.size)(h:RepT w ok sv (.sl 1 (zs.map fun x=>[tI x]))):SrtInts w.heap.size w sv zs:=by
 generalize hr:(zs.map fun x=>[tI x])=rows at h
 cases h with
 | nil k a cap =>
  have:zs=[]:=by simpa using hr
  subst this
  exact .inl ⟨a,cap,rfl,rfl⟩
 | sl b off cap k rows f hb hle hk hc hx =>
  subst hr
  refine .inr ⟨b,off,cap,by simp,hok b hb,fun j hj=>?_⟩
  have h1:(zs.map fun x=>[tI x])[j]? = some [tI zs[j]]:=by simp[hj]
  have h2:=hc j [tI zs[j]] 0 (tI zs[j]) h1 rfl
  have h3:=hx j [tI zs[j]] 0 (tI zs[j]) h1 rfl
  cases h3':f j 0<;>rw[h3']at h3<;>cases h3
  rw[h3']at h2
  simpa[hj]using h2
theorem YX{w:World}{base:Nat}{e:TypeId}{k:Nat}{v:Value}{n:Nat}{xs:List Value}(h:w.ownsRow base e k v n xs){b:Nat}(hb:iY v=some b):base≤b:=by
 rcases h.2 with⟨rfl,_⟩ | ⟨g,cap,cur,rfl,hg,_⟩
 ·simp[iY]at hb
 ·simp[iY]at hb;omega
set_option maxHeartbeats 1000000 in
theorem awY(zs:List Int)(hlen:zs.length≤maxLen)(hbytes:zs.length*8≤140737488351232)(o r:Oid)(hor:r≠o) :
  Fun Tryz.prog 79 false [o] [.c (.fn 117 [.ptr o])] (aZ [(o,.box [.imm (.sl 1 (zs.map fun x=>[tI x]))])]) (.c (.slO r)) (aZ [(o,.box [.imm (.sl 1 (zs.map fun x=>[tI x]))]),(r,.arr 3 1 ((yJ zs).map fun x=>[tI x]))]):=by
 intro w ok B args hlt hbl hp ho
 have hor':o≠r:=fun e=>hor e.symm
 have hin:aZ [(o,Ob.box [.imm (.sl 1 (zs.map fun x=>[tI x]))])] o=some (.box [.imm (.sl 1 (zs.map fun x=>[tI x]))]):=by simp[aZ,Heap.put]
 obtain⟨v,rfl⟩ : ∃v,args=[v]:=by
  have:=hp.1
  match args,this with
  | [v],_=>exact⟨v,rfl⟩
 have hv:RepC w ok B v (.fn 117 [.ptr o]):=hp.2 0 v _ rfl rfl
 cases hv with
 | fn f cs caps hc =>
  obtain⟨u,rfl⟩ : ∃u,cs=[u]:=by
   have:=hc.1
   match cs,this with
   | [u],_=>exact⟨u,rfl⟩
  have hu:RepCap w ok B u (.ptr o):=hc.2 0 u _ rfl rfl
  cases hu with
  | ptr _ b hB =>
   have hob:=ho.rep o _ hin
   obtain⟨b',c,t,e1,hb,hcs⟩:=hob
   rw[hB]at e1
   obtain rfl:b=b':=by injection e1 with e1;injection e1 with e1;injection e1
   obtain⟨sv,hc1⟩ : ∃sv,c = #[sv]:=by
    have:=hcs.1
    match c,this with
    | ⟨[sv]⟩,_=>exact⟨sv,rfl⟩
   subst hc1
   have hsv:RepC w ok B sv (.imm (.sl 1 (zs.map fun x=>[tI x]))):=hcs.2 0 sv _ rfl rfl
   cases hsv with
   | imm _ _ hT =>
    have hblt:b<w.heap.size:=(jk.1 hb).1
    have hcell:w.cell? ⟨b,0,none⟩=some sv:=by simp[World.cell?,hb]
    refine(aFQ b sv zs hlen hbytes w hblt hcell (auJ hlt hT)).mono ?_
    rintro e W' ⟨v',rfl,hrow,⟨a,l,c',rfl⟩,hbw⟩
    have hok:∀k,ok k→qY w.heap.size ok W' (fun x=>if x=r then .slice a l c' else B x) (aZ [(o,.box [.imm (.sl 1 (zs.map fun x=>[tI x]))]),(r,.arr 3 1 ((yJ zs).map fun x=>[tI x]))]) k:=by
     intro k hk
     have hkl:=hlt k hk
     refine⟨by have:=hbw.size;omega,fun _=>hk,fun o' ob hg hbk=>?_⟩
     by_cases e1:o'=r
     ·subst e1
      simp only[ik]at hbk
      have:=YX hrow hbk;omega
     ·simp only[if_neg e1]at hbk
      by_cases e2:o'=o
      ·subst e2;exact hbl k hk ⟨o',_,hin,hbk⟩
      ·simp[aZ,Heap.put,e1,e2,noHeap]at hg
    refine⟨_,fun x=>if x=r then .slice a l c' else B x,rfl,⟨hbw.os,hbw.tape,hbw.output,hbw.size,fun k hk _=>hbw.block k hk⟩,RepC.slO r a l c' (by simp),⟨fun o' ob hg=>?_,fun o1 o2 ob1 ob2 k h1 h2 k1 k2=>?_⟩,fun o' ob k hg hbk hkl=>?_,fun o' ho'=>?_⟩
    ·by_cases e1:o'=r
     ·subst e1
      simp[aZ,Heap.put,hor]at hg
      subst hg
      simp only[ik]
      refine⟨by omega,fun row hrw=>?_,(yJ zs).map (Value.int .i64),?_,?_⟩
      ·obtain⟨x,_,rfl⟩:=List.mem_map.1 hrw;rfl
      ·have:=ownsRow_base_a hrow (Nat.zero_le _)
       simpa[(xK zs).length_eq]using this
      ·have hfl:((yJ zs).map fun x=>[tI x]).flatten=(yJ zs).map tI:=by
        induction yJ zs with
        | nil=>rfl
        | cons x l ih=>simp[ih]
       rw[hfl]
       refine⟨by simp,fun j u x hu hx=>?_⟩
       simp only[List.getElem?_map,aw]at hu hx
       obtain⟨y,hy,rfl⟩:=hu
       obtain⟨z,hz,rfl⟩:=hx
       rw[hy]at hz;cases hz
       exact .sc _ rfl
     ·by_cases e2:o'=o
      ·subst e2
       simp[aZ,Heap.put]at hg
       subst hg
       simp only[if_neg e1]
       refine(ho.rep o' _ hin).mono (fun k hk=>hbw.block k (hlt k hk)) hok (fun o'' ho''=>by simp[Ob.refs,C.refs]at ho'') (fun k hk=>?_)
       rw[hB]at hk
       simp[iY]at hk
       subst hk
       exact hbw.block _ hblt
      ·simp[aZ,Heap.put,e1,e2,noHeap]at hg
    ·have key:∀o' ob,aZ [(o,Ob.box [.imm (.sl 1 (zs.map fun x=>[tI x]))]),(r,.arr 3 1 ((yJ zs).map fun x=>[tI x]))] o'=some ob→o'=o∨o'=r:=by
      intro o' ob hg
      by_cases e1:o'=r
      ·exact .inr e1
      ·by_cases e2:o'=o
       ·exact .inl e2
       ·simp[aZ,Heap.put,e1,e2,noHeap]at hg
     rcases key o1 ob1 h1 with rfl | rfl<;>rcases key o2 ob2 h2 with rfl | rfl
     ·rfl
     ·exfalso
      simp only[ik,if_neg hor']at k1 k2
      rw[hB]at k1;simp[iY]at k1
      have:=YX hrow k2;omega
     ·exfalso
      simp only[ik,if_neg hor']at k1 k2
      rw[hB]at k2;simp[iY]at k2
      have:=YX hrow k1;omega
     ·rfl
    ·by_cases e1:o'=r
     ·subst e1
      simp only[ik]at hbk
      have:=YX hrow hbk;omega
     ·simp only[if_neg e1]at hbk
      by_cases e2:o'=o
      ·subst e2;exact⟨o',_,hin,hbk⟩
      ·simp[aZ,Heap.put,e1,e2,noHeap]at hg
    ·simp at ho'
     subst ho'
     simp[hor']
def aNZ(zs:List Int):Bool:=decide (zs.length≤17592186043904)
theorem Zz{zs:List Int}(h:aNZ zs=true):zs.length≤maxLen∧zs.length*8≤140737488351232:=by
 have:=of_decide_eq_true h
 constructor
 ·simp[maxLen];omega
 ·omega
set_option maxHeartbeats 1000000 in
theorem aHQ(a:Option Addr)(len cap:Nat)(w:World) :
  Calls Tryz.prog 80 #[.slice a len cap] w fun e w'=>e = .returned (.func (.func 117) #[] #[.pointer (some ⟨w.heap.size,0,none⟩)])∧w'=w.alloc (.cells #[.slice a len cap] 48):=by
 refine(callsIn_wide (n:=6)).1 ?_
 refine callsIn_of_wp Tryz.func80 rfl trivial ?_ rfl
 simp only[Tryz.ntmps80,List.size_toArray,List.length_cons,List.length_nil,Nat.reduceAdd,Nat.reduceSub,Array.replicate_succ,Array.replicate_zero,List.push_toArray,List.append_toArray,List.nil_append,List.cons_append]
 gi_wp2
 go_ret
 exact⟨rfl,rfl⟩
set_option maxHeartbeats 1000000 in
theorem azQ(zs:List Int)(r:Oid) :
  Fun Tryz.prog 80 false [] [.c (.imm (.sl 1 (zs.map fun x=>[tI x])))] (aZ []) (.c (.fn 117 [.ptr r])) (aZ [(r,.box [.imm (.sl 1 (zs.map fun x=>[tI x]))])]):=by
 intro w ok B args hlt hbl hp ho
 obtain⟨v,rfl⟩ : ∃v,args=[v]:=by
  have:=hp.1
  match args,this with
  | [v],_=>exact⟨v,rfl⟩
 have hv:RepC w ok B v (.imm (.sl 1 (zs.map fun x=>[tI x]))):=hp.2 0 v _ rfl rfl
 cases hv with
 | imm _ _ hT =>
  obtain⟨a,l,c,rfl⟩ : ∃a l c,v = .slice a l c:=by
   generalize hr:(T.sl 1 (zs.map fun x=>[tI x]))=tt at hT
   cases hT with
   | sc _ _=>simp at hr
   | nil k a cap=>exact⟨a,0,cap,rfl⟩
   | sl b off cap k rows f=>exact⟨_,_,_,rfl⟩
  refine(aHQ a l c w).mono ?_
  rintro e W' ⟨rfl,rfl⟩
  have key:∀o' ob,aZ [(r,Ob.box [.imm (.sl 1 (zs.map fun x=>[tI x]))])] o'=some ob→o'=r:=by
   intro o' ob hg
   by_cases e1:o'=r
   ·exact e1
   ·simp[aZ,Heap.put,e1,noHeap]at hg
  have hok:∀k,ok k→qY w.heap.size ok (w.alloc (.cells #[.slice a l c] 48)) (fun x=>if x=r then .pointer (some ⟨w.heap.size,0,none⟩)else B x) (aZ [(r,.box [.imm (.sl 1 (zs.map fun x=>[tI x]))])]) k:=by
   intro k hk
   have hkl:=hlt k hk
   refine⟨by simp;omega,fun _=>hk,fun o' ob hg hbk=>?_⟩
   obtain rfl:=key o' ob hg
   simp[iY]at hbk
   omega
  refine⟨_,fun x=>if x=r then .pointer (some ⟨w.heap.size,0,none⟩)else B x,rfl,Fr.alloc w _ _,RepC.fn 117 [.pointer (some ⟨w.heap.size,0,none⟩)] [.ptr r] ⟨rfl,fun j u x hu hx=>?_⟩,⟨fun o' ob hg=>?_,fun o1 o2 ob1 ob2 k h1 h2 k1 k2=>?_⟩,fun o' ob k hg hbk hkl=>?_,fun o' ho'=>by simp at ho'⟩
  ·cases j with
   | zero =>
    simp at hu hx
    subst hu hx
    exact .ptr r _ (by simp)
   | succ j=>simp at hu
  ·obtain rfl:=key o' ob hg
   simp[aZ,Heap.put]at hg
   subst hg
   simp only[ik]
   refine⟨w.heap.size,#[.slice a l c],48,rfl,World.alloc_heap_new w _,⟨rfl,fun j u x hu hx=>?_⟩⟩
   cases j with
   | zero =>
    simp at hu hx
    subst hu hx
    exact .imm _ _ (hT.mono (fun b hb=>(Fr.alloc w _ fun _=>False).block b (hlt b hb) id) hok)
   | succ j=>simp at hu
  ·rw[key o1 ob1 h1,key o2 ob2 h2]
  ·obtain rfl:=key o' ob hg
   simp[iY]at hbk
   omega
end Go.VM
namespace Go.VM
open Go Go.Proofs Go.Proofs.YtkemjaomoopdnaaGreat Go.RowKit Go.Shelf Go.Sort
end Go.VM
