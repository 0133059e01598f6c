/- What the functions of the law compute, each with its proof. -/
import Derived.Test.YtinhkpcgdfppkaaHx2
import Derived.Test.YtinhkpcgdfppkaaRows
import Derived.KernelRfl
import Derived.Lib.Bytealg
import Derived.Laws.Externs
import Derived.WalkKit
namespace Go.VM
open Go.Proofs Go.Proofs.Ytinhkpcgdfppkaa
open Go.RowKit
set_option maxRecDepth 100000
set_option maxHeartbeats 4000000
structure aIq where
  q6:Int
  j3:Int
  deriving DecidableEq
structure qz where
  w8:Int
  j9:Int
  z5:ByteArray
  x5:Int
  x6:Int
  j5:(List ByteArray)
  deriving DecidableEq
structure MK where
  w7:Int
  w9:Int
  deriving DecidableEq
structure a8 where
  j8:aIq
  j4:qz
  j7:MK
  deriving DecidableEq
def wW(x:ByteArray):List T:=[.sc (.string x)]
abbrev mY(x:qz):List C:=[.imm (tI x.w8),.imm (tI x.j9),.imm (.sc (.string x.z5)),.imm (tI x.x5),.imm (tI x.x6),.imm (.sl 1 (List.map wW x.j5))]
def a0(x:a8):List T:=[tI x.j8.q6,tI x.j8.j3,tI x.j4.w8,tI x.j4.j9,.sc (.string x.j4.z5),tI x.j4.x5,tI x.j4.x6,.sl 1 (List.map wW x.j4.j5),tI x.j7.w7,tI x.j7.w9]
def W4(x:(List a8)):List T:=[.sl 10 (List.map a0 x)]
def kx(x:Int):List T:=[tI x]
structure dK where
  z8:Int
  j6:Int
  deriving DecidableEq
structure az where
  q6:Int
  q8:Int
  z4:Int
  z5:ByteArray
  z3:dK
  z7:Int
  z6:Bool
  deriving DecidableEq
abbrev kQ(x:az):List C:=[.imm (tI x.q6),.imm (tI x.q8),.imm (tI x.z4),.imm (.sc (.string x.z5)),.imm (tI x.z3.z8),.imm (tI x.z3.j6),.imm (tI x.z7),.imm (.sc (.bool x.z6))]
def aQ(x:az):List T:=[tI x.q6,tI x.q8,tI x.z4,.sc (.string x.z5),tI x.z3.z8,tI x.z3.j6,tI x.z7,.sc (.bool x.z6)]
def aIV(x:(List az)):List T:=[.sl 8 (List.map aQ x)]
structure aq where
  q7:az
  z9:Bool
  deriving DecidableEq
def ax(x:aq):List T:=[tI x.q7.q6,tI x.q7.q8,tI x.q7.z4,.sc (.string x.q7.z5),tI x.q7.z3.z8,tI x.q7.z3.j6,tI x.q7.z7,.sc (.bool x.q7.z6),.sc (.bool x.z9)]
def v65:VC:=(.seq (rg [vo 2 (.mv (kB false))]) (.seq (.seq (rg [vm 5 0,vo 6 (.bin .geq 5 (.con (.c (.imm (.sc (.int .u8 97)))))),vm 7 6,vg 8 7 true (.mv 0),vg 9 7 true (.bin .leq 8 (.con (.c (.imm (.sc (.int .u8 122)))))),vo 10 (.pick 7 9 (kB false)),vm 11 10,vg 12 11 false (.mv 0),vg 13 11 false (.bin .geq 12 (.con (.c (.imm (.sc (.int .u8 65)))))),vg 14 11 false (.mv 13),vg 15 14 true (.mv 0),vg 16 14 true (.bin .leq 15 (.con (.c (.imm (.sc (.int .u8 90)))))),vg 17 11 false (.pick 14 16 (kB false)),vo 18 (.pick 11 (kB true) 17),vm 19 18,vg 20 19 false (.mv 0),vg 21 19 false (.bin .geq 20 (.con (.c (.imm (.sc (.int .u8 48)))))),vg 22 19 false (.mv 21),vg 23 22 true (.mv 0),vg 24 22 true (.bin .leq 23 (.con (.c (.imm (.sc (.int .u8 57)))))),vg 25 19 false (.pick 22 24 (kB false)),vo 26 (.pick 19 (kB true) 25)]) (.cond 26 (.seq (rg [vo 2 (.mv (kB true))]) .ret) .skip)) (.seq (rg [vo 3 (.mv (.con (.c (.imm (.sc (.string ⟨#[95,46,58,47,60,62,36,42,126,45]⟩))))))]) (.seq (.seq (rg [vo 4 (.mv (kI 0))]) (.block 0 (.loop (.seq (.seq (rg [vm 27 4,vm 28 3,vo 29 (.lenT 28),vo 30 (.bin .lss 27 29)]) (.cond 30 .skip (.exit 0))) (.seq (.block 1 (.seq (rg [vm 33 3,vm 34 4,vo 35 (.ixS 33 34),vm 36 0,vo 37 (.bin .eql 35 36)]) (.cond 37 (.seq (rg [vo 2 (.mv (kB true))]) .ret) .skip))) (rg [vm 31 4,vo 32 (.bin .add 31 (kI 1)),vm 4 32])))))) (.seq (rg [vo 2 (.mv (kB false))]) .ret)))))
theorem c65:(Try.f65.body.bind fun c=>gV Try.prog 38 c)=some v65:=by kernel_rfl
def v63:VC:=(.seq (rg [vo 2 (.mv (kB false))]) (.seq (rg [vm 3 0,vo 4 (.bin .geq 3 (.con (.c (.imm (.sc (.int .u8 97)))))),vm 5 4,vg 6 5 true (.mv 0),vg 7 5 true (.bin .leq 6 (.con (.c (.imm (.sc (.int .u8 122)))))),vo 8 (.pick 5 7 (kB false)),vm 9 8,vg 10 9 false (.mv 0),vg 11 9 false (.bin .geq 10 (.con (.c (.imm (.sc (.int .u8 65)))))),vg 12 9 false (.mv 11),vg 13 12 true (.mv 0),vg 14 12 true (.bin .leq 13 (.con (.c (.imm (.sc (.int .u8 90)))))),vg 15 9 false (.pick 12 14 (kB false)),vo 16 (.pick 9 (kB true) 15),vm 17 16,vg 18 17 false (.mv 0),vg 19 17 false (.bin .geq 18 (.con (.c (.imm (.sc (.int .u8 48)))))),vg 20 17 false (.mv 19),vg 21 20 true (.mv 0),vg 22 20 true (.bin .leq 21 (.con (.c (.imm (.sc (.int .u8 57)))))),vg 23 17 false (.pick 20 22 (kB false)),vo 24 (.pick 17 (kB true) 23),vm 25 24,vg 26 25 false (.mv 0),vg 27 25 false (.call 78 [(.con (.c (.imm (.sc (.string ⟨#[95,46,58,47,60,62,36,42,126,45]⟩))))),26]),vg 28 25 false (.bin .geq 27 (kI 0)),vo 29 (.pick 25 (kB true) 28),vm 2 29]) .ret))
theorem c63:(Try.f63.body.bind fun c=>gV Try.prog 30 c)=some v63:=by kernel_rfl
def jX(p0:Int):Option (Bool×Bool×Bool×Bool) :=
  (((bif (decide (p0=1))then some true else(bif (decide (p0=3))then some true else some (decide (p0=4)))):Option Bool).bind fun v1=>(((bif (decide (p0=9))then some true else some (decide (p0=11))):Option Bool).bind fun v2=>(((bif (decide (p0=5))then some true else some (decide (p0=11))):Option Bool).bind fun v3=>some (v1,(decide (4≤p0)),v2,v3))))
theorem EV(p0:Int)(r:(Bool×Bool×Bool×Bool))(hF:jX p0=some r):Fun Try.prog 72 true [] [cI p0] noHeap (.tup [cB r.1,cB r.2.1,cB r.2.2.1,cB r.2.2.2]) noHeap:=by
 refine fW Try.func72 ?_
 unfold jX at hF
 refine wA rfl (a9 (e9 (fun _ _ h=>h) hF (fun v1=>[(0,cI p0),(6,cB v1)]) (fun v1=>[]) ?_ ?_))
 ·rintro v1 hF
  refine wA rfl (a9 (e9 (fun _ _ h=>h) hF (fun v2=>[(0,cI p0),(6,cB v1),(7,cB (decide (4≤p0))),(8,cB v2)]) (fun v2=>[]) ?_ ?_))
  ·rintro v2 hF
   refine a9 (e9 (fun _ _ h=>h) hF (fun v3=>[(6,cB v1),(7,cB (decide (4≤p0))),(8,cB v2),(9,cB v3)]) (fun v3=>[]) ?_ ?_)
   ·rintro v3 hF
    refine wA rfl ?_;cases hF
    exact cQ ⟨_,rfl,rfl,⟨⟨rfl,fun _=>rfl⟩,⟨rfl,fun _=>rfl⟩,⟨rfl,fun _=>rfl⟩,⟨rfl,fun _=>rfl⟩,trivial⟩,asK _⟩
   intro join hF
   refine wD 3 rfl ?_;cases h4:(decide (p0=5))
   ·have hF:=bF' h4 hF;exact QV rfl (join (decide (p0=11)) _ _ hF sw)
   have hF:=bT' h4 hF;exact QV rfl (join true _ _ hF sw)
  intro join hF
  refine wD 3 rfl ?_;cases h5:(decide (p0=9))
  ·have hF:=bF' h5 hF;exact QV rfl (join (decide (p0=11)) _ _ hF sw)
  have hF:=bT' h5 hF;exact QV rfl (join true _ _ hF sw)
 intro join hF
 refine wD 3 rfl ?_;cases h6:(decide (p0=1))
 ·have hF:=bF' h6 hF;refine a7 SV 4 rfl ?_;cases h7:(decide (p0=3))
  ·have hF:=bF' h7 hF;exact QV rfl (join (decide (p0=4)) _ _ hF sw)
  have hF:=bT' h7 hF;exact QV rfl (join true _ _ hF sw)
 have hF:=bT' h6 hF;exact QV rfl (join true _ _ hF sw)
def tX(p0:Int):Int→Option (Int ⊕ (Unit ⊕ Bool)):=fun a11 =>
  (bif (decide (a11<(ByteArray.size (⟨#[95,46,58,47,60,62,36,42,126,45]⟩ : ByteArray):Int)))then((idx (ByteArray.data (⟨#[95,46,58,47,60,62,36,42,126,45]⟩ : ByteArray)).toList a11).bind fun y15=>(bif (decide ((UInt8.toNat y15:Int)=p0))then some (.inr (.inr true))else some (.inl (w64 (a11+1)))))else some (.inr (.inl ())))
def gY(p0:Int):Option Bool :=
  (((bif (decide (97≤p0))then(bif (decide (p0≤122))then some true else(bif (decide (65≤p0))then(bif (decide (p0≤90))then some true else(bif (decide (48≤p0))then some (decide (p0≤57))else some false))else(bif (decide (48≤p0))then some (decide (p0≤57))else some false)))else(bif (decide (65≤p0))then(bif (decide (p0≤90))then some true else(bif (decide (48≤p0))then some (decide (p0≤57))else some false))else(bif (decide (48≤p0))then some (decide (p0≤57))else some false))):Option Bool).bind fun v1=>(bif v1 then some true else((loop (tX p0) 0).bind fun | .inl _=>some false | .inr rv=>some rv)))
theorem CJ(p0:Int)(r:Bool)(hF:gY p0=some r):Fun Try.prog 65 true [] [.c (.imm (.sc (.int .u8 p0)))] noHeap (cB r) noHeap:=by
 refine Fun.of_walk0 Try.func65 c65 (by kernel_rfl) (rs:=[.tmp 2]) (by kernel_rfl) ?_;unfold v65
 unfold gY at hF
 refine wA rfl (a9 (a9 (e9 (fun _ _ h=>h) hF (fun v1=>[(0,.c (.imm (.sc (.int .u8 p0)))),(26,cB v1)]) (fun v1=>[]) ?_ ?_)))
 ·rintro v1 hF
  refine wIf hF rfl (fun _ hF=>?_) fun _ hF=>?_
  ·refine wA rfl ?_;cases hF
   exact cQ wR
  refine b5 (wA rfl (a9 (wA rfl (pW (fun _ _ h=>h) hF (.inl) (fun a11=>[(0,.c (.imm (.sc (.int .u8 p0)))),(3,.c (jS (⟨#[95,46,58,47,60,62,36,42,126,45]⟩ : ByteArray))),(4,cI a11)]) (fun a11=>[]) (fun _=>[]) (fun _=>[]) sw ?_ ?_))))
  ·rintro⟨⟩ hF
   refine wA rfl ?_;cases hF
   exact cQ wR
  rintro a11 x_0 hF cont_0 brk_0 fin_0
  unfold tX at hF
  refine a9 (wA rfl (wIf hF rfl (fun _ hF=>?_) fun _ hF=>?_))
  ·refine b5 (a9 (gJ (wC 2 rfl ?_)));obtain⟨y15,hy15,hF⟩:=bB hF
   refine rS (aCj (⟨#[95,46,58,47,60,62,36,42,126,45]⟩ : ByteArray) rfl rfl hy15 (QV rfl (wIf hF rfl (fun _ hF=>?_) fun _ hF=>?_)))
   ·refine wA rfl ?_;have hF:=fin_0 _ (oi hF);cases hF
    exact cQ wR
   exact b5 (wB rfl (cont_0 _ _ _ (oi hF) sw))
  exact kV (bQ (bQ (dJ (brk_0 _ _ _ (oi hF) sw))))
 intro join hF
 refine wD 3 rfl ?_;cases h19:(decide (97≤p0))
 ·have hF:=bF' h19 hF;refine a7 SV 7 rfl ?_;cases h20:(decide (65≤p0))
  ·have hF:=bF' h20 hF;refine a7 SV 8 rfl ?_;cases h21:(decide (48≤p0))
   ·have hF:=bF' h21 hF;exact QV rfl (join false _ _ hF sw)
   have hF:=bT' h21 hF;exact QV rfl (join (decide (p0≤57)) _ _ hF sw)
  have hF:=bT' h20 hF;refine a7 SV 5 rfl ?_;cases h22:(decide (p0≤90))
  ·have hF:=bF' h22 hF;refine a7 SV 3 rfl ?_;cases h23:(decide (48≤p0))
   ·have hF:=bF' h23 hF;exact QV rfl (join false _ _ hF sw)
   have hF:=bT' h23 hF;exact QV rfl (join (decide (p0≤57)) _ _ hF sw)
  have hF:=bT' h22 hF;exact QV rfl (join true _ _ hF sw)
 have hF:=bT' h19 hF;refine a7 SV 4 rfl ?_;cases h24:(decide (p0≤122))
 ·have hF:=bF' h24 hF;refine a7 SV 3 rfl ?_;cases h25:(decide (65≤p0))
  ·have hF:=bF' h25 hF;refine a7 SV 8 rfl ?_;cases h26:(decide (48≤p0))
   ·have hF:=bF' h26 hF;exact QV rfl (join false _ _ hF sw)
   have hF:=bT' h26 hF;exact QV rfl (join (decide (p0≤57)) _ _ hF sw)
  have hF:=bT' h25 hF;refine a7 SV 5 rfl ?_;cases h27:(decide (p0≤90))
  ·have hF:=bF' h27 hF;refine a7 SV 3 rfl ?_;cases h28:(decide (48≤p0))
   ·have hF:=bF' h28 hF;exact QV rfl (join false _ _ hF sw)
   have hF:=bT' h28 hF;exact QV rfl (join (decide (p0≤57)) _ _ hF sw)
  have hF:=bT' h27 hF;exact QV rfl (join true _ _ hF sw)
 have hF:=bT' h24 hF;exact QV rfl (join true _ _ hF sw)
def jj(p0:ByteArray):Int→Option (Int ⊕ (Unit ⊕ Int)):=fun a13 =>
  (bif (decide (a13<(ByteArray.size p0:Int)))then((idx (ByteArray.data p0).toList a13).bind fun y18=>((gY (UInt8.toNat y18:Int)).bind fun r19=>(bif (!r19)then some (.inr (.inr 3))else some (.inl (w64 (a13+1))))))else some (.inr (.inl ())))
def fJ(p0:ByteArray):Option Int :=
  (((bif (decide ((ByteArray.size p0:Int)<1))then some true else some (decide (40<(ByteArray.size p0:Int)))):Option Bool).bind fun v1=>(bif v1 then some 3 else((loop (jj p0) 0).bind fun | .inl _=>some 0 | .inr rv=>some rv)))
theorem vQ(p0:ByteArray)(r:Int)(hF:fJ p0=some r):Fun Try.prog 44 true [] [.c (jS p0)] noHeap (cI r) noHeap:=by
 refine fW Try.func44 ?_
 unfold fJ at hF
 refine wA rfl (a9 (a9 (e9 (fun _ _ h=>h) hF (fun v1=>[(0,.c (jS p0)),(11,cB v1)]) (fun v1=>[]) ?_ ?_)))
 ·rintro v1 hF
  refine wIf hF rfl (fun _ hF=>?_) fun _ hF=>?_
  ·refine wA rfl ?_;cases hF
   exact cQ wR
  refine b5 (a9 (wA rfl (pW (fun _ _ h=>h) hF (.inl) (fun a13=>[(0,.c (jS p0)),(3,cI a13)]) (fun a13=>[]) (fun _=>[]) (fun _=>[]) sw ?_ ?_)))
  ·rintro⟨⟩ hF
   refine wA rfl ?_;cases hF
   exact cQ wR
  rintro a13 x_0 hF cont_0 brk_0 fin_0
  unfold jj at hF
  refine a9 (wA rfl (wIf hF rfl (fun _ hF=>?_) fun _ hF=>?_))
  ·refine b5 (a9 (gJ (wC 2 rfl ?_)));obtain⟨y18,hy18,hF⟩:=bB hF
   refine rS (aCj p0 rfl rfl hy18 ?_);obtain⟨r19,hr19,hF⟩:=bB hF
   refine rS (cZ (CJ _ _ hr19) ⟨rfl,trivial⟩ rfl (.inl rfl) (QV rfl (wIf hF rfl (fun _ hF=>?_) fun _ hF=>?_)))
   ·refine wA rfl ?_;have hF:=fin_0 _ (oi hF);cases hF
    exact cQ wR
   exact b5 (wB rfl (cont_0 _ _ _ (oi hF) sw))
  exact kV (bQ (bQ (dJ (brk_0 _ _ _ (oi hF) sw))))
 intro join hF
 refine wD 4 rfl ?_;cases h23:(decide ((ByteArray.size p0:Int)<1))
 ·have hF:=bF' h23 hF;exact QV rfl (join (decide (40<(ByteArray.size p0:Int))) _ _ hF sw)
 have hF:=bT' h23 hF;exact QV rfl (join true _ _ hF sw)
def ox(p0:(List ByteArray)):Int→Option (Int ⊕ (Unit ⊕ Int)):=fun a12 =>
  (bif (decide (a12<(List.length p0:Int)))then((idx p0 a12).bind fun y17=>((fJ y17).bind fun r18=>(bif (!decide (r18=0))then some (.inr (.inr 3))else some (.inl (w64 (a12+1))))))else some (.inr (.inl ())))
def jY(p0:(List ByteArray)):Option Int :=
  (bif (decide (32<(List.length p0:Int)))then some 7 else((loop (ox p0) 0).bind fun | .inl _=>some 0 | .inr rv=>some rv))
theorem CY(p0:(List ByteArray))(r:Int)(hF:jY p0=some r):Fun Try.prog 73 true [] [cL 1 wW p0] noHeap (cI r) noHeap:=by
 refine fW Try.func73 ?_
 unfold jY at hF
 refine wA rfl (a9 (wC 1 rfl (rS (l9 (tc:=wW) p0 .tree (QV rfl (wIf hF rfl (fun _ hF=>?_) fun _ hF=>?_))))))
 ·refine wA rfl ?_;cases hF
  exact cQ wR
 refine b5 (a9 (wA rfl (pW (fun _ _ h=>h) hF (.inl) (fun a12=>[(0,cL 1 wW p0),(3,cI a12)]) (fun a12=>[]) (fun _=>[]) (fun _=>[]) sw ?_ ?_)))
 ·rintro⟨⟩ hF
  refine wA rfl ?_;cases hF
  exact cQ wR
 rintro a12 x_0 hF cont_0 brk_0 fin_0
 unfold ox at hF
 refine a9 (wC 2 rfl (rS (l9 (tc:=wW) p0 .tree (QV rfl (wIf hF rfl (fun _ hF=>?_) fun _ hF=>?_)))))
 ·refine b5 (a9 (gJ (wC 2 rfl ?_)));obtain⟨y17,hy17,hF⟩:=bB hF
  refine rS (iK (tc:=wW) p0 rfl rfl hy17 (a7 SV 1 rfl ?_));obtain⟨r18,hr18,hF⟩:=bB hF
  refine rS (cZ (vQ _ _ hr18) ⟨rfl,trivial⟩ rfl (.inl rfl) (QV rfl (wIf hF rfl (fun _ hF=>?_) fun _ hF=>?_)))
  ·refine wA rfl ?_;have hF:=fin_0 _ (oi hF);cases hF
   exact cQ wR
  exact b5 (wB rfl (cont_0 _ _ _ (oi hF) sw))
 exact kV (bQ (bQ (dJ (brk_0 _ _ _ (oi hF) sw))))
def dj(p0:Int)(p1:Int)(p2:Int):Option Int :=
  (((bif (decide (p0<p1))then some true else some (decide (p2<p0))):Option Bool).bind fun v1=>(bif v1 then some 2 else some 0))
theorem fq(p0:Int)(p1:Int)(p2:Int)(r:Int)(hF:dj p0 p1 p2=some r):Fun Try.prog 83 true [] [cI p0,cI p1,cI p2] noHeap (cI r) noHeap:=by
 refine fW Try.func83 ?_
 unfold dj at hF
 refine wA rfl (a9 (a9 (e9 (fun _ _ h=>h) hF (fun v1=>[(14,cB v1)]) (fun v1=>[]) ?_ ?_)))
 ·rintro v1 hF
  refine wIf hF rfl (fun _ hF=>?_) fun _ hF=>?_
  ·refine wA rfl ?_;cases hF
   exact cQ wR
  refine b5 (wA rfl ?_);cases hF
  exact cQ wR
 intro join hF
 refine wD 4 rfl ?_;cases h3:(decide (p0<p1))
 ·have hF:=bF' h3 hF;exact QV rfl (join (decide (p2<p0)) _ _ hF sw)
 have hF:=bT' h3 hF;exact QV rfl (join true _ _ hF sw)
def jz(p0:qz):Option Int :=
  (((bif (decide (p0.j9=1))then some (decide (p0.j9=1))else(bif (decide (p0.j9=2))then some (decide (p0.j9=2))else some (decide (p0.j9=3)))):Option Bool).bind fun v1=>(bif v1 then some 0 else(bif (decide (p0.j9=4))then((dj p0.x5 (-1000000000000000) 1000000000000000).bind fun r2=>some r2)else(bif (decide (p0.j9=5))then((dj p0.x5 1 1000000000000).bind fun r3=>some r3)else(bif (decide (p0.j9=8))then((dj p0.x5 0 63).bind fun r4=>some r4)else(bif (decide (p0.j9=9))then((dj p0.x5 0 3).bind fun r5=>(((bif (decide (r5=0))then some (decide (p0.x5=2))else some false):Option Bool).bind fun v6=>(bif v6 then((dj p0.x6 0 1000000000000000).bind fun r7=>some r7)else(((bif (decide (r5=0))then some (!decide (p0.x6=0))else some false):Option Bool).bind fun v8=>(bif v8 then some 1 else some r5)))))else((dj p0.x5 0 1000000000000000).bind fun r13=>(((bif (decide (r13=0))then some (decide (p0.j9=11))else some false):Option Bool).bind fun v14=>(bif v14 then((dj p0.x6 1 1000000000000).bind fun r15=>some r15)else some r13)))))))))
theorem BV(p0:qz)(r:Int)(hF:jz p0=some r):Fun Try.prog 74 true [] [.agg (mY p0)] noHeap (cI r) noHeap:=by
 refine fW Try.func74 ?_
 unfold jz at hF
 refine wA rfl (a9 (wA rfl (gJ (a9 (wA rfl (e9 (fun _ _ h=>h) hF (fun v1=>[(1,cP (1,0) 0),(6,cI p0.j9),(7,cB v1)]) (fun v1=>[((1,0),.box (mY p0))]) ?_ ?_))))))
 ·rintro v1 hF
  refine wIf hF rfl (fun _ hF=>?_) fun _ hF=>?_
  ·refine wA rfl ?_;cases hF
   exact cQ wR
  refine wA rfl (wIf hF rfl (fun _ hF=>?_) fun _ hF=>?_)
  ·refine wC 2 rfl ?_;obtain⟨r2,hr2,hF⟩:=bB hF
   refine rS (cZ (fq _ _ _ _ hr2) ⟨rfl,rfl,rfl,trivial⟩ rfl (.inl rfl) (QV rfl ?_));cases hF
   exact cQ wR
  refine wA rfl (wIf hF rfl (fun _ hF=>?_) fun _ hF=>?_)
  ·refine wC 2 rfl ?_;obtain⟨r3,hr3,hF⟩:=bB hF
   refine rS (cZ (fq _ _ _ _ hr3) ⟨rfl,rfl,rfl,trivial⟩ rfl (.inl rfl) (QV rfl ?_));cases hF
   exact cQ wR
  refine wA rfl (wIf hF rfl (fun _ hF=>?_) fun _ hF=>?_)
  ·refine wC 2 rfl ?_;obtain⟨r4,hr4,hF⟩:=bB hF
   refine rS (cZ (fq _ _ _ _ hr4) ⟨rfl,rfl,rfl,trivial⟩ rfl (.inl rfl) (QV rfl ?_));cases hF
   exact cQ wR
  refine wA rfl (wIf hF rfl (fun _ hF=>?_) fun _ hF=>?_)
  ·refine wC 2 rfl ?_;obtain⟨r5,hr5,hF⟩:=bB hF
   refine rS (cZ (fq _ _ _ _ hr5) ⟨rfl,rfl,rfl,trivial⟩ rfl (.inl rfl) (QV rfl (a9 (a9 (e9 (fun _ _ h=>h) hF (fun v6=>[(1,cP (1,0) 0),(3,cI r5),(37,cB v6)]) (fun v6=>[((1,0),.box (mY p0))]) ?_ ?_)))))
   ·rintro v6 hF
    refine wIf hF rfl (fun _ hF=>?_) fun _ hF=>?_
    ·refine wC 2 rfl ?_;obtain⟨r7,hr7,hF⟩:=bB hF
     refine rS (cZ (fq _ _ _ _ hr7) ⟨rfl,rfl,rfl,trivial⟩ rfl (.inl rfl) (QV rfl ?_));cases hF
     exact cQ wR
    refine b5 (a9 (a9 (e9 (fun _ _ h=>h) hF (fun v8=>[(3,cI r5),(47,cB v8)]) (fun v8=>[]) ?_ ?_)))
    ·rintro v8 hF
     refine wIf hF rfl (fun _ hF=>?_) fun _ hF=>?_
     ·refine wA rfl ?_;cases hF
      exact cQ wR
     refine b5 (wA rfl ?_);cases hF
     exact cQ wR
    intro join hF
    refine wD 3 rfl ?_;cases h10:(decide (r5=0))
    ·have hF:=bF' h10 hF;exact QV rfl (join false _ _ hF sw)
    have hF:=bT' h10 hF;exact QV rfl (join (!decide (p0.x6=0)) _ _ hF sw)
   intro join hF
   refine wD 3 rfl ?_;cases h12:(decide (r5=0))
   ·have hF:=bF' h12 hF;exact QV rfl (join false _ _ hF sw)
   have hF:=bT' h12 hF;exact QV rfl (join (decide (p0.x5=2)) _ _ hF sw)
  refine b5 (wC 2 rfl ?_);obtain⟨r13,hr13,hF⟩:=bB hF
  refine rS (cZ (fq _ _ _ _ hr13) ⟨rfl,rfl,rfl,trivial⟩ rfl (.inl rfl) (QV rfl (a9 (a9 (e9 (fun _ _ h=>h) hF (fun v14=>[(1,cP (1,0) 0),(4,cI r13),(58,cB v14)]) (fun v14=>[((1,0),.box (mY p0))]) ?_ ?_)))))
  ·rintro v14 hF
   refine wIf hF rfl (fun _ hF=>?_) fun _ hF=>?_
   ·refine wC 2 rfl ?_;obtain⟨r15,hr15,hF⟩:=bB hF
    refine rS (cZ (fq _ _ _ _ hr15) ⟨rfl,rfl,rfl,trivial⟩ rfl (.inl rfl) (QV rfl ?_));cases hF
    exact cQ wR
   refine b5 (wA rfl ?_);cases hF
   exact cQ wR
  intro join hF
  refine wD 3 rfl ?_;cases h17:(decide (r13=0))
  ·have hF:=bF' h17 hF;exact QV rfl (join false _ _ hF sw)
  have hF:=bT' h17 hF;exact QV rfl (join (decide (p0.j9=11)) _ _ hF sw)
 intro join hF
 refine L8 hF rfl (fun _ hF=>?_) fun _ hF=>?_
 ·exact b5 (join (decide (p0.j9=1)) _ _ hF sw)
 refine wA rfl (L8 hF rfl (fun _ hF=>?_) fun _ hF=>?_)
 ·exact b5 (join (decide (p0.j9=2)) _ _ hF sw)
 exact wB rfl (join (decide (p0.j9=3)) _ _ hF sw)
def eQ(p0:qz):Option Int :=
  (((bif (decide (p0.w8<0))then some true else some (decide (1000000000000<p0.w8))):Option Bool).bind fun v1=>(bif v1 then some 2 else(((bif (decide (p0.j9<1))then some true else some (decide (12<p0.j9))):Option Bool).bind fun v2=>(bif v2 then some 1 else((jX p0.j9).bind fun r3=>(((bif (!r3.1)then(bif (!decide (p0.z5=(⟨#[]⟩ : ByteArray)))then some true else(bif (!r3.2.1)then(bif (!decide (p0.x5=0))then some true else(bif (!r3.2.2.1)then(bif (!decide (p0.x6=0))then some true else(bif (!r3.2.2.2)then some (decide (0<(List.length p0.j5:Int)))else some false))else(bif (!r3.2.2.2)then some (decide (0<(List.length p0.j5:Int)))else some false)))else(bif (!r3.2.2.1)then(bif (!decide (p0.x6=0))then some true else(bif (!r3.2.2.2)then some (decide (0<(List.length p0.j5:Int)))else some false))else(bif (!r3.2.2.2)then some (decide (0<(List.length p0.j5:Int)))else some false))))else(bif (!r3.2.1)then(bif (!decide (p0.x5=0))then some true else(bif (!r3.2.2.1)then(bif (!decide (p0.x6=0))then some true else(bif (!r3.2.2.2)then some (decide (0<(List.length p0.j5:Int)))else some false))else(bif (!r3.2.2.2)then some (decide (0<(List.length p0.j5:Int)))else some false)))else(bif (!r3.2.2.1)then(bif (!decide (p0.x6=0))then some true else(bif (!r3.2.2.2)then some (decide (0<(List.length p0.j5:Int)))else some false))else(bif (!r3.2.2.2)then some (decide (0<(List.length p0.j5:Int)))else some false)))):Option Bool).bind fun v4=>(bif v4 then some 1 else(((bif r3.1 then((fJ p0.z5).bind fun r11=>some r11)else some 0):Option Int).bind fun v5=>(((bif r3.2.2.2 then((jY p0.j5).bind fun r9=>some r9)else some v5):Option Int).bind fun v6=>(bif (!decide (v6=0))then some v6 else((jz p0).bind fun r7=>some r7)))))))))))
theorem Ez(p0:qz)(r:Int)(hF:eQ p0=some r):Fun Try.prog 52 true [] [.agg (mY p0)] noHeap (cI r) noHeap:=by
 refine fW Try.func52 ?_
 unfold eQ at hF
 refine wA rfl (a9 (a9 (e9 (fun _ _ h=>h) hF (fun v1=>[(1,cP (1,0) 0),(15,cB v1)]) (fun v1=>[((1,0),.box (mY p0))]) ?_ ?_)))
 ·rintro v1 hF
  refine wIf hF rfl (fun _ hF=>?_) fun _ hF=>?_
  ·refine wA rfl ?_;cases hF
   exact cQ wR
  refine b5 (a9 (a9 (e9 (fun _ _ h=>h) hF (fun v2=>[(1,cP (1,0) 0),(23,cB v2)]) (fun v2=>[((1,0),.box (mY p0))]) ?_ ?_)))
  ·rintro v2 hF
   refine wIf hF rfl (fun _ hF=>?_) fun _ hF=>?_
   ·refine wA rfl ?_;cases hF
    exact cQ wR
   refine b5 (wC 2 rfl ?_);obtain⟨r3,hr3,hF⟩:=bB hF
   refine rS (cZ (EV _ _ hr3) ⟨rfl,trivial⟩ rfl (.inl rfl) (QV rfl (a9 (a9 (e9 (fun _ _ h=>h) hF (fun v4=>[(1,cP (1,0) 0),(3,cB r3.1),(6,cB r3.2.2.2),(66,cB v4)]) (fun v4=>[((1,0),.box (mY p0))]) ?_ ?_)))))
   ·rintro v4 hF
    refine wIf hF rfl (fun _ hF=>?_) fun _ hF=>?_
    ·refine wA rfl ?_;cases hF
     exact cQ wR
    refine b5 (wA rfl (a9 (wA rfl (e9 (fun _ _ h=>h) hF (fun v5=>[(1,cP (1,0) 0),(6,cB r3.2.2.2),(7,cI v5)]) (fun v5=>[((1,0),.box (mY p0))]) ?_ ?_))))
    ·rintro v5 hF
     refine a9 (wA rfl (e9 (fun _ _ h=>h) hF (fun v6=>[(1,cP (1,0) 0),(7,cI v6)]) (fun v6=>[((1,0),.box (mY p0))]) ?_ ?_))
     ·rintro v6 hF
      refine a9 (wA rfl (wIf hF rfl (fun _ hF=>?_) fun _ hF=>?_))
      ·refine wA rfl ?_;cases hF
       exact cQ wR
      refine b5 (wC 1 rfl ?_);obtain⟨r7,hr7,hF⟩:=bB hF
      refine rS (cZ (BV _ _ hr7) ⟨⟨rfl,rfl,rfl,rfl,rfl,rfl,trivial⟩,trivial⟩ rfl (.inl rfl) (QV rfl ?_));cases hF
      exact cQ wR
     intro join hF
     refine L8 hF rfl (fun _ hF=>?_) fun _ hF=>?_
     ·refine wD 2 rfl ?_;obtain⟨r9,hr9,hF⟩:=bB' hF
      exact rS (cZ (CY _ _ hr9) ⟨rfl,trivial⟩ rfl (.inl rfl) (QV rfl (join r9 _ _ hF sw)))
     exact b5 (join v5 _ _ hF sw)
    intro join hF
    refine L8 hF rfl (fun _ hF=>?_) fun _ hF=>?_
    ·refine wD 2 rfl ?_;obtain⟨r11,hr11,hF⟩:=bB' hF
     exact rS (cZ (vQ _ _ hr11) ⟨rfl,trivial⟩ rfl (.inl rfl) (QV rfl (join r11 _ _ hF sw)))
    exact b5 (join 0 _ _ hF sw)
   intro join hF
   refine wD 3 rfl ?_;cases h14:(!r3.1)
   ·have hF:=bF' h14 hF;refine a7 SV 8 rfl ?_;cases h15:(!r3.2.1)
    ·have hF:=bF' h15 hF;refine a7 SV 9 rfl ?_;cases h16:(!r3.2.2.1)
     ·have hF:=bF' h16 hF;refine a7 SV 9 rfl ?_;cases h17:(!r3.2.2.2)
      ·have hF:=bF' h17 hF;exact QV rfl (join false _ _ hF sw)
      have hF:=bT' h17 hF;exact a7 SV 2 rfl (b8 SV rfl (l9 (tc:=wW) p0.j5 .tree (QV rfl (join (decide (0<(List.length p0.j5:Int))) _ _ hF sw))))
     have hF:=bT' h16 hF;refine a7 SV 6 rfl ?_;cases h18:(!decide (p0.x6=0))
     ·have hF:=bF' h18 hF;refine a7 SV 3 rfl ?_;cases h19:(!r3.2.2.2)
      ·have hF:=bF' h19 hF;exact QV rfl (join false _ _ hF sw)
      have hF:=bT' h19 hF;exact a7 SV 2 rfl (b8 SV rfl (l9 (tc:=wW) p0.j5 .tree (QV rfl (join (decide (0<(List.length p0.j5:Int))) _ _ hF sw))))
     have hF:=bT' h18 hF;exact QV rfl (join true _ _ hF sw)
    have hF:=bT' h15 hF;refine a7 SV 6 rfl ?_;cases h20:(!decide (p0.x5=0))
    ·have hF:=bF' h20 hF;refine a7 SV 3 rfl ?_;cases h21:(!r3.2.2.1)
     ·have hF:=bF' h21 hF;refine a7 SV 9 rfl ?_;cases h22:(!r3.2.2.2)
      ·have hF:=bF' h22 hF;exact QV rfl (join false _ _ hF sw)
      have hF:=bT' h22 hF;exact a7 SV 2 rfl (b8 SV rfl (l9 (tc:=wW) p0.j5 .tree (QV rfl (join (decide (0<(List.length p0.j5:Int))) _ _ hF sw))))
     have hF:=bT' h21 hF;refine a7 SV 6 rfl ?_;cases h23:(!decide (p0.x6=0))
     ·have hF:=bF' h23 hF;refine a7 SV 3 rfl ?_;cases h24:(!r3.2.2.2)
      ·have hF:=bF' h24 hF;exact QV rfl (join false _ _ hF sw)
      have hF:=bT' h24 hF;exact a7 SV 2 rfl (b8 SV rfl (l9 (tc:=wW) p0.j5 .tree (QV rfl (join (decide (0<(List.length p0.j5:Int))) _ _ hF sw))))
     have hF:=bT' h23 hF;exact QV rfl (join true _ _ hF sw)
    have hF:=bT' h20 hF;exact QV rfl (join true _ _ hF sw)
   have hF:=bT' h14 hF;refine a7 SV 5 rfl ?_;cases h25:(!decide (p0.z5=(⟨#[]⟩ : ByteArray)))
   ·have hF:=bF' h25 hF;refine a7 SV 3 rfl ?_;cases h26:(!r3.2.1)
    ·have hF:=bF' h26 hF;refine a7 SV 9 rfl ?_;cases h27:(!r3.2.2.1)
     ·have hF:=bF' h27 hF;refine a7 SV 9 rfl ?_;cases h28:(!r3.2.2.2)
      ·have hF:=bF' h28 hF;exact QV rfl (join false _ _ hF sw)
      have hF:=bT' h28 hF;exact a7 SV 2 rfl (b8 SV rfl (l9 (tc:=wW) p0.j5 .tree (QV rfl (join (decide (0<(List.length p0.j5:Int))) _ _ hF sw))))
     have hF:=bT' h27 hF;refine a7 SV 6 rfl ?_;cases h29:(!decide (p0.x6=0))
     ·have hF:=bF' h29 hF;refine a7 SV 3 rfl ?_;cases h30:(!r3.2.2.2)
      ·have hF:=bF' h30 hF;exact QV rfl (join false _ _ hF sw)
      have hF:=bT' h30 hF;exact a7 SV 2 rfl (b8 SV rfl (l9 (tc:=wW) p0.j5 .tree (QV rfl (join (decide (0<(List.length p0.j5:Int))) _ _ hF sw))))
     have hF:=bT' h29 hF;exact QV rfl (join true _ _ hF sw)
    have hF:=bT' h26 hF;refine a7 SV 6 rfl ?_;cases h31:(!decide (p0.x5=0))
    ·have hF:=bF' h31 hF;refine a7 SV 3 rfl ?_;cases h32:(!r3.2.2.1)
     ·have hF:=bF' h32 hF;refine a7 SV 9 rfl ?_;cases h33:(!r3.2.2.2)
      ·have hF:=bF' h33 hF;exact QV rfl (join false _ _ hF sw)
      have hF:=bT' h33 hF;exact a7 SV 2 rfl (b8 SV rfl (l9 (tc:=wW) p0.j5 .tree (QV rfl (join (decide (0<(List.length p0.j5:Int))) _ _ hF sw))))
     have hF:=bT' h32 hF;refine a7 SV 6 rfl ?_;cases h34:(!decide (p0.x6=0))
     ·have hF:=bF' h34 hF;refine a7 SV 3 rfl ?_;cases h35:(!r3.2.2.2)
      ·have hF:=bF' h35 hF;exact QV rfl (join false _ _ hF sw)
      have hF:=bT' h35 hF;exact a7 SV 2 rfl (b8 SV rfl (l9 (tc:=wW) p0.j5 .tree (QV rfl (join (decide (0<(List.length p0.j5:Int))) _ _ hF sw))))
     have hF:=bT' h34 hF;exact QV rfl (join true _ _ hF sw)
    have hF:=bT' h31 hF;exact QV rfl (join true _ _ hF sw)
   have hF:=bT' h25 hF;exact QV rfl (join true _ _ hF sw)
  intro join hF
  refine wD 4 rfl ?_;cases h37:(decide (p0.j9<1))
  ·have hF:=bF' h37 hF;exact QV rfl (join (decide (12<p0.j9)) _ _ hF sw)
  have hF:=bT' h37 hF;exact QV rfl (join true _ _ hF sw)
 intro join hF
 refine wD 4 rfl ?_;cases h39:(decide (p0.w8<0))
 ·have hF:=bF' h39 hF;exact QV rfl (join (decide (1000000000000<p0.w8)) _ _ hF sw)
 have hF:=bT' h39 hF;exact QV rfl (join true _ _ hF sw)
def dZ(p0:a8):Option Int :=
  (bif (decide (p0.j7.w7<0))then some 0 else(bif (decide (1000000000000<p0.j7.w7))then some 1000000000000 else some p0.j7.w7))
theorem f8(p0:a8)(r:Int)(hF:dZ p0=some r):Fun Try.prog 15 true [] [.agg [jI p0.j8.q6,jI p0.j8.j3,jI p0.j4.w8,jI p0.j4.j9,jS p0.j4.z5,jI p0.j4.x5,jI p0.j4.x6,jL 1 wW p0.j4.j5,jI p0.j7.w7,jI p0.j7.w9]] noHeap (cI r) noHeap:=by
 refine fW Try.func15 ?_
 unfold dZ at hF
 refine wA rfl (a9 (gJ (wA rfl (wIf hF rfl (fun _ hF=>?_) fun _ hF=>?_))))
 ·refine wA rfl ?_;cases hF
  exact cQ wR
 refine wA rfl (wIf hF rfl (fun _ hF=>?_) fun _ hF=>?_)
 ·refine wA rfl ?_;cases hF
  exact cQ wR
 refine b5 (wA rfl ?_);cases hF
 exact cQ wR
def m4(p0:(List a8))(p1:Int):Int→Option (Int ⊕ (Unit ⊕ Int)):=fun a12 =>
  (bif (decide (0≤a12))then((idx p0 a12).bind fun y17=>((idx p0 p1).bind fun y18=>(bif (decide (y17.j8.q6=y18.j8.q6))then some (.inr (.inr a12))else some (.inl (w64 (a12-1))))))else some (.inr (.inl ())))
def fK(p0:(List a8))(p1:Int):Option Int :=
  ((loop (m4 p0 p1) (w64 (p1-1))).bind fun | .inl _=>some (-1) | .inr rv=>some rv)
theorem mQ(p0:(List a8))(p1:Int)(r:Int)(hF:fK p0 p1=some r):Fun Try.prog 53 true [] [cL 10 a0 p0,cI p1] noHeap (cI r) noHeap:=by
 refine fW Try.func53 ?_
 unfold fK at hF
 refine wA rfl (a9 (wA rfl (pW (fun _ _ h=>h) hF (.inl) (fun a12=>[(0,cL 10 a0 p0),(1,cI p1),(5,cI a12)]) (fun a12=>[]) (fun _=>[]) (fun _=>[]) sw ?_ ?_)))
 ·rintro⟨⟩ hF
  refine wA rfl ?_;cases hF
  exact cQ wR
 rintro a12 x_0 hF cont_0 brk_0 fin_0
 unfold m4 at hF
 refine a9 (wA rfl (wIf hF rfl (fun _ hF=>?_) fun _ hF=>?_))
 ·refine b5 (a9 (gJ (a9 (xz (by decide) (by kernel_rfl) rfl (a7 SP 2 rfl ?_)))));obtain⟨y17,hy17,hF⟩:=bB hF
  refine b8 SP trivial (iK (tc:=a0) p0 rfl rfl hy17 (a7 SP 5 rfl ?_));obtain⟨y18,hy18,hF⟩:=bB hF
  refine b8 SP trivial (iK (tc:=a0) p0 rfl rfl hy18 (QP rfl (wIf hF rfl (fun _ hF=>?_) fun _ hF=>?_)))
  ·refine wA rfl ?_;have hF:=fin_0 _ (oi hF);cases hF
   exact cQ wR
  exact b5 (wB rfl (cont_0 _ _ _ (oi hF) sw))
 exact kV (bQ (bQ (dJ (brk_0 _ _ _ (oi hF) sw))))
def nZ(p0:(List a8)):Int→Option (Int ⊕ (Unit ⊕ Bool)):=fun a48 =>
  (bif (decide (a48<(List.length p0:Int)))then((idx p0 a48).bind fun y71=>((((idx p0 a48).bind fun y86=>((eQ y86.j4).bind fun r87=>(bif (!decide (r87=0))then some true else(bif (decide (y71.j8.q6<0))then some true else(bif (decide (1000000000000000<y71.j8.q6))then some true else(bif (decide (y71.j8.j3<0))then some true else some (decide (1000000000000000<y71.j8.j3)))))))):Option Bool).bind fun v72=>(bif v72 then some (.inr (.inr false))else(((bif (decide (0<a48))then((idx p0 a48).bind fun y81=>((dZ y81).bind fun r82=>((idx p0 (w64 (a48-1))).bind fun y83=>((dZ y83).bind fun r84=>some (decide (r82<r84))))))else some false):Option Bool).bind fun v73=>(bif v73 then some (.inr (.inr false))else((fK p0 a48).bind fun r74=>(((bif (decide (0≤r74))then((idx p0 r74).bind fun y78=>some (decide (y71.j8.j3≤y78.j8.j3)))else some false):Option Bool).bind fun v75=>(bif v75 then some (.inr (.inr false))else some (.inl (w64 (a48+1)))))))))))else some (.inr (.inl ())))
def jQ(p0:(List a8)):Option Bool :=
  ((loop (nZ p0) 0).bind fun | .inl _=>some true | .inr rv=>some rv)
theorem A9(p0:(List a8))(r:Bool)(hF:jQ p0=some r):Fun Try.prog 27 true [] [cL 10 a0 p0] noHeap (cB r) noHeap:=by
 refine fW Try.func27 ?_
 unfold jQ at hF
 refine wA rfl (a9 (wA rfl (pW (fun _ _ h=>h) hF (.inl) (fun a48=>[(0,cL 10 a0 p0),(3,cI a48)]) (fun a48=>[]) (fun _=>[]) (fun _=>[]) sw ?_ ?_)))
 ·rintro⟨⟩ hF
  refine wA rfl ?_;cases hF
  exact cQ wR
 rintro a48 x_0 hF cont_0 brk_0 fin_0
 unfold nZ at hF
 refine a9 (wC 2 rfl (rS (l9 (tc:=a0) p0 .tree (QV rfl (wIf hF rfl (fun _ hF=>?_) fun _ hF=>?_)))))
 ·refine b5 (a9 (gJ (wC 2 rfl ?_)));obtain⟨y71,hy71,hF⟩:=bB hF
  refine rS (iK (tc:=a0) p0 rfl rfl hy71 (QV rfl (a9 (a9 (e9 (fun _ _ h=>h) hF (fun v72=>[(0,cL 10 a0 p0),(3,cI a48),(4,cP (4,0) 0),(43,cB v72)]) (fun v72=>[((4,0),.box [jI y71.j8.q6,jI y71.j8.j3])]) ?_ ?_)))))
  ·rintro v72 hF
   refine wIf hF rfl (fun _ hF=>?_) fun _ hF=>?_
   ·refine wA rfl ?_;have hF:=fin_0 _ (oi hF);cases hF
    exact cQ wR
   refine b5 (a9 (a9 (e9 (fun _ _ h=>h) hF (fun v73=>[(0,cL 10 a0 p0),(3,cI a48),(4,cP (4,0) 0),(59,cB v73)]) (fun v73=>[((4,0),.box [jI y71.j8.q6,jI y71.j8.j3])]) ?_ ?_)))
   ·rintro v73 hF
    refine wIf hF rfl (fun _ hF=>?_) fun _ hF=>?_
    ·refine wA rfl ?_;have hF:=fin_0 _ (oi hF);cases hF
     exact cQ wR
    refine b5 (wC 2 rfl ?_);obtain⟨r74,hr74,hF⟩:=bB hF
    refine rS (cZ (mQ _ _ _ hr74) ⟨rfl,rfl,trivial⟩ rfl (.inl rfl) (QV rfl (a9 (e9 (fun _ _ h=>h) hF (fun v75=>[(0,cL 10 a0 p0),(3,cI a48),(75,cB v75)]) (fun v75=>[]) ?_ ?_))))
    ·rintro v75 hF
     refine wIf hF rfl (fun _ hF=>?_) fun _ hF=>?_
     ·refine wA rfl ?_;have hF:=fin_0 _ (oi hF);cases hF
      exact cQ wR
     exact b5 (wB rfl (cont_0 _ _ _ (oi hF) sw))
    intro join hF
    refine xz (by decide) (by kernel_rfl) rfl (a7 SP 3 rfl ?_);cases h77:(decide (0≤r74))
    ·have hF:=bF' h77 hF;exact QP rfl (join false _ _ hF sw)
    have hF:=bT' h77 hF;refine a7 SP 2 rfl ?_;obtain⟨y78,hy78,hF⟩:=bB' hF
    exact b8 SP rfl (iK (tc:=a0) p0 rfl rfl hy78 (QP rfl (join (decide (y71.j8.j3≤y78.j8.j3)) _ _ hF sw)))
   intro join hF
   refine xz (by decide) (by kernel_rfl) rfl (a7 SP 3 rfl ?_);cases h80:(decide (0<a48))
   ·have hF:=bF' h80 hF;exact QP rfl (join false _ _ hF sw)
   have hF:=bT' h80 hF;refine a7 SP 2 rfl ?_;obtain⟨y81,hy81,hF⟩:=bB' hF
   refine b8 SP rfl (iK (tc:=a0) p0 rfl rfl hy81 (a7 SP 1 rfl ?_));obtain⟨r82,hr82,hF⟩:=bB' hF
   refine b8 SP rfl (cZ (f8 _ _ hr82) ⟨⟨rfl,rfl,rfl,rfl,rfl,rfl,rfl,rfl,rfl,rfl,trivial⟩,trivial⟩ rfl (.inl rfl) (a7 SP 3 rfl ?_));obtain⟨y83,hy83,hF⟩:=bB' hF
   refine b8 SP rfl (iK (tc:=a0) p0 rfl rfl hy83 (a7 SP 1 rfl ?_));obtain⟨r84,hr84,hF⟩:=bB' hF
   exact b8 SP rfl (cZ (f8 _ _ hr84) ⟨⟨rfl,rfl,rfl,rfl,rfl,rfl,rfl,rfl,rfl,rfl,trivial⟩,trivial⟩ rfl (.inl rfl) (QP rfl (join (decide (r82<r84)) _ _ hF sw)))
  intro join hF
  refine wD 2 rfl ?_;obtain⟨y86,hy86,hF⟩:=bB' hF
  refine rS (iK (tc:=a0) p0 rfl rfl hy86 (a7 SV 2 rfl ?_));obtain⟨r87,hr87,hF⟩:=bB' hF
  refine rS (cZ (Ez _ _ hr87) ⟨⟨rfl,rfl,rfl,rfl,rfl,rfl,trivial⟩,trivial⟩ rfl (.inl rfl) (a7 SV 2 rfl ?_));cases h88:(!decide (r87=0))
  ·have hF:=bF' h88 hF;refine a7 SV 5 rfl ?_;cases h89:(decide (y71.j8.q6<0))
   ·have hF:=bF' h89 hF;refine a7 SV 5 rfl ?_;cases h90:(decide (1000000000000000<y71.j8.q6))
    ·have hF:=bF' h90 hF;refine a7 SV 5 rfl ?_;cases h91:(decide (y71.j8.j3<0))
     ·have hF:=bF' h91 hF;exact QV rfl (join (decide (1000000000000000<y71.j8.j3)) _ _ hF sw)
     have hF:=bT' h91 hF;exact QV rfl (join true _ _ hF sw)
    have hF:=bT' h90 hF;exact QV rfl (join true _ _ hF sw)
   have hF:=bT' h89 hF;exact QV rfl (join true _ _ hF sw)
  have hF:=bT' h88 hF;exact QV rfl (join true _ _ hF sw)
 exact kV (bQ (bQ (dJ (brk_0 _ _ _ (oi hF) sw))))
def qj(p0:(List a8)):Int→Option (Int ⊕ (Unit ⊕ Bool)):=fun a10 =>
  (bif (decide (a10<(List.length p0:Int)))then((idx p0 a10).bind fun y15=>(bif (decide (40<(List.length y15.j4.j5:Int)))then some (.inr (.inr false))else some (.inl (w64 (a10+1)))))else some (.inr (.inl ())))
def mW(p0:(List a8)):Option Bool :=
  (bif (decide (60<(List.length p0:Int)))then some false else((loop (qj p0) 0).bind fun | .inl _=>((jQ p0).bind fun r14=>some r14) | .inr rv=>some rv))
theorem GK(p0:(List a8))(r:Bool)(hF:mW p0=some r):Fun Try.prog 9 true [] [cL 10 a0 p0] noHeap (cB r) noHeap:=by
 refine fW Try.func9 ?_
 unfold mW at hF
 refine wA rfl (a9 (wC 1 rfl (rS (l9 (tc:=a0) p0 .tree (QV rfl (wIf hF rfl (fun _ hF=>?_) fun _ hF=>?_))))))
 ·refine wA rfl ?_;cases hF
  exact cQ wR
 refine b5 (a9 (wA rfl (pW (fun _ _ h=>h) hF (.inl) (fun a10=>[(0,cL 10 a0 p0),(3,cI a10)]) (fun a10=>[]) (fun _=>[(0,cL 10 a0 p0)]) (fun _=>[]) sw ?_ ?_)))
 ·rintro⟨⟩ hF
  refine wC 1 rfl ?_;obtain⟨r14,hr14,hF⟩:=bB hF
  refine rS (cZ (A9 _ _ hr14) ⟨rfl,trivial⟩ rfl (.inl rfl) (QV rfl ?_));cases hF
  exact cQ wR
 rintro a10 x_0 hF cont_0 brk_0 fin_0
 unfold qj at hF
 refine a9 (wC 2 rfl (rS (l9 (tc:=a0) p0 .tree (QV rfl (wIf hF rfl (fun _ hF=>?_) fun _ hF=>?_)))))
 ·refine b5 (a9 (gJ (wC 2 rfl ?_)));obtain⟨y15,hy15,hF⟩:=bB hF
  refine rS (iK (tc:=a0) p0 rfl rfl hy15 (a7 SV 3 rfl (rS (l9 (tc:=wW) y15.j4.j5 .tree (QV rfl (wIf hF rfl (fun _ hF=>?_) fun _ hF=>?_))))))
  ·refine wA rfl ?_;have hF:=fin_0 _ (oi hF);cases hF
   exact cQ wR
  exact b5 (wB rfl (cont_0 _ _ _ (oi hF) sw))
 exact kV (bQ (bQ (dJ (brk_0 _ _ _ (oi hF) sw))))
def nW:Option Bool:=some true
theorem uq(r:Bool)(hF:nW=some r):Fun Try.prog 10 true [] [] noHeap (cB r) noHeap:=by
 cases hF
 exact Go.RM.lives26 true
def o9(y:a8):EvS:=⟨y.j8.q6,y.j8.j3,y.j4.w8,y.j4.j9,y.j4.z5,y.j4.x5,y.j4.x6,.sl 1 (List.map wW y.j4.j5),y.j7.w7,y.j7.w9⟩
theorem axQ(l:List a8):l.map a0=(l.map o9).map Go.RM.rowE:=by
 rw[List.map_map];rfl
def pQ(y:Sl8):az:={q6:=y.th,q8:=y.par,z4:=y.dep,z5:=y.nm,z3:={z8:=y.fr,j6:=y.to},z7:=y.self,z6:=y.op}
theorem awQ(l:List Sl8):(l.map pQ).map aQ=l.map Go.RM.tSl8:=by
 rw[List.map_map];rfl
def N1(p0:(List a8))(p1:Int):Option (List az):=(Go.RM.sliceOfF (p0.map o9) p1).map fun r=>r.map pQ
theorem acW(p0:(List a8))(p1:Int)(r:(List az))(hF:N1 p0 p1=some r):Fun Try.prog 11 true [] [cL 10 a0 p0,cI p1] noHeap (cL 8 aQ r) noHeap:=by
 obtain⟨q,hq,rfl⟩:=aw.1 hF
 have h:=Go.RM.sliceOfF_fun hq true;rw[←axQ,←awQ]at h;exact h
def lW(p0:(List a8))(p1:Int):Option Int :=
  ((fK p0 p1).bind fun r1=>(bif (decide (r1<0))then((idx p0 p1).bind fun y2=>some y2.j8.j3)else((idx p0 p1).bind fun y3=>((idx p0 r1).bind fun y4=>some (w64 ((w64 (y3.j8.j3-y4.j8.j3))-1))))))
theorem E4(p0:(List a8))(p1:Int)(r:Int)(hF:lW p0 p1=some r):Fun Try.prog 58 true [] [cL 10 a0 p0,cI p1] noHeap (cI r) noHeap:=by
 refine fW Try.func58 ?_
 unfold lW at hF
 refine wA rfl (wC 2 rfl ?_);obtain⟨r1,hr1,hF⟩:=bB hF
 refine rS (cZ (mQ _ _ _ hr1) ⟨rfl,rfl,trivial⟩ rfl (.inl rfl) (QV rfl (a9 (wA rfl (wIf hF rfl (fun _ hF=>?_) fun _ hF=>?_)))))
 ·refine wC 2 rfl ?_;obtain⟨y2,hy2,hF⟩:=bB hF
  refine rS (iK (tc:=a0) p0 rfl rfl hy2 (QV rfl ?_));cases hF
  exact cQ wR
 refine b5 (a9 (xz (by decide) (by kernel_rfl) rfl (a7 SP 2 rfl ?_)));obtain⟨y3,hy3,hF⟩:=bB hF
 refine b8 SP trivial (iK (tc:=a0) p0 rfl rfl hy3 (a7 SP 5 rfl ?_));obtain⟨y4,hy4,hF⟩:=bB hF
 refine b8 SP trivial (iK (tc:=a0) p0 rfl rfl hy4 (QP rfl ?_));cases hF
 exact cQ wR
def mX(p0:(List aq))(p1:Int):Int→Option (Int ⊕ (Unit ⊕ Int)):=fun a16 =>
  (bif (decide (0≤a16))then((((idx p0 a16).bind fun y25=>(bif (decide (y25.q7.q6=p1))then((idx p0 a16).bind fun y27=>some (!y27.z9))else some false)):Option Bool).bind fun v23=>(bif v23 then some (.inr (.inr a16))else some (.inl (w64 (a16-1)))))else some (.inr (.inl ())))
def cY(p0:(List aq))(p1:Int):Option Int :=
  ((loop (mX p0 p1) (w64 ((List.length p0:Int)-1))).bind fun | .inl _=>some (-1) | .inr rv=>some rv)
theorem gZ(p0:(List aq))(p1:Int)(r:Int)(hF:cY p0 p1=some r):Fun Try.prog 60 true [] [cL 9 ax p0,cI p1] noHeap (cI r) noHeap:=by
 refine fW Try.func60 ?_
 unfold cY at hF
 refine wA rfl (a9 (wC 1 rfl (rS (l9 (tc:=ax) p0 .tree (QV rfl (pW (fun _ _ h=>h) hF (.inl) (fun a16=>[(0,cL 9 ax p0),(1,cI p1),(5,cI a16)]) (fun a16=>[]) (fun _=>[]) (fun _=>[]) sw ?_ ?_))))))
 ·rintro⟨⟩ hF
  refine wA rfl ?_;cases hF
  exact cQ wR
 rintro a16 x_0 hF cont_0 brk_0 fin_0
 unfold mX at hF
 refine a9 (wA rfl (wIf hF rfl (fun _ hF=>?_) fun _ hF=>?_))
 ·refine b5 (a9 (gJ (a9 (e9 (fun _ _ h=>h) hF (fun v23=>[(0,cL 9 ax p0),(1,cI p1),(5,cI a16),(28,cB v23)]) (fun v23=>[]) ?_ ?_))))
  ·rintro v23 hF
   refine wIf hF rfl (fun _ hF=>?_) fun _ hF=>?_
   ·refine wA rfl ?_;have hF:=fin_0 _ (oi hF);cases hF
    exact cQ wR
   exact b5 (wB rfl (cont_0 _ _ _ (oi hF) sw))
  intro join hF
  refine wD 2 rfl ?_;obtain⟨y25,hy25,hF⟩:=bB' hF
  refine rS (iK (tc:=ax) p0 rfl rfl hy25 (a7 SV 6 rfl ?_));cases h26:(decide (y25.q7.q6=p1))
  ·have hF:=bF' h26 hF;exact QV rfl (join false _ _ hF sw)
  have hF:=bT' h26 hF;refine a7 SV 2 rfl ?_;obtain⟨y27,hy27,hF⟩:=bB' hF
  exact b8 SV rfl (iK (tc:=ax) p0 rfl rfl hy27 (QV rfl (join (!y27.z9) _ _ hF sw)))
 exact kV (bQ (bQ (dJ (brk_0 _ _ _ (oi hF) sw))))
def o3(p1:Int)(p2:Int):((List aq)×Int)→Option (((List aq)×Int) ⊕ (List aq)):=fun(a19,a20) =>
  (bif (decide (0≤a20))then((idx a19 a20).bind fun y27=>((idx (List.set a19 (Int.toNat a20) ({q7:=({q6:=y27.q7.q6,q8:=y27.q7.q8,z4:=y27.q7.z4,z5:=y27.q7.z5,z3:=({z8:=y27.q7.z3.z8,j6:=p2}:dK),z7:=y27.q7.z7,z6:=y27.q7.z6}:az),z9:=y27.z9}:aq)) a20).bind fun y28=>((idx (List.set (List.set a19 (Int.toNat a20) ({q7:=({q6:=y27.q7.q6,q8:=y27.q7.q8,z4:=y27.q7.z4,z5:=y27.q7.z5,z3:=({z8:=y27.q7.z3.z8,j6:=p2}:dK),z7:=y27.q7.z7,z6:=y27.q7.z6}:az),z9:=y27.z9}:aq)) (Int.toNat a20) ({q7:=({q6:=y28.q7.q6,q8:=y28.q7.q8,z4:=y28.q7.z4,z5:=y28.q7.z5,z3:=y28.q7.z3,z7:=y28.q7.z7,z6:=true}:az),z9:=y28.z9}:aq)) a20).bind fun y29=>((cY (List.set (List.set (List.set a19 (Int.toNat a20) ({q7:=({q6:=y27.q7.q6,q8:=y27.q7.q8,z4:=y27.q7.z4,z5:=y27.q7.z5,z3:=({z8:=y27.q7.z3.z8,j6:=p2}:dK),z7:=y27.q7.z7,z6:=y27.q7.z6}:az),z9:=y27.z9}:aq)) (Int.toNat a20) ({q7:=({q6:=y28.q7.q6,q8:=y28.q7.q8,z4:=y28.q7.z4,z5:=y28.q7.z5,z3:=y28.q7.z3,z7:=y28.q7.z7,z6:=true}:az),z9:=y28.z9}:aq)) (Int.toNat a20) ({q7:=y29.q7,z9:=true}:aq)) p1).bind fun r30=>some (.inl ((List.set (List.set (List.set a19 (Int.toNat a20) ({q7:=({q6:=y27.q7.q6,q8:=y27.q7.q8,z4:=y27.q7.z4,z5:=y27.q7.z5,z3:=({z8:=y27.q7.z3.z8,j6:=p2}:dK),z7:=y27.q7.z7,z6:=y27.q7.z6}:az),z9:=y27.z9}:aq)) (Int.toNat a20) ({q7:=({q6:=y28.q7.q6,q8:=y28.q7.q8,z4:=y28.q7.z4,z5:=y28.q7.z5,z3:=y28.q7.z3,z7:=y28.q7.z7,z6:=true}:az),z9:=y28.z9}:aq)) (Int.toNat a20) ({q7:=y29.q7,z9:=true}:aq)),r30))))))else some (.inr a19))
def i8(p0:(List aq))(p1:Int)(p2:Int):Option (List aq) :=
  (bif WY 80 (List.length ([]:List aq)+List.length p0)then((cY ([]++p0) p1).bind fun r2=>((loop (o3 p1 p2) (([]++p0),r2)).bind fun e26=>some e26))else none)
theorem D4(p0:(List aq))(p1:Int)(p2:Int)(r:(List aq))(hF:i8 p0 p1 p2=some r):Fun Try.prog 59 false [] [cL 9 ax p0,cI p1,cI p2] (aZ []) (cO (902,2360)) (aZ [((902,2360),.arr 80 9 (List.map ax r))]):=by
 refine x6 [] (some []) Try.func59 ?_
 unfold i8 at hF
 refine wA rfl (wE ?_);refine rS (ZX (tc:=ax) [] rfl trivial rfl (fun _=>rfl) rfl (a7 SV 1 rfl ?_));obtain⟨h1,hF⟩:=adQ hF
 refine rS (V1 (tc:=ax) [] p0 rfl rfl .tree h1 rfl (QV rfl (a9 (wC 2 rfl ?_))));obtain⟨r2,hr2,hF⟩:=bB hF
 refine rS (cZ (gZ _ _ _ hr2) ⟨⟨_,rfl⟩,rfl,trivial⟩ rfl (.inl rfl) (QV rfl (pW (fun _ _ h=>h) hF (id) (fun(a19,a20)=>[(1,cI p1),(2,cI p2),(7,cO (11,0)),(8,cI a20)]) (fun(a19,a20)=>[((11,0),.arr 80 9 (List.map ax a19))]) (fun e26=>[(7,cO (11,0))]) (fun e26=>[((11,0),.arr 80 9 (List.map ax e26))]) sw ?_ ?_)))
 ·rintro e26 hF
  refine wA rfl ?_;cases hF
  exact cQ ⟨_,_,(UY (11,0) (902,2360) rfl rfl adz),_,rfl,rfl,rfl,(AgM.weak ⟨rfl,trivial⟩)⟩
 rintro⟨a19,a20⟩ x_0 hF cont_0 brk_0 fin_0
 unfold o3 at hF
 refine a9 (wA rfl (wIf hF rfl (fun _ hF=>?_) fun _ hF=>?_))
 ·refine b5 (a9 (gJ (wC 3 rfl ?_)));obtain⟨y27,hy27,hF⟩:=bB hF
  refine rS (rQ (tc:=ax) a19 rfl rfl rfl hy27 (a7 SV 3 rfl (rS (EW (tc:=ax) a19 ({q7:=({q6:=y27.q7.q6,q8:=y27.q7.q8,z4:=y27.q7.z4,z5:=y27.q7.z5,z3:=({z8:=y27.q7.z3.z8,j6:=p2}:dK),z7:=y27.q7.z7,z6:=y27.q7.z6}:az),z9:=y27.z9}:aq) rfl rfl (idx_get hy27).2.1 rfl rfl rfl rfl rfl (QV rfl (wC 2 rfl ?_))))));obtain⟨y28,hy28,hF⟩:=bB hF
  refine rS (rQ (tc:=ax) (List.set a19 (Int.toNat a20) ({q7:=({q6:=y27.q7.q6,q8:=y27.q7.q8,z4:=y27.q7.z4,z5:=y27.q7.z5,z3:=({z8:=y27.q7.z3.z8,j6:=p2}:dK),z7:=y27.q7.z7,z6:=y27.q7.z6}:az),z9:=y27.z9}:aq)) rfl rfl rfl hy28 (a7 SV 2 rfl (rS (EW (tc:=ax) (List.set a19 (Int.toNat a20) ({q7:=({q6:=y27.q7.q6,q8:=y27.q7.q8,z4:=y27.q7.z4,z5:=y27.q7.z5,z3:=({z8:=y27.q7.z3.z8,j6:=p2}:dK),z7:=y27.q7.z7,z6:=y27.q7.z6}:az),z9:=y27.z9}:aq)) ({q7:=({q6:=y28.q7.q6,q8:=y28.q7.q8,z4:=y28.q7.z4,z5:=y28.q7.z5,z3:=y28.q7.z3,z7:=y28.q7.z7,z6:=true}:az),z9:=y28.z9}:aq) rfl rfl (idx_get hy28).2.1 rfl rfl rfl rfl rfl (QV rfl (wD 2 rfl ?_))))));obtain⟨y29,hy29,hF⟩:=bB hF
  refine rS (rQ (tc:=ax) (List.set (List.set a19 (Int.toNat a20) ({q7:=({q6:=y27.q7.q6,q8:=y27.q7.q8,z4:=y27.q7.z4,z5:=y27.q7.z5,z3:=({z8:=y27.q7.z3.z8,j6:=p2}:dK),z7:=y27.q7.z7,z6:=y27.q7.z6}:az),z9:=y27.z9}:aq)) (Int.toNat a20) ({q7:=({q6:=y28.q7.q6,q8:=y28.q7.q8,z4:=y28.q7.z4,z5:=y28.q7.z5,z3:=y28.q7.z3,z7:=y28.q7.z7,z6:=true}:az),z9:=y28.z9}:aq)) rfl rfl rfl hy29 (a7 SV 1 rfl (rS (EW (tc:=ax) (List.set (List.set a19 (Int.toNat a20) ({q7:=({q6:=y27.q7.q6,q8:=y27.q7.q8,z4:=y27.q7.z4,z5:=y27.q7.z5,z3:=({z8:=y27.q7.z3.z8,j6:=p2}:dK),z7:=y27.q7.z7,z6:=y27.q7.z6}:az),z9:=y27.z9}:aq)) (Int.toNat a20) ({q7:=({q6:=y28.q7.q6,q8:=y28.q7.q8,z4:=y28.q7.z4,z5:=y28.q7.z5,z3:=y28.q7.z3,z7:=y28.q7.z7,z6:=true}:az),z9:=y28.z9}:aq)) ({q7:=y29.q7,z9:=true}:aq) rfl rfl (idx_get hy29).2.1 rfl rfl rfl rfl rfl ?_))));refine QV rfl (wD 2 rfl ?_);obtain⟨r30,hr30,hF⟩:=bB hF
  exact rS (cZ (gZ _ _ _ hr30) ⟨⟨_,rfl⟩,rfl,trivial⟩ rfl (.inl rfl) (QV rfl (cont_0 _ _ _ (oi hF) sw)))
 exact kV (bQ (bQ (dJ (brk_0 _ _ _ (oi hF) sw))))
def nj(p0:(List a8))(p1:Int):Option Int :=
  (((bif (decide (0<(List.length p0:Int)))then((idx p0 (w64 ((List.length p0:Int)-1))).bind fun y8=>((dZ y8).bind fun r9=>some (decide (p1<r9))))else some false):Option Bool).bind fun v1=>(((bif v1 then((idx p0 (w64 ((List.length p0:Int)-1))).bind fun y4=>((dZ y4).bind fun r5=>some r5))else some p1):Option Int).bind fun v2=>(bif (decide (1000000000000<v2))then some 1000000000000 else some v2)))
theorem GQ(p0:(List a8))(p1:Int)(r:Int)(hF:nj p0 p1=some r):Fun Try.prog 61 true [] [cL 10 a0 p0,cI p1] noHeap (cI r) noHeap:=by
 refine fW Try.func61 ?_
 unfold nj at hF
 refine wA rfl (a9 (a9 (e9 (fun _ _ h=>h) hF (fun v1=>[(0,cL 10 a0 p0),(1,cI p1),(18,cB v1)]) (fun v1=>[]) ?_ ?_)))
 ·rintro v1 hF
  refine e9 (fun _ _ h=>h) hF (fun v2=>[(1,cI v2)]) (fun v2=>[]) ?_ ?_
  ·rintro v2 hF
   refine a9 (wA rfl (wIf hF rfl (fun _ hF=>?_) fun _ hF=>?_))
   ·refine wA rfl ?_;cases hF
    exact cQ wR
   refine b5 (wA rfl ?_);cases hF
   exact cQ wR
  intro join hF
  refine L8 hF rfl (fun _ hF=>?_) fun _ hF=>?_
  ·refine wD 2 rfl (rS (l9 (tc:=a0) p0 .tree (a7 SV 1 rfl ?_)));obtain⟨y4,hy4,hF⟩:=bB' hF
   refine rS (iK (tc:=a0) p0 rfl rfl hy4 (a7 SV 1 rfl ?_));obtain⟨r5,hr5,hF⟩:=bB' hF
   exact rS (cZ (f8 _ _ hr5) ⟨⟨rfl,rfl,rfl,rfl,rfl,rfl,rfl,rfl,rfl,rfl,trivial⟩,trivial⟩ rfl (.inl rfl) (QV rfl (join r5 _ _ hF sw)))
  exact b5 (join p1 _ _ hF sw)
 intro join hF
 refine wD 1 rfl (rS (l9 (tc:=a0) p0 .tree (a7 SV 2 rfl ?_)));cases h7:(decide (0<(List.length p0:Int)))
 ·have hF:=bF' h7 hF;exact QV rfl (join false _ _ hF sw)
 have hF:=bT' h7 hF;refine a7 SV 2 rfl (b8 SV rfl (l9 (tc:=a0) p0 .tree (a7 SV 1 rfl ?_)));obtain⟨y8,hy8,hF⟩:=bB' hF
 refine b8 SV rfl (iK (tc:=a0) p0 rfl rfl hy8 (a7 SV 1 rfl ?_));obtain⟨r9,hr9,hF⟩:=bB' hF
 exact b8 SV rfl (cZ (f8 _ _ hr9) ⟨⟨rfl,rfl,rfl,rfl,rfl,rfl,rfl,rfl,rfl,rfl,trivial⟩,trivial⟩ rfl (.inl rfl) (QV rfl (join (decide (p1<r9)) _ _ hF sw)))
def sq(p1:Int)(p2:Int):((List aq)×Int)→Option (((List aq)×Int) ⊕ (List aq)):=fun(a19,a20) =>
  (bif (decide (0≤a20))then((idx a19 a20).bind fun y27=>((idx (List.set a19 (Int.toNat a20) ({q7:=({q6:=y27.q7.q6,q8:=y27.q7.q8,z4:=y27.q7.z4,z5:=y27.q7.z5,z3:=({z8:=y27.q7.z3.z8,j6:=p2}:dK),z7:=y27.q7.z7,z6:=y27.q7.z6}:az),z9:=y27.z9}:aq)) a20).bind fun y28=>((idx (List.set (List.set a19 (Int.toNat a20) ({q7:=({q6:=y27.q7.q6,q8:=y27.q7.q8,z4:=y27.q7.z4,z5:=y27.q7.z5,z3:=({z8:=y27.q7.z3.z8,j6:=p2}:dK),z7:=y27.q7.z7,z6:=y27.q7.z6}:az),z9:=y27.z9}:aq)) (Int.toNat a20) ({q7:=({q6:=y28.q7.q6,q8:=y28.q7.q8,z4:=y28.q7.z4,z5:=y28.q7.z5,z3:=y28.q7.z3,z7:=y28.q7.z7,z6:=true}:az),z9:=y28.z9}:aq)) a20).bind fun y29=>((cY (List.set (List.set (List.set a19 (Int.toNat a20) ({q7:=({q6:=y27.q7.q6,q8:=y27.q7.q8,z4:=y27.q7.z4,z5:=y27.q7.z5,z3:=({z8:=y27.q7.z3.z8,j6:=p2}:dK),z7:=y27.q7.z7,z6:=y27.q7.z6}:az),z9:=y27.z9}:aq)) (Int.toNat a20) ({q7:=({q6:=y28.q7.q6,q8:=y28.q7.q8,z4:=y28.q7.z4,z5:=y28.q7.z5,z3:=y28.q7.z3,z7:=y28.q7.z7,z6:=true}:az),z9:=y28.z9}:aq)) (Int.toNat a20) ({q7:=y29.q7,z9:=true}:aq)) p1).bind fun r30=>some (.inl ((List.set (List.set (List.set a19 (Int.toNat a20) ({q7:=({q6:=y27.q7.q6,q8:=y27.q7.q8,z4:=y27.q7.z4,z5:=y27.q7.z5,z3:=({z8:=y27.q7.z3.z8,j6:=p2}:dK),z7:=y27.q7.z7,z6:=y27.q7.z6}:az),z9:=y27.z9}:aq)) (Int.toNat a20) ({q7:=({q6:=y28.q7.q6,q8:=y28.q7.q8,z4:=y28.q7.z4,z5:=y28.q7.z5,z3:=y28.q7.z3,z7:=y28.q7.z7,z6:=true}:az),z9:=y28.z9}:aq)) (Int.toNat a20) ({q7:=y29.q7,z9:=true}:aq)),r30))))))else some (.inr a19))
def kW(p0:(List aq))(p1:Int)(p2:Int):Option (List aq) :=
  (bif WY 80 (List.length ([]:List aq)+List.length p0)then((cY ([]++p0) p1).bind fun r2=>((loop (sq p1 p2) (([]++p0),r2)).bind fun e26=>some e26))else none)
theorem AY(p0:(List aq))(p1:Int)(p2:Int)(r:(List aq))(hF:kW p0 p1 p2=some r):Fun Try.prog 59 true [] [cL 9 ax p0,cI p1,cI p2] noHeap (cL 9 ax r) noHeap:=by
 refine fW Try.func59 ?_
 unfold kW at hF
 refine wA rfl (wE ?_);refine rS (ZX (tc:=ax) [] rfl trivial rfl (fun _=>rfl) rfl (a7 SV 1 rfl ?_));obtain⟨h1,hF⟩:=adQ hF
 refine rS (V1 (tc:=ax) [] p0 rfl rfl .tree h1 rfl (QV rfl (a9 (wC 2 rfl ?_))));obtain⟨r2,hr2,hF⟩:=bB hF
 refine rS (cZ (gZ _ _ _ hr2) ⟨⟨_,rfl⟩,rfl,trivial⟩ rfl (.inl rfl) (QV rfl (pW (fun _ _ h=>h) hF (id) (fun(a19,a20)=>[(1,cI p1),(2,cI p2),(7,cO (11,0)),(8,cI a20)]) (fun(a19,a20)=>[((11,0),.arr 80 9 (List.map ax a19))]) (fun e26=>[(7,cO (11,0))]) (fun e26=>[((11,0),.arr 80 9 (List.map ax e26))]) sw ?_ ?_)))
 ·rintro e26 hF
  refine wA rfl ?_;cases hF
  exact cQ ⟨_,rfl,rfl,⟨⟨_,rfl⟩,fun _ _ h=>by simp[noHeap]at h,rfl,fun _=>by simp[-List.map_set,ax,KW]⟩,asK _⟩
 rintro⟨a19,a20⟩ x_0 hF cont_0 brk_0 fin_0
 unfold sq at hF
 refine a9 (wA rfl (wIf hF rfl (fun _ hF=>?_) fun _ hF=>?_))
 ·refine b5 (a9 (gJ (wC 3 rfl ?_)));obtain⟨y27,hy27,hF⟩:=bB hF
  refine rS (rQ (tc:=ax) a19 rfl rfl rfl hy27 (a7 SV 3 rfl (rS (EW (tc:=ax) a19 ({q7:=({q6:=y27.q7.q6,q8:=y27.q7.q8,z4:=y27.q7.z4,z5:=y27.q7.z5,z3:=({z8:=y27.q7.z3.z8,j6:=p2}:dK),z7:=y27.q7.z7,z6:=y27.q7.z6}:az),z9:=y27.z9}:aq) rfl rfl (idx_get hy27).2.1 rfl rfl rfl rfl rfl (QV rfl (wC 2 rfl ?_))))));obtain⟨y28,hy28,hF⟩:=bB hF
  refine rS (rQ (tc:=ax) (List.set a19 (Int.toNat a20) ({q7:=({q6:=y27.q7.q6,q8:=y27.q7.q8,z4:=y27.q7.z4,z5:=y27.q7.z5,z3:=({z8:=y27.q7.z3.z8,j6:=p2}:dK),z7:=y27.q7.z7,z6:=y27.q7.z6}:az),z9:=y27.z9}:aq)) rfl rfl rfl hy28 (a7 SV 2 rfl (rS (EW (tc:=ax) (List.set a19 (Int.toNat a20) ({q7:=({q6:=y27.q7.q6,q8:=y27.q7.q8,z4:=y27.q7.z4,z5:=y27.q7.z5,z3:=({z8:=y27.q7.z3.z8,j6:=p2}:dK),z7:=y27.q7.z7,z6:=y27.q7.z6}:az),z9:=y27.z9}:aq)) ({q7:=({q6:=y28.q7.q6,q8:=y28.q7.q8,z4:=y28.q7.z4,z5:=y28.q7.z5,z3:=y28.q7.z3,z7:=y28.q7.z7,z6:=true}:az),z9:=y28.z9}:aq) rfl rfl (idx_get hy28).2.1 rfl rfl rfl rfl rfl (QV rfl (wD 2 rfl ?_))))));obtain⟨y29,hy29,hF⟩:=bB hF
  refine rS (rQ (tc:=ax) (List.set (List.set a19 (Int.toNat a20) ({q7:=({q6:=y27.q7.q6,q8:=y27.q7.q8,z4:=y27.q7.z4,z5:=y27.q7.z5,z3:=({z8:=y27.q7.z3.z8,j6:=p2}:dK),z7:=y27.q7.z7,z6:=y27.q7.z6}:az),z9:=y27.z9}:aq)) (Int.toNat a20) ({q7:=({q6:=y28.q7.q6,q8:=y28.q7.q8,z4:=y28.q7.z4,z5:=y28.q7.z5,z3:=y28.q7.z3,z7:=y28.q7.z7,z6:=true}:az),z9:=y28.z9}:aq)) rfl rfl rfl hy29 (a7 SV 1 rfl (rS (EW (tc:=ax) (List.set (List.set a19 (Int.toNat a20) ({q7:=({q6:=y27.q7.q6,q8:=y27.q7.q8,z4:=y27.q7.z4,z5:=y27.q7.z5,z3:=({z8:=y27.q7.z3.z8,j6:=p2}:dK),z7:=y27.q7.z7,z6:=y27.q7.z6}:az),z9:=y27.z9}:aq)) (Int.toNat a20) ({q7:=({q6:=y28.q7.q6,q8:=y28.q7.q8,z4:=y28.q7.z4,z5:=y28.q7.z5,z3:=y28.q7.z3,z7:=y28.q7.z7,z6:=true}:az),z9:=y28.z9}:aq)) ({q7:=y29.q7,z9:=true}:aq) rfl rfl (idx_get hy29).2.1 rfl rfl rfl rfl rfl ?_))));refine QV rfl (wD 2 rfl ?_);obtain⟨r30,hr30,hF⟩:=bB hF
  exact rS (cZ (gZ _ _ _ hr30) ⟨⟨_,rfl⟩,rfl,trivial⟩ rfl (.inl rfl) (QV rfl (cont_0 _ _ _ (oi hF) sw)))
 exact kV (bQ (bQ (dJ (brk_0 _ _ _ (oi hF) sw))))
def oJ(p0:(List a8))(p1:Int):((List aq)×Int)→Option (((List aq)×Int) ⊕ (List aq)):=fun(a108,a109) =>
  (bif (decide (a109<(List.length a108:Int)))then((idx a108 a109).bind fun y115=>((nj p0 p1).bind fun r116=>((kW a108 y115.q7.q6 r116).bind fun r117=>some (.inl (r117,(w64 (a109+1)))))))else some (.inr a108))
def gK(p0:(List a8)):((List aq)×Int)→Option (((List aq)×Int) ⊕ (List aq)):=fun(a63,a64) =>
  (bif (decide (a64<(List.length p0:Int)))then((((idx p0 a64).bind fun y120=>((fK p0 a64).bind fun r121=>(((bif (decide (0≤r121))then((lW p0 a64).bind fun r145=>some (decide (0<r145)))else some false):Option Bool).bind fun v122=>(((bif v122 then((idx p0 r121).bind fun y140=>((dZ y140).bind fun r141=>((i8 a63 y120.j8.q6 r141).bind fun r142=>some r142)))else some a63):Option (List aq)).bind fun v123=>((cY v123 y120.j8.q6).bind fun r124=>((idx p0 a64).bind fun y125=>(((bif (decide (y125.j4.j9=1))then((idx p0 a64).bind fun y135=>((idx p0 a64).bind fun y136=>((dZ y136).bind fun r137=>(bif WY 80 (List.length v123+List.length [({q7:=({q6:=y120.j8.q6,q8:=r124,z4:=0,z5:=y135.j4.z5,z3:=({z8:=r137,j6:=0}:dK),z7:=0,z6:=false}:az),z9:=false}:aq)])then some (v123++[({q7:=({q6:=y120.j8.q6,q8:=r124,z4:=0,z5:=y135.j4.z5,z3:=({z8:=r137,j6:=0}:dK),z7:=0,z6:=false}:az),z9:=false}:aq)])else none))))else some v123):Option (List aq)).bind fun v126=>((((idx p0 a64).bind fun y133=>(bif (decide (y133.j4.j9=2))then some (decide (0≤r124))else some false)):Option Bool).bind fun v127=>(bif v127 then((idx p0 a64).bind fun y128=>((dZ y128).bind fun r129=>((idx v126 r124).bind fun y130=>((idx (List.set v126 (Int.toNat r124) ({q7:=({q6:=y130.q7.q6,q8:=y130.q7.q8,z4:=y130.q7.z4,z5:=y130.q7.z5,z3:=({z8:=y130.q7.z3.z8,j6:=r129}:dK),z7:=y130.q7.z7,z6:=y130.q7.z6}:az),z9:=y130.z9}:aq)) r124).bind fun y131=>some (List.set (List.set v126 (Int.toNat r124) ({q7:=({q6:=y130.q7.q6,q8:=y130.q7.q8,z4:=y130.q7.z4,z5:=y130.q7.z5,z3:=({z8:=y130.q7.z3.z8,j6:=r129}:dK),z7:=y130.q7.z7,z6:=y130.q7.z6}:az),z9:=y130.z9}:aq)) (Int.toNat r124) ({q7:=y131.q7,z9:=true}:aq))))))else some v126))))))))):Option (List aq)).bind fun v119=>some (.inl (v119,(w64 (a64+1)))))else some (.inr a63))
def kJ(p0:(List a8))(p1:Int):Option (List aq) :=
  ((loop (gK p0) ([],0)).bind fun e93=>((loop (oJ p0 p1) (e93,0)).bind fun e114=>some e114))
theorem D1(p0:(List a8))(p1:Int)(r:(List aq))(hF:kJ p0 p1=some r):Fun Try.prog 36 false [] [cL 10 a0 p0,cI p1] noHeap (cL 9 ax r) noHeap:=by
 refine fW Try.func36 ?_
 unfold kJ at hF
 refine wA rfl (wA rfl (a9 (wA rfl (pW (fun _ _ h=>h) hF (id) (fun(a63,a64)=>[(0,cL 10 a0 p0),(1,cI p1),(5,cO (41,1)),(6,cI a64)]) (fun(a63,a64)=>[((41,1),.arr 80 9 (List.map ax a63))]) (fun e93=>[(0,cL 10 a0 p0),(1,cI p1),(5,cO (41,1))]) (fun e93=>[((41,1),.arr 80 9 (List.map ax e93))]) (aOX 5 (41,1) 80 9 rfl rfl rfl rfl sw) ?_ ?_))))
 ·rintro e93 hF
  refine a9 (wA rfl ?_);refine pW (fun _ _ h=>h) hF (id) (fun(a108,a109)=>[(0,cL 10 a0 p0),(1,cI p1),(5,cL 9 ax a108),(10,cI a109)]) (fun(a108,a109)=>[]) (fun e114=>[(5,cL 9 ax e114)]) (fun e114=>[]) (aTq (41,1) rfl rfl sw) ?_ ?_
  ·rintro e114 hF
   refine wA rfl ?_;cases hF
   exact cQ ⟨_,rfl,rfl,⟨rfl,fun h=>(by cases h)⟩,asK _⟩
  rintro⟨a108,a109⟩ x_0 hF cont_0 brk_0 fin_0
  unfold oJ at hF
  refine a9 (wC 2 rfl (rS (l9 (tc:=ax) a108 .tree (QV rfl (wIf hF rfl (fun _ hF=>?_) fun _ hF=>?_)))))
  ·refine b5 (a9 (gJ (xz (by decide) (by kernel_rfl) rfl (a7 SP 3 rfl ?_))));obtain⟨y115,hy115,hF⟩:=bB hF
   refine b8 SP trivial (iK (tc:=ax) a108 rfl rfl hy115 (a7 SP 5 rfl ?_));obtain⟨r116,hr116,hF⟩:=bB hF
   refine b8 SP trivial (cZ (GQ _ _ _ hr116) ⟨rfl,rfl,trivial⟩ rfl (.inl rfl) ?_);obtain⟨r117,hr117,hF⟩:=bB hF
   exact b8 SP trivial (cZ (AY _ _ _ _ hr117) ⟨rfl,rfl,rfl,trivial⟩ rfl (.inl rfl) (QP rfl (wB rfl (cont_0 _ _ _ (oi hF) sw))))
  exact kV (bQ (bQ (dJ (brk_0 _ _ _ (oi hF) sw))))
 rintro⟨a63,a64⟩ x_0 hF cont_0 brk_0 fin_0
 unfold gK at hF
 refine a9 (wC 2 rfl (rS (l9 (tc:=a0) p0 .tree (QV rfl (wIf hF rfl (fun _ hF=>?_) fun _ hF=>?_)))))
 ·refine b5 (a9 (e9 (fun _ _ h=>h) hF (fun v119=>[(0,cL 10 a0 p0),(1,cI p1),(5,cO (41,1)),(6,cI a64)]) (fun v119=>[((41,1),.arr 80 9 (List.map ax v119))]) ?_ ?_))
  ·rintro v119 hF
   exact wB rfl (cont_0 _ _ _ (oi hF) sw)
  intro join hF
  refine gJ (wC 2 rfl ?_);obtain⟨y120,hy120,hF⟩:=bB' hF
  refine rS (iK (tc:=a0) p0 rfl rfl hy120 (QV rfl (wC 2 rfl ?_)));obtain⟨r121,hr121,hF⟩:=bB' hF
  refine rS (cZ (mQ _ _ _ hr121) ⟨rfl,rfl,trivial⟩ rfl (.inl rfl) (QV rfl (a9 (a9 ?_))));have hF:=bA hF;refine e9 (fun _ _ h=>h) hF (fun v122=>[(0,cL 10 a0 p0),(1,cI p1),(5,cO (41,1)),(6,cI a64),(7,cI y120.j8.q6),(8,cI r121),(33,cB v122)]) (fun v122=>[((41,1),.arr 80 9 (List.map ax a63))]) ?_ ?_
  ·rintro v122 hF
   have hF:=bA hF;refine e9 (fun _ _ h=>h) hF (fun v123=>[(0,cL 10 a0 p0),(1,cI p1),(5,cO (41,1)),(6,cI a64),(7,cI y120.j8.q6)]) (fun v123=>[((41,1),.arr 80 9 (List.map ax v123))]) ?_ ?_
   ·rintro v123 hF
    refine wC 2 rfl ?_;obtain⟨r124,hr124,hF⟩:=bB' hF
    refine rS (cZ (gZ _ _ _ hr124) ⟨⟨_,rfl⟩,rfl,trivial⟩ rfl (.inl rfl) (QV rfl (a9 (wC 2 rfl ?_))));obtain⟨y125,hy125,hF⟩:=bB' hF
    refine rS (iK (tc:=a0) p0 rfl rfl hy125 (QV rfl ?_));have hF:=bA hF;refine e9 (fun _ _ h=>h) hF (fun v126=>[(0,cL 10 a0 p0),(1,cI p1),(5,cO (41,1)),(6,cI a64),(9,cI r124)]) (fun v126=>[((41,1),.arr 80 9 (List.map ax v126))]) ?_ ?_
    ·rintro v126 hF
     refine a9 ?_;have hF:=bA hF;refine e9 (fun _ _ h=>h) hF (fun v127=>[(0,cL 10 a0 p0),(1,cI p1),(5,cO (41,1)),(6,cI a64),(9,cI r124),(81,cB v127)]) (fun v127=>[((41,1),.arr 80 9 (List.map ax v126))]) ?_ ?_
     ·rintro v127 hF
      refine L8 hF rfl (fun _ hF=>?_) fun _ hF=>?_
      ·refine wC 4 rfl ?_;obtain⟨y128,hy128,hF⟩:=bB' hF
       refine rS (iK (tc:=a0) p0 rfl rfl hy128 (a7 SV 1 rfl ?_));obtain⟨r129,hr129,hF⟩:=bB' hF
       refine rS (cZ (f8 _ _ hr129) ⟨⟨rfl,rfl,rfl,rfl,rfl,rfl,rfl,rfl,rfl,rfl,trivial⟩,trivial⟩ rfl (.inl rfl) ?_);obtain⟨y130,hy130,hF⟩:=bB' hF
       refine rS (rQ (tc:=ax) v126 rfl rfl rfl hy130 (a7 SV 3 rfl (rS (EW (tc:=ax) v126 ({q7:=({q6:=y130.q7.q6,q8:=y130.q7.q8,z4:=y130.q7.z4,z5:=y130.q7.z5,z3:=({z8:=y130.q7.z3.z8,j6:=r129}:dK),z7:=y130.q7.z7,z6:=y130.q7.z6}:az),z9:=y130.z9}:aq) rfl rfl (idx_get hy130).2.1 rfl rfl rfl rfl rfl (QV rfl (wD 2 rfl ?_))))));obtain⟨y131,hy131,hF⟩:=bB' hF
       exact rS (rQ (tc:=ax) (List.set v126 (Int.toNat r124) ({q7:=({q6:=y130.q7.q6,q8:=y130.q7.q8,z4:=y130.q7.z4,z5:=y130.q7.z5,z3:=({z8:=y130.q7.z3.z8,j6:=r129}:dK),z7:=y130.q7.z7,z6:=y130.q7.z6}:az),z9:=y130.z9}:aq)) rfl rfl rfl hy131 (a7 SV 1 rfl (rS (EW (tc:=ax) (List.set v126 (Int.toNat r124) ({q7:=({q6:=y130.q7.q6,q8:=y130.q7.q8,z4:=y130.q7.z4,z5:=y130.q7.z5,z3:=({z8:=y130.q7.z3.z8,j6:=r129}:dK),z7:=y130.q7.z7,z6:=y130.q7.z6}:az),z9:=y130.z9}:aq)) ({q7:=y131.q7,z9:=true}:aq) rfl rfl (idx_get hy131).2.1 rfl rfl rfl rfl rfl (QV rfl (join (List.set (List.set v126 (Int.toNat r124) ({q7:=({q6:=y130.q7.q6,q8:=y130.q7.q8,z4:=y130.q7.z4,z5:=y130.q7.z5,z3:=({z8:=y130.q7.z3.z8,j6:=r129}:dK),z7:=y130.q7.z7,z6:=y130.q7.z6}:az),z9:=y130.z9}:aq)) (Int.toNat r124) ({q7:=y131.q7,z9:=true}:aq)) _ _ hF sw))))))
      exact b5 (join v126 _ _ hF sw)
     intro join hF
     refine wD 2 rfl ?_;obtain⟨y133,hy133,hF⟩:=bB' hF
     refine rS (iK (tc:=a0) p0 rfl rfl hy133 (a7 SV 5 rfl ?_));cases h134:(decide (y133.j4.j9=2))
     ·have hF:=bF' h134 hF;exact QV rfl (join false _ _ hF sw)
     have hF:=bT' h134 hF;exact QV rfl (join (decide (0≤r124)) _ _ hF sw)
    intro join hF
    refine L8 hF rfl (fun _ hF=>?_) fun _ hF=>?_
    ·refine xz (by decide) (by kernel_rfl) rfl (a7 SP 5 rfl ?_);obtain⟨y135,hy135,hF⟩:=bB' hF
     refine b8 SP trivial (iK (tc:=a0) p0 rfl rfl hy135 (a7 SP 5 rfl ?_));obtain⟨y136,hy136,hF⟩:=bB' hF
     refine b8 SP trivial (iK (tc:=a0) p0 rfl rfl hy136 (a7 SP 1 rfl ?_));obtain⟨r137,hr137,hF⟩:=bB' hF
     refine b8 SP trivial (cZ (f8 _ _ hr137) ⟨⟨rfl,rfl,rfl,rfl,rfl,rfl,rfl,rfl,rfl,rfl,trivial⟩,trivial⟩ rfl (.inl rfl) (a7 SP 3 rfl ?_));refine b8 SP trivial (ZX (tc:=ax) [({q7:=({q6:=y120.j8.q6,q8:=r124,z4:=0,z5:=y135.j4.z5,z3:=({z8:=r137,j6:=0}:dK),z7:=0,z6:=false}:az),z9:=false}:aq)] rfl ⟨rfl,rfl,rfl,rfl,rfl,rfl,rfl,rfl,rfl,trivial⟩ rfl (fun _=>rfl) rfl ?_)
     obtain⟨h138,hF⟩:=aSx hF
     exact b8 SP trivial (V1 (tc:=ax) v123 [({q7:=({q6:=y120.j8.q6,q8:=r124,z4:=0,z5:=y135.j4.z5,z3:=({z8:=r137,j6:=0}:dK),z7:=0,z6:=false}:az),z9:=false}:aq)] rfl rfl (.own _ _ rfl) h138 rfl (QP rfl (join (v123++[({q7:=({q6:=y120.j8.q6,q8:=r124,z4:=0,z5:=y135.j4.z5,z3:=({z8:=r137,j6:=0}:dK),z7:=0,z6:=false}:az),z9:=false}:aq)]) _ _ hF (UY (70,0) (41,1) rfl rfl sw))))
    exact b5 (join v123 _ _ hF sw)
   intro join hF
   refine L8 hF rfl (fun _ hF=>?_) fun _ hF=>?_
   ·refine wD 4 rfl ?_;obtain⟨y140,hy140,hF⟩:=bB' hF
    refine rS (iK (tc:=a0) p0 rfl rfl hy140 (a7 SV 1 rfl ?_));obtain⟨r141,hr141,hF⟩:=bB' hF
    refine rS (cZ (f8 _ _ hr141) ⟨⟨rfl,rfl,rfl,rfl,rfl,rfl,rfl,rfl,rfl,rfl,trivial⟩,trivial⟩ rfl (.inl rfl) ?_);obtain⟨r142,hr142,hF⟩:=bB' hF
    exact Rz trivial (aqz [((902,2360),(41,2))] rfl (auX _) (D4 _ _ _ _ hr142) trivial ⟨.inr ⟨_,rfl⟩,.inr rfl,.inr rfl,trivial⟩ rfl rfl rfl rfl ⟨(aqJ fun _=>rfl),trivial⟩ (QV rfl (join r142 _ _ hF (UY (41,2) (41,1) rfl rfl sw))))
   exact b5 (join a63 _ _ hF sw)
  intro join hF
  refine wD 3 rfl ?_;cases h144:(decide (0≤r121))
  ·have hF:=bF' h144 hF;exact QV rfl (join false _ _ hF sw)
  have hF:=bT' h144 hF;refine a7 SV 2 rfl ?_;obtain⟨r145,hr145,hF⟩:=bB' hF
  exact b8 SV rfl (cZ (E4 _ _ _ hr145) ⟨rfl,rfl,trivial⟩ rfl (.inl rfl) (QV rfl (join (decide (0<r145)) _ _ hF sw)))
 exact kV (bQ (bQ (dJ (brk_0 _ _ _ (oi hF) sw))))
def i6(p0:aq):Option Bool :=
  some (decide (p0.q7.z3.j6≤p0.q7.z3.z8))
theorem tY(p0:aq)(r:Bool)(hF:i6 p0=some r):Fun Try.prog 62 true [] [.agg [jI p0.q7.q6,jI p0.q7.q8,jI p0.q7.z4,jS p0.q7.z5,jI p0.q7.z3.z8,jI p0.q7.z3.j6,jI p0.q7.z7,jB p0.q7.z6,jB p0.z9]] noHeap (cB r) noHeap:=by
 refine fW Try.func62 ?_
 unfold i6 at hF
 refine wA rfl (wA rfl ?_);cases hF
 exact cQ wR
def c4(p0:az)(p1:az):Option Bool :=
  (bif (!decide (p0.z3.z8=p1.z3.z8))then some (decide (p0.z3.z8<p1.z3.z8))else(bif (!decide (p0.z3.j6=p1.z3.j6))then some (decide (p1.z3.j6<p0.z3.j6))else some (decide (p0.q6<p1.q6))))
theorem rq(p0:az)(p1:az)(r:Bool)(hF:c4 p0 p1=some r):Fun Try.prog 45 true [] [.agg (kQ p0),.agg (kQ p1)] noHeap (cB r) noHeap:=by
 refine fW Try.func45 ?_
 unfold c4 at hF
 refine wA rfl (a9 (gJ (wA rfl (wIf hF rfl (fun _ hF=>?_) fun _ hF=>?_))))
 ·refine wA rfl ?_;cases hF
  exact cQ wR
 refine wA rfl (wIf hF rfl (fun _ hF=>?_) fun _ hF=>?_)
 ·refine wA rfl ?_;cases hF
  exact cQ wR
 refine b5 (wA rfl ?_);cases hF
 exact cQ wR
def kz(p0:(List aq))(a158:Int):(Int×Int)→Option ((Int×Int) ⊕ Int):=fun(a271,a272) =>
  (bif (decide (a272<(List.length p0:Int)))then((((((idx p0 a272).bind fun y297=>((i6 y297).bind fun r298=>(bif (!r298)then((idx p0 a272).bind fun y300=>((idx p0 a158).bind fun y301=>((c4 y300.q7 y301.q7).bind fun r302=>(bif r302 then some true else(bif (decide (a272<a158))then((idx p0 a158).bind fun y305=>((idx p0 a272).bind fun y306=>((c4 y305.q7 y306.q7).bind fun r307=>some (!r307))))else some false)))))else some false))):Option Bool).bind fun v295=>(bif v295 then some (w64 (a271+1))else some a271)):Option Int).bind fun v294=>some (.inl (v294,(w64 (a272+1)))))else some (.inr a271))
def n9(p0:(List aq)):((List Int)×Int)→Option (((List Int)×Int) ⊕ (List Int)):=fun(a157,a158) =>
  (bif (decide (a158<(List.length p0:Int)))then((loop (kz p0 a158) (0,0)).bind fun e288=>((idx p0 a158).bind fun y289=>((i6 y289).bind fun r290=>(((bif r290 then some (-1)else some e288):Option Int).bind fun v291=>(bif WY 8 (List.length a157+List.length [v291])then some (.inl ((a157++[v291]),(w64 (a158+1))))else none)))))else some (.inr a157))
def jJ(p0:(List aq)):Option (List Int) :=
  ((loop (n9 p0) ([],0)).bind fun e234=>some e234)
theorem CZ(p0:(List aq))(r:(List Int))(hF:jJ p0=some r):Fun Try.prog 37 false [] [cL 9 ax p0] (aZ []) (cO (902,1480)) (aZ [((902,1480),.arr 3 1 (List.map kx r))]):=by
 refine x6 [] (some []) Try.func37 ?_
 unfold jJ at hF
 refine wA rfl (wA rfl (a9 (wA rfl (pW (fun _ _ h=>h) hF (id) (fun(a157,a158)=>[(0,cL 9 ax p0),(3,cO (67,1)),(4,cI a158)]) (fun(a157,a158)=>[((67,1),.arr 3 1 (List.map kx a157))]) (fun e234=>[(3,cO (67,1))]) (fun e234=>[((67,1),.arr 3 1 (List.map kx e234))]) (aOX 3 (67,1) 3 1 rfl rfl rfl rfl sw) ?_ ?_))))
 ·rintro e234 hF
  refine wA rfl ?_;cases hF
  exact cQ ⟨_,_,(UY (67,1) (902,1480) rfl rfl adz),_,rfl,rfl,rfl,(AgM.weak ⟨rfl,trivial⟩)⟩
 rintro⟨a157,a158⟩ x_0 hF cont_0 brk_0 fin_0
 unfold n9 at hF
 refine a9 (wC 2 rfl (rS (l9 (tc:=ax) p0 .tree (QV rfl (wIf hF rfl (fun _ hF=>?_) fun _ hF=>?_)))))
 ·refine b5 (a9 (gJ (wA rfl (a9 (wA rfl (pW (fun _ _ h=>h) hF (id) (fun(a271,a272)=>[(0,cL 9 ax p0),(3,cO (67,1)),(4,cI a158),(5,cI a271),(6,cI a272)]) (fun(a271,a272)=>[((67,1),.arr 3 1 (List.map kx a157))]) (fun e288=>[(0,cL 9 ax p0),(3,cO (67,1)),(4,cI a158),(5,cI e288)]) (fun e288=>[((67,1),.arr 3 1 (List.map kx a157))]) sw ?_ ?_))))))
  ·rintro e288 hF
   refine a9 (wC 2 rfl ?_);obtain⟨y289,hy289,hF⟩:=bB hF
   refine rS (iK (tc:=ax) p0 rfl rfl hy289 (a7 SV 1 rfl ?_));obtain⟨r290,hr290,hF⟩:=bB hF
   refine rS (cZ (tY _ _ hr290) ⟨⟨rfl,rfl,rfl,rfl,rfl,rfl,rfl,rfl,rfl,trivial⟩,trivial⟩ rfl (.inl rfl) (QV rfl (e9 (fun _ _ h=>h) hF (fun v291=>[(0,cL 9 ax p0),(3,cO (67,1)),(4,cI a158),(5,cI v291)]) (fun v291=>[((67,1),.arr 3 1 (List.map kx a157))]) ?_ ?_)))
   ·rintro v291 hF
    refine wD 2 rfl ?_;refine rS (ZX (tc:=kx) [v291] rfl ⟨rfl,trivial⟩ rfl (fun _=>rfl) rfl ?_)
    obtain⟨h292,hF⟩:=adQ hF
    exact rS (V1 (tc:=kx) a157 [v291] rfl rfl (.own _ _ rfl) h292 rfl (QV rfl (wB rfl (cont_0 _ _ _ (oi hF) (UY (67,0) (67,1) rfl rfl sw)))))
   intro join hF
   refine L8 hF rfl (fun _ hF=>?_) fun _ hF=>?_
   ·exact wB rfl (join (-1) _ _ hF sw)
   exact b5 (join e288 _ _ hF sw)
  rintro⟨a271,a272⟩ x_1 hF cont_1 brk_1 fin_1
  unfold kz at hF
  refine a9 (wC 2 rfl (rS (l9 (tc:=ax) p0 .tree (QV rfl (wIf hF rfl (fun _ hF=>?_) fun _ hF=>?_)))))
  ·refine b5 (a9 (e9 (fun _ _ h=>h) hF (fun v294=>[(0,cL 9 ax p0),(3,cO (67,1)),(4,cI a158),(5,cI v294),(6,cI a272)]) (fun v294=>[((67,1),.arr 3 1 (List.map kx a157))]) ?_ ?_))
   ·rintro v294 hF
    exact wB rfl (cont_1 _ _ _ (oi hF) sw)
   intro join hF
   refine gJ (a9 ?_);have hF:=bA hF;refine e9 (fun _ _ h=>h) hF (fun v295=>[(0,cL 9 ax p0),(3,cO (67,1)),(4,cI a158),(5,cI a271),(6,cI a272),(56,cB v295)]) (fun v295=>[((67,1),.arr 3 1 (List.map kx a157))]) ?_ ?_
   ·rintro v295 hF
    refine L8 hF rfl (fun _ hF=>?_) fun _ hF=>?_
    ·exact wB rfl (join (w64 (a271+1)) _ _ hF sw)
    exact b5 (join a271 _ _ hF sw)
   intro join hF
   refine xz (by decide) (by kernel_rfl) rfl (a7 SP 2 rfl ?_);obtain⟨y297,hy297,hF⟩:=bB' hF
   refine b8 SP trivial (iK (tc:=ax) p0 rfl rfl hy297 (a7 SP 1 rfl ?_));obtain⟨r298,hr298,hF⟩:=bB' hF
   refine b8 SP trivial (cZ (tY _ _ hr298) ⟨⟨rfl,rfl,rfl,rfl,rfl,rfl,rfl,rfl,rfl,trivial⟩,trivial⟩ rfl (.inl rfl) (a7 SP 2 rfl ?_));cases h299:(!r298)
   ·have hF:=bF' h299 hF;exact QP rfl (join false _ _ hF sw)
   have hF:=bT' h299 hF;refine a7 SP 2 rfl ?_;obtain⟨y300,hy300,hF⟩:=bB' hF
   refine b8 SP rfl (iK (tc:=ax) p0 rfl rfl hy300 (a7 SP 4 rfl ?_));obtain⟨y301,hy301,hF⟩:=bB' hF
   refine b8 SP rfl (iK (tc:=ax) p0 rfl rfl hy301 (a7 SP 2 rfl ?_));obtain⟨r302,hr302,hF⟩:=bB' hF
   refine b8 SP rfl (cZ (rq _ _ _ hr302) ⟨⟨rfl,rfl,rfl,rfl,rfl,rfl,rfl,rfl,trivial⟩,⟨rfl,rfl,rfl,rfl,rfl,rfl,rfl,rfl,trivial⟩,trivial⟩ rfl (.inl rfl) (a7 SP 1 rfl ?_));cases h303:r302
   ·have hF:=bF' h303 hF;refine a7 SP 4 rfl ?_;cases h304:(decide (a272<a158))
    ·have hF:=bF' h304 hF;exact QP rfl (join false _ _ hF sw)
    have hF:=bT' h304 hF;refine a7 SP 2 rfl ?_;obtain⟨y305,hy305,hF⟩:=bB' hF
    refine b8 SP rfl (iK (tc:=ax) p0 rfl rfl hy305 (a7 SP 4 rfl ?_));obtain⟨y306,hy306,hF⟩:=bB' hF
    refine b8 SP rfl (iK (tc:=ax) p0 rfl rfl hy306 (a7 SP 2 rfl ?_));obtain⟨r307,hr307,hF⟩:=bB' hF
    exact b8 SP rfl (cZ (rq _ _ _ hr307) ⟨⟨rfl,rfl,rfl,rfl,rfl,rfl,rfl,rfl,trivial⟩,⟨rfl,rfl,rfl,rfl,rfl,rfl,rfl,rfl,trivial⟩,trivial⟩ rfl (.inl rfl) (QP rfl (join (!r307) _ _ hF sw)))
   have hF:=bT' h303 hF;exact QP rfl (join true _ _ hF sw)
  exact kV (bQ (bQ (dJ (brk_1 _ _ _ (oi hF) sw))))
 exact kV (bQ (bQ (dJ (brk_0 _ _ _ (oi hF) sw))))
def m7  : ((List az)×Int)→Option (((List az)×Int) ⊕ (List az)):=fun(a34,a35) =>
  (bif (decide (a35<(List.length a34:Int)))then((((idx a34 a35).bind fun y51=>((idx (List.set a34 (Int.toNat a35) ({q6:=y51.q6,q8:=y51.q8,z4:=0,z5:=y51.z5,z3:=y51.z3,z7:=y51.z7,z6:=y51.z6}:az)) a35).bind fun y52=>((idx (List.set a34 (Int.toNat a35) ({q6:=y51.q6,q8:=y51.q8,z4:=0,z5:=y51.z5,z3:=y51.z3,z7:=y51.z7,z6:=y51.z6}:az)) a35).bind fun y53=>((idx (List.set a34 (Int.toNat a35) ({q6:=y51.q6,q8:=y51.q8,z4:=0,z5:=y51.z5,z3:=y51.z3,z7:=y51.z7,z6:=y51.z6}:az)) a35).bind fun y54=>((idx (List.set (List.set a34 (Int.toNat a35) ({q6:=y51.q6,q8:=y51.q8,z4:=0,z5:=y51.z5,z3:=y51.z3,z7:=y51.z7,z6:=y51.z6}:az)) (Int.toNat a35) ({q6:=y54.q6,q8:=y54.q8,z4:=y54.z4,z5:=y54.z5,z3:=y54.z3,z7:=(w64 (y52.z3.j6-y53.z3.z8)),z6:=y54.z6}:az)) a35).bind fun y55=>(bif (decide (0≤y55.q8))then((idx (List.set (List.set a34 (Int.toNat a35) ({q6:=y51.q6,q8:=y51.q8,z4:=0,z5:=y51.z5,z3:=y51.z3,z7:=y51.z7,z6:=y51.z6}:az)) (Int.toNat a35) ({q6:=y54.q6,q8:=y54.q8,z4:=y54.z4,z5:=y54.z5,z3:=y54.z3,z7:=(w64 (y52.z3.j6-y53.z3.z8)),z6:=y54.z6}:az)) y55.q8).bind fun y56=>((idx (List.set (List.set a34 (Int.toNat a35) ({q6:=y51.q6,q8:=y51.q8,z4:=0,z5:=y51.z5,z3:=y51.z3,z7:=y51.z7,z6:=y51.z6}:az)) (Int.toNat a35) ({q6:=y54.q6,q8:=y54.q8,z4:=y54.z4,z5:=y54.z5,z3:=y54.z3,z7:=(w64 (y52.z3.j6-y53.z3.z8)),z6:=y54.z6}:az)) a35).bind fun y57=>((idx (List.set (List.set (List.set a34 (Int.toNat a35) ({q6:=y51.q6,q8:=y51.q8,z4:=0,z5:=y51.z5,z3:=y51.z3,z7:=y51.z7,z6:=y51.z6}:az)) (Int.toNat a35) ({q6:=y54.q6,q8:=y54.q8,z4:=y54.z4,z5:=y54.z5,z3:=y54.z3,z7:=(w64 (y52.z3.j6-y53.z3.z8)),z6:=y54.z6}:az)) (Int.toNat a35) ({q6:=y57.q6,q8:=y57.q8,z4:=(w64 (y56.z4+1)),z5:=y57.z5,z3:=y57.z3,z7:=y57.z7,z6:=y57.z6}:az)) y55.q8).bind fun y58=>((idx (List.set (List.set (List.set a34 (Int.toNat a35) ({q6:=y51.q6,q8:=y51.q8,z4:=0,z5:=y51.z5,z3:=y51.z3,z7:=y51.z7,z6:=y51.z6}:az)) (Int.toNat a35) ({q6:=y54.q6,q8:=y54.q8,z4:=y54.z4,z5:=y54.z5,z3:=y54.z3,z7:=(w64 (y52.z3.j6-y53.z3.z8)),z6:=y54.z6}:az)) (Int.toNat a35) ({q6:=y57.q6,q8:=y57.q8,z4:=(w64 (y56.z4+1)),z5:=y57.z5,z3:=y57.z3,z7:=y57.z7,z6:=y57.z6}:az)) a35).bind fun y59=>((idx (List.set (List.set (List.set a34 (Int.toNat a35) ({q6:=y51.q6,q8:=y51.q8,z4:=0,z5:=y51.z5,z3:=y51.z3,z7:=y51.z7,z6:=y51.z6}:az)) (Int.toNat a35) ({q6:=y54.q6,q8:=y54.q8,z4:=y54.z4,z5:=y54.z5,z3:=y54.z3,z7:=(w64 (y52.z3.j6-y53.z3.z8)),z6:=y54.z6}:az)) (Int.toNat a35) ({q6:=y57.q6,q8:=y57.q8,z4:=(w64 (y56.z4+1)),z5:=y57.z5,z3:=y57.z3,z7:=y57.z7,z6:=y57.z6}:az)) y55.q8).bind fun y60=>some (List.set (List.set (List.set (List.set a34 (Int.toNat a35) ({q6:=y51.q6,q8:=y51.q8,z4:=0,z5:=y51.z5,z3:=y51.z3,z7:=y51.z7,z6:=y51.z6}:az)) (Int.toNat a35) ({q6:=y54.q6,q8:=y54.q8,z4:=y54.z4,z5:=y54.z5,z3:=y54.z3,z7:=(w64 (y52.z3.j6-y53.z3.z8)),z6:=y54.z6}:az)) (Int.toNat a35) ({q6:=y57.q6,q8:=y57.q8,z4:=(w64 (y56.z4+1)),z5:=y57.z5,z3:=y57.z3,z7:=y57.z7,z6:=y57.z6}:az)) (Int.toNat y55.q8) ({q6:=y60.q6,q8:=y60.q8,z4:=y60.z4,z5:=y60.z5,z3:=y60.z3,z7:=(w64 (y58.z7-y59.z7)),z6:=y60.z6}:az)))))))else some (List.set (List.set a34 (Int.toNat a35) ({q6:=y51.q6,q8:=y51.q8,z4:=0,z5:=y51.z5,z3:=y51.z3,z7:=y51.z7,z6:=y51.z6}:az)) (Int.toNat a35) ({q6:=y54.q6,q8:=y54.q8,z4:=y54.z4,z5:=y54.z5,z3:=y54.z3,z7:=(w64 (y52.z3.j6-y53.z3.z8)),z6:=y54.z6}:az)))))))):Option (List az)).bind fun v50=>some (.inl (v50,(w64 (a35+1)))))else some (.inr a34))
def i7(p0:(List az)):Option (List az) :=
  (bif WY 72 (List.length ([]:List az)+List.length p0)then((loop (m7) (([]++p0),0)).bind fun e49=>some e49)else none)
theorem A1(p0:(List az))(r:(List az))(hF:i7 p0=some r):Fun Try.prog 38 false [] [cL 8 aQ p0] (aZ []) (cO (902,1520)) (aZ [((902,1520),.arr 44 8 (List.map aQ r))]):=by
 refine x6 [] (some []) Try.func38 ?_
 unfold i7 at hF
 refine wA rfl (wE ?_);refine rS (ZX (tc:=aQ) [] rfl trivial rfl (fun _=>rfl) rfl (a7 SV 1 rfl ?_));obtain⟨h1,hF⟩:=adQ hF
 refine rS (V1 (tc:=aQ) [] p0 rfl rfl .tree h1 rfl (QV rfl (a9 (wA rfl (pW (fun _ _ h=>h) hF (id) (fun(a34,a35)=>[(3,cO (8,0)),(4,cI a35)]) (fun(a34,a35)=>[((8,0),.arr 44 8 (List.map aQ a34))]) (fun e49=>[(3,cO (8,0))]) (fun e49=>[((8,0),.arr 44 8 (List.map aQ e49))]) sw ?_ ?_)))))
 ·rintro e49 hF
  refine wA rfl ?_;cases hF
  exact cQ ⟨_,_,(UY (8,0) (902,1520) rfl rfl adz),_,rfl,rfl,rfl,(AgM.weak ⟨rfl,trivial⟩)⟩
 rintro⟨a34,a35⟩ x_0 hF cont_0 brk_0 fin_0
 unfold m7 at hF
 refine a9 (wC 2 rfl (rS (l9 (tc:=aQ) a34 (.own _ _ rfl) (QV rfl (wIf hF rfl (fun _ hF=>?_) fun _ hF=>?_)))))
 ·refine b5 (a9 (e9 (fun _ _ h=>h) hF (fun v50=>[(3,cO (8,0)),(4,cI a35)]) (fun v50=>[((8,0),.arr 44 8 (List.map aQ v50))]) ?_ ?_))
  ·rintro v50 hF
   exact wB rfl (cont_0 _ _ _ (oi hF) sw)
  intro join hF
  refine gJ (wC 2 rfl ?_);obtain⟨y51,hy51,hF⟩:=bB' hF
  refine rS (rQ (tc:=aQ) a34 rfl rfl rfl hy51 (a7 SV 1 rfl (rS (EW (tc:=aQ) a34 ({q6:=y51.q6,q8:=y51.q8,z4:=0,z5:=y51.z5,z3:=y51.z3,z7:=y51.z7,z6:=y51.z6}:az) rfl rfl (idx_get hy51).2.1 rfl rfl rfl rfl rfl (QV rfl (a9 (xz (by decide) (by kernel_rfl) rfl (a7 SP 4 rfl ?_))))))));obtain⟨y52,hy52,hF⟩:=bB' hF
  refine b8 SP trivial (rQ (tc:=aQ) (List.set a34 (Int.toNat a35) ({q6:=y51.q6,q8:=y51.q8,z4:=0,z5:=y51.z5,z3:=y51.z3,z7:=y51.z7,z6:=y51.z6}:az)) rfl rfl rfl hy52 (a7 SP 2 rfl (b8 SP trivial (HV (tc:=aQ) (List.set a34 (Int.toNat a35) ({q6:=y51.q6,q8:=y51.q8,z4:=0,z5:=y51.z5,z3:=y51.z3,z7:=y51.z7,z6:=y51.z6}:az)) rfl rfl (idx_get hy52).2.1 rfl (a7 SP 2 rfl ?_)))));obtain⟨y53,hy53,hF⟩:=bB' hF
  refine b8 SP trivial (rQ (tc:=aQ) (List.set a34 (Int.toNat a35) ({q6:=y51.q6,q8:=y51.q8,z4:=0,z5:=y51.z5,z3:=y51.z3,z7:=y51.z7,z6:=y51.z6}:az)) rfl rfl rfl hy53 (a7 SP 2 rfl (b8 SP trivial (HV (tc:=aQ) (List.set a34 (Int.toNat a35) ({q6:=y51.q6,q8:=y51.q8,z4:=0,z5:=y51.z5,z3:=y51.z3,z7:=y51.z7,z6:=y51.z6}:az)) rfl rfl (idx_get hy53).2.1 rfl (a7 SP 1 rfl ?_)))));obtain⟨y54,hy54,hF⟩:=bB' hF
  refine b8 SP trivial (rQ (tc:=aQ) (List.set a34 (Int.toNat a35) ({q6:=y51.q6,q8:=y51.q8,z4:=0,z5:=y51.z5,z3:=y51.z3,z7:=y51.z7,z6:=y51.z6}:az)) rfl rfl rfl hy54 (a7 SP 1 rfl (b8 SP trivial (EW (tc:=aQ) (List.set a34 (Int.toNat a35) ({q6:=y51.q6,q8:=y51.q8,z4:=0,z5:=y51.z5,z3:=y51.z3,z7:=y51.z7,z6:=y51.z6}:az)) ({q6:=y54.q6,q8:=y54.q8,z4:=y54.z4,z5:=y54.z5,z3:=y54.z3,z7:=(w64 (y52.z3.j6-y53.z3.z8)),z6:=y54.z6}:az) rfl rfl (idx_get hy54).2.1 rfl rfl rfl rfl rfl (QP rfl (wC 2 rfl ?_))))));obtain⟨y55,hy55,hF⟩:=bB' hF
  refine rS (rQ (tc:=aQ) (List.set (List.set a34 (Int.toNat a35) ({q6:=y51.q6,q8:=y51.q8,z4:=0,z5:=y51.z5,z3:=y51.z3,z7:=y51.z7,z6:=y51.z6}:az)) (Int.toNat a35) ({q6:=y54.q6,q8:=y54.q8,z4:=y54.z4,z5:=y54.z5,z3:=y54.z3,z7:=(w64 (y52.z3.j6-y53.z3.z8)),z6:=y54.z6}:az)) rfl rfl rfl hy55 (a7 SV 1 rfl (rS (HV (tc:=aQ) (List.set (List.set a34 (Int.toNat a35) ({q6:=y51.q6,q8:=y51.q8,z4:=0,z5:=y51.z5,z3:=y51.z3,z7:=y51.z7,z6:=y51.z6}:az)) (Int.toNat a35) ({q6:=y54.q6,q8:=y54.q8,z4:=y54.z4,z5:=y54.z5,z3:=y54.z3,z7:=(w64 (y52.z3.j6-y53.z3.z8)),z6:=y54.z6}:az)) rfl rfl (idx_get hy55).2.1 rfl (QV rfl (wA rfl (L8 hF rfl (fun _ hF=>?_) fun _ hF=>?_)))))))
  ·refine wC 4 rfl ?_;obtain⟨y56,hy56,hF⟩:=bB' hF
   refine rS (rQ (tc:=aQ) (List.set (List.set a34 (Int.toNat a35) ({q6:=y51.q6,q8:=y51.q8,z4:=0,z5:=y51.z5,z3:=y51.z3,z7:=y51.z7,z6:=y51.z6}:az)) (Int.toNat a35) ({q6:=y54.q6,q8:=y54.q8,z4:=y54.z4,z5:=y54.z5,z3:=y54.z3,z7:=(w64 (y52.z3.j6-y53.z3.z8)),z6:=y54.z6}:az)) rfl rfl rfl hy56 (a7 SV 1 rfl (rS (HV (tc:=aQ) (List.set (List.set a34 (Int.toNat a35) ({q6:=y51.q6,q8:=y51.q8,z4:=0,z5:=y51.z5,z3:=y51.z3,z7:=y51.z7,z6:=y51.z6}:az)) (Int.toNat a35) ({q6:=y54.q6,q8:=y54.q8,z4:=y54.z4,z5:=y54.z5,z3:=y54.z3,z7:=(w64 (y52.z3.j6-y53.z3.z8)),z6:=y54.z6}:az)) rfl rfl (idx_get hy56).2.1 rfl (a7 SV 1 rfl ?_)))));obtain⟨y57,hy57,hF⟩:=bB' hF
   refine rS (rQ (tc:=aQ) (List.set (List.set a34 (Int.toNat a35) ({q6:=y51.q6,q8:=y51.q8,z4:=0,z5:=y51.z5,z3:=y51.z3,z7:=y51.z7,z6:=y51.z6}:az)) (Int.toNat a35) ({q6:=y54.q6,q8:=y54.q8,z4:=y54.z4,z5:=y54.z5,z3:=y54.z3,z7:=(w64 (y52.z3.j6-y53.z3.z8)),z6:=y54.z6}:az)) rfl rfl rfl hy57 (a7 SV 1 rfl (rS (EW (tc:=aQ) (List.set (List.set a34 (Int.toNat a35) ({q6:=y51.q6,q8:=y51.q8,z4:=0,z5:=y51.z5,z3:=y51.z3,z7:=y51.z7,z6:=y51.z6}:az)) (Int.toNat a35) ({q6:=y54.q6,q8:=y54.q8,z4:=y54.z4,z5:=y54.z5,z3:=y54.z3,z7:=(w64 (y52.z3.j6-y53.z3.z8)),z6:=y54.z6}:az)) ({q6:=y57.q6,q8:=y57.q8,z4:=(w64 (y56.z4+1)),z5:=y57.z5,z3:=y57.z3,z7:=y57.z7,z6:=y57.z6}:az) rfl rfl (idx_get hy57).2.1 rfl rfl rfl rfl rfl (QV rfl (xz (by decide) (by kernel_rfl) rfl (a7 SP 4 rfl ?_)))))));obtain⟨y58,hy58,hF⟩:=bB' hF
   refine b8 SP trivial (rQ (tc:=aQ) (List.set (List.set (List.set a34 (Int.toNat a35) ({q6:=y51.q6,q8:=y51.q8,z4:=0,z5:=y51.z5,z3:=y51.z3,z7:=y51.z7,z6:=y51.z6}:az)) (Int.toNat a35) ({q6:=y54.q6,q8:=y54.q8,z4:=y54.z4,z5:=y54.z5,z3:=y54.z3,z7:=(w64 (y52.z3.j6-y53.z3.z8)),z6:=y54.z6}:az)) (Int.toNat a35) ({q6:=y57.q6,q8:=y57.q8,z4:=(w64 (y56.z4+1)),z5:=y57.z5,z3:=y57.z3,z7:=y57.z7,z6:=y57.z6}:az)) rfl rfl rfl hy58 (a7 SP 1 rfl (b8 SP trivial (HV (tc:=aQ) (List.set (List.set (List.set a34 (Int.toNat a35) ({q6:=y51.q6,q8:=y51.q8,z4:=0,z5:=y51.z5,z3:=y51.z3,z7:=y51.z7,z6:=y51.z6}:az)) (Int.toNat a35) ({q6:=y54.q6,q8:=y54.q8,z4:=y54.z4,z5:=y54.z5,z3:=y54.z3,z7:=(w64 (y52.z3.j6-y53.z3.z8)),z6:=y54.z6}:az)) (Int.toNat a35) ({q6:=y57.q6,q8:=y57.q8,z4:=(w64 (y56.z4+1)),z5:=y57.z5,z3:=y57.z3,z7:=y57.z7,z6:=y57.z6}:az)) rfl rfl (idx_get hy58).2.1 rfl (a7 SP 2 rfl ?_)))));obtain⟨y59,hy59,hF⟩:=bB' hF
   refine b8 SP trivial (rQ (tc:=aQ) (List.set (List.set (List.set a34 (Int.toNat a35) ({q6:=y51.q6,q8:=y51.q8,z4:=0,z5:=y51.z5,z3:=y51.z3,z7:=y51.z7,z6:=y51.z6}:az)) (Int.toNat a35) ({q6:=y54.q6,q8:=y54.q8,z4:=y54.z4,z5:=y54.z5,z3:=y54.z3,z7:=(w64 (y52.z3.j6-y53.z3.z8)),z6:=y54.z6}:az)) (Int.toNat a35) ({q6:=y57.q6,q8:=y57.q8,z4:=(w64 (y56.z4+1)),z5:=y57.z5,z3:=y57.z3,z7:=y57.z7,z6:=y57.z6}:az)) rfl rfl rfl hy59 (a7 SP 1 rfl (b8 SP trivial (HV (tc:=aQ) (List.set (List.set (List.set a34 (Int.toNat a35) ({q6:=y51.q6,q8:=y51.q8,z4:=0,z5:=y51.z5,z3:=y51.z3,z7:=y51.z7,z6:=y51.z6}:az)) (Int.toNat a35) ({q6:=y54.q6,q8:=y54.q8,z4:=y54.z4,z5:=y54.z5,z3:=y54.z3,z7:=(w64 (y52.z3.j6-y53.z3.z8)),z6:=y54.z6}:az)) (Int.toNat a35) ({q6:=y57.q6,q8:=y57.q8,z4:=(w64 (y56.z4+1)),z5:=y57.z5,z3:=y57.z3,z7:=y57.z7,z6:=y57.z6}:az)) rfl rfl (idx_get hy59).2.1 rfl (a7 SP 1 rfl ?_)))));obtain⟨y60,hy60,hF⟩:=bB' hF
   refine b8 SP trivial (rQ (tc:=aQ) (List.set (List.set (List.set a34 (Int.toNat a35) ({q6:=y51.q6,q8:=y51.q8,z4:=0,z5:=y51.z5,z3:=y51.z3,z7:=y51.z7,z6:=y51.z6}:az)) (Int.toNat a35) ({q6:=y54.q6,q8:=y54.q8,z4:=y54.z4,z5:=y54.z5,z3:=y54.z3,z7:=(w64 (y52.z3.j6-y53.z3.z8)),z6:=y54.z6}:az)) (Int.toNat a35) ({q6:=y57.q6,q8:=y57.q8,z4:=(w64 (y56.z4+1)),z5:=y57.z5,z3:=y57.z3,z7:=y57.z7,z6:=y57.z6}:az)) rfl rfl rfl hy60 (a7 SP 1 rfl (b8 SP trivial (EW (tc:=aQ) (List.set (List.set (List.set a34 (Int.toNat a35) ({q6:=y51.q6,q8:=y51.q8,z4:=0,z5:=y51.z5,z3:=y51.z3,z7:=y51.z7,z6:=y51.z6}:az)) (Int.toNat a35) ({q6:=y54.q6,q8:=y54.q8,z4:=y54.z4,z5:=y54.z5,z3:=y54.z3,z7:=(w64 (y52.z3.j6-y53.z3.z8)),z6:=y54.z6}:az)) (Int.toNat a35) ({q6:=y57.q6,q8:=y57.q8,z4:=(w64 (y56.z4+1)),z5:=y57.z5,z3:=y57.z3,z7:=y57.z7,z6:=y57.z6}:az)) ({q6:=y60.q6,q8:=y60.q8,z4:=y60.z4,z5:=y60.z5,z3:=y60.z3,z7:=(w64 (y58.z7-y59.z7)),z6:=y60.z6}:az) rfl rfl (idx_get hy60).2.1 rfl rfl rfl rfl rfl ?_))));exact QP rfl (join (List.set (List.set (List.set (List.set a34 (Int.toNat a35) ({q6:=y51.q6,q8:=y51.q8,z4:=0,z5:=y51.z5,z3:=y51.z3,z7:=y51.z7,z6:=y51.z6}:az)) (Int.toNat a35) ({q6:=y54.q6,q8:=y54.q8,z4:=y54.z4,z5:=y54.z5,z3:=y54.z3,z7:=(w64 (y52.z3.j6-y53.z3.z8)),z6:=y54.z6}:az)) (Int.toNat a35) ({q6:=y57.q6,q8:=y57.q8,z4:=(w64 (y56.z4+1)),z5:=y57.z5,z3:=y57.z3,z7:=y57.z7,z6:=y57.z6}:az)) (Int.toNat y55.q8) ({q6:=y60.q6,q8:=y60.q8,z4:=y60.z4,z5:=y60.z5,z3:=y60.z3,z7:=(w64 (y58.z7-y59.z7)),z6:=y60.z6}:az)) _ _ hF sw)
  exact b5 (join (List.set (List.set a34 (Int.toNat a35) ({q6:=y51.q6,q8:=y51.q8,z4:=0,z5:=y51.z5,z3:=y51.z3,z7:=y51.z7,z6:=y51.z6}:az)) (Int.toNat a35) ({q6:=y54.q6,q8:=y54.q8,z4:=y54.z4,z5:=y54.z5,z3:=y54.z3,z7:=(w64 (y52.z3.j6-y53.z3.z8)),z6:=y54.z6}:az)) _ _ hF sw)
 exact kV (bQ (bQ (dJ (brk_0 _ _ _ (oi hF) sw))))
def nJ(r1:(List aq))(r2:(List Int)):Int→Option (Int ⊕ Int):=fun a159 =>
  (((bif (decide (0≤a159))then((idx r2 a159).bind fun y176=>some (decide (y176<0)))else some false):Option Bool).bind fun v172=>(bif v172 then((idx r1 a159).bind fun y173=>some (.inl y173.q7.q8))else some (.inr a159)))
def n5(r1:(List aq))(r2:(List Int)):((List az)×Int)→Option (((List az)×Int) ⊕ (List az)):=fun(a103,a104) =>
  (bif (decide (a104<(List.length r1:Int)))then((((idx r2 a104).bind fun y144=>(bif (decide (y144<0))then some a103 else((idx r1 a104).bind fun y145=>((loop (nJ r1 r2) y145.q7.q8).bind fun e165=>((idx r1 a104).bind fun y166=>(((bif (decide (0≤e165))then((idx r2 e165).bind fun y170=>some y170)else some (-1)):Option Int).bind fun v167=>((idx r2 a104).bind fun y168=>((idx a103 y168).bind fun y169=>some (List.set a103 (Int.toNat y168) ({q6:=y166.q7.q6,q8:=v167,z4:=y166.q7.z4,z5:=y166.q7.z5,z3:=y166.q7.z3,z7:=y166.q7.z7,z6:=y166.q7.z6}:az)))))))))):Option (List az)).bind fun v143=>some (.inl (v143,(w64 (a104+1)))))else some (.inr a103))
def nY(r2:(List Int)):(Int×Int)→Option ((Int×Int) ⊕ Int):=fun(a17,a18) =>
  (bif (decide (a18<(List.length r2:Int)))then((((idx r2 a18).bind fun y180=>(bif (decide (0≤y180))then some (w64 (a17+1))else some a17)):Option Int).bind fun v179=>some (.inl (v179,(w64 (a18+1)))))else some (.inr a17))
def n7(p0:(List a8))(p1:Int):Option (List az) :=
  ((kJ p0 p1).bind fun r1=>((jJ r1).bind fun r2=>((loop (nY r2) (0,0)).bind fun e23=>(bif mkB 72 e23 then((loop (n5 r1 r2) ((List.replicate (Int.toNat e23) ({q6:=0,q8:=0,z4:=0,z5:=(⟨#[]⟩ : ByteArray),z3:=({z8:=0,j6:=0}:dK),z7:=0,z6:=false}:az)),0)).bind fun e141=>((i7 e141).bind fun r142=>some r142))else none))))
theorem Hj(p0:(List a8))(p1:Int)(r:(List az))(hF:n7 p0 p1=some r):Fun Try.prog 13 false [] [cL 10 a0 p0,cI p1] (aZ []) (cO (902,520)) (aZ [((902,520),.arr 44 8 (List.map aQ r))]):=by
 refine x6 [] (some []) Try.func13 ?_
 unfold n7 at hF
 refine wA rfl (wC 2 rfl ?_);obtain⟨r1,hr1,hF⟩:=bB hF
 refine rS (cZ (D1 _ _ _ hr1) ⟨rfl,rfl,trivial⟩ rfl (.inr (.inr ⟨rfl,rfl,trivial⟩)) (QV rfl (wC 1 rfl ?_)));obtain⟨r2,hr2,hF⟩:=bB hF
 refine Rz trivial (auz [((902,1480),(17,1))] rfl (auX _) (CZ _ _ hr2) trivial ⟨.inl rfl,trivial⟩ rfl rfl rfl ?_);refine QV rfl (wA rfl (a9 (wA rfl (pW (fun _ _ h=>h) hF (id) (fun(a17,a18)=>[(5,cL 9 ax r1),(6,cO (17,1)),(7,cI a17),(8,cI a18)]) (fun(a17,a18)=>[((17,1),.arr 3 1 (List.map kx r2))]) (fun e23=>[(5,cL 9 ax r1),(6,cO (17,1)),(7,cI e23)]) (fun e23=>[((17,1),.arr 3 1 (List.map kx r2))]) sw ?_ ?_))))
 ·rintro e23 hF
  refine wC 1 rfl ?_;obtain⟨h24,hF⟩:=adQ hF
  refine rS (aVY (tc:=aQ) ({q6:=0,q8:=0,z4:=0,z5:=(⟨#[]⟩ : ByteArray),z3:=({z8:=0,j6:=0}:dK),z7:=0,z6:=false}:az) rfl rfl (aVV h24) rfl rfl (QV rfl (a9 (wA rfl (pW (fun _ _ h=>h) hF (id) (fun(a103,a104)=>[(5,cL 9 ax r1),(6,cO (17,1)),(9,cO (32,0)),(10,cI a104)]) (fun(a103,a104)=>[((17,1),.arr 3 1 (List.map kx r2)),((32,0),.arr 44 8 (List.map aQ a103))]) (fun e141=>[(9,cO (32,0))]) (fun e141=>[((32,0),.arr 44 8 (List.map aQ e141))]) sw ?_ ?_)))))
  ·rintro e141 hF
   refine wC 1 rfl ?_;obtain⟨r142,hr142,hF⟩:=bB hF
   refine Rz trivial (aqz [((902,1520),(86,1))] rfl (auX _) (A1 _ _ hr142) trivial ⟨.inr ⟨_,rfl⟩,trivial⟩ rfl rfl rfl rfl ⟨(aqJ fun _=>rfl),trivial⟩ (QV rfl ?_));cases hF
   exact cQ ⟨_,_,(UY (86,1) (902,520) rfl rfl adz),_,rfl,rfl,rfl,(AgM.weak ⟨rfl,trivial⟩)⟩
  rintro⟨a103,a104⟩ x_0 hF cont_0 brk_0 fin_0
  unfold n5 at hF
  refine a9 (wC 2 rfl (rS (l9 (tc:=ax) r1 .tree (QV rfl (wIf hF rfl (fun _ hF=>?_) fun _ hF=>?_)))))
  ·refine b5 (a9 (e9 (fun _ _ h=>h) hF (fun v143=>[(5,cL 9 ax r1),(6,cO (17,1)),(9,cO (32,0)),(10,cI a104)]) (fun v143=>[((17,1),.arr 3 1 (List.map kx r2)),((32,0),.arr 44 8 (List.map aQ v143))]) ?_ ?_))
   ·rintro v143 hF
    exact wB rfl (cont_0 _ _ _ (oi hF) sw)
   intro join hF
   refine gJ (a9 (wC 2 rfl ?_));obtain⟨y144,hy144,hF⟩:=bB' hF
   refine rS (rQ (tc:=kx) r2 rfl rfl rfl hy144 (rS (HV (tc:=kx) r2 rfl rfl (idx_get hy144).2.1 rfl (QV rfl (L8 hF rfl (fun _ hF=>?_) fun _ hF=>?_)))))
   ·exact kV (bQ (dJ (join a103 _ _ hF sw)))
   refine b5 (wC 2 rfl ?_);obtain⟨y145,hy145,hF⟩:=bB' hF
   refine rS (iK (tc:=ax) r1 rfl rfl hy145 (QV rfl (a9 ?_)));have hF:=bA hF;refine pW (fun _ _ h=>h) hF (id) (fun a159=>[(5,cL 9 ax r1),(6,cO (17,1)),(9,cO (32,0)),(10,cI a104),(11,cI a159)]) (fun a159=>[((17,1),.arr 3 1 (List.map kx r2)),((32,0),.arr 44 8 (List.map aQ a103))]) (fun e165=>[(5,cL 9 ax r1),(6,cO (17,1)),(9,cO (32,0)),(10,cI a104),(11,cI e165)]) (fun e165=>[((17,1),.arr 3 1 (List.map kx r2)),((32,0),.arr 44 8 (List.map aQ a103))]) sw ?_ ?_
   ·rintro e165 hF
    refine wC 2 rfl ?_;obtain⟨y166,hy166,hF⟩:=bB' hF
    refine rS (iK (tc:=ax) r1 rfl rfl hy166 (QV rfl (wA rfl (a9 (wA rfl ?_)))));have hF:=bA hF;refine e9 (fun _ _ h=>h) hF (fun v167=>[(5,cL 9 ax r1),(6,cO (17,1)),(9,cO (32,0)),(10,cI a104),(12,cP (12,0) 0)]) (fun v167=>[((17,1),.arr 3 1 (List.map kx r2)),((32,0),.arr 44 8 (List.map aQ a103)),((12,0),.box [jI y166.q7.q6,jI v167,jI y166.q7.z4,jS y166.q7.z5,jI y166.q7.z3.z8,jI y166.q7.z3.j6,jI y166.q7.z7,jB y166.q7.z6])]) ?_ ?_
    ·rintro v167 hF
     refine xz (by decide) (by kernel_rfl) rfl (a7 SP 3 rfl ?_);obtain⟨y168,hy168,hF⟩:=bB' hF
     refine b8 SP trivial (rQ (tc:=kx) r2 rfl rfl rfl hy168 (b8 SP trivial (HV (tc:=kx) r2 rfl rfl (idx_get hy168).2.1 rfl (a7 SP 1 rfl ?_))));obtain⟨y169,hy169,hF⟩:=bB' hF
     exact b8 SP trivial (rQ (tc:=aQ) a103 rfl rfl rfl hy169 (b8 SP trivial (EW (tc:=aQ) a103 ({q6:=y166.q7.q6,q8:=v167,z4:=y166.q7.z4,z5:=y166.q7.z5,z3:=y166.q7.z3,z7:=y166.q7.z7,z6:=y166.q7.z6}:az) rfl rfl (idx_get hy169).2.1 rfl rfl rfl rfl rfl (QP rfl (join (List.set a103 (Int.toNat y168) ({q6:=y166.q7.q6,q8:=v167,z4:=y166.q7.z4,z5:=y166.q7.z5,z3:=y166.q7.z3,z7:=y166.q7.z7,z6:=y166.q7.z6}:az)) _ _ hF sw)))))
    intro join hF
    refine L8 hF rfl (fun _ hF=>?_) fun _ hF=>?_
    ·refine wD 2 rfl ?_;obtain⟨y170,hy170,hF⟩:=bB' hF
     exact rS (rQ (tc:=kx) r2 rfl rfl rfl hy170 (rS (HV (tc:=kx) r2 rfl rfl (idx_get hy170).2.1 rfl (QV rfl (join y170 _ _ hF sw)))))
    exact b5 (join (-1) _ _ hF sw)
   rintro a159 x_1 hF cont_1 brk_1 fin_1
   unfold nJ at hF
   refine a9 (a9 (e9 (fun _ _ h=>h) hF (fun v172=>[(5,cL 9 ax r1),(6,cO (17,1)),(9,cO (32,0)),(10,cI a104),(11,cI a159),(58,cB v172)]) (fun v172=>[((17,1),.arr 3 1 (List.map kx r2)),((32,0),.arr 44 8 (List.map aQ a103))]) ?_ ?_))
   ·rintro v172 hF
    refine wIf hF rfl (fun _ hF=>?_) fun _ hF=>?_
    ·refine b5 (gJ (wD 2 rfl ?_));obtain⟨y173,hy173,hF⟩:=bB hF
     exact rS (iK (tc:=ax) r1 rfl rfl hy173 (QV rfl (cont_1 _ _ _ (oi hF) sw)))
    exact kV (bQ (bQ (dJ (brk_1 _ _ _ (oi hF) sw))))
   intro join hF
   refine wD 3 rfl ?_;cases h175:(decide (0≤a159))
   ·have hF:=bF' h175 hF;exact QV rfl (join false _ _ hF sw)
   have hF:=bT' h175 hF;refine a7 SV 2 rfl ?_;obtain⟨y176,hy176,hF⟩:=bB' hF
   exact b8 SV rfl (rQ (tc:=kx) r2 rfl rfl rfl hy176 (b8 SV rfl (HV (tc:=kx) r2 rfl rfl (idx_get hy176).2.1 rfl (QV rfl (join (decide (y176<0)) _ _ hF sw)))))
  exact kV (bQ (bQ (dJ (brk_0 _ _ _ (oi hF) sw))))
 rintro⟨a17,a18⟩ x_0 hF cont_0 brk_0 fin_0
 unfold nY at hF
 refine a9 (wC 2 rfl (rS (l9 (tc:=kx) r2 (.own _ _ rfl) (QV rfl (wIf hF rfl (fun _ hF=>?_) fun _ hF=>?_)))))
 ·refine b5 (a9 (e9 (fun _ _ h=>h) hF (fun v179=>[(5,cL 9 ax r1),(6,cO (17,1)),(7,cI v179),(8,cI a18)]) (fun v179=>[((17,1),.arr 3 1 (List.map kx r2))]) ?_ ?_))
  ·rintro v179 hF
   exact wB rfl (cont_0 _ _ _ (oi hF) sw)
  intro join hF
  refine gJ (wC 2 rfl ?_);obtain⟨y180,hy180,hF⟩:=bB' hF
  refine rS (rQ (tc:=kx) r2 rfl rfl rfl hy180 (rS (HV (tc:=kx) r2 rfl rfl (idx_get hy180).2.1 rfl (QV rfl (L8 hF rfl (fun _ hF=>?_) fun _ hF=>?_)))))
  ·exact wB rfl (join (w64 (a17+1)) _ _ hF sw)
  exact b5 (join a17 _ _ hF sw)
 exact kV (bQ (bQ (dJ (brk_0 _ _ _ (oi hF) sw))))
def pJ(p0:(List az))(p1:(List az)):Int→Option (Int ⊕ (Unit ⊕ Bool)):=fun a12 =>
  (bif (decide (a12<(List.length p0:Int)))then((idx p0 a12).bind fun y17=>((idx p1 a12).bind fun y18=>(bif ((decide (y17.q6=y18.q6)&&(decide (y17.q8=y18.q8)&&(decide (y17.z4=y18.z4)&&(decide (y17.z5=y18.z5)&&(decide (y17.z3.z8=y18.z3.z8)&&(decide (y17.z3.j6=y18.z3.j6)&&(decide (y17.z7=y18.z7)&&(decide (y17.z6=y18.z6)&&true)))))))) != true)then some (.inr (.inr false))else some (.inl (w64 (a12+1))))))else some (.inr (.inl ())))
def l8(p0:(List az))(p1:(List az)):Option Bool :=
  (bif (!decide ((List.length p0:Int)=(List.length p1:Int)))then some false else((loop (pJ p0 p1) 0).bind fun | .inl _=>some true | .inr rv=>some rv))
theorem EQ(p0:(List az))(p1:(List az))(r:Bool)(hF:l8 p0 p1=some r):Fun Try.prog 12 true [] [cL 8 aQ p0,cL 8 aQ p1] noHeap (cB r) noHeap:=by
 refine fW Try.func12 ?_
 unfold l8 at hF
 refine wA rfl (a9 (wC 1 rfl (rS (l9 (tc:=aQ) p0 .tree (a7 SV 1 rfl (rS (l9 (tc:=aQ) p1 .tree (QV rfl (wIf hF rfl (fun _ hF=>?_) fun _ hF=>?_)))))))))
 ·refine wA rfl ?_;cases hF
  exact cQ wR
 refine b5 (a9 (wA rfl (pW (fun _ _ h=>h) hF (.inl) (fun a12=>[(0,cL 8 aQ p0),(1,cL 8 aQ p1),(5,cI a12)]) (fun a12=>[]) (fun _=>[]) (fun _=>[]) sw ?_ ?_)))
 ·rintro⟨⟩ hF
  refine wA rfl ?_;cases hF
  exact cQ wR
 rintro a12 x_0 hF cont_0 brk_0 fin_0
 unfold pJ at hF
 refine a9 (wC 2 rfl (rS (l9 (tc:=aQ) p0 .tree (QV rfl (wIf hF rfl (fun _ hF=>?_) fun _ hF=>?_)))))
 ·refine b5 (a9 (gJ (a9 (xz (by decide) (by kernel_rfl) rfl (a7 SP 2 rfl ?_)))));obtain⟨y17,hy17,hF⟩:=bB hF
  refine b8 SP trivial (iK (tc:=aQ) p0 rfl rfl hy17 (a7 SP 3 rfl ?_));obtain⟨y18,hy18,hF⟩:=bB hF
  refine b8 SP trivial (iK (tc:=aQ) p1 rfl rfl hy18 (a7 SP 1 rfl (b8 SP trivial (aUK (b:=(decide (y17.q6=y18.q6)&&(decide (y17.q8=y18.q8)&&(decide (y17.z4=y18.z4)&&(decide (y17.z5=y18.z5)&&(decide (y17.z3.z8=y18.z3.z8)&&(decide (y17.z3.j6=y18.z3.j6)&&(decide (y17.z7=y18.z7)&&(decide (y17.z6=y18.z6)&&true))))))))) (eqOk_of (n:=8) (sh:=[.int .i64,.int .i64,.int .i64,.string,.int .i64,.int .i64,.int .i64,.bool]) Try.underlying43 (by kernel_rfl) (by kernel_rfl)) rfl rfl rfl rfl (QP rfl (wIf hF rfl (fun _ hF=>?_) fun _ hF=>?_))))))
  ·refine wA rfl ?_;have hF:=fin_0 _ (oi hF);cases hF
   exact cQ wR
  exact b5 (wB rfl (cont_0 _ _ _ (oi hF) sw))
 exact kV (bQ (bQ (dJ (brk_0 _ _ _ (oi hF) sw))))
def yX(p0:dK):Option Bool :=
  (((bif (decide (0≤p0.z8))then(bif (decide (p0.z8<p0.j6))then some (decide (p0.j6≤1000000000000))else some false)else some false):Option Bool).bind fun v1=>some v1)
theorem Q3(p0:dK)(r:Bool)(hF:yX p0=some r):Fun Try.prog 39 true [] [.agg [jI p0.z8,jI p0.j6]] noHeap (cB r) noHeap:=by
 refine fW Try.func39 ?_
 unfold yX at hF
 refine wA rfl (a9 (e9 (fun _ _ h=>h) hF (fun v1=>[(2,cB v1)]) (fun v1=>[]) ?_ ?_))
 ·rintro v1 hF
  cases hF
  exact cQ wR
 intro join hF
 refine wD 4 rfl ?_;cases h2:(decide (0≤p0.z8))
 ·have hF:=bF' h2 hF;exact QV rfl (join false _ _ hF sw)
 have hF:=bT' h2 hF;refine a7 SV 7 rfl ?_;cases h3:(decide (p0.z8<p0.j6))
 ·have hF:=bF' h3 hF;exact QV rfl (join false _ _ hF sw)
 have hF:=bT' h3 hF;exact QV rfl (join (decide (p0.j6≤1000000000000)) _ _ hF sw)
def o5(p0:ByteArray)(p1:Int):Option Int:=some (Go.Lib.indexByte p0.data.toList p1.toNat.toUInt8)
theorem vq(p0:ByteArray)(p1:Int)(r:Int)(hF:o5 p0 p1=some r):Fun Try.prog 85 true [] [.c (jS p0),.c (.imm (.sc (.int .u8 p1)))] noHeap (cI r) noHeap:=by
 cases hF
 refine Fun.of_plain [.string p0,.int .u8 p1] (.int .i64 (Go.Lib.indexByte p0.data.toList p1.toNat.toUInt8)) (fun w=>?_) rfl
 go_enter Try.func85,Try.ntmps85;go_wp2;rw[run_callFunc_extern Try.func99 (by kernel_rfl) (by kernel_rfl) (by kernel_rfl) (e:=Extern.BytealgIndexByte.indexByte) (by kernel_rfl),Go.Lib.run_indexByteString]
 simp only[Result.andThen];rw[Oper.upon_value];go_wp2;go_ret;exact⟨rfl,rfl⟩
def gQ(p0:ByteArray)(p1:Int):Option Int :=
  ((o5 p0 p1).bind fun r1=>some r1)
theorem fZ(p0:ByteArray)(p1:Int)(r:Int)(hF:gQ p0 p1=some r):Fun Try.prog 78 true [] [.c (jS p0),.c (.imm (.sc (.int .u8 p1)))] noHeap (cI r) noHeap:=by
 refine fW Try.func78 ?_
 unfold gQ at hF
 refine wA rfl (wC 2 rfl ?_);obtain⟨r1,hr1,hF⟩:=bB hF
 refine rS (cZ (vq _ _ _ hr1) ⟨rfl,rfl,trivial⟩ rfl (.inl rfl) (QV rfl ?_));cases hF
 exact cQ wR
def tV(p0:Int):Option Bool :=
  (((bif (decide (97≤p0))then(bif (decide (p0≤122))then some true else(bif (decide (65≤p0))then(bif (decide (p0≤90))then some true else(bif (decide (48≤p0))then(bif (decide (p0≤57))then some true else((gQ (⟨#[95,46,58,47,60,62,36,42,126,45]⟩ : ByteArray) p0).bind fun r23=>some (decide (0≤r23))))else((gQ (⟨#[95,46,58,47,60,62,36,42,126,45]⟩ : ByteArray) p0).bind fun r21=>some (decide (0≤r21)))))else(bif (decide (48≤p0))then(bif (decide (p0≤57))then some true else((gQ (⟨#[95,46,58,47,60,62,36,42,126,45]⟩ : ByteArray) p0).bind fun r18=>some (decide (0≤r18))))else((gQ (⟨#[95,46,58,47,60,62,36,42,126,45]⟩ : ByteArray) p0).bind fun r16=>some (decide (0≤r16))))))else(bif (decide (65≤p0))then(bif (decide (p0≤90))then some true else(bif (decide (48≤p0))then(bif (decide (p0≤57))then some true else((gQ (⟨#[95,46,58,47,60,62,36,42,126,45]⟩ : ByteArray) p0).bind fun r12=>some (decide (0≤r12))))else((gQ (⟨#[95,46,58,47,60,62,36,42,126,45]⟩ : ByteArray) p0).bind fun r10=>some (decide (0≤r10)))))else(bif (decide (48≤p0))then(bif (decide (p0≤57))then some true else((gQ (⟨#[95,46,58,47,60,62,36,42,126,45]⟩ : ByteArray) p0).bind fun r7=>some (decide (0≤r7))))else((gQ (⟨#[95,46,58,47,60,62,36,42,126,45]⟩ : ByteArray) p0).bind fun r5=>some (decide (0≤r5)))))):Option Bool).bind fun v1=>some v1)
theorem Oz(p0:Int)(r:Bool)(hF:tV p0=some r):Fun Try.prog 63 true [] [.c (.imm (.sc (.int .u8 p0)))] noHeap (cB r) noHeap:=by
 refine Fun.of_walk0 Try.func63 c63 (by kernel_rfl) (rs:=[.tmp 2]) (by kernel_rfl) ?_;unfold v63
 unfold tV at hF
 refine wA rfl (a9 (e9 (fun _ _ h=>h) hF (fun v1=>[(2,cB v1)]) (fun v1=>[]) ?_ ?_))
 ·rintro v1 hF
  cases hF
  exact cQ wR
 intro join hF
 refine wD 3 rfl ?_;cases h2:(decide (97≤p0))
 ·have hF:=bF' h2 hF;refine a7 SV 7 rfl ?_;cases h3:(decide (65≤p0))
  ·have hF:=bF' h3 hF;refine a7 SV 8 rfl ?_;cases h4:(decide (48≤p0))
   ·have hF:=bF' h4 hF;refine a7 SV 6 rfl ?_;obtain⟨r5,hr5,hF⟩:=bB' hF
    exact b8 SV rfl (cZ (fZ _ _ _ hr5) ⟨rfl,rfl,trivial⟩ rfl (.inl rfl) (QV rfl (join (decide (0≤r5)) _ _ hF sw)))
   have hF:=bT' h4 hF;refine a7 SV 5 rfl ?_;cases h6:(decide (p0≤57))
   ·have hF:=bF' h6 hF;refine a7 SV 1 rfl ?_;obtain⟨r7,hr7,hF⟩:=bB' hF
    exact b8 SV rfl (cZ (fZ _ _ _ hr7) ⟨rfl,rfl,trivial⟩ rfl (.inl rfl) (QV rfl (join (decide (0≤r7)) _ _ hF sw)))
   have hF:=bT' h6 hF;exact QV rfl (join true _ _ hF sw)
  have hF:=bT' h3 hF;refine a7 SV 5 rfl ?_;cases h8:(decide (p0≤90))
  ·have hF:=bF' h8 hF;refine a7 SV 3 rfl ?_;cases h9:(decide (48≤p0))
   ·have hF:=bF' h9 hF;refine a7 SV 6 rfl ?_;obtain⟨r10,hr10,hF⟩:=bB' hF
    exact b8 SV rfl (cZ (fZ _ _ _ hr10) ⟨rfl,rfl,trivial⟩ rfl (.inl rfl) (QV rfl (join (decide (0≤r10)) _ _ hF sw)))
   have hF:=bT' h9 hF;refine a7 SV 5 rfl ?_;cases h11:(decide (p0≤57))
   ·have hF:=bF' h11 hF;refine a7 SV 1 rfl ?_;obtain⟨r12,hr12,hF⟩:=bB' hF
    exact b8 SV rfl (cZ (fZ _ _ _ hr12) ⟨rfl,rfl,trivial⟩ rfl (.inl rfl) (QV rfl (join (decide (0≤r12)) _ _ hF sw)))
   have hF:=bT' h11 hF;exact QV rfl (join true _ _ hF sw)
  have hF:=bT' h8 hF;exact QV rfl (join true _ _ hF sw)
 have hF:=bT' h2 hF;refine a7 SV 4 rfl ?_;cases h13:(decide (p0≤122))
 ·have hF:=bF' h13 hF;refine a7 SV 3 rfl ?_;cases h14:(decide (65≤p0))
  ·have hF:=bF' h14 hF;refine a7 SV 8 rfl ?_;cases h15:(decide (48≤p0))
   ·have hF:=bF' h15 hF;refine a7 SV 6 rfl ?_;obtain⟨r16,hr16,hF⟩:=bB' hF
    exact b8 SV rfl (cZ (fZ _ _ _ hr16) ⟨rfl,rfl,trivial⟩ rfl (.inl rfl) (QV rfl (join (decide (0≤r16)) _ _ hF sw)))
   have hF:=bT' h15 hF;refine a7 SV 5 rfl ?_;cases h17:(decide (p0≤57))
   ·have hF:=bF' h17 hF;refine a7 SV 1 rfl ?_;obtain⟨r18,hr18,hF⟩:=bB' hF
    exact b8 SV rfl (cZ (fZ _ _ _ hr18) ⟨rfl,rfl,trivial⟩ rfl (.inl rfl) (QV rfl (join (decide (0≤r18)) _ _ hF sw)))
   have hF:=bT' h17 hF;exact QV rfl (join true _ _ hF sw)
  have hF:=bT' h14 hF;refine a7 SV 5 rfl ?_;cases h19:(decide (p0≤90))
  ·have hF:=bF' h19 hF;refine a7 SV 3 rfl ?_;cases h20:(decide (48≤p0))
   ·have hF:=bF' h20 hF;refine a7 SV 6 rfl ?_;obtain⟨r21,hr21,hF⟩:=bB' hF
    exact b8 SV rfl (cZ (fZ _ _ _ hr21) ⟨rfl,rfl,trivial⟩ rfl (.inl rfl) (QV rfl (join (decide (0≤r21)) _ _ hF sw)))
   have hF:=bT' h20 hF;refine a7 SV 5 rfl ?_;cases h22:(decide (p0≤57))
   ·have hF:=bF' h22 hF;refine a7 SV 1 rfl ?_;obtain⟨r23,hr23,hF⟩:=bB' hF
    exact b8 SV rfl (cZ (fZ _ _ _ hr23) ⟨rfl,rfl,trivial⟩ rfl (.inl rfl) (QV rfl (join (decide (0≤r23)) _ _ hF sw)))
   have hF:=bT' h22 hF;exact QV rfl (join true _ _ hF sw)
  have hF:=bT' h19 hF;exact QV rfl (join true _ _ hF sw)
 have hF:=bT' h13 hF;exact QV rfl (join true _ _ hF sw)
def wq(p0:ByteArray):Int→Option (Int ⊕ (Unit ⊕ Int)):=fun a13 =>
  (bif (decide (a13<(ByteArray.size p0:Int)))then((idx (ByteArray.data p0).toList a13).bind fun y18=>((tV (UInt8.toNat y18:Int)).bind fun r19=>(bif (!r19)then some (.inr (.inr 3))else some (.inl (w64 (a13+1))))))else some (.inr (.inl ())))
def vZ(p0:ByteArray):Option Int :=
  (((bif (decide (p0=(⟨#[]⟩ : ByteArray)))then some true else some (decide (40<(ByteArray.size p0:Int)))):Option Bool).bind fun v1=>(bif v1 then some 3 else((loop (wq p0) 0).bind fun | .inl _=>some 0 | .inr rv=>some rv)))
theorem Q6(p0:ByteArray)(r:Int)(hF:vZ p0=some r):Fun Try.prog 40 true [] [.c (jS p0)] noHeap (cI r) noHeap:=by
 refine fW Try.func40 ?_
 unfold vZ at hF
 refine wA rfl (a9 (a9 (e9 (fun _ _ h=>h) hF (fun v1=>[(0,.c (jS p0)),(10,cB v1)]) (fun v1=>[]) ?_ ?_)))
 ·rintro v1 hF
  refine wIf hF rfl (fun _ hF=>?_) fun _ hF=>?_
  ·refine wA rfl ?_;cases hF
   exact cQ wR
  refine b5 (a9 (wA rfl (pW (fun _ _ h=>h) hF (.inl) (fun a13=>[(0,.c (jS p0)),(12,cI (ByteArray.size p0:Int)),(13,cI a13)]) (fun a13=>[]) (fun _=>[]) (fun _=>[]) sw ?_ ?_)))
  ·rintro⟨⟩ hF
   refine wA rfl ?_;cases hF
   exact cQ wR
  rintro a13 x_0 hF cont_0 brk_0 fin_0
  unfold wq at hF
  refine wA rfl (a9 (wIf hF rfl (fun _ hF=>?_) fun _ hF=>?_))
  ·refine b5 (a9 (gJ (wA rfl (wC 2 rfl ?_))));obtain⟨y18,hy18,hF⟩:=bB hF
   refine rS (aCj p0 rfl rfl hy18 ?_);obtain⟨r19,hr19,hF⟩:=bB hF
   refine rS (cZ (Oz _ _ hr19) ⟨rfl,trivial⟩ rfl (.inl rfl) (QV rfl (wIf hF rfl (fun _ hF=>?_) fun _ hF=>?_)))
   ·refine wA rfl ?_;have hF:=fin_0 _ (oi hF);cases hF
    exact cQ wR
   exact b5 (wB rfl (cont_0 _ _ _ (oi hF) sw))
  exact kV (bQ (bQ (dJ (brk_0 _ _ _ (oi hF) sw))))
 intro join hF
 refine wD 3 rfl ?_;cases h23:(decide (p0=(⟨#[]⟩ : ByteArray)))
 ·have hF:=bF' h23 hF;exact QV rfl (join (decide (40<(ByteArray.size p0:Int))) _ _ hF sw)
 have hF:=bT' h23 hF;exact QV rfl (join true _ _ hF sw)
def uX(p0:Int):Option Bool :=
  some (!decide (p0=p0))
theorem C5(p0:Int)(r:Bool)(hF:uX p0=some r):Fun Try.prog 77 true [] [cI p0] noHeap (cB r) noHeap:=by
 refine fW Try.func77 ?_
 unfold uX at hF
 refine wA rfl (wA rfl ?_);cases hF
 exact cQ wR
def lV(p0:Int)(p1:Int):Option Int :=
  ((uX p0).bind fun r1=>((uX p1).bind fun r2=>(bif r1 then(bif r2 then some 0 else some (-1))else(bif r2 then some 1 else(bif (decide (p0<p1))then some (-1)else(bif (decide (p1<p0))then some 1 else some 0))))))
theorem tj(p0:Int)(p1:Int)(r:Int)(hF:lV p0 p1=some r):Fun Try.prog 57 true [] [cI p0,cI p1] noHeap (cI r) noHeap:=by
 refine fW Try.func57 ?_
 unfold lV at hF
 refine wA rfl (wC 1 rfl ?_);obtain⟨r1,hr1,hF⟩:=bB hF
 refine rS (cZ (C5 _ _ hr1) ⟨rfl,trivial⟩ rfl (.inl rfl) (QV rfl (wC 1 rfl ?_)));obtain⟨r2,hr2,hF⟩:=bB hF
 refine rS (cZ (C5 _ _ hr2) ⟨rfl,trivial⟩ rfl (.inl rfl) (QV rfl (a9 (wA rfl (wIf hF rfl (fun _ hF=>?_) fun _ hF=>?_)))))
 ·refine a9 (wA rfl (wIf hF rfl (fun _ hF=>?_) fun _ hF=>?_))
  ·refine wA rfl ?_;cases hF
   exact cQ wR
  refine b5 (wA rfl ?_);cases hF
  exact cQ wR
 refine b5 (a9 (wA rfl (wIf hF rfl (fun _ hF=>?_) fun _ hF=>?_)))
 ·refine wA rfl ?_;cases hF
  exact cQ wR
 refine b5 (a9 (wA rfl (wIf hF rfl (fun _ hF=>?_) fun _ hF=>?_)))
 ·refine wA rfl ?_;cases hF
  exact cQ wR
 refine b5 (a9 (wA rfl (wIf hF rfl (fun _ hF=>?_) fun _ hF=>?_)))
 ·refine wA rfl ?_;cases hF
  exact cQ wR
 refine b5 (wA rfl ?_);cases hF
 exact cQ wR
def x7(p0:(List Int)):Int→Option (Int ⊕ (Unit ⊕ Int)):=fun a10 =>
  (bif (decide (a10<(List.length p0:Int)))then((idx p0 a10).bind fun y14=>(bif (!decide (y14=0))then some (.inr (.inr y14))else some (.inl (w64 (a10+1)))))else some (.inr (.inl ())))
def A7(p0:(List Int)):Option Int :=
  ((loop (x7 p0) 0).bind fun | .inl _=>some 0 | .inr rv=>some rv)
theorem V4(p0:(List Int))(r:Int)(hF:A7 p0=some r):Fun Try.prog 56 true [] [cL 1 kx p0] noHeap (cI r) noHeap:=by
 refine fW Try.func56 ?_
 unfold A7 at hF
 refine wA rfl (wA rfl (a9 (wC 1 rfl (rS (l9 (tc:=kx) p0 .tree (QV rfl (pW (fun _ _ h=>h) hF (.inl) (fun a10=>[(3,cI 0),(6,cL 1 kx p0),(7,cI (List.length p0:Int)),(8,cI a10)]) (fun a10=>[]) (fun _=>[(3,cI 0)]) (fun _=>[]) sw ?_ ?_)))))))
 ·rintro⟨⟩ hF
  refine wA rfl ?_;cases hF
  exact cQ wR
 rintro a10 x_0 hF cont_0 brk_0 fin_0
 unfold x7 at hF
 refine wA rfl (a9 (wIf hF rfl (fun _ hF=>?_) fun _ hF=>?_))
 ·refine b5 (a9 (gJ (wE ?_)));obtain⟨y14,hy14,hF⟩:=bB hF
  refine rS (iK (tc:=kx) p0 rfl rfl hy14 (QV rfl (wA rfl (wIf hF rfl (fun _ hF=>?_) fun _ hF=>?_))))
  ·refine wA rfl ?_;have hF:=fin_0 _ (oi hF);cases hF
   exact cQ wR
  exact b5 (wB rfl (cont_0 _ _ _ (oi hF) sw))
 exact kV (bQ (bQ (dJ (brk_0 _ _ _ (oi hF) sw))))
def tW(p0:az)(p1:az):Option Int :=
  ((lV p0.z3.z8 p1.z3.z8).bind fun r1=>((lV p1.z3.j6 p0.z3.j6).bind fun r2=>((lV p0.q6 p1.q6).bind fun r3=>((A7 [r1,r2,r3]).bind fun r4=>some r4))))
theorem Mz(p0:az)(p1:az)(r:Int)(hF:tW p0 p1=some r):Fun Try.prog 34 true [] [.agg (kQ p0),.agg (kQ p1)] noHeap (cI r) noHeap:=by
 refine fW Try.func34 ?_
 unfold tW at hF
 refine wA rfl (a9 (xz (by decide) (by kernel_rfl) rfl (a7 SP 6 rfl ?_)));obtain⟨r1,hr1,hF⟩:=bB hF
 refine b8 SP trivial (cZ (tj _ _ _ hr1) ⟨rfl,rfl,trivial⟩ rfl (.inl rfl) (a7 SP 6 rfl ?_));obtain⟨r2,hr2,hF⟩:=bB hF
 refine b8 SP trivial (cZ (tj _ _ _ hr2) ⟨rfl,rfl,trivial⟩ rfl (.inl rfl) (a7 SP 4 rfl ?_));obtain⟨r3,hr3,hF⟩:=bB hF
 refine b8 SP trivial (cZ (tj _ _ _ hr3) ⟨rfl,rfl,trivial⟩ rfl (.inl rfl) ?_);refine b8 SP trivial (ZX (tc:=kx) [r1,r2,r3] rfl ⟨rfl,rfl,rfl,trivial⟩ rfl (fun _=>rfl) rfl ?_)
 obtain⟨r4,hr4,hF⟩:=bB hF
 refine b8 SP trivial (cZ (V4 _ _ hr4) ⟨⟨_,rfl⟩,trivial⟩ rfl (.inl rfl) (QP rfl ?_));cases hF
 exact cQ wR
def zX(p0:(List az)):Int→Option (Int ⊕ (Unit ⊕ Bool)):=fun a30 =>
  (bif (decide (a30<(List.length p0:Int)))then((idx p0 a30).bind fun y44=>(((bif (decide (y44.q8<(-1)))then some true else some (decide (a30≤y44.q8))):Option Bool).bind fun v45=>(bif v45 then some (.inr (.inr false))else(bif (decide (y44.q8=(-1)))then(bif (!decide (y44.z4=0))then some (.inr (.inr false))else some (.inl (w64 (a30+1))))else((idx p0 y44.q8).bind fun y47=>(((bif (!decide (y47.q6=y44.q6))then some true else(bif (decide (y44.z3.z8<y47.z3.z8))then some true else(bif (decide (y47.z3.j6<y44.z3.j6))then some true else some (!decide (y44.z4=(w64 (y47.z4+1))))))):Option Bool).bind fun v48=>(bif v48 then some (.inr (.inr false))else some (.inl (w64 (a30+1))))))))))else some (.inr (.inl ())))
def Ax(p0:(List az)):Option Bool :=
  ((loop (zX p0) 0).bind fun | .inl _=>some true | .inr rv=>some rv)
theorem O2(p0:(List az))(r:Bool)(hF:Ax p0=some r):Fun Try.prog 41 true [] [cL 8 aQ p0] noHeap (cB r) noHeap:=by
 refine fW Try.func41 ?_
 unfold Ax at hF
 refine wA rfl (a9 (wC 1 rfl (rS (l9 (tc:=aQ) p0 .tree (QV rfl (pW (fun _ _ h=>h) hF (.inl) (fun a30=>[(0,cL 8 aQ p0),(6,cL 8 aQ p0),(7,cI (List.length p0:Int)),(8,cI a30)]) (fun a30=>[]) (fun _=>[]) (fun _=>[]) sw ?_ ?_))))))
 ·rintro⟨⟩ hF
  refine wA rfl ?_;cases hF
  exact cQ wR
 rintro a30 x_0 hF cont_0 brk_0 fin_0
 unfold zX at hF
 refine wA rfl (a9 (wIf hF rfl (fun _ hF=>?_) fun _ hF=>?_))
 ·refine b5 (a9 (gJ (wC 1 rfl ?_)));obtain⟨y44,hy44,hF⟩:=bB hF
  refine rS (iK (tc:=aQ) p0 rfl rfl hy44 (QV rfl (gJ (a9 (e9 (fun _ _ h=>h) hF (fun v45=>[(0,cL 8 aQ p0),(4,cP (4,0) 0),(6,cL 8 aQ p0),(7,cI (List.length p0:Int)),(8,cI a30),(49,cB v45)]) (fun v45=>[((4,0),.box (kQ y44))]) ?_ ?_)))))
  ·rintro v45 hF
   refine wIf hF rfl (fun _ hF=>?_) fun _ hF=>?_
   ·refine wA rfl ?_;have hF:=fin_0 _ (oi hF);cases hF
    exact cQ wR
   refine wA rfl (wIf hF rfl (fun _ hF=>?_) fun _ hF=>?_)
   ·refine wA rfl (wIf hF rfl (fun _ hF=>?_) fun _ hF=>?_)
    ·refine wA rfl ?_;have hF:=fin_0 _ (oi hF);cases hF
     exact cQ wR
    exact b5 (wB rfl (cont_0 _ _ _ (oi hF) sw))
   refine wC 3 rfl ?_;obtain⟨y47,hy47,hF⟩:=bB hF
   refine rS (iK (tc:=aQ) p0 rfl rfl hy47 (QV rfl (a9 (e9 (fun _ _ h=>h) hF (fun v48=>[(0,cL 8 aQ p0),(6,cL 8 aQ p0),(7,cI (List.length p0:Int)),(8,cI a30),(48,cB v48)]) (fun v48=>[]) ?_ ?_))))
   ·rintro v48 hF
    refine wIf hF rfl (fun _ hF=>?_) fun _ hF=>?_
    ·refine wA rfl ?_;have hF:=fin_0 _ (oi hF);cases hF
     exact cQ wR
    exact b5 (wB rfl (cont_0 _ _ _ (oi hF) sw))
   intro join hF
   refine wD 6 rfl ?_;cases h50:(!decide (y47.q6=y44.q6))
   ·have hF:=bF' h50 hF;refine a7 SV 9 rfl ?_;cases h51:(decide (y44.z3.z8<y47.z3.z8))
    ·have hF:=bF' h51 hF;refine a7 SV 9 rfl ?_;cases h52:(decide (y47.z3.j6<y44.z3.j6))
     ·have hF:=bF' h52 hF;exact QV rfl (join (!decide (y44.z4=(w64 (y47.z4+1)))) _ _ hF sw)
     have hF:=bT' h52 hF;exact QV rfl (join true _ _ hF sw)
    have hF:=bT' h51 hF;exact QV rfl (join true _ _ hF sw)
   have hF:=bT' h50 hF;exact QV rfl (join true _ _ hF sw)
  intro join hF
  refine wD 4 rfl ?_;cases h55:(decide (y44.q8<(-1)))
  ·have hF:=bF' h55 hF;exact QV rfl (join (decide (a30≤y44.q8)) _ _ hF sw)
  have hF:=bT' h55 hF;exact QV rfl (join true _ _ hF sw)
 exact kV (bQ (bQ (dJ (brk_0 _ _ _ (oi hF) sw))))
def B4(p0:(List az))(p1:Int):Int→Option (Int ⊕ (Unit ⊕ Bool)):=fun a10 =>
  (bif (decide (0≤a10))then(bif (decide (p1=a10))then some (.inr (.inr true))else((idx p0 a10).bind fun y14=>some (.inl y14.q8)))else some (.inr (.inl ())))
def yV(p0:(List az))(p1:Int)(p2:Int):Option Bool :=
  ((loop (B4 p0 p1) p2).bind fun | .inl _=>some false | .inr rv=>some rv)
theorem QY(p0:(List az))(p1:Int)(p2:Int)(r:Bool)(hF:yV p0 p1 p2=some r):Fun Try.prog 64 true [] [cL 8 aQ p0,cI p1,cI p2] noHeap (cB r) noHeap:=by
 refine fW Try.func64 ?_
 unfold yV at hF
 refine wA rfl (a9 (pW (fun _ _ h=>h) hF (.inl) (fun a10=>[(0,cL 8 aQ p0),(1,cI p1),(2,cI a10)]) (fun a10=>[]) (fun _=>[]) (fun _=>[]) sw ?_ ?_))
 ·rintro⟨⟩ hF
  refine wA rfl ?_;cases hF
  exact cQ wR
 rintro a10 x_0 hF cont_0 brk_0 fin_0
 unfold B4 at hF
 refine a9 (wA rfl (wIf hF rfl (fun _ hF=>?_) fun _ hF=>?_))
 ·refine b5 (a9 (gJ (wA rfl (wIf hF rfl (fun _ hF=>?_) fun _ hF=>?_))))
  ·refine wA rfl ?_;have hF:=fin_0 _ (oi hF);cases hF
   exact cQ wR
  refine b5 (wD 2 rfl ?_);obtain⟨y14,hy14,hF⟩:=bB hF
  exact rS (iK (tc:=aQ) p0 rfl rfl hy14 (QV rfl (cont_0 _ _ _ (oi hF) sw)))
 exact kV (bQ (bQ (dJ (brk_0 _ _ _ (oi hF) sw))))
def B9(p0:(List az))(a116:Int)(y173:az):(Int×Int)→Option ((Int×Int) ⊕ (Int ⊕ (Int ⊕ (Unit ⊕ Bool)))):=fun(a202,a203) =>
  (bif (decide (a203<(List.length p0:Int)))then((idx p0 a203).bind fun y217=>(((bif (decide (y217.q8=a116))then some (w64 (a202-(w64 (y217.z3.j6-y217.z3.z8))))else some a202):Option Int).bind fun v218=>(((bif (decide (a203<a116))then(bif (decide (y217.q6=y173.q6))then(bif (decide (y173.z3.z8<y217.z3.j6))then(bif (decide (y217.z3.z8<y173.z3.j6))then((yV p0 a203 a116).bind fun r225=>some (!r225))else some false)else some false)else some false)else some false):Option Bool).bind fun v219=>(bif v219 then some (.inr (.inr (.inr (.inr false))))else some (.inl (v218,(w64 (a203+1))))))))else some (.inr (.inl a202)))
def Cq(p0:(List az)):Int→Option (Int ⊕ (Unit ⊕ Bool)):=fun a116 =>
  (bif (decide (a116<(List.length p0:Int)))then((idx p0 a116).bind fun y173=>((loop (B9 p0 a116 y173) ((w64 (y173.z3.j6-y173.z3.z8)),0)).bind fun | .inl e215=>(bif (!decide (y173.z7=e215))then some (.inr (.inr false))else some (.inl (w64 (a116+1)))) | .inr rv=>some rv))else some (.inr (.inl ())))
def yK(p0:(List az)):Option Bool :=
  ((loop (Cq p0) 0).bind fun | .inl _=>some true | .inr rv=>some rv)
theorem Q5(p0:(List az))(r:Bool)(hF:yK p0=some r):Fun Try.prog 42 true [] [cL 8 aQ p0] noHeap (cB r) noHeap:=by
 refine fW Try.func42 ?_
 unfold yK at hF
 refine wA rfl (a9 (wC 1 rfl (rS (l9 (tc:=aQ) p0 .tree (QV rfl (pW (fun _ _ h=>h) hF (.inl) (fun a116=>[(0,cL 8 aQ p0),(8,cL 8 aQ p0),(9,cI (List.length p0:Int)),(10,cI a116)]) (fun a116=>[]) (fun _=>[]) (fun _=>[]) sw ?_ ?_))))))
 ·rintro⟨⟩ hF
  refine wA rfl ?_;cases hF
  exact cQ wR
 rintro a116 x_0 hF cont_0 brk_0 fin_0
 unfold Cq at hF
 refine wA rfl (a9 (wIf hF rfl (fun _ hF=>?_) fun _ hF=>?_))
 ·refine b5 (a9 (gJ (wC 1 rfl ?_)));obtain⟨y173,hy173,hF⟩:=bB hF
  refine rS (iK (tc:=aQ) p0 rfl rfl hy173 (QV rfl (wA rfl (a9 (wC 1 rfl (rS (l9 (tc:=aQ) p0 .tree (QV rfl (pW (fun _ _ h=>h) hF (.inl) (fun(a202,a203)=>[(0,cL 8 aQ p0),(3,cI a116),(4,cP (4,0) 0),(5,cI a202),(8,cL 8 aQ p0),(9,cI (List.length p0:Int)),(10,cI a116),(22,cL 8 aQ p0),(23,cI (List.length p0:Int)),(24,cI a203)]) (fun(a202,a203)=>[((4,0),.box (kQ y173))]) (fun e215=>[(0,cL 8 aQ p0),(4,cP (4,0) 0),(5,cI e215),(8,cL 8 aQ p0),(9,cI (List.length p0:Int)),(10,cI a116)]) (fun e215=>[((4,0),.box (kQ y173))]) sw ?_ ?_)))))))))
  ·rintro e215 hF
   refine wA rfl (wIf hF rfl (fun _ hF=>?_) fun _ hF=>?_)
   ·refine wA rfl ?_;have hF:=fin_0 _ (oi hF);cases hF
    exact cQ wR
   exact b5 (wB rfl (cont_0 _ _ _ (oi hF) sw))
  rintro⟨a202,a203⟩ x_1 hF cont_1 brk_1 fin_1
  unfold B9 at hF
  refine wA rfl (a9 (wIf hF rfl (fun _ hF=>?_) fun _ hF=>?_))
  ·refine b5 (a9 (gJ (wC 1 rfl ?_)));obtain⟨y217,hy217,hF⟩:=bB hF
   refine rS (iK (tc:=aQ) p0 rfl rfl hy217 (QV rfl (a9 (wA rfl (e9 (fun _ _ h=>h) hF (fun v218=>[(0,cL 8 aQ p0),(3,cI a116),(4,cP (4,0) 0),(5,cI v218),(6,cI a203),(7,cP (7,0) 0),(8,cL 8 aQ p0),(9,cI (List.length p0:Int)),(10,cI a116),(22,cL 8 aQ p0),(23,cI (List.length p0:Int)),(24,cI a203)]) (fun v218=>[((4,0),.box (kQ y173)),((7,0),.box (kQ y217))]) ?_ ?_)))))
   ·rintro v218 hF
    refine a9 (e9 (fun _ _ h=>h) hF (fun v219=>[(0,cL 8 aQ p0),(3,cI a116),(4,cP (4,0) 0),(5,cI v218),(8,cL 8 aQ p0),(9,cI (List.length p0:Int)),(10,cI a116),(22,cL 8 aQ p0),(23,cI (List.length p0:Int)),(24,cI a203),(76,cB v219)]) (fun v219=>[((4,0),.box (kQ y173))]) ?_ ?_)
    ·rintro v219 hF
     refine wIf hF rfl (fun _ hF=>?_) fun _ hF=>?_
     ·refine wA rfl ?_;have hF:=fin_1 _ (oi hF);have hF:=fin_0 _ (oi hF);cases hF
      exact cQ wR
     exact b5 (wB rfl (cont_1 _ _ _ (oi hF) sw))
    intro join hF
    refine wD 4 rfl ?_;cases h221:(decide (a203<a116))
    ·have hF:=bF' h221 hF;exact QV rfl (join false _ _ hF sw)
    have hF:=bT' h221 hF;refine a7 SV 7 rfl ?_;cases h222:(decide (y217.q6=y173.q6))
    ·have hF:=bF' h222 hF;exact QV rfl (join false _ _ hF sw)
    have hF:=bT' h222 hF;refine a7 SV 9 rfl ?_;cases h223:(decide (y173.z3.z8<y217.z3.j6))
    ·have hF:=bF' h223 hF;exact QV rfl (join false _ _ hF sw)
    have hF:=bT' h223 hF;refine a7 SV 9 rfl ?_;cases h224:(decide (y217.z3.z8<y173.z3.j6))
    ·have hF:=bF' h224 hF;exact QV rfl (join false _ _ hF sw)
    have hF:=bT' h224 hF;refine a7 SV 3 rfl ?_;obtain⟨r225,hr225,hF⟩:=bB' hF
    exact b8 SV rfl (cZ (QY _ _ _ _ hr225) ⟨rfl,rfl,rfl,trivial⟩ rfl (.inl rfl) (QV rfl (join (!r225) _ _ hF sw)))
   intro join hF
   refine L8 hF rfl (fun _ hF=>?_) fun _ hF=>?_
   ·exact wB rfl (join (w64 (a202-(w64 (y217.z3.j6-y217.z3.z8)))) _ _ hF sw)
   exact b5 (join a202 _ _ hF sw)
  exact kV (bQ (bQ (dJ (brk_1 _ _ _ (oi hF) sw))))
 exact kV (bQ (bQ (dJ (brk_0 _ _ _ (oi hF) sw))))
def B5(p0:(List az)):Int→Option (Int ⊕ (Unit ⊕ Int)):=fun a32 =>
  (bif (decide (a32<(List.length p0:Int)))then((idx p0 a32).bind fun y52=>(((bif (decide (y52.q6<0))then some true else(bif (decide (1000000000000000<y52.q6))then some true else((yX y52.z3).bind fun r64=>some (!r64)))):Option Bool).bind fun v53=>(bif v53 then some (.inr (.inr 2))else((vZ y52.z5).bind fun r54=>(bif (!decide (r54=0))then some (.inr (.inr r54))else(((bif (decide (0<a32))then((idx p0 (w64 (a32-1))).bind fun y58=>((tW y58 y52).bind fun r59=>some (decide (0<r59))))else some false):Option Bool).bind fun v55=>(bif v55 then some (.inr (.inr 11))else some (.inl (w64 (a32+1))))))))))else some (.inr (.inl ())))
def yQ(p0:(List az)):Option Int :=
  ((loop (B5 p0) 0).bind fun | .inl _=>((((Ax p0).bind fun r49=>(bif (!r49)then some true else((yK p0).bind fun r51=>some (!r51)))):Option Bool).bind fun v47=>(bif v47 then some 10 else some 0)) | .inr rv=>some rv)
theorem Q0(p0:(List az))(r:Int)(hF:yQ p0=some r):Fun Try.prog 14 true [] [cL 8 aQ p0] noHeap (cI r) noHeap:=by
 refine fW Try.func14 ?_
 unfold yQ at hF
 refine wA rfl (a9 (wC 1 rfl (rS (l9 (tc:=aQ) p0 .tree (QV rfl (pW (fun _ _ h=>h) hF (.inl) (fun a32=>[(0,cL 8 aQ p0),(6,cL 8 aQ p0),(7,cI (List.length p0:Int)),(8,cI a32)]) (fun a32=>[]) (fun _=>[(0,cL 8 aQ p0)]) (fun _=>[]) sw ?_ ?_))))))
 ·rintro⟨⟩ hF
  refine a9 (a9 (e9 (fun _ _ h=>h) hF (fun v47=>[(53,cB v47)]) (fun v47=>[]) ?_ ?_))
  ·rintro v47 hF
   refine wIf hF rfl (fun _ hF=>?_) fun _ hF=>?_
   ·refine wA rfl ?_;cases hF
    exact cQ wR
   refine b5 (wA rfl ?_);cases hF
   exact cQ wR
  intro join hF
  refine wD 1 rfl ?_;obtain⟨r49,hr49,hF⟩:=bB' hF
  refine rS (cZ (O2 _ _ hr49) ⟨rfl,trivial⟩ rfl (.inl rfl) (a7 SV 2 rfl ?_));cases h50:(!r49)
  ·have hF:=bF' h50 hF;refine a7 SV 1 rfl ?_;obtain⟨r51,hr51,hF⟩:=bB' hF
   exact b8 SV rfl (cZ (Q5 _ _ hr51) ⟨rfl,trivial⟩ rfl (.inl rfl) (QV rfl (join (!r51) _ _ hF sw)))
  have hF:=bT' h50 hF;exact QV rfl (join true _ _ hF sw)
 rintro a32 x_0 hF cont_0 brk_0 fin_0
 unfold B5 at hF
 refine wA rfl (a9 (wIf hF rfl (fun _ hF=>?_) fun _ hF=>?_))
 ·refine b5 (a9 (gJ (wC 1 rfl ?_)));obtain⟨y52,hy52,hF⟩:=bB hF
  refine rS (iK (tc:=aQ) p0 rfl rfl hy52 (QV rfl (a9 (a9 (e9 (fun _ _ h=>h) hF (fun v53=>[(0,cL 8 aQ p0),(3,cI a32),(4,cP (4,0) 0),(6,cL 8 aQ p0),(7,cI (List.length p0:Int)),(8,cI a32),(26,cB v53)]) (fun v53=>[((4,0),.box (kQ y52))]) ?_ ?_)))))
  ·rintro v53 hF
   refine wIf hF rfl (fun _ hF=>?_) fun _ hF=>?_
   ·refine wA rfl ?_;have hF:=fin_0 _ (oi hF);cases hF
    exact cQ wR
   refine b5 (a9 (wC 2 rfl ?_));obtain⟨r54,hr54,hF⟩:=bB hF
   refine rS (cZ (Q6 _ _ hr54) ⟨rfl,trivial⟩ rfl (.inl rfl) (QV rfl (wA rfl (wIf hF rfl (fun _ hF=>?_) fun _ hF=>?_))))
   ·refine wA rfl ?_;have hF:=fin_0 _ (oi hF);cases hF
    exact cQ wR
   refine b5 (a9 (e9 (fun _ _ h=>h) hF (fun v55=>[(0,cL 8 aQ p0),(6,cL 8 aQ p0),(7,cI (List.length p0:Int)),(8,cI a32),(44,cB v55)]) (fun v55=>[]) ?_ ?_))
   ·rintro v55 hF
    refine wIf hF rfl (fun _ hF=>?_) fun _ hF=>?_
    ·refine wA rfl ?_;have hF:=fin_0 _ (oi hF);cases hF
     exact cQ wR
    exact b5 (wB rfl (cont_0 _ _ _ (oi hF) sw))
   intro join hF
   refine xz (by decide) (by kernel_rfl) rfl (a7 SP 3 rfl ?_);cases h57:(decide (0<a32))
   ·have hF:=bF' h57 hF;exact QP rfl (join false _ _ hF sw)
   have hF:=bT' h57 hF;refine a7 SP 3 rfl ?_;obtain⟨y58,hy58,hF⟩:=bB' hF
   refine b8 SP rfl (iK (tc:=aQ) p0 rfl rfl hy58 (a7 SP 2 rfl ?_));obtain⟨r59,hr59,hF⟩:=bB' hF
   exact b8 SP rfl (cZ (Mz _ _ _ hr59) ⟨⟨rfl,rfl,rfl,rfl,rfl,rfl,rfl,rfl,trivial⟩,⟨rfl,rfl,rfl,rfl,rfl,rfl,rfl,rfl,trivial⟩,trivial⟩ rfl (.inl rfl) (QP rfl (join (decide (0<r59)) _ _ hF sw)))
  intro join hF
  refine wD 4 rfl ?_;cases h62:(decide (y52.q6<0))
  ·have hF:=bF' h62 hF;refine a7 SV 5 rfl ?_;cases h63:(decide (1000000000000000<y52.q6))
   ·have hF:=bF' h63 hF;refine a7 SV 2 rfl ?_;obtain⟨r64,hr64,hF⟩:=bB' hF
    exact b8 SV rfl (cZ (Q3 _ _ hr64) ⟨⟨rfl,rfl,trivial⟩,trivial⟩ rfl (.inl rfl) (QV rfl (join (!r64) _ _ hF sw)))
   have hF:=bT' h63 hF;exact QV rfl (join true _ _ hF sw)
  have hF:=bT' h62 hF;exact QV rfl (join true _ _ hF sw)
 exact kV (bQ (bQ (dJ (brk_0 _ _ _ (oi hF) sw))))
def d9(p0:(List a8))(p1:Int):Option Bool :=
  ((mW p0).bind fun r1=>(bif (!r1)then((nW ).bind fun r2=>some r2)else((N1 p0 p1).bind fun r3=>((((n7 p0 p1).bind fun r5=>((l8 r3 r5).bind fun r6=>(bif r6 then((yQ r3).bind fun r8=>(bif (decide (r8=0))then((nW ).bind fun r10=>some r10)else some false))else some false))):Option Bool).bind fun v4=>some v4))))
theorem zj(p0:(List a8))(p1:Int)(r:Bool)(hF:d9 p0 p1=some r):Fun Try.prog 3 true [] [cL 10 a0 p0,cI p1] noHeap (cB r) noHeap:=by
 refine fW Try.func3 ?_
 unfold d9 at hF
 refine wA rfl (a9 (wC 1 rfl ?_));obtain⟨r1,hr1,hF⟩:=bB hF
 refine rS (cZ (GK _ _ hr1) ⟨rfl,trivial⟩ rfl (.inl rfl) (QV rfl (wIf hF rfl (fun _ hF=>?_) fun _ hF=>?_)))
 ·refine wE ?_;obtain⟨r2,hr2,hF⟩:=bB hF
  refine rS (cZ (uq _ hr2) trivial rfl (.inl rfl) (QV rfl ?_));cases hF
  exact cQ wR
 refine b5 (wC 2 rfl ?_);obtain⟨r3,hr3,hF⟩:=bB hF
 refine rS (cZ (acW _ _ _ hr3) ⟨rfl,rfl,trivial⟩ rfl (.inl rfl) (QV rfl (a9 (e9 (fun _ _ h=>h) hF (fun v4=>[(4,cB v4)]) (fun v4=>[]) ?_ ?_))))
 ·rintro v4 hF
  cases hF
  exact cQ wR
 intro join hF
 refine wD 3 rfl ?_;obtain⟨r5,hr5,hF⟩:=bB' hF
 refine Rz trivial (auz [((902,520),(16,1))] rfl (auX _) (Hj _ _ _ hr5) trivial ⟨.inl rfl,.inl rfl,trivial⟩ rfl rfl rfl ?_);obtain⟨r6,hr6,hF⟩:=bB' hF
 refine rS (cZ (EQ _ _ _ hr6) ⟨rfl,⟨_,rfl⟩,trivial⟩ rfl (.inl rfl) (a7 SV 1 rfl ?_));cases h7:r6
 ·have hF:=bF' h7 hF;exact QV rfl (join false _ _ hF sw)
 have hF:=bT' h7 hF;refine a7 SV 1 rfl ?_;obtain⟨r8,hr8,hF⟩:=bB' hF
 refine b8 SV rfl (cZ (Q0 _ _ hr8) ⟨rfl,trivial⟩ rfl (.inl rfl) (a7 SV 3 rfl ?_));cases h9:(decide (r8=0))
 ·have hF:=bF' h9 hF;exact QV rfl (join false _ _ hF sw)
 have hF:=bT' h9 hF;obtain⟨r10,hr10,hF⟩:=bB' hF
 exact b8 SV rfl (cZ (uq _ hr10) trivial rfl (.inl rfl) (QV rfl (join r10 _ _ hF sw)))
end Go.VM
