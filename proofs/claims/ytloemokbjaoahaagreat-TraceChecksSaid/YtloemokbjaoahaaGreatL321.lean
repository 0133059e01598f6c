/- What the functions of the law compute, each with its proof. -/
import Derived.Test.YtloemokbjaoahaaGreatRaw
import Derived.Test.YtloemokbjaoahaaGreatRows
import Derived.KernelRfl
import Derived.Lib.Bytealg
import Derived.Laws.Externs
import Derived.WalkKit
namespace Go.VM
open Go.Proofs Go.Proofs.YtloemokbjaoahaaGreat
open Go.RowKit
set_option maxRecDepth 100000
set_option maxHeartbeats 4000000
structure aZ where
  q0:Int
  q9:Int
  deriving DecidableEq
structure dW where
  w5:Int
  q8:ByteArray
  x3:Int
  deriving DecidableEq
abbrev J7(x:dW):List C:=[.imm (tI x.w5),.imm (.sc (.string x.q8)),.imm (tI x.x3)]
structure aY where
  q6:Int
  z1:Int
  z9:Int
  q8:ByteArray
  q5:aZ
  j9:Int
  v8:Bool
  deriving DecidableEq
abbrev qq(x:aY):List C:=[.imm (tI x.q6),.imm (tI x.z1),.imm (tI x.z9),.imm (.sc (.string x.q8)),.imm (tI x.q5.q0),.imm (tI x.q5.q9),.imm (tI x.j9),.imm (.sc (.bool x.v8))]
structure cZ where
  q6:Int
  j3:Int
  q5:aZ
  w9:Int
  x5:Int
  x6:Int
  deriving DecidableEq
abbrev mZ(x:cZ):List C:=[.imm (tI x.q6),.imm (tI x.j3),.imm (tI x.q5.q0),.imm (tI x.q5.q9),.imm (tI x.w9),.imm (tI x.x5),.imm (tI x.x6)]
structure ayj where
  q6:Int
  w6:Int
  deriving DecidableEq
structure d3 where
  w5:Int
  q0:ayj
  q9:ayj
  w7:Int
  w4:Int
  deriving DecidableEq
abbrev G8(x:d3):List C:=[.imm (tI x.w5),.imm (tI x.q0.q6),.imm (tI x.q0.w6),.imm (tI x.q9.q6),.imm (tI x.q9.w6),.imm (tI x.w7),.imm (tI x.w4)]
structure cY where
  q6:Int
  j8:Int
  j5:Int
  z7:(List ByteArray)
  deriving DecidableEq
structure cV where
  q8:ByteArray
  j8:Int
  j2:Int
  deriving DecidableEq
abbrev E0(x:cV):List C:=[.imm (.sc (.string x.q8)),.imm (tI x.j8),.imm (tI x.j2)]
structure dq where
  w5:Int
  q6:Int
  w8:Int
  q5:aZ
  z7:(List ByteArray)
  x4:Bool
  deriving DecidableEq
structure f6 where
  q6:Int
  q5:aZ
  j6:Int
  deriving DecidableEq
structure a0 where
  q5:aZ
  q7:(List dW)
  z3:(List aY)
  z8:(List cZ)
  z6:(List d3)
  z2:(List cY)
  j4:(List cV)
  z5:(List dq)
  j7:(List f6)
  deriving DecidableEq
def bZ(x:dW):List T:=[tI x.w5,.sc (.string x.q8),tI x.x3]
def aj(x:aY):List T:=[tI x.q6,tI x.z1,tI x.z9,.sc (.string x.q8),tI x.q5.q0,tI x.q5.q9,tI x.j9,.sc (.bool x.v8)]
def bz(x:cZ):List T:=[tI x.q6,tI x.j3,tI x.q5.q0,tI x.q5.q9,tI x.w9,tI x.x5,tI x.x6]
def cz(x:d3):List T:=[tI x.w5,tI x.q0.q6,tI x.q0.w6,tI x.q9.q6,tI x.q9.w6,tI x.w7,tI x.w4]
def u7(x:ByteArray):List T:=[.sc (.string x)]
abbrev o9(x:dq):List C:=[.imm (tI x.w5),.imm (tI x.q6),.imm (tI x.w8),.imm (tI x.q5.q0),.imm (tI x.q5.q9),.imm (.sl 1 (List.map u7 x.z7)),.imm (.sc (.bool x.x4))]
abbrev zZ(x:cY):List C:=[.imm (tI x.q6),.imm (tI x.j8),.imm (tI x.j5),.imm (.sl 1 (List.map u7 x.z7))]
def b9(x:cY):List T:=[tI x.q6,tI x.j8,tI x.j5,.sl 1 (List.map u7 x.z7)]
def bX(x:cV):List T:=[.sc (.string x.q8),tI x.j8,tI x.j2]
def bJ(x:dq):List T:=[tI x.w5,tI x.q6,tI x.w8,tI x.q5.q0,tI x.q5.q9,.sl 1 (List.map u7 x.z7),.sc (.bool x.x4)]
def d7(x:f6):List T:=[tI x.q6,tI x.q5.q0,tI x.q5.q9,tI x.j6]
abbrev bq(x:a0):List C:=[.imm (tI x.q5.q0),.imm (tI x.q5.q9),.imm (.sl 3 (List.map bZ x.q7)),.imm (.sl 8 (List.map aj x.z3)),.imm (.sl 7 (List.map bz x.z8)),.imm (.sl 7 (List.map cz x.z6)),.imm (.sl 4 (List.map b9 x.z2)),.imm (.sl 3 (List.map bX x.j4)),.imm (.sl 7 (List.map bJ x.z5)),.imm (.sl 4 (List.map d7 x.j7))]
def A9(x:Int):List T:=[tI x]
structure aX where
  z4:aY
  fold:Int
  deriving DecidableEq
abbrev U3(x:aX):List C:=[.imm (tI x.z4.q6),.imm (tI x.z4.z1),.imm (tI x.z4.z9),.imm (.sc (.string x.z4.q8)),.imm (tI x.z4.q5.q0),.imm (tI x.z4.q5.q9),.imm (tI x.z4.j9),.imm (.sc (.bool x.z4.v8)),.imm (tI x.fold)]
def aK(x:aX):List T:=[tI x.z4.q6,tI x.z4.z1,tI x.z4.z9,.sc (.string x.z4.q8),tI x.z4.q5.q0,tI x.z4.q5.q9,tI x.z4.j9,.sc (.bool x.z4.v8),tI x.fold]
structure c9 where
  x8:aY
  x7:Int
  deriving DecidableEq
abbrev Ix(x:c9):List C:=[.imm (tI x.x8.q6),.imm (tI x.x8.z1),.imm (tI x.x8.z9),.imm (.sc (.string x.x8.q8)),.imm (tI x.x8.q5.q0),.imm (tI x.x8.q5.q9),.imm (tI x.x8.j9),.imm (.sc (.bool x.x8.v8)),.imm (tI x.x7)]
def bK(x:c9):List T:=[tI x.x8.q6,tI x.x8.z1,tI x.x8.z9,.sc (.string x.x8.q8),tI x.x8.q5.q0,tI x.x8.q5.q9,tI x.x8.j9,.sc (.bool x.x8.v8),tI x.x7]
def biZ:VC:=(.seq (rg [vo 2 (.mv (kB false))]) (.seq (rg [vm 3 0,vo 4 (.bin .geq 3 (.con (.c (.imm (.sc (.int .u8 97)))))),vm 5 4,vg 6 5 true (.mv 0),vg 7 5 true (.bin .leq 6 (.con (.c (.imm (.sc (.int .u8 122)))))),vo 8 (.pick 5 7 (kB false)),vm 9 8,vg 10 9 false (.mv 0),vg 11 9 false (.bin .geq 10 (.con (.c (.imm (.sc (.int .u8 65)))))),vg 12 9 false (.mv 11),vg 13 12 true (.mv 0),vg 14 12 true (.bin .leq 13 (.con (.c (.imm (.sc (.int .u8 90)))))),vg 15 9 false (.pick 12 14 (kB false)),vo 16 (.pick 9 (kB true) 15),vm 17 16,vg 18 17 false (.mv 0),vg 19 17 false (.bin .geq 18 (.con (.c (.imm (.sc (.int .u8 48)))))),vg 20 17 false (.mv 19),vg 21 20 true (.mv 0),vg 22 20 true (.bin .leq 21 (.con (.c (.imm (.sc (.int .u8 57)))))),vg 23 17 false (.pick 20 22 (kB false)),vo 24 (.pick 17 (kB true) 23),vm 25 24,vg 26 25 false (.mv 0),vg 27 25 false (.call 257 [(.con (.c (.imm (.sc (.string ⟨#[95,46,58,47,60,62,36,42,126,45]⟩))))),26]),vg 28 25 false (.bin .geq 27 (kI 0)),vo 29 (.pick 25 (kB true) 28),vm 2 29]) .ret))
theorem bkV:(Tryz.f221.body.bind fun c=>mJ Tryz.prog 30 c)=some biZ:=by kernel_rfl
def bhY:VC:=(.seq (rg [vo 2 (.mv (kB false))]) (.seq (.seq (rg [vm 5 0,vo 6 (.bin .geq 5 (.con (.c (.imm (.sc (.int .u8 97)))))),vm 7 6,vg 8 7 true (.mv 0),vg 9 7 true (.bin .leq 8 (.con (.c (.imm (.sc (.int .u8 122)))))),vo 10 (.pick 7 9 (kB false)),vm 11 10,vg 12 11 false (.mv 0),vg 13 11 false (.bin .geq 12 (.con (.c (.imm (.sc (.int .u8 65)))))),vg 14 11 false (.mv 13),vg 15 14 true (.mv 0),vg 16 14 true (.bin .leq 15 (.con (.c (.imm (.sc (.int .u8 90)))))),vg 17 11 false (.pick 14 16 (kB false)),vo 18 (.pick 11 (kB true) 17),vm 19 18,vg 20 19 false (.mv 0),vg 21 19 false (.bin .geq 20 (.con (.c (.imm (.sc (.int .u8 48)))))),vg 22 19 false (.mv 21),vg 23 22 true (.mv 0),vg 24 22 true (.bin .leq 23 (.con (.c (.imm (.sc (.int .u8 57)))))),vg 25 19 false (.pick 22 24 (kB false)),vo 26 (.pick 19 (kB true) 25)]) (.cond 26 (.seq (rg [vo 2 (.mv (kB true))]) .ret) .skip)) (.seq (rg [vo 3 (.mv (.con (.c (.imm (.sc (.string ⟨#[95,46,58,47,60,62,36,42,126,45]⟩))))))]) (.seq (.seq (rg [vo 4 (.mv (kI 0))]) (.block 0 (.loop (.seq (.seq (rg [vm 27 4,vm 28 3,vo 29 (.lenT 28),vo 30 (.bin .lss 27 29)]) (.cond 30 .skip (.exit 0))) (.seq (.block 1 (.seq (rg [vm 33 3,vm 34 4,vo 35 (.ixS 33 34),vm 36 0,vo 37 (.bin .eql 35 36)]) (.cond 37 (.seq (rg [vo 2 (.mv (kB true))]) .ret) .skip))) (rg [vm 31 4,vo 32 (.bin .add 31 (kI 1)),vm 4 32])))))) (.seq (rg [vo 2 (.mv (kB false))]) .ret)))))
theorem bkx:(Tryz.f225.body.bind fun c=>mJ Tryz.prog 38 c)=some bhY:=by kernel_rfl
theorem bdK:OW Tryz.prog 58=true:=by kernel_rfl
theorem bej:OW Tryz.prog 61=true:=by kernel_rfl
theorem a9x:OW Tryz.prog 111=true:=by kernel_rfl
theorem baj:OW Tryz.prog 115=true:=by kernel_rfl
theorem baW:OW Tryz.prog 116=true:=by kernel_rfl
theorem a6Y:OW Tryz.prog 119=true:=by kernel_rfl
theorem a7q:OW Tryz.prog 123=true:=by kernel_rfl
theorem bbK:OW Tryz.prog 126=true:=by kernel_rfl
theorem bbJ:OW Tryz.prog 129=true:=by kernel_rfl
theorem a7Z:OW Tryz.prog 131=true:=by kernel_rfl
theorem bbX:OW Tryz.prog 133=true:=by kernel_rfl
theorem a9W:OW Tryz.prog 136=true:=by kernel_rfl
theorem a9V:OW Tryz.prog 138=true:=by kernel_rfl
theorem agQ:OW Tryz.prog 141=true:=by kernel_rfl
def s9(p0:a0):Option Bool :=
  (((bif (decide ((List.length p0.q7:Int)≤70))then(bif (decide ((List.length p0.z3:Int)≤100))then(bif (decide ((List.length p0.z8:Int)≤200))then(bif (decide ((List.length p0.z6:Int)≤100))then(bif (decide ((List.length p0.z2:Int)≤100))then(bif (decide ((List.length p0.j4:Int)≤100))then(bif (decide ((List.length p0.z5:Int)≤100))then some (decide ((List.length p0.j7:Int)≤50))else some false)else some false)else some false)else some false)else some false)else some false)else some false):Option Bool).bind fun v1=>some v1)
theorem H2(p0:a0)(r:Bool)(hF:s9 p0=some r):Fun Tryz.prog 12 true [] [.agg (bq p0)] noHeap (cB r) noHeap:=by
 refine fW Tryz.func12 ?_
 unfold s9 at hF
 refine wA rfl (az (cW (fun _ _ h=>h) hF (fun v1=>[(2,cB v1)]) (fun v1=>[]) ?_ ?_))
 ·rintro v1 hF
  cases hF
  exact bQ wR
 intro join hF
 refine wD 2 rfl (rS (d0 (tc:=bZ) p0.q7 .tree (aQ SV 2 rfl ?_)));cases h2:(decide ((List.length p0.q7:Int)≤70))
 ·have hF:=bF' h2 hF;exact QV rfl (join false _ _ hF sw)
 have hF:=bT' h2 hF;refine aQ SV 2 rfl (aW SV rfl (d0 (tc:=aj) p0.z3 .tree (aQ SV 3 rfl ?_)));cases h3:(decide ((List.length p0.z3:Int)≤100))
 ·have hF:=bF' h3 hF;exact QV rfl (join false _ _ hF sw)
 have hF:=bT' h3 hF;refine aQ SV 2 rfl (aW SV rfl (d0 (tc:=bz) p0.z8 .tree (aQ SV 3 rfl ?_)));cases h4:(decide ((List.length p0.z8:Int)≤200))
 ·have hF:=bF' h4 hF;exact QV rfl (join false _ _ hF sw)
 have hF:=bT' h4 hF;refine aQ SV 2 rfl (aW SV rfl (d0 (tc:=cz) p0.z6 .tree (aQ SV 3 rfl ?_)));cases h5:(decide ((List.length p0.z6:Int)≤100))
 ·have hF:=bF' h5 hF;exact QV rfl (join false _ _ hF sw)
 have hF:=bT' h5 hF;refine aQ SV 2 rfl (aW SV rfl (d0 (tc:=b9) p0.z2 .tree (aQ SV 3 rfl ?_)));cases h6:(decide ((List.length p0.z2:Int)≤100))
 ·have hF:=bF' h6 hF;exact QV rfl (join false _ _ hF sw)
 have hF:=bT' h6 hF;refine aQ SV 2 rfl (aW SV rfl (d0 (tc:=bX) p0.j4 .tree (aQ SV 3 rfl ?_)));cases h7:(decide ((List.length p0.j4:Int)≤100))
 ·have hF:=bF' h7 hF;exact QV rfl (join false _ _ hF sw)
 have hF:=bT' h7 hF;refine aQ SV 2 rfl (aW SV rfl (d0 (tc:=bJ) p0.z5 .tree (aQ SV 3 rfl ?_)));cases h8:(decide ((List.length p0.z5:Int)≤100))
 ·have hF:=bF' h8 hF;exact QV rfl (join false _ _ hF sw)
 have hF:=bT' h8 hF;exact aQ SV 2 rfl (aW SV rfl (d0 (tc:=d7) p0.j7 .tree (QV rfl (join (decide ((List.length p0.j7:Int)≤50)) _ _ hF sw))))
def zY:Option Bool:=some true
theorem F6(r:Bool)(hF:zY=some r):Fun Tryz.prog 8 true [] [] noHeap (cB r) noHeap:=by
 cases hF
 exact Go.RM.awake32 true
def tQ(p0:ByteArray)(p1:Int):Option Int:=some (Go.Lib.indexByte p0.data.toList p1.toNat.toUInt8)
theorem G1(p0:ByteArray)(p1:Int)(r:Int)(hF:tQ p0 p1=some r):Fun Tryz.prog 287 true [] [.c (jS p0),.c (.imm (.sc (.int .u8 p1)))] noHeap (cI r) noHeap:=by
 cases hF
 refine Fun.of_plain [.string p0,.int .u8 p1] (.int .i64 (Go.Lib.indexByte p0.data.toList p1.toNat.toUInt8)) (fun w=>?_) rfl
 go_enter Tryz.func287,Tryz.ntmps287;go_wp2;rw[run_callFunc_extern Tryz.func310 (by kernel_rfl) (by kernel_rfl) (by kernel_rfl) (e:=Extern.BytealgIndexByte.indexByte) (by kernel_rfl),Go.Lib.run_indexByteString]
 simp only[Result.andThen];rw[Oper.upon_value];go_wp2;go_ret;exact⟨rfl,rfl⟩
def kx(p0:ByteArray)(p1:Int):Option Int :=
  ((tQ p0 p1).bind fun r1=>some r1)
theorem kJ(p0:ByteArray)(p1:Int)(r:Int)(hF:kx p0 p1=some r):Fun Tryz.prog 257 true [] [.c (jS p0),.c (.imm (.sc (.int .u8 p1)))] noHeap (cI r) noHeap:=by
 refine fW Tryz.func257 ?_
 unfold kx at hF
 refine wA rfl (wC 2 rfl ?_);obtain⟨r1,hr1,hF⟩:=bB hF
 refine rS (cJ (G1 _ _ _ hr1) ⟨rfl,rfl,trivial⟩ rfl (.inl rfl) (QV rfl ?_));cases hF
 exact bQ wR
def Ax(p0:Int):Option Bool :=
  (((bif (decide (97≤p0))then(bif (decide (p0≤122))then some true else(bif (decide (65≤p0))then(bif (decide (p0≤90))then some true else(bif (decide (48≤p0))then(bif (decide (p0≤57))then some true else((kx (⟨#[95,46,58,47,60,62,36,42,126,45]⟩ : ByteArray) p0).bind fun r23=>some (decide (0≤r23))))else((kx (⟨#[95,46,58,47,60,62,36,42,126,45]⟩ : ByteArray) p0).bind fun r21=>some (decide (0≤r21)))))else(bif (decide (48≤p0))then(bif (decide (p0≤57))then some true else((kx (⟨#[95,46,58,47,60,62,36,42,126,45]⟩ : ByteArray) p0).bind fun r18=>some (decide (0≤r18))))else((kx (⟨#[95,46,58,47,60,62,36,42,126,45]⟩ : ByteArray) p0).bind fun r16=>some (decide (0≤r16))))))else(bif (decide (65≤p0))then(bif (decide (p0≤90))then some true else(bif (decide (48≤p0))then(bif (decide (p0≤57))then some true else((kx (⟨#[95,46,58,47,60,62,36,42,126,45]⟩ : ByteArray) p0).bind fun r12=>some (decide (0≤r12))))else((kx (⟨#[95,46,58,47,60,62,36,42,126,45]⟩ : ByteArray) p0).bind fun r10=>some (decide (0≤r10)))))else(bif (decide (48≤p0))then(bif (decide (p0≤57))then some true else((kx (⟨#[95,46,58,47,60,62,36,42,126,45]⟩ : ByteArray) p0).bind fun r7=>some (decide (0≤r7))))else((kx (⟨#[95,46,58,47,60,62,36,42,126,45]⟩ : ByteArray) p0).bind fun r5=>some (decide (0≤r5)))))):Option Bool).bind fun v1=>some v1)
theorem Xx(p0:Int)(r:Bool)(hF:Ax p0=some r):Fun Tryz.prog 221 true [] [.c (.imm (.sc (.int .u8 p0)))] noHeap (cB r) noHeap:=by
 refine Fun.of_walk0 Tryz.func221 bkV (by kernel_rfl) (rs:=[.tmp 2]) (by kernel_rfl) ?_;unfold biZ
 unfold Ax at hF
 refine wA rfl (az (cW (fun _ _ h=>h) hF (fun v1=>[(2,cB v1)]) (fun v1=>[]) ?_ ?_))
 ·rintro v1 hF
  cases hF
  exact bQ wR
 intro join hF
 refine wD 3 rfl ?_;cases h2:(decide (97≤p0))
 ·have hF:=bF' h2 hF;refine aQ SV 7 rfl ?_;cases h3:(decide (65≤p0))
  ·have hF:=bF' h3 hF;refine aQ SV 8 rfl ?_;cases h4:(decide (48≤p0))
   ·have hF:=bF' h4 hF;refine aQ SV 6 rfl ?_;obtain⟨r5,hr5,hF⟩:=bB' hF
    exact aW SV rfl (cJ (kJ _ _ _ hr5) ⟨rfl,rfl,trivial⟩ rfl (.inl rfl) (QV rfl (join (decide (0≤r5)) _ _ hF sw)))
   have hF:=bT' h4 hF;refine aQ SV 5 rfl ?_;cases h6:(decide (p0≤57))
   ·have hF:=bF' h6 hF;refine aQ SV 1 rfl ?_;obtain⟨r7,hr7,hF⟩:=bB' hF
    exact aW SV rfl (cJ (kJ _ _ _ hr7) ⟨rfl,rfl,trivial⟩ rfl (.inl rfl) (QV rfl (join (decide (0≤r7)) _ _ hF sw)))
   have hF:=bT' h6 hF;exact QV rfl (join true _ _ hF sw)
  have hF:=bT' h3 hF;refine aQ SV 5 rfl ?_;cases h8:(decide (p0≤90))
  ·have hF:=bF' h8 hF;refine aQ SV 3 rfl ?_;cases h9:(decide (48≤p0))
   ·have hF:=bF' h9 hF;refine aQ SV 6 rfl ?_;obtain⟨r10,hr10,hF⟩:=bB' hF
    exact aW SV rfl (cJ (kJ _ _ _ hr10) ⟨rfl,rfl,trivial⟩ rfl (.inl rfl) (QV rfl (join (decide (0≤r10)) _ _ hF sw)))
   have hF:=bT' h9 hF;refine aQ SV 5 rfl ?_;cases h11:(decide (p0≤57))
   ·have hF:=bF' h11 hF;refine aQ SV 1 rfl ?_;obtain⟨r12,hr12,hF⟩:=bB' hF
    exact aW SV rfl (cJ (kJ _ _ _ hr12) ⟨rfl,rfl,trivial⟩ rfl (.inl rfl) (QV rfl (join (decide (0≤r12)) _ _ hF sw)))
   have hF:=bT' h11 hF;exact QV rfl (join true _ _ hF sw)
  have hF:=bT' h8 hF;exact QV rfl (join true _ _ hF sw)
 have hF:=bT' h2 hF;refine aQ SV 4 rfl ?_;cases h13:(decide (p0≤122))
 ·have hF:=bF' h13 hF;refine aQ SV 3 rfl ?_;cases h14:(decide (65≤p0))
  ·have hF:=bF' h14 hF;refine aQ SV 8 rfl ?_;cases h15:(decide (48≤p0))
   ·have hF:=bF' h15 hF;refine aQ SV 6 rfl ?_;obtain⟨r16,hr16,hF⟩:=bB' hF
    exact aW SV rfl (cJ (kJ _ _ _ hr16) ⟨rfl,rfl,trivial⟩ rfl (.inl rfl) (QV rfl (join (decide (0≤r16)) _ _ hF sw)))
   have hF:=bT' h15 hF;refine aQ SV 5 rfl ?_;cases h17:(decide (p0≤57))
   ·have hF:=bF' h17 hF;refine aQ SV 1 rfl ?_;obtain⟨r18,hr18,hF⟩:=bB' hF
    exact aW SV rfl (cJ (kJ _ _ _ hr18) ⟨rfl,rfl,trivial⟩ rfl (.inl rfl) (QV rfl (join (decide (0≤r18)) _ _ hF sw)))
   have hF:=bT' h17 hF;exact QV rfl (join true _ _ hF sw)
  have hF:=bT' h14 hF;refine aQ SV 5 rfl ?_;cases h19:(decide (p0≤90))
  ·have hF:=bF' h19 hF;refine aQ SV 3 rfl ?_;cases h20:(decide (48≤p0))
   ·have hF:=bF' h20 hF;refine aQ SV 6 rfl ?_;obtain⟨r21,hr21,hF⟩:=bB' hF
    exact aW SV rfl (cJ (kJ _ _ _ hr21) ⟨rfl,rfl,trivial⟩ rfl (.inl rfl) (QV rfl (join (decide (0≤r21)) _ _ hF sw)))
   have hF:=bT' h20 hF;refine aQ SV 5 rfl ?_;cases h22:(decide (p0≤57))
   ·have hF:=bF' h22 hF;refine aQ SV 1 rfl ?_;obtain⟨r23,hr23,hF⟩:=bB' hF
    exact aW SV rfl (cJ (kJ _ _ _ hr23) ⟨rfl,rfl,trivial⟩ rfl (.inl rfl) (QV rfl (join (decide (0≤r23)) _ _ hF sw)))
   have hF:=bT' h22 hF;exact QV rfl (join true _ _ hF sw)
  have hF:=bT' h19 hF;exact QV rfl (join true _ _ hF sw)
 have hF:=bT' h13 hF;exact QV rfl (join true _ _ hF sw)
def xY(p0:ByteArray):Int→Option (Int ⊕ (Unit ⊕ Int)):=fun a13 =>
  (bif (decide (a13<(ByteArray.size p0:Int)))then((idx (ByteArray.data p0).toList a13).bind fun y18=>((Ax (UInt8.toNat y18:Int)).bind fun r19=>(bif (!r19)then some (.inr (.inr 3))else some (.inl (w64 (a13+1))))))else some (.inr (.inl ())))
def qW(p0:ByteArray):Option Int :=
  (((bif (decide (p0=(⟨#[]⟩ : ByteArray)))then some true else some (decide (40<(ByteArray.size p0:Int)))):Option Bool).bind fun v1=>(bif v1 then some 3 else((loop (xY p0) 0).bind fun | .inl _=>some 0 | .inr rv=>some rv)))
theorem Gj(p0:ByteArray)(r:Int)(hF:qW p0=some r):Fun Tryz.prog 176 true [] [.c (jS p0)] noHeap (cI r) noHeap:=by
 refine fW Tryz.func176 ?_
 unfold qW at hF
 refine wA rfl (az (az (cW (fun _ _ h=>h) hF (fun v1=>[(0,.c (jS p0)),(10,cB v1)]) (fun v1=>[]) ?_ ?_)))
 ·rintro v1 hF
  refine wIf hF rfl (fun _ hF=>?_) fun _ hF=>?_
  ·refine wA rfl ?_;cases hF
   exact bQ wR
  refine aJ (az (wA rfl (eZ (fun _ _ h=>h) hF (.inl) (fun a13=>[(0,.c (jS p0)),(12,cI (ByteArray.size p0:Int)),(13,cI a13)]) (fun a13=>[]) (fun _=>[]) (fun _=>[]) sw ?_ ?_)))
  ·rintro⟨⟩ hF
   refine wA rfl ?_;cases hF
   exact bQ wR
  rintro a13 x_0 hF cont_0 brk_0 fin_0
  unfold xY at hF
  refine wA rfl (az (wIf hF rfl (fun _ hF=>?_) fun _ hF=>?_))
  ·refine aJ (az (c7 (wA rfl (wC 2 rfl ?_))));obtain⟨y18,hy18,hF⟩:=bB hF
   refine rS (a1x p0 rfl rfl hy18 ?_);obtain⟨r19,hr19,hF⟩:=bB hF
   refine rS (cJ (Xx _ _ hr19) ⟨rfl,trivial⟩ rfl (.inl rfl) (QV rfl (wIf hF rfl (fun _ hF=>?_) fun _ hF=>?_)))
   ·refine wA rfl ?_;have hF:=fin_0 _ (oi hF);cases hF
    exact bQ wR
   exact aJ (wB rfl (cont_0 _ _ _ (oi hF) sw))
  exact dK (aq (aq (bj (brk_0 _ _ _ (oi hF) sw))))
 intro join hF
 refine wD 3 rfl ?_;cases h23:(decide (p0=(⟨#[]⟩ : ByteArray)))
 ·have hF:=bF' h23 hF;exact QV rfl (join (decide (40<(ByteArray.size p0:Int))) _ _ hF sw)
 have hF:=bT' h23 hF;exact QV rfl (join true _ _ hF sw)
def sQ(p0:dW):Option Int :=
  (((bif (decide (p0.w5<0))then some true else(bif (decide (1000000000000000<p0.w5))then some true else(bif (decide (p0.x3<0))then some true else some (decide (8≤p0.x3))))):Option Bool).bind fun v1=>(bif v1 then some 2 else((qW p0.q8).bind fun r2=>some r2)))
theorem UQ(p0:dW)(r:Int)(hF:sQ p0=some r):Fun Tryz.prog 175 true [] [.agg (J7 p0)] noHeap (cI r) noHeap:=by
 refine fW Tryz.func175 ?_
 unfold sQ at hF
 refine wA rfl (az (az (cW (fun _ _ h=>h) hF (fun v1=>[(1,cP (1,0) 0),(20,cB v1)]) (fun v1=>[((1,0),.box (J7 p0))]) ?_ ?_)))
 ·rintro v1 hF
  refine wIf hF rfl (fun _ hF=>?_) fun _ hF=>?_
  ·refine wA rfl ?_;cases hF
   exact bQ wR
  refine aJ (wC 2 rfl ?_);obtain⟨r2,hr2,hF⟩:=bB hF
  refine rS (cJ (Gj _ _ hr2) ⟨rfl,trivial⟩ rfl (.inl rfl) (QV rfl ?_));cases hF
  exact bQ wR
 intro join hF
 refine wD 4 rfl ?_;cases h4:(decide (p0.w5<0))
 ·have hF:=bF' h4 hF;refine aQ SV 5 rfl ?_;cases h5:(decide (1000000000000000<p0.w5))
  ·have hF:=bF' h5 hF;refine aQ SV 5 rfl ?_;cases h6:(decide (p0.x3<0))
   ·have hF:=bF' h6 hF;exact QV rfl (join (decide (8≤p0.x3)) _ _ hF sw)
   have hF:=bT' h6 hF;exact QV rfl (join true _ _ hF sw)
  have hF:=bT' h5 hF;exact QV rfl (join true _ _ hF sw)
 have hF:=bT' h4 hF;exact QV rfl (join true _ _ hF sw)
def Fx(p0:a0):((List (Int×ByteArray))×Int)→Option (((List (Int×ByteArray))×Int) ⊕ ((List (Int×ByteArray)) ⊕ (((List (Int×ByteArray))×Int) ⊕ ((List (Int×ByteArray))×Int)))):=fun(a17,a18) =>
  (bif (decide (a18<(List.length p0.q7:Int)))then((idx p0.q7 a18).bind fun y25=>((sQ y25).bind fun r26=>(bif (!decide (r26=0))then some (.inr (.inr (.inl ([],r26))))else(bif (Option.isSome (xZ y25.w5 a17))then some (.inr (.inr (.inl ([],4))))else some (.inl ((alj y25.w5 y25.q8 a17),(w64 (a18+1))))))))else some (.inr (.inl a17)))
def uj(p0:a0):Option (((List (Int×ByteArray))×Int) ⊕ ((List (Int×ByteArray))×Int)) :=
  (bif (decide (64<(List.length p0.q7:Int)))then some (.inl ([],7))else((loop (Fx p0) ([],0)).bind fun | .inl e24=>some (.inr (e24,0)) | .inr rv=>some rv))
def aeZ(p0:a0):(((List (Int×ByteArray))×Int) ⊕ ((List (Int×ByteArray))×Int))→V
  | .inl d=>.tup [.c (.nilM),.c (.imm (tI d.2))]
  | .inr d=>.tup [.c (.mapO (902,4320)),.c (.imm (tI d.2))]
def afW(p0:a0):(((List (Int×ByteArray))×Int) ⊕ ((List (Int×ByteArray))×Int))→M
  | .inl _=>[]
  | .inr d=>[((902,4320),sW (.int .i64) (fun n:Int=>.int .i64 n) (fun y:ByteArray=>(.one (.sc (.string y)):MT)) d.1)]
theorem NX(p0:a0)(r:(((List (Int×ByteArray))×Int) ⊕ ((List (Int×ByteArray))×Int)))(hF:uj p0=some r):Fun Tryz.prog 108 false [] [.agg (bq p0)] (aV []) (aeZ p0 r) (aV (afW p0 r)):=by
 refine fM [] (some []) Tryz.func108 ?_
 unfold uj at hF
 refine wA rfl (az (wC 2 rfl (rS (d0 (tc:=bZ) p0.q7 .tree (QV rfl (wIf hF rfl (fun _ hF=>?_) fun _ hF=>?_))))))
 ·refine wA rfl ?_;cases hF
  exact bQ ⟨_,_,fq,_,rfl,rfl,⟨trivial,⟨rfl,fun _=>rfl⟩,trivial⟩,(AgM.weak trivial)⟩
 refine aJ (wE (rS (aQZ (kd:=(.int .i64)) (kv:=kvI) (vv:=vvS) rfl (QV rfl (az (wC 2 rfl (rS (d0 (tc:=bZ) p0.q7 .tree (QV rfl (eZ (fun _ _ h=>h) hF (.inl) (fun(a17,a18)=>[(4,cM (14,0)),(16,cL 3 bZ p0.q7),(17,cI (List.length p0.q7:Int)),(18,cI a18)]) (fun(a17,a18)=>[((14,0),sW (.int .i64) kvI vvS a17)]) (fun e24=>[(4,cM (14,0))]) (fun e24=>[((14,0),sW (.int .i64) kvI vvS e24)]) sw ?_ ?_))))))))))
 ·rintro e24 hF
  refine wA rfl ?_;cases hF
  exact bQ ⟨_,_,(xz (14,0) (902,4320) rfl rfl fq),_,rfl,rfl,⟨rfl,⟨rfl,fun _=>rfl⟩,trivial⟩,(AgM.weak ⟨rfl,trivial⟩)⟩
 rintro⟨a17,a18⟩ x_0 hF cont_0 brk_0 fin_0
 unfold Fx at hF
 refine wA rfl (az (wIf hF rfl (fun _ hF=>?_) fun _ hF=>?_))
 ·refine aJ (az (c7 (wE ?_)));obtain⟨y25,hy25,hF⟩:=bB hF
  refine rS (dz (tc:=bZ) p0.q7 rfl rfl hy25 (QV rfl (az (wC 1 rfl ?_))));obtain⟨r26,hr26,hF⟩:=bB hF
  refine rS (cJ (UQ _ _ hr26) ⟨⟨rfl,rfl,rfl,trivial⟩,trivial⟩ rfl (.inl rfl) (QV rfl (wA rfl (wIf hF rfl (fun _ hF=>?_) fun _ hF=>?_))))
  ·refine wA rfl ?_;have hF:=fin_0 _ (oi hF);cases hF
   exact bQ ⟨_,_,fq,_,rfl,rfl,⟨trivial,⟨rfl,fun _=>rfl⟩,trivial⟩,(AgM.weak trivial)⟩
  refine aJ (az (wC 3 rfl (rS (MQ (anj .i64) (vv:=vvS) a17 y25.w5 (⟨#[]⟩ : ByteArray) (.own _ rfl) rfl rfl (QV rfl (wA rfl (wIf hF rfl (fun _ hF=>?_) fun _ hF=>?_)))))))
  ·refine wA rfl ?_;have hF:=fin_0 _ (oi hF);cases hF
   exact bQ ⟨_,_,fq,_,rfl,rfl,⟨trivial,⟨rfl,fun _=>rfl⟩,trivial⟩,(AgM.weak trivial)⟩
  exact aJ (wD 5 rfl (rS (aMX (anj .i64) (vv:=vvS) a17 y25.w5 y25.q8 rfl rfl rfl rfl (QV rfl (wB rfl (cont_0 _ _ _ (oi hF) sw))))))
 exact dK (aq (aq (bj (brk_0 _ _ _ (oi hF) sw))))
def nV(p0:aZ):Option Bool :=
  (((bif (decide (0≤p0.q0))then(bif (decide (p0.q0<p0.q9))then some (decide (p0.q9≤1000000000000))else some false)else some false):Option Bool).bind fun v1=>some v1)
theorem C8(p0:aZ)(r:Bool)(hF:nV p0=some r):Fun Tryz.prog 18 true [] [.agg [jI p0.q0,jI p0.q9]] noHeap (cB r) noHeap:=by
 refine fW Tryz.func18 ?_
 unfold nV at hF
 refine wA rfl (az (cW (fun _ _ h=>h) hF (fun v1=>[(2,cB v1)]) (fun v1=>[]) ?_ ?_))
 ·rintro v1 hF
  cases hF
  exact bQ wR
 intro join hF
 refine wD 4 rfl ?_;cases h2:(decide (0≤p0.q0))
 ·have hF:=bF' h2 hF;exact QV rfl (join false _ _ hF sw)
 have hF:=bT' h2 hF;refine aQ SV 7 rfl ?_;cases h3:(decide (p0.q0<p0.q9))
 ·have hF:=bF' h3 hF;exact QV rfl (join false _ _ hF sw)
 have hF:=bT' h3 hF;exact QV rfl (join (decide (p0.q9≤1000000000000)) _ _ hF sw)
def DX(p0:Int):Option Bool :=
  some (!decide (p0=p0))
theorem Nz(p0:Int)(r:Bool)(hF:DX p0=some r):Fun Tryz.prog 159 true [] [cI p0] noHeap (cB r) noHeap:=by
 refine fW Tryz.func159 ?_
 unfold DX at hF
 refine wA rfl (wA rfl ?_);cases hF
 exact bQ wR
def kq(p0:Int)(p1:Int):Option Int :=
  ((DX p0).bind fun r1=>((DX p1).bind fun r2=>(bif r1 then(bif r2 then some 0 else some (-1))else(bif r2 then some 1 else(bif (decide (p0<p1))then some (-1)else(bif (decide (p1<p0))then some 1 else some 0))))))
theorem o4(p0:Int)(p1:Int)(r:Int)(hF:kq p0 p1=some r):Fun Tryz.prog 93 true [] [cI p0,cI p1] noHeap (cI r) noHeap:=by
 refine fW Tryz.func93 ?_
 unfold kq at hF
 refine wA rfl (wC 1 rfl ?_);obtain⟨r1,hr1,hF⟩:=bB hF
 refine rS (cJ (Nz _ _ hr1) ⟨rfl,trivial⟩ rfl (.inl rfl) (QV rfl (wC 1 rfl ?_)));obtain⟨r2,hr2,hF⟩:=bB hF
 refine rS (cJ (Nz _ _ hr2) ⟨rfl,trivial⟩ rfl (.inl rfl) (QV rfl (az (wA rfl (wIf hF rfl (fun _ hF=>?_) fun _ hF=>?_)))))
 ·refine az (wA rfl (wIf hF rfl (fun _ hF=>?_) fun _ hF=>?_))
  ·refine wA rfl ?_;cases hF
   exact bQ wR
  refine aJ (wA rfl ?_);cases hF
  exact bQ wR
 refine aJ (az (wA rfl (wIf hF rfl (fun _ hF=>?_) fun _ hF=>?_)))
 ·refine wA rfl ?_;cases hF
  exact bQ wR
 refine aJ (az (wA rfl (wIf hF rfl (fun _ hF=>?_) fun _ hF=>?_)))
 ·refine wA rfl ?_;cases hF
  exact bQ wR
 refine aJ (az (wA rfl (wIf hF rfl (fun _ hF=>?_) fun _ hF=>?_)))
 ·refine wA rfl ?_;cases hF
  exact bQ wR
 refine aJ (wA rfl ?_);cases hF
 exact bQ wR
def F7(p0:(List Int)):Int→Option (Int ⊕ (Unit ⊕ Int)):=fun a10 =>
  (bif (decide (a10<(List.length p0:Int)))then((idx p0 a10).bind fun y14=>(bif (!decide (y14=0))then some (.inr (.inr y14))else some (.inl (w64 (a10+1)))))else some (.inr (.inl ())))
def CJ(p0:(List Int)):Option Int :=
  ((loop (F7 p0) 0).bind fun | .inl _=>some 0 | .inr rv=>some rv)
theorem LK(p0:(List Int))(r:Int)(hF:CJ p0=some r):Fun Tryz.prog 142 true [] [cL 1 A9 p0] noHeap (cI r) noHeap:=by
 refine fW Tryz.func142 ?_
 unfold CJ at hF
 refine wA rfl (wA rfl (az (wC 1 rfl (rS (d0 (tc:=A9) p0 .tree (QV rfl (eZ (fun _ _ h=>h) hF (.inl) (fun a10=>[(3,cI 0),(6,cL 1 A9 p0),(7,cI (List.length p0:Int)),(8,cI a10)]) (fun a10=>[]) (fun _=>[(3,cI 0)]) (fun _=>[]) sw ?_ ?_)))))))
 ·rintro⟨⟩ hF
  refine wA rfl ?_;cases hF
  exact bQ wR
 rintro a10 x_0 hF cont_0 brk_0 fin_0
 unfold F7 at hF
 refine wA rfl (az (wIf hF rfl (fun _ hF=>?_) fun _ hF=>?_))
 ·refine aJ (az (c7 (wE ?_)));obtain⟨y14,hy14,hF⟩:=bB hF
  refine rS (dz (tc:=A9) p0 rfl rfl hy14 (QV rfl (wA rfl (wIf hF rfl (fun _ hF=>?_) fun _ hF=>?_))))
  ·refine wA rfl ?_;have hF:=fin_0 _ (oi hF);cases hF
   exact bQ wR
  exact aJ (wB rfl (cont_0 _ _ _ (oi hF) sw))
 exact dK (aq (aq (bj (brk_0 _ _ _ (oi hF) sw))))
def xx(p0:aY)(p1:aY):Option Int :=
  ((kq p0.q5.q0 p1.q5.q0).bind fun r1=>((kq p1.q5.q9 p0.q5.q9).bind fun r2=>((kq p0.q6 p1.q6).bind fun r3=>((CJ [r1,r2,r3]).bind fun r4=>some r4))))
theorem XX(p0:aY)(p1:aY)(r:Int)(hF:xx p0 p1=some r):Fun Tryz.prog 76 true [] [.agg (qq p0),.agg (qq p1)] noHeap (cI r) noHeap:=by
 refine fW Tryz.func76 ?_
 unfold xx at hF
 refine wA rfl (az (f7 (by decide) (by kernel_rfl) rfl (aQ SP 6 rfl ?_)));obtain⟨r1,hr1,hF⟩:=bB hF
 refine aW SP trivial (cJ (o4 _ _ _ hr1) ⟨rfl,rfl,trivial⟩ rfl (.inl rfl) (aQ SP 6 rfl ?_));obtain⟨r2,hr2,hF⟩:=bB hF
 refine aW SP trivial (cJ (o4 _ _ _ hr2) ⟨rfl,rfl,trivial⟩ rfl (.inl rfl) (aQ SP 4 rfl ?_));obtain⟨r3,hr3,hF⟩:=bB hF
 refine aW SP trivial (cJ (o4 _ _ _ hr3) ⟨rfl,rfl,trivial⟩ rfl (.inl rfl) ?_);refine aW SP trivial (E5 (tc:=A9) [r1,r2,r3] rfl ⟨rfl,rfl,rfl,trivial⟩ rfl (fun _=>rfl) rfl ?_)
 obtain⟨r4,hr4,hF⟩:=bB hF
 refine aW SP trivial (cJ (LK _ _ hr4) ⟨⟨_,rfl⟩,trivial⟩ rfl (.inl rfl) (QP rfl ?_));cases hF
 exact bQ wR
def sZ(p0:(List aY)):Int→Option (Int ⊕ (Unit ⊕ Bool)):=fun a30 =>
  (bif (decide (a30<(List.length p0:Int)))then((idx p0 a30).bind fun y44=>(((bif (decide (y44.z1<(-1)))then some true else some (decide (a30≤y44.z1))):Option Bool).bind fun v45=>(bif v45 then some (.inr (.inr false))else(bif (decide (y44.z1=(-1)))then(bif (!decide (y44.z9=0))then some (.inr (.inr false))else some (.inl (w64 (a30+1))))else((idx p0 y44.z1).bind fun y47=>(((bif (!decide (y47.q6=y44.q6))then some true else(bif (decide (y44.q5.q0<y47.q5.q0))then some true else(bif (decide (y47.q5.q9<y44.q5.q9))then some true else some (!decide (y44.z9=(w64 (y47.z9+1))))))):Option Bool).bind fun v48=>(bif v48 then some (.inr (.inr false))else some (.inl (w64 (a30+1))))))))))else some (.inr (.inl ())))
def zJ(p0:(List aY)):Option Bool :=
  ((loop (sZ p0) 0).bind fun | .inl _=>some true | .inr rv=>some rv)
theorem ZZ(p0:(List aY))(r:Bool)(hF:zJ p0=some r):Fun Tryz.prog 177 true [] [cL 8 aj p0] noHeap (cB r) noHeap:=by
 refine fW Tryz.func177 ?_
 unfold zJ at hF
 refine wA rfl (az (wC 1 rfl (rS (d0 (tc:=aj) p0 .tree (QV rfl (eZ (fun _ _ h=>h) hF (.inl) (fun a30=>[(0,cL 8 aj p0),(6,cL 8 aj p0),(7,cI (List.length p0:Int)),(8,cI a30)]) (fun a30=>[]) (fun _=>[]) (fun _=>[]) sw ?_ ?_))))))
 ·rintro⟨⟩ hF
  refine wA rfl ?_;cases hF
  exact bQ wR
 rintro a30 x_0 hF cont_0 brk_0 fin_0
 unfold sZ at hF
 refine wA rfl (az (wIf hF rfl (fun _ hF=>?_) fun _ hF=>?_))
 ·refine aJ (az (c7 (wC 1 rfl ?_)));obtain⟨y44,hy44,hF⟩:=bB hF
  refine rS (dz (tc:=aj) p0 rfl rfl hy44 (QV rfl (c7 (az (cW (fun _ _ h=>h) hF (fun v45=>[(0,cL 8 aj p0),(4,cP (4,0) 0),(6,cL 8 aj p0),(7,cI (List.length p0:Int)),(8,cI a30),(49,cB v45)]) (fun v45=>[((4,0),.box (qq y44))]) ?_ ?_)))))
  ·rintro v45 hF
   refine wIf hF rfl (fun _ hF=>?_) fun _ hF=>?_
   ·refine wA rfl ?_;have hF:=fin_0 _ (oi hF);cases hF
    exact bQ wR
   refine wA rfl (wIf hF rfl (fun _ hF=>?_) fun _ hF=>?_)
   ·refine wA rfl (wIf hF rfl (fun _ hF=>?_) fun _ hF=>?_)
    ·refine wA rfl ?_;have hF:=fin_0 _ (oi hF);cases hF
     exact bQ wR
    exact aJ (wB rfl (cont_0 _ _ _ (oi hF) sw))
   refine wC 3 rfl ?_;obtain⟨y47,hy47,hF⟩:=bB hF
   refine rS (dz (tc:=aj) p0 rfl rfl hy47 (QV rfl (az (cW (fun _ _ h=>h) hF (fun v48=>[(0,cL 8 aj p0),(6,cL 8 aj p0),(7,cI (List.length p0:Int)),(8,cI a30),(48,cB v48)]) (fun v48=>[]) ?_ ?_))))
   ·rintro v48 hF
    refine wIf hF rfl (fun _ hF=>?_) fun _ hF=>?_
    ·refine wA rfl ?_;have hF:=fin_0 _ (oi hF);cases hF
     exact bQ wR
    exact aJ (wB rfl (cont_0 _ _ _ (oi hF) sw))
   intro join hF
   refine wD 6 rfl ?_;cases h50:(!decide (y47.q6=y44.q6))
   ·have hF:=bF' h50 hF;refine aQ SV 9 rfl ?_;cases h51:(decide (y44.q5.q0<y47.q5.q0))
    ·have hF:=bF' h51 hF;refine aQ SV 9 rfl ?_;cases h52:(decide (y47.q5.q9<y44.q5.q9))
     ·have hF:=bF' h52 hF;exact QV rfl (join (!decide (y44.z9=(w64 (y47.z9+1)))) _ _ hF sw)
     have hF:=bT' h52 hF;exact QV rfl (join true _ _ hF sw)
    have hF:=bT' h51 hF;exact QV rfl (join true _ _ hF sw)
   have hF:=bT' h50 hF;exact QV rfl (join true _ _ hF sw)
  intro join hF
  refine wD 4 rfl ?_;cases h55:(decide (y44.z1<(-1)))
  ·have hF:=bF' h55 hF;exact QV rfl (join (decide (a30≤y44.z1)) _ _ hF sw)
  have hF:=bT' h55 hF;exact QV rfl (join true _ _ hF sw)
 exact dK (aq (aq (bj (brk_0 _ _ _ (oi hF) sw))))
def HJ(p0:(List aY))(p1:Int):Int→Option (Int ⊕ (Unit ⊕ Bool)):=fun a10 =>
  (bif (decide (0≤a10))then(bif (decide (p1=a10))then some (.inr (.inr true))else((idx p0 a10).bind fun y14=>some (.inl y14.z1)))else some (.inr (.inl ())))
def EY(p0:(List aY))(p1:Int)(p2:Int):Option Bool :=
  ((loop (HJ p0 p1) p2).bind fun | .inl _=>some false | .inr rv=>some rv)
theorem afV(p0:(List aY))(p1:Int)(p2:Int)(r:Bool)(hF:EY p0 p1 p2=some r):Fun Tryz.prog 222 true [] [cL 8 aj p0,cI p1,cI p2] noHeap (cB r) noHeap:=by
 refine fW Tryz.func222 ?_
 unfold EY at hF
 refine wA rfl (az (eZ (fun _ _ h=>h) hF (.inl) (fun a10=>[(0,cL 8 aj p0),(1,cI p1),(2,cI a10)]) (fun a10=>[]) (fun _=>[]) (fun _=>[]) sw ?_ ?_))
 ·rintro⟨⟩ hF
  refine wA rfl ?_;cases hF
  exact bQ wR
 rintro a10 x_0 hF cont_0 brk_0 fin_0
 unfold HJ at hF
 refine az (wA rfl (wIf hF rfl (fun _ hF=>?_) fun _ hF=>?_))
 ·refine aJ (az (c7 (wA rfl (wIf hF rfl (fun _ hF=>?_) fun _ hF=>?_))))
  ·refine wA rfl ?_;have hF:=fin_0 _ (oi hF);cases hF
   exact bQ wR
  refine aJ (wD 2 rfl ?_);obtain⟨y14,hy14,hF⟩:=bB hF
  exact rS (dz (tc:=aj) p0 rfl rfl hy14 (QV rfl (cont_0 _ _ _ (oi hF) sw)))
 exact dK (aq (aq (bj (brk_0 _ _ _ (oi hF) sw))))
def H6(p0:(List aY))(a116:Int)(y173:aY):(Int×Int)→Option ((Int×Int) ⊕ (Int ⊕ (Int ⊕ (Unit ⊕ Bool)))):=fun(a202,a203) =>
  (bif (decide (a203<(List.length p0:Int)))then((idx p0 a203).bind fun y217=>(((bif (decide (y217.z1=a116))then some (w64 (a202-(w64 (y217.q5.q9-y217.q5.q0))))else some a202):Option Int).bind fun v218=>(((bif (decide (a203<a116))then(bif (decide (y217.q6=y173.q6))then(bif (decide (y173.q5.q0<y217.q5.q9))then(bif (decide (y217.q5.q0<y173.q5.q9))then((EY p0 a203 a116).bind fun r225=>some (!r225))else some false)else some false)else some false)else some false):Option Bool).bind fun v219=>(bif v219 then some (.inr (.inr (.inr (.inr false))))else some (.inl (v218,(w64 (a203+1))))))))else some (.inr (.inl a202)))
def H8(p0:(List aY)):Int→Option (Int ⊕ (Unit ⊕ Bool)):=fun a116 =>
  (bif (decide (a116<(List.length p0:Int)))then((idx p0 a116).bind fun y173=>((loop (H6 p0 a116 y173) ((w64 (y173.q5.q9-y173.q5.q0)),0)).bind fun | .inl e215=>(bif (!decide (y173.j9=e215))then some (.inr (.inr false))else some (.inl (w64 (a116+1)))) | .inr rv=>some rv))else some (.inr (.inl ())))
def EV(p0:(List aY)):Option Bool :=
  ((loop (H8 p0) 0).bind fun | .inl _=>some true | .inr rv=>some rv)
theorem afQ(p0:(List aY))(r:Bool)(hF:EV p0=some r):Fun Tryz.prog 178 true [] [cL 8 aj p0] noHeap (cB r) noHeap:=by
 refine fW Tryz.func178 ?_
 unfold EV at hF
 refine wA rfl (az (wC 1 rfl (rS (d0 (tc:=aj) p0 .tree (QV rfl (eZ (fun _ _ h=>h) hF (.inl) (fun a116=>[(0,cL 8 aj p0),(8,cL 8 aj p0),(9,cI (List.length p0:Int)),(10,cI a116)]) (fun a116=>[]) (fun _=>[]) (fun _=>[]) sw ?_ ?_))))))
 ·rintro⟨⟩ hF
  refine wA rfl ?_;cases hF
  exact bQ wR
 rintro a116 x_0 hF cont_0 brk_0 fin_0
 unfold H8 at hF
 refine wA rfl (az (wIf hF rfl (fun _ hF=>?_) fun _ hF=>?_))
 ·refine aJ (az (c7 (wC 1 rfl ?_)));obtain⟨y173,hy173,hF⟩:=bB hF
  refine rS (dz (tc:=aj) p0 rfl rfl hy173 (QV rfl (wA rfl (az (wC 1 rfl (rS (d0 (tc:=aj) p0 .tree (QV rfl (eZ (fun _ _ h=>h) hF (.inl) (fun(a202,a203)=>[(0,cL 8 aj p0),(3,cI a116),(4,cP (4,0) 0),(5,cI a202),(8,cL 8 aj p0),(9,cI (List.length p0:Int)),(10,cI a116),(22,cL 8 aj p0),(23,cI (List.length p0:Int)),(24,cI a203)]) (fun(a202,a203)=>[((4,0),.box (qq y173))]) (fun e215=>[(0,cL 8 aj p0),(4,cP (4,0) 0),(5,cI e215),(8,cL 8 aj p0),(9,cI (List.length p0:Int)),(10,cI a116)]) (fun e215=>[((4,0),.box (qq y173))]) sw ?_ ?_)))))))))
  ·rintro e215 hF
   refine wA rfl (wIf hF rfl (fun _ hF=>?_) fun _ hF=>?_)
   ·refine wA rfl ?_;have hF:=fin_0 _ (oi hF);cases hF
    exact bQ wR
   exact aJ (wB rfl (cont_0 _ _ _ (oi hF) sw))
  rintro⟨a202,a203⟩ x_1 hF cont_1 brk_1 fin_1
  unfold H6 at hF
  refine wA rfl (az (wIf hF rfl (fun _ hF=>?_) fun _ hF=>?_))
  ·refine aJ (az (c7 (wC 1 rfl ?_)));obtain⟨y217,hy217,hF⟩:=bB hF
   refine rS (dz (tc:=aj) p0 rfl rfl hy217 (QV rfl (az (wA rfl (cW (fun _ _ h=>h) hF (fun v218=>[(0,cL 8 aj p0),(3,cI a116),(4,cP (4,0) 0),(5,cI v218),(6,cI a203),(7,cP (7,0) 0),(8,cL 8 aj p0),(9,cI (List.length p0:Int)),(10,cI a116),(22,cL 8 aj p0),(23,cI (List.length p0:Int)),(24,cI a203)]) (fun v218=>[((4,0),.box (qq y173)),((7,0),.box (qq y217))]) ?_ ?_)))))
   ·rintro v218 hF
    refine az (cW (fun _ _ h=>h) hF (fun v219=>[(0,cL 8 aj p0),(3,cI a116),(4,cP (4,0) 0),(5,cI v218),(8,cL 8 aj p0),(9,cI (List.length p0:Int)),(10,cI a116),(22,cL 8 aj p0),(23,cI (List.length p0:Int)),(24,cI a203),(76,cB v219)]) (fun v219=>[((4,0),.box (qq y173))]) ?_ ?_)
    ·rintro v219 hF
     refine wIf hF rfl (fun _ hF=>?_) fun _ hF=>?_
     ·refine wA rfl ?_;have hF:=fin_1 _ (oi hF);have hF:=fin_0 _ (oi hF);cases hF
      exact bQ wR
     exact aJ (wB rfl (cont_1 _ _ _ (oi hF) sw))
    intro join hF
    refine wD 4 rfl ?_;cases h221:(decide (a203<a116))
    ·have hF:=bF' h221 hF;exact QV rfl (join false _ _ hF sw)
    have hF:=bT' h221 hF;refine aQ SV 7 rfl ?_;cases h222:(decide (y217.q6=y173.q6))
    ·have hF:=bF' h222 hF;exact QV rfl (join false _ _ hF sw)
    have hF:=bT' h222 hF;refine aQ SV 9 rfl ?_;cases h223:(decide (y173.q5.q0<y217.q5.q9))
    ·have hF:=bF' h223 hF;exact QV rfl (join false _ _ hF sw)
    have hF:=bT' h223 hF;refine aQ SV 9 rfl ?_;cases h224:(decide (y217.q5.q0<y173.q5.q9))
    ·have hF:=bF' h224 hF;exact QV rfl (join false _ _ hF sw)
    have hF:=bT' h224 hF;refine aQ SV 3 rfl ?_;obtain⟨r225,hr225,hF⟩:=bB' hF
    exact aW SV rfl (cJ (afV _ _ _ _ hr225) ⟨rfl,rfl,rfl,trivial⟩ rfl (.inl rfl) (QV rfl (join (!r225) _ _ hF sw)))
   intro join hF
   refine wX hF rfl (fun _ hF=>?_) fun _ hF=>?_
   ·exact wB rfl (join (w64 (a202-(w64 (y217.q5.q9-y217.q5.q0)))) _ _ hF sw)
   exact aJ (join a202 _ _ hF sw)
  exact dK (aq (aq (bj (brk_1 _ _ _ (oi hF) sw))))
 exact dK (aq (aq (bj (brk_0 _ _ _ (oi hF) sw))))
def yQ(p0:(List aY)):Int→Option (Int ⊕ (Unit ⊕ Int)):=fun a32 =>
  (bif (decide (a32<(List.length p0:Int)))then((idx p0 a32).bind fun y52=>(((bif (decide (y52.q6<0))then some true else(bif (decide (1000000000000000<y52.q6))then some true else((nV y52.q5).bind fun r64=>some (!r64)))):Option Bool).bind fun v53=>(bif v53 then some (.inr (.inr 2))else((qW y52.q8).bind fun r54=>(bif (!decide (r54=0))then some (.inr (.inr r54))else(((bif (decide (0<a32))then((idx p0 (w64 (a32-1))).bind fun y58=>((xx y58 y52).bind fun r59=>some (decide (0<r59))))else some false):Option Bool).bind fun v55=>(bif v55 then some (.inr (.inr 11))else some (.inl (w64 (a32+1))))))))))else some (.inr (.inl ())))
def p9(p0:(List aY)):Option Int :=
  ((loop (yQ p0) 0).bind fun | .inl _=>((((zJ p0).bind fun r49=>(bif (!r49)then some true else((EV p0).bind fun r51=>some (!r51)))):Option Bool).bind fun v47=>(bif v47 then some 10 else some 0)) | .inr rv=>some rv)
theorem Rx(p0:(List aY))(r:Int)(hF:p9 p0=some r):Fun Tryz.prog 110 true [] [cL 8 aj p0] noHeap (cI r) noHeap:=by
 refine fW Tryz.func110 ?_
 unfold p9 at hF
 refine wA rfl (az (wC 1 rfl (rS (d0 (tc:=aj) p0 .tree (QV rfl (eZ (fun _ _ h=>h) hF (.inl) (fun a32=>[(0,cL 8 aj p0),(6,cL 8 aj p0),(7,cI (List.length p0:Int)),(8,cI a32)]) (fun a32=>[]) (fun _=>[(0,cL 8 aj p0)]) (fun _=>[]) sw ?_ ?_))))))
 ·rintro⟨⟩ hF
  refine az (az (cW (fun _ _ h=>h) hF (fun v47=>[(53,cB v47)]) (fun v47=>[]) ?_ ?_))
  ·rintro v47 hF
   refine wIf hF rfl (fun _ hF=>?_) fun _ hF=>?_
   ·refine wA rfl ?_;cases hF
    exact bQ wR
   refine aJ (wA rfl ?_);cases hF
   exact bQ wR
  intro join hF
  refine wD 1 rfl ?_;obtain⟨r49,hr49,hF⟩:=bB' hF
  refine rS (cJ (ZZ _ _ hr49) ⟨rfl,trivial⟩ rfl (.inl rfl) (aQ SV 2 rfl ?_));cases h50:(!r49)
  ·have hF:=bF' h50 hF;refine aQ SV 1 rfl ?_;obtain⟨r51,hr51,hF⟩:=bB' hF
   exact aW SV rfl (cJ (afQ _ _ hr51) ⟨rfl,trivial⟩ rfl (.inl rfl) (QV rfl (join (!r51) _ _ hF sw)))
  have hF:=bT' h50 hF;exact QV rfl (join true _ _ hF sw)
 rintro a32 x_0 hF cont_0 brk_0 fin_0
 unfold yQ at hF
 refine wA rfl (az (wIf hF rfl (fun _ hF=>?_) fun _ hF=>?_))
 ·refine aJ (az (c7 (wC 1 rfl ?_)));obtain⟨y52,hy52,hF⟩:=bB hF
  refine rS (dz (tc:=aj) p0 rfl rfl hy52 (QV rfl (az (az (cW (fun _ _ h=>h) hF (fun v53=>[(0,cL 8 aj p0),(3,cI a32),(4,cP (4,0) 0),(6,cL 8 aj p0),(7,cI (List.length p0:Int)),(8,cI a32),(26,cB v53)]) (fun v53=>[((4,0),.box (qq y52))]) ?_ ?_)))))
  ·rintro v53 hF
   refine wIf hF rfl (fun _ hF=>?_) fun _ hF=>?_
   ·refine wA rfl ?_;have hF:=fin_0 _ (oi hF);cases hF
    exact bQ wR
   refine aJ (az (wC 2 rfl ?_));obtain⟨r54,hr54,hF⟩:=bB hF
   refine rS (cJ (Gj _ _ hr54) ⟨rfl,trivial⟩ rfl (.inl rfl) (QV rfl (wA rfl (wIf hF rfl (fun _ hF=>?_) fun _ hF=>?_))))
   ·refine wA rfl ?_;have hF:=fin_0 _ (oi hF);cases hF
    exact bQ wR
   refine aJ (az (cW (fun _ _ h=>h) hF (fun v55=>[(0,cL 8 aj p0),(6,cL 8 aj p0),(7,cI (List.length p0:Int)),(8,cI a32),(44,cB v55)]) (fun v55=>[]) ?_ ?_))
   ·rintro v55 hF
    refine wIf hF rfl (fun _ hF=>?_) fun _ hF=>?_
    ·refine wA rfl ?_;have hF:=fin_0 _ (oi hF);cases hF
     exact bQ wR
    exact aJ (wB rfl (cont_0 _ _ _ (oi hF) sw))
   intro join hF
   refine f7 (by decide) (by kernel_rfl) rfl (aQ SP 3 rfl ?_);cases h57:(decide (0<a32))
   ·have hF:=bF' h57 hF;exact QP rfl (join false _ _ hF sw)
   have hF:=bT' h57 hF;refine aQ SP 3 rfl ?_;obtain⟨y58,hy58,hF⟩:=bB' hF
   refine aW SP rfl (dz (tc:=aj) p0 rfl rfl hy58 (aQ SP 2 rfl ?_));obtain⟨r59,hr59,hF⟩:=bB' hF
   exact aW SP rfl (cJ (XX _ _ _ hr59) ⟨⟨rfl,rfl,rfl,rfl,rfl,rfl,rfl,rfl,trivial⟩,⟨rfl,rfl,rfl,rfl,rfl,rfl,rfl,rfl,trivial⟩,trivial⟩ rfl (.inl rfl) (QP rfl (join (decide (0<r59)) _ _ hF sw)))
  intro join hF
  refine wD 4 rfl ?_;cases h62:(decide (y52.q6<0))
  ·have hF:=bF' h62 hF;refine aQ SV 5 rfl ?_;cases h63:(decide (1000000000000000<y52.q6))
   ·have hF:=bF' h63 hF;refine aQ SV 2 rfl ?_;obtain⟨r64,hr64,hF⟩:=bB' hF
    exact aW SV rfl (cJ (C8 _ _ hr64) ⟨⟨rfl,rfl,trivial⟩,trivial⟩ rfl (.inl rfl) (QV rfl (join (!r64) _ _ hF sw)))
   have hF:=bT' h63 hF;exact QV rfl (join true _ _ hF sw)
  have hF:=bT' h62 hF;exact QV rfl (join true _ _ hF sw)
 exact dK (aq (aq (bj (brk_0 _ _ _ (oi hF) sw))))
def E6(p0:aY):Option Int :=
  some p0.q6
theorem V7(p0:aY)(r:Int)(hF:E6 p0=some r):Fun Tryz.prog 111 true [] [.agg (qq p0)] noHeap (cI r) noHeap:=by
 refine fW Tryz.func111 ?_
 unfold E6 at hF
 refine wA rfl (wA rfl ?_);cases hF
 exact bQ wR
def m4(p1:(List (Int×ByteArray)))(p2:(List aY)):Int→Option (Int ⊕ (Unit ⊕ Int)):=fun a12 =>
  (bif (decide (a12<(List.length p2:Int)))then((idx p2 a12).bind fun y17=>((E6 y17).bind fun r18=>(bif (!(Option.isSome (xZ r18 p1)))then some (.inr (.inr 5))else some (.inl (w64 (a12+1))))))else some (.inr (.inl ())))
def iY(p0:Int)(p1:(List (Int×ByteArray)))(p2:(List aY)):Option Int :=
  (bif (!decide (p0=0))then some p0 else((loop (m4 p1 p2) 0).bind fun | .inl _=>some 0 | .inr rv=>some rv))
theorem JZ(p0:Int)(p1:(List (Int×ByteArray)))(p2:(List aY))(r:Int)(hF:iY p0 p1 p2=some r):Fun Tryz.prog 109 false [(5360,0)] [cI p0,cM (5360,0),cL 8 aj p2,.c (.fn 111 [])] (aV [((5360,0),sW (.int .i64) kvI vvS p1)]) (cI r) (aV [((5360,0),sW (.int .i64) kvI vvS p1)]):=by
 refine fM [(5360,0)] (some [(5360,0)]) Tryz.func109 ?_
 unfold iY at hF
 refine wA rfl (az (wA rfl (wIf hF rfl (fun _ hF=>?_) fun _ hF=>?_)))
 ·refine wA rfl ?_;cases hF
  exact bQ ⟨_,_,fq,_,rfl,rfl,⟨rfl,fun _=>rfl⟩,(AgM.weak ⟨rfl,trivial⟩)⟩
 refine aJ (az (wC 1 rfl (rS (d0 (tc:=aj) p2 .tree (QV rfl (eZ (fun _ _ h=>h) hF (.inl) (fun a12=>[(1,cM (5360,0)),(3,.c (.fn 111 [])),(16,cL 8 aj p2),(17,cI (List.length p2:Int)),(18,cI a12)]) (fun a12=>[((5360,0),sW (.int .i64) kvI vvS p1)]) (fun _=>[]) (fun _=>[((5360,0),sW (.int .i64) kvI vvS p1)]) sw ?_ ?_))))))
 ·rintro⟨⟩ hF
  refine wA rfl ?_;cases hF
  exact bQ ⟨_,_,fq,_,rfl,rfl,⟨rfl,fun _=>rfl⟩,(AgM.weak ⟨rfl,trivial⟩)⟩
 rintro a12 x_0 hF cont_0 brk_0 fin_0
 unfold m4 at hF
 refine wA rfl (az (wIf hF rfl (fun _ hF=>?_) fun _ hF=>?_))
 ·refine aJ (az (c7 (wE ?_)));obtain⟨y17,hy17,hF⟩:=bB hF
  refine rS (dz (tc:=aj) p2 rfl rfl hy17 (QV rfl (wC 3 rfl ?_)));obtain⟨r18,hr18,hF⟩:=bB hF
  refine jj trivial (IX (I8 _ rfl a9x) (V7 _ _ hr18) ⟨⟨rfl,rfl,rfl,rfl,rfl,rfl,rfl,rfl,trivial⟩,trivial⟩ rfl (.inl rfl) (rS (MQ (anj .i64) (vv:=vvS) p1 r18 (⟨#[]⟩ : ByteArray) (.own _ rfl) rfl rfl (QV rfl (wA rfl (wIf hF rfl (fun _ hF=>?_) fun _ hF=>?_))))))
  ·refine wA rfl ?_;have hF:=fin_0 _ (oi hF);cases hF
   exact bQ ⟨_,_,fq,_,rfl,rfl,⟨rfl,fun _=>rfl⟩,(AgM.weak ⟨rfl,trivial⟩)⟩
  exact aJ (wB rfl (cont_0 _ _ _ (oi hF) sw))
 exact dK (aq (aq (bj (brk_0 _ _ _ (oi hF) sw))))
def lq(p0:(List Int))(p1:Int):Int→Option (Int ⊕ (Unit ⊕ Int)):=fun a10 =>
  (bif (decide (a10<(List.length p0:Int)))then((idx p0 a10).bind fun y14=>(bif (decide (p1=y14))then some (.inr (.inr a10))else some (.inl (w64 (a10+1)))))else some (.inr (.inl ())))
def ej(p0:(List Int))(p1:Int):Option Int :=
  ((loop (lq p0 p1) 0).bind fun | .inl _=>some (-1) | .inr rv=>some rv)
theorem F2(p0:(List Int))(p1:Int)(r:Int)(hF:ej p0 p1=some r):Fun Tryz.prog 179 true [] [cL 1 A9 p0,cI p1] noHeap (cI r) noHeap:=by
 refine fW Tryz.func179 ?_
 unfold ej at hF
 refine wA rfl (az (wC 1 rfl (rS (d0 (tc:=A9) p0 .tree (QV rfl (eZ (fun _ _ h=>h) hF (.inl) (fun a10=>[(0,cL 1 A9 p0),(1,cI p1),(7,cI (List.length p0:Int)),(8,cI a10)]) (fun a10=>[]) (fun _=>[]) (fun _=>[]) sw ?_ ?_))))))
 ·rintro⟨⟩ hF
  refine wA rfl ?_;cases hF
  exact bQ wR
 rintro a10 x_0 hF cont_0 brk_0 fin_0
 unfold lq at hF
 refine wA rfl (az (wIf hF rfl (fun _ hF=>?_) fun _ hF=>?_))
 ·refine aJ (az (c7 (wA rfl (wC 3 rfl ?_))));obtain⟨y14,hy14,hF⟩:=bB hF
  refine rS (dz (tc:=A9) p0 rfl rfl hy14 (QV rfl (wIf hF rfl (fun _ hF=>?_) fun _ hF=>?_)))
  ·refine wA rfl ?_;have hF:=fin_0 _ (oi hF);cases hF
   exact bQ wR
  exact aJ (wB rfl (cont_0 _ _ _ (oi hF) sw))
 exact dK (aq (aq (bj (brk_0 _ _ _ (oi hF) sw))))
def m6(p0:(List Int))(p1:Int):Option Bool :=
  ((ej p0 p1).bind fun r1=>some (decide (0≤r1)))
theorem K3(p0:(List Int))(p1:Int)(r:Bool)(hF:m6 p0 p1=some r):Fun Tryz.prog 151 true [] [cL 1 A9 p0,cI p1] noHeap (cB r) noHeap:=by
 refine fW Tryz.func151 ?_
 unfold m6 at hF
 refine wA rfl (wC 2 rfl ?_);obtain⟨r1,hr1,hF⟩:=bB hF
 refine rS (cJ (F2 _ _ _ hr1) ⟨rfl,rfl,trivial⟩ rfl (.inl rfl) (QV rfl ?_));cases hF
 exact bQ wR
def D7(p0:(List dW)):((List Int)×Int)→Option (((List Int)×Int) ⊕ (List Int)):=fun(a19,a20) =>
  (bif (decide (a20<(List.length p0:Int)))then((((idx p0 a20).bind fun y29=>((m6 a19 y29.w5).bind fun r30=>(bif (!r30)then(bif Ej 8 (List.length a19+List.length [y29.w5])then some (a19++[y29.w5])else none)else some a19))):Option (List Int)).bind fun v28=>some (.inl (v28,(w64 (a20+1)))))else some (.inr a19))
def uV(p0:(List dW)):Option (List Int) :=
  ((loop (D7 p0) ([],0)).bind fun e27=>some e27)
theorem Wz(p0:(List dW))(r:(List Int))(hF:uV p0=some r):Fun Tryz.prog 78 false [] [cL 3 bZ p0] (aV []) (cO (902,3120)) (aV [((902,3120),.arr 3 1 (List.map A9 r))]):=by
 refine fM [] (some []) Tryz.func78 ?_
 unfold uV at hF
 refine wA rfl (wA rfl (az (wC 1 rfl (rS (d0 (tc:=bZ) p0 .tree (QV rfl (eZ (fun _ _ h=>h) hF (id) (fun(a19,a20)=>[(3,cO (21,1)),(6,cL 3 bZ p0),(7,cI (List.length p0:Int)),(8,cI a20)]) (fun(a19,a20)=>[((21,1),.arr 3 1 (List.map A9 a19))]) (fun e27=>[(3,cO (21,1))]) (fun e27=>[((21,1),.arr 3 1 (List.map A9 e27))]) (Nq 3 (21,1) 3 1 rfl rfl rfl rfl sw) ?_ ?_)))))))
 ·rintro e27 hF
  refine wA rfl ?_;cases hF
  exact bQ ⟨_,_,(xz (21,1) (902,3120) rfl rfl fq),_,rfl,rfl,rfl,(AgM.weak ⟨rfl,trivial⟩)⟩
 rintro⟨a19,a20⟩ x_0 hF cont_0 brk_0 fin_0
 unfold D7 at hF
 refine wA rfl (az (wIf hF rfl (fun _ hF=>?_) fun _ hF=>?_))
 ·refine aJ (az (cW (fun _ _ h=>h) hF (fun v28=>[(3,cO (21,1)),(6,cL 3 bZ p0),(7,cI (List.length p0:Int)),(8,cI a20)]) (fun v28=>[((21,1),.arr 3 1 (List.map A9 v28))]) ?_ ?_))
  ·rintro v28 hF
   exact wB rfl (cont_0 _ _ _ (oi hF) sw)
  intro join hF
  refine c7 (wE ?_);obtain⟨y29,hy29,hF⟩:=bB' hF
  refine rS (dz (tc:=bZ) p0 rfl rfl hy29 (QV rfl (wC 3 rfl ?_)));obtain⟨r30,hr30,hF⟩:=bB' hF
  refine rS (cJ (K3 _ _ _ hr30) ⟨⟨_,rfl⟩,rfl,trivial⟩ rfl (.inl rfl) (QV rfl (wX hF rfl (fun _ hF=>?_) fun _ hF=>?_)))
  ·refine wD 3 rfl ?_;refine rS (E5 (tc:=A9) [y29.w5] rfl ⟨rfl,trivial⟩ rfl (fun _=>rfl) rfl ?_)
   obtain⟨h31,hF⟩:=EW hF
   exact rS (BK (tc:=A9) a19 [y29.w5] rfl rfl (.own _ _ rfl) h31 rfl (QV rfl (join (a19++[y29.w5]) _ _ hF (xz (21,0) (21,1) rfl rfl sw))))
  exact aJ (join a19 _ _ hF sw)
 exact dK (aq (aq (bj (brk_0 _ _ _ (oi hF) sw))))
def C3(p0:cZ):Option Bool :=
  (((bif (decide (p0.j3=1))then some true else some (decide (p0.j3=2))):Option Bool).bind fun v1=>(((bif (decide (p0.j3<0))then some true else some (decide (5<p0.j3))):Option Bool).bind fun v2=>(bif v2 then some false else(((bif (decide (p0.j3=4))then(bif (decide (p0.w9<0))then some true else some (decide (64≤p0.w9)))else some false):Option Bool).bind fun v3=>(((bif v3 then some v3 else(bif (!decide (p0.j3=4))then some (!decide (p0.w9=(-1)))else some false)):Option Bool).bind fun v4=>(bif v4 then some false else(((bif (decide (p0.j3=2))then(bif (decide (p0.x5<0))then some true else some (decide (1000000000000000<p0.x5)))else some false):Option Bool).bind fun v5=>(((bif v5 then some v5 else(bif (!decide (p0.j3=2))then some (!decide (p0.x5=(-1)))else some false)):Option Bool).bind fun v6=>(bif v6 then some false else(((bif (decide (p0.x6=(-1)))then some true else(bif v1 then(bif (decide (0≤p0.x6))then some (decide (p0.x6≤1000000000000000))else some false)else some false)):Option Bool).bind fun v7=>some v7))))))))))
theorem aaq(p0:cZ)(r:Bool)(hF:C3 p0=some r):Fun Tryz.prog 180 true [] [.agg (mZ p0)] noHeap (cB r) noHeap:=by
 refine fW Tryz.func180 ?_
 unfold C3 at hF
 refine wA rfl (az (cW (fun _ _ h=>h) hF (fun v1=>[(1,cP (1,0) 0),(3,cB v1)]) (fun v1=>[((1,0),.box (mZ p0))]) ?_ ?_))
 ·rintro v1 hF
  refine az (c7 (az (cW (fun _ _ h=>h) hF (fun v2=>[(1,cP (1,0) 0),(3,cB v1),(12,cB v2)]) (fun v2=>[((1,0),.box (mZ p0))]) ?_ ?_)))
  ·rintro v2 hF
   refine wIf hF rfl (fun _ hF=>?_) fun _ hF=>?_
   ·refine wA rfl ?_;cases hF
    exact bQ wR
   refine az (az (cW (fun _ _ h=>h) hF (fun v3=>[(1,cP (1,0) 0),(3,cB v1),(21,cB v3)]) (fun v3=>[((1,0),.box (mZ p0))]) ?_ ?_))
   ·rintro v3 hF
    refine cW (fun _ _ h=>h) hF (fun v4=>[(1,cP (1,0) 0),(3,cB v1),(21,cB v4)]) (fun v4=>[((1,0),.box (mZ p0))]) ?_ ?_
    ·rintro v4 hF
     refine wIf hF rfl (fun _ hF=>?_) fun _ hF=>?_
     ·refine wA rfl ?_;cases hF
      exact bQ wR
     refine az (az (cW (fun _ _ h=>h) hF (fun v5=>[(1,cP (1,0) 0),(3,cB v1),(43,cB v5)]) (fun v5=>[((1,0),.box (mZ p0))]) ?_ ?_))
     ·rintro v5 hF
      refine cW (fun _ _ h=>h) hF (fun v6=>[(1,cP (1,0) 0),(3,cB v1),(43,cB v6)]) (fun v6=>[((1,0),.box (mZ p0))]) ?_ ?_
      ·rintro v6 hF
       refine wIf hF rfl (fun _ hF=>?_) fun _ hF=>?_
       ·refine wA rfl ?_;cases hF
        exact bQ wR
       refine aJ (az (cW (fun _ _ h=>h) hF (fun v7=>[(2,cB v7)]) (fun v7=>[]) ?_ ?_))
       ·rintro v7 hF
        cases hF
        exact bQ wR
       intro join hF
       refine wD 4 rfl ?_;cases h8:(decide (p0.x6=(-1)))
       ·have hF:=bF' h8 hF;refine aQ SV 2 rfl ?_;cases h9:v1
        ·have hF:=bF' h9 hF;exact QV rfl (join false _ _ hF sw)
        have hF:=bT' h9 hF;refine aQ SV 5 rfl ?_;cases h10:(decide (0≤p0.x6))
        ·have hF:=bF' h10 hF;exact QV rfl (join false _ _ hF sw)
        have hF:=bT' h10 hF;exact QV rfl (join (decide (p0.x6≤1000000000000000)) _ _ hF sw)
       have hF:=bT' h8 hF;exact QV rfl (join true _ _ hF sw)
      intro join hF
      refine wX hF rfl (fun _ hF=>?_) fun _ hF=>?_
      ·exact aJ (join v5 _ _ hF sw)
      refine wD 4 rfl ?_;cases h12:(!decide (p0.j3=2))
      ·have hF:=bF' h12 hF;exact QV rfl (join false _ _ hF sw)
      have hF:=bT' h12 hF;exact QV rfl (join (!decide (p0.x5=(-1))) _ _ hF sw)
     intro join hF
     refine wD 4 rfl ?_;cases h14:(decide (p0.j3=2))
     ·have hF:=bF' h14 hF;exact QV rfl (join false _ _ hF sw)
     have hF:=bT' h14 hF;refine aQ SV 4 rfl ?_;cases h15:(decide (p0.x5<0))
     ·have hF:=bF' h15 hF;exact QV rfl (join (decide (1000000000000000<p0.x5)) _ _ hF sw)
     have hF:=bT' h15 hF;exact QV rfl (join true _ _ hF sw)
    intro join hF
    refine wX hF rfl (fun _ hF=>?_) fun _ hF=>?_
    ·exact aJ (join v3 _ _ hF sw)
    refine wD 4 rfl ?_;cases h17:(!decide (p0.j3=4))
    ·have hF:=bF' h17 hF;exact QV rfl (join false _ _ hF sw)
    have hF:=bT' h17 hF;exact QV rfl (join (!decide (p0.w9=(-1))) _ _ hF sw)
   intro join hF
   refine wD 4 rfl ?_;cases h19:(decide (p0.j3=4))
   ·have hF:=bF' h19 hF;exact QV rfl (join false _ _ hF sw)
   have hF:=bT' h19 hF;refine aQ SV 4 rfl ?_;cases h20:(decide (p0.w9<0))
   ·have hF:=bF' h20 hF;exact QV rfl (join (decide (64≤p0.w9)) _ _ hF sw)
   have hF:=bT' h20 hF;exact QV rfl (join true _ _ hF sw)
  intro join hF
  refine wD 4 rfl ?_;cases h22:(decide (p0.j3<0))
  ·have hF:=bF' h22 hF;exact QV rfl (join (decide (5<p0.j3)) _ _ hF sw)
  have hF:=bT' h22 hF;exact QV rfl (join true _ _ hF sw)
 intro join hF
 refine wD 4 rfl ?_;cases h23:(decide (p0.j3=1))
 ·have hF:=bF' h23 hF;exact QV rfl (join (decide (p0.j3=2)) _ _ hF sw)
 have hF:=bT' h23 hF;exact QV rfl (join true _ _ hF sw)
def G2(p0:cZ)(p1:cZ):Option Bool :=
  (((bif (decide (p0.j3=p1.j3))then(bif (decide (p0.w9=p1.w9))then some (decide (p0.x5=p1.x5))else some false)else some false):Option Bool).bind fun v1=>some v1)
theorem aoq(p0:cZ)(p1:cZ)(r:Bool)(hF:G2 p0 p1=some r):Fun Tryz.prog 154 true [] [.agg (mZ p0),.agg (mZ p1)] noHeap (cB r) noHeap:=by
 refine fW Tryz.func154 ?_
 unfold G2 at hF
 refine wA rfl (az (cW (fun _ _ h=>h) hF (fun v1=>[(4,cB v1)]) (fun v1=>[]) ?_ ?_))
 ·rintro v1 hF
  cases hF
  exact bQ wR
 intro join hF
 refine wD 6 rfl ?_;cases h2:(decide (p0.j3=p1.j3))
 ·have hF:=bF' h2 hF;exact QV rfl (join false _ _ hF sw)
 have hF:=bT' h2 hF;refine aQ SV 7 rfl ?_;cases h3:(decide (p0.w9=p1.w9))
 ·have hF:=bF' h3 hF;exact QV rfl (join false _ _ hF sw)
 have hF:=bT' h3 hF;exact QV rfl (join (decide (p0.x5=p1.x5)) _ _ hF sw)
def E7(p1:(List cZ))(y68:cZ):Int→Option (Int ⊕ (Unit ⊕ Int)):=fun a88 =>
  (bif (decide (a88<(List.length p1:Int)))then((idx p1 a88).bind fun y98=>(((bif (decide ((w64 (a88+1))=(List.length p1:Int)))then some true else((idx p1 (w64 (a88+1))).bind fun y104=>some (!decide (y104.q6=y98.q6)))):Option Bool).bind fun v99=>(((bif v99 then some (!decide (y98.q5.q9=y68.q5.q9))else some false):Option Bool).bind fun v100=>(bif v100 then some (.inr (.inr 11))else some (.inl (w64 (a88+1)))))))else some (.inr (.inl ())))
def l7(p1:(List cZ))(r1:(List Int)):(Int×Int)→Option ((Int×Int) ⊕ (Int ⊕ Int)):=fun(a46,a47) =>
  (bif (decide (a47<(List.length p1:Int)))then((idx p1 a47).bind fun y107=>((ej r1 y107.q6).bind fun r108=>(bif (decide (r108<0))then some (.inr (.inr 5))else((nV y107.q5).bind fun r109=>(bif (!r109)then some (.inr (.inr 2))else((C3 y107).bind fun r110=>(bif (!r110)then some (.inr (.inr 1))else(((bif (decide (r108=a46))then((idx p1 (w64 (a47-1))).bind fun y118=>(bif (!decide (y107.q5.q0=y118.q5.q9))then some true else((idx p1 (w64 (a47-1))).bind fun y120=>((G2 y107 y120).bind fun r121=>some r121))))else some false):Option Bool).bind fun v111=>(bif v111 then some (.inr (.inr 11))else(((bif (!decide (r108=a46))then(bif (!decide (r108=(w64 (a46+1))))then some true else some (!decide (y107.q5.q0=0)))else some false):Option Bool).bind fun v112=>(bif v112 then some (.inr (.inr 11))else some (.inl (r108,(w64 (a47+1)))))))))))))))else some (.inr (.inl a46)))
def EJ(p0:(List dW))(p1:(List cZ)):Option Int :=
  ((uV p0).bind fun r1=>((loop (l7 p1 r1) ((-1),0)).bind fun | .inl e67=>(bif (decide ((List.length p1:Int)=0))then some 0 else((idx p1 (w64 ((List.length p1:Int)-1))).bind fun y68=>((loop (E7 p1 y68) 0).bind fun | .inl _=>(bif (!decide ((w64 (e67+1))=(List.length r1:Int)))then some 11 else some 0) | .inr rv=>some rv))) | .inr rv=>some rv))
theorem agz(p0:(List dW))(p1:(List cZ))(r:Int)(hF:EJ p0 p1=some r):Fun Tryz.prog 112 true [] [cL 3 bZ p0,cL 7 bz p1] noHeap (cI r) noHeap:=by
 refine fW Tryz.func112 ?_
 unfold EJ at hF
 refine wA rfl (wC 1 rfl ?_);obtain⟨r1,hr1,hF⟩:=bB hF
 refine jj trivial (oz [((902,3120),(15,1))] rfl (AY _) (Wz _ _ hr1) trivial ⟨.inl rfl,trivial⟩ rfl rfl rfl ?_);refine QV rfl (wA rfl (az (wC 1 rfl (rS (d0 (tc:=bz) p1 .tree (QV rfl (eZ (fun _ _ h=>h) hF (.inl) (fun(a46,a47)=>[(1,cL 7 bz p1),(5,cO (15,1)),(6,cI a46),(16,cL 7 bz p1),(17,cI (List.length p1:Int)),(18,cI a47)]) (fun(a46,a47)=>[((15,1),.arr 3 1 (List.map A9 r1))]) (fun e67=>[(1,cL 7 bz p1),(5,cO (15,1)),(6,cI e67)]) (fun e67=>[((15,1),.arr 3 1 (List.map A9 r1))]) sw ?_ ?_)))))))
 ·rintro e67 hF
  refine az (wC 1 rfl (rS (d0 (tc:=bz) p1 .tree (QV rfl (wIf hF rfl (fun _ hF=>?_) fun _ hF=>?_)))))
  ·refine wA rfl ?_;cases hF
   exact bQ wR
  refine aJ (wC 2 rfl (rS (d0 (tc:=bz) p1 .tree (aQ SV 1 rfl ?_))));obtain⟨y68,hy68,hF⟩:=bB hF
  refine rS (dz (tc:=bz) p1 rfl rfl hy68 (QV rfl (az (wC 1 rfl (rS (d0 (tc:=bz) p1 .tree (QV rfl (eZ (fun _ _ h=>h) hF (.inl) (fun a88=>[(1,cL 7 bz p1),(5,cO (15,1)),(6,cI e67),(10,cI y68.q5.q9),(94,cL 7 bz p1),(95,cI (List.length p1:Int)),(96,cI a88)]) (fun a88=>[((15,1),.arr 3 1 (List.map A9 r1))]) (fun _=>[(5,cO (15,1)),(6,cI e67)]) (fun _=>[((15,1),.arr 3 1 (List.map A9 r1))]) sw ?_ ?_))))))))
  ·rintro⟨⟩ hF
   refine az (wC 3 rfl (rS (d0 (tc:=A9) r1 (.own _ _ rfl) (QV rfl (wIf hF rfl (fun _ hF=>?_) fun _ hF=>?_)))))
   ·refine wA rfl ?_;cases hF
    exact bQ wR
   refine aJ (wA rfl ?_);cases hF
   exact bQ wR
  rintro a88 x_0 hF cont_0 brk_0 fin_0
  unfold E7 at hF
  refine wA rfl (az (wIf hF rfl (fun _ hF=>?_) fun _ hF=>?_))
  ·refine aJ (az (c7 (wC 1 rfl ?_)));obtain⟨y98,hy98,hF⟩:=bB hF
   refine rS (dz (tc:=bz) p1 rfl rfl hy98 (QV rfl (az (cW (fun _ _ h=>h) hF (fun v99=>[(1,cL 7 bz p1),(5,cO (15,1)),(6,cI e67),(10,cI y68.q5.q9),(12,cP (12,0) 0),(13,cB v99),(94,cL 7 bz p1),(95,cI (List.length p1:Int)),(96,cI a88)]) (fun v99=>[((15,1),.arr 3 1 (List.map A9 r1)),((12,0),.box (mZ y98))]) ?_ ?_))))
   ·rintro v99 hF
    refine az (cW (fun _ _ h=>h) hF (fun v100=>[(1,cL 7 bz p1),(5,cO (15,1)),(6,cI e67),(10,cI y68.q5.q9),(94,cL 7 bz p1),(95,cI (List.length p1:Int)),(96,cI a88),(124,cB v100)]) (fun v100=>[((15,1),.arr 3 1 (List.map A9 r1))]) ?_ ?_)
    ·rintro v100 hF
     refine wIf hF rfl (fun _ hF=>?_) fun _ hF=>?_
     ·refine wA rfl ?_;have hF:=fin_0 _ (oi hF);cases hF
      exact bQ wR
     exact aJ (wB rfl (cont_0 _ _ _ (oi hF) sw))
    intro join hF
    refine wD 2 rfl ?_;cases h102:v99
    ·have hF:=bF' h102 hF;exact QV rfl (join false _ _ hF sw)
    have hF:=bT' h102 hF;exact QV rfl (join (!decide (y98.q5.q9=y68.q5.q9)) _ _ hF sw)
   intro join hF
   refine f7 (by decide) (by kernel_rfl) rfl (aQ SP 3 rfl (aW SP trivial (d0 (tc:=bz) p1 .tree (aQ SP 2 rfl ?_))));cases h103:(decide ((w64 (a88+1))=(List.length p1:Int)))
   ·have hF:=bF' h103 hF;refine aQ SP 3 rfl ?_;obtain⟨y104,hy104,hF⟩:=bB' hF
    exact aW SP rfl (dz (tc:=bz) p1 rfl rfl hy104 (QP rfl (join (!decide (y104.q6=y98.q6)) _ _ hF sw)))
   have hF:=bT' h103 hF;exact QP rfl (join true _ _ hF sw)
  exact dK (aq (aq (bj (brk_0 _ _ _ (oi hF) sw))))
 rintro⟨a46,a47⟩ x_0 hF cont_0 brk_0 fin_0
 unfold l7 at hF
 refine wA rfl (az (wIf hF rfl (fun _ hF=>?_) fun _ hF=>?_))
 ·refine aJ (az (c7 (wC 1 rfl ?_)));obtain⟨y107,hy107,hF⟩:=bB hF
  refine rS (dz (tc:=bz) p1 rfl rfl hy107 (QV rfl (wC 3 rfl ?_)));obtain⟨r108,hr108,hF⟩:=bB hF
  refine rS (cJ (F2 _ _ _ hr108) ⟨⟨_,rfl⟩,rfl,trivial⟩ rfl (.inl rfl) (QV rfl (az (c7 (wA rfl (wIf hF rfl (fun _ hF=>?_) fun _ hF=>?_))))))
  ·refine wA rfl ?_;have hF:=fin_0 _ (oi hF);cases hF
   exact bQ wR
  refine wC 2 rfl ?_;obtain⟨r109,hr109,hF⟩:=bB hF
  refine rS (cJ (C8 _ _ hr109) ⟨⟨rfl,rfl,trivial⟩,trivial⟩ rfl (.inl rfl) (QV rfl (wIf hF rfl (fun _ hF=>?_) fun _ hF=>?_)))
  ·refine wA rfl ?_;have hF:=fin_0 _ (oi hF);cases hF
   exact bQ wR
  refine wC 1 rfl ?_;obtain⟨r110,hr110,hF⟩:=bB hF
  refine rS (cJ (aaq _ _ hr110) ⟨⟨rfl,rfl,rfl,rfl,rfl,rfl,rfl,trivial⟩,trivial⟩ rfl (.inl rfl) (QV rfl (wIf hF rfl (fun _ hF=>?_) fun _ hF=>?_)))
  ·refine wA rfl ?_;have hF:=fin_0 _ (oi hF);cases hF
   exact bQ wR
  refine az (cW (fun _ _ h=>h) hF (fun v111=>[(1,cL 7 bz p1),(5,cO (15,1)),(6,cI a46),(8,cP (8,0) 0),(9,cI r108),(16,cL 7 bz p1),(17,cI (List.length p1:Int)),(18,cI a47),(39,cB v111)]) (fun v111=>[((15,1),.arr 3 1 (List.map A9 r1)),((8,0),.box (mZ y107))]) ?_ ?_)
  ·rintro v111 hF
   refine wIf hF rfl (fun _ hF=>?_) fun _ hF=>?_
   ·refine wA rfl ?_;have hF:=fin_0 _ (oi hF);cases hF
    exact bQ wR
   refine az (cW (fun _ _ h=>h) hF (fun v112=>[(1,cL 7 bz p1),(5,cO (15,1)),(9,cI r108),(16,cL 7 bz p1),(17,cI (List.length p1:Int)),(18,cI a47),(65,cB v112)]) (fun v112=>[((15,1),.arr 3 1 (List.map A9 r1))]) ?_ ?_)
   ·rintro v112 hF
    refine wIf hF rfl (fun _ hF=>?_) fun _ hF=>?_
    ·refine wA rfl ?_;have hF:=fin_0 _ (oi hF);cases hF
     exact bQ wR
    exact aJ (wB rfl (wB rfl (cont_0 _ _ _ (oi hF) sw)))
   intro join hF
   refine wD 4 rfl ?_;cases h114:(!decide (r108=a46))
   ·have hF:=bF' h114 hF;exact QV rfl (join false _ _ hF sw)
   have hF:=bT' h114 hF;refine aQ SV 5 rfl ?_;cases h115:(!decide (r108=(w64 (a46+1))))
   ·have hF:=bF' h115 hF;exact QV rfl (join (!decide (y107.q5.q0=0)) _ _ hF sw)
   have hF:=bT' h115 hF;exact QV rfl (join true _ _ hF sw)
  intro join hF
  refine f7 (by decide) (by kernel_rfl) rfl (aQ SP 4 rfl ?_);cases h117:(decide (r108=a46))
  ·have hF:=bF' h117 hF;exact QP rfl (join false _ _ hF sw)
  have hF:=bT' h117 hF;refine aQ SP 6 rfl ?_;obtain⟨y118,hy118,hF⟩:=bB' hF
  refine aW SP rfl (dz (tc:=bz) p1 rfl rfl hy118 (aQ SP 5 rfl ?_));cases h119:(!decide (y107.q5.q0=y118.q5.q9))
  ·have hF:=bF' h119 hF;refine aQ SP 4 rfl ?_;obtain⟨y120,hy120,hF⟩:=bB' hF
   refine aW SP rfl (dz (tc:=bz) p1 rfl rfl hy120 (aQ SP 1 rfl ?_));obtain⟨r121,hr121,hF⟩:=bB' hF
   exact aW SP rfl (cJ (aoq _ _ _ hr121) ⟨⟨rfl,rfl,rfl,rfl,rfl,rfl,rfl,trivial⟩,⟨rfl,rfl,rfl,rfl,rfl,rfl,rfl,trivial⟩,trivial⟩ rfl (.inl rfl) (QP rfl (join r121 _ _ hF sw)))
  have hF:=bT' h119 hF;exact QP rfl (join true _ _ hF sw)
 exact dK (aq (aq (bj (brk_0 _ _ _ (oi hF) sw))))
def BZ(p0:Int)(p1:Int):Option Bool :=
  (((bif (decide (p0<0))then some true else some (decide (p1<p0))):Option Bool).bind fun v1=>some v1)
theorem Cj(p0:Int)(p1:Int)(r:Bool)(hF:BZ p0 p1=some r):Fun Tryz.prog 181 true [] [cI p0,cI p1] noHeap (cB r) noHeap:=by
 refine fW Tryz.func181 ?_
 unfold BZ at hF
 refine wA rfl (az (cW (fun _ _ h=>h) hF (fun v1=>[(4,cB v1)]) (fun v1=>[]) ?_ ?_))
 ·rintro v1 hF
  cases hF
  exact bQ wR
 intro join hF
 refine wD 3 rfl ?_;cases h2:(decide (p0<0))
 ·have hF:=bF' h2 hF;exact QV rfl (join (decide (p1<p0)) _ _ hF sw)
 have hF:=bT' h2 hF;exact QV rfl (join true _ _ hF sw)
def F9(p0:(List d3)):Int→Option (Int ⊕ (Unit ⊕ Int)):=fun a48 =>
  (bif (decide (a48<(List.length p0:Int)))then((idx p0 a48).bind fun y71=>((BZ y71.w5 1000000000000000).bind fun r72=>(((bif r72 then some r72 else((BZ y71.q0.q6 1000000000000000).bind fun r80=>(bif r80 then some r80 else((BZ y71.q0.w6 1000000000000000).bind fun r81=>(bif r81 then some r81 else((BZ y71.q9.q6 1000000000000000).bind fun r82=>(bif r82 then some r82 else((BZ y71.q9.w6 1000000000000000).bind fun r83=>(bif r83 then some r83 else((BZ y71.w7 1000000000000).bind fun r84=>(bif r84 then some r84 else((BZ y71.w4 1000000000000).bind fun r85=>some r85)))))))))))):Option Bool).bind fun v73=>(bif v73 then some (.inr (.inr 2))else(((bif (decide (y71.w4<y71.w7))then some (decide (y71.w4<y71.w7))else(bif (decide (0<a48))then((idx p0 (w64 (a48-1))).bind fun y77=>some (decide (y71.w4<y77.w4)))else some false)):Option Bool).bind fun v74=>(bif v74 then some (.inr (.inr 11))else some (.inl (w64 (a48+1)))))))))else some (.inr (.inl ())))
def G7(p0:(List d3)):Option Int :=
  ((loop (F9 p0) 0).bind fun | .inl _=>some 0 | .inr rv=>some rv)
theorem aix(p0:(List d3))(r:Int)(hF:G7 p0=some r):Fun Tryz.prog 114 true [] [cL 7 cz p0] noHeap (cI r) noHeap:=by
 refine fW Tryz.func114 ?_
 unfold G7 at hF
 refine wA rfl (az (wC 1 rfl (rS (d0 (tc:=cz) p0 .tree (QV rfl (eZ (fun _ _ h=>h) hF (.inl) (fun a48=>[(0,cL 7 cz p0),(5,cL 7 cz p0),(6,cI (List.length p0:Int)),(7,cI a48)]) (fun a48=>[]) (fun _=>[]) (fun _=>[]) sw ?_ ?_))))))
 ·rintro⟨⟩ hF
  refine wA rfl ?_;cases hF
  exact bQ wR
 rintro a48 x_0 hF cont_0 brk_0 fin_0
 unfold F9 at hF
 refine wA rfl (az (wIf hF rfl (fun _ hF=>?_) fun _ hF=>?_))
 ·refine aJ (az (c7 (wC 1 rfl ?_)));obtain⟨y71,hy71,hF⟩:=bB hF
  refine rS (dz (tc:=cz) p0 rfl rfl hy71 (QV rfl (c7 (az (wC 2 rfl ?_)))));obtain⟨r72,hr72,hF⟩:=bB hF
  refine rS (cJ (Cj _ _ _ hr72) ⟨rfl,rfl,trivial⟩ rfl (.inl rfl) (QV rfl (cW (fun _ _ h=>h) hF (fun v73=>[(0,cL 7 cz p0),(3,cI a48),(4,cP (4,0) 0),(5,cL 7 cz p0),(6,cI (List.length p0:Int)),(7,cI a48),(12,cB v73)]) (fun v73=>[((4,0),.box (G8 y71))]) ?_ ?_)))
  ·rintro v73 hF
   refine wIf hF rfl (fun _ hF=>?_) fun _ hF=>?_
   ·refine wA rfl ?_;have hF:=fin_0 _ (oi hF);cases hF
    exact bQ wR
   refine az (wA rfl (cW (fun _ _ h=>h) hF (fun v74=>[(0,cL 7 cz p0),(5,cL 7 cz p0),(6,cI (List.length p0:Int)),(7,cI a48),(38,cB v74)]) (fun v74=>[]) ?_ ?_))
   ·rintro v74 hF
    refine wIf hF rfl (fun _ hF=>?_) fun _ hF=>?_
    ·refine wA rfl ?_;have hF:=fin_0 _ (oi hF);cases hF
     exact bQ wR
    exact aJ (wB rfl (cont_0 _ _ _ (oi hF) sw))
   intro join hF
   refine wX hF rfl (fun _ hF=>?_) fun _ hF=>?_
   ·exact aJ (join (decide (y71.w4<y71.w7)) _ _ hF sw)
   refine f7 (by decide) (by kernel_rfl) rfl (aQ SP 3 rfl ?_);cases h76:(decide (0<a48))
   ·have hF:=bF' h76 hF;exact QP rfl (join false _ _ hF sw)
   have hF:=bT' h76 hF;refine aQ SP 5 rfl ?_;obtain⟨y77,hy77,hF⟩:=bB' hF
   exact aW SP rfl (dz (tc:=cz) p0 rfl rfl hy77 (QP rfl (join (decide (y71.w4<y77.w4)) _ _ hF sw)))
  intro join hF
  refine wX hF rfl (fun _ hF=>?_) fun _ hF=>?_
  ·exact aJ (join r72 _ _ hF sw)
  refine wC 3 rfl ?_;obtain⟨r80,hr80,hF⟩:=bB' hF
  refine rS (cJ (Cj _ _ _ hr80) ⟨rfl,rfl,trivial⟩ rfl (.inl rfl) (QV rfl (wX hF rfl (fun _ hF=>?_) fun _ hF=>?_)))
  ·exact aJ (join r80 _ _ hF sw)
  refine wC 3 rfl ?_;obtain⟨r81,hr81,hF⟩:=bB' hF
  refine rS (cJ (Cj _ _ _ hr81) ⟨rfl,rfl,trivial⟩ rfl (.inl rfl) (QV rfl (wX hF rfl (fun _ hF=>?_) fun _ hF=>?_)))
  ·exact aJ (join r81 _ _ hF sw)
  refine wC 3 rfl ?_;obtain⟨r82,hr82,hF⟩:=bB' hF
  refine rS (cJ (Cj _ _ _ hr82) ⟨rfl,rfl,trivial⟩ rfl (.inl rfl) (QV rfl (wX hF rfl (fun _ hF=>?_) fun _ hF=>?_)))
  ·exact aJ (join r82 _ _ hF sw)
  refine wC 3 rfl ?_;obtain⟨r83,hr83,hF⟩:=bB' hF
  refine rS (cJ (Cj _ _ _ hr83) ⟨rfl,rfl,trivial⟩ rfl (.inl rfl) (QV rfl (wX hF rfl (fun _ hF=>?_) fun _ hF=>?_)))
  ·exact aJ (join r83 _ _ hF sw)
  refine wC 2 rfl ?_;obtain⟨r84,hr84,hF⟩:=bB' hF
  refine rS (cJ (Cj _ _ _ hr84) ⟨rfl,rfl,trivial⟩ rfl (.inl rfl) (QV rfl (wX hF rfl (fun _ hF=>?_) fun _ hF=>?_)))
  ·exact aJ (join r84 _ _ hF sw)
  refine wD 2 rfl ?_;obtain⟨r85,hr85,hF⟩:=bB' hF
  exact rS (cJ (Cj _ _ _ hr85) ⟨rfl,rfl,trivial⟩ rfl (.inl rfl) (QV rfl (join r85 _ _ hF sw)))
 exact dK (aq (aq (bj (brk_0 _ _ _ (oi hF) sw))))
def E8(p0:d3):Option Int :=
  some p0.q0.q6
theorem WK(p0:d3)(r:Int)(hF:E8 p0=some r):Fun Tryz.prog 115 true [] [.agg (G8 p0)] noHeap (cI r) noHeap:=by
 refine fW Tryz.func115 ?_
 unfold E8 at hF
 refine wA rfl (wA rfl ?_);cases hF
 exact bQ wR
def n9(p1:(List (Int×ByteArray)))(p2:(List d3)):Int→Option (Int ⊕ (Unit ⊕ Int)):=fun a12 =>
  (bif (decide (a12<(List.length p2:Int)))then((idx p2 a12).bind fun y17=>((E8 y17).bind fun r18=>(bif (!(Option.isSome (xZ r18 p1)))then some (.inr (.inr 5))else some (.inl (w64 (a12+1))))))else some (.inr (.inl ())))
def kY(p0:Int)(p1:(List (Int×ByteArray)))(p2:(List d3)):Option Int :=
  (bif (!decide (p0=0))then some p0 else((loop (n9 p1 p2) 0).bind fun | .inl _=>some 0 | .inr rv=>some rv))
theorem Kj(p0:Int)(p1:(List (Int×ByteArray)))(p2:(List d3))(r:Int)(hF:kY p0 p1 p2=some r):Fun Tryz.prog 113 false [(5520,0)] [cI p0,cM (5520,0),cL 7 cz p2,.c (.fn 115 [])] (aV [((5520,0),sW (.int .i64) kvI vvS p1)]) (cI r) (aV [((5520,0),sW (.int .i64) kvI vvS p1)]):=by
 refine fM [(5520,0)] (some [(5520,0)]) Tryz.func113 ?_
 unfold kY at hF
 refine wA rfl (az (wA rfl (wIf hF rfl (fun _ hF=>?_) fun _ hF=>?_)))
 ·refine wA rfl ?_;cases hF
  exact bQ ⟨_,_,fq,_,rfl,rfl,⟨rfl,fun _=>rfl⟩,(AgM.weak ⟨rfl,trivial⟩)⟩
 refine aJ (az (wC 1 rfl (rS (d0 (tc:=cz) p2 .tree (QV rfl (eZ (fun _ _ h=>h) hF (.inl) (fun a12=>[(1,cM (5520,0)),(3,.c (.fn 115 [])),(16,cL 7 cz p2),(17,cI (List.length p2:Int)),(18,cI a12)]) (fun a12=>[((5520,0),sW (.int .i64) kvI vvS p1)]) (fun _=>[]) (fun _=>[((5520,0),sW (.int .i64) kvI vvS p1)]) sw ?_ ?_))))))
 ·rintro⟨⟩ hF
  refine wA rfl ?_;cases hF
  exact bQ ⟨_,_,fq,_,rfl,rfl,⟨rfl,fun _=>rfl⟩,(AgM.weak ⟨rfl,trivial⟩)⟩
 rintro a12 x_0 hF cont_0 brk_0 fin_0
 unfold n9 at hF
 refine wA rfl (az (wIf hF rfl (fun _ hF=>?_) fun _ hF=>?_))
 ·refine aJ (az (c7 (wE ?_)));obtain⟨y17,hy17,hF⟩:=bB hF
  refine rS (dz (tc:=cz) p2 rfl rfl hy17 (QV rfl (wC 3 rfl ?_)));obtain⟨r18,hr18,hF⟩:=bB hF
  refine jj trivial (IX (I8 _ rfl baj) (WK _ _ hr18) ⟨⟨rfl,rfl,rfl,rfl,rfl,rfl,rfl,trivial⟩,trivial⟩ rfl (.inl rfl) (rS (MQ (anj .i64) (vv:=vvS) p1 r18 (⟨#[]⟩ : ByteArray) (.own _ rfl) rfl rfl (QV rfl (wA rfl (wIf hF rfl (fun _ hF=>?_) fun _ hF=>?_))))))
  ·refine wA rfl ?_;have hF:=fin_0 _ (oi hF);cases hF
   exact bQ ⟨_,_,fq,_,rfl,rfl,⟨rfl,fun _=>rfl⟩,(AgM.weak ⟨rfl,trivial⟩)⟩
  exact aJ (wB rfl (cont_0 _ _ _ (oi hF) sw))
 exact dK (aq (aq (bj (brk_0 _ _ _ (oi hF) sw))))
def E2(p0:d3):Option Int :=
  some p0.q9.q6
theorem V2(p0:d3)(r:Int)(hF:E2 p0=some r):Fun Tryz.prog 116 true [] [.agg (G8 p0)] noHeap (cI r) noHeap:=by
 refine fW Tryz.func116 ?_
 unfold E2 at hF
 refine wA rfl (wA rfl ?_);cases hF
 exact bQ wR
def nJ(p1:(List (Int×ByteArray)))(p2:(List d3)):Int→Option (Int ⊕ (Unit ⊕ Int)):=fun a12 =>
  (bif (decide (a12<(List.length p2:Int)))then((idx p2 a12).bind fun y17=>((E2 y17).bind fun r18=>(bif (!(Option.isSome (xZ r18 p1)))then some (.inr (.inr 5))else some (.inl (w64 (a12+1))))))else some (.inr (.inl ())))
def kK(p0:Int)(p1:(List (Int×ByteArray)))(p2:(List d3)):Option Int :=
  (bif (!decide (p0=0))then some p0 else((loop (nJ p1 p2) 0).bind fun | .inl _=>some 0 | .inr rv=>some rv))
theorem J8(p0:Int)(p1:(List (Int×ByteArray)))(p2:(List d3))(r:Int)(hF:kK p0 p1 p2=some r):Fun Tryz.prog 113 false [(5520,0)] [cI p0,cM (5520,0),cL 7 cz p2,.c (.fn 116 [])] (aV [((5520,0),sW (.int .i64) kvI vvS p1)]) (cI r) (aV [((5520,0),sW (.int .i64) kvI vvS p1)]):=by
 refine fM [(5520,0)] (some [(5520,0)]) Tryz.func113 ?_
 unfold kK at hF
 refine wA rfl (az (wA rfl (wIf hF rfl (fun _ hF=>?_) fun _ hF=>?_)))
 ·refine wA rfl ?_;cases hF
  exact bQ ⟨_,_,fq,_,rfl,rfl,⟨rfl,fun _=>rfl⟩,(AgM.weak ⟨rfl,trivial⟩)⟩
 refine aJ (az (wC 1 rfl (rS (d0 (tc:=cz) p2 .tree (QV rfl (eZ (fun _ _ h=>h) hF (.inl) (fun a12=>[(1,cM (5520,0)),(3,.c (.fn 116 [])),(16,cL 7 cz p2),(17,cI (List.length p2:Int)),(18,cI a12)]) (fun a12=>[((5520,0),sW (.int .i64) kvI vvS p1)]) (fun _=>[]) (fun _=>[((5520,0),sW (.int .i64) kvI vvS p1)]) sw ?_ ?_))))))
 ·rintro⟨⟩ hF
  refine wA rfl ?_;cases hF
  exact bQ ⟨_,_,fq,_,rfl,rfl,⟨rfl,fun _=>rfl⟩,(AgM.weak ⟨rfl,trivial⟩)⟩
 rintro a12 x_0 hF cont_0 brk_0 fin_0
 unfold nJ at hF
 refine wA rfl (az (wIf hF rfl (fun _ hF=>?_) fun _ hF=>?_))
 ·refine aJ (az (c7 (wE ?_)));obtain⟨y17,hy17,hF⟩:=bB hF
  refine rS (dz (tc:=cz) p2 rfl rfl hy17 (QV rfl (wC 3 rfl ?_)));obtain⟨r18,hr18,hF⟩:=bB hF
  refine jj trivial (IX (I8 _ rfl baW) (V2 _ _ hr18) ⟨⟨rfl,rfl,rfl,rfl,rfl,rfl,rfl,trivial⟩,trivial⟩ rfl (.inl rfl) (rS (MQ (anj .i64) (vv:=vvS) p1 r18 (⟨#[]⟩ : ByteArray) (.own _ rfl) rfl rfl (QV rfl (wA rfl (wIf hF rfl (fun _ hF=>?_) fun _ hF=>?_))))))
  ·refine wA rfl ?_;have hF:=fin_0 _ (oi hF);cases hF
   exact bQ ⟨_,_,fq,_,rfl,rfl,⟨rfl,fun _=>rfl⟩,(AgM.weak ⟨rfl,trivial⟩)⟩
  exact aJ (wB rfl (cont_0 _ _ _ (oi hF) sw))
 exact dK (aq (aq (bj (brk_0 _ _ _ (oi hF) sw))))
def Jx(p0:cY):Option Bool :=
  (((bif (decide (0≤p0.q6))then(bif (decide (p0.q6≤1000000000000000))then(bif (decide (0≤p0.j8))then(bif (decide (p0.j8≤1000000000000))then(bif (decide (1≤p0.j5))then some (decide (p0.j5≤1000000000000))else some false)else some false)else some false)else some false)else some false):Option Bool).bind fun v1=>some v1)
theorem adY(p0:cY)(r:Bool)(hF:Jx p0=some r):Fun Tryz.prog 182 true [] [.agg (zZ p0)] noHeap (cB r) noHeap:=by
 refine fW Tryz.func182 ?_
 unfold Jx at hF
 refine wA rfl (az (cW (fun _ _ h=>h) hF (fun v1=>[(2,cB v1)]) (fun v1=>[]) ?_ ?_))
 ·rintro v1 hF
  cases hF
  exact bQ wR
 intro join hF
 refine wD 4 rfl ?_;cases h2:(decide (0≤p0.q6))
 ·have hF:=bF' h2 hF;exact QV rfl (join false _ _ hF sw)
 have hF:=bT' h2 hF;refine aQ SV 5 rfl ?_;cases h3:(decide (p0.q6≤1000000000000000))
 ·have hF:=bF' h3 hF;exact QV rfl (join false _ _ hF sw)
 have hF:=bT' h3 hF;refine aQ SV 5 rfl ?_;cases h4:(decide (0≤p0.j8))
 ·have hF:=bF' h4 hF;exact QV rfl (join false _ _ hF sw)
 have hF:=bT' h4 hF;refine aQ SV 5 rfl ?_;cases h5:(decide (p0.j8≤1000000000000))
 ·have hF:=bF' h5 hF;exact QV rfl (join false _ _ hF sw)
 have hF:=bT' h5 hF;refine aQ SV 5 rfl ?_;cases h6:(decide (1≤p0.j5))
 ·have hF:=bF' h6 hF;exact QV rfl (join false _ _ hF sw)
 have hF:=bT' h6 hF;exact QV rfl (join (decide (p0.j5≤1000000000000)) _ _ hF sw)
def BY(p0:(List ByteArray)):Int→Option (Int ⊕ (Unit ⊕ Int)):=fun a12 =>
  (bif (decide (a12<(List.length p0:Int)))then((idx p0 a12).bind fun y17=>((qW y17).bind fun r18=>(bif (!decide (r18=0))then some (.inr (.inr r18))else some (.inl (w64 (a12+1))))))else some (.inr (.inl ())))
def xj(p0:(List ByteArray)):Option Int :=
  (bif (decide (32<(List.length p0:Int)))then some 7 else((loop (BY p0) 0).bind fun | .inl _=>some 0 | .inr rv=>some rv))
theorem NJ(p0:(List ByteArray))(r:Int)(hF:xj p0=some r):Fun Tryz.prog 183 true [] [cL 1 u7 p0] noHeap (cI r) noHeap:=by
 refine fW Tryz.func183 ?_
 unfold xj at hF
 refine wA rfl (az (wC 1 rfl (rS (d0 (tc:=u7) p0 .tree (QV rfl (wIf hF rfl (fun _ hF=>?_) fun _ hF=>?_))))))
 ·refine wA rfl ?_;cases hF
  exact bQ wR
 refine aJ (az (wC 1 rfl (rS (d0 (tc:=u7) p0 .tree (QV rfl (eZ (fun _ _ h=>h) hF (.inl) (fun a12=>[(9,cL 1 u7 p0),(10,cI (List.length p0:Int)),(11,cI a12)]) (fun a12=>[]) (fun _=>[]) (fun _=>[]) sw ?_ ?_))))))
 ·rintro⟨⟩ hF
  refine wA rfl ?_;cases hF
  exact bQ wR
 rintro a12 x_0 hF cont_0 brk_0 fin_0
 unfold BY at hF
 refine wA rfl (az (wIf hF rfl (fun _ hF=>?_) fun _ hF=>?_))
 ·refine aJ (az (c7 (wE ?_)));obtain⟨y17,hy17,hF⟩:=bB hF
  refine rS (dz (tc:=u7) p0 rfl rfl hy17 (QV rfl (wC 1 rfl ?_)));obtain⟨r18,hr18,hF⟩:=bB hF
  refine rS (cJ (Gj _ _ hr18) ⟨rfl,trivial⟩ rfl (.inl rfl) (QV rfl (wA rfl (wIf hF rfl (fun _ hF=>?_) fun _ hF=>?_))))
  ·refine wA rfl ?_;have hF:=fin_0 _ (oi hF);cases hF
   exact bQ wR
  exact aJ (wB rfl (cont_0 _ _ _ (oi hF) sw))
 exact dK (aq (aq (bj (brk_0 _ _ _ (oi hF) sw))))
def C6(p0:(List cY)):Int→Option (Int ⊕ (Unit ⊕ Int)):=fun a24 =>
  (bif (decide (a24<(List.length p0:Int)))then((idx p0 a24).bind fun y35=>((Jx y35).bind fun r36=>(bif (!r36)then some (.inr (.inr 2))else((xj y35.z7).bind fun r37=>(bif (!decide (r37=0))then some (.inr (.inr r37))else(((bif (decide (0<a24))then((idx p0 (w64 (a24-1))).bind fun y41=>some (decide (y35.j8<y41.j8)))else some false):Option Bool).bind fun v38=>(bif v38 then some (.inr (.inr 11))else some (.inl (w64 (a24+1))))))))))else some (.inr (.inl ())))
def CY(p0:(List cY)):Option Int :=
  ((loop (C6 p0) 0).bind fun | .inl _=>some 0 | .inr rv=>some rv)
theorem ZW(p0:(List cY))(r:Int)(hF:CY p0=some r):Fun Tryz.prog 118 true [] [cL 4 b9 p0] noHeap (cI r) noHeap:=by
 refine fW Tryz.func118 ?_
 unfold CY at hF
 refine wA rfl (az (wC 1 rfl (rS (d0 (tc:=b9) p0 .tree (QV rfl (eZ (fun _ _ h=>h) hF (.inl) (fun a24=>[(0,cL 4 b9 p0),(6,cL 4 b9 p0),(7,cI (List.length p0:Int)),(8,cI a24)]) (fun a24=>[]) (fun _=>[]) (fun _=>[]) sw ?_ ?_))))))
 ·rintro⟨⟩ hF
  refine wA rfl ?_;cases hF
  exact bQ wR
 rintro a24 x_0 hF cont_0 brk_0 fin_0
 unfold C6 at hF
 refine wA rfl (az (wIf hF rfl (fun _ hF=>?_) fun _ hF=>?_))
 ·refine aJ (az (c7 (wC 1 rfl ?_)));obtain⟨y35,hy35,hF⟩:=bB hF
  refine rS (dz (tc:=b9) p0 rfl rfl hy35 (QV rfl (az (wC 1 rfl ?_))));obtain⟨r36,hr36,hF⟩:=bB hF
  refine rS (cJ (adY _ _ hr36) ⟨⟨rfl,rfl,rfl,rfl,trivial⟩,trivial⟩ rfl (.inl rfl) (QV rfl (wIf hF rfl (fun _ hF=>?_) fun _ hF=>?_)))
  ·refine wA rfl ?_;have hF:=fin_0 _ (oi hF);cases hF
   exact bQ wR
  refine aJ (az (wC 2 rfl ?_));obtain⟨r37,hr37,hF⟩:=bB hF
  refine rS (cJ (NJ _ _ hr37) ⟨rfl,trivial⟩ rfl (.inl rfl) (QV rfl (wA rfl (wIf hF rfl (fun _ hF=>?_) fun _ hF=>?_))))
  ·refine wA rfl ?_;have hF:=fin_0 _ (oi hF);cases hF
   exact bQ wR
  refine aJ (az (cW (fun _ _ h=>h) hF (fun v38=>[(0,cL 4 b9 p0),(6,cL 4 b9 p0),(7,cI (List.length p0:Int)),(8,cI a24),(34,cB v38)]) (fun v38=>[]) ?_ ?_))
  ·rintro v38 hF
   refine wIf hF rfl (fun _ hF=>?_) fun _ hF=>?_
   ·refine wA rfl ?_;have hF:=fin_0 _ (oi hF);cases hF
    exact bQ wR
   exact aJ (wB rfl (cont_0 _ _ _ (oi hF) sw))
  intro join hF
  refine f7 (by decide) (by kernel_rfl) rfl (aQ SP 3 rfl ?_);cases h40:(decide (0<a24))
  ·have hF:=bF' h40 hF;exact QP rfl (join false _ _ hF sw)
  have hF:=bT' h40 hF;refine aQ SP 5 rfl ?_;obtain⟨y41,hy41,hF⟩:=bB' hF
  exact aW SP rfl (dz (tc:=b9) p0 rfl rfl hy41 (QP rfl (join (decide (y35.j8<y41.j8)) _ _ hF sw)))
 exact dK (aq (aq (bj (brk_0 _ _ _ (oi hF) sw))))
def E4(p0:cY):Option Int :=
  some p0.q6
theorem V5(p0:cY)(r:Int)(hF:E4 p0=some r):Fun Tryz.prog 119 true [] [.agg (zZ p0)] noHeap (cI r) noHeap:=by
 refine fW Tryz.func119 ?_
 unfold E4 at hF
 refine wA rfl (wA rfl ?_);cases hF
 exact bQ wR
def l8(p1:(List (Int×ByteArray)))(p2:(List cY)):Int→Option (Int ⊕ (Unit ⊕ Int)):=fun a12 =>
  (bif (decide (a12<(List.length p2:Int)))then((idx p2 a12).bind fun y17=>((E4 y17).bind fun r18=>(bif (!(Option.isSome (xZ r18 p1)))then some (.inr (.inr 5))else some (.inl (w64 (a12+1))))))else some (.inr (.inl ())))
def jW(p0:Int)(p1:(List (Int×ByteArray)))(p2:(List cY)):Option Int :=
  (bif (!decide (p0=0))then some p0 else((loop (l8 p1 p2) 0).bind fun | .inl _=>some 0 | .inr rv=>some rv))
theorem Jq(p0:Int)(p1:(List (Int×ByteArray)))(p2:(List cY))(r:Int)(hF:jW p0 p1 p2=some r):Fun Tryz.prog 117 false [(5680,0)] [cI p0,cM (5680,0),cL 4 b9 p2,.c (.fn 119 [])] (aV [((5680,0),sW (.int .i64) kvI vvS p1)]) (cI r) (aV [((5680,0),sW (.int .i64) kvI vvS p1)]):=by
 refine fM [(5680,0)] (some [(5680,0)]) Tryz.func117 ?_
 unfold jW at hF
 refine wA rfl (az (wA rfl (wIf hF rfl (fun _ hF=>?_) fun _ hF=>?_)))
 ·refine wA rfl ?_;cases hF
  exact bQ ⟨_,_,fq,_,rfl,rfl,⟨rfl,fun _=>rfl⟩,(AgM.weak ⟨rfl,trivial⟩)⟩
 refine aJ (az (wC 1 rfl (rS (d0 (tc:=b9) p2 .tree (QV rfl (eZ (fun _ _ h=>h) hF (.inl) (fun a12=>[(1,cM (5680,0)),(3,.c (.fn 119 [])),(16,cL 4 b9 p2),(17,cI (List.length p2:Int)),(18,cI a12)]) (fun a12=>[((5680,0),sW (.int .i64) kvI vvS p1)]) (fun _=>[]) (fun _=>[((5680,0),sW (.int .i64) kvI vvS p1)]) sw ?_ ?_))))))
 ·rintro⟨⟩ hF
  refine wA rfl ?_;cases hF
  exact bQ ⟨_,_,fq,_,rfl,rfl,⟨rfl,fun _=>rfl⟩,(AgM.weak ⟨rfl,trivial⟩)⟩
 rintro a12 x_0 hF cont_0 brk_0 fin_0
 unfold l8 at hF
 refine wA rfl (az (wIf hF rfl (fun _ hF=>?_) fun _ hF=>?_))
 ·refine aJ (az (c7 (wE ?_)));obtain⟨y17,hy17,hF⟩:=bB hF
  refine rS (dz (tc:=b9) p2 rfl rfl hy17 (QV rfl (wC 3 rfl ?_)));obtain⟨r18,hr18,hF⟩:=bB hF
  refine jj trivial (IX (I8 _ rfl a6Y) (V5 _ _ hr18) ⟨⟨rfl,rfl,rfl,rfl,trivial⟩,trivial⟩ rfl (.inl rfl) (rS (MQ (anj .i64) (vv:=vvS) p1 r18 (⟨#[]⟩ : ByteArray) (.own _ rfl) rfl rfl (QV rfl (wA rfl (wIf hF rfl (fun _ hF=>?_) fun _ hF=>?_))))))
  ·refine wA rfl ?_;have hF:=fin_0 _ (oi hF);cases hF
   exact bQ ⟨_,_,fq,_,rfl,rfl,⟨rfl,fun _=>rfl⟩,(AgM.weak ⟨rfl,trivial⟩)⟩
  exact aJ (wB rfl (cont_0 _ _ _ (oi hF) sw))
 exact dK (aq (aq (bj (brk_0 _ _ _ (oi hF) sw))))
def VW(p0:Int):Option Bool :=
  (((bif (decide ((-1000000000000000)≤p0))then some (decide (p0≤1000000000000000))else some false):Option Bool).bind fun v1=>some v1)
theorem aMZ(p0:Int)(r:Bool)(hF:VW p0=some r):Fun Tryz.prog 184 true [] [cI p0] noHeap (cB r) noHeap:=by
 refine fW Tryz.func184 ?_
 unfold VW at hF
 refine wA rfl (az (cW (fun _ _ h=>h) hF (fun v1=>[(2,cB v1)]) (fun v1=>[]) ?_ ?_))
 ·rintro v1 hF
  cases hF
  exact bQ wR
 intro join hF
 refine wD 3 rfl ?_;cases h2:(decide ((-1000000000000000)≤p0))
 ·have hF:=bF' h2 hF;exact QV rfl (join false _ _ hF sw)
 have hF:=bT' h2 hF;exact QV rfl (join (decide (p0≤1000000000000000)) _ _ hF sw)
def xJ(p0:ByteArray):Option Bool :=
  some (!decide (p0=p0))
theorem I9(p0:ByteArray)(r:Bool)(hF:xJ p0=some r):Fun Tryz.prog 209 true [] [.c (jS p0)] noHeap (cB r) noHeap:=by
 refine fW Tryz.func209 ?_
 unfold xJ at hF
 refine wA rfl (wA rfl ?_);cases hF
 exact bQ wR
def p5(p0:ByteArray)(p1:ByteArray):Option Int :=
  ((xJ p0).bind fun r1=>((xJ p1).bind fun r2=>(bif r1 then(bif r2 then some 0 else some (-1))else(bif r2 then some 1 else(bif (sLt p0 p1)then some (-1)else(bif (!(sLt p0 p1||decide (p0=p1)))then some 1 else some 0))))))
theorem Qq(p0:ByteArray)(p1:ByteArray)(r:Int)(hF:p5 p0 p1=some r):Fun Tryz.prog 156 true [] [.c (jS p0),.c (jS p1)] noHeap (cI r) noHeap:=by
 refine fW Tryz.func156 ?_
 unfold p5 at hF
 refine wA rfl (wC 1 rfl ?_);obtain⟨r1,hr1,hF⟩:=bB hF
 refine rS (cJ (I9 _ _ hr1) ⟨rfl,trivial⟩ rfl (.inl rfl) (QV rfl (wC 1 rfl ?_)));obtain⟨r2,hr2,hF⟩:=bB hF
 refine rS (cJ (I9 _ _ hr2) ⟨rfl,trivial⟩ rfl (.inl rfl) (QV rfl (az (wA rfl (wIf hF rfl (fun _ hF=>?_) fun _ hF=>?_)))))
 ·refine az (wA rfl (wIf hF rfl (fun _ hF=>?_) fun _ hF=>?_))
  ·refine wA rfl ?_;cases hF
   exact bQ wR
  refine aJ (wA rfl ?_);cases hF
  exact bQ wR
 refine aJ (az (wA rfl (wIf hF rfl (fun _ hF=>?_) fun _ hF=>?_)))
 ·refine wA rfl ?_;cases hF
  exact bQ wR
 refine aJ (az (wA rfl (wIf hF rfl (fun _ hF=>?_) fun _ hF=>?_)))
 ·refine wA rfl ?_;cases hF
  exact bQ wR
 refine aJ (az (wA rfl (wIf hF rfl (fun _ hF=>?_) fun _ hF=>?_)))
 ·refine wA rfl ?_;cases hF
  exact bQ wR
 refine aJ (wA rfl ?_);cases hF
 exact bQ wR
def uZ(p0:cV)(p1:cV):Option Int :=
  ((p5 p0.q8 p1.q8).bind fun r1=>((kq p0.j8 p1.j8).bind fun r2=>((CJ [r1,r2]).bind fun r3=>some r3)))
theorem YQ(p0:cV)(p1:cV)(r:Int)(hF:uZ p0 p1=some r):Fun Tryz.prog 87 true [] [.agg (E0 p0),.agg (E0 p1)] noHeap (cI r) noHeap:=by
 refine fW Tryz.func87 ?_
 unfold uZ at hF
 refine wA rfl (az (f7 (by decide) (by kernel_rfl) rfl (aQ SP 4 rfl ?_)));obtain⟨r1,hr1,hF⟩:=bB hF
 refine aW SP trivial (cJ (Qq _ _ _ hr1) ⟨rfl,rfl,trivial⟩ rfl (.inl rfl) (aQ SP 4 rfl ?_));obtain⟨r2,hr2,hF⟩:=bB hF
 refine aW SP trivial (cJ (o4 _ _ _ hr2) ⟨rfl,rfl,trivial⟩ rfl (.inl rfl) ?_);refine aW SP trivial (E5 (tc:=A9) [r1,r2] rfl ⟨rfl,rfl,trivial⟩ rfl (fun _=>rfl) rfl ?_)
 obtain⟨r3,hr3,hF⟩:=bB hF
 refine aW SP trivial (cJ (LK _ _ hr3) ⟨⟨_,rfl⟩,trivial⟩ rfl (.inl rfl) (QP rfl ?_));cases hF
 exact bQ wR
def xQ(p0:(List cV)):Int→Option (Int ⊕ (Unit ⊕ Int)):=fun a40 =>
  (bif (decide (a40<(List.length p0:Int)))then((idx p0 a40).bind fun y59=>((qW y59.q8).bind fun r60=>(bif (!decide (r60=0))then some (.inr (.inr r60))else(((bif (decide (y59.j8<0))then some true else(bif (decide (1000000000000<y59.j8))then some true else((VW y59.j2).bind fun r74=>some (!r74)))):Option Bool).bind fun v61=>(bif v61 then some (.inr (.inr 2))else(((bif (decide (0<a40))then((idx p0 (w64 (a40-1))).bind fun y65=>((uZ y65 y59).bind fun r66=>(bif (decide (0≤r66))then some true else((idx p0 (w64 (a40-1))).bind fun y68=>(bif (decide (y68.q8=y59.q8))then((idx p0 (w64 (a40-1))).bind fun y70=>some (decide (y70.j2=y59.j2)))else some false)))))else some false):Option Bool).bind fun v62=>(bif v62 then some (.inr (.inr 11))else some (.inl (w64 (a40+1))))))))))else some (.inr (.inl ())))
def rz(p0:(List cV)):Option Int :=
  ((loop (xQ p0) 0).bind fun | .inl _=>some 0 | .inr rv=>some rv)
theorem X0(p0:(List cV))(r:Int)(hF:rz p0=some r):Fun Tryz.prog 120 true [] [cL 3 bX p0] noHeap (cI r) noHeap:=by
 refine fW Tryz.func120 ?_
 unfold rz at hF
 refine wA rfl (az (wC 1 rfl (rS (d0 (tc:=bX) p0 .tree (QV rfl (eZ (fun _ _ h=>h) hF (.inl) (fun a40=>[(0,cL 3 bX p0),(6,cL 3 bX p0),(7,cI (List.length p0:Int)),(8,cI a40)]) (fun a40=>[]) (fun _=>[]) (fun _=>[]) sw ?_ ?_))))))
 ·rintro⟨⟩ hF
  refine wA rfl ?_;cases hF
  exact bQ wR
 rintro a40 x_0 hF cont_0 brk_0 fin_0
 unfold xQ at hF
 refine wA rfl (az (wIf hF rfl (fun _ hF=>?_) fun _ hF=>?_))
 ·refine aJ (az (c7 (wC 1 rfl ?_)));obtain⟨y59,hy59,hF⟩:=bB hF
  refine rS (dz (tc:=bX) p0 rfl rfl hy59 (QV rfl (az (wC 2 rfl ?_))));obtain⟨r60,hr60,hF⟩:=bB hF
  refine rS (cJ (Gj _ _ hr60) ⟨rfl,trivial⟩ rfl (.inl rfl) (QV rfl (wA rfl (wIf hF rfl (fun _ hF=>?_) fun _ hF=>?_))))
  ·refine wA rfl ?_;have hF:=fin_0 _ (oi hF);cases hF
   exact bQ wR
  refine aJ (az (az (cW (fun _ _ h=>h) hF (fun v61=>[(0,cL 3 bX p0),(3,cI a40),(4,cP (4,0) 0),(6,cL 3 bX p0),(7,cI (List.length p0:Int)),(8,cI a40),(32,cB v61)]) (fun v61=>[((4,0),.box (E0 y59))]) ?_ ?_)))
  ·rintro v61 hF
   refine wIf hF rfl (fun _ hF=>?_) fun _ hF=>?_
   ·refine wA rfl ?_;have hF:=fin_0 _ (oi hF);cases hF
    exact bQ wR
   refine aJ (az (cW (fun _ _ h=>h) hF (fun v62=>[(0,cL 3 bX p0),(6,cL 3 bX p0),(7,cI (List.length p0:Int)),(8,cI a40),(66,cB v62)]) (fun v62=>[]) ?_ ?_))
   ·rintro v62 hF
    refine wIf hF rfl (fun _ hF=>?_) fun _ hF=>?_
    ·refine wA rfl ?_;have hF:=fin_0 _ (oi hF);cases hF
     exact bQ wR
    exact aJ (wB rfl (cont_0 _ _ _ (oi hF) sw))
   intro join hF
   refine f7 (by decide) (by kernel_rfl) rfl (aQ SP 3 rfl ?_);cases h64:(decide (0<a40))
   ·have hF:=bF' h64 hF;exact QP rfl (join false _ _ hF sw)
   have hF:=bT' h64 hF;refine aQ SP 3 rfl ?_;obtain⟨y65,hy65,hF⟩:=bB' hF
   refine aW SP rfl (dz (tc:=bX) p0 rfl rfl hy65 (aQ SP 2 rfl ?_));obtain⟨r66,hr66,hF⟩:=bB' hF
   refine aW SP rfl (cJ (YQ _ _ _ hr66) ⟨⟨rfl,rfl,rfl,trivial⟩,⟨rfl,rfl,rfl,trivial⟩,trivial⟩ rfl (.inl rfl) (aQ SP 2 rfl ?_));cases h67:(decide (0≤r66))
   ·have hF:=bF' h67 hF;refine aQ SP 3 rfl ?_;obtain⟨y68,hy68,hF⟩:=bB' hF
    refine aW SP rfl (dz (tc:=bX) p0 rfl rfl hy68 (aQ SP 6 rfl ?_));cases h69:(decide (y68.q8=y59.q8))
    ·have hF:=bF' h69 hF;exact QP rfl (join false _ _ hF sw)
    have hF:=bT' h69 hF;refine aQ SP 3 rfl ?_;obtain⟨y70,hy70,hF⟩:=bB' hF
    exact aW SP rfl (dz (tc:=bX) p0 rfl rfl hy70 (QP rfl (join (decide (y70.j2=y59.j2)) _ _ hF sw)))
   have hF:=bT' h67 hF;exact QP rfl (join true _ _ hF sw)
  intro join hF
  refine wD 4 rfl ?_;cases h72:(decide (y59.j8<0))
  ·have hF:=bF' h72 hF;refine aQ SV 5 rfl ?_;cases h73:(decide (1000000000000<y59.j8))
   ·have hF:=bF' h73 hF;refine aQ SV 2 rfl ?_;obtain⟨r74,hr74,hF⟩:=bB' hF
    exact aW SV rfl (cJ (aMZ _ _ hr74) ⟨rfl,trivial⟩ rfl (.inl rfl) (QV rfl (join (!r74) _ _ hF sw)))
   have hF:=bT' h73 hF;exact QV rfl (join true _ _ hF sw)
  have hF:=bT' h72 hF;exact QV rfl (join true _ _ hF sw)
 exact dK (aq (aq (bj (brk_0 _ _ _ (oi hF) sw))))
def wz(y143:dq)(y147:(List dq)):Int→Option (Int ⊕ (Unit ⊕ (Int ⊕ (Unit ⊕ Int)))):=fun a163 =>
  (bif (decide (a163<(List.length y147:Int)))then((idx y147 a163).bind fun y170=>(((bif (decide (y170.w5=y143.w5))then(bif (decide (y170.q5.q0<y143.q5.q9))then some (decide (y143.q5.q0<y170.q5.q9))else some false)else some false):Option Bool).bind fun v171=>(bif v171 then some (.inr (.inr (.inr (.inr 4))))else some (.inl (w64 (a163+1))))))else some (.inr (.inl ())))
def sx(p0:(List dq)):Int→Option (Int ⊕ (Unit ⊕ Int)):=fun a96 =>
  (bif (decide (a96<(List.length p0:Int)))then((idx p0 a96).bind fun y143=>(((bif (decide (y143.w5<0))then some true else(bif (decide (1000000000000000<y143.w5))then some true else(bif (decide (y143.q6<0))then some true else(bif (decide (1000000000000000<y143.q6))then some true else(bif (decide (y143.w8<1))then some true else(bif (decide (1000000000000<y143.w8))then some true else((nV y143.q5).bind fun r187=>some (!r187)))))))):Option Bool).bind fun v144=>(bif v144 then some (.inr (.inr 2))else((xj y143.z7).bind fun r145=>(bif (!decide (r145=0))then some (.inr (.inr r145))else(((bif (decide (0<a96))then((idx p0 (w64 (a96-1))).bind fun y178=>some (decide (y143.q5.q0<y178.q5.q0)))else some false):Option Bool).bind fun v146=>(bif v146 then some (.inr (.inr 11))else((Kz p0 0 a96).bind fun y147=>((loop (wz y143 y147) 0).bind fun | .inl _=>some (.inl (w64 (a96+1))) | .inr rv=>some rv)))))))))else some (.inr (.inl ())))
def CX(p0:(List dq)):Option Int :=
  ((loop (sx p0) 0).bind fun | .inl _=>some 0 | .inr rv=>some rv)
theorem Z1(p0:(List dq))(r:Int)(hF:CX p0=some r):Fun Tryz.prog 122 true [] [cL 7 bJ p0] noHeap (cI r) noHeap:=by
 refine fW Tryz.func122 ?_
 unfold CX at hF
 refine wA rfl (az (wC 1 rfl (rS (d0 (tc:=bJ) p0 .tree (QV rfl (eZ (fun _ _ h=>h) hF (.inl) (fun a96=>[(0,cL 7 bJ p0),(8,cL 7 bJ p0),(9,cI (List.length p0:Int)),(10,cI a96)]) (fun a96=>[]) (fun _=>[]) (fun _=>[]) sw ?_ ?_))))))
 ·rintro⟨⟩ hF
  refine wA rfl ?_;cases hF
  exact bQ wR
 rintro a96 x_0 hF cont_0 brk_0 fin_0
 unfold sx at hF
 refine wA rfl (az (wIf hF rfl (fun _ hF=>?_) fun _ hF=>?_))
 ·refine aJ (az (c7 (wC 1 rfl ?_)));obtain⟨y143,hy143,hF⟩:=bB hF
  refine rS (dz (tc:=bJ) p0 rfl rfl hy143 (QV rfl (az (az (cW (fun _ _ h=>h) hF (fun v144=>[(0,cL 7 bJ p0),(3,cI a96),(4,cP (4,0) 0),(8,cL 7 bJ p0),(9,cI (List.length p0:Int)),(10,cI a96),(48,cB v144)]) (fun v144=>[((4,0),.box (o9 y143))]) ?_ ?_)))))
  ·rintro v144 hF
   refine wIf hF rfl (fun _ hF=>?_) fun _ hF=>?_
   ·refine wA rfl ?_;have hF:=fin_0 _ (oi hF);cases hF
    exact bQ wR
   refine aJ (az (wC 2 rfl ?_));obtain⟨r145,hr145,hF⟩:=bB hF
   refine rS (cJ (NJ _ _ hr145) ⟨rfl,trivial⟩ rfl (.inl rfl) (QV rfl (wA rfl (wIf hF rfl (fun _ hF=>?_) fun _ hF=>?_))))
   ·refine wA rfl ?_;have hF:=fin_0 _ (oi hF);cases hF
    exact bQ wR
   refine aJ (az (az (cW (fun _ _ h=>h) hF (fun v146=>[(0,cL 7 bJ p0),(3,cI a96),(4,cP (4,0) 0),(8,cL 7 bJ p0),(9,cI (List.length p0:Int)),(10,cI a96),(69,cB v146)]) (fun v146=>[((4,0),.box (o9 y143))]) ?_ ?_)))
   ·rintro v146 hF
    refine wIf hF rfl (fun _ hF=>?_) fun _ hF=>?_
    ·refine wA rfl ?_;have hF:=fin_0 _ (oi hF);cases hF
     exact bQ wR
    refine aJ (wC 2 rfl ?_);obtain⟨y147,hy147,hF⟩:=bB hF
    refine rS (biQ (tc:=bJ) p0 rfl rfl rfl hy147 (rS (d0 (tc:=bJ) y147 .tree (QV rfl (eZ (fun _ _ h=>h) hF (.inl) (fun a163=>[(0,cL 7 bJ p0),(4,cP (4,0) 0),(8,cL 7 bJ p0),(9,cI (List.length p0:Int)),(10,cI a96),(72,cL 7 bJ y147),(73,cI (List.length y147:Int)),(74,cI a163)]) (fun a163=>[((4,0),.box (o9 y143))]) (fun _=>[(0,cL 7 bJ p0),(8,cL 7 bJ p0),(9,cI (List.length p0:Int)),(10,cI a96)]) (fun _=>[]) sw ?_ ?_)))))
    ·rintro⟨⟩ hF
     exact wB rfl (cont_0 _ _ _ (oi hF) sw)
    rintro a163 x_1 hF cont_1 brk_1 fin_1
    unfold wz at hF
    refine wA rfl (az (wIf hF rfl (fun _ hF=>?_) fun _ hF=>?_))
    ·refine aJ (az (c7 (wE ?_)));obtain⟨y170,hy170,hF⟩:=bB hF
     refine rS (dz (tc:=bJ) y147 rfl rfl hy170 (QV rfl (az (cW (fun _ _ h=>h) hF (fun v171=>[(0,cL 7 bJ p0),(4,cP (4,0) 0),(8,cL 7 bJ p0),(9,cI (List.length p0:Int)),(10,cI a96),(72,cL 7 bJ y147),(73,cI (List.length y147:Int)),(74,cI a163),(100,cB v171)]) (fun v171=>[((4,0),.box (o9 y143))]) ?_ ?_))))
     ·rintro v171 hF
      refine wIf hF rfl (fun _ hF=>?_) fun _ hF=>?_
      ·refine wA rfl ?_;have hF:=fin_1 _ (oi hF);have hF:=fin_0 _ (oi hF);cases hF
       exact bQ wR
      exact aJ (wB rfl (cont_1 _ _ _ (oi hF) sw))
     intro join hF
     refine wD 6 rfl ?_;cases h173:(decide (y170.w5=y143.w5))
     ·have hF:=bF' h173 hF;exact QV rfl (join false _ _ hF sw)
     have hF:=bT' h173 hF;refine aQ SV 9 rfl ?_;cases h174:(decide (y170.q5.q0<y143.q5.q9))
     ·have hF:=bF' h174 hF;exact QV rfl (join false _ _ hF sw)
     have hF:=bT' h174 hF;exact QV rfl (join (decide (y143.q5.q0<y170.q5.q9)) _ _ hF sw)
    exact dK (aq (aq (bj (brk_1 _ _ _ (oi hF) sw))))
   intro join hF
   refine f7 (by decide) (by kernel_rfl) rfl (aQ SP 3 rfl ?_);cases h177:(decide (0<a96))
   ·have hF:=bF' h177 hF;exact QP rfl (join false _ _ hF sw)
   have hF:=bT' h177 hF;refine aQ SP 6 rfl ?_;obtain⟨y178,hy178,hF⟩:=bB' hF
   exact aW SP rfl (dz (tc:=bJ) p0 rfl rfl hy178 (QP rfl (join (decide (y143.q5.q0<y178.q5.q0)) _ _ hF sw)))
  intro join hF
  refine wD 4 rfl ?_;cases h181:(decide (y143.w5<0))
  ·have hF:=bF' h181 hF;refine aQ SV 5 rfl ?_;cases h182:(decide (1000000000000000<y143.w5))
   ·have hF:=bF' h182 hF;refine aQ SV 5 rfl ?_;cases h183:(decide (y143.q6<0))
    ·have hF:=bF' h183 hF;refine aQ SV 5 rfl ?_;cases h184:(decide (1000000000000000<y143.q6))
     ·have hF:=bF' h184 hF;refine aQ SV 5 rfl ?_;cases h185:(decide (y143.w8<1))
      ·have hF:=bF' h185 hF;refine aQ SV 5 rfl ?_;cases h186:(decide (1000000000000<y143.w8))
       ·have hF:=bF' h186 hF;refine aQ SV 2 rfl ?_;obtain⟨r187,hr187,hF⟩:=bB' hF
        exact aW SV rfl (cJ (C8 _ _ hr187) ⟨⟨rfl,rfl,trivial⟩,trivial⟩ rfl (.inl rfl) (QV rfl (join (!r187) _ _ hF sw)))
       have hF:=bT' h186 hF;exact QV rfl (join true _ _ hF sw)
      have hF:=bT' h185 hF;exact QV rfl (join true _ _ hF sw)
     have hF:=bT' h184 hF;exact QV rfl (join true _ _ hF sw)
    have hF:=bT' h183 hF;exact QV rfl (join true _ _ hF sw)
   have hF:=bT' h182 hF;exact QV rfl (join true _ _ hF sw)
  have hF:=bT' h181 hF;exact QV rfl (join true _ _ hF sw)
 exact dK (aq (aq (bj (brk_0 _ _ _ (oi hF) sw))))
def EZ(p0:dq):Option Int :=
  some p0.q6
theorem V8(p0:dq)(r:Int)(hF:EZ p0=some r):Fun Tryz.prog 123 true [] [.agg (o9 p0)] noHeap (cI r) noHeap:=by
 refine fW Tryz.func123 ?_
 unfold EZ at hF
 refine wA rfl (wA rfl ?_);cases hF
 exact bQ wR
def mK(p1:(List (Int×ByteArray)))(p2:(List dq)):Int→Option (Int ⊕ (Unit ⊕ Int)):=fun a12 =>
  (bif (decide (a12<(List.length p2:Int)))then((idx p2 a12).bind fun y17=>((EZ y17).bind fun r18=>(bif (!(Option.isSome (xZ r18 p1)))then some (.inr (.inr 5))else some (.inl (w64 (a12+1))))))else some (.inr (.inl ())))
def kX(p0:Int)(p1:(List (Int×ByteArray)))(p2:(List dq)):Option Int :=
  (bif (!decide (p0=0))then some p0 else((loop (mK p1 p2) 0).bind fun | .inl _=>some 0 | .inr rv=>some rv))
theorem JJ(p0:Int)(p1:(List (Int×ByteArray)))(p2:(List dq))(r:Int)(hF:kX p0 p1 p2=some r):Fun Tryz.prog 121 false [(5840,0)] [cI p0,cM (5840,0),cL 7 bJ p2,.c (.fn 123 [])] (aV [((5840,0),sW (.int .i64) kvI vvS p1)]) (cI r) (aV [((5840,0),sW (.int .i64) kvI vvS p1)]):=by
 refine fM [(5840,0)] (some [(5840,0)]) Tryz.func121 ?_
 unfold kX at hF
 refine wA rfl (az (wA rfl (wIf hF rfl (fun _ hF=>?_) fun _ hF=>?_)))
 ·refine wA rfl ?_;cases hF
  exact bQ ⟨_,_,fq,_,rfl,rfl,⟨rfl,fun _=>rfl⟩,(AgM.weak ⟨rfl,trivial⟩)⟩
 refine aJ (az (wC 1 rfl (rS (d0 (tc:=bJ) p2 .tree (QV rfl (eZ (fun _ _ h=>h) hF (.inl) (fun a12=>[(1,cM (5840,0)),(3,.c (.fn 123 [])),(16,cL 7 bJ p2),(17,cI (List.length p2:Int)),(18,cI a12)]) (fun a12=>[((5840,0),sW (.int .i64) kvI vvS p1)]) (fun _=>[]) (fun _=>[((5840,0),sW (.int .i64) kvI vvS p1)]) sw ?_ ?_))))))
 ·rintro⟨⟩ hF
  refine wA rfl ?_;cases hF
  exact bQ ⟨_,_,fq,_,rfl,rfl,⟨rfl,fun _=>rfl⟩,(AgM.weak ⟨rfl,trivial⟩)⟩
 rintro a12 x_0 hF cont_0 brk_0 fin_0
 unfold mK at hF
 refine wA rfl (az (wIf hF rfl (fun _ hF=>?_) fun _ hF=>?_))
 ·refine aJ (az (c7 (wE ?_)));obtain⟨y17,hy17,hF⟩:=bB hF
  refine rS (dz (tc:=bJ) p2 rfl rfl hy17 (QV rfl (wC 3 rfl ?_)));obtain⟨r18,hr18,hF⟩:=bB hF
  refine jj trivial (IX (I8 _ rfl a7q) (V8 _ _ hr18) ⟨⟨rfl,rfl,rfl,rfl,rfl,rfl,rfl,trivial⟩,trivial⟩ rfl (.inl rfl) (rS (MQ (anj .i64) (vv:=vvS) p1 r18 (⟨#[]⟩ : ByteArray) (.own _ rfl) rfl rfl (QV rfl (wA rfl (wIf hF rfl (fun _ hF=>?_) fun _ hF=>?_))))))
  ·refine wA rfl ?_;have hF:=fin_0 _ (oi hF);cases hF
   exact bQ ⟨_,_,fq,_,rfl,rfl,⟨rfl,fun _=>rfl⟩,(AgM.weak ⟨rfl,trivial⟩)⟩
  exact aJ (wB rfl (cont_0 _ _ _ (oi hF) sw))
 exact dK (aq (aq (bj (brk_0 _ _ _ (oi hF) sw))))
def yj(p0:(List (Int×ByteArray)))(p1:(List f6)):Int→Option (Int ⊕ (Unit ⊕ Int)):=fun a20 =>
  (bif (decide (a20<(List.length p1:Int)))then((idx p1 a20).bind fun y29=>(bif (!(Option.isSome (xZ y29.q6 p0)))then some (.inr (.inr 5))else((((nV y29.q5).bind fun r32=>(bif (!r32)then some true else(bif (decide (y29.j6<1))then some true else some (decide (1000000000000000<y29.j6))))):Option Bool).bind fun v30=>(bif v30 then some (.inr (.inr 2))else some (.inl (w64 (a20+1)))))))else some (.inr (.inl ())))
def wQ(p0:(List (Int×ByteArray)))(p1:(List f6)):Option Int :=
  ((loop (yj p0 p1) 0).bind fun | .inl _=>some 0 | .inr rv=>some rv)
theorem Uj(p0:(List (Int×ByteArray)))(p1:(List f6))(r:Int)(hF:wQ p0 p1=some r):Fun Tryz.prog 124 false [(5960,0)] [cM (5960,0),cL 4 d7 p1] (aV [((5960,0),sW (.int .i64) kvI vvS p0)]) (cI r) (aV [((5960,0),sW (.int .i64) kvI vvS p0)]):=by
 refine fM [(5960,0)] (some [(5960,0)]) Tryz.func124 ?_
 unfold wQ at hF
 refine wA rfl (az (wC 1 rfl (rS (d0 (tc:=d7) p1 .tree (QV rfl (eZ (fun _ _ h=>h) hF (.inl) (fun a20=>[(0,cM (5960,0)),(9,cL 4 d7 p1),(10,cI (List.length p1:Int)),(11,cI a20)]) (fun a20=>[((5960,0),sW (.int .i64) kvI vvS p0)]) (fun _=>[]) (fun _=>[((5960,0),sW (.int .i64) kvI vvS p0)]) sw ?_ ?_))))))
 ·rintro⟨⟩ hF
  refine wA rfl ?_;cases hF
  exact bQ ⟨_,_,fq,_,rfl,rfl,⟨rfl,fun _=>rfl⟩,(AgM.weak ⟨rfl,trivial⟩)⟩
 rintro a20 x_0 hF cont_0 brk_0 fin_0
 unfold yj at hF
 refine wA rfl (az (wIf hF rfl (fun _ hF=>?_) fun _ hF=>?_))
 ·refine aJ (az (c7 (wE ?_)));obtain⟨y29,hy29,hF⟩:=bB hF
  refine rS (dz (tc:=d7) p1 rfl rfl hy29 (QV rfl (az (wC 3 rfl (rS (MQ (anj .i64) (vv:=vvS) p0 y29.q6 (⟨#[]⟩ : ByteArray) (.own _ rfl) rfl rfl (QV rfl (wA rfl (wIf hF rfl (fun _ hF=>?_) fun _ hF=>?_)))))))))
  ·refine wA rfl ?_;have hF:=fin_0 _ (oi hF);cases hF
   exact bQ ⟨_,_,fq,_,rfl,rfl,⟨rfl,fun _=>rfl⟩,(AgM.weak ⟨rfl,trivial⟩)⟩
  refine aJ (az (cW (fun _ _ h=>h) hF (fun v30=>[(0,cM (5960,0)),(9,cL 4 d7 p1),(10,cI (List.length p1:Int)),(11,cI a20),(37,cB v30)]) (fun v30=>[((5960,0),sW (.int .i64) kvI vvS p0)]) ?_ ?_))
  ·rintro v30 hF
   refine wIf hF rfl (fun _ hF=>?_) fun _ hF=>?_
   ·refine wA rfl ?_;have hF:=fin_0 _ (oi hF);cases hF
    exact bQ ⟨_,_,fq,_,rfl,rfl,⟨rfl,fun _=>rfl⟩,(AgM.weak ⟨rfl,trivial⟩)⟩
   exact aJ (wB rfl (cont_0 _ _ _ (oi hF) sw))
  intro join hF
  refine wD 2 rfl ?_;obtain⟨r32,hr32,hF⟩:=bB' hF
  refine rS (cJ (C8 _ _ hr32) ⟨⟨rfl,rfl,trivial⟩,trivial⟩ rfl (.inl rfl) (aQ SV 2 rfl ?_));cases h33:(!r32)
  ·have hF:=bF' h33 hF;refine aQ SV 5 rfl ?_;cases h34:(decide (y29.j6<1))
   ·have hF:=bF' h34 hF;exact QV rfl (join (decide (1000000000000000<y29.j6)) _ _ hF sw)
   have hF:=bT' h34 hF;exact QV rfl (join true _ _ hF sw)
  have hF:=bT' h33 hF;exact QV rfl (join true _ _ hF sw)
 exact dK (aq (aq (bj (brk_0 _ _ _ (oi hF) sw))))
def FX(p0:a0):Option Int :=
  ((uj p0).bind fun | .inl r1_0=>(bif (!decide (r1_0.2=0))then some r1_0.2 else((p9 p0.z3).bind fun r2=>none)) | .inr r1_1=>(bif (!decide (r1_1.2=0))then some r1_1.2 else((p9 p0.z3).bind fun r4=>((iY r4 r1_1.1 p0.z3).bind fun r5=>(bif (!decide (r5=0))then some r5 else((EJ p0.q7 p0.z8).bind fun r6=>(bif (!decide (r6=0))then some r6 else((G7 p0.z6).bind fun r7=>((kY r7 r1_1.1 p0.z6).bind fun r8=>((kK r8 r1_1.1 p0.z6).bind fun r9=>(bif (!decide (r9=0))then some r9 else((CY p0.z2).bind fun r10=>((jW r10 r1_1.1 p0.z2).bind fun r11=>(bif (!decide (r11=0))then some r11 else((rz p0.j4).bind fun r12=>(bif (!decide (r12=0))then some r12 else((CX p0.z5).bind fun r13=>((kX r13 r1_1.1 p0.z5).bind fun r14=>(bif (!decide (r14=0))then some r14 else((wQ r1_1.1 p0.j7).bind fun r15=>some r15))))))))))))))))))))
theorem aaV(p0:a0)(r:Int)(hF:FX p0=some r):Fun Tryz.prog 39 true [] [.agg (bq p0)] noHeap (cI r) noHeap:=by
 refine fW Tryz.func39 ?_
 unfold FX at hF
 refine wA rfl (wC 1 rfl ?_);obtain⟨r1,hr1,hF⟩:=bB hF
 rcases r1 with r1_0 | r1_1
 ·refine jj trivial (oz [] rfl (AY _) (NX _ _ hr1) trivial ⟨.inr ⟨rfl,rfl,rfl,rfl,rfl,rfl,rfl,rfl,rfl,rfl,trivial⟩,trivial⟩ rfl rfl rfl ?_);refine QV rfl (az (wA rfl (wIf hF rfl (fun _ hF=>?_) fun _ hF=>?_)))
  ·refine wA rfl ?_;cases hF
   exact bQ wR
  refine aJ (az (az (f7 (by decide) (by kernel_rfl) rfl (aQ SP 2 rfl ?_))));obtain⟨r2,hr2,hF⟩:=bB hF
  refine aW SP trivial (cJ (Rx _ _ hr2) ⟨rfl,trivial⟩ rfl (.inl rfl) (aQ SP 3 rfl ?_));simp at hF
 refine jj trivial (oz [((902,4320),(13,1))] rfl (AY _) (NX _ _ hr1) trivial ⟨.inr ⟨rfl,rfl,rfl,rfl,rfl,rfl,rfl,rfl,rfl,rfl,trivial⟩,trivial⟩ rfl rfl rfl ?_);refine QV rfl (az (wA rfl (wIf hF rfl (fun _ hF=>?_) fun _ hF=>?_)))
 ·refine wA rfl ?_;cases hF
  exact bQ wR
 refine aJ (az (az (f7 (by decide) (by kernel_rfl) rfl (aQ SP 2 rfl ?_))));obtain⟨r4,hr4,hF⟩:=bB hF
 refine aW SP trivial (cJ (Rx _ _ hr4) ⟨rfl,trivial⟩ rfl (.inl rfl) (aQ SP 3 rfl ?_));obtain⟨r5,hr5,hF⟩:=bB hF
 refine aW SP trivial (vj [((5360,0),(13,1))] rfl (JZ _ _ _ _ hr5) ⟨rfl,trivial⟩ rfl rfl (.inr ⟨.inl rfl,.inl rfl,.inl rfl,.inl rfl,trivial⟩) (QP rfl (wA rfl (wIf hF rfl (fun _ hF=>?_) fun _ hF=>?_))))
 ·refine wA rfl ?_;cases hF
  exact bQ wR
 refine aJ (az (wC 4 rfl ?_));obtain⟨r6,hr6,hF⟩:=bB hF
 refine rS (cJ (agz _ _ _ hr6) ⟨rfl,rfl,trivial⟩ rfl (.inl rfl) (QV rfl (wA rfl (wIf hF rfl (fun _ hF=>?_) fun _ hF=>?_))))
 ·refine wA rfl ?_;cases hF
  exact bQ wR
 refine aJ (az (f7 (by decide) (by kernel_rfl) rfl (aQ SP 2 rfl ?_)));obtain⟨r7,hr7,hF⟩:=bB hF
 refine aW SP trivial (cJ (aix _ _ hr7) ⟨rfl,trivial⟩ rfl (.inl rfl) (aQ SP 3 rfl ?_));obtain⟨r8,hr8,hF⟩:=bB hF
 refine aW SP trivial (vj [((5520,0),(13,1))] rfl (Kj _ _ _ _ hr8) ⟨rfl,trivial⟩ rfl rfl (.inr ⟨.inl rfl,.inl rfl,.inl rfl,.inl rfl,trivial⟩) (QP rfl (az (wC 4 rfl ?_))));obtain⟨r9,hr9,hF⟩:=bB hF
 refine rS (vj [((5520,0),(13,1))] rfl (J8 _ _ _ _ hr9) ⟨rfl,trivial⟩ rfl rfl (.inr ⟨.inl rfl,.inl rfl,.inl rfl,.inl rfl,trivial⟩) (QV rfl (wA rfl (wIf hF rfl (fun _ hF=>?_) fun _ hF=>?_))))
 ·refine wA rfl ?_;cases hF
  exact bQ wR
 refine aJ (az (az (f7 (by decide) (by kernel_rfl) rfl (aQ SP 2 rfl ?_))));obtain⟨r10,hr10,hF⟩:=bB hF
 refine aW SP trivial (cJ (ZW _ _ hr10) ⟨rfl,trivial⟩ rfl (.inl rfl) (aQ SP 3 rfl ?_));obtain⟨r11,hr11,hF⟩:=bB hF
 refine aW SP trivial (vj [((5680,0),(13,1))] rfl (Jq _ _ _ _ hr11) ⟨rfl,trivial⟩ rfl rfl (.inr ⟨.inl rfl,.inl rfl,.inl rfl,.inl rfl,trivial⟩) (QP rfl (wA rfl (wIf hF rfl (fun _ hF=>?_) fun _ hF=>?_))))
 ·refine wA rfl ?_;cases hF
  exact bQ wR
 refine aJ (az (wC 2 rfl ?_));obtain⟨r12,hr12,hF⟩:=bB hF
 refine rS (cJ (X0 _ _ hr12) ⟨rfl,trivial⟩ rfl (.inl rfl) (QV rfl (wA rfl (wIf hF rfl (fun _ hF=>?_) fun _ hF=>?_))))
 ·refine wA rfl ?_;cases hF
  exact bQ wR
 refine aJ (az (az (f7 (by decide) (by kernel_rfl) rfl (aQ SP 2 rfl ?_))));obtain⟨r13,hr13,hF⟩:=bB hF
 refine aW SP trivial (cJ (Z1 _ _ hr13) ⟨rfl,trivial⟩ rfl (.inl rfl) (aQ SP 3 rfl ?_));obtain⟨r14,hr14,hF⟩:=bB hF
 refine aW SP trivial (vj [((5840,0),(13,1))] rfl (JJ _ _ _ _ hr14) ⟨rfl,trivial⟩ rfl rfl (.inr ⟨.inl rfl,.inl rfl,.inl rfl,.inl rfl,trivial⟩) (QP rfl (wA rfl (wIf hF rfl (fun _ hF=>?_) fun _ hF=>?_))))
 ·refine wA rfl ?_;cases hF
  exact bQ wR
 refine aJ (wC 3 rfl ?_);obtain⟨r15,hr15,hF⟩:=bB hF
 refine rS (vj [((5960,0),(13,1))] rfl (Uj _ _ _ hr15) ⟨rfl,trivial⟩ rfl rfl (.inr ⟨.inl rfl,.inl rfl,trivial⟩) (QV rfl ?_));cases hF
 exact bQ wR
def wW(p0:aZ)(p1:aZ):Option Bool :=
  (((bif (decide (p1.q0≤p0.q0))then some (decide (p0.q9≤p1.q9))else some false):Option Bool).bind fun v1=>some v1)
theorem IY(p0:aZ)(p1:aZ)(r:Bool)(hF:wW p0 p1=some r):Fun Tryz.prog 127 true [] [.agg [jI p0.q0,jI p0.q9],.agg [jI p1.q0,jI p1.q9]] noHeap (cB r) noHeap:=by
 refine fW Tryz.func127 ?_
 unfold wW at hF
 refine wA rfl (az (cW (fun _ _ h=>h) hF (fun v1=>[(4,cB v1)]) (fun v1=>[]) ?_ ?_))
 ·rintro v1 hF
  cases hF
  exact bQ wR
 intro join hF
 refine wD 6 rfl ?_;cases h2:(decide (p1.q0≤p0.q0))
 ·have hF:=bF' h2 hF;exact QV rfl (join false _ _ hF sw)
 have hF:=bT' h2 hF;exact QV rfl (join (decide (p0.q9≤p1.q9)) _ _ hF sw)
def tX(p0:aY)(p1:aZ):Option Bool :=
  ((wW p0.q5 p1).bind fun r1=>some (!r1))
theorem QY(p0:aY)(p1:aZ)(r:Bool)(hF:tX p0 p1=some r):Fun Tryz.prog 126 true [] [.agg (qq p0),.c (.ptrI [tI p1.q0,tI p1.q9])] noHeap (cB r) noHeap:=by
 refine fW Tryz.func126 ?_
 unfold tX at hF
 refine wA rfl (wC 3 rfl ?_);obtain⟨r1,hr1,hF⟩:=bB hF
 refine rS (cJ (IY _ _ _ hr1) ⟨⟨rfl,rfl,trivial⟩,⟨rfl,rfl,trivial⟩,trivial⟩ rfl (.inl rfl) (QV rfl ?_));cases hF
 exact bQ wR
def gX(p0:(List aY))(p1_0:aZ):Int→Option (Int ⊕ (Unit ⊕ Int)):=fun a12 =>
  (bif (decide (a12<(List.length p0:Int)))then((idx p0 a12).bind fun y17=>((tX y17 p1_0).bind fun r18=>(bif r18 then some (.inr (.inr a12))else some (.inl (w64 (a12+1))))))else some (.inr (.inl ())))
def iZ(p0:(List aY))(p1_0:aZ):Option Int :=
  ((loop (gX p0 p1_0) 0).bind fun | .inl _=>some (-1) | .inr rv=>some rv)
theorem B8(p0:(List aY))(p1_0:aZ)(r:Int)(hF:iZ p0 p1_0=some r):Fun Tryz.prog 185 false [(8400,0)] [cL 8 aj p0,.c (.fn 126 [.ptr (8400,0)])] (aV [((8400,0),.box [jI p1_0.q0,jI p1_0.q9])]) (cI r) (aV [((8400,0),.box [jI p1_0.q0,jI p1_0.q9])]):=by
 refine fM [(8400,0)] (some [(8400,0)]) Tryz.func185 ?_
 unfold iZ at hF
 refine wA rfl (az (wC 1 rfl (rS (d0 (tc:=aj) p0 .tree (QV rfl (eZ (fun _ _ h=>h) hF (.inl) (fun a12=>[(0,cL 8 aj p0),(1,.c (.fn 126 [.ptr (8400,0)])),(7,cI (List.length p0:Int)),(8,cI a12)]) (fun a12=>[((8400,0),.box [jI p1_0.q0,jI p1_0.q9])]) (fun _=>[]) (fun _=>[((8400,0),.box [jI p1_0.q0,jI p1_0.q9])]) sw ?_ ?_))))))
 ·rintro⟨⟩ hF
  refine wA rfl ?_;cases hF
  exact bQ ⟨_,_,fq,_,rfl,rfl,⟨rfl,fun _=>rfl⟩,(AgM.weak ⟨rfl,trivial⟩)⟩
 rintro a12 x_0 hF cont_0 brk_0 fin_0
 unfold gX at hF
 refine wA rfl (az (wIf hF rfl (fun _ hF=>?_) fun _ hF=>?_))
 ·refine aJ (az (c7 (wA rfl (wC 3 rfl ?_))));obtain⟨y17,hy17,hF⟩:=bB hF
  refine rS (dz (tc:=aj) p0 rfl rfl hy17 (aQ SV 1 rfl ?_));obtain⟨r18,hr18,hF⟩:=bB hF
  refine jj trivial (IX (I8 _ rfl bbK) (QY _ _ _ hr18) ⟨⟨rfl,rfl,rfl,rfl,rfl,rfl,rfl,rfl,trivial⟩,⟨_,rfl,⟨rfl,rfl,trivial⟩⟩,trivial⟩ rfl (.inl rfl) (QV rfl (wIf hF rfl (fun _ hF=>?_) fun _ hF=>?_)))
  ·refine wA rfl ?_;have hF:=fin_0 _ (oi hF);cases hF
   exact bQ ⟨_,_,fq,_,rfl,rfl,⟨rfl,fun _=>rfl⟩,(AgM.weak ⟨rfl,trivial⟩)⟩
  exact aJ (wB rfl (cont_0 _ _ _ (oi hF) sw))
 exact dK (aq (aq (bj (brk_0 _ _ _ (oi hF) sw))))
def eY(p0:(List aY))(p1_0:aZ):Option Bool :=
  ((iZ p0 p1_0).bind fun r1=>some (decide (0≤r1)))
theorem Az(p0:(List aY))(p1_0:aZ)(r:Bool)(hF:eY p0 p1_0=some r):Fun Tryz.prog 125 false [(6000,0)] [cL 8 aj p0,.c (.fn 126 [.ptr (6000,0)])] (aV [((6000,0),.box [jI p1_0.q0,jI p1_0.q9])]) (cB r) (aV [((6000,0),.box [jI p1_0.q0,jI p1_0.q9])]):=by
 refine fM [(6000,0)] (some [(6000,0)]) Tryz.func125 ?_
 unfold eY at hF
 refine wA rfl (wC 2 rfl ?_);obtain⟨r1,hr1,hF⟩:=bB hF
 refine rS (vj [((8400,0),(6000,0))] rfl (B8 _ _ _ hr1) ⟨rfl,trivial⟩ rfl rfl (.inr ⟨.inl rfl,.inl rfl,trivial⟩) (QV rfl ?_));cases hF
 exact bQ ⟨_,_,fq,_,rfl,rfl,⟨rfl,fun _=>rfl⟩,(AgM.weak ⟨rfl,trivial⟩)⟩
def tz(p0:cZ)(p1:aZ):Option Bool :=
  ((wW p0.q5 p1).bind fun r1=>some (!r1))
theorem P6(p0:cZ)(p1:aZ)(r:Bool)(hF:tz p0 p1=some r):Fun Tryz.prog 129 true [] [.agg (mZ p0),.c (.ptrI [tI p1.q0,tI p1.q9])] noHeap (cB r) noHeap:=by
 refine fW Tryz.func129 ?_
 unfold tz at hF
 refine wA rfl (wC 3 rfl ?_);obtain⟨r1,hr1,hF⟩:=bB hF
 refine rS (cJ (IY _ _ _ hr1) ⟨⟨rfl,rfl,trivial⟩,⟨rfl,rfl,trivial⟩,trivial⟩ rfl (.inl rfl) (QV rfl ?_));cases hF
 exact bQ wR
def gj(p0:(List cZ))(p1_0:aZ):Int→Option (Int ⊕ (Unit ⊕ Int)):=fun a12 =>
  (bif (decide (a12<(List.length p0:Int)))then((idx p0 a12).bind fun y17=>((tz y17 p1_0).bind fun r18=>(bif r18 then some (.inr (.inr a12))else some (.inl (w64 (a12+1))))))else some (.inr (.inl ())))
def iX(p0:(List cZ))(p1_0:aZ):Option Int :=
  ((loop (gj p0 p1_0) 0).bind fun | .inl _=>some (-1) | .inr rv=>some rv)
theorem B6(p0:(List cZ))(p1_0:aZ)(r:Int)(hF:iX p0 p1_0=some r):Fun Tryz.prog 186 false [(8440,0)] [cL 7 bz p0,.c (.fn 129 [.ptr (8440,0)])] (aV [((8440,0),.box [jI p1_0.q0,jI p1_0.q9])]) (cI r) (aV [((8440,0),.box [jI p1_0.q0,jI p1_0.q9])]):=by
 refine fM [(8440,0)] (some [(8440,0)]) Tryz.func186 ?_
 unfold iX at hF
 refine wA rfl (az (wC 1 rfl (rS (d0 (tc:=bz) p0 .tree (QV rfl (eZ (fun _ _ h=>h) hF (.inl) (fun a12=>[(0,cL 7 bz p0),(1,.c (.fn 129 [.ptr (8440,0)])),(7,cI (List.length p0:Int)),(8,cI a12)]) (fun a12=>[((8440,0),.box [jI p1_0.q0,jI p1_0.q9])]) (fun _=>[]) (fun _=>[((8440,0),.box [jI p1_0.q0,jI p1_0.q9])]) sw ?_ ?_))))))
 ·rintro⟨⟩ hF
  refine wA rfl ?_;cases hF
  exact bQ ⟨_,_,fq,_,rfl,rfl,⟨rfl,fun _=>rfl⟩,(AgM.weak ⟨rfl,trivial⟩)⟩
 rintro a12 x_0 hF cont_0 brk_0 fin_0
 unfold gj at hF
 refine wA rfl (az (wIf hF rfl (fun _ hF=>?_) fun _ hF=>?_))
 ·refine aJ (az (c7 (wA rfl (wC 3 rfl ?_))));obtain⟨y17,hy17,hF⟩:=bB hF
  refine rS (dz (tc:=bz) p0 rfl rfl hy17 (aQ SV 1 rfl ?_));obtain⟨r18,hr18,hF⟩:=bB hF
  refine jj trivial (IX (I8 _ rfl bbJ) (P6 _ _ _ hr18) ⟨⟨rfl,rfl,rfl,rfl,rfl,rfl,rfl,trivial⟩,⟨_,rfl,⟨rfl,rfl,trivial⟩⟩,trivial⟩ rfl (.inl rfl) (QV rfl (wIf hF rfl (fun _ hF=>?_) fun _ hF=>?_)))
  ·refine wA rfl ?_;have hF:=fin_0 _ (oi hF);cases hF
   exact bQ ⟨_,_,fq,_,rfl,rfl,⟨rfl,fun _=>rfl⟩,(AgM.weak ⟨rfl,trivial⟩)⟩
  exact aJ (wB rfl (cont_0 _ _ _ (oi hF) sw))
 exact dK (aq (aq (bj (brk_0 _ _ _ (oi hF) sw))))
def eK(p0:(List cZ))(p1_0:aZ):Option Bool :=
  ((iX p0 p1_0).bind fun r1=>some (decide (0≤r1)))
theorem AJ(p0:(List cZ))(p1_0:aZ)(r:Bool)(hF:eK p0 p1_0=some r):Fun Tryz.prog 128 false [(6120,0)] [cL 7 bz p0,.c (.fn 129 [.ptr (6120,0)])] (aV [((6120,0),.box [jI p1_0.q0,jI p1_0.q9])]) (cB r) (aV [((6120,0),.box [jI p1_0.q0,jI p1_0.q9])]):=by
 refine fM [(6120,0)] (some [(6120,0)]) Tryz.func128 ?_
 unfold eK at hF
 refine wA rfl (wC 2 rfl ?_);obtain⟨r1,hr1,hF⟩:=bB hF
 refine rS (vj [((8440,0),(6120,0))] rfl (B6 _ _ _ hr1) ⟨rfl,trivial⟩ rfl rfl (.inr ⟨.inl rfl,.inl rfl,trivial⟩) (QV rfl ?_));cases hF
 exact bQ ⟨_,_,fq,_,rfl,rfl,⟨rfl,fun _=>rfl⟩,(AgM.weak ⟨rfl,trivial⟩)⟩
def tV(p0:dq)(p1:aZ):Option Bool :=
  ((wW p0.q5 p1).bind fun r1=>some (!r1))
theorem QK(p0:dq)(p1:aZ)(r:Bool)(hF:tV p0 p1=some r):Fun Tryz.prog 131 true [] [.agg (o9 p0),.c (.ptrI [tI p1.q0,tI p1.q9])] noHeap (cB r) noHeap:=by
 refine fW Tryz.func131 ?_
 unfold tV at hF
 refine wA rfl (wC 3 rfl ?_);obtain⟨r1,hr1,hF⟩:=bB hF
 refine rS (cJ (IY _ _ _ hr1) ⟨⟨rfl,rfl,trivial⟩,⟨rfl,rfl,trivial⟩,trivial⟩ rfl (.inl rfl) (QV rfl ?_));cases hF
 exact bQ wR
def gQ(p0:(List dq))(p1_0:aZ):Int→Option (Int ⊕ (Unit ⊕ Int)):=fun a12 =>
  (bif (decide (a12<(List.length p0:Int)))then((idx p0 a12).bind fun y17=>((tV y17 p1_0).bind fun r18=>(bif r18 then some (.inr (.inr a12))else some (.inl (w64 (a12+1))))))else some (.inr (.inl ())))
def iQ(p0:(List dq))(p1_0:aZ):Option Int :=
  ((loop (gQ p0 p1_0) 0).bind fun | .inl _=>some (-1) | .inr rv=>some rv)
theorem Cx(p0:(List dq))(p1_0:aZ)(r:Int)(hF:iQ p0 p1_0=some r):Fun Tryz.prog 157 false [(7280,0)] [cL 7 bJ p0,.c (.fn 131 [.ptr (7280,0)])] (aV [((7280,0),.box [jI p1_0.q0,jI p1_0.q9])]) (cI r) (aV [((7280,0),.box [jI p1_0.q0,jI p1_0.q9])]):=by
 refine fM [(7280,0)] (some [(7280,0)]) Tryz.func157 ?_
 unfold iQ at hF
 refine wA rfl (az (wC 1 rfl (rS (d0 (tc:=bJ) p0 .tree (QV rfl (eZ (fun _ _ h=>h) hF (.inl) (fun a12=>[(0,cL 7 bJ p0),(1,.c (.fn 131 [.ptr (7280,0)])),(7,cI (List.length p0:Int)),(8,cI a12)]) (fun a12=>[((7280,0),.box [jI p1_0.q0,jI p1_0.q9])]) (fun _=>[]) (fun _=>[((7280,0),.box [jI p1_0.q0,jI p1_0.q9])]) sw ?_ ?_))))))
 ·rintro⟨⟩ hF
  refine wA rfl ?_;cases hF
  exact bQ ⟨_,_,fq,_,rfl,rfl,⟨rfl,fun _=>rfl⟩,(AgM.weak ⟨rfl,trivial⟩)⟩
 rintro a12 x_0 hF cont_0 brk_0 fin_0
 unfold gQ at hF
 refine wA rfl (az (wIf hF rfl (fun _ hF=>?_) fun _ hF=>?_))
 ·refine aJ (az (c7 (wA rfl (wC 3 rfl ?_))));obtain⟨y17,hy17,hF⟩:=bB hF
  refine rS (dz (tc:=bJ) p0 rfl rfl hy17 (aQ SV 1 rfl ?_));obtain⟨r18,hr18,hF⟩:=bB hF
  refine jj trivial (IX (I8 _ rfl a7Z) (QK _ _ _ hr18) ⟨⟨rfl,rfl,rfl,rfl,rfl,rfl,rfl,trivial⟩,⟨_,rfl,⟨rfl,rfl,trivial⟩⟩,trivial⟩ rfl (.inl rfl) (QV rfl (wIf hF rfl (fun _ hF=>?_) fun _ hF=>?_)))
  ·refine wA rfl ?_;have hF:=fin_0 _ (oi hF);cases hF
   exact bQ ⟨_,_,fq,_,rfl,rfl,⟨rfl,fun _=>rfl⟩,(AgM.weak ⟨rfl,trivial⟩)⟩
  exact aJ (wB rfl (cont_0 _ _ _ (oi hF) sw))
 exact dK (aq (aq (bj (brk_0 _ _ _ (oi hF) sw))))
def eV(p0:(List dq))(p1_0:aZ):Option Bool :=
  ((iQ p0 p1_0).bind fun r1=>some (decide (0≤r1)))
theorem AX(p0:(List dq))(p1_0:aZ)(r:Bool)(hF:eV p0 p1_0=some r):Fun Tryz.prog 130 false [(6200,0)] [cL 7 bJ p0,.c (.fn 131 [.ptr (6200,0)])] (aV [((6200,0),.box [jI p1_0.q0,jI p1_0.q9])]) (cB r) (aV [((6200,0),.box [jI p1_0.q0,jI p1_0.q9])]):=by
 refine fM [(6200,0)] (some [(6200,0)]) Tryz.func130 ?_
 unfold eV at hF
 refine wA rfl (wC 2 rfl ?_);obtain⟨r1,hr1,hF⟩:=bB hF
 refine rS (vj [((7280,0),(6200,0))] rfl (Cx _ _ _ hr1) ⟨rfl,trivial⟩ rfl rfl (.inr ⟨.inl rfl,.inl rfl,trivial⟩) (QV rfl ?_));cases hF
 exact bQ ⟨_,_,fq,_,rfl,rfl,⟨rfl,fun _=>rfl⟩,(AgM.weak ⟨rfl,trivial⟩)⟩
def l3(p0:aZ)(p1:Int):Option Bool :=
  (((bif (decide (p0.q0≤p1))then some (decide (p1<p0.q9))else some false):Option Bool).bind fun v1=>some v1)
theorem tZ(p0:aZ)(p1:Int)(r:Bool)(hF:l3 p0 p1=some r):Fun Tryz.prog 134 true [] [.agg [jI p0.q0,jI p0.q9],cI p1] noHeap (cB r) noHeap:=by
 refine fW Tryz.func134 ?_
 unfold l3 at hF
 refine wA rfl (az (cW (fun _ _ h=>h) hF (fun v1=>[(4,cB v1)]) (fun v1=>[]) ?_ ?_))
 ·rintro v1 hF
  cases hF
  exact bQ wR
 intro join hF
 refine wD 5 rfl ?_;cases h2:(decide (p0.q0≤p1))
 ·have hF:=bF' h2 hF;exact QV rfl (join false _ _ hF sw)
 have hF:=bT' h2 hF;exact QV rfl (join (decide (p1<p0.q9)) _ _ hF sw)
def tq(p0:d3)(p1:aZ):Option Bool :=
  ((((l3 p1 p0.w7).bind fun r2=>(bif (!r2)then some true else((l3 p1 p0.w4).bind fun r4=>some (!r4)))):Option Bool).bind fun v1=>some v1)
theorem Q6(p0:d3)(p1:aZ)(r:Bool)(hF:tq p0 p1=some r):Fun Tryz.prog 133 true [] [.agg (G8 p0),.c (.ptrI [tI p1.q0,tI p1.q9])] noHeap (cB r) noHeap:=by
 refine fW Tryz.func133 ?_
 unfold tq at hF
 refine wA rfl (az (cW (fun _ _ h=>h) hF (fun v1=>[(3,cB v1)]) (fun v1=>[]) ?_ ?_))
 ·rintro v1 hF
  cases hF
  exact bQ wR
 intro join hF
 refine wD 3 rfl ?_;obtain⟨r2,hr2,hF⟩:=bB' hF
 refine rS (cJ (tZ _ _ _ hr2) ⟨⟨rfl,rfl,trivial⟩,rfl,trivial⟩ rfl (.inl rfl) (aQ SV 2 rfl ?_));cases h3:(!r2)
 ·have hF:=bF' h3 hF;refine aQ SV 3 rfl ?_;obtain⟨r4,hr4,hF⟩:=bB' hF
  exact aW SV rfl (cJ (tZ _ _ _ hr4) ⟨⟨rfl,rfl,trivial⟩,rfl,trivial⟩ rfl (.inl rfl) (QV rfl (join (!r4) _ _ hF sw)))
 have hF:=bT' h3 hF;exact QV rfl (join true _ _ hF sw)
def g0(p0:(List d3))(p1_0:aZ):Int→Option (Int ⊕ (Unit ⊕ Int)):=fun a12 =>
  (bif (decide (a12<(List.length p0:Int)))then((idx p0 a12).bind fun y17=>((tq y17 p1_0).bind fun r18=>(bif r18 then some (.inr (.inr a12))else some (.inl (w64 (a12+1))))))else some (.inr (.inl ())))
def i7(p0:(List d3))(p1_0:aZ):Option Int :=
  ((loop (g0 p0 p1_0) 0).bind fun | .inl _=>some (-1) | .inr rv=>some rv)
theorem Dq(p0:(List d3))(p1_0:aZ)(r:Int)(hF:i7 p0 p1_0=some r):Fun Tryz.prog 187 false [(8480,0)] [cL 7 cz p0,.c (.fn 133 [.ptr (8480,0)])] (aV [((8480,0),.box [jI p1_0.q0,jI p1_0.q9])]) (cI r) (aV [((8480,0),.box [jI p1_0.q0,jI p1_0.q9])]):=by
 refine fM [(8480,0)] (some [(8480,0)]) Tryz.func187 ?_
 unfold i7 at hF
 refine wA rfl (az (wC 1 rfl (rS (d0 (tc:=cz) p0 .tree (QV rfl (eZ (fun _ _ h=>h) hF (.inl) (fun a12=>[(0,cL 7 cz p0),(1,.c (.fn 133 [.ptr (8480,0)])),(7,cI (List.length p0:Int)),(8,cI a12)]) (fun a12=>[((8480,0),.box [jI p1_0.q0,jI p1_0.q9])]) (fun _=>[]) (fun _=>[((8480,0),.box [jI p1_0.q0,jI p1_0.q9])]) sw ?_ ?_))))))
 ·rintro⟨⟩ hF
  refine wA rfl ?_;cases hF
  exact bQ ⟨_,_,fq,_,rfl,rfl,⟨rfl,fun _=>rfl⟩,(AgM.weak ⟨rfl,trivial⟩)⟩
 rintro a12 x_0 hF cont_0 brk_0 fin_0
 unfold g0 at hF
 refine wA rfl (az (wIf hF rfl (fun _ hF=>?_) fun _ hF=>?_))
 ·refine aJ (az (c7 (wA rfl (wC 3 rfl ?_))));obtain⟨y17,hy17,hF⟩:=bB hF
  refine rS (dz (tc:=cz) p0 rfl rfl hy17 (aQ SV 1 rfl ?_));obtain⟨r18,hr18,hF⟩:=bB hF
  refine jj trivial (IX (I8 _ rfl bbX) (Q6 _ _ _ hr18) ⟨⟨rfl,rfl,rfl,rfl,rfl,rfl,rfl,trivial⟩,⟨_,rfl,⟨rfl,rfl,trivial⟩⟩,trivial⟩ rfl (.inl rfl) (QV rfl (wIf hF rfl (fun _ hF=>?_) fun _ hF=>?_)))
  ·refine wA rfl ?_;have hF:=fin_0 _ (oi hF);cases hF
   exact bQ ⟨_,_,fq,_,rfl,rfl,⟨rfl,fun _=>rfl⟩,(AgM.weak ⟨rfl,trivial⟩)⟩
  exact aJ (wB rfl (cont_0 _ _ _ (oi hF) sw))
 exact dK (aq (aq (bj (brk_0 _ _ _ (oi hF) sw))))
def fX(p0:(List d3))(p1_0:aZ):Option Bool :=
  ((i7 p0 p1_0).bind fun r1=>some (decide (0≤r1)))
theorem Bz(p0:(List d3))(p1_0:aZ)(r:Bool)(hF:fX p0 p1_0=some r):Fun Tryz.prog 132 false [(6280,0)] [cL 7 cz p0,.c (.fn 133 [.ptr (6280,0)])] (aV [((6280,0),.box [jI p1_0.q0,jI p1_0.q9])]) (cB r) (aV [((6280,0),.box [jI p1_0.q0,jI p1_0.q9])]):=by
 refine fM [(6280,0)] (some [(6280,0)]) Tryz.func132 ?_
 unfold fX at hF
 refine wA rfl (wC 2 rfl ?_);obtain⟨r1,hr1,hF⟩:=bB hF
 refine rS (vj [((8480,0),(6280,0))] rfl (Dq _ _ _ hr1) ⟨rfl,trivial⟩ rfl rfl (.inr ⟨.inl rfl,.inl rfl,trivial⟩) (QV rfl ?_));cases hF
 exact bQ ⟨_,_,fq,_,rfl,rfl,⟨rfl,fun _=>rfl⟩,(AgM.weak ⟨rfl,trivial⟩)⟩
def tx(p0:cY)(p1:aZ):Option Bool :=
  ((l3 p1 p0.j8).bind fun r1=>some (!r1))
theorem QX(p0:cY)(p1:aZ)(r:Bool)(hF:tx p0 p1=some r):Fun Tryz.prog 136 true [] [.agg (zZ p0),.c (.ptrI [tI p1.q0,tI p1.q9])] noHeap (cB r) noHeap:=by
 refine fW Tryz.func136 ?_
 unfold tx at hF
 refine wA rfl (wC 3 rfl ?_);obtain⟨r1,hr1,hF⟩:=bB hF
 refine rS (cJ (tZ _ _ _ hr1) ⟨⟨rfl,rfl,trivial⟩,rfl,trivial⟩ rfl (.inl rfl) (QV rfl ?_));cases hF
 exact bQ wR
def f9(p0:(List cY))(p1_0:aZ):Int→Option (Int ⊕ (Unit ⊕ Int)):=fun a12 =>
  (bif (decide (a12<(List.length p0:Int)))then((idx p0 a12).bind fun y17=>((tx y17 p1_0).bind fun r18=>(bif r18 then some (.inr (.inr a12))else some (.inl (w64 (a12+1))))))else some (.inr (.inl ())))
def gZ(p0:(List cY))(p1_0:aZ):Option Int :=
  ((loop (f9 p0 p1_0) 0).bind fun | .inl _=>some (-1) | .inr rv=>some rv)
theorem AW(p0:(List cY))(p1_0:aZ)(r:Int)(hF:gZ p0 p1_0=some r):Fun Tryz.prog 188 false [(8520,0)] [cL 4 b9 p0,.c (.fn 136 [.ptr (8520,0)])] (aV [((8520,0),.box [jI p1_0.q0,jI p1_0.q9])]) (cI r) (aV [((8520,0),.box [jI p1_0.q0,jI p1_0.q9])]):=by
 refine fM [(8520,0)] (some [(8520,0)]) Tryz.func188 ?_
 unfold gZ at hF
 refine wA rfl (az (wC 1 rfl (rS (d0 (tc:=b9) p0 .tree (QV rfl (eZ (fun _ _ h=>h) hF (.inl) (fun a12=>[(0,cL 4 b9 p0),(1,.c (.fn 136 [.ptr (8520,0)])),(7,cI (List.length p0:Int)),(8,cI a12)]) (fun a12=>[((8520,0),.box [jI p1_0.q0,jI p1_0.q9])]) (fun _=>[]) (fun _=>[((8520,0),.box [jI p1_0.q0,jI p1_0.q9])]) sw ?_ ?_))))))
 ·rintro⟨⟩ hF
  refine wA rfl ?_;cases hF
  exact bQ ⟨_,_,fq,_,rfl,rfl,⟨rfl,fun _=>rfl⟩,(AgM.weak ⟨rfl,trivial⟩)⟩
 rintro a12 x_0 hF cont_0 brk_0 fin_0
 unfold f9 at hF
 refine wA rfl (az (wIf hF rfl (fun _ hF=>?_) fun _ hF=>?_))
 ·refine aJ (az (c7 (wA rfl (wC 3 rfl ?_))));obtain⟨y17,hy17,hF⟩:=bB hF
  refine rS (dz (tc:=b9) p0 rfl rfl hy17 (aQ SV 1 rfl ?_));obtain⟨r18,hr18,hF⟩:=bB hF
  refine jj trivial (IX (I8 _ rfl a9W) (QX _ _ _ hr18) ⟨⟨rfl,rfl,rfl,rfl,trivial⟩,⟨_,rfl,⟨rfl,rfl,trivial⟩⟩,trivial⟩ rfl (.inl rfl) (QV rfl (wIf hF rfl (fun _ hF=>?_) fun _ hF=>?_)))
  ·refine wA rfl ?_;have hF:=fin_0 _ (oi hF);cases hF
   exact bQ ⟨_,_,fq,_,rfl,rfl,⟨rfl,fun _=>rfl⟩,(AgM.weak ⟨rfl,trivial⟩)⟩
  exact aJ (wB rfl (cont_0 _ _ _ (oi hF) sw))
 exact dK (aq (aq (bj (brk_0 _ _ _ (oi hF) sw))))
def eX(p0:(List cY))(p1_0:aZ):Option Bool :=
  ((gZ p0 p1_0).bind fun r1=>some (decide (0≤r1)))
theorem yW(p0:(List cY))(p1_0:aZ)(r:Bool)(hF:eX p0 p1_0=some r):Fun Tryz.prog 135 false [(6400,0)] [cL 4 b9 p0,.c (.fn 136 [.ptr (6400,0)])] (aV [((6400,0),.box [jI p1_0.q0,jI p1_0.q9])]) (cB r) (aV [((6400,0),.box [jI p1_0.q0,jI p1_0.q9])]):=by
 refine fM [(6400,0)] (some [(6400,0)]) Tryz.func135 ?_
 unfold eX at hF
 refine wA rfl (wC 2 rfl ?_);obtain⟨r1,hr1,hF⟩:=bB hF
 refine rS (vj [((8520,0),(6400,0))] rfl (AW _ _ _ hr1) ⟨rfl,trivial⟩ rfl rfl (.inr ⟨.inl rfl,.inl rfl,trivial⟩) (QV rfl ?_));cases hF
 exact bQ ⟨_,_,fq,_,rfl,rfl,⟨rfl,fun _=>rfl⟩,(AgM.weak ⟨rfl,trivial⟩)⟩
def tj(p0:cV)(p1:aZ):Option Bool :=
  ((l3 p1 p0.j8).bind fun r1=>some (!r1))
theorem P9(p0:cV)(p1:aZ)(r:Bool)(hF:tj p0 p1=some r):Fun Tryz.prog 138 true [] [.agg (E0 p0),.c (.ptrI [tI p1.q0,tI p1.q9])] noHeap (cB r) noHeap:=by
 refine fW Tryz.func138 ?_
 unfold tj at hF
 refine wA rfl (wC 3 rfl ?_);obtain⟨r1,hr1,hF⟩:=bB hF
 refine rS (cJ (tZ _ _ _ hr1) ⟨⟨rfl,rfl,trivial⟩,rfl,trivial⟩ rfl (.inl rfl) (QV rfl ?_));cases hF
 exact bQ wR
def iq(p0:(List cV))(p1_0:aZ):Int→Option (Int ⊕ (Unit ⊕ Int)):=fun a12 =>
  (bif (decide (a12<(List.length p0:Int)))then((idx p0 a12).bind fun y17=>((tj y17 p1_0).bind fun r18=>(bif r18 then some (.inr (.inr a12))else some (.inl (w64 (a12+1))))))else some (.inr (.inl ())))
def i8(p0:(List cV))(p1_0:aZ):Option Int :=
  ((loop (iq p0 p1_0) 0).bind fun | .inl _=>some (-1) | .inr rv=>some rv)
theorem C4(p0:(List cV))(p1_0:aZ)(r:Int)(hF:i8 p0 p1_0=some r):Fun Tryz.prog 189 false [(8560,0)] [cL 3 bX p0,.c (.fn 138 [.ptr (8560,0)])] (aV [((8560,0),.box [jI p1_0.q0,jI p1_0.q9])]) (cI r) (aV [((8560,0),.box [jI p1_0.q0,jI p1_0.q9])]):=by
 refine fM [(8560,0)] (some [(8560,0)]) Tryz.func189 ?_
 unfold i8 at hF
 refine wA rfl (az (wC 1 rfl (rS (d0 (tc:=bX) p0 .tree (QV rfl (eZ (fun _ _ h=>h) hF (.inl) (fun a12=>[(0,cL 3 bX p0),(1,.c (.fn 138 [.ptr (8560,0)])),(7,cI (List.length p0:Int)),(8,cI a12)]) (fun a12=>[((8560,0),.box [jI p1_0.q0,jI p1_0.q9])]) (fun _=>[]) (fun _=>[((8560,0),.box [jI p1_0.q0,jI p1_0.q9])]) sw ?_ ?_))))))
 ·rintro⟨⟩ hF
  refine wA rfl ?_;cases hF
  exact bQ ⟨_,_,fq,_,rfl,rfl,⟨rfl,fun _=>rfl⟩,(AgM.weak ⟨rfl,trivial⟩)⟩
 rintro a12 x_0 hF cont_0 brk_0 fin_0
 unfold iq at hF
 refine wA rfl (az (wIf hF rfl (fun _ hF=>?_) fun _ hF=>?_))
 ·refine aJ (az (c7 (wA rfl (wC 3 rfl ?_))));obtain⟨y17,hy17,hF⟩:=bB hF
  refine rS (dz (tc:=bX) p0 rfl rfl hy17 (aQ SV 1 rfl ?_));obtain⟨r18,hr18,hF⟩:=bB hF
  refine jj trivial (IX (I8 _ rfl a9V) (P9 _ _ _ hr18) ⟨⟨rfl,rfl,rfl,trivial⟩,⟨_,rfl,⟨rfl,rfl,trivial⟩⟩,trivial⟩ rfl (.inl rfl) (QV rfl (wIf hF rfl (fun _ hF=>?_) fun _ hF=>?_)))
  ·refine wA rfl ?_;have hF:=fin_0 _ (oi hF);cases hF
   exact bQ ⟨_,_,fq,_,rfl,rfl,⟨rfl,fun _=>rfl⟩,(AgM.weak ⟨rfl,trivial⟩)⟩
  exact aJ (wB rfl (cont_0 _ _ _ (oi hF) sw))
 exact dK (aq (aq (bj (brk_0 _ _ _ (oi hF) sw))))
def fQ(p0:(List cV))(p1_0:aZ):Option Bool :=
  ((i8 p0 p1_0).bind fun r1=>some (decide (0≤r1)))
theorem BX(p0:(List cV))(p1_0:aZ)(r:Bool)(hF:fQ p0 p1_0=some r):Fun Tryz.prog 137 false [(6480,0)] [cL 3 bX p0,.c (.fn 138 [.ptr (6480,0)])] (aV [((6480,0),.box [jI p1_0.q0,jI p1_0.q9])]) (cB r) (aV [((6480,0),.box [jI p1_0.q0,jI p1_0.q9])]):=by
 refine fM [(6480,0)] (some [(6480,0)]) Tryz.func137 ?_
 unfold fQ at hF
 refine wA rfl (wC 2 rfl ?_);obtain⟨r1,hr1,hF⟩:=bB hF
 refine rS (vj [((8560,0),(6480,0))] rfl (C4 _ _ _ hr1) ⟨rfl,trivial⟩ rfl rfl (.inr ⟨.inl rfl,.inl rfl,trivial⟩) (QV rfl ?_));cases hF
 exact bQ ⟨_,_,fq,_,rfl,rfl,⟨rfl,fun _=>rfl⟩,(AgM.weak ⟨rfl,trivial⟩)⟩
def DQ(p0:a0):Option Bool :=
  ((((eY p0.z3 p0.q5).bind fun r2=>(bif r2 then some true else((eK p0.z8 p0.q5).bind fun r4=>(bif r4 then some true else((eV p0.z5 p0.q5).bind fun r6=>(bif r6 then some true else((fX p0.z6 p0.q5).bind fun r8=>(bif r8 then some true else((eX p0.z2 p0.q5).bind fun r10=>(bif r10 then some true else((fQ p0.j4 p0.q5).bind fun r12=>some r12))))))))))):Option Bool).bind fun v1=>some v1)
theorem X3(p0:a0)(r:Bool)(hF:DQ p0=some r):Fun Tryz.prog 40 true [] [.agg (bq p0)] noHeap (cB r) noHeap:=by
 refine fW Tryz.func40 ?_
 unfold DQ at hF
 refine wA rfl (wA rfl (az (cW (fun _ _ h=>h) hF (fun v1=>[(2,cB v1)]) (fun v1=>[]) ?_ ?_)))
 ·rintro v1 hF
  cases hF
  exact bQ wR
 intro join hF
 refine wD 3 rfl ?_;obtain⟨r2,hr2,hF⟩:=bB' hF
 refine rS (vj [((6000,0),(3,0))] rfl (Az _ _ _ hr2) ⟨rfl,trivial⟩ rfl rfl (.inr ⟨.inl rfl,.inl rfl,trivial⟩) (aQ SV 1 rfl ?_));cases h3:r2
 ·have hF:=bF' h3 hF;refine aQ SV 3 rfl ?_;obtain⟨r4,hr4,hF⟩:=bB' hF
  refine aW SV rfl (vj [((6120,0),(3,0))] rfl (AJ _ _ _ hr4) ⟨rfl,trivial⟩ rfl rfl (.inr ⟨.inl rfl,.inl rfl,trivial⟩) (aQ SV 2 rfl ?_))
  cases h5:r4
  ·have hF:=bF' h5 hF;refine aQ SV 3 rfl ?_;obtain⟨r6,hr6,hF⟩:=bB' hF
   refine aW SV rfl (vj [((6200,0),(3,0))] rfl (AX _ _ _ hr6) ⟨rfl,trivial⟩ rfl rfl (.inr ⟨.inl rfl,.inl rfl,trivial⟩) (aQ SV 2 rfl ?_))
   cases h7:r6
   ·have hF:=bF' h7 hF;refine aQ SV 3 rfl ?_;obtain⟨r8,hr8,hF⟩:=bB' hF
    refine aW SV rfl (vj [((6280,0),(3,0))] rfl (Bz _ _ _ hr8) ⟨rfl,trivial⟩ rfl rfl (.inr ⟨.inl rfl,.inl rfl,trivial⟩) (aQ SV 2 rfl ?_));cases h9:r8
    ·have hF:=bF' h9 hF;refine aQ SV 3 rfl ?_;obtain⟨r10,hr10,hF⟩:=bB' hF
     refine aW SV rfl (vj [((6400,0),(3,0))] rfl (yW _ _ _ hr10) ⟨rfl,trivial⟩ rfl rfl (.inr ⟨.inl rfl,.inl rfl,trivial⟩) (aQ SV 2 rfl ?_))
     cases h11:r10
     ·have hF:=bF' h11 hF;refine aQ SV 3 rfl ?_;obtain⟨r12,hr12,hF⟩:=bB' hF
      exact aW SV rfl (vj [((6480,0),(3,0))] rfl (BX _ _ _ hr12) ⟨rfl,trivial⟩ rfl rfl (.inr ⟨.inl rfl,.inl rfl,trivial⟩) (QV rfl (join r12 _ _ hF sw)))
     have hF:=bT' h11 hF;exact QV rfl (join true _ _ hF sw)
    have hF:=bT' h9 hF;exact QV rfl (join true _ _ hF sw)
   have hF:=bT' h7 hF;exact QV rfl (join true _ _ hF sw)
  have hF:=bT' h5 hF;exact QV rfl (join true _ _ hF sw)
 have hF:=bT' h3 hF;exact QV rfl (join true _ _ hF sw)
def Cz(p0:a0):Option Int :=
  ((FX p0).bind fun r1=>(bif (!decide (r1=0))then some r1 else(((bif (decide (p0.q5.q0<0))then some true else(bif (decide (p0.q5.q9<p0.q5.q0))then some true else some (decide (1000000000000<p0.q5.q9)))):Option Bool).bind fun v2=>(bif v2 then some 2 else((DQ p0).bind fun r3=>(bif r3 then some 10 else some 0))))))
theorem Rz(p0:a0)(r:Int)(hF:Cz p0=some r):Fun Tryz.prog 13 true [] [.agg (bq p0)] noHeap (cI r) noHeap:=by
 refine fW Tryz.func13 ?_
 unfold Cz at hF
 refine wA rfl (az (wC 1 rfl ?_));obtain⟨r1,hr1,hF⟩:=bB hF
 refine rS (cJ (aaV _ _ hr1) ⟨⟨rfl,rfl,rfl,rfl,rfl,rfl,rfl,rfl,rfl,rfl,trivial⟩,trivial⟩ rfl (.inl rfl) (QV rfl (wA rfl (wIf hF rfl (fun _ hF=>?_) fun _ hF=>?_))))
 ·refine wA rfl ?_;cases hF
  exact bQ wR
 refine aJ (az (az (cW (fun _ _ h=>h) hF (fun v2=>[(1,cP (1,0) 0),(27,cB v2)]) (fun v2=>[((1,0),.box (bq p0))]) ?_ ?_)))
 ·rintro v2 hF
  refine wIf hF rfl (fun _ hF=>?_) fun _ hF=>?_
  ·refine wA rfl ?_;cases hF
   exact bQ wR
  refine aJ (az (wC 1 rfl ?_));obtain⟨r3,hr3,hF⟩:=bB hF
  refine rS (cJ (X3 _ _ hr3) ⟨⟨rfl,rfl,rfl,rfl,rfl,rfl,rfl,rfl,rfl,rfl,trivial⟩,trivial⟩ rfl (.inl rfl) (QV rfl (wIf hF rfl (fun _ hF=>?_) fun _ hF=>?_)))
  ·refine wA rfl ?_;cases hF
   exact bQ wR
  refine aJ (wA rfl ?_);cases hF
  exact bQ wR
 intro join hF
 refine wD 5 rfl ?_;cases h6:(decide (p0.q5.q0<0))
 ·have hF:=bF' h6 hF;refine aQ SV 9 rfl ?_;cases h7:(decide (p0.q5.q9<p0.q5.q0))
  ·have hF:=bF' h7 hF;exact QV rfl (join (decide (1000000000000<p0.q5.q9)) _ _ hF sw)
  have hF:=bT' h7 hF;exact QV rfl (join true _ _ hF sw)
 have hF:=bT' h6 hF;exact QV rfl (join true _ _ hF sw)
def F5(p0:Int):Int→Option (Int ⊕ (Unit ⊕ Bool)):=fun a11 =>
  (bif (decide (a11<(ByteArray.size (⟨#[95,46,58,47,60,62,36,42,126,45]⟩ : ByteArray):Int)))then((idx (ByteArray.data (⟨#[95,46,58,47,60,62,36,42,126,45]⟩ : ByteArray)).toList a11).bind fun y15=>(bif (decide ((UInt8.toNat y15:Int)=p0))then some (.inr (.inr true))else some (.inl (w64 (a11+1)))))else some (.inr (.inl ())))
def s7(p0:Int):Option Bool :=
  (((bif (decide (97≤p0))then(bif (decide (p0≤122))then some true else(bif (decide (65≤p0))then(bif (decide (p0≤90))then some true else(bif (decide (48≤p0))then some (decide (p0≤57))else some false))else(bif (decide (48≤p0))then some (decide (p0≤57))else some false)))else(bif (decide (65≤p0))then(bif (decide (p0≤90))then some true else(bif (decide (48≤p0))then some (decide (p0≤57))else some false))else(bif (decide (48≤p0))then some (decide (p0≤57))else some false))):Option Bool).bind fun v1=>(bif v1 then some true else((loop (F5 p0) 0).bind fun | .inl _=>some false | .inr rv=>some rv)))
theorem M3(p0:Int)(r:Bool)(hF:s7 p0=some r):Fun Tryz.prog 225 true [] [.c (.imm (.sc (.int .u8 p0)))] noHeap (cB r) noHeap:=by
 refine Fun.of_walk0 Tryz.func225 bkx (by kernel_rfl) (rs:=[.tmp 2]) (by kernel_rfl) ?_;unfold bhY
 unfold s7 at hF
 refine wA rfl (az (az (cW (fun _ _ h=>h) hF (fun v1=>[(0,.c (.imm (.sc (.int .u8 p0)))),(26,cB v1)]) (fun v1=>[]) ?_ ?_)))
 ·rintro v1 hF
  refine wIf hF rfl (fun _ hF=>?_) fun _ hF=>?_
  ·refine wA rfl ?_;cases hF
   exact bQ wR
  refine aJ (wA rfl (az (wA rfl (eZ (fun _ _ h=>h) hF (.inl) (fun a11=>[(0,.c (.imm (.sc (.int .u8 p0)))),(3,.c (jS (⟨#[95,46,58,47,60,62,36,42,126,45]⟩ : ByteArray))),(4,cI a11)]) (fun a11=>[]) (fun _=>[]) (fun _=>[]) sw ?_ ?_))))
  ·rintro⟨⟩ hF
   refine wA rfl ?_;cases hF
   exact bQ wR
  rintro a11 x_0 hF cont_0 brk_0 fin_0
  unfold F5 at hF
  refine az (wA rfl (wIf hF rfl (fun _ hF=>?_) fun _ hF=>?_))
  ·refine aJ (az (c7 (wC 2 rfl ?_)));obtain⟨y15,hy15,hF⟩:=bB hF
   refine rS (a1x (⟨#[95,46,58,47,60,62,36,42,126,45]⟩ : ByteArray) rfl rfl hy15 (QV rfl (wIf hF rfl (fun _ hF=>?_) fun _ hF=>?_)))
   ·refine wA rfl ?_;have hF:=fin_0 _ (oi hF);cases hF
    exact bQ wR
   exact aJ (wB rfl (cont_0 _ _ _ (oi hF) sw))
  exact dK (aq (aq (bj (brk_0 _ _ _ (oi hF) sw))))
 intro join hF
 refine wD 3 rfl ?_;cases h19:(decide (97≤p0))
 ·have hF:=bF' h19 hF;refine aQ SV 7 rfl ?_;cases h20:(decide (65≤p0))
  ·have hF:=bF' h20 hF;refine aQ SV 8 rfl ?_;cases h21:(decide (48≤p0))
   ·have hF:=bF' h21 hF;exact QV rfl (join false _ _ hF sw)
   have hF:=bT' h21 hF;exact QV rfl (join (decide (p0≤57)) _ _ hF sw)
  have hF:=bT' h20 hF;refine aQ SV 5 rfl ?_;cases h22:(decide (p0≤90))
  ·have hF:=bF' h22 hF;refine aQ SV 3 rfl ?_;cases h23:(decide (48≤p0))
   ·have hF:=bF' h23 hF;exact QV rfl (join false _ _ hF sw)
   have hF:=bT' h23 hF;exact QV rfl (join (decide (p0≤57)) _ _ hF sw)
  have hF:=bT' h22 hF;exact QV rfl (join true _ _ hF sw)
 have hF:=bT' h19 hF;refine aQ SV 4 rfl ?_;cases h24:(decide (p0≤122))
 ·have hF:=bF' h24 hF;refine aQ SV 3 rfl ?_;cases h25:(decide (65≤p0))
  ·have hF:=bF' h25 hF;refine aQ SV 8 rfl ?_;cases h26:(decide (48≤p0))
   ·have hF:=bF' h26 hF;exact QV rfl (join false _ _ hF sw)
   have hF:=bT' h26 hF;exact QV rfl (join (decide (p0≤57)) _ _ hF sw)
  have hF:=bT' h25 hF;refine aQ SV 5 rfl ?_;cases h27:(decide (p0≤90))
  ·have hF:=bF' h27 hF;refine aQ SV 3 rfl ?_;cases h28:(decide (48≤p0))
   ·have hF:=bF' h28 hF;exact QV rfl (join false _ _ hF sw)
   have hF:=bT' h28 hF;exact QV rfl (join (decide (p0≤57)) _ _ hF sw)
  have hF:=bT' h27 hF;exact QV rfl (join true _ _ hF sw)
 have hF:=bT' h24 hF;exact QV rfl (join true _ _ hF sw)
def wY(p0:ByteArray):Int→Option (Int ⊕ (Unit ⊕ Int)):=fun a13 =>
  (bif (decide (a13<(ByteArray.size p0:Int)))then((idx (ByteArray.data p0).toList a13).bind fun y18=>((s7 (UInt8.toNat y18:Int)).bind fun r19=>(bif (!r19)then some (.inr (.inr 3))else some (.inl (w64 (a13+1))))))else some (.inr (.inl ())))
def mQ(p0:ByteArray):Option Int :=
  (((bif (decide ((ByteArray.size p0:Int)<1))then some true else some (decide (40<(ByteArray.size p0:Int)))):Option Bool).bind fun v1=>(bif v1 then some 3 else((loop (wY p0) 0).bind fun | .inl _=>some 0 | .inr rv=>some rv)))
theorem vY(p0:ByteArray)(r:Int)(hF:mQ p0=some r):Fun Tryz.prog 191 true [] [.c (jS p0)] noHeap (cI r) noHeap:=by
 refine fW Tryz.func191 ?_
 unfold mQ at hF
 refine wA rfl (az (az (cW (fun _ _ h=>h) hF (fun v1=>[(0,.c (jS p0)),(11,cB v1)]) (fun v1=>[]) ?_ ?_)))
 ·rintro v1 hF
  refine wIf hF rfl (fun _ hF=>?_) fun _ hF=>?_
  ·refine wA rfl ?_;cases hF
   exact bQ wR
  refine aJ (az (wA rfl (eZ (fun _ _ h=>h) hF (.inl) (fun a13=>[(0,.c (jS p0)),(3,cI a13)]) (fun a13=>[]) (fun _=>[]) (fun _=>[]) sw ?_ ?_)))
  ·rintro⟨⟩ hF
   refine wA rfl ?_;cases hF
   exact bQ wR
  rintro a13 x_0 hF cont_0 brk_0 fin_0
  unfold wY at hF
  refine az (wA rfl (wIf hF rfl (fun _ hF=>?_) fun _ hF=>?_))
  ·refine aJ (az (c7 (wC 2 rfl ?_)));obtain⟨y18,hy18,hF⟩:=bB hF
   refine rS (a1x p0 rfl rfl hy18 ?_);obtain⟨r19,hr19,hF⟩:=bB hF
   refine rS (cJ (M3 _ _ hr19) ⟨rfl,trivial⟩ rfl (.inl rfl) (QV rfl (wIf hF rfl (fun _ hF=>?_) fun _ hF=>?_)))
   ·refine wA rfl ?_;have hF:=fin_0 _ (oi hF);cases hF
    exact bQ wR
   exact aJ (wB rfl (cont_0 _ _ _ (oi hF) sw))
  exact dK (aq (aq (bj (brk_0 _ _ _ (oi hF) sw))))
 intro join hF
 refine wD 4 rfl ?_;cases h23:(decide ((ByteArray.size p0:Int)<1))
 ·have hF:=bF' h23 hF;exact QV rfl (join (decide (40<(ByteArray.size p0:Int))) _ _ hF sw)
 have hF:=bT' h23 hF;exact QV rfl (join true _ _ hF sw)
def sJ(p0:dW):Option Int :=
  (((bif (decide (p0.w5<0))then some true else(bif (decide (1000000000000000<p0.w5))then some true else(bif (decide (p0.x3<0))then some true else some (decide (8≤p0.x3))))):Option Bool).bind fun v1=>(bif v1 then some 2 else((mQ p0.q8).bind fun r2=>some r2)))
theorem M1(p0:dW)(r:Int)(hF:sJ p0=some r):Fun Tryz.prog 143 true [] [.agg (J7 p0)] noHeap (cI r) noHeap:=by
 refine fW Tryz.func143 ?_
 unfold sJ at hF
 refine wA rfl (az (az (cW (fun _ _ h=>h) hF (fun v1=>[(1,cP (1,0) 0),(20,cB v1)]) (fun v1=>[((1,0),.box (J7 p0))]) ?_ ?_)))
 ·rintro v1 hF
  refine wIf hF rfl (fun _ hF=>?_) fun _ hF=>?_
  ·refine wA rfl ?_;cases hF
   exact bQ wR
  refine aJ (wC 2 rfl ?_);obtain⟨r2,hr2,hF⟩:=bB hF
  refine rS (cJ (vY _ _ hr2) ⟨rfl,trivial⟩ rfl (.inl rfl) (QV rfl ?_));cases hF
  exact bQ wR
 intro join hF
 refine wD 4 rfl ?_;cases h4:(decide (p0.w5<0))
 ·have hF:=bF' h4 hF;refine aQ SV 5 rfl ?_;cases h5:(decide (1000000000000000<p0.w5))
  ·have hF:=bF' h5 hF;refine aQ SV 5 rfl ?_;cases h6:(decide (p0.x3<0))
   ·have hF:=bF' h6 hF;exact QV rfl (join (decide (8≤p0.x3)) _ _ hF sw)
   have hF:=bT' h6 hF;exact QV rfl (join true _ _ hF sw)
  have hF:=bT' h5 hF;exact QV rfl (join true _ _ hF sw)
 have hF:=bT' h4 hF;exact QV rfl (join true _ _ hF sw)
def nZ(p0:aZ):Option Bool :=
  (((bif (decide (0≤p0.q0))then(bif (decide (p0.q0<p0.q9))then some (decide (p0.q9≤1000000000000))else some false)else some false):Option Bool).bind fun v1=>some v1)
theorem uz(p0:aZ)(r:Bool)(hF:nZ p0=some r):Fun Tryz.prog 63 true [] [.agg [jI p0.q0,jI p0.q9]] noHeap (cB r) noHeap:=by
 refine fW Tryz.func63 ?_
 unfold nZ at hF
 refine wA rfl (az (cW (fun _ _ h=>h) hF (fun v1=>[(2,cB v1)]) (fun v1=>[]) ?_ ?_))
 ·rintro v1 hF
  cases hF
  exact bQ wR
 intro join hF
 refine wD 4 rfl ?_;cases h2:(decide (0≤p0.q0))
 ·have hF:=bF' h2 hF;exact QV rfl (join false _ _ hF sw)
 have hF:=bT' h2 hF;refine aQ SV 7 rfl ?_;cases h3:(decide (p0.q0<p0.q9))
 ·have hF:=bF' h3 hF;exact QV rfl (join false _ _ hF sw)
 have hF:=bT' h3 hF;exact QV rfl (join (decide (p0.q9≤1000000000000)) _ _ hF sw)
def m9(p0:aY)(p1:aY):Option Bool :=
  (bif (!decide (p0.q5.q0=p1.q5.q0))then some (decide (p0.q5.q0<p1.q5.q0))else(bif (!decide (p0.q5.q9=p1.q5.q9))then some (decide (p1.q5.q9<p0.q5.q9))else some (decide (p0.q6<p1.q6))))
theorem J9(p0:aY)(p1:aY)(r:Bool)(hF:m9 p0 p1=some r):Fun Tryz.prog 170 true [] [.agg (qq p0),.agg (qq p1)] noHeap (cB r) noHeap:=by
 refine fW Tryz.func170 ?_
 unfold m9 at hF
 refine wA rfl (az (c7 (wA rfl (wIf hF rfl (fun _ hF=>?_) fun _ hF=>?_))))
 ·refine wA rfl ?_;cases hF
  exact bQ wR
 refine wA rfl (wIf hF rfl (fun _ hF=>?_) fun _ hF=>?_)
 ·refine wA rfl ?_;cases hF
  exact bQ wR
 refine aJ (wA rfl ?_);cases hF
 exact bQ wR
def vX(p0:aZ)(p1:aZ):Option Bool :=
  (((bif (decide (p0.q0≤p1.q0))then some (decide (p1.q9≤p0.q9))else some false):Option Bool).bind fun v1=>some v1)
theorem KQ(p0:aZ)(p1:aZ)(r:Bool)(hF:vX p0 p1=some r):Fun Tryz.prog 259 true [] [.agg [jI p0.q0,jI p0.q9],.agg [jI p1.q0,jI p1.q9]] noHeap (cB r) noHeap:=by
 refine fW Tryz.func259 ?_
 unfold vX at hF
 refine wA rfl (az (cW (fun _ _ h=>h) hF (fun v1=>[(4,cB v1)]) (fun v1=>[]) ?_ ?_))
 ·rintro v1 hF
  cases hF
  exact bQ wR
 intro join hF
 refine wD 6 rfl ?_;cases h2:(decide (p0.q0≤p1.q0))
 ·have hF:=bF' h2 hF;exact QV rfl (join false _ _ hF sw)
 have hF:=bT' h2 hF;exact QV rfl (join (decide (p1.q9≤p0.q9)) _ _ hF sw)
def B3(p0:(List aY))(p1:Int):Int→Option (Int ⊕ Int):=fun a12 =>
  (((bif (decide (0≤a12))then some (decide (p1<a12))else some false):Option Bool).bind fun v18=>(bif v18 then((idx p0 a12).bind fun y19=>some (.inl y19.z1))else some (.inr a12)))
def uW(p0:(List aY))(p1:Int)(p2:Int):Option Bool :=
  ((loop (B3 p0 p1) p2).bind fun e17=>some (decide (p1=e17)))
theorem Ox(p0:(List aY))(p1:Int)(p2:Int)(r:Bool)(hF:uW p0 p1 p2=some r):Fun Tryz.prog 260 true [] [cL 8 aj p0,cI p1,cI p2] noHeap (cB r) noHeap:=by
 refine fW Tryz.func260 ?_
 unfold uW at hF
 refine wA rfl (az (eZ (fun _ _ h=>h) hF (id) (fun a12=>[(0,cL 8 aj p0),(1,cI p1),(2,cI a12)]) (fun a12=>[]) (fun e17=>[(1,cI p1),(2,cI e17)]) (fun e17=>[]) sw ?_ ?_))
 ·rintro e17 hF
  refine wA rfl ?_;cases hF
  exact bQ wR
 rintro a12 x_0 hF cont_0 brk_0 fin_0
 unfold B3 at hF
 refine az (az (cW (fun _ _ h=>h) hF (fun v18=>[(0,cL 8 aj p0),(1,cI p1),(2,cI a12),(13,cB v18)]) (fun v18=>[]) ?_ ?_))
 ·rintro v18 hF
  refine wIf hF rfl (fun _ hF=>?_) fun _ hF=>?_
  ·refine aJ (c7 (wD 2 rfl ?_));obtain⟨y19,hy19,hF⟩:=bB hF
   exact rS (dz (tc:=aj) p0 rfl rfl hy19 (QV rfl (cont_0 _ _ _ (oi hF) sw)))
  exact dK (aq (aq (bj (brk_0 _ _ _ (oi hF) sw))))
 intro join hF
 refine wD 3 rfl ?_;cases h21:(decide (0≤a12))
 ·have hF:=bF' h21 hF;exact QV rfl (join false _ _ hF sw)
 have hF:=bT' h21 hF;exact QV rfl (join (decide (p1<a12)) _ _ hF sw)
def Aq(p0:(List aY))(a259:Int):(Int×Int)→Option ((Int×Int) ⊕ (Int ⊕ (Int ⊕ (Unit ⊕ Bool)))):=fun(a402,a403) =>
  (bif (decide (a403<(List.length p0:Int)))then((idx p0 a403).bind fun y427=>(((bif (decide (y427.z1=a259))then((idx p0 a403).bind fun y443=>((idx p0 a403).bind fun y444=>some (w64 (a402-(w64 (y443.q5.q9-y444.q5.q0))))))else some a402):Option Int).bind fun v428=>((((idx p0 a259).bind fun y438=>((idx p0 a403).bind fun y439=>(bif (decide (y438.q5.q0<y439.q5.q9))then((idx p0 a403).bind fun y441=>((idx p0 a259).bind fun y442=>some (decide (y441.q5.q0<y442.q5.q9))))else some false))):Option Bool).bind fun v429=>(((bif (decide (a259<a403))then((idx p0 a259).bind fun y433=>((idx p0 a403).bind fun y434=>(bif (decide (y433.q6=y434.q6))then(bif v429 then((uW p0 a259 a403).bind fun r437=>some (!r437))else some false)else some false)))else some false):Option Bool).bind fun v430=>(bif v430 then some (.inr (.inr (.inr (.inr false))))else some (.inl (v428,(w64 (a403+1)))))))))else some (.inr (.inl a402)))
def tW(p0:(List aY)):Int→Option (Int ⊕ (Unit ⊕ Bool)):=fun a259 =>
  (bif (decide (a259<(List.length p0:Int)))then((idx p0 a259).bind fun y354=>((idx p0 a259).bind fun y355=>((loop (Aq p0 a259) ((w64 (y354.q5.q9-y355.q5.q0)),0)).bind fun | .inl e424=>((idx p0 a259).bind fun y425=>(bif (!decide (y425.j9=e424))then some (.inr (.inr false))else some (.inl (w64 (a259+1))))) | .inr rv=>some rv)))else some (.inr (.inl ())))
def uQ(p0:(List aY)):Int→Option (Int ⊕ (Unit ⊕ Bool)):=fun a46 =>
  (bif (decide (a46<(List.length p0:Int)))then((idx p0 a46).bind fun y448=>(((bif (decide (y448.z1<(-1)))then some true else some (decide (a46≤y448.z1))):Option Bool).bind fun v449=>(bif v449 then some (.inr (.inr false))else(((bif (decide (y448.z1=(-1)))then((idx p0 a46).bind fun y465=>some (!decide (y465.z9=0)))else some false):Option Bool).bind fun v450=>(bif v450 then some (.inr (.inr false))else(((bif (decide (0≤y448.z1))then((idx p0 y448.z1).bind fun y454=>((idx p0 a46).bind fun y455=>(bif (!decide (y454.q6=y455.q6))then some true else((idx p0 y448.z1).bind fun y457=>((idx p0 a46).bind fun y458=>((vX y457.q5 y458.q5).bind fun r459=>(bif (!r459)then some true else((idx p0 a46).bind fun y461=>((idx p0 y448.z1).bind fun y462=>some (!decide (y461.z9=(w64 (y462.z9+1)))))))))))))else some false):Option Bool).bind fun v451=>(bif v451 then some (.inr (.inr false))else some (.inl (w64 (a46+1))))))))))else some (.inr (.inl ())))
def yJ(p0:(List aY)):Option Bool :=
  ((loop (uQ p0) 0).bind fun | .inl _=>((loop (tW p0) 0).bind fun | .inl _=>some true | .inr rv=>some rv) | .inr rv=>some rv)
theorem M0(p0:(List aY))(r:Bool)(hF:yJ p0=some r):Fun Tryz.prog 226 true [] [cL 8 aj p0] noHeap (cB r) noHeap:=by
 refine fW Tryz.func226 ?_
 unfold yJ at hF
 refine wA rfl (az (wA rfl (eZ (fun _ _ h=>h) hF (.inl) (fun a46=>[(0,cL 8 aj p0),(3,cI a46)]) (fun a46=>[]) (fun _=>[(0,cL 8 aj p0)]) (fun _=>[]) sw ?_ ?_)))
 ·rintro⟨⟩ hF
  refine az (wA rfl (eZ (fun _ _ h=>h) hF (.inl) (fun a259=>[(0,cL 8 aj p0),(5,cI a259)]) (fun a259=>[]) (fun _=>[]) (fun _=>[]) sw ?_ ?_))
  ·rintro⟨⟩ hF
   refine wA rfl ?_;cases hF
   exact bQ wR
  rintro a259 x_0 hF cont_0 brk_0 fin_0
  unfold tW at hF
  refine az (wC 2 rfl (rS (d0 (tc:=aj) p0 .tree (QV rfl (wIf hF rfl (fun _ hF=>?_) fun _ hF=>?_)))))
  ·refine aJ (az (c7 (az (f7 (by decide) (by kernel_rfl) rfl (aQ SP 2 rfl ?_)))));obtain⟨y354,hy354,hF⟩:=bB hF
   refine aW SP trivial (dz (tc:=aj) p0 rfl rfl hy354 (aQ SP 5 rfl ?_));obtain⟨y355,hy355,hF⟩:=bB hF
   refine aW SP trivial (dz (tc:=aj) p0 rfl rfl hy355 (QP rfl (az (wA rfl (eZ (fun _ _ h=>h) hF (.inl) (fun(a402,a403)=>[(0,cL 8 aj p0),(5,cI a259),(6,cI a402),(7,cI a403)]) (fun(a402,a403)=>[]) (fun e424=>[(0,cL 8 aj p0),(5,cI a259),(6,cI e424)]) (fun e424=>[]) sw ?_ ?_)))))
   ·rintro e424 hF
    refine wC 2 rfl ?_;obtain⟨y425,hy425,hF⟩:=bB hF
    refine rS (dz (tc:=aj) p0 rfl rfl hy425 (QV rfl (wIf hF rfl (fun _ hF=>?_) fun _ hF=>?_)))
    ·refine wA rfl ?_;have hF:=fin_0 _ (oi hF);cases hF
     exact bQ wR
    exact aJ (wB rfl (cont_0 _ _ _ (oi hF) sw))
   rintro⟨a402,a403⟩ x_1 hF cont_1 brk_1 fin_1
   unfold Aq at hF
   refine az (wC 2 rfl (rS (d0 (tc:=aj) p0 .tree (QV rfl (wIf hF rfl (fun _ hF=>?_) fun _ hF=>?_)))))
   ·refine aJ (az (c7 (az (wC 2 rfl ?_))));obtain⟨y427,hy427,hF⟩:=bB hF
    refine rS (dz (tc:=aj) p0 rfl rfl hy427 (QV rfl (cW (fun _ _ h=>h) hF (fun v428=>[(0,cL 8 aj p0),(5,cI a259),(6,cI v428),(7,cI a403)]) (fun v428=>[]) ?_ ?_)))
    ·rintro v428 hF
     refine az (cW (fun _ _ h=>h) hF (fun v429=>[(0,cL 8 aj p0),(5,cI a259),(6,cI v428),(7,cI a403),(8,cB v429)]) (fun v429=>[]) ?_ ?_)
     ·rintro v429 hF
      refine az (cW (fun _ _ h=>h) hF (fun v430=>[(0,cL 8 aj p0),(5,cI a259),(6,cI v428),(7,cI a403),(180,cB v430)]) (fun v430=>[]) ?_ ?_)
      ·rintro v430 hF
       refine wIf hF rfl (fun _ hF=>?_) fun _ hF=>?_
       ·refine wA rfl ?_;have hF:=fin_1 _ (oi hF);have hF:=fin_0 _ (oi hF);cases hF
        exact bQ wR
       exact aJ (wB rfl (cont_1 _ _ _ (oi hF) sw))
      intro join hF
      refine f7 (by decide) (by kernel_rfl) rfl (aQ SP 4 rfl ?_);cases h432:(decide (a259<a403))
      ·have hF:=bF' h432 hF;exact QP rfl (join false _ _ hF sw)
      have hF:=bT' h432 hF;refine aQ SP 2 rfl ?_;obtain⟨y433,hy433,hF⟩:=bB' hF
      refine aW SP rfl (dz (tc:=aj) p0 rfl rfl hy433 (aQ SP 4 rfl ?_));obtain⟨y434,hy434,hF⟩:=bB' hF
      refine aW SP rfl (dz (tc:=aj) p0 rfl rfl hy434 (aQ SP 5 rfl ?_));cases h435:(decide (y433.q6=y434.q6))
      ·have hF:=bF' h435 hF;exact QP rfl (join false _ _ hF sw)
      have hF:=bT' h435 hF;refine aQ SP 3 rfl ?_;cases h436:v429
      ·have hF:=bF' h436 hF;exact QP rfl (join false _ _ hF sw)
      have hF:=bT' h436 hF;refine aQ SP 3 rfl ?_;obtain⟨r437,hr437,hF⟩:=bB' hF
      exact aW SP rfl (cJ (Ox _ _ _ _ hr437) ⟨rfl,rfl,rfl,trivial⟩ rfl (.inl rfl) (QP rfl (join (!r437) _ _ hF sw)))
     intro join hF
     refine f7 (by decide) (by kernel_rfl) rfl (aQ SP 2 rfl ?_);obtain⟨y438,hy438,hF⟩:=bB' hF
     refine aW SP trivial (dz (tc:=aj) p0 rfl rfl hy438 (aQ SP 5 rfl ?_));obtain⟨y439,hy439,hF⟩:=bB' hF
     refine aW SP trivial (dz (tc:=aj) p0 rfl rfl hy439 (aQ SP 5 rfl ?_));cases h440:(decide (y438.q5.q0<y439.q5.q9))
     ·have hF:=bF' h440 hF;exact QP rfl (join false _ _ hF sw)
     have hF:=bT' h440 hF;refine aQ SP 2 rfl ?_;obtain⟨y441,hy441,hF⟩:=bB' hF
     refine aW SP rfl (dz (tc:=aj) p0 rfl rfl hy441 (aQ SP 5 rfl ?_));obtain⟨y442,hy442,hF⟩:=bB' hF
     exact aW SP rfl (dz (tc:=aj) p0 rfl rfl hy442 (QP rfl (join (decide (y441.q5.q0<y442.q5.q9)) _ _ hF sw)))
    intro join hF
    refine wX hF rfl (fun _ hF=>?_) fun _ hF=>?_
    ·refine f7 (by decide) (by kernel_rfl) rfl (aQ SP 3 rfl ?_);obtain⟨y443,hy443,hF⟩:=bB' hF
     refine aW SP trivial (dz (tc:=aj) p0 rfl rfl hy443 (aQ SP 5 rfl ?_));obtain⟨y444,hy444,hF⟩:=bB' hF
     exact aW SP trivial (dz (tc:=aj) p0 rfl rfl hy444 (QP rfl (join (w64 (a402-(w64 (y443.q5.q9-y444.q5.q0)))) _ _ hF sw)))
    exact aJ (join a402 _ _ hF sw)
   exact dK (aq (aq (bj (brk_1 _ _ _ (oi hF) sw))))
  exact dK (aq (aq (bj (brk_0 _ _ _ (oi hF) sw))))
 rintro a46 x_0 hF cont_0 brk_0 fin_0
 unfold uQ at hF
 refine az (wC 2 rfl (rS (d0 (tc:=aj) p0 .tree (QV rfl (wIf hF rfl (fun _ hF=>?_) fun _ hF=>?_)))))
 ·refine aJ (az (c7 (wC 2 rfl ?_)));obtain⟨y448,hy448,hF⟩:=bB hF
  refine rS (dz (tc:=aj) p0 rfl rfl hy448 (QV rfl (az (az (cW (fun _ _ h=>h) hF (fun v449=>[(0,cL 8 aj p0),(3,cI a46),(4,cI y448.z1),(26,cB v449)]) (fun v449=>[]) ?_ ?_)))))
  ·rintro v449 hF
   refine wIf hF rfl (fun _ hF=>?_) fun _ hF=>?_
   ·refine wA rfl ?_;have hF:=fin_0 _ (oi hF);cases hF
    exact bQ wR
   refine aJ (az (az (cW (fun _ _ h=>h) hF (fun v450=>[(0,cL 8 aj p0),(3,cI a46),(4,cI y448.z1),(36,cB v450)]) (fun v450=>[]) ?_ ?_)))
   ·rintro v450 hF
    refine wIf hF rfl (fun _ hF=>?_) fun _ hF=>?_
    ·refine wA rfl ?_;have hF:=fin_0 _ (oi hF);cases hF
     exact bQ wR
    refine aJ (az (cW (fun _ _ h=>h) hF (fun v451=>[(0,cL 8 aj p0),(3,cI a46),(79,cB v451)]) (fun v451=>[]) ?_ ?_))
    ·rintro v451 hF
     refine wIf hF rfl (fun _ hF=>?_) fun _ hF=>?_
     ·refine wA rfl ?_;have hF:=fin_0 _ (oi hF);cases hF
      exact bQ wR
     exact aJ (wB rfl (cont_0 _ _ _ (oi hF) sw))
    intro join hF
    refine f7 (by decide) (by kernel_rfl) rfl (aQ SP 3 rfl ?_);cases h453:(decide (0≤y448.z1))
    ·have hF:=bF' h453 hF;exact QP rfl (join false _ _ hF sw)
    have hF:=bT' h453 hF;refine aQ SP 2 rfl ?_;obtain⟨y454,hy454,hF⟩:=bB' hF
    refine aW SP rfl (dz (tc:=aj) p0 rfl rfl hy454 (aQ SP 4 rfl ?_));obtain⟨y455,hy455,hF⟩:=bB' hF
    refine aW SP rfl (dz (tc:=aj) p0 rfl rfl hy455 (aQ SP 4 rfl ?_));cases h456:(!decide (y454.q6=y455.q6))
    ·have hF:=bF' h456 hF;refine aQ SP 2 rfl ?_;obtain⟨y457,hy457,hF⟩:=bB' hF
     refine aW SP rfl (dz (tc:=aj) p0 rfl rfl hy457 (aQ SP 4 rfl ?_));obtain⟨y458,hy458,hF⟩:=bB' hF
     refine aW SP rfl (dz (tc:=aj) p0 rfl rfl hy458 (aQ SP 2 rfl ?_));obtain⟨r459,hr459,hF⟩:=bB' hF
     refine aW SP rfl (cJ (KQ _ _ _ hr459) ⟨⟨rfl,rfl,trivial⟩,⟨rfl,rfl,trivial⟩,trivial⟩ rfl (.inl rfl) (aQ SP 3 rfl ?_));cases h460:(!r459)
     ·have hF:=bF' h460 hF;refine aQ SP 2 rfl ?_;obtain⟨y461,hy461,hF⟩:=bB' hF
      refine aW SP rfl (dz (tc:=aj) p0 rfl rfl hy461 (aQ SP 4 rfl ?_));obtain⟨y462,hy462,hF⟩:=bB' hF
      exact aW SP rfl (dz (tc:=aj) p0 rfl rfl hy462 (QP rfl (join (!decide (y461.z9=(w64 (y462.z9+1)))) _ _ hF sw)))
     have hF:=bT' h460 hF;exact QP rfl (join true _ _ hF sw)
    have hF:=bT' h456 hF;exact QP rfl (join true _ _ hF sw)
   intro join hF
   refine wD 3 rfl ?_;cases h464:(decide (y448.z1=(-1)))
   ·have hF:=bF' h464 hF;exact QV rfl (join false _ _ hF sw)
   have hF:=bT' h464 hF;refine aQ SV 2 rfl ?_;obtain⟨y465,hy465,hF⟩:=bB' hF
   exact aW SV rfl (dz (tc:=aj) p0 rfl rfl hy465 (QV rfl (join (!decide (y465.z9=0)) _ _ hF sw)))
  intro join hF
  refine wD 3 rfl ?_;cases h467:(decide (y448.z1<(-1)))
  ·have hF:=bF' h467 hF;exact QV rfl (join (decide (a46≤y448.z1)) _ _ hF sw)
  have hF:=bT' h467 hF;exact QV rfl (join true _ _ hF sw)
 exact dK (aq (aq (bj (brk_0 _ _ _ (oi hF) sw))))
def vz(p0:(List aY)):Int→Option (Int ⊕ (Unit ⊕ Int)):=fun a40 =>
  (bif (decide (a40<(List.length p0:Int)))then((((idx p0 a40).bind fun y72=>(bif (decide (y72.q6<0))then some true else((idx p0 a40).bind fun y74=>(bif (decide (1000000000000000<y74.q6))then some true else((idx p0 a40).bind fun y76=>((nZ y76.q5).bind fun r77=>some (!r77))))))):Option Bool).bind fun v61=>(bif v61 then some (.inr (.inr 2))else((idx p0 a40).bind fun y62=>((mQ y62.q8).bind fun r63=>(bif (!decide (r63=0))then some (.inr (.inr r63))else(((bif (decide (0<a40))then((idx p0 a40).bind fun y67=>((idx p0 (w64 (a40-1))).bind fun y68=>((m9 y67 y68).bind fun r69=>some r69)))else some false):Option Bool).bind fun v64=>(bif v64 then some (.inr (.inr 11))else some (.inl (w64 (a40+1))))))))))else some (.inr (.inl ())))
def u5(p0:(List aY)):Option Int :=
  ((loop (vz p0) 0).bind fun | .inl _=>((yJ p0).bind fun r59=>(bif (!r59)then some 10 else some 0)) | .inr rv=>some rv)
theorem Oj(p0:(List aY))(r:Int)(hF:u5 p0=some r):Fun Tryz.prog 192 true [] [cL 8 aj p0] noHeap (cI r) noHeap:=by
 refine fW Tryz.func192 ?_
 unfold u5 at hF
 refine wA rfl (az (wA rfl (eZ (fun _ _ h=>h) hF (.inl) (fun a40=>[(0,cL 8 aj p0),(3,cI a40)]) (fun a40=>[]) (fun _=>[(0,cL 8 aj p0)]) (fun _=>[]) sw ?_ ?_)))
 ·rintro⟨⟩ hF
  refine az (wC 1 rfl ?_);obtain⟨r59,hr59,hF⟩:=bB hF
  refine rS (cJ (M0 _ _ hr59) ⟨rfl,trivial⟩ rfl (.inl rfl) (QV rfl (wIf hF rfl (fun _ hF=>?_) fun _ hF=>?_)))
  ·refine wA rfl ?_;cases hF
   exact bQ wR
  refine aJ (wA rfl ?_);cases hF
  exact bQ wR
 rintro a40 x_0 hF cont_0 brk_0 fin_0
 unfold vz at hF
 refine az (wC 2 rfl (rS (d0 (tc:=aj) p0 .tree (QV rfl (wIf hF rfl (fun _ hF=>?_) fun _ hF=>?_)))))
 ·refine aJ (az (c7 (az (az (cW (fun _ _ h=>h) hF (fun v61=>[(0,cL 8 aj p0),(3,cI a40),(33,cB v61)]) (fun v61=>[]) ?_ ?_)))))
  ·rintro v61 hF
   refine wIf hF rfl (fun _ hF=>?_) fun _ hF=>?_
   ·refine wA rfl ?_;have hF:=fin_0 _ (oi hF);cases hF
    exact bQ wR
   refine aJ (wC 2 rfl ?_);obtain⟨y62,hy62,hF⟩:=bB hF
   refine rS (dz (tc:=aj) p0 rfl rfl hy62 (aQ SV 2 rfl ?_));obtain⟨r63,hr63,hF⟩:=bB hF
   refine rS (cJ (vY _ _ hr63) ⟨rfl,trivial⟩ rfl (.inl rfl) (QV rfl (az (wA rfl (wIf hF rfl (fun _ hF=>?_) fun _ hF=>?_)))))
   ·refine wA rfl ?_;have hF:=fin_0 _ (oi hF);cases hF
    exact bQ wR
   refine aJ (az (cW (fun _ _ h=>h) hF (fun v64=>[(0,cL 8 aj p0),(3,cI a40),(56,cB v64)]) (fun v64=>[]) ?_ ?_))
   ·rintro v64 hF
    refine wIf hF rfl (fun _ hF=>?_) fun _ hF=>?_
    ·refine wA rfl ?_;have hF:=fin_0 _ (oi hF);cases hF
     exact bQ wR
    exact aJ (wB rfl (cont_0 _ _ _ (oi hF) sw))
   intro join hF
   refine f7 (by decide) (by kernel_rfl) rfl (aQ SP 3 rfl ?_);cases h66:(decide (0<a40))
   ·have hF:=bF' h66 hF;exact QP rfl (join false _ _ hF sw)
   have hF:=bT' h66 hF;refine aQ SP 2 rfl ?_;obtain⟨y67,hy67,hF⟩:=bB' hF
   refine aW SP rfl (dz (tc:=aj) p0 rfl rfl hy67 (aQ SP 4 rfl ?_));obtain⟨y68,hy68,hF⟩:=bB' hF
   refine aW SP rfl (dz (tc:=aj) p0 rfl rfl hy68 (aQ SP 1 rfl ?_));obtain⟨r69,hr69,hF⟩:=bB' hF
   exact aW SP rfl (cJ (J9 _ _ _ hr69) ⟨⟨rfl,rfl,rfl,rfl,rfl,rfl,rfl,rfl,trivial⟩,⟨rfl,rfl,rfl,rfl,rfl,rfl,rfl,rfl,trivial⟩,trivial⟩ rfl (.inl rfl) (QP rfl (join r69 _ _ hF sw)))
  intro join hF
  refine wD 2 rfl ?_;obtain⟨y72,hy72,hF⟩:=bB' hF
  refine rS (dz (tc:=aj) p0 rfl rfl hy72 (aQ SV 4 rfl ?_));cases h73:(decide (y72.q6<0))
  ·have hF:=bF' h73 hF;refine aQ SV 2 rfl ?_;obtain⟨y74,hy74,hF⟩:=bB' hF
   refine aW SV rfl (dz (tc:=aj) p0 rfl rfl hy74 (aQ SV 5 rfl ?_));cases h75:(decide (1000000000000000<y74.q6))
   ·have hF:=bF' h75 hF;refine aQ SV 2 rfl ?_;obtain⟨y76,hy76,hF⟩:=bB' hF
    refine aW SV rfl (dz (tc:=aj) p0 rfl rfl hy76 (aQ SV 2 rfl ?_));obtain⟨r77,hr77,hF⟩:=bB' hF
    exact aW SV rfl (cJ (uz _ _ hr77) ⟨⟨rfl,rfl,trivial⟩,trivial⟩ rfl (.inl rfl) (QV rfl (join (!r77) _ _ hF sw)))
   have hF:=bT' h75 hF;exact QV rfl (join true _ _ hF sw)
  have hF:=bT' h73 hF;exact QV rfl (join true _ _ hF sw)
 exact dK (aq (aq (bj (brk_0 _ _ _ (oi hF) sw))))
def yZ(p0:a0)(p1:Int):Int→Option (Int ⊕ (Unit ⊕ Bool)):=fun a10 =>
  (bif (decide (a10<(List.length p0.q7:Int)))then((idx p0.q7 a10).bind fun y14=>(bif (decide (y14.w5=p1))then some (.inr (.inr true))else some (.inl (w64 (a10+1)))))else some (.inr (.inl ())))
def kQ(p0:a0)(p1:Int):Option Bool :=
  ((loop (yZ p0 p1) 0).bind fun | .inl _=>some false | .inr rv=>some rv)
theorem oY(p0:a0)(p1:Int)(r:Bool)(hF:kQ p0 p1=some r):Fun Tryz.prog 193 true [] [.agg (bq p0),cI p1] noHeap (cB r) noHeap:=by
 refine fW Tryz.func193 ?_
 unfold kQ at hF
 refine wA rfl (az (wA rfl (eZ (fun _ _ h=>h) hF (.inl) (fun a10=>[(1,cI p1),(2,cP (2,0) 0),(5,cI a10)]) (fun a10=>[((2,0),.box (bq p0))]) (fun _=>[]) (fun _=>[]) sw ?_ ?_)))
 ·rintro⟨⟩ hF
  refine wA rfl ?_;cases hF
  exact bQ wR
 rintro a10 x_0 hF cont_0 brk_0 fin_0
 unfold yZ at hF
 refine az (wC 3 rfl (rS (d0 (tc:=bZ) p0.q7 .tree (QV rfl (wIf hF rfl (fun _ hF=>?_) fun _ hF=>?_)))))
 ·refine aJ (az (c7 (wC 3 rfl ?_)));obtain⟨y14,hy14,hF⟩:=bB hF
  refine rS (dz (tc:=bZ) p0.q7 rfl rfl hy14 (QV rfl (wIf hF rfl (fun _ hF=>?_) fun _ hF=>?_)))
  ·refine wA rfl ?_;have hF:=fin_0 _ (oi hF);cases hF
   exact bQ wR
  exact aJ (wB rfl (cont_0 _ _ _ (oi hF) sw))
 exact dK (aq (aq (bj (brk_0 _ _ _ (oi hF) sw))))
def wq(p0:(List dW))(p1:Int):Int→Option (Int ⊕ (Unit ⊕ Int)):=fun a10 =>
  (bif (decide (a10<(List.length p0:Int)))then((idx p0 a10).bind fun y14=>(bif (decide (y14.w5=p1))then some (.inr (.inr a10))else some (.inl (w64 (a10+1)))))else some (.inr (.inl ())))
def p8(p0:(List dW))(p1:Int):Option Int :=
  ((loop (wq p0 p1) 0).bind fun | .inl _=>some (-1) | .inr rv=>some rv)
theorem F8(p0:(List dW))(p1:Int)(r:Int)(hF:p8 p0 p1=some r):Fun Tryz.prog 228 true [] [cL 3 bZ p0,cI p1] noHeap (cI r) noHeap:=by
 refine fW Tryz.func228 ?_
 unfold p8 at hF
 refine wA rfl (az (wA rfl (eZ (fun _ _ h=>h) hF (.inl) (fun a10=>[(0,cL 3 bZ p0),(1,cI p1),(5,cI a10)]) (fun a10=>[]) (fun _=>[]) (fun _=>[]) sw ?_ ?_)))
 ·rintro⟨⟩ hF
  refine wA rfl ?_;cases hF
  exact bQ wR
 rintro a10 x_0 hF cont_0 brk_0 fin_0
 unfold wq at hF
 refine az (wC 2 rfl (rS (d0 (tc:=bZ) p0 .tree (QV rfl (wIf hF rfl (fun _ hF=>?_) fun _ hF=>?_)))))
 ·refine aJ (az (c7 (wC 2 rfl ?_)));obtain⟨y14,hy14,hF⟩:=bB hF
  refine rS (dz (tc:=bZ) p0 rfl rfl hy14 (QV rfl (wIf hF rfl (fun _ hF=>?_) fun _ hF=>?_)))
  ·refine wA rfl ?_;have hF:=fin_0 _ (oi hF);cases hF
   exact bQ wR
  exact aJ (wB rfl (cont_0 _ _ _ (oi hF) sw))
 exact dK (aq (aq (bj (brk_0 _ _ _ (oi hF) sw))))
def xW(p0:(List dW)):((List dW)×Int)→Option (((List dW)×Int) ⊕ (List dW)):=fun(a21,a22) =>
  (bif (decide (a22<(List.length p0:Int)))then((((idx p0 a22).bind fun y32=>((p8 a21 y32.w5).bind fun r33=>(bif (decide (r33<0))then((idx p0 a22).bind fun y34=>(bif Ej 32 (List.length a21+List.length [y34])then some (a21++[y34])else none))else some a21))):Option (List dW)).bind fun v31=>some (.inl (v31,(w64 (a22+1)))))else some (.inr a21))
def m7(p0:(List dW)):Option (List dW) :=
  ((loop (xW p0) ([],0)).bind fun e30=>some e30)
theorem J6(p0:(List dW))(r:(List dW))(hF:m7 p0=some r):Fun Tryz.prog 227 false [] [cL 3 bZ p0] (aV []) (cO (902,9080)) (aV [((902,9080),.arr 59 3 (List.map bZ r))]):=by
 refine fM [] (some []) Tryz.func227 ?_
 unfold m7 at hF
 refine wA rfl (wA rfl (az (wA rfl (eZ (fun _ _ h=>h) hF (id) (fun(a21,a22)=>[(0,cL 3 bZ p0),(3,cO (25,1)),(4,cI a22)]) (fun(a21,a22)=>[((25,1),.arr 59 3 (List.map bZ a21))]) (fun e30=>[(3,cO (25,1))]) (fun e30=>[((25,1),.arr 59 3 (List.map bZ e30))]) (Nq 3 (25,1) 59 3 rfl rfl rfl rfl sw) ?_ ?_))))
 ·rintro e30 hF
  refine wA rfl ?_;cases hF
  exact bQ ⟨_,_,(xz (25,1) (902,9080) rfl rfl fq),_,rfl,rfl,rfl,(AgM.weak ⟨rfl,trivial⟩)⟩
 rintro⟨a21,a22⟩ x_0 hF cont_0 brk_0 fin_0
 unfold xW at hF
 refine az (wC 2 rfl (rS (d0 (tc:=bZ) p0 .tree (QV rfl (wIf hF rfl (fun _ hF=>?_) fun _ hF=>?_)))))
 ·refine aJ (az (cW (fun _ _ h=>h) hF (fun v31=>[(0,cL 3 bZ p0),(3,cO (25,1)),(4,cI a22)]) (fun v31=>[((25,1),.arr 59 3 (List.map bZ v31))]) ?_ ?_))
  ·rintro v31 hF
   exact wB rfl (cont_0 _ _ _ (oi hF) sw)
  intro join hF
  refine c7 (wC 3 rfl ?_);obtain⟨y32,hy32,hF⟩:=bB' hF
  refine rS (dz (tc:=bZ) p0 rfl rfl hy32 (aQ SV 2 rfl ?_));obtain⟨r33,hr33,hF⟩:=bB' hF
  refine rS (cJ (F8 _ _ _ hr33) ⟨⟨_,rfl⟩,rfl,trivial⟩ rfl (.inl rfl) (QV rfl (wX hF rfl (fun _ hF=>?_) fun _ hF=>?_)))
  ·refine wD 3 rfl ?_;obtain⟨y34,hy34,hF⟩:=bB' hF
   refine rS (dz (tc:=bZ) p0 rfl rfl hy34 (aQ SV 1 rfl ?_));refine rS (E5 (tc:=bZ) [y34] rfl ⟨rfl,rfl,rfl,trivial⟩ rfl (fun _=>rfl) rfl ?_)
   obtain⟨h35,hF⟩:=EW hF
   exact rS (BK (tc:=bZ) a21 [y34] rfl rfl (.own _ _ rfl) h35 rfl (QV rfl (join (a21++[y34]) _ _ hF (xz (25,0) (25,1) rfl rfl sw))))
  exact aJ (join a21 _ _ hF sw)
 exact dK (aq (aq (bj (brk_0 _ _ _ (oi hF) sw))))
def u3(p0:cZ):Option Bool :=
  (((bif (decide (p0.j3<0))then some true else some (decide (5<p0.j3))):Option Bool).bind fun v1=>(bif v1 then some false else(((bif (decide (p0.j3=4))then(bif (decide (p0.w9<0))then some true else(bif (decide (63<p0.w9))then some true else(bif (!decide (p0.j3=4))then some (!decide (p0.w9=(-1)))else some false)))else(bif (!decide (p0.j3=4))then some (!decide (p0.w9=(-1)))else some false)):Option Bool).bind fun v2=>(bif v2 then some false else(((bif (decide (p0.j3=2))then(bif (decide (p0.x5<0))then some true else(bif (decide (1000000000000000<p0.x5))then some true else(bif (!decide (p0.j3=2))then some (!decide (p0.x5=(-1)))else some false)))else(bif (!decide (p0.j3=2))then some (!decide (p0.x5=(-1)))else some false)):Option Bool).bind fun v3=>(bif v3 then some false else(((bif (decide (p0.x6=(-1)))then some true else(bif (decide (0≤p0.x6))then(bif (decide (p0.x6≤1000000000000000))then(bif (decide (p0.j3=1))then some true else some (decide (p0.j3=2)))else some false)else some false)):Option Bool).bind fun v4=>some v4)))))))
theorem N3(p0:cZ)(r:Bool)(hF:u3 p0=some r):Fun Tryz.prog 229 true [] [.agg (mZ p0)] noHeap (cB r) noHeap:=by
 refine fW Tryz.func229 ?_
 unfold u3 at hF
 refine wA rfl (az (az (cW (fun _ _ h=>h) hF (fun v1=>[(1,cP (1,0) 0),(10,cB v1)]) (fun v1=>[((1,0),.box (mZ p0))]) ?_ ?_)))
 ·rintro v1 hF
  refine wIf hF rfl (fun _ hF=>?_) fun _ hF=>?_
  ·refine wA rfl ?_;cases hF
   exact bQ wR
  refine aJ (az (az (cW (fun _ _ h=>h) hF (fun v2=>[(1,cP (1,0) 0),(33,cB v2)]) (fun v2=>[((1,0),.box (mZ p0))]) ?_ ?_)))
  ·rintro v2 hF
   refine wIf hF rfl (fun _ hF=>?_) fun _ hF=>?_
   ·refine wA rfl ?_;cases hF
    exact bQ wR
   refine aJ (az (az (cW (fun _ _ h=>h) hF (fun v3=>[(1,cP (1,0) 0),(56,cB v3)]) (fun v3=>[((1,0),.box (mZ p0))]) ?_ ?_)))
   ·rintro v3 hF
    refine wIf hF rfl (fun _ hF=>?_) fun _ hF=>?_
    ·refine wA rfl ?_;cases hF
     exact bQ wR
    refine aJ (az (cW (fun _ _ h=>h) hF (fun v4=>[(2,cB v4)]) (fun v4=>[]) ?_ ?_))
    ·rintro v4 hF
     cases hF
     exact bQ wR
    intro join hF
    refine wD 4 rfl ?_;cases h5:(decide (p0.x6=(-1)))
    ·have hF:=bF' h5 hF;refine aQ SV 4 rfl ?_;cases h6:(decide (0≤p0.x6))
     ·have hF:=bF' h6 hF;exact QV rfl (join false _ _ hF sw)
     have hF:=bT' h6 hF;refine aQ SV 5 rfl ?_;cases h7:(decide (p0.x6≤1000000000000000))
     ·have hF:=bF' h7 hF;exact QV rfl (join false _ _ hF sw)
     have hF:=bT' h7 hF;refine aQ SV 4 rfl ?_;cases h8:(decide (p0.j3=1))
     ·have hF:=bF' h8 hF;exact QV rfl (join (decide (p0.j3=2)) _ _ hF sw)
     have hF:=bT' h8 hF;exact QV rfl (join true _ _ hF sw)
    have hF:=bT' h5 hF;exact QV rfl (join true _ _ hF sw)
   intro join hF
   refine wD 4 rfl ?_;cases h10:(decide (p0.j3=2))
   ·have hF:=bF' h10 hF;refine aQ SV 14 rfl ?_;cases h11:(!decide (p0.j3=2))
    ·have hF:=bF' h11 hF;exact QV rfl (join false _ _ hF sw)
    have hF:=bT' h11 hF;exact QV rfl (join (!decide (p0.x5=(-1))) _ _ hF sw)
   have hF:=bT' h10 hF;refine aQ SV 4 rfl ?_;cases h12:(decide (p0.x5<0))
   ·have hF:=bF' h12 hF;refine aQ SV 6 rfl ?_;cases h13:(decide (1000000000000000<p0.x5))
    ·have hF:=bF' h13 hF;refine aQ SV 4 rfl ?_;cases h14:(!decide (p0.j3=2))
     ·have hF:=bF' h14 hF;exact QV rfl (join false _ _ hF sw)
     have hF:=bT' h14 hF;exact QV rfl (join (!decide (p0.x5=(-1))) _ _ hF sw)
    have hF:=bT' h13 hF;exact QV rfl (join true _ _ hF sw)
   have hF:=bT' h12 hF;exact QV rfl (join true _ _ hF sw)
  intro join hF
  refine wD 4 rfl ?_;cases h16:(decide (p0.j3=4))
  ·have hF:=bF' h16 hF;refine aQ SV 14 rfl ?_;cases h17:(!decide (p0.j3=4))
   ·have hF:=bF' h17 hF;exact QV rfl (join false _ _ hF sw)
   have hF:=bT' h17 hF;exact QV rfl (join (!decide (p0.w9=(-1))) _ _ hF sw)
  have hF:=bT' h16 hF;refine aQ SV 4 rfl ?_;cases h18:(decide (p0.w9<0))
  ·have hF:=bF' h18 hF;refine aQ SV 6 rfl ?_;cases h19:(decide (63<p0.w9))
   ·have hF:=bF' h19 hF;refine aQ SV 4 rfl ?_;cases h20:(!decide (p0.j3=4))
    ·have hF:=bF' h20 hF;exact QV rfl (join false _ _ hF sw)
    have hF:=bT' h20 hF;exact QV rfl (join (!decide (p0.w9=(-1))) _ _ hF sw)
   have hF:=bT' h19 hF;exact QV rfl (join true _ _ hF sw)
  have hF:=bT' h18 hF;exact QV rfl (join true _ _ hF sw)
 intro join hF
 refine wD 4 rfl ?_;cases h22:(decide (p0.j3<0))
 ·have hF:=bF' h22 hF;exact QV rfl (join (decide (5<p0.j3)) _ _ hF sw)
 have hF:=bT' h22 hF;exact QV rfl (join true _ _ hF sw)
def vZ(p1:(List cZ)):Int→Option (Int ⊕ (Unit ⊕ Int)):=fun a117 =>
  (bif (decide (a117<(List.length p1:Int)))then((((idx p1 a117).bind fun y128=>((idx p1 (w64 (a117-1))).bind fun y129=>(bif (!decide (y128.q6=y129.q6))then((idx p1 (w64 (a117-1))).bind fun y131=>((idx p1 (w64 ((List.length p1:Int)-1))).bind fun y132=>some (!decide (y131.q5.q9=y132.q5.q9))))else some false))):Option Bool).bind fun v126=>(bif v126 then some (.inr (.inr 11))else some (.inl (w64 (a117+1)))))else some (.inr (.inl ())))
def qZ(p1:(List cZ))(r1:(List dW)):(Int×Int)→Option ((Int×Int) ⊕ (Int ⊕ Int)):=fun(a66,a67) =>
  (bif (decide (a67<(List.length p1:Int)))then((idx p1 a67).bind fun y135=>((p8 r1 y135.q6).bind fun r136=>(bif (decide (r136<0))then some (.inr (.inr 5))else((idx p1 a67).bind fun y137=>((nZ y137.q5).bind fun r138=>(bif (!r138)then some (.inr (.inr 2))else((idx p1 a67).bind fun y139=>((u3 y139).bind fun r140=>(bif (!r140)then some (.inr (.inr 1))else(((bif (decide (0<a67))then((idx p1 (w64 (a67-1))).bind fun y158=>((idx p1 a67).bind fun y159=>some (decide (y158.q6=y159.q6))))else some false):Option Bool).bind fun v141=>(bif v141 then((idx p1 (w64 (a67-1))).bind fun y142=>((((idx p1 a67).bind fun y145=>(bif (!decide (y142.q5.q9=y145.q5.q0))then some true else((idx p1 a67).bind fun y147=>(bif (decide (y142.j3=y147.j3))then((idx p1 a67).bind fun y149=>(bif (decide (y142.w9=y149.w9))then((idx p1 a67).bind fun y151=>some (decide (y142.x5=y151.x5)))else some false))else some false)))):Option Bool).bind fun v143=>(bif v143 then some (.inr (.inr 11))else some (.inl (a66,(w64 (a67+1)))))))else((((idx p1 a67).bind fun y154=>(bif (!decide (y154.q5.q0=0))then some true else some (!decide (r136=(w64 (a66+1)))))):Option Bool).bind fun v152=>(bif v152 then some (.inr (.inr 11))else some (.inl (r136,(w64 (a67+1)))))))))))))))))else some (.inr (.inl a66)))
def u1(p0:(List dW))(p1:(List cZ)):Option Int :=
  ((m7 p0).bind fun r1=>(bif (decide ((List.length p1:Int)=0))then some 0 else((loop (qZ p1 r1) ((-1),0)).bind fun | .inl e97=>(bif (!decide (e97=(w64 ((List.length r1:Int)-1))))then some 11 else((loop (vZ p1) 1).bind fun | .inl _=>some 0 | .inr rv=>some rv)) | .inr rv=>some rv)))
theorem NW(p0:(List dW))(p1:(List cZ))(r:Int)(hF:u1 p0 p1=some r):Fun Tryz.prog 194 true [] [cL 3 bZ p0,cL 7 bz p1] noHeap (cI r) noHeap:=by
 refine fW Tryz.func194 ?_
 unfold u1 at hF
 refine wA rfl (wC 1 rfl ?_);obtain⟨r1,hr1,hF⟩:=bB hF
 refine jj trivial (oz [((902,9080),(11,1))] rfl (AY _) (J6 _ _ hr1) trivial ⟨.inl rfl,trivial⟩ rfl rfl rfl ?_);refine QV rfl (az (wC 1 rfl (rS (d0 (tc:=bz) p1 .tree (QV rfl (wIf hF rfl (fun _ hF=>?_) fun _ hF=>?_))))))
 ·refine wA rfl ?_;cases hF
  exact bQ wR
 refine aJ (wA rfl (az (wA rfl (eZ (fun _ _ h=>h) hF (.inl) (fun(a66,a67)=>[(0,cO (11,1)),(1,cL 7 bz p1),(5,cI a66),(6,cI a67)]) (fun(a66,a67)=>[((11,1),.arr 59 3 (List.map bZ r1))]) (fun e97=>[(0,cO (11,1)),(1,cL 7 bz p1),(5,cI e97)]) (fun e97=>[((11,1),.arr 59 3 (List.map bZ r1))]) sw ?_ ?_))))
 ·rintro e97 hF
  refine az (wC 2 rfl (rS (d0 (tc:=bZ) r1 (.own _ _ rfl) (QV rfl (wIf hF rfl (fun _ hF=>?_) fun _ hF=>?_)))))
  ·refine wA rfl ?_;cases hF
   exact bQ wR
  refine aJ (az (wA rfl (eZ (fun _ _ h=>h) hF (.inl) (fun a117=>[(1,cL 7 bz p1),(9,cI a117)]) (fun a117=>[]) (fun _=>[]) (fun _=>[]) sw ?_ ?_)))
  ·rintro⟨⟩ hF
   refine wA rfl ?_;cases hF
   exact bQ wR
  rintro a117 x_0 hF cont_0 brk_0 fin_0
  unfold vZ at hF
  refine az (wC 2 rfl (rS (d0 (tc:=bz) p1 .tree (QV rfl (wIf hF rfl (fun _ hF=>?_) fun _ hF=>?_)))))
  ·refine aJ (az (c7 (az (cW (fun _ _ h=>h) hF (fun v126=>[(1,cL 7 bz p1),(9,cI a117),(158,cB v126)]) (fun v126=>[]) ?_ ?_))))
   ·rintro v126 hF
    refine wIf hF rfl (fun _ hF=>?_) fun _ hF=>?_
    ·refine wA rfl ?_;have hF:=fin_0 _ (oi hF);cases hF
     exact bQ wR
    exact aJ (wB rfl (cont_0 _ _ _ (oi hF) sw))
   intro join hF
   refine f7 (by decide) (by kernel_rfl) rfl (aQ SP 2 rfl ?_);obtain⟨y128,hy128,hF⟩:=bB' hF
   refine aW SP trivial (dz (tc:=bz) p1 rfl rfl hy128 (aQ SP 5 rfl ?_));obtain⟨y129,hy129,hF⟩:=bB' hF
   refine aW SP trivial (dz (tc:=bz) p1 rfl rfl hy129 (aQ SP 4 rfl ?_));cases h130:(!decide (y128.q6=y129.q6))
   ·have hF:=bF' h130 hF;exact QP rfl (join false _ _ hF sw)
   have hF:=bT' h130 hF;refine aQ SP 3 rfl ?_;obtain⟨y131,hy131,hF⟩:=bB' hF
   refine aW SP rfl (dz (tc:=bz) p1 rfl rfl hy131 (aQ SP 5 rfl (aW SP rfl (d0 (tc:=bz) p1 .tree (aQ SP 1 rfl ?_)))));obtain⟨y132,hy132,hF⟩:=bB' hF
   exact aW SP rfl (dz (tc:=bz) p1 rfl rfl hy132 (QP rfl (join (!decide (y131.q5.q9=y132.q5.q9)) _ _ hF sw)))
  exact dK (aq (aq (bj (brk_0 _ _ _ (oi hF) sw))))
 rintro⟨a66,a67⟩ x_0 hF cont_0 brk_0 fin_0
 unfold qZ at hF
 refine az (wC 2 rfl (rS (d0 (tc:=bz) p1 .tree (QV rfl (wIf hF rfl (fun _ hF=>?_) fun _ hF=>?_)))))
 ·refine aJ (az (c7 (wC 3 rfl ?_)));obtain⟨y135,hy135,hF⟩:=bB hF
  refine rS (dz (tc:=bz) p1 rfl rfl hy135 (aQ SV 2 rfl ?_));obtain⟨r136,hr136,hF⟩:=bB hF
  refine rS (cJ (F8 _ _ _ hr136) ⟨⟨_,rfl⟩,rfl,trivial⟩ rfl (.inl rfl) (QV rfl (az (wA rfl (wIf hF rfl (fun _ hF=>?_) fun _ hF=>?_)))))
  ·refine wA rfl ?_;have hF:=fin_0 _ (oi hF);cases hF
   exact bQ wR
  refine aJ (az (wC 2 rfl ?_));obtain⟨y137,hy137,hF⟩:=bB hF
  refine rS (dz (tc:=bz) p1 rfl rfl hy137 (aQ SV 2 rfl ?_));obtain⟨r138,hr138,hF⟩:=bB hF
  refine rS (cJ (uz _ _ hr138) ⟨⟨rfl,rfl,trivial⟩,trivial⟩ rfl (.inl rfl) (QV rfl (wIf hF rfl (fun _ hF=>?_) fun _ hF=>?_)))
  ·refine wA rfl ?_;have hF:=fin_0 _ (oi hF);cases hF
   exact bQ wR
  refine aJ (az (wC 2 rfl ?_));obtain⟨y139,hy139,hF⟩:=bB hF
  refine rS (dz (tc:=bz) p1 rfl rfl hy139 (aQ SV 1 rfl ?_));obtain⟨r140,hr140,hF⟩:=bB hF
  refine rS (cJ (N3 _ _ hr140) ⟨⟨rfl,rfl,rfl,rfl,rfl,rfl,rfl,trivial⟩,trivial⟩ rfl (.inl rfl) (QV rfl (wIf hF rfl (fun _ hF=>?_) fun _ hF=>?_)))
  ·refine wA rfl ?_;have hF:=fin_0 _ (oi hF);cases hF
   exact bQ wR
  refine aJ (az (cW (fun _ _ h=>h) hF (fun v141=>[(0,cO (11,1)),(1,cL 7 bz p1),(5,cI a66),(6,cI a67),(7,cI r136),(58,cB v141)]) (fun v141=>[((11,1),.arr 59 3 (List.map bZ r1))]) ?_ ?_))
  ·rintro v141 hF
   refine wIf hF rfl (fun _ hF=>?_) fun _ hF=>?_
   ·refine wC 3 rfl ?_;obtain⟨y142,hy142,hF⟩:=bB hF
    refine rS (dz (tc:=bz) p1 rfl rfl hy142 (QV rfl (az (cW (fun _ _ h=>h) hF (fun v143=>[(0,cO (11,1)),(1,cL 7 bz p1),(5,cI a66),(6,cI a67),(103,cB v143)]) (fun v143=>[((11,1),.arr 59 3 (List.map bZ r1))]) ?_ ?_))))
    ·rintro v143 hF
     refine wIf hF rfl (fun _ hF=>?_) fun _ hF=>?_
     ·refine wA rfl ?_;have hF:=fin_0 _ (oi hF);cases hF
      exact bQ wR
     exact aJ (wB rfl (cont_0 _ _ _ (oi hF) sw))
    intro join hF
    refine f7 (by decide) (by kernel_rfl) rfl (aQ SP 5 rfl ?_);obtain⟨y145,hy145,hF⟩:=bB' hF
    refine aW SP trivial (dz (tc:=bz) p1 rfl rfl hy145 (aQ SP 5 rfl ?_));cases h146:(!decide (y142.q5.q9=y145.q5.q0))
    ·have hF:=bF' h146 hF;refine aQ SP 4 rfl ?_;obtain⟨y147,hy147,hF⟩:=bB' hF
     refine aW SP rfl (dz (tc:=bz) p1 rfl rfl hy147 (aQ SP 4 rfl ?_));cases h148:(decide (y142.j3=y147.j3))
     ·have hF:=bF' h148 hF;exact QP rfl (join false _ _ hF sw)
     have hF:=bT' h148 hF;refine aQ SP 4 rfl ?_;obtain⟨y149,hy149,hF⟩:=bB' hF
     refine aW SP rfl (dz (tc:=bz) p1 rfl rfl hy149 (aQ SP 5 rfl ?_));cases h150:(decide (y142.w9=y149.w9))
     ·have hF:=bF' h150 hF;exact QP rfl (join false _ _ hF sw)
     have hF:=bT' h150 hF;refine aQ SP 4 rfl ?_;obtain⟨y151,hy151,hF⟩:=bB' hF
     exact aW SP rfl (dz (tc:=bz) p1 rfl rfl hy151 (QP rfl (join (decide (y142.x5=y151.x5)) _ _ hF sw)))
    have hF:=bT' h146 hF;exact QP rfl (join true _ _ hF sw)
   refine az (az (cW (fun _ _ h=>h) hF (fun v152=>[(0,cO (11,1)),(1,cL 7 bz p1),(6,cI a67),(7,cI r136),(116,cB v152)]) (fun v152=>[((11,1),.arr 59 3 (List.map bZ r1))]) ?_ ?_))
   ·rintro v152 hF
    refine wIf hF rfl (fun _ hF=>?_) fun _ hF=>?_
    ·refine wA rfl ?_;have hF:=fin_0 _ (oi hF);cases hF
     exact bQ wR
    exact aJ (wB rfl (wB rfl (cont_0 _ _ _ (oi hF) sw)))
   intro join hF
   refine wD 2 rfl ?_;obtain⟨y154,hy154,hF⟩:=bB' hF
   refine rS (dz (tc:=bz) p1 rfl rfl hy154 (aQ SV 5 rfl ?_));cases h155:(!decide (y154.q5.q0=0))
   ·have hF:=bF' h155 hF;exact QV rfl (join (!decide (r136=(w64 (a66+1)))) _ _ hF sw)
   have hF:=bT' h155 hF;exact QV rfl (join true _ _ hF sw)
  intro join hF
  refine f7 (by decide) (by kernel_rfl) rfl (aQ SP 3 rfl ?_);cases h157:(decide (0<a67))
  ·have hF:=bF' h157 hF;exact QP rfl (join false _ _ hF sw)
  have hF:=bT' h157 hF;refine aQ SP 3 rfl ?_;obtain⟨y158,hy158,hF⟩:=bB' hF
  refine aW SP rfl (dz (tc:=bz) p1 rfl rfl hy158 (aQ SP 4 rfl ?_));obtain⟨y159,hy159,hF⟩:=bB' hF
  exact aW SP rfl (dz (tc:=bz) p1 rfl rfl hy159 (QP rfl (join (decide (y158.q6=y159.q6)) _ _ hF sw)))
 exact dK (aq (aq (bj (brk_0 _ _ _ (oi hF) sw))))
def jQ(p0:Int):Option Bool :=
  (((bif (decide (0≤p0))then some (decide (p0≤1000000000000000))else some false):Option Bool).bind fun v1=>some v1)
theorem nW(p0:Int)(r:Bool)(hF:jQ p0=some r):Fun Tryz.prog 230 true [] [cI p0] noHeap (cB r) noHeap:=by
 refine fW Tryz.func230 ?_
 unfold jQ at hF
 refine wA rfl (az (cW (fun _ _ h=>h) hF (fun v1=>[(2,cB v1)]) (fun v1=>[]) ?_ ?_))
 ·rintro v1 hF
  cases hF
  exact bQ wR
 intro join hF
 refine wD 3 rfl ?_;cases h2:(decide (0≤p0))
 ·have hF:=bF' h2 hF;exact QV rfl (join false _ _ hF sw)
 have hF:=bT' h2 hF;exact QV rfl (join (decide (p0≤1000000000000000)) _ _ hF sw)
def ox(p0:Int):Option Bool :=
  (((bif (decide (0≤p0))then some (decide (p0≤1000000000000))else some false):Option Bool).bind fun v1=>some v1)
theorem E1(p0:Int)(r:Bool)(hF:ox p0=some r):Fun Tryz.prog 231 true [] [cI p0] noHeap (cB r) noHeap:=by
 refine fW Tryz.func231 ?_
 unfold ox at hF
 refine wA rfl (az (cW (fun _ _ h=>h) hF (fun v1=>[(2,cB v1)]) (fun v1=>[]) ?_ ?_))
 ·rintro v1 hF
  cases hF
  exact bQ wR
 intro join hF
 refine wD 3 rfl ?_;cases h2:(decide (0≤p0))
 ·have hF:=bF' h2 hF;exact QV rfl (join false _ _ hF sw)
 have hF:=bT' h2 hF;exact QV rfl (join (decide (p0≤1000000000000)) _ _ hF sw)
def vK(p0:(List d3)):Int→Option (Int ⊕ (Unit ⊕ Int)):=fun a48 =>
  (bif (decide (a48<(List.length p0:Int)))then((idx p0 a48).bind fun y71=>((((jQ y71.w5).bind fun r79=>(bif (!r79)then some true else((jQ y71.q0.q6).bind fun r81=>(bif (!r81)then some true else((jQ y71.q0.w6).bind fun r83=>(bif (!r83)then some true else((jQ y71.q9.q6).bind fun r85=>(bif (!r85)then some true else((jQ y71.q9.w6).bind fun r87=>(bif (!r87)then some true else((ox y71.w7).bind fun r89=>(bif (!r89)then some true else((ox y71.w4).bind fun r91=>some (!r91)))))))))))))):Option Bool).bind fun v72=>(bif v72 then some (.inr (.inr 2))else(((bif (decide (y71.w4<y71.w7))then some true else(bif (decide (0<a48))then((idx p0 (w64 (a48-1))).bind fun y77=>some (decide (y71.w4<y77.w4)))else some false)):Option Bool).bind fun v73=>(bif v73 then some (.inr (.inr 11))else some (.inl (w64 (a48+1))))))))else some (.inr (.inl ())))
def u6(p0:(List d3)):Option Int :=
  ((loop (vK p0) 0).bind fun | .inl _=>some 0 | .inr rv=>some rv)
theorem N8(p0:(List d3))(r:Int)(hF:u6 p0=some r):Fun Tryz.prog 195 true [] [cL 7 cz p0] noHeap (cI r) noHeap:=by
 refine fW Tryz.func195 ?_
 unfold u6 at hF
 refine wA rfl (az (wA rfl (eZ (fun _ _ h=>h) hF (.inl) (fun a48=>[(0,cL 7 cz p0),(3,cI a48)]) (fun a48=>[]) (fun _=>[]) (fun _=>[]) sw ?_ ?_)))
 ·rintro⟨⟩ hF
  refine wA rfl ?_;cases hF
  exact bQ wR
 rintro a48 x_0 hF cont_0 brk_0 fin_0
 unfold vK at hF
 refine az (wC 2 rfl (rS (d0 (tc:=cz) p0 .tree (QV rfl (wIf hF rfl (fun _ hF=>?_) fun _ hF=>?_)))))
 ·refine aJ (az (c7 (wC 2 rfl ?_)));obtain⟨y71,hy71,hF⟩:=bB hF
  refine rS (dz (tc:=cz) p0 rfl rfl hy71 (QV rfl (az (az (cW (fun _ _ h=>h) hF (fun v72=>[(0,cL 7 cz p0),(3,cI a48),(4,cP (4,0) 0),(58,cB v72)]) (fun v72=>[((4,0),.box (G8 y71))]) ?_ ?_)))))
  ·rintro v72 hF
   refine wIf hF rfl (fun _ hF=>?_) fun _ hF=>?_
   ·refine wA rfl ?_;have hF:=fin_0 _ (oi hF);cases hF
    exact bQ wR
   refine aJ (az (cW (fun _ _ h=>h) hF (fun v73=>[(0,cL 7 cz p0),(3,cI a48),(78,cB v73)]) (fun v73=>[]) ?_ ?_))
   ·rintro v73 hF
    refine wIf hF rfl (fun _ hF=>?_) fun _ hF=>?_
    ·refine wA rfl ?_;have hF:=fin_0 _ (oi hF);cases hF
     exact bQ wR
    exact aJ (wB rfl (cont_0 _ _ _ (oi hF) sw))
   intro join hF
   refine f7 (by decide) (by kernel_rfl) rfl (aQ SP 6 rfl ?_);cases h75:(decide (y71.w4<y71.w7))
   ·have hF:=bF' h75 hF;refine aQ SP 3 rfl ?_;cases h76:(decide (0<a48))
    ·have hF:=bF' h76 hF;exact QP rfl (join false _ _ hF sw)
    have hF:=bT' h76 hF;refine aQ SP 5 rfl ?_;obtain⟨y77,hy77,hF⟩:=bB' hF
    exact aW SP rfl (dz (tc:=cz) p0 rfl rfl hy77 (QP rfl (join (decide (y71.w4<y77.w4)) _ _ hF sw)))
   have hF:=bT' h75 hF;exact QP rfl (join true _ _ hF sw)
  intro join hF
  refine wD 2 rfl ?_;obtain⟨r79,hr79,hF⟩:=bB' hF
  refine rS (cJ (nW _ _ hr79) ⟨rfl,trivial⟩ rfl (.inl rfl) (aQ SV 2 rfl ?_));cases h80:(!r79)
  ·have hF:=bF' h80 hF;refine aQ SV 3 rfl ?_;obtain⟨r81,hr81,hF⟩:=bB' hF
   refine aW SV rfl (cJ (nW _ _ hr81) ⟨rfl,trivial⟩ rfl (.inl rfl) (aQ SV 3 rfl ?_));cases h82:(!r81)
   ·have hF:=bF' h82 hF;refine aQ SV 3 rfl ?_;obtain⟨r83,hr83,hF⟩:=bB' hF
    refine aW SV rfl (cJ (nW _ _ hr83) ⟨rfl,trivial⟩ rfl (.inl rfl) (aQ SV 3 rfl ?_));cases h84:(!r83)
    ·have hF:=bF' h84 hF;refine aQ SV 3 rfl ?_;obtain⟨r85,hr85,hF⟩:=bB' hF
     refine aW SV rfl (cJ (nW _ _ hr85) ⟨rfl,trivial⟩ rfl (.inl rfl) (aQ SV 3 rfl ?_));cases h86:(!r85)
     ·have hF:=bF' h86 hF;refine aQ SV 3 rfl ?_;obtain⟨r87,hr87,hF⟩:=bB' hF
      refine aW SV rfl (cJ (nW _ _ hr87) ⟨rfl,trivial⟩ rfl (.inl rfl) (aQ SV 3 rfl ?_));cases h88:(!r87)
      ·have hF:=bF' h88 hF;refine aQ SV 2 rfl ?_;obtain⟨r89,hr89,hF⟩:=bB' hF
       refine aW SV rfl (cJ (E1 _ _ hr89) ⟨rfl,trivial⟩ rfl (.inl rfl) (aQ SV 3 rfl ?_));cases h90:(!r89)
       ·have hF:=bF' h90 hF;refine aQ SV 2 rfl ?_;obtain⟨r91,hr91,hF⟩:=bB' hF
        exact aW SV rfl (cJ (E1 _ _ hr91) ⟨rfl,trivial⟩ rfl (.inl rfl) (QV rfl (join (!r91) _ _ hF sw)))
       have hF:=bT' h90 hF;exact QV rfl (join true _ _ hF sw)
      have hF:=bT' h88 hF;exact QV rfl (join true _ _ hF sw)
     have hF:=bT' h86 hF;exact QV rfl (join true _ _ hF sw)
    have hF:=bT' h84 hF;exact QV rfl (join true _ _ hF sw)
   have hF:=bT' h82 hF;exact QV rfl (join true _ _ hF sw)
  have hF:=bT' h80 hF;exact QV rfl (join true _ _ hF sw)
 exact dK (aq (aq (bj (brk_0 _ _ _ (oi hF) sw))))
def CK(p0:cY):Option Bool :=
  (((bif (decide (0≤p0.q6))then(bif (decide (p0.q6≤1000000000000000))then(bif (decide (0≤p0.j8))then(bif (decide (p0.j8≤1000000000000))then(bif (decide (1≤p0.j5))then some (decide (p0.j5≤1000000000000))else some false)else some false)else some false)else some false)else some false):Option Bool).bind fun v1=>some v1)
theorem LX(p0:cY)(r:Bool)(hF:CK p0=some r):Fun Tryz.prog 232 true [] [.agg (zZ p0)] noHeap (cB r) noHeap:=by
 refine fW Tryz.func232 ?_
 unfold CK at hF
 refine wA rfl (az (cW (fun _ _ h=>h) hF (fun v1=>[(2,cB v1)]) (fun v1=>[]) ?_ ?_))
 ·rintro v1 hF
  cases hF
  exact bQ wR
 intro join hF
 refine wD 4 rfl ?_;cases h2:(decide (0≤p0.q6))
 ·have hF:=bF' h2 hF;exact QV rfl (join false _ _ hF sw)
 have hF:=bT' h2 hF;refine aQ SV 5 rfl ?_;cases h3:(decide (p0.q6≤1000000000000000))
 ·have hF:=bF' h3 hF;exact QV rfl (join false _ _ hF sw)
 have hF:=bT' h3 hF;refine aQ SV 5 rfl ?_;cases h4:(decide (0≤p0.j8))
 ·have hF:=bF' h4 hF;exact QV rfl (join false _ _ hF sw)
 have hF:=bT' h4 hF;refine aQ SV 5 rfl ?_;cases h5:(decide (p0.j8≤1000000000000))
 ·have hF:=bF' h5 hF;exact QV rfl (join false _ _ hF sw)
 have hF:=bT' h5 hF;refine aQ SV 5 rfl ?_;cases h6:(decide (1≤p0.j5))
 ·have hF:=bF' h6 hF;exact QV rfl (join false _ _ hF sw)
 have hF:=bT' h6 hF;exact QV rfl (join (decide (p0.j5≤1000000000000)) _ _ hF sw)
def tK(p0:(List ByteArray)):Int→Option (Int ⊕ (Unit ⊕ Int)):=fun a12 =>
  (bif (decide (a12<(List.length p0:Int)))then((idx p0 a12).bind fun y17=>((mQ y17).bind fun r18=>(bif (!decide (r18=0))then some (.inr (.inr 3))else some (.inl (w64 (a12+1))))))else some (.inr (.inl ())))
def pz(p0:(List ByteArray)):Option Int :=
  (bif (decide (32<(List.length p0:Int)))then some 7 else((loop (tK p0) 0).bind fun | .inl _=>some 0 | .inr rv=>some rv))
theorem FZ(p0:(List ByteArray))(r:Int)(hF:pz p0=some r):Fun Tryz.prog 233 true [] [cL 1 u7 p0] noHeap (cI r) noHeap:=by
 refine fW Tryz.func233 ?_
 unfold pz at hF
 refine wA rfl (az (wC 1 rfl (rS (d0 (tc:=u7) p0 .tree (QV rfl (wIf hF rfl (fun _ hF=>?_) fun _ hF=>?_))))))
 ·refine wA rfl ?_;cases hF
  exact bQ wR
 refine aJ (az (wA rfl (eZ (fun _ _ h=>h) hF (.inl) (fun a12=>[(0,cL 1 u7 p0),(3,cI a12)]) (fun a12=>[]) (fun _=>[]) (fun _=>[]) sw ?_ ?_)))
 ·rintro⟨⟩ hF
  refine wA rfl ?_;cases hF
  exact bQ wR
 rintro a12 x_0 hF cont_0 brk_0 fin_0
 unfold tK at hF
 refine az (wC 2 rfl (rS (d0 (tc:=u7) p0 .tree (QV rfl (wIf hF rfl (fun _ hF=>?_) fun _ hF=>?_)))))
 ·refine aJ (az (c7 (wC 2 rfl ?_)));obtain⟨y17,hy17,hF⟩:=bB hF
  refine rS (dz (tc:=u7) p0 rfl rfl hy17 (aQ SV 1 rfl ?_));obtain⟨r18,hr18,hF⟩:=bB hF
  refine rS (cJ (vY _ _ hr18) ⟨rfl,trivial⟩ rfl (.inl rfl) (QV rfl (wIf hF rfl (fun _ hF=>?_) fun _ hF=>?_)))
  ·refine wA rfl ?_;have hF:=fin_0 _ (oi hF);cases hF
   exact bQ wR
  exact aJ (wB rfl (cont_0 _ _ _ (oi hF) sw))
 exact dK (aq (aq (bj (brk_0 _ _ _ (oi hF) sw))))
def vJ(p0:(List cY)):Int→Option (Int ⊕ (Unit ⊕ Int)):=fun a28 =>
  (bif (decide (a28<(List.length p0:Int)))then((idx p0 a28).bind fun y41=>((CK y41).bind fun r42=>(bif (!r42)then some (.inr (.inr 2))else((idx p0 a28).bind fun y43=>((pz y43.z7).bind fun r44=>(bif (!decide (r44=0))then some (.inr (.inr r44))else(((bif (decide (0<a28))then((idx p0 a28).bind fun y48=>((idx p0 (w64 (a28-1))).bind fun y49=>some (decide (y48.j8<y49.j8))))else some false):Option Bool).bind fun v45=>(bif v45 then some (.inr (.inr 11))else some (.inl (w64 (a28+1)))))))))))else some (.inr (.inl ())))
def u9(p0:(List cY)):Option Int :=
  ((loop (vJ p0) 0).bind fun | .inl _=>some 0 | .inr rv=>some rv)
theorem N5(p0:(List cY))(r:Int)(hF:u9 p0=some r):Fun Tryz.prog 196 true [] [cL 4 b9 p0] noHeap (cI r) noHeap:=by
 refine fW Tryz.func196 ?_
 unfold u9 at hF
 refine wA rfl (az (wA rfl (eZ (fun _ _ h=>h) hF (.inl) (fun a28=>[(0,cL 4 b9 p0),(3,cI a28)]) (fun a28=>[]) (fun _=>[]) (fun _=>[]) sw ?_ ?_)))
 ·rintro⟨⟩ hF
  refine wA rfl ?_;cases hF
  exact bQ wR
 rintro a28 x_0 hF cont_0 brk_0 fin_0
 unfold vJ at hF
 refine az (wC 2 rfl (rS (d0 (tc:=b9) p0 .tree (QV rfl (wIf hF rfl (fun _ hF=>?_) fun _ hF=>?_)))))
 ·refine aJ (az (c7 (az (wC 2 rfl ?_))));obtain⟨y41,hy41,hF⟩:=bB hF
  refine rS (dz (tc:=b9) p0 rfl rfl hy41 (aQ SV 1 rfl ?_));obtain⟨r42,hr42,hF⟩:=bB hF
  refine rS (cJ (LX _ _ hr42) ⟨⟨rfl,rfl,rfl,rfl,trivial⟩,trivial⟩ rfl (.inl rfl) (QV rfl (wIf hF rfl (fun _ hF=>?_) fun _ hF=>?_)))
  ·refine wA rfl ?_;have hF:=fin_0 _ (oi hF);cases hF
   exact bQ wR
  refine aJ (wC 2 rfl ?_);obtain⟨y43,hy43,hF⟩:=bB hF
  refine rS (dz (tc:=b9) p0 rfl rfl hy43 (aQ SV 2 rfl ?_));obtain⟨r44,hr44,hF⟩:=bB hF
  refine rS (cJ (FZ _ _ hr44) ⟨rfl,trivial⟩ rfl (.inl rfl) (QV rfl (az (wA rfl (wIf hF rfl (fun _ hF=>?_) fun _ hF=>?_)))))
  ·refine wA rfl ?_;have hF:=fin_0 _ (oi hF);cases hF
   exact bQ wR
  refine aJ (az (cW (fun _ _ h=>h) hF (fun v45=>[(0,cL 4 b9 p0),(3,cI a28),(41,cB v45)]) (fun v45=>[]) ?_ ?_))
  ·rintro v45 hF
   refine wIf hF rfl (fun _ hF=>?_) fun _ hF=>?_
   ·refine wA rfl ?_;have hF:=fin_0 _ (oi hF);cases hF
    exact bQ wR
   exact aJ (wB rfl (cont_0 _ _ _ (oi hF) sw))
  intro join hF
  refine f7 (by decide) (by kernel_rfl) rfl (aQ SP 3 rfl ?_);cases h47:(decide (0<a28))
  ·have hF:=bF' h47 hF;exact QP rfl (join false _ _ hF sw)
  have hF:=bT' h47 hF;refine aQ SP 2 rfl ?_;obtain⟨y48,hy48,hF⟩:=bB' hF
  refine aW SP rfl (dz (tc:=b9) p0 rfl rfl hy48 (aQ SP 5 rfl ?_));obtain⟨y49,hy49,hF⟩:=bB' hF
  exact aW SP rfl (dz (tc:=b9) p0 rfl rfl hy49 (QP rfl (join (decide (y48.j8<y49.j8)) _ _ hF sw)))
 exact dK (aq (aq (bj (brk_0 _ _ _ (oi hF) sw))))
def vV(p0:(List cV)):Int→Option (Int ⊕ (Unit ⊕ Int)):=fun a58 =>
  (bif (decide (a58<(List.length p0:Int)))then((idx p0 a58).bind fun y86=>((mQ y86.q8).bind fun r87=>(bif (!decide (r87=0))then some (.inr (.inr r87))else((((idx p0 a58).bind fun y104=>(bif (decide (y104.j8<0))then some true else((idx p0 a58).bind fun y106=>(bif (decide (1000000000000<y106.j8))then some true else((idx p0 a58).bind fun y108=>(bif (decide (y108.j2<(-1000000000000000)))then some true else((idx p0 a58).bind fun y110=>some (decide (1000000000000000<y110.j2))))))))):Option Bool).bind fun v88=>(bif v88 then some (.inr (.inr 2))else(((bif (decide (0<a58))then((idx p0 a58).bind fun y92=>((idx p0 (w64 (a58-1))).bind fun y93=>(bif (sLt y92.q8 y93.q8)then some true else((idx p0 a58).bind fun y95=>((idx p0 (w64 (a58-1))).bind fun y96=>(bif (decide (y95.q8=y96.q8))then((idx p0 a58).bind fun y98=>((idx p0 (w64 (a58-1))).bind fun y99=>(bif (decide (y98.j8≤y99.j8))then some true else((idx p0 a58).bind fun y101=>((idx p0 (w64 (a58-1))).bind fun y102=>some (decide (y101.j2=y102.j2)))))))else some false))))))else some false):Option Bool).bind fun v89=>(bif v89 then some (.inr (.inr 11))else some (.inl (w64 (a58+1))))))))))else some (.inr (.inl ())))
def u0(p0:(List cV)):Option Int :=
  ((loop (vV p0) 0).bind fun | .inl _=>some 0 | .inr rv=>some rv)
theorem N4(p0:(List cV))(r:Int)(hF:u0 p0=some r):Fun Tryz.prog 197 true [] [cL 3 bX p0] noHeap (cI r) noHeap:=by
 refine fW Tryz.func197 ?_
 unfold u0 at hF
 refine wA rfl (az (wA rfl (eZ (fun _ _ h=>h) hF (.inl) (fun a58=>[(0,cL 3 bX p0),(3,cI a58)]) (fun a58=>[]) (fun _=>[]) (fun _=>[]) sw ?_ ?_)))
 ·rintro⟨⟩ hF
  refine wA rfl ?_;cases hF
  exact bQ wR
 rintro a58 x_0 hF cont_0 brk_0 fin_0
 unfold vV at hF
 refine az (wC 2 rfl (rS (d0 (tc:=bX) p0 .tree (QV rfl (wIf hF rfl (fun _ hF=>?_) fun _ hF=>?_)))))
 ·refine aJ (az (c7 (wC 2 rfl ?_)));obtain⟨y86,hy86,hF⟩:=bB hF
  refine rS (dz (tc:=bX) p0 rfl rfl hy86 (aQ SV 2 rfl ?_));obtain⟨r87,hr87,hF⟩:=bB hF
  refine rS (cJ (vY _ _ hr87) ⟨rfl,trivial⟩ rfl (.inl rfl) (QV rfl (az (wA rfl (wIf hF rfl (fun _ hF=>?_) fun _ hF=>?_)))))
  ·refine wA rfl ?_;have hF:=fin_0 _ (oi hF);cases hF
   exact bQ wR
  refine aJ (az (az (cW (fun _ _ h=>h) hF (fun v88=>[(0,cL 3 bX p0),(3,cI a58),(49,cB v88)]) (fun v88=>[]) ?_ ?_)))
  ·rintro v88 hF
   refine wIf hF rfl (fun _ hF=>?_) fun _ hF=>?_
   ·refine wA rfl ?_;have hF:=fin_0 _ (oi hF);cases hF
    exact bQ wR
   refine aJ (az (cW (fun _ _ h=>h) hF (fun v89=>[(0,cL 3 bX p0),(3,cI a58),(107,cB v89)]) (fun v89=>[]) ?_ ?_))
   ·rintro v89 hF
    refine wIf hF rfl (fun _ hF=>?_) fun _ hF=>?_
    ·refine wA rfl ?_;have hF:=fin_0 _ (oi hF);cases hF
     exact bQ wR
    exact aJ (wB rfl (cont_0 _ _ _ (oi hF) sw))
   intro join hF
   refine f7 (by decide) (by kernel_rfl) rfl (aQ SP 3 rfl ?_);cases h91:(decide (0<a58))
   ·have hF:=bF' h91 hF;exact QP rfl (join false _ _ hF sw)
   have hF:=bT' h91 hF;refine aQ SP 2 rfl ?_;obtain⟨y92,hy92,hF⟩:=bB' hF
   refine aW SP rfl (dz (tc:=bX) p0 rfl rfl hy92 (aQ SP 5 rfl ?_));obtain⟨y93,hy93,hF⟩:=bB' hF
   refine aW SP rfl (dz (tc:=bX) p0 rfl rfl hy93 (aQ SP 4 rfl ?_));cases h94:(sLt y92.q8 y93.q8)
   ·have hF:=bF' h94 hF;refine aQ SP 2 rfl ?_;obtain⟨y95,hy95,hF⟩:=bB' hF
    refine aW SP rfl (dz (tc:=bX) p0 rfl rfl hy95 (aQ SP 5 rfl ?_));obtain⟨y96,hy96,hF⟩:=bB' hF
    refine aW SP rfl (dz (tc:=bX) p0 rfl rfl hy96 (aQ SP 4 rfl ?_));cases h97:(decide (y95.q8=y96.q8))
    ·have hF:=bF' h97 hF;exact QP rfl (join false _ _ hF sw)
    have hF:=bT' h97 hF;refine aQ SP 2 rfl ?_;obtain⟨y98,hy98,hF⟩:=bB' hF
    refine aW SP rfl (dz (tc:=bX) p0 rfl rfl hy98 (aQ SP 5 rfl ?_));obtain⟨y99,hy99,hF⟩:=bB' hF
    refine aW SP rfl (dz (tc:=bX) p0 rfl rfl hy99 (aQ SP 4 rfl ?_));cases h100:(decide (y98.j8≤y99.j8))
    ·have hF:=bF' h100 hF;refine aQ SP 2 rfl ?_;obtain⟨y101,hy101,hF⟩:=bB' hF
     refine aW SP rfl (dz (tc:=bX) p0 rfl rfl hy101 (aQ SP 5 rfl ?_));obtain⟨y102,hy102,hF⟩:=bB' hF
     exact aW SP rfl (dz (tc:=bX) p0 rfl rfl hy102 (QP rfl (join (decide (y101.j2=y102.j2)) _ _ hF sw)))
    have hF:=bT' h100 hF;exact QP rfl (join true _ _ hF sw)
   have hF:=bT' h94 hF;exact QP rfl (join true _ _ hF sw)
  intro join hF
  refine wD 2 rfl ?_;obtain⟨y104,hy104,hF⟩:=bB' hF
  refine rS (dz (tc:=bX) p0 rfl rfl hy104 (aQ SV 4 rfl ?_));cases h105:(decide (y104.j8<0))
  ·have hF:=bF' h105 hF;refine aQ SV 2 rfl ?_;obtain⟨y106,hy106,hF⟩:=bB' hF
   refine aW SV rfl (dz (tc:=bX) p0 rfl rfl hy106 (aQ SV 5 rfl ?_));cases h107:(decide (1000000000000<y106.j8))
   ·have hF:=bF' h107 hF;refine aQ SV 2 rfl ?_;obtain⟨y108,hy108,hF⟩:=bB' hF
    refine aW SV rfl (dz (tc:=bX) p0 rfl rfl hy108 (aQ SV 5 rfl ?_));cases h109:(decide (y108.j2<(-1000000000000000)))
    ·have hF:=bF' h109 hF;refine aQ SV 2 rfl ?_;obtain⟨y110,hy110,hF⟩:=bB' hF
     exact aW SV rfl (dz (tc:=bX) p0 rfl rfl hy110 (QV rfl (join (decide (1000000000000000<y110.j2)) _ _ hF sw)))
    have hF:=bT' h109 hF;exact QV rfl (join true _ _ hF sw)
   have hF:=bT' h107 hF;exact QV rfl (join true _ _ hF sw)
  have hF:=bT' h105 hF;exact QV rfl (join true _ _ hF sw)
 exact dK (aq (aq (bj (brk_0 _ _ _ (oi hF) sw))))
def yV(p0:aZ)(p1:aZ):Option Bool :=
  (((bif (decide (p0.q0<p1.q9))then some (decide (p1.q0<p0.q9))else some false):Option Bool).bind fun v1=>some v1)
theorem M4(p0:aZ)(p1:aZ)(r:Bool)(hF:yV p0 p1=some r):Fun Tryz.prog 234 true [] [.agg [jI p0.q0,jI p0.q9],.agg [jI p1.q0,jI p1.q9]] noHeap (cB r) noHeap:=by
 refine fW Tryz.func234 ?_
 unfold yV at hF
 refine wA rfl (az (cW (fun _ _ h=>h) hF (fun v1=>[(4,cB v1)]) (fun v1=>[]) ?_ ?_))
 ·rintro v1 hF
  cases hF
  exact bQ wR
 intro join hF
 refine wD 6 rfl ?_;cases h2:(decide (p0.q0<p1.q9))
 ·have hF:=bF' h2 hF;exact QV rfl (join false _ _ hF sw)
 have hF:=bT' h2 hF;exact QV rfl (join (decide (p1.q0<p0.q9)) _ _ hF sw)
def vQ(p0:(List dq))(a104:Int)(y155:dq):Int→Option (Int ⊕ (Unit ⊕ (Int ⊕ (Unit ⊕ Int)))):=fun a176 =>
  (bif (decide (a176<a104))then((((idx p0 a176).bind fun y186=>(bif (decide (y186.w5=y155.w5))then((idx p0 a176).bind fun y188=>((yV y188.q5 y155.q5).bind fun r189=>some r189))else some false)):Option Bool).bind fun v184=>(bif v184 then some (.inr (.inr (.inr (.inr 4))))else some (.inl (w64 (a176+1)))))else some (.inr (.inl ())))
def m8(p0:(List dq)):Int→Option (Int ⊕ (Unit ⊕ Int)):=fun a104 =>
  (bif (decide (a104<(List.length p0:Int)))then((idx p0 a104).bind fun y155=>(((bif (decide (y155.w5<0))then some true else(bif (decide (1000000000000000<y155.w5))then some true else(bif (decide (y155.q6<0))then some true else(bif (decide (1000000000000000<y155.q6))then some true else(bif (decide (y155.w8<1))then some true else(bif (decide (1000000000000<y155.w8))then some true else(bif (decide (y155.q5.q0<0))then some true else(bif (decide (y155.q5.q9≤y155.q5.q0))then some true else some (decide (1000000000000<y155.q5.q9)))))))))):Option Bool).bind fun v156=>(bif v156 then some (.inr (.inr 2))else((pz y155.z7).bind fun r157=>(bif (!decide (r157=0))then some (.inr (.inr r157))else(((bif (decide (0<a104))then((idx p0 (w64 (a104-1))).bind fun y193=>some (decide (y155.q5.q0<y193.q5.q0)))else some false):Option Bool).bind fun v158=>(bif v158 then some (.inr (.inr 11))else((loop (vQ p0 a104 y155) 0).bind fun | .inl _=>some (.inl (w64 (a104+1))) | .inr rv=>some rv))))))))else some (.inr (.inl ())))
def uK(p0:(List dq)):Option Int :=
  ((loop (m8 p0) 0).bind fun | .inl _=>some 0 | .inr rv=>some rv)
theorem N6(p0:(List dq))(r:Int)(hF:uK p0=some r):Fun Tryz.prog 198 true [] [cL 7 bJ p0] noHeap (cI r) noHeap:=by
 refine fW Tryz.func198 ?_
 unfold uK at hF
 refine wA rfl (az (wA rfl (eZ (fun _ _ h=>h) hF (.inl) (fun a104=>[(0,cL 7 bJ p0),(3,cI a104)]) (fun a104=>[]) (fun _=>[]) (fun _=>[]) sw ?_ ?_)))
 ·rintro⟨⟩ hF
  refine wA rfl ?_;cases hF
  exact bQ wR
 rintro a104 x_0 hF cont_0 brk_0 fin_0
 unfold m8 at hF
 refine az (wC 2 rfl (rS (d0 (tc:=bJ) p0 .tree (QV rfl (wIf hF rfl (fun _ hF=>?_) fun _ hF=>?_)))))
 ·refine aJ (az (c7 (wC 2 rfl ?_)));obtain⟨y155,hy155,hF⟩:=bB hF
  refine rS (dz (tc:=bJ) p0 rfl rfl hy155 (QV rfl (az (az (cW (fun _ _ h=>h) hF (fun v156=>[(0,cL 7 bJ p0),(3,cI a104),(4,cP (4,0) 0),(65,cB v156)]) (fun v156=>[((4,0),.box (o9 y155))]) ?_ ?_)))))
  ·rintro v156 hF
   refine wIf hF rfl (fun _ hF=>?_) fun _ hF=>?_
   ·refine wA rfl ?_;have hF:=fin_0 _ (oi hF);cases hF
    exact bQ wR
   refine aJ (wC 2 rfl ?_);obtain⟨r157,hr157,hF⟩:=bB hF
   refine rS (cJ (FZ _ _ hr157) ⟨rfl,trivial⟩ rfl (.inl rfl) (QV rfl (az (wA rfl (wIf hF rfl (fun _ hF=>?_) fun _ hF=>?_)))))
   ·refine wA rfl ?_;have hF:=fin_0 _ (oi hF);cases hF
    exact bQ wR
   refine aJ (az (az (cW (fun _ _ h=>h) hF (fun v158=>[(0,cL 7 bJ p0),(3,cI a104),(4,cP (4,0) 0),(86,cB v158)]) (fun v158=>[((4,0),.box (o9 y155))]) ?_ ?_)))
   ·rintro v158 hF
    refine wIf hF rfl (fun _ hF=>?_) fun _ hF=>?_
    ·refine wA rfl ?_;have hF:=fin_0 _ (oi hF);cases hF
     exact bQ wR
    refine aJ (wA rfl (eZ (fun _ _ h=>h) hF (.inl) (fun a176=>[(0,cL 7 bJ p0),(3,cI a104),(4,cP (4,0) 0),(6,cI a176)]) (fun a176=>[((4,0),.box (o9 y155))]) (fun _=>[(0,cL 7 bJ p0),(3,cI a104)]) (fun _=>[]) sw ?_ ?_))
    ·rintro⟨⟩ hF
     exact wB rfl (cont_0 _ _ _ (oi hF) sw)
    rintro a176 x_1 hF cont_1 brk_1 fin_1
    unfold vQ at hF
    refine az (wA rfl (wIf hF rfl (fun _ hF=>?_) fun _ hF=>?_))
    ·refine aJ (az (c7 (az (cW (fun _ _ h=>h) hF (fun v184=>[(0,cL 7 bJ p0),(3,cI a104),(4,cP (4,0) 0),(6,cI a176),(109,cB v184)]) (fun v184=>[((4,0),.box (o9 y155))]) ?_ ?_))))
     ·rintro v184 hF
      refine wIf hF rfl (fun _ hF=>?_) fun _ hF=>?_
      ·refine wA rfl ?_;have hF:=fin_1 _ (oi hF);have hF:=fin_0 _ (oi hF);cases hF
       exact bQ wR
      exact aJ (wB rfl (cont_1 _ _ _ (oi hF) sw))
     intro join hF
     refine f7 (by decide) (by kernel_rfl) rfl (aQ SP 2 rfl ?_);obtain⟨y186,hy186,hF⟩:=bB' hF
     refine aW SP trivial (dz (tc:=bJ) p0 rfl rfl hy186 (aQ SP 6 rfl ?_));cases h187:(decide (y186.w5=y155.w5))
     ·have hF:=bF' h187 hF;exact QP rfl (join false _ _ hF sw)
     have hF:=bT' h187 hF;refine aQ SP 2 rfl ?_;obtain⟨y188,hy188,hF⟩:=bB' hF
     refine aW SP rfl (dz (tc:=bJ) p0 rfl rfl hy188 (aQ SP 4 rfl ?_));obtain⟨r189,hr189,hF⟩:=bB' hF
     exact aW SP rfl (cJ (M4 _ _ _ hr189) ⟨⟨rfl,rfl,trivial⟩,⟨rfl,rfl,trivial⟩,trivial⟩ rfl (.inl rfl) (QP rfl (join r189 _ _ hF sw)))
    exact dK (aq (aq (bj (brk_1 _ _ _ (oi hF) sw))))
   intro join hF
   refine f7 (by decide) (by kernel_rfl) rfl (aQ SP 3 rfl ?_);cases h192:(decide (0<a104))
   ·have hF:=bF' h192 hF;exact QP rfl (join false _ _ hF sw)
   have hF:=bT' h192 hF;refine aQ SP 6 rfl ?_;obtain⟨y193,hy193,hF⟩:=bB' hF
   exact aW SP rfl (dz (tc:=bJ) p0 rfl rfl hy193 (QP rfl (join (decide (y155.q5.q0<y193.q5.q0)) _ _ hF sw)))
  intro join hF
  refine wD 4 rfl ?_;cases h196:(decide (y155.w5<0))
  ·have hF:=bF' h196 hF;refine aQ SV 5 rfl ?_;cases h197:(decide (1000000000000000<y155.w5))
   ·have hF:=bF' h197 hF;refine aQ SV 5 rfl ?_;cases h198:(decide (y155.q6<0))
    ·have hF:=bF' h198 hF;refine aQ SV 5 rfl ?_;cases h199:(decide (1000000000000000<y155.q6))
     ·have hF:=bF' h199 hF;refine aQ SV 5 rfl ?_;cases h200:(decide (y155.w8<1))
      ·have hF:=bF' h200 hF;refine aQ SV 5 rfl ?_;cases h201:(decide (1000000000000<y155.w8))
       ·have hF:=bF' h201 hF;refine aQ SV 6 rfl ?_;cases h202:(decide (y155.q5.q0<0))
        ·have hF:=bF' h202 hF;refine aQ SV 9 rfl ?_;cases h203:(decide (y155.q5.q9≤y155.q5.q0))
         ·have hF:=bF' h203 hF;exact QV rfl (join (decide (1000000000000<y155.q5.q9)) _ _ hF sw)
         have hF:=bT' h203 hF;exact QV rfl (join true _ _ hF sw)
        have hF:=bT' h202 hF;exact QV rfl (join true _ _ hF sw)
       have hF:=bT' h201 hF;exact QV rfl (join true _ _ hF sw)
      have hF:=bT' h200 hF;exact QV rfl (join true _ _ hF sw)
     have hF:=bT' h199 hF;exact QV rfl (join true _ _ hF sw)
    have hF:=bT' h198 hF;exact QV rfl (join true _ _ hF sw)
   have hF:=bT' h197 hF;exact QV rfl (join true _ _ hF sw)
  have hF:=bT' h196 hF;exact QV rfl (join true _ _ hF sw)
 exact dK (aq (aq (bj (brk_0 _ _ _ (oi hF) sw))))
def oK(p0:a0):(Int×Int)→Option ((Int×Int) ⊕ Int):=fun(a169,a170) =>
  (((bif (decide (a170<(List.length p0.j7:Int)))then some (decide (a169=0))else some false):Option Bool).bind fun v184=>(bif v184 then((((idx p0.j7 a170).bind fun y186=>((kQ p0 y186.q6).bind fun r187=>(bif (!r187)then some 5 else((((nZ y186.q5).bind fun r190=>(bif (!r190)then some true else(bif (decide (y186.j6<1))then some true else some (decide (1000000000000000<y186.j6))))):Option Bool).bind fun v188=>(bif v188 then some 2 else some a169))))):Option Int).bind fun v185=>some (.inl (v185,(w64 (a170+1)))))else some (.inr a169)))
def oJ(p0:a0):(Int×Int)→Option ((Int×Int) ⊕ Int):=fun(a129,a130) =>
  (((bif (decide (a130<(List.length p0.z5:Int)))then some (decide (a129=0))else some false):Option Bool).bind fun v196=>(bif v196 then((((idx p0.z5 a130).bind fun y198=>((kQ p0 y198.q6).bind fun r199=>(bif (!r199)then some 5 else some a129))):Option Int).bind fun v197=>some (.inl (v197,(w64 (a130+1)))))else some (.inr a129)))
def o3(p0:a0):(Int×Int)→Option ((Int×Int) ⊕ Int):=fun(a97,a98) =>
  (((bif (decide (a98<(List.length p0.z2:Int)))then some (decide (a97=0))else some false):Option Bool).bind fun v207=>(bif v207 then((((idx p0.z2 a98).bind fun y209=>((kQ p0 y209.q6).bind fun r210=>(bif (!r210)then some 5 else some a97))):Option Int).bind fun v208=>some (.inl (v208,(w64 (a98+1)))))else some (.inr a97)))
def oQ(p0:a0):(Int×Int)→Option ((Int×Int) ⊕ Int):=fun(a62,a63) =>
  (((bif (decide (a63<(List.length p0.z6:Int)))then some (decide (a62=0))else some false):Option Bool).bind fun v216=>(bif v216 then((((((idx p0.z6 a63).bind fun y220=>((kQ p0 y220.q0.q6).bind fun r221=>(bif (!r221)then some true else((idx p0.z6 a63).bind fun y223=>((kQ p0 y223.q9.q6).bind fun r224=>some (!r224)))))):Option Bool).bind fun v218=>(bif v218 then some 5 else some a62)):Option Int).bind fun v217=>some (.inl (v217,(w64 (a63+1)))))else some (.inr a62)))
def oW(p0:a0):(Int×Int)→Option ((Int×Int) ⊕ Int):=fun(a22,a23) =>
  (((bif (decide (a23<(List.length p0.z3:Int)))then some (decide (a22=0))else some false):Option Bool).bind fun v231=>(bif v231 then((((idx p0.z3 a23).bind fun y233=>((kQ p0 y233.q6).bind fun r234=>(bif (!r234)then some 5 else some a22))):Option Int).bind fun v232=>some (.inl (v232,(w64 (a23+1)))))else some (.inr a22)))
def A3(p0:a0):Option Int :=
  ((u5 p0.z3).bind fun r1=>((loop (oW p0) (r1,0)).bind fun e31=>(((bif (decide (e31=0))then((u1 p0.q7 p0.z8).bind fun r229=>some r229)else some e31):Option Int).bind fun v32=>(((bif (decide (v32=0))then((u6 p0.z6).bind fun r227=>some r227)else some v32):Option Int).bind fun v33=>((loop (oQ p0) (v33,0)).bind fun e75=>(((bif (decide (e75=0))then((u9 p0.z2).bind fun r214=>some r214)else some e75):Option Int).bind fun v76=>((loop (o3 p0) (v76,0)).bind fun e106=>(((bif (decide (e106=0))then((u0 p0.j4).bind fun r205=>some r205)else some e106):Option Int).bind fun v107=>(((bif (decide (v107=0))then((uK p0.z5).bind fun r203=>some r203)else some v107):Option Int).bind fun v108=>((loop (oJ p0) (v108,0)).bind fun e138=>((loop (oK p0) (e138,0)).bind fun e183=>some e183)))))))))))
theorem O4(p0:a0)(r:Int)(hF:A3 p0=some r):Fun Tryz.prog 144 true [] [.agg (bq p0)] noHeap (cI r) noHeap:=by
 refine fW Tryz.func144 ?_
 unfold A3 at hF
 refine wA rfl (wC 2 rfl ?_);obtain⟨r1,hr1,hF⟩:=bB hF
 refine rS (cJ (Oj _ _ hr1) ⟨rfl,trivial⟩ rfl (.inl rfl) (QV rfl (az (wA rfl (eZ (fun _ _ h=>h) hF (id) (fun(a22,a23)=>[(1,cP (1,0) 0),(3,cI a22),(4,cI a23)]) (fun(a22,a23)=>[((1,0),.box (bq p0))]) (fun e31=>[(1,cP (1,0) 0),(3,cI e31)]) (fun e31=>[((1,0),.box (bq p0))]) sw ?_ ?_)))))
 ·rintro e31 hF
  refine az (wA rfl (cW (fun _ _ h=>h) hF (fun v32=>[(1,cP (1,0) 0),(3,cI v32)]) (fun v32=>[((1,0),.box (bq p0))]) ?_ ?_))
  ·rintro v32 hF
   refine az (wA rfl (cW (fun _ _ h=>h) hF (fun v33=>[(1,cP (1,0) 0),(3,cI v33)]) (fun v33=>[((1,0),.box (bq p0))]) ?_ ?_))
   ·rintro v33 hF
    refine az (wA rfl (eZ (fun _ _ h=>h) hF (id) (fun(a62,a63)=>[(1,cP (1,0) 0),(3,cI a62),(5,cI a63)]) (fun(a62,a63)=>[((1,0),.box (bq p0))]) (fun e75=>[(1,cP (1,0) 0),(3,cI e75)]) (fun e75=>[((1,0),.box (bq p0))]) sw ?_ ?_))
    ·rintro e75 hF
     refine az (wA rfl (cW (fun _ _ h=>h) hF (fun v76=>[(1,cP (1,0) 0),(3,cI v76)]) (fun v76=>[((1,0),.box (bq p0))]) ?_ ?_))
     ·rintro v76 hF
      refine az (wA rfl (eZ (fun _ _ h=>h) hF (id) (fun(a97,a98)=>[(1,cP (1,0) 0),(3,cI a97),(6,cI a98)]) (fun(a97,a98)=>[((1,0),.box (bq p0))]) (fun e106=>[(1,cP (1,0) 0),(3,cI e106)]) (fun e106=>[((1,0),.box (bq p0))]) sw ?_ ?_))
      ·rintro e106 hF
       refine az (wA rfl (cW (fun _ _ h=>h) hF (fun v107=>[(1,cP (1,0) 0),(3,cI v107)]) (fun v107=>[((1,0),.box (bq p0))]) ?_ ?_))
       ·rintro v107 hF
        refine az (wA rfl (cW (fun _ _ h=>h) hF (fun v108=>[(1,cP (1,0) 0),(3,cI v108)]) (fun v108=>[((1,0),.box (bq p0))]) ?_ ?_))
        ·rintro v108 hF
         refine az (wA rfl (eZ (fun _ _ h=>h) hF (id) (fun(a129,a130)=>[(1,cP (1,0) 0),(3,cI a129),(7,cI a130)]) (fun(a129,a130)=>[((1,0),.box (bq p0))]) (fun e138=>[(1,cP (1,0) 0),(3,cI e138)]) (fun e138=>[((1,0),.box (bq p0))]) sw ?_ ?_))
         ·rintro e138 hF
          refine az (wA rfl (eZ (fun _ _ h=>h) hF (id) (fun(a169,a170)=>[(1,cP (1,0) 0),(3,cI a169),(8,cI a170)]) (fun(a169,a170)=>[((1,0),.box (bq p0))]) (fun e183=>[(3,cI e183)]) (fun e183=>[]) sw ?_ ?_))
          ·rintro e183 hF
           refine wA rfl ?_;cases hF
           exact bQ wR
          rintro⟨a169,a170⟩ x_0 hF cont_0 brk_0 fin_0
          unfold oK at hF
          refine az (az (cW (fun _ _ h=>h) hF (fun v184=>[(1,cP (1,0) 0),(3,cI a169),(8,cI a170),(141,cB v184)]) (fun v184=>[((1,0),.box (bq p0))]) ?_ ?_))
          ·rintro v184 hF
           refine wIf hF rfl (fun _ hF=>?_) fun _ hF=>?_
           ·refine aJ (az (cW (fun _ _ h=>h) hF (fun v185=>[(1,cP (1,0) 0),(3,cI v185),(8,cI a170)]) (fun v185=>[((1,0),.box (bq p0))]) ?_ ?_))
            ·rintro v185 hF
             exact wB rfl (cont_0 _ _ _ (oi hF) sw)
            intro join hF
            refine c7 (wC 3 rfl ?_);obtain⟨y186,hy186,hF⟩:=bB' hF
            refine rS (dz (tc:=d7) p0.j7 rfl rfl hy186 (QV rfl (wC 3 rfl ?_)));obtain⟨r187,hr187,hF⟩:=bB' hF
            refine rS (cJ (oY _ _ _ hr187) ⟨⟨rfl,rfl,rfl,rfl,rfl,rfl,rfl,rfl,rfl,rfl,trivial⟩,rfl,trivial⟩ rfl (.inl rfl) (QV rfl (wX hF rfl (fun _ hF=>?_) fun _ hF=>?_)))
            ·exact wB rfl (join 5 _ _ hF sw)
            refine az ?_;have hF:=bA hF;refine cW (fun _ _ h=>h) hF (fun v188=>[(1,cP (1,0) 0),(3,cI a169),(8,cI a170),(167,cB v188)]) (fun v188=>[((1,0),.box (bq p0))]) ?_ ?_
            ·rintro v188 hF
             refine wX hF rfl (fun _ hF=>?_) fun _ hF=>?_
             ·exact wB rfl (join 2 _ _ hF sw)
             exact aJ (join a169 _ _ hF sw)
            intro join hF
            refine wD 2 rfl ?_;obtain⟨r190,hr190,hF⟩:=bB' hF
            refine rS (cJ (uz _ _ hr190) ⟨⟨rfl,rfl,trivial⟩,trivial⟩ rfl (.inl rfl) (aQ SV 2 rfl ?_));cases h191:(!r190)
            ·have hF:=bF' h191 hF;refine aQ SV 5 rfl ?_;cases h192:(decide (y186.j6<1))
             ·have hF:=bF' h192 hF;exact QV rfl (join (decide (1000000000000000<y186.j6)) _ _ hF sw)
             have hF:=bT' h192 hF;exact QV rfl (join true _ _ hF sw)
            have hF:=bT' h191 hF;exact QV rfl (join true _ _ hF sw)
           exact dK (aq (aq (bj (brk_0 _ _ _ (oi hF) sw))))
          intro join hF
          refine wD 3 rfl (rS (d0 (tc:=d7) p0.j7 .tree (aQ SV 2 rfl ?_)));cases h195:(decide (a170<(List.length p0.j7:Int)))
          ·have hF:=bF' h195 hF;exact QV rfl (join false _ _ hF sw)
          have hF:=bT' h195 hF;exact QV rfl (join (decide (a169=0)) _ _ hF sw)
         rintro⟨a129,a130⟩ x_0 hF cont_0 brk_0 fin_0
         unfold oJ at hF
         refine az (az (cW (fun _ _ h=>h) hF (fun v196=>[(1,cP (1,0) 0),(3,cI a129),(7,cI a130),(121,cB v196)]) (fun v196=>[((1,0),.box (bq p0))]) ?_ ?_))
         ·rintro v196 hF
          refine wIf hF rfl (fun _ hF=>?_) fun _ hF=>?_
          ·refine aJ (az (cW (fun _ _ h=>h) hF (fun v197=>[(1,cP (1,0) 0),(3,cI v197),(7,cI a130)]) (fun v197=>[((1,0),.box (bq p0))]) ?_ ?_))
           ·rintro v197 hF
            exact wB rfl (cont_0 _ _ _ (oi hF) sw)
           intro join hF
           refine c7 (az (f7 (by decide) (by kernel_rfl) rfl (aQ SP 4 rfl ?_)));obtain⟨y198,hy198,hF⟩:=bB' hF
           refine aW SP trivial (dz (tc:=bJ) p0.z5 rfl rfl hy198 (aQ SP 2 rfl ?_));obtain⟨r199,hr199,hF⟩:=bB' hF
           refine aW SP trivial (cJ (oY _ _ _ hr199) ⟨⟨rfl,rfl,rfl,rfl,rfl,rfl,rfl,rfl,rfl,rfl,trivial⟩,rfl,trivial⟩ rfl (.inl rfl) (QP rfl (wX hF rfl (fun _ hF=>?_) fun _ hF=>?_)))
           ·exact wB rfl (join 5 _ _ hF sw)
           exact aJ (join a129 _ _ hF sw)
          exact dK (aq (aq (bj (brk_0 _ _ _ (oi hF) sw))))
         intro join hF
         refine wD 3 rfl (rS (d0 (tc:=bJ) p0.z5 .tree (aQ SV 2 rfl ?_)));cases h202:(decide (a130<(List.length p0.z5:Int)))
         ·have hF:=bF' h202 hF;exact QV rfl (join false _ _ hF sw)
         have hF:=bT' h202 hF;exact QV rfl (join (decide (a129=0)) _ _ hF sw)
        intro join hF
        refine wX hF rfl (fun _ hF=>?_) fun _ hF=>?_
        ·refine wD 2 rfl ?_;obtain⟨r203,hr203,hF⟩:=bB' hF
         exact rS (cJ (N6 _ _ hr203) ⟨rfl,trivial⟩ rfl (.inl rfl) (QV rfl (join r203 _ _ hF sw)))
        exact aJ (join v107 _ _ hF sw)
       intro join hF
       refine wX hF rfl (fun _ hF=>?_) fun _ hF=>?_
       ·refine wD 2 rfl ?_;obtain⟨r205,hr205,hF⟩:=bB' hF
        exact rS (cJ (N4 _ _ hr205) ⟨rfl,trivial⟩ rfl (.inl rfl) (QV rfl (join r205 _ _ hF sw)))
       exact aJ (join e106 _ _ hF sw)
      rintro⟨a97,a98⟩ x_0 hF cont_0 brk_0 fin_0
      unfold o3 at hF
      refine az (az (cW (fun _ _ h=>h) hF (fun v207=>[(1,cP (1,0) 0),(3,cI a97),(6,cI a98),(91,cB v207)]) (fun v207=>[((1,0),.box (bq p0))]) ?_ ?_))
      ·rintro v207 hF
       refine wIf hF rfl (fun _ hF=>?_) fun _ hF=>?_
       ·refine aJ (az (cW (fun _ _ h=>h) hF (fun v208=>[(1,cP (1,0) 0),(3,cI v208),(6,cI a98)]) (fun v208=>[((1,0),.box (bq p0))]) ?_ ?_))
        ·rintro v208 hF
         exact wB rfl (cont_0 _ _ _ (oi hF) sw)
        intro join hF
        refine c7 (az (f7 (by decide) (by kernel_rfl) rfl (aQ SP 4 rfl ?_)));obtain⟨y209,hy209,hF⟩:=bB' hF
        refine aW SP trivial (dz (tc:=b9) p0.z2 rfl rfl hy209 (aQ SP 2 rfl ?_));obtain⟨r210,hr210,hF⟩:=bB' hF
        refine aW SP trivial (cJ (oY _ _ _ hr210) ⟨⟨rfl,rfl,rfl,rfl,rfl,rfl,rfl,rfl,rfl,rfl,trivial⟩,rfl,trivial⟩ rfl (.inl rfl) (QP rfl (wX hF rfl (fun _ hF=>?_) fun _ hF=>?_)))
        ·exact wB rfl (join 5 _ _ hF sw)
        exact aJ (join a97 _ _ hF sw)
       exact dK (aq (aq (bj (brk_0 _ _ _ (oi hF) sw))))
      intro join hF
      refine wD 3 rfl (rS (d0 (tc:=b9) p0.z2 .tree (aQ SV 2 rfl ?_)));cases h213:(decide (a98<(List.length p0.z2:Int)))
      ·have hF:=bF' h213 hF;exact QV rfl (join false _ _ hF sw)
      have hF:=bT' h213 hF;exact QV rfl (join (decide (a97=0)) _ _ hF sw)
     intro join hF
     refine wX hF rfl (fun _ hF=>?_) fun _ hF=>?_
     ·refine wD 2 rfl ?_;obtain⟨r214,hr214,hF⟩:=bB' hF
      exact rS (cJ (N5 _ _ hr214) ⟨rfl,trivial⟩ rfl (.inl rfl) (QV rfl (join r214 _ _ hF sw)))
     exact aJ (join e75 _ _ hF sw)
    rintro⟨a62,a63⟩ x_0 hF cont_0 brk_0 fin_0
    unfold oQ at hF
    refine az (az (cW (fun _ _ h=>h) hF (fun v216=>[(1,cP (1,0) 0),(3,cI a62),(5,cI a63),(53,cB v216)]) (fun v216=>[((1,0),.box (bq p0))]) ?_ ?_))
    ·rintro v216 hF
     refine wIf hF rfl (fun _ hF=>?_) fun _ hF=>?_
     ·refine aJ (az (cW (fun _ _ h=>h) hF (fun v217=>[(1,cP (1,0) 0),(3,cI v217),(5,cI a63)]) (fun v217=>[((1,0),.box (bq p0))]) ?_ ?_))
      ·rintro v217 hF
       exact wB rfl (cont_0 _ _ _ (oi hF) sw)
      intro join hF
      refine c7 (az ?_);have hF:=bA hF;refine cW (fun _ _ h=>h) hF (fun v218=>[(1,cP (1,0) 0),(3,cI a62),(5,cI a63),(77,cB v218)]) (fun v218=>[((1,0),.box (bq p0))]) ?_ ?_
      ·rintro v218 hF
       refine wX hF rfl (fun _ hF=>?_) fun _ hF=>?_
       ·exact wB rfl (join 5 _ _ hF sw)
       exact aJ (join a62 _ _ hF sw)
      intro join hF
      refine f7 (by decide) (by kernel_rfl) rfl (aQ SP 4 rfl ?_);obtain⟨y220,hy220,hF⟩:=bB' hF
      refine aW SP trivial (dz (tc:=cz) p0.z6 rfl rfl hy220 (aQ SP 3 rfl ?_));obtain⟨r221,hr221,hF⟩:=bB' hF
      refine aW SP trivial (cJ (oY _ _ _ hr221) ⟨⟨rfl,rfl,rfl,rfl,rfl,rfl,rfl,rfl,rfl,rfl,trivial⟩,rfl,trivial⟩ rfl (.inl rfl) (aQ SP 2 rfl ?_));cases h222:(!r221)
      ·have hF:=bF' h222 hF;refine aQ SP 4 rfl ?_;obtain⟨y223,hy223,hF⟩:=bB' hF
       refine aW SP rfl (dz (tc:=cz) p0.z6 rfl rfl hy223 (aQ SP 3 rfl ?_));obtain⟨r224,hr224,hF⟩:=bB' hF
       exact aW SP rfl (cJ (oY _ _ _ hr224) ⟨⟨rfl,rfl,rfl,rfl,rfl,rfl,rfl,rfl,rfl,rfl,trivial⟩,rfl,trivial⟩ rfl (.inl rfl) (QP rfl (join (!r224) _ _ hF sw)))
      have hF:=bT' h222 hF;exact QP rfl (join true _ _ hF sw)
     exact dK (aq (aq (bj (brk_0 _ _ _ (oi hF) sw))))
    intro join hF
    refine wD 3 rfl (rS (d0 (tc:=cz) p0.z6 .tree (aQ SV 2 rfl ?_)));cases h226:(decide (a63<(List.length p0.z6:Int)))
    ·have hF:=bF' h226 hF;exact QV rfl (join false _ _ hF sw)
    have hF:=bT' h226 hF;exact QV rfl (join (decide (a62=0)) _ _ hF sw)
   intro join hF
   refine wX hF rfl (fun _ hF=>?_) fun _ hF=>?_
   ·refine wD 2 rfl ?_;obtain⟨r227,hr227,hF⟩:=bB' hF
    exact rS (cJ (N8 _ _ hr227) ⟨rfl,trivial⟩ rfl (.inl rfl) (QV rfl (join r227 _ _ hF sw)))
   exact aJ (join v32 _ _ hF sw)
  intro join hF
  refine wX hF rfl (fun _ hF=>?_) fun _ hF=>?_
  ·refine wD 4 rfl ?_;obtain⟨r229,hr229,hF⟩:=bB' hF
   exact rS (cJ (NW _ _ _ hr229) ⟨rfl,rfl,trivial⟩ rfl (.inl rfl) (QV rfl (join r229 _ _ hF sw)))
  exact aJ (join e31 _ _ hF sw)
 rintro⟨a22,a23⟩ x_0 hF cont_0 brk_0 fin_0
 unfold oW at hF
 refine az (az (cW (fun _ _ h=>h) hF (fun v231=>[(1,cP (1,0) 0),(3,cI a22),(4,cI a23),(21,cB v231)]) (fun v231=>[((1,0),.box (bq p0))]) ?_ ?_))
 ·rintro v231 hF
  refine wIf hF rfl (fun _ hF=>?_) fun _ hF=>?_
  ·refine aJ (az (cW (fun _ _ h=>h) hF (fun v232=>[(1,cP (1,0) 0),(3,cI v232),(4,cI a23)]) (fun v232=>[((1,0),.box (bq p0))]) ?_ ?_))
   ·rintro v232 hF
    exact wB rfl (cont_0 _ _ _ (oi hF) sw)
   intro join hF
   refine c7 (az (f7 (by decide) (by kernel_rfl) rfl (aQ SP 4 rfl ?_)));obtain⟨y233,hy233,hF⟩:=bB' hF
   refine aW SP trivial (dz (tc:=aj) p0.z3 rfl rfl hy233 (aQ SP 2 rfl ?_));obtain⟨r234,hr234,hF⟩:=bB' hF
   refine aW SP trivial (cJ (oY _ _ _ hr234) ⟨⟨rfl,rfl,rfl,rfl,rfl,rfl,rfl,rfl,rfl,rfl,trivial⟩,rfl,trivial⟩ rfl (.inl rfl) (QP rfl (wX hF rfl (fun _ hF=>?_) fun _ hF=>?_)))
   ·exact wB rfl (join 5 _ _ hF sw)
   exact aJ (join a22 _ _ hF sw)
  exact dK (aq (aq (bj (brk_0 _ _ _ (oi hF) sw))))
 intro join hF
 refine wD 3 rfl (rS (d0 (tc:=aj) p0.z3 .tree (aQ SV 2 rfl ?_)));cases h237:(decide (a23<(List.length p0.z3:Int)))
 ·have hF:=bF' h237 hF;exact QV rfl (join false _ _ hF sw)
 have hF:=bT' h237 hF;exact QV rfl (join (decide (a22=0)) _ _ hF sw)
def Aj(p0:a0)(a52:Int):Int→Option (Int ⊕ (Unit ⊕ (Int ⊕ (Unit ⊕ Int)))):=fun a91 =>
  (bif (decide (a91<a52))then((idx p0.q7 a91).bind fun y96=>((idx p0.q7 a52).bind fun y97=>(bif (decide (y96.w5=y97.w5))then some (.inr (.inr (.inr (.inr 4))))else some (.inl (w64 (a91+1))))))else some (.inr (.inl ())))
def uq(p0:a0):Int→Option (Int ⊕ (Unit ⊕ Int)):=fun a52 =>
  (bif (decide (a52<(List.length p0.q7:Int)))then((idx p0.q7 a52).bind fun y78=>((sJ y78).bind fun r79=>(bif (!decide (r79=0))then some (.inr (.inr r79))else((loop (Aj p0 a52) 0).bind fun | .inl _=>some (.inl (w64 (a52+1))) | .inr rv=>some rv))))else some (.inr (.inl ())))
def sY(p0:a0):Option Int :=
  (bif (decide (64<(List.length p0.q7:Int)))then some 7 else((loop (uq p0) 0).bind fun | .inl _=>((A3 p0).bind fun r77=>some r77) | .inr rv=>some rv))
theorem M2(p0:a0)(r:Int)(hF:sY p0=some r):Fun Tryz.prog 48 true [] [.agg (bq p0)] noHeap (cI r) noHeap:=by
 refine fW Tryz.func48 ?_
 unfold sY at hF
 refine wA rfl (az (wC 2 rfl (rS (d0 (tc:=bZ) p0.q7 .tree (QV rfl (wIf hF rfl (fun _ hF=>?_) fun _ hF=>?_))))))
 ·refine wA rfl ?_;cases hF
  exact bQ wR
 refine aJ (az (wA rfl (eZ (fun _ _ h=>h) hF (.inl) (fun a52=>[(1,cP (1,0) 0),(3,cI a52)]) (fun a52=>[((1,0),.box (bq p0))]) (fun _=>[(1,cP (1,0) 0)]) (fun _=>[((1,0),.box (bq p0))]) sw ?_ ?_)))
 ·rintro⟨⟩ hF
  refine wC 1 rfl ?_;obtain⟨r77,hr77,hF⟩:=bB hF
  refine rS (cJ (O4 _ _ hr77) ⟨⟨rfl,rfl,rfl,rfl,rfl,rfl,rfl,rfl,rfl,rfl,trivial⟩,trivial⟩ rfl (.inl rfl) (QV rfl ?_));cases hF
  exact bQ wR
 rintro a52 x_0 hF cont_0 brk_0 fin_0
 unfold uq at hF
 refine az (wC 3 rfl (rS (d0 (tc:=bZ) p0.q7 .tree (QV rfl (wIf hF rfl (fun _ hF=>?_) fun _ hF=>?_)))))
 ·refine aJ (az (c7 (wC 3 rfl ?_)));obtain⟨y78,hy78,hF⟩:=bB hF
  refine rS (dz (tc:=bZ) p0.q7 rfl rfl hy78 (aQ SV 1 rfl ?_));obtain⟨r79,hr79,hF⟩:=bB hF
  refine rS (cJ (M1 _ _ hr79) ⟨⟨rfl,rfl,rfl,trivial⟩,trivial⟩ rfl (.inl rfl) (QV rfl (az (wA rfl (wIf hF rfl (fun _ hF=>?_) fun _ hF=>?_)))))
  ·refine wA rfl ?_;have hF:=fin_0 _ (oi hF);cases hF
   exact bQ wR
  refine aJ (wA rfl (eZ (fun _ _ h=>h) hF (.inl) (fun a91=>[(1,cP (1,0) 0),(3,cI a52),(5,cI a91)]) (fun a91=>[((1,0),.box (bq p0))]) (fun _=>[(1,cP (1,0) 0),(3,cI a52)]) (fun _=>[((1,0),.box (bq p0))]) sw ?_ ?_))
  ·rintro⟨⟩ hF
   exact wB rfl (cont_0 _ _ _ (oi hF) sw)
  rintro a91 x_1 hF cont_1 brk_1 fin_1
  unfold Aj at hF
  refine az (wA rfl (wIf hF rfl (fun _ hF=>?_) fun _ hF=>?_))
  ·refine aJ (az (c7 (az (f7 (by decide) (by kernel_rfl) rfl (aQ SP 3 rfl ?_)))));obtain⟨y96,hy96,hF⟩:=bB hF
   refine aW SP trivial (dz (tc:=bZ) p0.q7 rfl rfl hy96 (aQ SP 5 rfl ?_));obtain⟨y97,hy97,hF⟩:=bB hF
   refine aW SP trivial (dz (tc:=bZ) p0.q7 rfl rfl hy97 (QP rfl (wIf hF rfl (fun _ hF=>?_) fun _ hF=>?_)))
   ·refine wA rfl ?_;have hF:=fin_1 _ (oi hF);have hF:=fin_0 _ (oi hF);cases hF
    exact bQ wR
   exact aJ (wB rfl (cont_1 _ _ _ (oi hF) sw))
  exact dK (aq (aq (bj (brk_1 _ _ _ (oi hF) sw))))
 exact dK (aq (aq (bj (brk_0 _ _ _ (oi hF) sw))))
def mY(p0:aZ)(p1:aZ):Option Bool :=
  (((bif (decide (p1.q0≤p0.q0))then some (decide (p0.q9≤p1.q9))else some false):Option Bool).bind fun v1=>some v1)
theorem yK(p0:aZ)(p1:aZ)(r:Bool)(hF:mY p0 p1=some r):Fun Tryz.prog 49 true [] [.agg [jI p0.q0,jI p0.q9],.agg [jI p1.q0,jI p1.q9]] noHeap (cB r) noHeap:=by
 refine fW Tryz.func49 ?_
 unfold mY at hF
 refine wA rfl (az (cW (fun _ _ h=>h) hF (fun v1=>[(4,cB v1)]) (fun v1=>[]) ?_ ?_))
 ·rintro v1 hF
  cases hF
  exact bQ wR
 intro join hF
 refine wD 6 rfl ?_;cases h2:(decide (p1.q0≤p0.q0))
 ·have hF:=bF' h2 hF;exact QV rfl (join false _ _ hF sw)
 have hF:=bT' h2 hF;exact QV rfl (join (decide (p0.q9≤p1.q9)) _ _ hF sw)
def gY(p0:Int)(p1:aZ):Option Bool :=
  (((bif (decide (p1.q0≤p0))then some (decide (p0<p1.q9))else some false):Option Bool).bind fun v1=>some v1)
theorem jK(p0:Int)(p1:aZ)(r:Bool)(hF:gY p0 p1=some r):Fun Tryz.prog 50 true [] [cI p0,.agg [jI p1.q0,jI p1.q9]] noHeap (cB r) noHeap:=by
 refine fW Tryz.func50 ?_
 unfold gY at hF
 refine wA rfl (az (cW (fun _ _ h=>h) hF (fun v1=>[(4,cB v1)]) (fun v1=>[]) ?_ ?_))
 ·rintro v1 hF
  cases hF
  exact bQ wR
 intro join hF
 refine wD 5 rfl ?_;cases h2:(decide (p1.q0≤p0))
 ·have hF:=bF' h2 hF;exact QV rfl (join false _ _ hF sw)
 have hF:=bT' h2 hF;exact QV rfl (join (decide (p0<p1.q9)) _ _ hF sw)
def qJ(p0:a0):(Bool×Int)→Option ((Bool×Int) ⊕ Bool):=fun(a146,a147) =>
  (bif (decide (a147<(List.length p0.j4:Int)))then(((bif a146 then((idx p0.j4 a147).bind fun y157=>((gY y157.j8 p0.q5).bind fun r158=>some r158))else some false):Option Bool).bind fun v155=>some (.inl (v155,(w64 (a147+1)))))else some (.inr a146))
def qj(p0:a0):(Bool×Int)→Option ((Bool×Int) ⊕ Bool):=fun(a122,a123) =>
  (bif (decide (a123<(List.length p0.z2:Int)))then(((bif a122 then((idx p0.z2 a123).bind fun y162=>((gY y162.j8 p0.q5).bind fun r163=>some r163))else some false):Option Bool).bind fun v160=>some (.inl (v160,(w64 (a123+1)))))else some (.inr a122))
def qY(p0:a0):(Bool×Int)→Option ((Bool×Int) ⊕ Bool):=fun(a95,a96) =>
  (bif (decide (a96<(List.length p0.z6:Int)))then(((bif a95 then((idx p0.z6 a96).bind fun y167=>((gY y167.w7 p0.q5).bind fun r168=>(bif r168 then((idx p0.z6 a96).bind fun y170=>((gY y170.w4 p0.q5).bind fun r171=>some r171))else some false)))else some false):Option Bool).bind fun v165=>some (.inl (v165,(w64 (a96+1)))))else some (.inr a95))
def qV(p0:a0):(Bool×Int)→Option ((Bool×Int) ⊕ Bool):=fun(a65,a66) =>
  (bif (decide (a66<(List.length p0.z5:Int)))then(((bif a65 then((idx p0.z5 a66).bind fun y175=>((mY y175.q5 p0.q5).bind fun r176=>some r176))else some false):Option Bool).bind fun v173=>some (.inl (v173,(w64 (a66+1)))))else some (.inr a65))
def qz(p0:a0):(Bool×Int)→Option ((Bool×Int) ⊕ Bool):=fun(a41,a42) =>
  (bif (decide (a42<(List.length p0.z8:Int)))then(((bif a41 then((idx p0.z8 a42).bind fun y180=>((mY y180.q5 p0.q5).bind fun r181=>some r181))else some false):Option Bool).bind fun v178=>some (.inl (v178,(w64 (a42+1)))))else some (.inr a41))
def qQ(p0:a0):(Bool×Int)→Option ((Bool×Int) ⊕ Bool):=fun(a17,a18) =>
  (bif (decide (a18<(List.length p0.z3:Int)))then(((bif a17 then((idx p0.z3 a18).bind fun y185=>((mY y185.q5 p0.q5).bind fun r186=>some r186))else some false):Option Bool).bind fun v183=>some (.inl (v183,(w64 (a18+1)))))else some (.inr a17))
def qx(p0:a0):Option Int :=
  ((sY p0).bind fun r1=>(bif (!decide (r1=0))then some r1 else(((bif (decide (p0.q5.q0<0))then some true else(bif (decide (p0.q5.q9<p0.q5.q0))then some true else some (decide (1000000000000<p0.q5.q9)))):Option Bool).bind fun v2=>(bif v2 then some 2 else((loop (qQ p0) (true,0)).bind fun e24=>((loop (qz p0) (e24,0)).bind fun e48=>((loop (qV p0) (e48,0)).bind fun e72=>((loop (qY p0) (e72,0)).bind fun e105=>((loop (qj p0) (e105,0)).bind fun e129=>((loop (qJ p0) (e129,0)).bind fun e153=>(bif (!e153)then some 10 else some 0)))))))))))
theorem F1(p0:a0)(r:Int)(hF:qx p0=some r):Fun Tryz.prog 15 true [] [.agg (bq p0)] noHeap (cI r) noHeap:=by
 refine fW Tryz.func15 ?_
 unfold qx at hF
 refine wA rfl (wC 1 rfl ?_);obtain⟨r1,hr1,hF⟩:=bB hF
 refine rS (cJ (M2 _ _ hr1) ⟨⟨rfl,rfl,rfl,rfl,rfl,rfl,rfl,rfl,rfl,rfl,trivial⟩,trivial⟩ rfl (.inl rfl) (QV rfl (az (wA rfl (wIf hF rfl (fun _ hF=>?_) fun _ hF=>?_)))))
 ·refine wA rfl ?_;cases hF
  exact bQ wR
 refine aJ (wA rfl (az (az (cW (fun _ _ h=>h) hF (fun v2=>[(1,cP (1,0) 0),(4,cP (4,0) 0),(33,cB v2)]) (fun v2=>[((1,0),.box (bq p0)),((4,0),.box [jI p0.q5.q0,jI p0.q5.q9])]) ?_ ?_))))
 ·rintro v2 hF
  refine wIf hF rfl (fun _ hF=>?_) fun _ hF=>?_
  ·refine wA rfl ?_;cases hF
   exact bQ wR
  refine aJ (wA rfl (az (wA rfl (eZ (fun _ _ h=>h) hF (id) (fun(a17,a18)=>[(1,cP (1,0) 0),(4,cP (4,0) 0),(5,cB a17),(6,cI a18)]) (fun(a17,a18)=>[((1,0),.box (bq p0)),((4,0),.box [jI p0.q5.q0,jI p0.q5.q9])]) (fun e24=>[(1,cP (1,0) 0),(4,cP (4,0) 0),(5,cB e24)]) (fun e24=>[((1,0),.box (bq p0)),((4,0),.box [jI p0.q5.q0,jI p0.q5.q9])]) sw ?_ ?_))))
  ·rintro e24 hF
   refine az (wA rfl (eZ (fun _ _ h=>h) hF (id) (fun(a41,a42)=>[(1,cP (1,0) 0),(4,cP (4,0) 0),(5,cB a41),(7,cI a42)]) (fun(a41,a42)=>[((1,0),.box (bq p0)),((4,0),.box [jI p0.q5.q0,jI p0.q5.q9])]) (fun e48=>[(1,cP (1,0) 0),(4,cP (4,0) 0),(5,cB e48)]) (fun e48=>[((1,0),.box (bq p0)),((4,0),.box [jI p0.q5.q0,jI p0.q5.q9])]) sw ?_ ?_))
   ·rintro e48 hF
    refine az (wA rfl (eZ (fun _ _ h=>h) hF (id) (fun(a65,a66)=>[(1,cP (1,0) 0),(4,cP (4,0) 0),(5,cB a65),(8,cI a66)]) (fun(a65,a66)=>[((1,0),.box (bq p0)),((4,0),.box [jI p0.q5.q0,jI p0.q5.q9])]) (fun e72=>[(1,cP (1,0) 0),(4,cP (4,0) 0),(5,cB e72)]) (fun e72=>[((1,0),.box (bq p0)),((4,0),.box [jI p0.q5.q0,jI p0.q5.q9])]) sw ?_ ?_))
    ·rintro e72 hF
     refine az (wA rfl (eZ (fun _ _ h=>h) hF (id) (fun(a95,a96)=>[(1,cP (1,0) 0),(4,cP (4,0) 0),(5,cB a95),(9,cI a96)]) (fun(a95,a96)=>[((1,0),.box (bq p0)),((4,0),.box [jI p0.q5.q0,jI p0.q5.q9])]) (fun e105=>[(1,cP (1,0) 0),(4,cP (4,0) 0),(5,cB e105)]) (fun e105=>[((1,0),.box (bq p0)),((4,0),.box [jI p0.q5.q0,jI p0.q5.q9])]) sw ?_ ?_))
     ·rintro e105 hF
      refine az (wA rfl (eZ (fun _ _ h=>h) hF (id) (fun(a122,a123)=>[(1,cP (1,0) 0),(4,cP (4,0) 0),(5,cB a122),(10,cI a123)]) (fun(a122,a123)=>[((1,0),.box (bq p0)),((4,0),.box [jI p0.q5.q0,jI p0.q5.q9])]) (fun e129=>[(1,cP (1,0) 0),(4,cP (4,0) 0),(5,cB e129)]) (fun e129=>[((1,0),.box (bq p0)),((4,0),.box [jI p0.q5.q0,jI p0.q5.q9])]) sw ?_ ?_))
      ·rintro e129 hF
       refine az (wA rfl (eZ (fun _ _ h=>h) hF (id) (fun(a146,a147)=>[(1,cP (1,0) 0),(4,cP (4,0) 0),(5,cB a146),(11,cI a147)]) (fun(a146,a147)=>[((1,0),.box (bq p0)),((4,0),.box [jI p0.q5.q0,jI p0.q5.q9])]) (fun e153=>[(5,cB e153)]) (fun e153=>[]) sw ?_ ?_))
       ·rintro e153 hF
        refine az (wA rfl (wIf hF rfl (fun _ hF=>?_) fun _ hF=>?_))
        ·refine wA rfl ?_;cases hF
         exact bQ wR
        refine aJ (wA rfl ?_);cases hF
        exact bQ wR
       rintro⟨a146,a147⟩ x_0 hF cont_0 brk_0 fin_0
       unfold qJ at hF
       refine az (wC 3 rfl (rS (d0 (tc:=bX) p0.j4 .tree (QV rfl (wIf hF rfl (fun _ hF=>?_) fun _ hF=>?_)))))
       ·refine aJ (az (cW (fun _ _ h=>h) hF (fun v155=>[(1,cP (1,0) 0),(4,cP (4,0) 0),(5,cB v155),(11,cI a147)]) (fun v155=>[((1,0),.box (bq p0)),((4,0),.box [jI p0.q5.q0,jI p0.q5.q9])]) ?_ ?_))
        ·rintro v155 hF
         exact wB rfl (cont_0 _ _ _ (oi hF) sw)
        intro join hF
        refine c7 (f7 (by decide) (by kernel_rfl) rfl (aQ SP 2 rfl ?_));cases h156:a146
        ·have hF:=bF' h156 hF;exact QP rfl (join false _ _ hF sw)
        have hF:=bT' h156 hF;refine aQ SP 3 rfl ?_;obtain⟨y157,hy157,hF⟩:=bB' hF
        refine aW SP rfl (dz (tc:=bX) p0.j4 rfl rfl hy157 (aQ SP 3 rfl ?_));obtain⟨r158,hr158,hF⟩:=bB' hF
        exact aW SP rfl (cJ (jK _ _ _ hr158) ⟨rfl,⟨rfl,rfl,trivial⟩,trivial⟩ rfl (.inl rfl) (QP rfl (join r158 _ _ hF sw)))
       exact dK (aq (aq (bj (brk_0 _ _ _ (oi hF) sw))))
      rintro⟨a122,a123⟩ x_0 hF cont_0 brk_0 fin_0
      unfold qj at hF
      refine az (wC 3 rfl (rS (d0 (tc:=b9) p0.z2 .tree (QV rfl (wIf hF rfl (fun _ hF=>?_) fun _ hF=>?_)))))
      ·refine aJ (az (cW (fun _ _ h=>h) hF (fun v160=>[(1,cP (1,0) 0),(4,cP (4,0) 0),(5,cB v160),(10,cI a123)]) (fun v160=>[((1,0),.box (bq p0)),((4,0),.box [jI p0.q5.q0,jI p0.q5.q9])]) ?_ ?_))
       ·rintro v160 hF
        exact wB rfl (cont_0 _ _ _ (oi hF) sw)
       intro join hF
       refine c7 (f7 (by decide) (by kernel_rfl) rfl (aQ SP 2 rfl ?_));cases h161:a122
       ·have hF:=bF' h161 hF;exact QP rfl (join false _ _ hF sw)
       have hF:=bT' h161 hF;refine aQ SP 3 rfl ?_;obtain⟨y162,hy162,hF⟩:=bB' hF
       refine aW SP rfl (dz (tc:=b9) p0.z2 rfl rfl hy162 (aQ SP 3 rfl ?_));obtain⟨r163,hr163,hF⟩:=bB' hF
       exact aW SP rfl (cJ (jK _ _ _ hr163) ⟨rfl,⟨rfl,rfl,trivial⟩,trivial⟩ rfl (.inl rfl) (QP rfl (join r163 _ _ hF sw)))
      exact dK (aq (aq (bj (brk_0 _ _ _ (oi hF) sw))))
     rintro⟨a95,a96⟩ x_0 hF cont_0 brk_0 fin_0
     unfold qY at hF
     refine az (wC 3 rfl (rS (d0 (tc:=cz) p0.z6 .tree (QV rfl (wIf hF rfl (fun _ hF=>?_) fun _ hF=>?_)))))
     ·refine aJ (az (cW (fun _ _ h=>h) hF (fun v165=>[(1,cP (1,0) 0),(4,cP (4,0) 0),(5,cB v165),(9,cI a96)]) (fun v165=>[((1,0),.box (bq p0)),((4,0),.box [jI p0.q5.q0,jI p0.q5.q9])]) ?_ ?_))
      ·rintro v165 hF
       exact wB rfl (cont_0 _ _ _ (oi hF) sw)
      intro join hF
      refine c7 (f7 (by decide) (by kernel_rfl) rfl (aQ SP 2 rfl ?_));cases h166:a95
      ·have hF:=bF' h166 hF;exact QP rfl (join false _ _ hF sw)
      have hF:=bT' h166 hF;refine aQ SP 3 rfl ?_;obtain⟨y167,hy167,hF⟩:=bB' hF
      refine aW SP rfl (dz (tc:=cz) p0.z6 rfl rfl hy167 (aQ SP 3 rfl ?_));obtain⟨r168,hr168,hF⟩:=bB' hF
      refine aW SP rfl (cJ (jK _ _ _ hr168) ⟨rfl,⟨rfl,rfl,trivial⟩,trivial⟩ rfl (.inl rfl) (aQ SP 2 rfl ?_));cases h169:r168
      ·have hF:=bF' h169 hF;exact QP rfl (join false _ _ hF sw)
      have hF:=bT' h169 hF;refine aQ SP 3 rfl ?_;obtain⟨y170,hy170,hF⟩:=bB' hF
      refine aW SP rfl (dz (tc:=cz) p0.z6 rfl rfl hy170 (aQ SP 3 rfl ?_));obtain⟨r171,hr171,hF⟩:=bB' hF
      exact aW SP rfl (cJ (jK _ _ _ hr171) ⟨rfl,⟨rfl,rfl,trivial⟩,trivial⟩ rfl (.inl rfl) (QP rfl (join r171 _ _ hF sw)))
     exact dK (aq (aq (bj (brk_0 _ _ _ (oi hF) sw))))
    rintro⟨a65,a66⟩ x_0 hF cont_0 brk_0 fin_0
    unfold qV at hF
    refine az (wC 3 rfl (rS (d0 (tc:=bJ) p0.z5 .tree (QV rfl (wIf hF rfl (fun _ hF=>?_) fun _ hF=>?_)))))
    ·refine aJ (az (cW (fun _ _ h=>h) hF (fun v173=>[(1,cP (1,0) 0),(4,cP (4,0) 0),(5,cB v173),(8,cI a66)]) (fun v173=>[((1,0),.box (bq p0)),((4,0),.box [jI p0.q5.q0,jI p0.q5.q9])]) ?_ ?_))
     ·rintro v173 hF
      exact wB rfl (cont_0 _ _ _ (oi hF) sw)
     intro join hF
     refine c7 (f7 (by decide) (by kernel_rfl) rfl (aQ SP 2 rfl ?_));cases h174:a65
     ·have hF:=bF' h174 hF;exact QP rfl (join false _ _ hF sw)
     have hF:=bT' h174 hF;refine aQ SP 3 rfl ?_;obtain⟨y175,hy175,hF⟩:=bB' hF
     refine aW SP rfl (dz (tc:=bJ) p0.z5 rfl rfl hy175 (aQ SP 3 rfl ?_));obtain⟨r176,hr176,hF⟩:=bB' hF
     exact aW SP rfl (cJ (yK _ _ _ hr176) ⟨⟨rfl,rfl,trivial⟩,⟨rfl,rfl,trivial⟩,trivial⟩ rfl (.inl rfl) (QP rfl (join r176 _ _ hF sw)))
    exact dK (aq (aq (bj (brk_0 _ _ _ (oi hF) sw))))
   rintro⟨a41,a42⟩ x_0 hF cont_0 brk_0 fin_0
   unfold qz at hF
   refine az (wC 3 rfl (rS (d0 (tc:=bz) p0.z8 .tree (QV rfl (wIf hF rfl (fun _ hF=>?_) fun _ hF=>?_)))))
   ·refine aJ (az (cW (fun _ _ h=>h) hF (fun v178=>[(1,cP (1,0) 0),(4,cP (4,0) 0),(5,cB v178),(7,cI a42)]) (fun v178=>[((1,0),.box (bq p0)),((4,0),.box [jI p0.q5.q0,jI p0.q5.q9])]) ?_ ?_))
    ·rintro v178 hF
     exact wB rfl (cont_0 _ _ _ (oi hF) sw)
    intro join hF
    refine c7 (f7 (by decide) (by kernel_rfl) rfl (aQ SP 2 rfl ?_));cases h179:a41
    ·have hF:=bF' h179 hF;exact QP rfl (join false _ _ hF sw)
    have hF:=bT' h179 hF;refine aQ SP 3 rfl ?_;obtain⟨y180,hy180,hF⟩:=bB' hF
    refine aW SP rfl (dz (tc:=bz) p0.z8 rfl rfl hy180 (aQ SP 3 rfl ?_));obtain⟨r181,hr181,hF⟩:=bB' hF
    exact aW SP rfl (cJ (yK _ _ _ hr181) ⟨⟨rfl,rfl,trivial⟩,⟨rfl,rfl,trivial⟩,trivial⟩ rfl (.inl rfl) (QP rfl (join r181 _ _ hF sw)))
   exact dK (aq (aq (bj (brk_0 _ _ _ (oi hF) sw))))
  rintro⟨a17,a18⟩ x_0 hF cont_0 brk_0 fin_0
  unfold qQ at hF
  refine az (wC 3 rfl (rS (d0 (tc:=aj) p0.z3 .tree (QV rfl (wIf hF rfl (fun _ hF=>?_) fun _ hF=>?_)))))
  ·refine aJ (az (cW (fun _ _ h=>h) hF (fun v183=>[(1,cP (1,0) 0),(4,cP (4,0) 0),(5,cB v183),(6,cI a18)]) (fun v183=>[((1,0),.box (bq p0)),((4,0),.box [jI p0.q5.q0,jI p0.q5.q9])]) ?_ ?_))
   ·rintro v183 hF
    exact wB rfl (cont_0 _ _ _ (oi hF) sw)
   intro join hF
   refine c7 (f7 (by decide) (by kernel_rfl) rfl (aQ SP 2 rfl ?_));cases h184:a17
   ·have hF:=bF' h184 hF;exact QP rfl (join false _ _ hF sw)
   have hF:=bT' h184 hF;refine aQ SP 3 rfl ?_;obtain⟨y185,hy185,hF⟩:=bB' hF
   refine aW SP rfl (dz (tc:=aj) p0.z3 rfl rfl hy185 (aQ SP 3 rfl ?_));obtain⟨r186,hr186,hF⟩:=bB' hF
   exact aW SP rfl (cJ (yK _ _ _ hr186) ⟨⟨rfl,rfl,trivial⟩,⟨rfl,rfl,trivial⟩,trivial⟩ rfl (.inl rfl) (QP rfl (join r186 _ _ hF sw)))
  exact dK (aq (aq (bj (brk_0 _ _ _ (oi hF) sw))))
 intro join hF
 refine wD 4 rfl ?_;cases h189:(decide (p0.q5.q0<0))
 ·have hF:=bF' h189 hF;refine aQ SV 7 rfl ?_;cases h190:(decide (p0.q5.q9<p0.q5.q0))
  ·have hF:=bF' h190 hF;exact QV rfl (join (decide (1000000000000<p0.q5.q9)) _ _ hF sw)
  have hF:=bT' h190 hF;exact QV rfl (join true _ _ hF sw)
 have hF:=bT' h189 hF;exact QV rfl (join true _ _ hF sw)
def kZ(p0:(List dW))(p1:(List dW)):Int→Option (Int ⊕ (Unit ⊕ Bool)):=fun a12 =>
  (bif (decide (a12<(List.length p0:Int)))then((idx p0 a12).bind fun y17=>((idx p1 a12).bind fun y18=>(bif ((decide (y17.w5=y18.w5)&&(decide (y17.q8=y18.q8)&&(decide (y17.x3=y18.x3)&&true))) != true)then some (.inr (.inr false))else some (.inl (w64 (a12+1))))))else some (.inr (.inl ())))
def lW(p0:(List dW))(p1:(List dW)):Option Bool :=
  (bif (!decide ((List.length p0:Int)=(List.length p1:Int)))then some false else((loop (kZ p0 p1) 0).bind fun | .inl _=>some true | .inr rv=>some rv))
theorem E3(p0:(List dW))(p1:(List dW))(r:Bool)(hF:lW p0 p1=some r):Fun Tryz.prog 51 true [] [cL 3 bZ p0,cL 3 bZ p1] noHeap (cB r) noHeap:=by
 refine fW Tryz.func51 ?_
 unfold lW at hF
 refine wA rfl (az (wC 1 rfl (rS (d0 (tc:=bZ) p0 .tree (aQ SV 1 rfl (rS (d0 (tc:=bZ) p1 .tree (QV rfl (wIf hF rfl (fun _ hF=>?_) fun _ hF=>?_)))))))))
 ·refine wA rfl ?_;cases hF
  exact bQ wR
 refine aJ (az (wC 1 rfl (rS (d0 (tc:=bZ) p0 .tree (QV rfl (eZ (fun _ _ h=>h) hF (.inl) (fun a12=>[(0,cL 3 bZ p0),(1,cL 3 bZ p1),(12,cI (List.length p0:Int)),(13,cI a12)]) (fun a12=>[]) (fun _=>[]) (fun _=>[]) sw ?_ ?_))))))
 ·rintro⟨⟩ hF
  refine wA rfl ?_;cases hF
  exact bQ wR
 rintro a12 x_0 hF cont_0 brk_0 fin_0
 unfold kZ at hF
 refine wA rfl (az (wIf hF rfl (fun _ hF=>?_) fun _ hF=>?_))
 ·refine aJ (az (c7 (wA rfl (az (f7 (by decide) (by kernel_rfl) rfl (aQ SP 2 rfl ?_))))));obtain⟨y17,hy17,hF⟩:=bB hF
  refine aW SP trivial (dz (tc:=bZ) p0 rfl rfl hy17 (aQ SP 3 rfl ?_));obtain⟨y18,hy18,hF⟩:=bB hF
  refine aW SP trivial (dz (tc:=bZ) p1 rfl rfl hy18 (aQ SP 1 rfl (aW SP trivial (J0 (b:=(decide (y17.w5=y18.w5)&&(decide (y17.q8=y18.q8)&&(decide (y17.x3=y18.x3)&&true)))) (eqOk_of (n:=3) (sh:=[.int .i64,.string,.int .i64]) Tryz.underlying58 (by kernel_rfl) (by kernel_rfl)) rfl rfl rfl rfl (QP rfl (wIf hF rfl (fun _ hF=>?_) fun _ hF=>?_))))))
  ·refine wA rfl ?_;have hF:=fin_0 _ (oi hF);cases hF
   exact bQ wR
  exact aJ (wB rfl (cont_0 _ _ _ (oi hF) sw))
 exact dK (aq (aq (bj (brk_0 _ _ _ (oi hF) sw))))
def lJ(p0:(List aY))(p1:(List aY)):Int→Option (Int ⊕ (Unit ⊕ Bool)):=fun a12 =>
  (bif (decide (a12<(List.length p0:Int)))then((idx p0 a12).bind fun y17=>((idx p1 a12).bind fun y18=>(bif ((decide (y17.q6=y18.q6)&&(decide (y17.z1=y18.z1)&&(decide (y17.z9=y18.z9)&&(decide (y17.q8=y18.q8)&&(decide (y17.q5.q0=y18.q5.q0)&&(decide (y17.q5.q9=y18.q5.q9)&&(decide (y17.j9=y18.j9)&&(decide (y17.v8=y18.v8)&&true)))))))) != true)then some (.inr (.inr false))else some (.inl (w64 (a12+1))))))else some (.inr (.inl ())))
def mW(p0:(List aY))(p1:(List aY)):Option Bool :=
  (bif (!decide ((List.length p0:Int)=(List.length p1:Int)))then some false else((loop (lJ p0 p1) 0).bind fun | .inl _=>some true | .inr rv=>some rv))
end Go.VM
