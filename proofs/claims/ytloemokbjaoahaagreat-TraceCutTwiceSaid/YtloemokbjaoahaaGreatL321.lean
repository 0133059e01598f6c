/- What the functions of the law compute, each with its proof. -/
import Derived.Test.YtloemokbjaoahaaGreatRaw
import Derived.Test.YtloemokbjaoahaaGreatRows
import Derived.KernelRfl
import Derived.Lib.Bytealg
import Derived.Laws.Externs
import Derived.WalkKit
namespace Go.VM
open Go.Proofs Go.Proofs.YtloemokbjaoahaaGreat
open Go.RowKit
set_option maxRecDepth 100000
set_option maxHeartbeats 4000000
structure az where
  q5:Int
  q8:Int
  deriving DecidableEq
structure i5 where
  x6:Int
  q7:ByteArray
  x8:Int
  deriving DecidableEq
structure aX where
  q6:Int
  z2:Int
  j3:Int
  q7:ByteArray
  q0:az
  x3:Int
  w7:Bool
  deriving DecidableEq
abbrev p6(x:aX):List C:=[.imm (tI x.q6),.imm (tI x.z2),.imm (tI x.j3),.imm (.sc (.string x.q7)),.imm (tI x.q0.q5),.imm (tI x.q0.q8),.imm (tI x.x3),.imm (.sc (.bool x.w7))]
structure bj where
  q6:Int
  j8:Int
  q0:az
  x7:Int
  g8:Int
  g9:Int
  deriving DecidableEq
abbrev o3(x:bj):List C:=[.imm (tI x.q6),.imm (tI x.j8),.imm (tI x.q0.q5),.imm (tI x.q0.q8),.imm (tI x.x7),.imm (tI x.g8),.imm (tI x.g9)]
structure aoZ where
  q6:Int
  w8:Int
  deriving DecidableEq
structure c7 where
  x6:Int
  q5:aoZ
  q8:aoZ
  w9:Int
  v8:Int
  deriving DecidableEq
abbrev G1(x:c7):List C:=[.imm (tI x.x6),.imm (tI x.q5.q6),.imm (tI x.q5.w8),.imm (tI x.q8.q6),.imm (tI x.q8.w8),.imm (tI x.w9),.imm (tI x.v8)]
structure bY where
  q6:Int
  j9:Int
  w5:Int
  j4:(List ByteArray)
  deriving DecidableEq
structure bJ where
  q7:ByteArray
  j9:Int
  j6:Int
  deriving DecidableEq
abbrev KJ(x:bJ):List C:=[.imm (.sc (.string x.q7)),.imm (tI x.j9),.imm (tI x.j6)]
structure cz where
  x6:Int
  q6:Int
  x5:Int
  q0:az
  j4:(List ByteArray)
  x9:Bool
  deriving DecidableEq
structure fJ where
  q6:Int
  q0:az
  w6:Int
  deriving DecidableEq
structure cW where
  q0:az
  z3:(List i5)
  z6:(List aX)
  j7:(List bj)
  v9:(List c7)
  z9:(List bY)
  w4:(List bJ)
  j5:(List cz)
  x4:(List fJ)
  deriving DecidableEq
def fX(x:i5):List T:=[tI x.x6,.sc (.string x.q7),tI x.x8]
def aK(x:aX):List T:=[tI x.q6,tI x.z2,tI x.j3,.sc (.string x.q7),tI x.q0.q5,tI x.q0.q8,tI x.x3,.sc (.bool x.w7)]
def bW(x:bj):List T:=[tI x.q6,tI x.j8,tI x.q0.q5,tI x.q0.q8,tI x.x7,tI x.g8,tI x.g9]
def c4(x:c7):List T:=[tI x.x6,tI x.q5.q6,tI x.q5.w8,tI x.q8.q6,tI x.q8.w8,tI x.w9,tI x.v8]
def CW(x:ByteArray):List T:=[.sc (.string x)]
abbrev rj(x:cz):List C:=[.imm (tI x.x6),.imm (tI x.q6),.imm (tI x.x5),.imm (tI x.q0.q5),.imm (tI x.q0.q8),.imm (.sl 1 (List.map CW x.j4)),.imm (.sc (.bool x.x9))]
abbrev wx(x:bY):List C:=[.imm (tI x.q6),.imm (tI x.j9),.imm (tI x.w5),.imm (.sl 1 (List.map CW x.j4))]
def cV(x:bY):List T:=[tI x.q6,tI x.j9,tI x.w5,.sl 1 (List.map CW x.j4)]
def c5(x:bJ):List T:=[.sc (.string x.q7),tI x.j9,tI x.j6]
def cq(x:cz):List T:=[tI x.x6,tI x.q6,tI x.x5,tI x.q0.q5,tI x.q0.q8,.sl 1 (List.map CW x.j4),.sc (.bool x.x9)]
def fj(x:fJ):List T:=[tI x.q6,tI x.q0.q5,tI x.q0.q8,tI x.w6]
abbrev nJ(x:cW):List C:=[.imm (tI x.q0.q5),.imm (tI x.q0.q8),.imm (.sl 3 (List.map fX x.z3)),.imm (.sl 8 (List.map aK x.z6)),.imm (.sl 7 (List.map bW x.j7)),.imm (.sl 7 (List.map c4 x.v9)),.imm (.sl 4 (List.map cV x.z9)),.imm (.sl 3 (List.map c5 x.w4)),.imm (.sl 7 (List.map cq x.j5)),.imm (.sl 4 (List.map fj x.x4))]
def u4(x:Int):List T:=[tI x]
structure ax where
  q9:aX
  fold:Int
  deriving DecidableEq
abbrev PW(x:ax):List C:=[.imm (tI x.q9.q6),.imm (tI x.q9.z2),.imm (tI x.q9.j3),.imm (.sc (.string x.q9.q7)),.imm (tI x.q9.q0.q5),.imm (tI x.q9.q0.q8),.imm (tI x.q9.x3),.imm (.sc (.bool x.q9.w7)),.imm (tI x.fold)]
def aj(x:ax):List T:=[tI x.q9.q6,tI x.q9.z2,tI x.q9.j3,.sc (.string x.q9.q7),tI x.q9.q0.q5,tI x.q9.q0.q8,tI x.q9.x3,.sc (.bool x.q9.w7),tI x.fold]
def baZ:VC:=(.seq (rg [vo 2 (.mv (kB false))]) (.seq (rg [vm 3 0,vo 4 (.bin .geq 3 (.con (.c (.imm (.sc (.int .u8 97)))))),vm 5 4,vg 6 5 true (.mv 0),vg 7 5 true (.bin .leq 6 (.con (.c (.imm (.sc (.int .u8 122)))))),vo 8 (.pick 5 7 (kB false)),vm 9 8,vg 10 9 false (.mv 0),vg 11 9 false (.bin .geq 10 (.con (.c (.imm (.sc (.int .u8 65)))))),vg 12 9 false (.mv 11),vg 13 12 true (.mv 0),vg 14 12 true (.bin .leq 13 (.con (.c (.imm (.sc (.int .u8 90)))))),vg 15 9 false (.pick 12 14 (kB false)),vo 16 (.pick 9 (kB true) 15),vm 17 16,vg 18 17 false (.mv 0),vg 19 17 false (.bin .geq 18 (.con (.c (.imm (.sc (.int .u8 48)))))),vg 20 17 false (.mv 19),vg 21 20 true (.mv 0),vg 22 20 true (.bin .leq 21 (.con (.c (.imm (.sc (.int .u8 57)))))),vg 23 17 false (.pick 20 22 (kB false)),vo 24 (.pick 17 (kB true) 23),vm 25 24,vg 26 25 false (.mv 0),vg 27 25 false (.call 257 [(.con (.c (.imm (.sc (.string ⟨#[95,46,58,47,60,62,36,42,126,45]⟩))))),26]),vg 28 25 false (.bin .geq 27 (kI 0)),vo 29 (.pick 25 (kB true) 28),vm 2 29]) .ret))
theorem bcz:(Tryz.f221.body.bind fun c=>mJ Tryz.prog 30 c)=some baZ:=by kernel_rfl
theorem a7K:J6 Tryz.prog 58=true:=by kernel_rfl
theorem a9q:J6 Tryz.prog 61=true:=by kernel_rfl
theorem a4x:J6 Tryz.prog 111=true:=by kernel_rfl
theorem aZY:J6 Tryz.prog 115=true:=by kernel_rfl
theorem a2Z:J6 Tryz.prog 116=true:=by kernel_rfl
theorem aZW:J6 Tryz.prog 119=true:=by kernel_rfl
theorem a2K:J6 Tryz.prog 123=true:=by kernel_rfl
theorem a0q:J6 Tryz.prog 126=true:=by kernel_rfl
theorem a2W:J6 Tryz.prog 129=true:=by kernel_rfl
theorem a2Q:J6 Tryz.prog 131=true:=by kernel_rfl
theorem a1j:J6 Tryz.prog 133=true:=by kernel_rfl
theorem a0W:J6 Tryz.prog 136=true:=by kernel_rfl
theorem a1x:J6 Tryz.prog 138=true:=by kernel_rfl
theorem Z3:J6 Tryz.prog 141=true:=by kernel_rfl
def sJ(p0:cW):Option Bool :=
  (((bif (decide ((List.length p0.z3:Int)≤70))then(bif (decide ((List.length p0.z6:Int)≤100))then(bif (decide ((List.length p0.j7:Int)≤200))then(bif (decide ((List.length p0.v9:Int)≤100))then(bif (decide ((List.length p0.z9:Int)≤100))then(bif (decide ((List.length p0.w4:Int)≤100))then(bif (decide ((List.length p0.j5:Int)≤100))then some (decide ((List.length p0.x4:Int)≤50))else some false)else some false)else some false)else some false)else some false)else some false)else some false):Option Bool).bind fun v1=>some v1)
theorem K8(p0:cW)(r:Bool)(hF:sJ p0=some r):Fun Tryz.prog 12 true [] [.agg (nJ p0)] noHeap (cB r) noHeap:=by
 refine fW Tryz.func12 ?_
 unfold sJ at hF
 refine wA rfl (aJ (eV (fun _ _ h=>h) hF (fun v1=>[(2,cB v1)]) (fun v1=>[]) ?_ ?_))
 ·rintro v1 hF
  cases hF
  exact bZ wR
 intro join hF
 refine wD 2 rfl (rS (fQ (tc:=fX) p0.z3 .tree (bq SV 2 rfl ?_)));cases h2:(decide ((List.length p0.z3:Int)≤70))
 ·have hF:=bF' h2 hF;exact QV rfl (join false _ _ hF sw)
 have hF:=bT' h2 hF;refine bq SV 2 rfl (bz SV rfl (fQ (tc:=aK) p0.z6 .tree (bq SV 3 rfl ?_)));cases h3:(decide ((List.length p0.z6:Int)≤100))
 ·have hF:=bF' h3 hF;exact QV rfl (join false _ _ hF sw)
 have hF:=bT' h3 hF;refine bq SV 2 rfl (bz SV rfl (fQ (tc:=bW) p0.j7 .tree (bq SV 3 rfl ?_)));cases h4:(decide ((List.length p0.j7:Int)≤200))
 ·have hF:=bF' h4 hF;exact QV rfl (join false _ _ hF sw)
 have hF:=bT' h4 hF;refine bq SV 2 rfl (bz SV rfl (fQ (tc:=c4) p0.v9 .tree (bq SV 3 rfl ?_)));cases h5:(decide ((List.length p0.v9:Int)≤100))
 ·have hF:=bF' h5 hF;exact QV rfl (join false _ _ hF sw)
 have hF:=bT' h5 hF;refine bq SV 2 rfl (bz SV rfl (fQ (tc:=cV) p0.z9 .tree (bq SV 3 rfl ?_)));cases h6:(decide ((List.length p0.z9:Int)≤100))
 ·have hF:=bF' h6 hF;exact QV rfl (join false _ _ hF sw)
 have hF:=bT' h6 hF;refine bq SV 2 rfl (bz SV rfl (fQ (tc:=c5) p0.w4 .tree (bq SV 3 rfl ?_)));cases h7:(decide ((List.length p0.w4:Int)≤100))
 ·have hF:=bF' h7 hF;exact QV rfl (join false _ _ hF sw)
 have hF:=bT' h7 hF;refine bq SV 2 rfl (bz SV rfl (fQ (tc:=cq) p0.j5 .tree (bq SV 3 rfl ?_)));cases h8:(decide ((List.length p0.j5:Int)≤100))
 ·have hF:=bF' h8 hF;exact QV rfl (join false _ _ hF sw)
 have hF:=bT' h8 hF;exact bq SV 2 rfl (bz SV rfl (fQ (tc:=fj) p0.x4 .tree (QV rfl (join (decide ((List.length p0.x4:Int)≤50)) _ _ hF sw))))
def oQ:Option Bool:=some true
theorem p5(r:Bool)(hF:oQ=some r):Fun Tryz.prog 8 true [] [] noHeap (cB r) noHeap:=by
 cases hF
 exact Go.RM.awake32 true
def pq(p0:ByteArray)(p1:Int):Option Int:=some (Go.Lib.indexByte p0.data.toList p1.toNat.toUInt8)
theorem B5(p0:ByteArray)(p1:Int)(r:Int)(hF:pq p0 p1=some r):Fun Tryz.prog 287 true [] [.c (jS p0),.c (.imm (.sc (.int .u8 p1)))] noHeap (cI r) noHeap:=by
 cases hF
 refine Fun.of_plain [.string p0,.int .u8 p1] (.int .i64 (Go.Lib.indexByte p0.data.toList p1.toNat.toUInt8)) (fun w=>?_) rfl
 go_enter Tryz.func287,Tryz.ntmps287;go_wp2;rw[run_callFunc_extern Tryz.func310 (by kernel_rfl) (by kernel_rfl) (by kernel_rfl) (e:=Extern.BytealgIndexByte.indexByte) (by kernel_rfl),Go.Lib.run_indexByteString]
 simp only[Result.andThen];rw[Oper.upon_value];go_wp2;go_ret;exact⟨rfl,rfl⟩
def jY(p0:ByteArray)(p1:Int):Option Int :=
  ((pq p0 p1).bind fun r1=>some r1)
theorem kz(p0:ByteArray)(p1:Int)(r:Int)(hF:jY p0 p1=some r):Fun Tryz.prog 257 true [] [.c (jS p0),.c (.imm (.sc (.int .u8 p1)))] noHeap (cI r) noHeap:=by
 refine fW Tryz.func257 ?_
 unfold jY at hF
 refine wA rfl (wC 2 rfl ?_);obtain⟨r1,hr1,hF⟩:=bB hF
 refine rS (dj (B5 _ _ _ hr1) ⟨rfl,rfl,trivial⟩ rfl (.inl rfl) (QV rfl ?_));cases hF
 exact bZ wR
def Bz(p0:Int):Option Bool :=
  (((bif (decide (97≤p0))then(bif (decide (p0≤122))then some true else(bif (decide (65≤p0))then(bif (decide (p0≤90))then some true else(bif (decide (48≤p0))then(bif (decide (p0≤57))then some true else((jY (⟨#[95,46,58,47,60,62,36,42,126,45]⟩ : ByteArray) p0).bind fun r23=>some (decide (0≤r23))))else((jY (⟨#[95,46,58,47,60,62,36,42,126,45]⟩ : ByteArray) p0).bind fun r21=>some (decide (0≤r21)))))else(bif (decide (48≤p0))then(bif (decide (p0≤57))then some true else((jY (⟨#[95,46,58,47,60,62,36,42,126,45]⟩ : ByteArray) p0).bind fun r18=>some (decide (0≤r18))))else((jY (⟨#[95,46,58,47,60,62,36,42,126,45]⟩ : ByteArray) p0).bind fun r16=>some (decide (0≤r16))))))else(bif (decide (65≤p0))then(bif (decide (p0≤90))then some true else(bif (decide (48≤p0))then(bif (decide (p0≤57))then some true else((jY (⟨#[95,46,58,47,60,62,36,42,126,45]⟩ : ByteArray) p0).bind fun r12=>some (decide (0≤r12))))else((jY (⟨#[95,46,58,47,60,62,36,42,126,45]⟩ : ByteArray) p0).bind fun r10=>some (decide (0≤r10)))))else(bif (decide (48≤p0))then(bif (decide (p0≤57))then some true else((jY (⟨#[95,46,58,47,60,62,36,42,126,45]⟩ : ByteArray) p0).bind fun r7=>some (decide (0≤r7))))else((jY (⟨#[95,46,58,47,60,62,36,42,126,45]⟩ : ByteArray) p0).bind fun r5=>some (decide (0≤r5)))))):Option Bool).bind fun v1=>some v1)
theorem U0(p0:Int)(r:Bool)(hF:Bz p0=some r):Fun Tryz.prog 221 true [] [.c (.imm (.sc (.int .u8 p0)))] noHeap (cB r) noHeap:=by
 refine Fun.of_walk0 Tryz.func221 bcz (by kernel_rfl) (rs:=[.tmp 2]) (by kernel_rfl) ?_;unfold baZ
 unfold Bz at hF
 refine wA rfl (aJ (eV (fun _ _ h=>h) hF (fun v1=>[(2,cB v1)]) (fun v1=>[]) ?_ ?_))
 ·rintro v1 hF
  cases hF
  exact bZ wR
 intro join hF
 refine wD 3 rfl ?_;cases h2:(decide (97≤p0))
 ·have hF:=bF' h2 hF;refine bq SV 7 rfl ?_;cases h3:(decide (65≤p0))
  ·have hF:=bF' h3 hF;refine bq SV 8 rfl ?_;cases h4:(decide (48≤p0))
   ·have hF:=bF' h4 hF;refine bq SV 6 rfl ?_;obtain⟨r5,hr5,hF⟩:=bB' hF
    exact bz SV rfl (dj (kz _ _ _ hr5) ⟨rfl,rfl,trivial⟩ rfl (.inl rfl) (QV rfl (join (decide (0≤r5)) _ _ hF sw)))
   have hF:=bT' h4 hF;refine bq SV 5 rfl ?_;cases h6:(decide (p0≤57))
   ·have hF:=bF' h6 hF;refine bq SV 1 rfl ?_;obtain⟨r7,hr7,hF⟩:=bB' hF
    exact bz SV rfl (dj (kz _ _ _ hr7) ⟨rfl,rfl,trivial⟩ rfl (.inl rfl) (QV rfl (join (decide (0≤r7)) _ _ hF sw)))
   have hF:=bT' h6 hF;exact QV rfl (join true _ _ hF sw)
  have hF:=bT' h3 hF;refine bq SV 5 rfl ?_;cases h8:(decide (p0≤90))
  ·have hF:=bF' h8 hF;refine bq SV 3 rfl ?_;cases h9:(decide (48≤p0))
   ·have hF:=bF' h9 hF;refine bq SV 6 rfl ?_;obtain⟨r10,hr10,hF⟩:=bB' hF
    exact bz SV rfl (dj (kz _ _ _ hr10) ⟨rfl,rfl,trivial⟩ rfl (.inl rfl) (QV rfl (join (decide (0≤r10)) _ _ hF sw)))
   have hF:=bT' h9 hF;refine bq SV 5 rfl ?_;cases h11:(decide (p0≤57))
   ·have hF:=bF' h11 hF;refine bq SV 1 rfl ?_;obtain⟨r12,hr12,hF⟩:=bB' hF
    exact bz SV rfl (dj (kz _ _ _ hr12) ⟨rfl,rfl,trivial⟩ rfl (.inl rfl) (QV rfl (join (decide (0≤r12)) _ _ hF sw)))
   have hF:=bT' h11 hF;exact QV rfl (join true _ _ hF sw)
  have hF:=bT' h8 hF;exact QV rfl (join true _ _ hF sw)
 have hF:=bT' h2 hF;refine bq SV 4 rfl ?_;cases h13:(decide (p0≤122))
 ·have hF:=bF' h13 hF;refine bq SV 3 rfl ?_;cases h14:(decide (65≤p0))
  ·have hF:=bF' h14 hF;refine bq SV 8 rfl ?_;cases h15:(decide (48≤p0))
   ·have hF:=bF' h15 hF;refine bq SV 6 rfl ?_;obtain⟨r16,hr16,hF⟩:=bB' hF
    exact bz SV rfl (dj (kz _ _ _ hr16) ⟨rfl,rfl,trivial⟩ rfl (.inl rfl) (QV rfl (join (decide (0≤r16)) _ _ hF sw)))
   have hF:=bT' h15 hF;refine bq SV 5 rfl ?_;cases h17:(decide (p0≤57))
   ·have hF:=bF' h17 hF;refine bq SV 1 rfl ?_;obtain⟨r18,hr18,hF⟩:=bB' hF
    exact bz SV rfl (dj (kz _ _ _ hr18) ⟨rfl,rfl,trivial⟩ rfl (.inl rfl) (QV rfl (join (decide (0≤r18)) _ _ hF sw)))
   have hF:=bT' h17 hF;exact QV rfl (join true _ _ hF sw)
  have hF:=bT' h14 hF;refine bq SV 5 rfl ?_;cases h19:(decide (p0≤90))
  ·have hF:=bF' h19 hF;refine bq SV 3 rfl ?_;cases h20:(decide (48≤p0))
   ·have hF:=bF' h20 hF;refine bq SV 6 rfl ?_;obtain⟨r21,hr21,hF⟩:=bB' hF
    exact bz SV rfl (dj (kz _ _ _ hr21) ⟨rfl,rfl,trivial⟩ rfl (.inl rfl) (QV rfl (join (decide (0≤r21)) _ _ hF sw)))
   have hF:=bT' h20 hF;refine bq SV 5 rfl ?_;cases h22:(decide (p0≤57))
   ·have hF:=bF' h22 hF;refine bq SV 1 rfl ?_;obtain⟨r23,hr23,hF⟩:=bB' hF
    exact bz SV rfl (dj (kz _ _ _ hr23) ⟨rfl,rfl,trivial⟩ rfl (.inl rfl) (QV rfl (join (decide (0≤r23)) _ _ hF sw)))
   have hF:=bT' h22 hF;exact QV rfl (join true _ _ hF sw)
  have hF:=bT' h19 hF;exact QV rfl (join true _ _ hF sw)
 have hF:=bT' h13 hF;exact QV rfl (join true _ _ hF sw)
def HV(p0:ByteArray):Int→Option (Int ⊕ (Unit ⊕ Int)):=fun a13 =>
  (bif (decide (a13<(ByteArray.size p0:Int)))then((idx (ByteArray.data p0).toList a13).bind fun y18=>((Bz (UInt8.toNat y18:Int)).bind fun r19=>(bif (!r19)then some (.inr (.inr 3))else some (.inl (w64 (a13+1))))))else some (.inr (.inl ())))
def rz(p0:ByteArray):Option Int :=
  (((bif (decide (p0=(⟨#[]⟩ : ByteArray)))then some true else some (decide (40<(ByteArray.size p0:Int)))):Option Bool).bind fun v1=>(bif v1 then some 3 else((loop (HV p0) 0).bind fun | .inl _=>some 0 | .inr rv=>some rv)))
theorem B1(p0:ByteArray)(r:Int)(hF:rz p0=some r):Fun Tryz.prog 176 true [] [.c (jS p0)] noHeap (cI r) noHeap:=by
 refine fW Tryz.func176 ?_
 unfold rz at hF
 refine wA rfl (aJ (aJ (eV (fun _ _ h=>h) hF (fun v1=>[(0,.c (jS p0)),(10,cB v1)]) (fun v1=>[]) ?_ ?_)))
 ·rintro v1 hF
  refine wIf hF rfl (fun _ hF=>?_) fun _ hF=>?_
  ·refine wA rfl ?_;cases hF
   exact bZ wR
  refine aW (aJ (wA rfl (kq (fun _ _ h=>h) hF (.inl) (fun a13=>[(0,.c (jS p0)),(12,cI (ByteArray.size p0:Int)),(13,cI a13)]) (fun a13=>[]) (fun _=>[]) (fun _=>[]) sw ?_ ?_)))
  ·rintro⟨⟩ hF
   refine wA rfl ?_;cases hF
   exact bZ wR
  rintro a13 x_0 hF cont_0 brk_0 fin_0
  unfold HV at hF
  refine wA rfl (aJ (wIf hF rfl (fun _ hF=>?_) fun _ hF=>?_))
  ·refine aW (aJ (dV (wA rfl (wC 2 rfl ?_))));obtain⟨y18,hy18,hF⟩:=bB hF
   refine rS (bbJ p0 rfl rfl hy18 ?_);obtain⟨r19,hr19,hF⟩:=bB hF
   refine rS (dj (U0 _ _ hr19) ⟨rfl,trivial⟩ rfl (.inl rfl) (QV rfl (wIf hF rfl (fun _ hF=>?_) fun _ hF=>?_)))
   ·refine wA rfl ?_;have hF:=fin_0 _ (oi hF);cases hF
    exact bZ wR
   exact aW (wB rfl (cont_0 _ _ _ (oi hF) sw))
  exact fZ (aZ (aZ (cj (brk_0 _ _ _ (oi hF) sw))))
 intro join hF
 refine wD 3 rfl ?_;cases h23:(decide (p0=(⟨#[]⟩ : ByteArray)))
 ·have hF:=bF' h23 hF;exact QV rfl (join (decide (40<(ByteArray.size p0:Int))) _ _ hF sw)
 have hF:=bT' h23 hF;exact QV rfl (join true _ _ hF sw)
def xQ(p0:i5):Option Int :=
  (((bif (decide (p0.x6<0))then some true else(bif (decide (1000000000000000<p0.x6))then some true else(bif (decide (p0.x8<0))then some true else some (decide (8≤p0.x8))))):Option Bool).bind fun v1=>(bif v1 then some 2 else((rz p0.q7).bind fun r2=>some r2)))
theorem O7(p0:i5)(r:Int)(hF:xQ p0=some r):Fun Tryz.prog 175 true [] [.agg [jI p0.x6,jS p0.q7,jI p0.x8]] noHeap (cI r) noHeap:=by
 refine fW Tryz.func175 ?_
 unfold xQ at hF
 refine wA rfl (aJ (aJ (eV (fun _ _ h=>h) hF (fun v1=>[(1,cP (1,0) 0),(20,cB v1)]) (fun v1=>[((1,0),.box [jI p0.x6,jS p0.q7,jI p0.x8])]) ?_ ?_)))
 ·rintro v1 hF
  refine wIf hF rfl (fun _ hF=>?_) fun _ hF=>?_
  ·refine wA rfl ?_;cases hF
   exact bZ wR
  refine aW (wC 2 rfl ?_);obtain⟨r2,hr2,hF⟩:=bB hF
  refine rS (dj (B1 _ _ hr2) ⟨rfl,trivial⟩ rfl (.inl rfl) (QV rfl ?_));cases hF
  exact bZ wR
 intro join hF
 refine wD 4 rfl ?_;cases h4:(decide (p0.x6<0))
 ·have hF:=bF' h4 hF;refine bq SV 5 rfl ?_;cases h5:(decide (1000000000000000<p0.x6))
  ·have hF:=bF' h5 hF;refine bq SV 5 rfl ?_;cases h6:(decide (p0.x8<0))
   ·have hF:=bF' h6 hF;exact QV rfl (join (decide (8≤p0.x8)) _ _ hF sw)
   have hF:=bT' h6 hF;exact QV rfl (join true _ _ hF sw)
  have hF:=bT' h5 hF;exact QV rfl (join true _ _ hF sw)
 have hF:=bT' h4 hF;exact QV rfl (join true _ _ hF sw)
def rY(p0:cW):((List (Int×ByteArray))×Int)→Option (((List (Int×ByteArray))×Int) ⊕ ((List (Int×ByteArray)) ⊕ (((List (Int×ByteArray))×Int) ⊕ ((List (Int×ByteArray))×Int)))):=fun(a17,a18) =>
  (bif (decide (a18<(List.length p0.z3:Int)))then((idx p0.z3 a18).bind fun y25=>((xQ y25).bind fun r26=>(bif (!decide (r26=0))then some (.inr (.inr (.inl ([],r26))))else(bif (Option.isSome (nY y25.x6 a17))then some (.inr (.inr (.inl ([],4))))else some (.inl ((afK y25.x6 y25.q7 a17),(w64 (a18+1))))))))else some (.inr (.inl a17)))
def m8(p0:cW):Option (((List (Int×ByteArray))×Int) ⊕ ((List (Int×ByteArray))×Int)) :=
  (bif (decide (64<(List.length p0.z3:Int)))then some (.inl ([],7))else((loop (rY p0) ([],0)).bind fun | .inl e24=>some (.inr (e24,0)) | .inr rv=>some rv))
def Y3(p0:cW):(((List (Int×ByteArray))×Int) ⊕ ((List (Int×ByteArray))×Int))→V
  | .inl d=>.tup [.c (.nilM),.c (.imm (tI d.2))]
  | .inr d=>.tup [.c (.mapO (902,4320)),.c (.imm (tI d.2))]
def Y7(p0:cW):(((List (Int×ByteArray))×Int) ⊕ ((List (Int×ByteArray))×Int))→M
  | .inl _=>[]
  | .inr d=>[((902,4320),o7 (.int .i64) (fun n:Int=>.int .i64 n) (fun y:ByteArray=>(.one (.sc (.string y)):MT)) d.1)]
theorem Ix(p0:cW)(r:(((List (Int×ByteArray))×Int) ⊕ ((List (Int×ByteArray))×Int)))(hF:m8 p0=some r):Fun Tryz.prog 108 false [] [.agg (nJ p0)] (aQ []) (Y3 p0 r) (aQ (Y7 p0 r)):=by
 refine fM [] (some []) Tryz.func108 ?_
 unfold m8 at hF
 refine wA rfl (aJ (wC 2 rfl (rS (fQ (tc:=fX) p0.z3 .tree (QV rfl (wIf hF rfl (fun _ hF=>?_) fun _ hF=>?_))))))
 ·refine wA rfl ?_;cases hF
  exact bZ ⟨_,_,e9,_,rfl,rfl,⟨trivial,⟨rfl,fun _=>rfl⟩,trivial⟩,(AgM.weak trivial)⟩
 refine aW (wE (rS (aIJ (kd:=(.int .i64)) (kv:=kvI) (vv:=vvS) rfl (QV rfl (aJ (wC 2 rfl (rS (fQ (tc:=fX) p0.z3 .tree (QV rfl (kq (fun _ _ h=>h) hF (.inl) (fun(a17,a18)=>[(4,cM (14,0)),(16,cL 3 fX p0.z3),(17,cI (List.length p0.z3:Int)),(18,cI a18)]) (fun(a17,a18)=>[((14,0),o7 (.int .i64) kvI vvS a17)]) (fun e24=>[(4,cM (14,0))]) (fun e24=>[((14,0),o7 (.int .i64) kvI vvS e24)]) sw ?_ ?_))))))))))
 ·rintro e24 hF
  refine wA rfl ?_;cases hF
  exact bZ ⟨_,_,(D6 (14,0) (902,4320) rfl rfl e9),_,rfl,rfl,⟨rfl,⟨rfl,fun _=>rfl⟩,trivial⟩,(AgM.weak ⟨rfl,trivial⟩)⟩
 rintro⟨a17,a18⟩ x_0 hF cont_0 brk_0 fin_0
 unfold rY at hF
 refine wA rfl (aJ (wIf hF rfl (fun _ hF=>?_) fun _ hF=>?_))
 ·refine aW (aJ (dV (wE ?_)));obtain⟨y25,hy25,hF⟩:=bB hF
  refine rS (i8 (tc:=fX) p0.z3 rfl rfl hy25 (QV rfl (aJ (wC 1 rfl ?_))));obtain⟨r26,hr26,hF⟩:=bB hF
  refine rS (dj (O7 _ _ hr26) ⟨⟨rfl,rfl,rfl,trivial⟩,trivial⟩ rfl (.inl rfl) (QV rfl (wA rfl (wIf hF rfl (fun _ hF=>?_) fun _ hF=>?_))))
  ·refine wA rfl ?_;have hF:=fin_0 _ (oi hF);cases hF
   exact bZ ⟨_,_,e9,_,rfl,rfl,⟨trivial,⟨rfl,fun _=>rfl⟩,trivial⟩,(AgM.weak trivial)⟩
  refine aW (aJ (wC 3 rfl (rS (H3 (aeZ .i64) (vv:=vvS) a17 y25.x6 (⟨#[]⟩ : ByteArray) (.own _ rfl) rfl rfl (QV rfl (wA rfl (wIf hF rfl (fun _ hF=>?_) fun _ hF=>?_)))))))
  ·refine wA rfl ?_;have hF:=fin_0 _ (oi hF);cases hF
   exact bZ ⟨_,_,e9,_,rfl,rfl,⟨trivial,⟨rfl,fun _=>rfl⟩,trivial⟩,(AgM.weak trivial)⟩
  exact aW (wD 5 rfl (rS (aDX (aeZ .i64) (vv:=vvS) a17 y25.x6 y25.q7 rfl rfl rfl rfl (QV rfl (wB rfl (cont_0 _ _ _ (oi hF) sw))))))
 exact fZ (aZ (aZ (cj (brk_0 _ _ _ (oi hF) sw))))
def lz(p0:az):Option Bool :=
  (((bif (decide (0≤p0.q5))then(bif (decide (p0.q5<p0.q8))then some (decide (p0.q8≤1000000000000))else some false)else some false):Option Bool).bind fun v1=>some v1)
theorem s8(p0:az)(r:Bool)(hF:lz p0=some r):Fun Tryz.prog 18 true [] [.agg [jI p0.q5,jI p0.q8]] noHeap (cB r) noHeap:=by
 refine fW Tryz.func18 ?_
 unfold lz at hF
 refine wA rfl (aJ (eV (fun _ _ h=>h) hF (fun v1=>[(2,cB v1)]) (fun v1=>[]) ?_ ?_))
 ·rintro v1 hF
  cases hF
  exact bZ wR
 intro join hF
 refine wD 4 rfl ?_;cases h2:(decide (0≤p0.q5))
 ·have hF:=bF' h2 hF;exact QV rfl (join false _ _ hF sw)
 have hF:=bT' h2 hF;refine bq SV 7 rfl ?_;cases h3:(decide (p0.q5<p0.q8))
 ·have hF:=bF' h3 hF;exact QV rfl (join false _ _ hF sw)
 have hF:=bT' h3 hF;exact QV rfl (join (decide (p0.q8≤1000000000000)) _ _ hF sw)
def yQ(p0:Int):Option Bool :=
  some (!decide (p0=p0))
theorem H9(p0:Int)(r:Bool)(hF:yQ p0=some r):Fun Tryz.prog 159 true [] [cI p0] noHeap (cB r) noHeap:=by
 refine fW Tryz.func159 ?_
 unfold yQ at hF
 refine wA rfl (wA rfl ?_);cases hF
 exact bZ wR
def jJ(p0:Int)(p1:Int):Option Int :=
  ((yQ p0).bind fun r1=>((yQ p1).bind fun r2=>(bif r1 then(bif r2 then some 0 else some (-1))else(bif r2 then some 1 else(bif (decide (p0<p1))then some (-1)else(bif (decide (p1<p0))then some 1 else some 0))))))
theorem nj(p0:Int)(p1:Int)(r:Int)(hF:jJ p0 p1=some r):Fun Tryz.prog 93 true [] [cI p0,cI p1] noHeap (cI r) noHeap:=by
 refine fW Tryz.func93 ?_
 unfold jJ at hF
 refine wA rfl (wC 1 rfl ?_);obtain⟨r1,hr1,hF⟩:=bB hF
 refine rS (dj (H9 _ _ hr1) ⟨rfl,trivial⟩ rfl (.inl rfl) (QV rfl (wC 1 rfl ?_)));obtain⟨r2,hr2,hF⟩:=bB hF
 refine rS (dj (H9 _ _ hr2) ⟨rfl,trivial⟩ rfl (.inl rfl) (QV rfl (aJ (wA rfl (wIf hF rfl (fun _ hF=>?_) fun _ hF=>?_)))))
 ·refine aJ (wA rfl (wIf hF rfl (fun _ hF=>?_) fun _ hF=>?_))
  ·refine wA rfl ?_;cases hF
   exact bZ wR
  refine aW (wA rfl ?_);cases hF
  exact bZ wR
 refine aW (aJ (wA rfl (wIf hF rfl (fun _ hF=>?_) fun _ hF=>?_)))
 ·refine wA rfl ?_;cases hF
  exact bZ wR
 refine aW (aJ (wA rfl (wIf hF rfl (fun _ hF=>?_) fun _ hF=>?_)))
 ·refine wA rfl ?_;cases hF
  exact bZ wR
 refine aW (aJ (wA rfl (wIf hF rfl (fun _ hF=>?_) fun _ hF=>?_)))
 ·refine wA rfl ?_;cases hF
  exact bZ wR
 refine aW (wA rfl ?_);cases hF
 exact bZ wR
def BQ(p0:(List Int)):Int→Option (Int ⊕ (Unit ⊕ Int)):=fun a10 =>
  (bif (decide (a10<(List.length p0:Int)))then((idx p0 a10).bind fun y14=>(bif (!decide (y14=0))then some (.inr (.inr y14))else some (.inl (w64 (a10+1)))))else some (.inr (.inl ())))
def vK(p0:(List Int)):Option Int :=
  ((loop (BQ p0) 0).bind fun | .inl _=>some 0 | .inr rv=>some rv)
theorem G4(p0:(List Int))(r:Int)(hF:vK p0=some r):Fun Tryz.prog 142 true [] [cL 1 u4 p0] noHeap (cI r) noHeap:=by
 refine fW Tryz.func142 ?_
 unfold vK at hF
 refine wA rfl (wA rfl (aJ (wC 1 rfl (rS (fQ (tc:=u4) p0 .tree (QV rfl (kq (fun _ _ h=>h) hF (.inl) (fun a10=>[(3,cI 0),(6,cL 1 u4 p0),(7,cI (List.length p0:Int)),(8,cI a10)]) (fun a10=>[]) (fun _=>[(3,cI 0)]) (fun _=>[]) sw ?_ ?_)))))))
 ·rintro⟨⟩ hF
  refine wA rfl ?_;cases hF
  exact bZ wR
 rintro a10 x_0 hF cont_0 brk_0 fin_0
 unfold BQ at hF
 refine wA rfl (aJ (wIf hF rfl (fun _ hF=>?_) fun _ hF=>?_))
 ·refine aW (aJ (dV (wE ?_)));obtain⟨y14,hy14,hF⟩:=bB hF
  refine rS (i8 (tc:=u4) p0 rfl rfl hy14 (QV rfl (wA rfl (wIf hF rfl (fun _ hF=>?_) fun _ hF=>?_))))
  ·refine wA rfl ?_;have hF:=fin_0 _ (oi hF);cases hF
   exact bZ wR
  exact aW (wB rfl (cont_0 _ _ _ (oi hF) sw))
 exact fZ (aZ (aZ (cj (brk_0 _ _ _ (oi hF) sw))))
def rq(p0:aX)(p1:aX):Option Int :=
  ((jJ p0.q0.q5 p1.q0.q5).bind fun r1=>((jJ p1.q0.q8 p0.q0.q8).bind fun r2=>((jJ p0.q6 p1.q6).bind fun r3=>((vK [r1,r2,r3]).bind fun r4=>some r4))))
theorem SW(p0:aX)(p1:aX)(r:Int)(hF:rq p0 p1=some r):Fun Tryz.prog 76 true [] [.agg (p6 p0),.agg (p6 p1)] noHeap (cI r) noHeap:=by
 refine fW Tryz.func76 ?_
 unfold rq at hF
 refine wA rfl (aJ (n4 (by decide) (by kernel_rfl) rfl (bq SP 6 rfl ?_)));obtain⟨r1,hr1,hF⟩:=bB hF
 refine bz SP trivial (dj (nj _ _ _ hr1) ⟨rfl,rfl,trivial⟩ rfl (.inl rfl) (bq SP 6 rfl ?_));obtain⟨r2,hr2,hF⟩:=bB hF
 refine bz SP trivial (dj (nj _ _ _ hr2) ⟨rfl,rfl,trivial⟩ rfl (.inl rfl) (bq SP 4 rfl ?_));obtain⟨r3,hr3,hF⟩:=bB hF
 refine bz SP trivial (dj (nj _ _ _ hr3) ⟨rfl,rfl,trivial⟩ rfl (.inl rfl) ?_);refine bz SP trivial (L7 (tc:=u4) [r1,r2,r3] rfl ⟨rfl,rfl,rfl,trivial⟩ rfl (fun _=>rfl) rfl ?_)
 obtain⟨r4,hr4,hF⟩:=bB hF
 refine bz SP trivial (dj (G4 _ _ hr4) ⟨⟨_,rfl⟩,trivial⟩ rfl (.inl rfl) (QP rfl ?_));cases hF
 exact bZ wR
def qQ(p0:(List aX)):Int→Option (Int ⊕ (Unit ⊕ Bool)):=fun a30 =>
  (bif (decide (a30<(List.length p0:Int)))then((idx p0 a30).bind fun y44=>(((bif (decide (y44.z2<(-1)))then some true else some (decide (a30≤y44.z2))):Option Bool).bind fun v45=>(bif v45 then some (.inr (.inr false))else(bif (decide (y44.z2=(-1)))then(bif (!decide (y44.j3=0))then some (.inr (.inr false))else some (.inl (w64 (a30+1))))else((idx p0 y44.z2).bind fun y47=>(((bif (!decide (y47.q6=y44.q6))then some true else(bif (decide (y44.q0.q5<y47.q0.q5))then some true else(bif (decide (y47.q0.q8<y44.q0.q8))then some true else some (!decide (y44.j3=(w64 (y47.j3+1))))))):Option Bool).bind fun v48=>(bif v48 then some (.inr (.inr false))else some (.inl (w64 (a30+1))))))))))else some (.inr (.inl ())))
def qV(p0:(List aX)):Option Bool :=
  ((loop (qQ p0) 0).bind fun | .inl _=>some true | .inr rv=>some rv)
theorem VQ(p0:(List aX))(r:Bool)(hF:qV p0=some r):Fun Tryz.prog 177 true [] [cL 8 aK p0] noHeap (cB r) noHeap:=by
 refine fW Tryz.func177 ?_
 unfold qV at hF
 refine wA rfl (aJ (wC 1 rfl (rS (fQ (tc:=aK) p0 .tree (QV rfl (kq (fun _ _ h=>h) hF (.inl) (fun a30=>[(0,cL 8 aK p0),(6,cL 8 aK p0),(7,cI (List.length p0:Int)),(8,cI a30)]) (fun a30=>[]) (fun _=>[]) (fun _=>[]) sw ?_ ?_))))))
 ·rintro⟨⟩ hF
  refine wA rfl ?_;cases hF
  exact bZ wR
 rintro a30 x_0 hF cont_0 brk_0 fin_0
 unfold qQ at hF
 refine wA rfl (aJ (wIf hF rfl (fun _ hF=>?_) fun _ hF=>?_))
 ·refine aW (aJ (dV (wC 1 rfl ?_)));obtain⟨y44,hy44,hF⟩:=bB hF
  refine rS (i8 (tc:=aK) p0 rfl rfl hy44 (QV rfl (dV (aJ (eV (fun _ _ h=>h) hF (fun v45=>[(0,cL 8 aK p0),(4,cP (4,0) 0),(6,cL 8 aK p0),(7,cI (List.length p0:Int)),(8,cI a30),(49,cB v45)]) (fun v45=>[((4,0),.box (p6 y44))]) ?_ ?_)))))
  ·rintro v45 hF
   refine wIf hF rfl (fun _ hF=>?_) fun _ hF=>?_
   ·refine wA rfl ?_;have hF:=fin_0 _ (oi hF);cases hF
    exact bZ wR
   refine wA rfl (wIf hF rfl (fun _ hF=>?_) fun _ hF=>?_)
   ·refine wA rfl (wIf hF rfl (fun _ hF=>?_) fun _ hF=>?_)
    ·refine wA rfl ?_;have hF:=fin_0 _ (oi hF);cases hF
     exact bZ wR
    exact aW (wB rfl (cont_0 _ _ _ (oi hF) sw))
   refine wC 3 rfl ?_;obtain⟨y47,hy47,hF⟩:=bB hF
   refine rS (i8 (tc:=aK) p0 rfl rfl hy47 (QV rfl (aJ (eV (fun _ _ h=>h) hF (fun v48=>[(0,cL 8 aK p0),(6,cL 8 aK p0),(7,cI (List.length p0:Int)),(8,cI a30),(48,cB v48)]) (fun v48=>[]) ?_ ?_))))
   ·rintro v48 hF
    refine wIf hF rfl (fun _ hF=>?_) fun _ hF=>?_
    ·refine wA rfl ?_;have hF:=fin_0 _ (oi hF);cases hF
     exact bZ wR
    exact aW (wB rfl (cont_0 _ _ _ (oi hF) sw))
   intro join hF
   refine wD 6 rfl ?_;cases h50:(!decide (y47.q6=y44.q6))
   ·have hF:=bF' h50 hF;refine bq SV 9 rfl ?_;cases h51:(decide (y44.q0.q5<y47.q0.q5))
    ·have hF:=bF' h51 hF;refine bq SV 9 rfl ?_;cases h52:(decide (y47.q0.q8<y44.q0.q8))
     ·have hF:=bF' h52 hF;exact QV rfl (join (!decide (y44.j3=(w64 (y47.j3+1)))) _ _ hF sw)
     have hF:=bT' h52 hF;exact QV rfl (join true _ _ hF sw)
    have hF:=bT' h51 hF;exact QV rfl (join true _ _ hF sw)
   have hF:=bT' h50 hF;exact QV rfl (join true _ _ hF sw)
  intro join hF
  refine wD 4 rfl ?_;cases h55:(decide (y44.z2<(-1)))
  ·have hF:=bF' h55 hF;exact QV rfl (join (decide (a30≤y44.z2)) _ _ hF sw)
  have hF:=bT' h55 hF;exact QV rfl (join true _ _ hF sw)
 exact fZ (aZ (aZ (cj (brk_0 _ _ _ (oi hF) sw))))
def Dq(p0:(List aX))(p1:Int):Int→Option (Int ⊕ (Unit ⊕ Bool)):=fun a10 =>
  (bif (decide (0≤a10))then(bif (decide (p1=a10))then some (.inr (.inr true))else((idx p0 a10).bind fun y14=>some (.inl y14.z2)))else some (.inr (.inl ())))
def zJ(p0:(List aX))(p1:Int)(p2:Int):Option Bool :=
  ((loop (Dq p0 p1) p2).bind fun | .inl _=>some false | .inr rv=>some rv)
theorem Y5(p0:(List aX))(p1:Int)(p2:Int)(r:Bool)(hF:zJ p0 p1 p2=some r):Fun Tryz.prog 222 true [] [cL 8 aK p0,cI p1,cI p2] noHeap (cB r) noHeap:=by
 refine fW Tryz.func222 ?_
 unfold zJ at hF
 refine wA rfl (aJ (kq (fun _ _ h=>h) hF (.inl) (fun a10=>[(0,cL 8 aK p0),(1,cI p1),(2,cI a10)]) (fun a10=>[]) (fun _=>[]) (fun _=>[]) sw ?_ ?_))
 ·rintro⟨⟩ hF
  refine wA rfl ?_;cases hF
  exact bZ wR
 rintro a10 x_0 hF cont_0 brk_0 fin_0
 unfold Dq at hF
 refine aJ (wA rfl (wIf hF rfl (fun _ hF=>?_) fun _ hF=>?_))
 ·refine aW (aJ (dV (wA rfl (wIf hF rfl (fun _ hF=>?_) fun _ hF=>?_))))
  ·refine wA rfl ?_;have hF:=fin_0 _ (oi hF);cases hF
   exact bZ wR
  refine aW (wD 2 rfl ?_);obtain⟨y14,hy14,hF⟩:=bB hF
  exact rS (i8 (tc:=aK) p0 rfl rfl hy14 (QV rfl (cont_0 _ _ _ (oi hF) sw)))
 exact fZ (aZ (aZ (cj (brk_0 _ _ _ (oi hF) sw))))
def DW(p0:(List aX))(a116:Int)(y173:aX):(Int×Int)→Option ((Int×Int) ⊕ (Int ⊕ (Int ⊕ (Unit ⊕ Bool)))):=fun(a202,a203) =>
  (bif (decide (a203<(List.length p0:Int)))then((idx p0 a203).bind fun y217=>(((bif (decide (y217.z2=a116))then some (w64 (a202-(w64 (y217.q0.q8-y217.q0.q5))))else some a202):Option Int).bind fun v218=>(((bif (decide (a203<a116))then(bif (decide (y217.q6=y173.q6))then(bif (decide (y173.q0.q5<y217.q0.q8))then(bif (decide (y217.q0.q5<y173.q0.q8))then((zJ p0 a203 a116).bind fun r225=>some (!r225))else some false)else some false)else some false)else some false):Option Bool).bind fun v219=>(bif v219 then some (.inr (.inr (.inr (.inr false))))else some (.inl (v218,(w64 (a203+1))))))))else some (.inr (.inl a202)))
def C5(p0:(List aX)):Int→Option (Int ⊕ (Unit ⊕ Bool)):=fun a116 =>
  (bif (decide (a116<(List.length p0:Int)))then((idx p0 a116).bind fun y173=>((loop (DW p0 a116 y173) ((w64 (y173.q0.q8-y173.q0.q5)),0)).bind fun | .inl e215=>(bif (!decide (y173.x3=e215))then some (.inr (.inr false))else some (.inl (w64 (a116+1)))) | .inr rv=>some rv))else some (.inr (.inl ())))
def zK(p0:(List aX)):Option Bool :=
  ((loop (C5 p0) 0).bind fun | .inl _=>some true | .inr rv=>some rv)
theorem Zz(p0:(List aX))(r:Bool)(hF:zK p0=some r):Fun Tryz.prog 178 true [] [cL 8 aK p0] noHeap (cB r) noHeap:=by
 refine fW Tryz.func178 ?_
 unfold zK at hF
 refine wA rfl (aJ (wC 1 rfl (rS (fQ (tc:=aK) p0 .tree (QV rfl (kq (fun _ _ h=>h) hF (.inl) (fun a116=>[(0,cL 8 aK p0),(8,cL 8 aK p0),(9,cI (List.length p0:Int)),(10,cI a116)]) (fun a116=>[]) (fun _=>[]) (fun _=>[]) sw ?_ ?_))))))
 ·rintro⟨⟩ hF
  refine wA rfl ?_;cases hF
  exact bZ wR
 rintro a116 x_0 hF cont_0 brk_0 fin_0
 unfold C5 at hF
 refine wA rfl (aJ (wIf hF rfl (fun _ hF=>?_) fun _ hF=>?_))
 ·refine aW (aJ (dV (wC 1 rfl ?_)));obtain⟨y173,hy173,hF⟩:=bB hF
  refine rS (i8 (tc:=aK) p0 rfl rfl hy173 (QV rfl (wA rfl (aJ (wC 1 rfl (rS (fQ (tc:=aK) p0 .tree (QV rfl (kq (fun _ _ h=>h) hF (.inl) (fun(a202,a203)=>[(0,cL 8 aK p0),(3,cI a116),(4,cP (4,0) 0),(5,cI a202),(8,cL 8 aK p0),(9,cI (List.length p0:Int)),(10,cI a116),(22,cL 8 aK p0),(23,cI (List.length p0:Int)),(24,cI a203)]) (fun(a202,a203)=>[((4,0),.box (p6 y173))]) (fun e215=>[(0,cL 8 aK p0),(4,cP (4,0) 0),(5,cI e215),(8,cL 8 aK p0),(9,cI (List.length p0:Int)),(10,cI a116)]) (fun e215=>[((4,0),.box (p6 y173))]) sw ?_ ?_)))))))))
  ·rintro e215 hF
   refine wA rfl (wIf hF rfl (fun _ hF=>?_) fun _ hF=>?_)
   ·refine wA rfl ?_;have hF:=fin_0 _ (oi hF);cases hF
    exact bZ wR
   exact aW (wB rfl (cont_0 _ _ _ (oi hF) sw))
  rintro⟨a202,a203⟩ x_1 hF cont_1 brk_1 fin_1
  unfold DW at hF
  refine wA rfl (aJ (wIf hF rfl (fun _ hF=>?_) fun _ hF=>?_))
  ·refine aW (aJ (dV (wC 1 rfl ?_)));obtain⟨y217,hy217,hF⟩:=bB hF
   refine rS (i8 (tc:=aK) p0 rfl rfl hy217 (QV rfl (aJ (wA rfl (eV (fun _ _ h=>h) hF (fun v218=>[(0,cL 8 aK p0),(3,cI a116),(4,cP (4,0) 0),(5,cI v218),(6,cI a203),(7,cP (7,0) 0),(8,cL 8 aK p0),(9,cI (List.length p0:Int)),(10,cI a116),(22,cL 8 aK p0),(23,cI (List.length p0:Int)),(24,cI a203)]) (fun v218=>[((4,0),.box (p6 y173)),((7,0),.box (p6 y217))]) ?_ ?_)))))
   ·rintro v218 hF
    refine aJ (eV (fun _ _ h=>h) hF (fun v219=>[(0,cL 8 aK p0),(3,cI a116),(4,cP (4,0) 0),(5,cI v218),(8,cL 8 aK p0),(9,cI (List.length p0:Int)),(10,cI a116),(22,cL 8 aK p0),(23,cI (List.length p0:Int)),(24,cI a203),(76,cB v219)]) (fun v219=>[((4,0),.box (p6 y173))]) ?_ ?_)
    ·rintro v219 hF
     refine wIf hF rfl (fun _ hF=>?_) fun _ hF=>?_
     ·refine wA rfl ?_;have hF:=fin_1 _ (oi hF);have hF:=fin_0 _ (oi hF);cases hF
      exact bZ wR
     exact aW (wB rfl (cont_1 _ _ _ (oi hF) sw))
    intro join hF
    refine wD 4 rfl ?_;cases h221:(decide (a203<a116))
    ·have hF:=bF' h221 hF;exact QV rfl (join false _ _ hF sw)
    have hF:=bT' h221 hF;refine bq SV 7 rfl ?_;cases h222:(decide (y217.q6=y173.q6))
    ·have hF:=bF' h222 hF;exact QV rfl (join false _ _ hF sw)
    have hF:=bT' h222 hF;refine bq SV 9 rfl ?_;cases h223:(decide (y173.q0.q5<y217.q0.q8))
    ·have hF:=bF' h223 hF;exact QV rfl (join false _ _ hF sw)
    have hF:=bT' h223 hF;refine bq SV 9 rfl ?_;cases h224:(decide (y217.q0.q5<y173.q0.q8))
    ·have hF:=bF' h224 hF;exact QV rfl (join false _ _ hF sw)
    have hF:=bT' h224 hF;refine bq SV 3 rfl ?_;obtain⟨r225,hr225,hF⟩:=bB' hF
    exact bz SV rfl (dj (Y5 _ _ _ _ hr225) ⟨rfl,rfl,rfl,trivial⟩ rfl (.inl rfl) (QV rfl (join (!r225) _ _ hF sw)))
   intro join hF
   refine FJ hF rfl (fun _ hF=>?_) fun _ hF=>?_
   ·exact wB rfl (join (w64 (a202-(w64 (y217.q0.q8-y217.q0.q5)))) _ _ hF sw)
   exact aW (join a202 _ _ hF sw)
  exact fZ (aZ (aZ (cj (brk_1 _ _ _ (oi hF) sw))))
 exact fZ (aZ (aZ (cj (brk_0 _ _ _ (oi hF) sw))))
def sq(p0:(List aX)):Int→Option (Int ⊕ (Unit ⊕ Int)):=fun a32 =>
  (bif (decide (a32<(List.length p0:Int)))then((idx p0 a32).bind fun y52=>(((bif (decide (y52.q6<0))then some true else(bif (decide (1000000000000000<y52.q6))then some true else((lz y52.q0).bind fun r64=>some (!r64)))):Option Bool).bind fun v53=>(bif v53 then some (.inr (.inr 2))else((rz y52.q7).bind fun r54=>(bif (!decide (r54=0))then some (.inr (.inr r54))else(((bif (decide (0<a32))then((idx p0 (w64 (a32-1))).bind fun y58=>((rq y58 y52).bind fun r59=>some (decide (0<r59))))else some false):Option Bool).bind fun v55=>(bif v55 then some (.inr (.inr 11))else some (.inl (w64 (a32+1))))))))))else some (.inr (.inl ())))
def o4(p0:(List aX)):Option Int :=
  ((loop (sq p0) 0).bind fun | .inl _=>((((qV p0).bind fun r49=>(bif (!r49)then some true else((zK p0).bind fun r51=>some (!r51)))):Option Bool).bind fun v47=>(bif v47 then some 10 else some 0)) | .inr rv=>some rv)
theorem L3(p0:(List aX))(r:Int)(hF:o4 p0=some r):Fun Tryz.prog 110 true [] [cL 8 aK p0] noHeap (cI r) noHeap:=by
 refine fW Tryz.func110 ?_
 unfold o4 at hF
 refine wA rfl (aJ (wC 1 rfl (rS (fQ (tc:=aK) p0 .tree (QV rfl (kq (fun _ _ h=>h) hF (.inl) (fun a32=>[(0,cL 8 aK p0),(6,cL 8 aK p0),(7,cI (List.length p0:Int)),(8,cI a32)]) (fun a32=>[]) (fun _=>[(0,cL 8 aK p0)]) (fun _=>[]) sw ?_ ?_))))))
 ·rintro⟨⟩ hF
  refine aJ (aJ (eV (fun _ _ h=>h) hF (fun v47=>[(53,cB v47)]) (fun v47=>[]) ?_ ?_))
  ·rintro v47 hF
   refine wIf hF rfl (fun _ hF=>?_) fun _ hF=>?_
   ·refine wA rfl ?_;cases hF
    exact bZ wR
   refine aW (wA rfl ?_);cases hF
   exact bZ wR
  intro join hF
  refine wD 1 rfl ?_;obtain⟨r49,hr49,hF⟩:=bB' hF
  refine rS (dj (VQ _ _ hr49) ⟨rfl,trivial⟩ rfl (.inl rfl) (bq SV 2 rfl ?_));cases h50:(!r49)
  ·have hF:=bF' h50 hF;refine bq SV 1 rfl ?_;obtain⟨r51,hr51,hF⟩:=bB' hF
   exact bz SV rfl (dj (Zz _ _ hr51) ⟨rfl,trivial⟩ rfl (.inl rfl) (QV rfl (join (!r51) _ _ hF sw)))
  have hF:=bT' h50 hF;exact QV rfl (join true _ _ hF sw)
 rintro a32 x_0 hF cont_0 brk_0 fin_0
 unfold sq at hF
 refine wA rfl (aJ (wIf hF rfl (fun _ hF=>?_) fun _ hF=>?_))
 ·refine aW (aJ (dV (wC 1 rfl ?_)));obtain⟨y52,hy52,hF⟩:=bB hF
  refine rS (i8 (tc:=aK) p0 rfl rfl hy52 (QV rfl (aJ (aJ (eV (fun _ _ h=>h) hF (fun v53=>[(0,cL 8 aK p0),(3,cI a32),(4,cP (4,0) 0),(6,cL 8 aK p0),(7,cI (List.length p0:Int)),(8,cI a32),(26,cB v53)]) (fun v53=>[((4,0),.box (p6 y52))]) ?_ ?_)))))
  ·rintro v53 hF
   refine wIf hF rfl (fun _ hF=>?_) fun _ hF=>?_
   ·refine wA rfl ?_;have hF:=fin_0 _ (oi hF);cases hF
    exact bZ wR
   refine aW (aJ (wC 2 rfl ?_));obtain⟨r54,hr54,hF⟩:=bB hF
   refine rS (dj (B1 _ _ hr54) ⟨rfl,trivial⟩ rfl (.inl rfl) (QV rfl (wA rfl (wIf hF rfl (fun _ hF=>?_) fun _ hF=>?_))))
   ·refine wA rfl ?_;have hF:=fin_0 _ (oi hF);cases hF
    exact bZ wR
   refine aW (aJ (eV (fun _ _ h=>h) hF (fun v55=>[(0,cL 8 aK p0),(6,cL 8 aK p0),(7,cI (List.length p0:Int)),(8,cI a32),(44,cB v55)]) (fun v55=>[]) ?_ ?_))
   ·rintro v55 hF
    refine wIf hF rfl (fun _ hF=>?_) fun _ hF=>?_
    ·refine wA rfl ?_;have hF:=fin_0 _ (oi hF);cases hF
     exact bZ wR
    exact aW (wB rfl (cont_0 _ _ _ (oi hF) sw))
   intro join hF
   refine n4 (by decide) (by kernel_rfl) rfl (bq SP 3 rfl ?_);cases h57:(decide (0<a32))
   ·have hF:=bF' h57 hF;exact QP rfl (join false _ _ hF sw)
   have hF:=bT' h57 hF;refine bq SP 3 rfl ?_;obtain⟨y58,hy58,hF⟩:=bB' hF
   refine bz SP rfl (i8 (tc:=aK) p0 rfl rfl hy58 (bq SP 2 rfl ?_));obtain⟨r59,hr59,hF⟩:=bB' hF
   exact bz SP rfl (dj (SW _ _ _ hr59) ⟨⟨rfl,rfl,rfl,rfl,rfl,rfl,rfl,rfl,trivial⟩,⟨rfl,rfl,rfl,rfl,rfl,rfl,rfl,rfl,trivial⟩,trivial⟩ rfl (.inl rfl) (QP rfl (join (decide (0<r59)) _ _ hF sw)))
  intro join hF
  refine wD 4 rfl ?_;cases h62:(decide (y52.q6<0))
  ·have hF:=bF' h62 hF;refine bq SV 5 rfl ?_;cases h63:(decide (1000000000000000<y52.q6))
   ·have hF:=bF' h63 hF;refine bq SV 2 rfl ?_;obtain⟨r64,hr64,hF⟩:=bB' hF
    exact bz SV rfl (dj (s8 _ _ hr64) ⟨⟨rfl,rfl,trivial⟩,trivial⟩ rfl (.inl rfl) (QV rfl (join (!r64) _ _ hF sw)))
   have hF:=bT' h63 hF;exact QV rfl (join true _ _ hF sw)
  have hF:=bT' h62 hF;exact QV rfl (join true _ _ hF sw)
 exact fZ (aZ (aZ (cj (brk_0 _ _ _ (oi hF) sw))))
def Az(p0:aX):Option Int :=
  some p0.q6
theorem RX(p0:aX)(r:Int)(hF:Az p0=some r):Fun Tryz.prog 111 true [] [.agg (p6 p0)] noHeap (cI r) noHeap:=by
 refine fW Tryz.func111 ?_
 unfold Az at hF
 refine wA rfl (wA rfl ?_);cases hF
 exact bZ wR
def mz(p1:(List (Int×ByteArray)))(p2:(List aX)):Int→Option (Int ⊕ (Unit ⊕ Int)):=fun a12 =>
  (bif (decide (a12<(List.length p2:Int)))then((idx p2 a12).bind fun y17=>((Az y17).bind fun r18=>(bif (!(Option.isSome (nY r18 p1)))then some (.inr (.inr 5))else some (.inl (w64 (a12+1))))))else some (.inr (.inl ())))
def iQ(p0:Int)(p1:(List (Int×ByteArray)))(p2:(List aX)):Option Int :=
  (bif (!decide (p0=0))then some p0 else((loop (mz p1 p2) 0).bind fun | .inl _=>some 0 | .inr rv=>some rv))
theorem FV(p0:Int)(p1:(List (Int×ByteArray)))(p2:(List aX))(r:Int)(hF:iQ p0 p1 p2=some r):Fun Tryz.prog 109 false [(5360,0)] [cI p0,cM (5360,0),cL 8 aK p2,.c (.fn 111 [])] (aQ [((5360,0),o7 (.int .i64) kvI vvS p1)]) (cI r) (aQ [((5360,0),o7 (.int .i64) kvI vvS p1)]):=by
 refine fM [(5360,0)] (some [(5360,0)]) Tryz.func109 ?_
 unfold iQ at hF
 refine wA rfl (aJ (wA rfl (wIf hF rfl (fun _ hF=>?_) fun _ hF=>?_)))
 ·refine wA rfl ?_;cases hF
  exact bZ ⟨_,_,e9,_,rfl,rfl,⟨rfl,fun _=>rfl⟩,(AgM.weak ⟨rfl,trivial⟩)⟩
 refine aW (aJ (wC 1 rfl (rS (fQ (tc:=aK) p2 .tree (QV rfl (kq (fun _ _ h=>h) hF (.inl) (fun a12=>[(1,cM (5360,0)),(3,.c (.fn 111 [])),(16,cL 8 aK p2),(17,cI (List.length p2:Int)),(18,cI a12)]) (fun a12=>[((5360,0),o7 (.int .i64) kvI vvS p1)]) (fun _=>[]) (fun _=>[((5360,0),o7 (.int .i64) kvI vvS p1)]) sw ?_ ?_))))))
 ·rintro⟨⟩ hF
  refine wA rfl ?_;cases hF
  exact bZ ⟨_,_,e9,_,rfl,rfl,⟨rfl,fun _=>rfl⟩,(AgM.weak ⟨rfl,trivial⟩)⟩
 rintro a12 x_0 hF cont_0 brk_0 fin_0
 unfold mz at hF
 refine wA rfl (aJ (wIf hF rfl (fun _ hF=>?_) fun _ hF=>?_))
 ·refine aW (aJ (dV (wE ?_)));obtain⟨y17,hy17,hF⟩:=bB hF
  refine rS (i8 (tc:=aK) p2 rfl rfl hy17 (QV rfl (wC 3 rfl ?_)));obtain⟨r18,hr18,hF⟩:=bB hF
  refine jX trivial (Ej (E6 _ rfl a4x) (RX _ _ hr18) ⟨⟨rfl,rfl,rfl,rfl,rfl,rfl,rfl,rfl,trivial⟩,trivial⟩ rfl (.inl rfl) (rS (H3 (aeZ .i64) (vv:=vvS) p1 r18 (⟨#[]⟩ : ByteArray) (.own _ rfl) rfl rfl (QV rfl (wA rfl (wIf hF rfl (fun _ hF=>?_) fun _ hF=>?_))))))
  ·refine wA rfl ?_;have hF:=fin_0 _ (oi hF);cases hF
   exact bZ ⟨_,_,e9,_,rfl,rfl,⟨rfl,fun _=>rfl⟩,(AgM.weak ⟨rfl,trivial⟩)⟩
  exact aW (wB rfl (cont_0 _ _ _ (oi hF) sw))
 exact fZ (aZ (aZ (cj (brk_0 _ _ _ (oi hF) sw))))
def oz(p0:(List Int))(p1:Int):Int→Option (Int ⊕ (Unit ⊕ Int)):=fun a10 =>
  (bif (decide (a10<(List.length p0:Int)))then((idx p0 a10).bind fun y14=>(bif (decide (p1=y14))then some (.inr (.inr a10))else some (.inl (w64 (a10+1)))))else some (.inr (.inl ())))
def eZ(p0:(List Int))(p1:Int):Option Int :=
  ((loop (oz p0 p1) 0).bind fun | .inl _=>some (-1) | .inr rv=>some rv)
theorem BV(p0:(List Int))(p1:Int)(r:Int)(hF:eZ p0 p1=some r):Fun Tryz.prog 179 true [] [cL 1 u4 p0,cI p1] noHeap (cI r) noHeap:=by
 refine fW Tryz.func179 ?_
 unfold eZ at hF
 refine wA rfl (aJ (wC 1 rfl (rS (fQ (tc:=u4) p0 .tree (QV rfl (kq (fun _ _ h=>h) hF (.inl) (fun a10=>[(0,cL 1 u4 p0),(1,cI p1),(7,cI (List.length p0:Int)),(8,cI a10)]) (fun a10=>[]) (fun _=>[]) (fun _=>[]) sw ?_ ?_))))))
 ·rintro⟨⟩ hF
  refine wA rfl ?_;cases hF
  exact bZ wR
 rintro a10 x_0 hF cont_0 brk_0 fin_0
 unfold oz at hF
 refine wA rfl (aJ (wIf hF rfl (fun _ hF=>?_) fun _ hF=>?_))
 ·refine aW (aJ (dV (wA rfl (wC 3 rfl ?_))));obtain⟨y14,hy14,hF⟩:=bB hF
  refine rS (i8 (tc:=u4) p0 rfl rfl hy14 (QV rfl (wIf hF rfl (fun _ hF=>?_) fun _ hF=>?_)))
  ·refine wA rfl ?_;have hF:=fin_0 _ (oi hF);cases hF
   exact bZ wR
  exact aW (wB rfl (cont_0 _ _ _ (oi hF) sw))
 exact fZ (aZ (aZ (cj (brk_0 _ _ _ (oi hF) sw))))
def oX(p0:(List Int))(p1:Int):Option Bool :=
  ((eZ p0 p1).bind fun r1=>some (decide (0≤r1)))
theorem F5(p0:(List Int))(p1:Int)(r:Bool)(hF:oX p0 p1=some r):Fun Tryz.prog 151 true [] [cL 1 u4 p0,cI p1] noHeap (cB r) noHeap:=by
 refine fW Tryz.func151 ?_
 unfold oX at hF
 refine wA rfl (wC 2 rfl ?_);obtain⟨r1,hr1,hF⟩:=bB hF
 refine rS (dj (BV _ _ _ hr1) ⟨rfl,rfl,trivial⟩ rfl (.inl rfl) (QV rfl ?_));cases hF
 exact bZ wR
def Dz(p0:(List i5)):((List Int)×Int)→Option (((List Int)×Int) ⊕ (List Int)):=fun(a19,a20) =>
  (bif (decide (a20<(List.length p0:Int)))then((((idx p0 a20).bind fun y29=>((oX a19 y29.x6).bind fun r30=>(bif (!r30)then(bif H7 8 (List.length a19+List.length [y29.x6])then some (a19++[y29.x6])else none)else some a19))):Option (List Int)).bind fun v28=>some (.inl (v28,(w64 (a20+1)))))else some (.inr a19))
def rK(p0:(List i5)):Option (List Int) :=
  ((loop (Dz p0) ([],0)).bind fun e27=>some e27)
theorem QJ(p0:(List i5))(r:(List Int))(hF:rK p0=some r):Fun Tryz.prog 78 false [] [cL 3 fX p0] (aQ []) (cO (902,3120)) (aQ [((902,3120),.arr 3 1 (List.map u4 r))]):=by
 refine fM [] (some []) Tryz.func78 ?_
 unfold rK at hF
 refine wA rfl (wA rfl (aJ (wC 1 rfl (rS (fQ (tc:=fX) p0 .tree (QV rfl (kq (fun _ _ h=>h) hF (id) (fun(a19,a20)=>[(3,cO (21,1)),(6,cL 3 fX p0),(7,cI (List.length p0:Int)),(8,cI a20)]) (fun(a19,a20)=>[((21,1),.arr 3 1 (List.map u4 a19))]) (fun e27=>[(3,cO (21,1))]) (fun e27=>[((21,1),.arr 3 1 (List.map u4 e27))]) (R7 3 (21,1) 3 1 rfl rfl rfl rfl sw) ?_ ?_)))))))
 ·rintro e27 hF
  refine wA rfl ?_;cases hF
  exact bZ ⟨_,_,(D6 (21,1) (902,3120) rfl rfl e9),_,rfl,rfl,rfl,(AgM.weak ⟨rfl,trivial⟩)⟩
 rintro⟨a19,a20⟩ x_0 hF cont_0 brk_0 fin_0
 unfold Dz at hF
 refine wA rfl (aJ (wIf hF rfl (fun _ hF=>?_) fun _ hF=>?_))
 ·refine aW (aJ (eV (fun _ _ h=>h) hF (fun v28=>[(3,cO (21,1)),(6,cL 3 fX p0),(7,cI (List.length p0:Int)),(8,cI a20)]) (fun v28=>[((21,1),.arr 3 1 (List.map u4 v28))]) ?_ ?_))
  ·rintro v28 hF
   exact wB rfl (cont_0 _ _ _ (oi hF) sw)
  intro join hF
  refine dV (wE ?_);obtain⟨y29,hy29,hF⟩:=bB' hF
  refine rS (i8 (tc:=fX) p0 rfl rfl hy29 (QV rfl (wC 3 rfl ?_)));obtain⟨r30,hr30,hF⟩:=bB' hF
  refine rS (dj (F5 _ _ _ hr30) ⟨⟨_,rfl⟩,rfl,trivial⟩ rfl (.inl rfl) (QV rfl (FJ hF rfl (fun _ hF=>?_) fun _ hF=>?_)))
  ·refine wD 3 rfl ?_;refine rS (L7 (tc:=u4) [y29.x6] rfl ⟨rfl,trivial⟩ rfl (fun _=>rfl) rfl ?_)
   obtain⟨h31,hF⟩:=NQ hF
   exact rS (LZ (tc:=u4) a19 [y29.x6] rfl rfl (.own _ _ rfl) h31 rfl (QV rfl (join (a19++[y29.x6]) _ _ hF (D6 (21,0) (21,1) rfl rfl sw))))
  exact aW (join a19 _ _ hF sw)
 exact fZ (aZ (aZ (cj (brk_0 _ _ _ (oi hF) sw))))
def n7(p0:bj):Option Bool :=
  (((bif (decide (p0.j8=1))then some true else some (decide (p0.j8=2))):Option Bool).bind fun v1=>(((bif (decide (p0.j8<0))then some true else some (decide (5<p0.j8))):Option Bool).bind fun v2=>(bif v2 then some false else(((bif (decide (p0.j8=4))then(bif (decide (p0.x7<0))then some true else some (decide (64≤p0.x7)))else some false):Option Bool).bind fun v3=>(((bif v3 then some v3 else(bif (!decide (p0.j8=4))then some (!decide (p0.x7=(-1)))else some false)):Option Bool).bind fun v4=>(bif v4 then some false else(((bif (decide (p0.j8=2))then(bif (decide (p0.g8<0))then some true else some (decide (1000000000000000<p0.g8)))else some false):Option Bool).bind fun v5=>(((bif v5 then some v5 else(bif (!decide (p0.j8=2))then some (!decide (p0.g8=(-1)))else some false)):Option Bool).bind fun v6=>(bif v6 then some false else(((bif (decide (p0.g9=(-1)))then some true else(bif v1 then(bif (decide (0≤p0.g9))then some (decide (p0.g9≤1000000000000000))else some false)else some false)):Option Bool).bind fun v7=>some v7))))))))))
theorem V0(p0:bj)(r:Bool)(hF:n7 p0=some r):Fun Tryz.prog 180 true [] [.agg (o3 p0)] noHeap (cB r) noHeap:=by
 refine fW Tryz.func180 ?_
 unfold n7 at hF
 refine wA rfl (aJ (eV (fun _ _ h=>h) hF (fun v1=>[(1,cP (1,0) 0),(3,cB v1)]) (fun v1=>[((1,0),.box (o3 p0))]) ?_ ?_))
 ·rintro v1 hF
  refine aJ (dV (aJ (eV (fun _ _ h=>h) hF (fun v2=>[(1,cP (1,0) 0),(3,cB v1),(12,cB v2)]) (fun v2=>[((1,0),.box (o3 p0))]) ?_ ?_)))
  ·rintro v2 hF
   refine wIf hF rfl (fun _ hF=>?_) fun _ hF=>?_
   ·refine wA rfl ?_;cases hF
    exact bZ wR
   refine aJ (aJ (eV (fun _ _ h=>h) hF (fun v3=>[(1,cP (1,0) 0),(3,cB v1),(21,cB v3)]) (fun v3=>[((1,0),.box (o3 p0))]) ?_ ?_))
   ·rintro v3 hF
    refine eV (fun _ _ h=>h) hF (fun v4=>[(1,cP (1,0) 0),(3,cB v1),(21,cB v4)]) (fun v4=>[((1,0),.box (o3 p0))]) ?_ ?_
    ·rintro v4 hF
     refine wIf hF rfl (fun _ hF=>?_) fun _ hF=>?_
     ·refine wA rfl ?_;cases hF
      exact bZ wR
     refine aJ (aJ (eV (fun _ _ h=>h) hF (fun v5=>[(1,cP (1,0) 0),(3,cB v1),(43,cB v5)]) (fun v5=>[((1,0),.box (o3 p0))]) ?_ ?_))
     ·rintro v5 hF
      refine eV (fun _ _ h=>h) hF (fun v6=>[(1,cP (1,0) 0),(3,cB v1),(43,cB v6)]) (fun v6=>[((1,0),.box (o3 p0))]) ?_ ?_
      ·rintro v6 hF
       refine wIf hF rfl (fun _ hF=>?_) fun _ hF=>?_
       ·refine wA rfl ?_;cases hF
        exact bZ wR
       refine aW (aJ (eV (fun _ _ h=>h) hF (fun v7=>[(2,cB v7)]) (fun v7=>[]) ?_ ?_))
       ·rintro v7 hF
        cases hF
        exact bZ wR
       intro join hF
       refine wD 4 rfl ?_;cases h8:(decide (p0.g9=(-1)))
       ·have hF:=bF' h8 hF;refine bq SV 2 rfl ?_;cases h9:v1
        ·have hF:=bF' h9 hF;exact QV rfl (join false _ _ hF sw)
        have hF:=bT' h9 hF;refine bq SV 5 rfl ?_;cases h10:(decide (0≤p0.g9))
        ·have hF:=bF' h10 hF;exact QV rfl (join false _ _ hF sw)
        have hF:=bT' h10 hF;exact QV rfl (join (decide (p0.g9≤1000000000000000)) _ _ hF sw)
       have hF:=bT' h8 hF;exact QV rfl (join true _ _ hF sw)
      intro join hF
      refine FJ hF rfl (fun _ hF=>?_) fun _ hF=>?_
      ·exact aW (join v5 _ _ hF sw)
      refine wD 4 rfl ?_;cases h12:(!decide (p0.j8=2))
      ·have hF:=bF' h12 hF;exact QV rfl (join false _ _ hF sw)
      have hF:=bT' h12 hF;exact QV rfl (join (!decide (p0.g8=(-1))) _ _ hF sw)
     intro join hF
     refine wD 4 rfl ?_;cases h14:(decide (p0.j8=2))
     ·have hF:=bF' h14 hF;exact QV rfl (join false _ _ hF sw)
     have hF:=bT' h14 hF;refine bq SV 4 rfl ?_;cases h15:(decide (p0.g8<0))
     ·have hF:=bF' h15 hF;exact QV rfl (join (decide (1000000000000000<p0.g8)) _ _ hF sw)
     have hF:=bT' h15 hF;exact QV rfl (join true _ _ hF sw)
    intro join hF
    refine FJ hF rfl (fun _ hF=>?_) fun _ hF=>?_
    ·exact aW (join v3 _ _ hF sw)
    refine wD 4 rfl ?_;cases h17:(!decide (p0.j8=4))
    ·have hF:=bF' h17 hF;exact QV rfl (join false _ _ hF sw)
    have hF:=bT' h17 hF;exact QV rfl (join (!decide (p0.x7=(-1))) _ _ hF sw)
   intro join hF
   refine wD 4 rfl ?_;cases h19:(decide (p0.j8=4))
   ·have hF:=bF' h19 hF;exact QV rfl (join false _ _ hF sw)
   have hF:=bT' h19 hF;refine bq SV 4 rfl ?_;cases h20:(decide (p0.x7<0))
   ·have hF:=bF' h20 hF;exact QV rfl (join (decide (64≤p0.x7)) _ _ hF sw)
   have hF:=bT' h20 hF;exact QV rfl (join true _ _ hF sw)
  intro join hF
  refine wD 4 rfl ?_;cases h22:(decide (p0.j8<0))
  ·have hF:=bF' h22 hF;exact QV rfl (join (decide (5<p0.j8)) _ _ hF sw)
  have hF:=bT' h22 hF;exact QV rfl (join true _ _ hF sw)
 intro join hF
 refine wD 4 rfl ?_;cases h23:(decide (p0.j8=1))
 ·have hF:=bF' h23 hF;exact QV rfl (join (decide (p0.j8=2)) _ _ hF sw)
 have hF:=bT' h23 hF;exact QV rfl (join true _ _ hF sw)
def Cz(p0:bj)(p1:bj):Option Bool :=
  (((bif (decide (p0.j8=p1.j8))then(bif (decide (p0.x7=p1.x7))then some (decide (p0.g8=p1.g8))else some false)else some false):Option Bool).bind fun v1=>some v1)
theorem adX(p0:bj)(p1:bj)(r:Bool)(hF:Cz p0 p1=some r):Fun Tryz.prog 154 true [] [.agg (o3 p0),.agg (o3 p1)] noHeap (cB r) noHeap:=by
 refine fW Tryz.func154 ?_
 unfold Cz at hF
 refine wA rfl (aJ (eV (fun _ _ h=>h) hF (fun v1=>[(4,cB v1)]) (fun v1=>[]) ?_ ?_))
 ·rintro v1 hF
  cases hF
  exact bZ wR
 intro join hF
 refine wD 6 rfl ?_;cases h2:(decide (p0.j8=p1.j8))
 ·have hF:=bF' h2 hF;exact QV rfl (join false _ _ hF sw)
 have hF:=bT' h2 hF;refine bq SV 7 rfl ?_;cases h3:(decide (p0.x7=p1.x7))
 ·have hF:=bF' h3 hF;exact QV rfl (join false _ _ hF sw)
 have hF:=bT' h3 hF;exact QV rfl (join (decide (p0.g8=p1.g8)) _ _ hF sw)
def uZ(p1:(List bj))(y68:bj):Int→Option (Int ⊕ (Unit ⊕ Int)):=fun a88 =>
  (bif (decide (a88<(List.length p1:Int)))then((idx p1 a88).bind fun y98=>(((bif (decide ((w64 (a88+1))=(List.length p1:Int)))then some true else((idx p1 (w64 (a88+1))).bind fun y104=>some (!decide (y104.q6=y98.q6)))):Option Bool).bind fun v99=>(((bif v99 then some (!decide (y98.q0.q8=y68.q0.q8))else some false):Option Bool).bind fun v100=>(bif v100 then some (.inr (.inr 11))else some (.inl (w64 (a88+1)))))))else some (.inr (.inl ())))
def AZ(p1:(List bj))(r1:(List Int)):(Int×Int)→Option ((Int×Int) ⊕ (Int ⊕ Int)):=fun(a46,a47) =>
  (bif (decide (a47<(List.length p1:Int)))then((idx p1 a47).bind fun y107=>((eZ r1 y107.q6).bind fun r108=>(bif (decide (r108<0))then some (.inr (.inr 5))else((lz y107.q0).bind fun r109=>(bif (!r109)then some (.inr (.inr 2))else((n7 y107).bind fun r110=>(bif (!r110)then some (.inr (.inr 1))else(((bif (decide (r108=a46))then((idx p1 (w64 (a47-1))).bind fun y118=>(bif (!decide (y107.q0.q5=y118.q0.q8))then some true else((idx p1 (w64 (a47-1))).bind fun y120=>((Cz y107 y120).bind fun r121=>some r121))))else some false):Option Bool).bind fun v111=>(bif v111 then some (.inr (.inr 11))else(((bif (!decide (r108=a46))then(bif (!decide (r108=(w64 (a46+1))))then some true else some (!decide (y107.q0.q5=0)))else some false):Option Bool).bind fun v112=>(bif v112 then some (.inr (.inr 11))else some (.inl (r108,(w64 (a47+1)))))))))))))))else some (.inr (.inl a46)))
def vQ(p0:(List i5))(p1:(List bj)):Option Int :=
  ((rK p0).bind fun r1=>((loop (AZ p1 r1) ((-1),0)).bind fun | .inl e67=>(bif (decide ((List.length p1:Int)=0))then some 0 else((idx p1 (w64 ((List.length p1:Int)-1))).bind fun y68=>((loop (uZ p1 y68) 0).bind fun | .inl _=>(bif (!decide ((w64 (e67+1))=(List.length r1:Int)))then some 11 else some 0) | .inr rv=>some rv))) | .inr rv=>some rv))
theorem Zx(p0:(List i5))(p1:(List bj))(r:Int)(hF:vQ p0 p1=some r):Fun Tryz.prog 112 true [] [cL 3 fX p0,cL 7 bW p1] noHeap (cI r) noHeap:=by
 refine fW Tryz.func112 ?_
 unfold vQ at hF
 refine wA rfl (wC 1 rfl ?_);obtain⟨r1,hr1,hF⟩:=bB hF
 refine jX trivial (n8 [((902,3120),(15,1))] rfl (xJ _) (QJ _ _ hr1) trivial ⟨.inl rfl,trivial⟩ rfl rfl rfl ?_);refine QV rfl (wA rfl (aJ (wC 1 rfl (rS (fQ (tc:=bW) p1 .tree (QV rfl (kq (fun _ _ h=>h) hF (.inl) (fun(a46,a47)=>[(1,cL 7 bW p1),(5,cO (15,1)),(6,cI a46),(16,cL 7 bW p1),(17,cI (List.length p1:Int)),(18,cI a47)]) (fun(a46,a47)=>[((15,1),.arr 3 1 (List.map u4 r1))]) (fun e67=>[(1,cL 7 bW p1),(5,cO (15,1)),(6,cI e67)]) (fun e67=>[((15,1),.arr 3 1 (List.map u4 r1))]) sw ?_ ?_)))))))
 ·rintro e67 hF
  refine aJ (wC 1 rfl (rS (fQ (tc:=bW) p1 .tree (QV rfl (wIf hF rfl (fun _ hF=>?_) fun _ hF=>?_)))))
  ·refine wA rfl ?_;cases hF
   exact bZ wR
  refine aW (wC 2 rfl (rS (fQ (tc:=bW) p1 .tree (bq SV 1 rfl ?_))));obtain⟨y68,hy68,hF⟩:=bB hF
  refine rS (i8 (tc:=bW) p1 rfl rfl hy68 (QV rfl (aJ (wC 1 rfl (rS (fQ (tc:=bW) p1 .tree (QV rfl (kq (fun _ _ h=>h) hF (.inl) (fun a88=>[(1,cL 7 bW p1),(5,cO (15,1)),(6,cI e67),(10,cI y68.q0.q8),(94,cL 7 bW p1),(95,cI (List.length p1:Int)),(96,cI a88)]) (fun a88=>[((15,1),.arr 3 1 (List.map u4 r1))]) (fun _=>[(5,cO (15,1)),(6,cI e67)]) (fun _=>[((15,1),.arr 3 1 (List.map u4 r1))]) sw ?_ ?_))))))))
  ·rintro⟨⟩ hF
   refine aJ (wC 3 rfl (rS (fQ (tc:=u4) r1 (.own _ _ rfl) (QV rfl (wIf hF rfl (fun _ hF=>?_) fun _ hF=>?_)))))
   ·refine wA rfl ?_;cases hF
    exact bZ wR
   refine aW (wA rfl ?_);cases hF
   exact bZ wR
  rintro a88 x_0 hF cont_0 brk_0 fin_0
  unfold uZ at hF
  refine wA rfl (aJ (wIf hF rfl (fun _ hF=>?_) fun _ hF=>?_))
  ·refine aW (aJ (dV (wC 1 rfl ?_)));obtain⟨y98,hy98,hF⟩:=bB hF
   refine rS (i8 (tc:=bW) p1 rfl rfl hy98 (QV rfl (aJ (eV (fun _ _ h=>h) hF (fun v99=>[(1,cL 7 bW p1),(5,cO (15,1)),(6,cI e67),(10,cI y68.q0.q8),(12,cP (12,0) 0),(13,cB v99),(94,cL 7 bW p1),(95,cI (List.length p1:Int)),(96,cI a88)]) (fun v99=>[((15,1),.arr 3 1 (List.map u4 r1)),((12,0),.box (o3 y98))]) ?_ ?_))))
   ·rintro v99 hF
    refine aJ (eV (fun _ _ h=>h) hF (fun v100=>[(1,cL 7 bW p1),(5,cO (15,1)),(6,cI e67),(10,cI y68.q0.q8),(94,cL 7 bW p1),(95,cI (List.length p1:Int)),(96,cI a88),(124,cB v100)]) (fun v100=>[((15,1),.arr 3 1 (List.map u4 r1))]) ?_ ?_)
    ·rintro v100 hF
     refine wIf hF rfl (fun _ hF=>?_) fun _ hF=>?_
     ·refine wA rfl ?_;have hF:=fin_0 _ (oi hF);cases hF
      exact bZ wR
     exact aW (wB rfl (cont_0 _ _ _ (oi hF) sw))
    intro join hF
    refine wD 2 rfl ?_;cases h102:v99
    ·have hF:=bF' h102 hF;exact QV rfl (join false _ _ hF sw)
    have hF:=bT' h102 hF;exact QV rfl (join (!decide (y98.q0.q8=y68.q0.q8)) _ _ hF sw)
   intro join hF
   refine n4 (by decide) (by kernel_rfl) rfl (bq SP 3 rfl (bz SP trivial (fQ (tc:=bW) p1 .tree (bq SP 2 rfl ?_))));cases h103:(decide ((w64 (a88+1))=(List.length p1:Int)))
   ·have hF:=bF' h103 hF;refine bq SP 3 rfl ?_;obtain⟨y104,hy104,hF⟩:=bB' hF
    exact bz SP rfl (i8 (tc:=bW) p1 rfl rfl hy104 (QP rfl (join (!decide (y104.q6=y98.q6)) _ _ hF sw)))
   have hF:=bT' h103 hF;exact QP rfl (join true _ _ hF sw)
  exact fZ (aZ (aZ (cj (brk_0 _ _ _ (oi hF) sw))))
 rintro⟨a46,a47⟩ x_0 hF cont_0 brk_0 fin_0
 unfold AZ at hF
 refine wA rfl (aJ (wIf hF rfl (fun _ hF=>?_) fun _ hF=>?_))
 ·refine aW (aJ (dV (wC 1 rfl ?_)));obtain⟨y107,hy107,hF⟩:=bB hF
  refine rS (i8 (tc:=bW) p1 rfl rfl hy107 (QV rfl (wC 3 rfl ?_)));obtain⟨r108,hr108,hF⟩:=bB hF
  refine rS (dj (BV _ _ _ hr108) ⟨⟨_,rfl⟩,rfl,trivial⟩ rfl (.inl rfl) (QV rfl (aJ (dV (wA rfl (wIf hF rfl (fun _ hF=>?_) fun _ hF=>?_))))))
  ·refine wA rfl ?_;have hF:=fin_0 _ (oi hF);cases hF
   exact bZ wR
  refine wC 2 rfl ?_;obtain⟨r109,hr109,hF⟩:=bB hF
  refine rS (dj (s8 _ _ hr109) ⟨⟨rfl,rfl,trivial⟩,trivial⟩ rfl (.inl rfl) (QV rfl (wIf hF rfl (fun _ hF=>?_) fun _ hF=>?_)))
  ·refine wA rfl ?_;have hF:=fin_0 _ (oi hF);cases hF
   exact bZ wR
  refine wC 1 rfl ?_;obtain⟨r110,hr110,hF⟩:=bB hF
  refine rS (dj (V0 _ _ hr110) ⟨⟨rfl,rfl,rfl,rfl,rfl,rfl,rfl,trivial⟩,trivial⟩ rfl (.inl rfl) (QV rfl (wIf hF rfl (fun _ hF=>?_) fun _ hF=>?_)))
  ·refine wA rfl ?_;have hF:=fin_0 _ (oi hF);cases hF
   exact bZ wR
  refine aJ (eV (fun _ _ h=>h) hF (fun v111=>[(1,cL 7 bW p1),(5,cO (15,1)),(6,cI a46),(8,cP (8,0) 0),(9,cI r108),(16,cL 7 bW p1),(17,cI (List.length p1:Int)),(18,cI a47),(39,cB v111)]) (fun v111=>[((15,1),.arr 3 1 (List.map u4 r1)),((8,0),.box (o3 y107))]) ?_ ?_)
  ·rintro v111 hF
   refine wIf hF rfl (fun _ hF=>?_) fun _ hF=>?_
   ·refine wA rfl ?_;have hF:=fin_0 _ (oi hF);cases hF
    exact bZ wR
   refine aJ (eV (fun _ _ h=>h) hF (fun v112=>[(1,cL 7 bW p1),(5,cO (15,1)),(9,cI r108),(16,cL 7 bW p1),(17,cI (List.length p1:Int)),(18,cI a47),(65,cB v112)]) (fun v112=>[((15,1),.arr 3 1 (List.map u4 r1))]) ?_ ?_)
   ·rintro v112 hF
    refine wIf hF rfl (fun _ hF=>?_) fun _ hF=>?_
    ·refine wA rfl ?_;have hF:=fin_0 _ (oi hF);cases hF
     exact bZ wR
    exact aW (wB rfl (wB rfl (cont_0 _ _ _ (oi hF) sw)))
   intro join hF
   refine wD 4 rfl ?_;cases h114:(!decide (r108=a46))
   ·have hF:=bF' h114 hF;exact QV rfl (join false _ _ hF sw)
   have hF:=bT' h114 hF;refine bq SV 5 rfl ?_;cases h115:(!decide (r108=(w64 (a46+1))))
   ·have hF:=bF' h115 hF;exact QV rfl (join (!decide (y107.q0.q5=0)) _ _ hF sw)
   have hF:=bT' h115 hF;exact QV rfl (join true _ _ hF sw)
  intro join hF
  refine n4 (by decide) (by kernel_rfl) rfl (bq SP 4 rfl ?_);cases h117:(decide (r108=a46))
  ·have hF:=bF' h117 hF;exact QP rfl (join false _ _ hF sw)
  have hF:=bT' h117 hF;refine bq SP 6 rfl ?_;obtain⟨y118,hy118,hF⟩:=bB' hF
  refine bz SP rfl (i8 (tc:=bW) p1 rfl rfl hy118 (bq SP 5 rfl ?_));cases h119:(!decide (y107.q0.q5=y118.q0.q8))
  ·have hF:=bF' h119 hF;refine bq SP 4 rfl ?_;obtain⟨y120,hy120,hF⟩:=bB' hF
   refine bz SP rfl (i8 (tc:=bW) p1 rfl rfl hy120 (bq SP 1 rfl ?_));obtain⟨r121,hr121,hF⟩:=bB' hF
   exact bz SP rfl (dj (adX _ _ _ hr121) ⟨⟨rfl,rfl,rfl,rfl,rfl,rfl,rfl,trivial⟩,⟨rfl,rfl,rfl,rfl,rfl,rfl,rfl,trivial⟩,trivial⟩ rfl (.inl rfl) (QP rfl (join r121 _ _ hF sw)))
  have hF:=bT' h119 hF;exact QP rfl (join true _ _ hF sw)
 exact fZ (aZ (aZ (cj (brk_0 _ _ _ (oi hF) sw))))
def oJ(p0:Int)(p1:Int):Option Bool :=
  (((bif (decide (p0<0))then some true else some (decide (p1<p0))):Option Bool).bind fun v1=>some v1)
theorem wj(p0:Int)(p1:Int)(r:Bool)(hF:oJ p0 p1=some r):Fun Tryz.prog 181 true [] [cI p0,cI p1] noHeap (cB r) noHeap:=by
 refine fW Tryz.func181 ?_
 unfold oJ at hF
 refine wA rfl (aJ (eV (fun _ _ h=>h) hF (fun v1=>[(4,cB v1)]) (fun v1=>[]) ?_ ?_))
 ·rintro v1 hF
  cases hF
  exact bZ wR
 intro join hF
 refine wD 3 rfl ?_;cases h2:(decide (p0<0))
 ·have hF:=bF' h2 hF;exact QV rfl (join (decide (p1<p0)) _ _ hF sw)
 have hF:=bT' h2 hF;exact QV rfl (join true _ _ hF sw)
def Bx(p0:(List c7)):Int→Option (Int ⊕ (Unit ⊕ Int)):=fun a48 =>
  (bif (decide (a48<(List.length p0:Int)))then((idx p0 a48).bind fun y71=>((oJ y71.x6 1000000000000000).bind fun r72=>(((bif r72 then some r72 else((oJ y71.q5.q6 1000000000000000).bind fun r80=>(bif r80 then some r80 else((oJ y71.q5.w8 1000000000000000).bind fun r81=>(bif r81 then some r81 else((oJ y71.q8.q6 1000000000000000).bind fun r82=>(bif r82 then some r82 else((oJ y71.q8.w8 1000000000000000).bind fun r83=>(bif r83 then some r83 else((oJ y71.w9 1000000000000).bind fun r84=>(bif r84 then some r84 else((oJ y71.v8 1000000000000).bind fun r85=>some r85)))))))))))):Option Bool).bind fun v73=>(bif v73 then some (.inr (.inr 2))else(((bif (decide (y71.v8<y71.w9))then some (decide (y71.v8<y71.w9))else(bif (decide (0<a48))then((idx p0 (w64 (a48-1))).bind fun y77=>some (decide (y71.v8<y77.v8)))else some false)):Option Bool).bind fun v74=>(bif v74 then some (.inr (.inr 11))else some (.inl (w64 (a48+1)))))))))else some (.inr (.inl ())))
def Cq(p0:(List c7)):Option Int :=
  ((loop (Bx p0) 0).bind fun | .inl _=>some 0 | .inr rv=>some rv)
theorem agx(p0:(List c7))(r:Int)(hF:Cq p0=some r):Fun Tryz.prog 114 true [] [cL 7 c4 p0] noHeap (cI r) noHeap:=by
 refine fW Tryz.func114 ?_
 unfold Cq at hF
 refine wA rfl (aJ (wC 1 rfl (rS (fQ (tc:=c4) p0 .tree (QV rfl (kq (fun _ _ h=>h) hF (.inl) (fun a48=>[(0,cL 7 c4 p0),(5,cL 7 c4 p0),(6,cI (List.length p0:Int)),(7,cI a48)]) (fun a48=>[]) (fun _=>[]) (fun _=>[]) sw ?_ ?_))))))
 ·rintro⟨⟩ hF
  refine wA rfl ?_;cases hF
  exact bZ wR
 rintro a48 x_0 hF cont_0 brk_0 fin_0
 unfold Bx at hF
 refine wA rfl (aJ (wIf hF rfl (fun _ hF=>?_) fun _ hF=>?_))
 ·refine aW (aJ (dV (wC 1 rfl ?_)));obtain⟨y71,hy71,hF⟩:=bB hF
  refine rS (i8 (tc:=c4) p0 rfl rfl hy71 (QV rfl (dV (aJ (wC 2 rfl ?_)))));obtain⟨r72,hr72,hF⟩:=bB hF
  refine rS (dj (wj _ _ _ hr72) ⟨rfl,rfl,trivial⟩ rfl (.inl rfl) (QV rfl (eV (fun _ _ h=>h) hF (fun v73=>[(0,cL 7 c4 p0),(3,cI a48),(4,cP (4,0) 0),(5,cL 7 c4 p0),(6,cI (List.length p0:Int)),(7,cI a48),(12,cB v73)]) (fun v73=>[((4,0),.box (G1 y71))]) ?_ ?_)))
  ·rintro v73 hF
   refine wIf hF rfl (fun _ hF=>?_) fun _ hF=>?_
   ·refine wA rfl ?_;have hF:=fin_0 _ (oi hF);cases hF
    exact bZ wR
   refine aJ (wA rfl (eV (fun _ _ h=>h) hF (fun v74=>[(0,cL 7 c4 p0),(5,cL 7 c4 p0),(6,cI (List.length p0:Int)),(7,cI a48),(38,cB v74)]) (fun v74=>[]) ?_ ?_))
   ·rintro v74 hF
    refine wIf hF rfl (fun _ hF=>?_) fun _ hF=>?_
    ·refine wA rfl ?_;have hF:=fin_0 _ (oi hF);cases hF
     exact bZ wR
    exact aW (wB rfl (cont_0 _ _ _ (oi hF) sw))
   intro join hF
   refine FJ hF rfl (fun _ hF=>?_) fun _ hF=>?_
   ·exact aW (join (decide (y71.v8<y71.w9)) _ _ hF sw)
   refine n4 (by decide) (by kernel_rfl) rfl (bq SP 3 rfl ?_);cases h76:(decide (0<a48))
   ·have hF:=bF' h76 hF;exact QP rfl (join false _ _ hF sw)
   have hF:=bT' h76 hF;refine bq SP 5 rfl ?_;obtain⟨y77,hy77,hF⟩:=bB' hF
   exact bz SP rfl (i8 (tc:=c4) p0 rfl rfl hy77 (QP rfl (join (decide (y71.v8<y77.v8)) _ _ hF sw)))
  intro join hF
  refine FJ hF rfl (fun _ hF=>?_) fun _ hF=>?_
  ·exact aW (join r72 _ _ hF sw)
  refine wC 3 rfl ?_;obtain⟨r80,hr80,hF⟩:=bB' hF
  refine rS (dj (wj _ _ _ hr80) ⟨rfl,rfl,trivial⟩ rfl (.inl rfl) (QV rfl (FJ hF rfl (fun _ hF=>?_) fun _ hF=>?_)))
  ·exact aW (join r80 _ _ hF sw)
  refine wC 3 rfl ?_;obtain⟨r81,hr81,hF⟩:=bB' hF
  refine rS (dj (wj _ _ _ hr81) ⟨rfl,rfl,trivial⟩ rfl (.inl rfl) (QV rfl (FJ hF rfl (fun _ hF=>?_) fun _ hF=>?_)))
  ·exact aW (join r81 _ _ hF sw)
  refine wC 3 rfl ?_;obtain⟨r82,hr82,hF⟩:=bB' hF
  refine rS (dj (wj _ _ _ hr82) ⟨rfl,rfl,trivial⟩ rfl (.inl rfl) (QV rfl (FJ hF rfl (fun _ hF=>?_) fun _ hF=>?_)))
  ·exact aW (join r82 _ _ hF sw)
  refine wC 3 rfl ?_;obtain⟨r83,hr83,hF⟩:=bB' hF
  refine rS (dj (wj _ _ _ hr83) ⟨rfl,rfl,trivial⟩ rfl (.inl rfl) (QV rfl (FJ hF rfl (fun _ hF=>?_) fun _ hF=>?_)))
  ·exact aW (join r83 _ _ hF sw)
  refine wC 2 rfl ?_;obtain⟨r84,hr84,hF⟩:=bB' hF
  refine rS (dj (wj _ _ _ hr84) ⟨rfl,rfl,trivial⟩ rfl (.inl rfl) (QV rfl (FJ hF rfl (fun _ hF=>?_) fun _ hF=>?_)))
  ·exact aW (join r84 _ _ hF sw)
  refine wD 2 rfl ?_;obtain⟨r85,hr85,hF⟩:=bB' hF
  exact rS (dj (wj _ _ _ hr85) ⟨rfl,rfl,trivial⟩ rfl (.inl rfl) (QV rfl (join r85 _ _ hF sw)))
 exact fZ (aZ (aZ (cj (brk_0 _ _ _ (oi hF) sw))))
def Aj(p0:c7):Option Int :=
  some p0.q5.q6
theorem Q1(p0:c7)(r:Int)(hF:Aj p0=some r):Fun Tryz.prog 115 true [] [.agg (G1 p0)] noHeap (cI r) noHeap:=by
 refine fW Tryz.func115 ?_
 unfold Aj at hF
 refine wA rfl (wA rfl ?_);cases hF
 exact bZ wR
def m7(p1:(List (Int×ByteArray)))(p2:(List c7)):Int→Option (Int ⊕ (Unit ⊕ Int)):=fun a12 =>
  (bif (decide (a12<(List.length p2:Int)))then((idx p2 a12).bind fun y17=>((Aj y17).bind fun r18=>(bif (!(Option.isSome (nY r18 p1)))then some (.inr (.inr 5))else some (.inl (w64 (a12+1))))))else some (.inr (.inl ())))
def kJ(p0:Int)(p1:(List (Int×ByteArray)))(p2:(List c7)):Option Int :=
  (bif (!decide (p0=0))then some p0 else((loop (m7 p1 p2) 0).bind fun | .inl _=>some 0 | .inr rv=>some rv))
theorem GZ(p0:Int)(p1:(List (Int×ByteArray)))(p2:(List c7))(r:Int)(hF:kJ p0 p1 p2=some r):Fun Tryz.prog 113 false [(5520,0)] [cI p0,cM (5520,0),cL 7 c4 p2,.c (.fn 115 [])] (aQ [((5520,0),o7 (.int .i64) kvI vvS p1)]) (cI r) (aQ [((5520,0),o7 (.int .i64) kvI vvS p1)]):=by
 refine fM [(5520,0)] (some [(5520,0)]) Tryz.func113 ?_
 unfold kJ at hF
 refine wA rfl (aJ (wA rfl (wIf hF rfl (fun _ hF=>?_) fun _ hF=>?_)))
 ·refine wA rfl ?_;cases hF
  exact bZ ⟨_,_,e9,_,rfl,rfl,⟨rfl,fun _=>rfl⟩,(AgM.weak ⟨rfl,trivial⟩)⟩
 refine aW (aJ (wC 1 rfl (rS (fQ (tc:=c4) p2 .tree (QV rfl (kq (fun _ _ h=>h) hF (.inl) (fun a12=>[(1,cM (5520,0)),(3,.c (.fn 115 [])),(16,cL 7 c4 p2),(17,cI (List.length p2:Int)),(18,cI a12)]) (fun a12=>[((5520,0),o7 (.int .i64) kvI vvS p1)]) (fun _=>[]) (fun _=>[((5520,0),o7 (.int .i64) kvI vvS p1)]) sw ?_ ?_))))))
 ·rintro⟨⟩ hF
  refine wA rfl ?_;cases hF
  exact bZ ⟨_,_,e9,_,rfl,rfl,⟨rfl,fun _=>rfl⟩,(AgM.weak ⟨rfl,trivial⟩)⟩
 rintro a12 x_0 hF cont_0 brk_0 fin_0
 unfold m7 at hF
 refine wA rfl (aJ (wIf hF rfl (fun _ hF=>?_) fun _ hF=>?_))
 ·refine aW (aJ (dV (wE ?_)));obtain⟨y17,hy17,hF⟩:=bB hF
  refine rS (i8 (tc:=c4) p2 rfl rfl hy17 (QV rfl (wC 3 rfl ?_)));obtain⟨r18,hr18,hF⟩:=bB hF
  refine jX trivial (Ej (E6 _ rfl aZY) (Q1 _ _ hr18) ⟨⟨rfl,rfl,rfl,rfl,rfl,rfl,rfl,trivial⟩,trivial⟩ rfl (.inl rfl) (rS (H3 (aeZ .i64) (vv:=vvS) p1 r18 (⟨#[]⟩ : ByteArray) (.own _ rfl) rfl rfl (QV rfl (wA rfl (wIf hF rfl (fun _ hF=>?_) fun _ hF=>?_))))))
  ·refine wA rfl ?_;have hF:=fin_0 _ (oi hF);cases hF
   exact bZ ⟨_,_,e9,_,rfl,rfl,⟨rfl,fun _=>rfl⟩,(AgM.weak ⟨rfl,trivial⟩)⟩
  exact aW (wB rfl (cont_0 _ _ _ (oi hF) sw))
 exact fZ (aZ (aZ (cj (brk_0 _ _ _ (oi hF) sw))))
def zW(p0:c7):Option Int :=
  some p0.q8.q6
theorem P4(p0:c7)(r:Int)(hF:zW p0=some r):Fun Tryz.prog 116 true [] [.agg (G1 p0)] noHeap (cI r) noHeap:=by
 refine fW Tryz.func116 ?_
 unfold zW at hF
 refine wA rfl (wA rfl ?_);cases hF
 exact bZ wR
def mK(p1:(List (Int×ByteArray)))(p2:(List c7)):Int→Option (Int ⊕ (Unit ⊕ Int)):=fun a12 =>
  (bif (decide (a12<(List.length p2:Int)))then((idx p2 a12).bind fun y17=>((zW y17).bind fun r18=>(bif (!(Option.isSome (nY r18 p1)))then some (.inr (.inr 5))else some (.inl (w64 (a12+1))))))else some (.inr (.inl ())))
def kj(p0:Int)(p1:(List (Int×ByteArray)))(p2:(List c7)):Option Int :=
  (bif (!decide (p0=0))then some p0 else((loop (mK p1 p2) 0).bind fun | .inl _=>some 0 | .inr rv=>some rv))
theorem F2(p0:Int)(p1:(List (Int×ByteArray)))(p2:(List c7))(r:Int)(hF:kj p0 p1 p2=some r):Fun Tryz.prog 113 false [(5520,0)] [cI p0,cM (5520,0),cL 7 c4 p2,.c (.fn 116 [])] (aQ [((5520,0),o7 (.int .i64) kvI vvS p1)]) (cI r) (aQ [((5520,0),o7 (.int .i64) kvI vvS p1)]):=by
 refine fM [(5520,0)] (some [(5520,0)]) Tryz.func113 ?_
 unfold kj at hF
 refine wA rfl (aJ (wA rfl (wIf hF rfl (fun _ hF=>?_) fun _ hF=>?_)))
 ·refine wA rfl ?_;cases hF
  exact bZ ⟨_,_,e9,_,rfl,rfl,⟨rfl,fun _=>rfl⟩,(AgM.weak ⟨rfl,trivial⟩)⟩
 refine aW (aJ (wC 1 rfl (rS (fQ (tc:=c4) p2 .tree (QV rfl (kq (fun _ _ h=>h) hF (.inl) (fun a12=>[(1,cM (5520,0)),(3,.c (.fn 116 [])),(16,cL 7 c4 p2),(17,cI (List.length p2:Int)),(18,cI a12)]) (fun a12=>[((5520,0),o7 (.int .i64) kvI vvS p1)]) (fun _=>[]) (fun _=>[((5520,0),o7 (.int .i64) kvI vvS p1)]) sw ?_ ?_))))))
 ·rintro⟨⟩ hF
  refine wA rfl ?_;cases hF
  exact bZ ⟨_,_,e9,_,rfl,rfl,⟨rfl,fun _=>rfl⟩,(AgM.weak ⟨rfl,trivial⟩)⟩
 rintro a12 x_0 hF cont_0 brk_0 fin_0
 unfold mK at hF
 refine wA rfl (aJ (wIf hF rfl (fun _ hF=>?_) fun _ hF=>?_))
 ·refine aW (aJ (dV (wE ?_)));obtain⟨y17,hy17,hF⟩:=bB hF
  refine rS (i8 (tc:=c4) p2 rfl rfl hy17 (QV rfl (wC 3 rfl ?_)));obtain⟨r18,hr18,hF⟩:=bB hF
  refine jX trivial (Ej (E6 _ rfl a2Z) (P4 _ _ hr18) ⟨⟨rfl,rfl,rfl,rfl,rfl,rfl,rfl,trivial⟩,trivial⟩ rfl (.inl rfl) (rS (H3 (aeZ .i64) (vv:=vvS) p1 r18 (⟨#[]⟩ : ByteArray) (.own _ rfl) rfl rfl (QV rfl (wA rfl (wIf hF rfl (fun _ hF=>?_) fun _ hF=>?_))))))
  ·refine wA rfl ?_;have hF:=fin_0 _ (oi hF);cases hF
   exact bZ ⟨_,_,e9,_,rfl,rfl,⟨rfl,fun _=>rfl⟩,(AgM.weak ⟨rfl,trivial⟩)⟩
  exact aW (wB rfl (cont_0 _ _ _ (oi hF) sw))
 exact fZ (aZ (aZ (cj (brk_0 _ _ _ (oi hF) sw))))
def zZ(p0:bY):Option Bool :=
  (((bif (decide (0≤p0.q6))then(bif (decide (p0.q6≤1000000000000000))then(bif (decide (0≤p0.j9))then(bif (decide (p0.j9≤1000000000000))then(bif (decide (1≤p0.w5))then some (decide (p0.w5≤1000000000000))else some false)else some false)else some false)else some false)else some false):Option Bool).bind fun v1=>some v1)
theorem Y6(p0:bY)(r:Bool)(hF:zZ p0=some r):Fun Tryz.prog 182 true [] [.agg (wx p0)] noHeap (cB r) noHeap:=by
 refine fW Tryz.func182 ?_
 unfold zZ at hF
 refine wA rfl (aJ (eV (fun _ _ h=>h) hF (fun v1=>[(2,cB v1)]) (fun v1=>[]) ?_ ?_))
 ·rintro v1 hF
  cases hF
  exact bZ wR
 intro join hF
 refine wD 4 rfl ?_;cases h2:(decide (0≤p0.q6))
 ·have hF:=bF' h2 hF;exact QV rfl (join false _ _ hF sw)
 have hF:=bT' h2 hF;refine bq SV 5 rfl ?_;cases h3:(decide (p0.q6≤1000000000000000))
 ·have hF:=bF' h3 hF;exact QV rfl (join false _ _ hF sw)
 have hF:=bT' h3 hF;refine bq SV 5 rfl ?_;cases h4:(decide (0≤p0.j9))
 ·have hF:=bF' h4 hF;exact QV rfl (join false _ _ hF sw)
 have hF:=bT' h4 hF;refine bq SV 5 rfl ?_;cases h5:(decide (p0.j9≤1000000000000))
 ·have hF:=bF' h5 hF;exact QV rfl (join false _ _ hF sw)
 have hF:=bT' h5 hF;refine bq SV 5 rfl ?_;cases h6:(decide (1≤p0.w5))
 ·have hF:=bF' h6 hF;exact QV rfl (join false _ _ hF sw)
 have hF:=bT' h6 hF;exact QV rfl (join (decide (p0.w5≤1000000000000)) _ _ hF sw)
def EY(p0:(List ByteArray)):Int→Option (Int ⊕ (Unit ⊕ Int)):=fun a12 =>
  (bif (decide (a12<(List.length p0:Int)))then((idx p0 a12).bind fun y17=>((rz y17).bind fun r18=>(bif (!decide (r18=0))then some (.inr (.inr r18))else some (.inl (w64 (a12+1))))))else some (.inr (.inl ())))
def qW(p0:(List ByteArray)):Option Int :=
  (bif (decide (32<(List.length p0:Int)))then some 7 else((loop (EY p0) 0).bind fun | .inl _=>some 0 | .inr rv=>some rv))
theorem IQ(p0:(List ByteArray))(r:Int)(hF:qW p0=some r):Fun Tryz.prog 183 true [] [cL 1 CW p0] noHeap (cI r) noHeap:=by
 refine fW Tryz.func183 ?_
 unfold qW at hF
 refine wA rfl (aJ (wC 1 rfl (rS (fQ (tc:=CW) p0 .tree (QV rfl (wIf hF rfl (fun _ hF=>?_) fun _ hF=>?_))))))
 ·refine wA rfl ?_;cases hF
  exact bZ wR
 refine aW (aJ (wC 1 rfl (rS (fQ (tc:=CW) p0 .tree (QV rfl (kq (fun _ _ h=>h) hF (.inl) (fun a12=>[(9,cL 1 CW p0),(10,cI (List.length p0:Int)),(11,cI a12)]) (fun a12=>[]) (fun _=>[]) (fun _=>[]) sw ?_ ?_))))))
 ·rintro⟨⟩ hF
  refine wA rfl ?_;cases hF
  exact bZ wR
 rintro a12 x_0 hF cont_0 brk_0 fin_0
 unfold EY at hF
 refine wA rfl (aJ (wIf hF rfl (fun _ hF=>?_) fun _ hF=>?_))
 ·refine aW (aJ (dV (wE ?_)));obtain⟨y17,hy17,hF⟩:=bB hF
  refine rS (i8 (tc:=CW) p0 rfl rfl hy17 (QV rfl (wC 1 rfl ?_)));obtain⟨r18,hr18,hF⟩:=bB hF
  refine rS (dj (B1 _ _ hr18) ⟨rfl,trivial⟩ rfl (.inl rfl) (QV rfl (wA rfl (wIf hF rfl (fun _ hF=>?_) fun _ hF=>?_))))
  ·refine wA rfl ?_;have hF:=fin_0 _ (oi hF);cases hF
   exact bZ wR
  exact aW (wB rfl (cont_0 _ _ _ (oi hF) sw))
 exact fZ (aZ (aZ (cj (brk_0 _ _ _ (oi hF) sw))))
def xq(p0:(List bY)):Int→Option (Int ⊕ (Unit ⊕ Int)):=fun a24 =>
  (bif (decide (a24<(List.length p0:Int)))then((idx p0 a24).bind fun y35=>((zZ y35).bind fun r36=>(bif (!r36)then some (.inr (.inr 2))else((qW y35.j4).bind fun r37=>(bif (!decide (r37=0))then some (.inr (.inr r37))else(((bif (decide (0<a24))then((idx p0 (w64 (a24-1))).bind fun y41=>some (decide (y35.j9<y41.j9)))else some false):Option Bool).bind fun v38=>(bif v38 then some (.inr (.inr 11))else some (.inl (w64 (a24+1))))))))))else some (.inr (.inl ())))
def wZ(p0:(List bY)):Option Int :=
  ((loop (xq p0) 0).bind fun | .inl _=>some 0 | .inr rv=>some rv)
theorem V6(p0:(List bY))(r:Int)(hF:wZ p0=some r):Fun Tryz.prog 118 true [] [cL 4 cV p0] noHeap (cI r) noHeap:=by
 refine fW Tryz.func118 ?_
 unfold wZ at hF
 refine wA rfl (aJ (wC 1 rfl (rS (fQ (tc:=cV) p0 .tree (QV rfl (kq (fun _ _ h=>h) hF (.inl) (fun a24=>[(0,cL 4 cV p0),(6,cL 4 cV p0),(7,cI (List.length p0:Int)),(8,cI a24)]) (fun a24=>[]) (fun _=>[]) (fun _=>[]) sw ?_ ?_))))))
 ·rintro⟨⟩ hF
  refine wA rfl ?_;cases hF
  exact bZ wR
 rintro a24 x_0 hF cont_0 brk_0 fin_0
 unfold xq at hF
 refine wA rfl (aJ (wIf hF rfl (fun _ hF=>?_) fun _ hF=>?_))
 ·refine aW (aJ (dV (wC 1 rfl ?_)));obtain⟨y35,hy35,hF⟩:=bB hF
  refine rS (i8 (tc:=cV) p0 rfl rfl hy35 (QV rfl (aJ (wC 1 rfl ?_))));obtain⟨r36,hr36,hF⟩:=bB hF
  refine rS (dj (Y6 _ _ hr36) ⟨⟨rfl,rfl,rfl,rfl,trivial⟩,trivial⟩ rfl (.inl rfl) (QV rfl (wIf hF rfl (fun _ hF=>?_) fun _ hF=>?_)))
  ·refine wA rfl ?_;have hF:=fin_0 _ (oi hF);cases hF
   exact bZ wR
  refine aW (aJ (wC 2 rfl ?_));obtain⟨r37,hr37,hF⟩:=bB hF
  refine rS (dj (IQ _ _ hr37) ⟨rfl,trivial⟩ rfl (.inl rfl) (QV rfl (wA rfl (wIf hF rfl (fun _ hF=>?_) fun _ hF=>?_))))
  ·refine wA rfl ?_;have hF:=fin_0 _ (oi hF);cases hF
   exact bZ wR
  refine aW (aJ (eV (fun _ _ h=>h) hF (fun v38=>[(0,cL 4 cV p0),(6,cL 4 cV p0),(7,cI (List.length p0:Int)),(8,cI a24),(34,cB v38)]) (fun v38=>[]) ?_ ?_))
  ·rintro v38 hF
   refine wIf hF rfl (fun _ hF=>?_) fun _ hF=>?_
   ·refine wA rfl ?_;have hF:=fin_0 _ (oi hF);cases hF
    exact bZ wR
   exact aW (wB rfl (cont_0 _ _ _ (oi hF) sw))
  intro join hF
  refine n4 (by decide) (by kernel_rfl) rfl (bq SP 3 rfl ?_);cases h40:(decide (0<a24))
  ·have hF:=bF' h40 hF;exact QP rfl (join false _ _ hF sw)
  have hF:=bT' h40 hF;refine bq SP 5 rfl ?_;obtain⟨y41,hy41,hF⟩:=bB' hF
  exact bz SP rfl (i8 (tc:=cV) p0 rfl rfl hy41 (QP rfl (join (decide (y35.j9<y41.j9)) _ _ hF sw)))
 exact fZ (aZ (aZ (cj (brk_0 _ _ _ (oi hF) sw))))
def AV(p0:bY):Option Int :=
  some p0.q6
theorem Q4(p0:bY)(r:Int)(hF:AV p0=some r):Fun Tryz.prog 119 true [] [.agg (wx p0)] noHeap (cI r) noHeap:=by
 refine fW Tryz.func119 ?_
 unfold AV at hF
 refine wA rfl (wA rfl ?_);cases hF
 exact bZ wR
def lV(p1:(List (Int×ByteArray)))(p2:(List bY)):Int→Option (Int ⊕ (Unit ⊕ Int)):=fun a12 =>
  (bif (decide (a12<(List.length p2:Int)))then((idx p2 a12).bind fun y17=>((AV y17).bind fun r18=>(bif (!(Option.isSome (nY r18 p1)))then some (.inr (.inr 5))else some (.inl (w64 (a12+1))))))else some (.inr (.inl ())))
def jZ(p0:Int)(p1:(List (Int×ByteArray)))(p2:(List bY)):Option Int :=
  (bif (!decide (p0=0))then some p0 else((loop (lV p1 p2) 0).bind fun | .inl _=>some 0 | .inr rv=>some rv))
theorem Fx(p0:Int)(p1:(List (Int×ByteArray)))(p2:(List bY))(r:Int)(hF:jZ p0 p1 p2=some r):Fun Tryz.prog 117 false [(5680,0)] [cI p0,cM (5680,0),cL 4 cV p2,.c (.fn 119 [])] (aQ [((5680,0),o7 (.int .i64) kvI vvS p1)]) (cI r) (aQ [((5680,0),o7 (.int .i64) kvI vvS p1)]):=by
 refine fM [(5680,0)] (some [(5680,0)]) Tryz.func117 ?_
 unfold jZ at hF
 refine wA rfl (aJ (wA rfl (wIf hF rfl (fun _ hF=>?_) fun _ hF=>?_)))
 ·refine wA rfl ?_;cases hF
  exact bZ ⟨_,_,e9,_,rfl,rfl,⟨rfl,fun _=>rfl⟩,(AgM.weak ⟨rfl,trivial⟩)⟩
 refine aW (aJ (wC 1 rfl (rS (fQ (tc:=cV) p2 .tree (QV rfl (kq (fun _ _ h=>h) hF (.inl) (fun a12=>[(1,cM (5680,0)),(3,.c (.fn 119 [])),(16,cL 4 cV p2),(17,cI (List.length p2:Int)),(18,cI a12)]) (fun a12=>[((5680,0),o7 (.int .i64) kvI vvS p1)]) (fun _=>[]) (fun _=>[((5680,0),o7 (.int .i64) kvI vvS p1)]) sw ?_ ?_))))))
 ·rintro⟨⟩ hF
  refine wA rfl ?_;cases hF
  exact bZ ⟨_,_,e9,_,rfl,rfl,⟨rfl,fun _=>rfl⟩,(AgM.weak ⟨rfl,trivial⟩)⟩
 rintro a12 x_0 hF cont_0 brk_0 fin_0
 unfold lV at hF
 refine wA rfl (aJ (wIf hF rfl (fun _ hF=>?_) fun _ hF=>?_))
 ·refine aW (aJ (dV (wE ?_)));obtain⟨y17,hy17,hF⟩:=bB hF
  refine rS (i8 (tc:=cV) p2 rfl rfl hy17 (QV rfl (wC 3 rfl ?_)));obtain⟨r18,hr18,hF⟩:=bB hF
  refine jX trivial (Ej (E6 _ rfl aZW) (Q4 _ _ hr18) ⟨⟨rfl,rfl,rfl,rfl,trivial⟩,trivial⟩ rfl (.inl rfl) (rS (H3 (aeZ .i64) (vv:=vvS) p1 r18 (⟨#[]⟩ : ByteArray) (.own _ rfl) rfl rfl (QV rfl (wA rfl (wIf hF rfl (fun _ hF=>?_) fun _ hF=>?_))))))
  ·refine wA rfl ?_;have hF:=fin_0 _ (oi hF);cases hF
   exact bZ ⟨_,_,e9,_,rfl,rfl,⟨rfl,fun _=>rfl⟩,(AgM.weak ⟨rfl,trivial⟩)⟩
  exact aW (wB rfl (cont_0 _ _ _ (oi hF) sw))
 exact fZ (aZ (aZ (cj (brk_0 _ _ _ (oi hF) sw))))
def WY(p0:Int):Option Bool :=
  (((bif (decide ((-1000000000000000)≤p0))then some (decide (p0≤1000000000000000))else some false):Option Bool).bind fun v1=>some v1)
theorem aAJ(p0:Int)(r:Bool)(hF:WY p0=some r):Fun Tryz.prog 184 true [] [cI p0] noHeap (cB r) noHeap:=by
 refine fW Tryz.func184 ?_
 unfold WY at hF
 refine wA rfl (aJ (eV (fun _ _ h=>h) hF (fun v1=>[(2,cB v1)]) (fun v1=>[]) ?_ ?_))
 ·rintro v1 hF
  cases hF
  exact bZ wR
 intro join hF
 refine wD 3 rfl ?_;cases h2:(decide ((-1000000000000000)≤p0))
 ·have hF:=bF' h2 hF;exact QV rfl (join false _ _ hF sw)
 have hF:=bT' h2 hF;exact QV rfl (join (decide (p0≤1000000000000000)) _ _ hF sw)
def rV(p0:ByteArray):Option Bool :=
  some (!decide (p0=p0))
theorem E8(p0:ByteArray)(r:Bool)(hF:rV p0=some r):Fun Tryz.prog 209 true [] [.c (jS p0)] noHeap (cB r) noHeap:=by
 refine fW Tryz.func209 ?_
 unfold rV at hF
 refine wA rfl (wA rfl ?_);cases hF
 exact bZ wR
def oq(p0:ByteArray)(p1:ByteArray):Option Int :=
  ((rV p0).bind fun r1=>((rV p1).bind fun r2=>(bif r1 then(bif r2 then some 0 else some (-1))else(bif r2 then some 1 else(bif (sLt p0 p1)then some (-1)else(bif (!(sLt p0 p1||decide (p0=p1)))then some 1 else some 0))))))
theorem K6(p0:ByteArray)(p1:ByteArray)(r:Int)(hF:oq p0 p1=some r):Fun Tryz.prog 156 true [] [.c (jS p0),.c (jS p1)] noHeap (cI r) noHeap:=by
 refine fW Tryz.func156 ?_
 unfold oq at hF
 refine wA rfl (wC 1 rfl ?_);obtain⟨r1,hr1,hF⟩:=bB hF
 refine rS (dj (E8 _ _ hr1) ⟨rfl,trivial⟩ rfl (.inl rfl) (QV rfl (wC 1 rfl ?_)));obtain⟨r2,hr2,hF⟩:=bB hF
 refine rS (dj (E8 _ _ hr2) ⟨rfl,trivial⟩ rfl (.inl rfl) (QV rfl (aJ (wA rfl (wIf hF rfl (fun _ hF=>?_) fun _ hF=>?_)))))
 ·refine aJ (wA rfl (wIf hF rfl (fun _ hF=>?_) fun _ hF=>?_))
  ·refine wA rfl ?_;cases hF
   exact bZ wR
  refine aW (wA rfl ?_);cases hF
  exact bZ wR
 refine aW (aJ (wA rfl (wIf hF rfl (fun _ hF=>?_) fun _ hF=>?_)))
 ·refine wA rfl ?_;cases hF
  exact bZ wR
 refine aW (aJ (wA rfl (wIf hF rfl (fun _ hF=>?_) fun _ hF=>?_)))
 ·refine wA rfl ?_;cases hF
  exact bZ wR
 refine aW (aJ (wA rfl (wIf hF rfl (fun _ hF=>?_) fun _ hF=>?_)))
 ·refine wA rfl ?_;cases hF
  exact bZ wR
 refine aW (wA rfl ?_);cases hF
 exact bZ wR
def rQ(p0:bJ)(p1:bJ):Option Int :=
  ((oq p0.q7 p1.q7).bind fun r1=>((jJ p0.j9 p1.j9).bind fun r2=>((vK [r1,r2]).bind fun r3=>some r3)))
theorem R6(p0:bJ)(p1:bJ)(r:Int)(hF:rQ p0 p1=some r):Fun Tryz.prog 87 true [] [.agg (KJ p0),.agg (KJ p1)] noHeap (cI r) noHeap:=by
 refine fW Tryz.func87 ?_
 unfold rQ at hF
 refine wA rfl (aJ (n4 (by decide) (by kernel_rfl) rfl (bq SP 4 rfl ?_)));obtain⟨r1,hr1,hF⟩:=bB hF
 refine bz SP trivial (dj (K6 _ _ _ hr1) ⟨rfl,rfl,trivial⟩ rfl (.inl rfl) (bq SP 4 rfl ?_));obtain⟨r2,hr2,hF⟩:=bB hF
 refine bz SP trivial (dj (nj _ _ _ hr2) ⟨rfl,rfl,trivial⟩ rfl (.inl rfl) ?_);refine bz SP trivial (L7 (tc:=u4) [r1,r2] rfl ⟨rfl,rfl,trivial⟩ rfl (fun _=>rfl) rfl ?_)
 obtain⟨r3,hr3,hF⟩:=bB hF
 refine bz SP trivial (dj (G4 _ _ hr3) ⟨⟨_,rfl⟩,trivial⟩ rfl (.inl rfl) (QP rfl ?_));cases hF
 exact bZ wR
def rZ(p0:(List bJ)):Int→Option (Int ⊕ (Unit ⊕ Int)):=fun a40 =>
  (bif (decide (a40<(List.length p0:Int)))then((idx p0 a40).bind fun y59=>((rz y59.q7).bind fun r60=>(bif (!decide (r60=0))then some (.inr (.inr r60))else(((bif (decide (y59.j9<0))then some true else(bif (decide (1000000000000<y59.j9))then some true else((WY y59.j6).bind fun r74=>some (!r74)))):Option Bool).bind fun v61=>(bif v61 then some (.inr (.inr 2))else(((bif (decide (0<a40))then((idx p0 (w64 (a40-1))).bind fun y65=>((rQ y65 y59).bind fun r66=>(bif (decide (0≤r66))then some true else((idx p0 (w64 (a40-1))).bind fun y68=>(bif (decide (y68.q7=y59.q7))then((idx p0 (w64 (a40-1))).bind fun y70=>some (decide (y70.j6=y59.j6)))else some false)))))else some false):Option Bool).bind fun v62=>(bif v62 then some (.inr (.inr 11))else some (.inl (w64 (a40+1))))))))))else some (.inr (.inl ())))
def oY(p0:(List bJ)):Option Int :=
  ((loop (rZ p0) 0).bind fun | .inl _=>some 0 | .inr rv=>some rv)
theorem UY(p0:(List bJ))(r:Int)(hF:oY p0=some r):Fun Tryz.prog 120 true [] [cL 3 c5 p0] noHeap (cI r) noHeap:=by
 refine fW Tryz.func120 ?_
 unfold oY at hF
 refine wA rfl (aJ (wC 1 rfl (rS (fQ (tc:=c5) p0 .tree (QV rfl (kq (fun _ _ h=>h) hF (.inl) (fun a40=>[(0,cL 3 c5 p0),(6,cL 3 c5 p0),(7,cI (List.length p0:Int)),(8,cI a40)]) (fun a40=>[]) (fun _=>[]) (fun _=>[]) sw ?_ ?_))))))
 ·rintro⟨⟩ hF
  refine wA rfl ?_;cases hF
  exact bZ wR
 rintro a40 x_0 hF cont_0 brk_0 fin_0
 unfold rZ at hF
 refine wA rfl (aJ (wIf hF rfl (fun _ hF=>?_) fun _ hF=>?_))
 ·refine aW (aJ (dV (wC 1 rfl ?_)));obtain⟨y59,hy59,hF⟩:=bB hF
  refine rS (i8 (tc:=c5) p0 rfl rfl hy59 (QV rfl (aJ (wC 2 rfl ?_))));obtain⟨r60,hr60,hF⟩:=bB hF
  refine rS (dj (B1 _ _ hr60) ⟨rfl,trivial⟩ rfl (.inl rfl) (QV rfl (wA rfl (wIf hF rfl (fun _ hF=>?_) fun _ hF=>?_))))
  ·refine wA rfl ?_;have hF:=fin_0 _ (oi hF);cases hF
   exact bZ wR
  refine aW (aJ (aJ (eV (fun _ _ h=>h) hF (fun v61=>[(0,cL 3 c5 p0),(3,cI a40),(4,cP (4,0) 0),(6,cL 3 c5 p0),(7,cI (List.length p0:Int)),(8,cI a40),(32,cB v61)]) (fun v61=>[((4,0),.box (KJ y59))]) ?_ ?_)))
  ·rintro v61 hF
   refine wIf hF rfl (fun _ hF=>?_) fun _ hF=>?_
   ·refine wA rfl ?_;have hF:=fin_0 _ (oi hF);cases hF
    exact bZ wR
   refine aW (aJ (eV (fun _ _ h=>h) hF (fun v62=>[(0,cL 3 c5 p0),(6,cL 3 c5 p0),(7,cI (List.length p0:Int)),(8,cI a40),(66,cB v62)]) (fun v62=>[]) ?_ ?_))
   ·rintro v62 hF
    refine wIf hF rfl (fun _ hF=>?_) fun _ hF=>?_
    ·refine wA rfl ?_;have hF:=fin_0 _ (oi hF);cases hF
     exact bZ wR
    exact aW (wB rfl (cont_0 _ _ _ (oi hF) sw))
   intro join hF
   refine n4 (by decide) (by kernel_rfl) rfl (bq SP 3 rfl ?_);cases h64:(decide (0<a40))
   ·have hF:=bF' h64 hF;exact QP rfl (join false _ _ hF sw)
   have hF:=bT' h64 hF;refine bq SP 3 rfl ?_;obtain⟨y65,hy65,hF⟩:=bB' hF
   refine bz SP rfl (i8 (tc:=c5) p0 rfl rfl hy65 (bq SP 2 rfl ?_));obtain⟨r66,hr66,hF⟩:=bB' hF
   refine bz SP rfl (dj (R6 _ _ _ hr66) ⟨⟨rfl,rfl,rfl,trivial⟩,⟨rfl,rfl,rfl,trivial⟩,trivial⟩ rfl (.inl rfl) (bq SP 2 rfl ?_));cases h67:(decide (0≤r66))
   ·have hF:=bF' h67 hF;refine bq SP 3 rfl ?_;obtain⟨y68,hy68,hF⟩:=bB' hF
    refine bz SP rfl (i8 (tc:=c5) p0 rfl rfl hy68 (bq SP 6 rfl ?_));cases h69:(decide (y68.q7=y59.q7))
    ·have hF:=bF' h69 hF;exact QP rfl (join false _ _ hF sw)
    have hF:=bT' h69 hF;refine bq SP 3 rfl ?_;obtain⟨y70,hy70,hF⟩:=bB' hF
    exact bz SP rfl (i8 (tc:=c5) p0 rfl rfl hy70 (QP rfl (join (decide (y70.j6=y59.j6)) _ _ hF sw)))
   have hF:=bT' h67 hF;exact QP rfl (join true _ _ hF sw)
  intro join hF
  refine wD 4 rfl ?_;cases h72:(decide (y59.j9<0))
  ·have hF:=bF' h72 hF;refine bq SV 5 rfl ?_;cases h73:(decide (1000000000000<y59.j9))
   ·have hF:=bF' h73 hF;refine bq SV 2 rfl ?_;obtain⟨r74,hr74,hF⟩:=bB' hF
    exact bz SV rfl (dj (aAJ _ _ hr74) ⟨rfl,trivial⟩ rfl (.inl rfl) (QV rfl (join (!r74) _ _ hF sw)))
   have hF:=bT' h73 hF;exact QV rfl (join true _ _ hF sw)
  have hF:=bT' h72 hF;exact QV rfl (join true _ _ hF sw)
 exact fZ (aZ (aZ (cj (brk_0 _ _ _ (oi hF) sw))))
def sW(y143:cz)(y147:(List cz)):Int→Option (Int ⊕ (Unit ⊕ (Int ⊕ (Unit ⊕ Int)))):=fun a163 =>
  (bif (decide (a163<(List.length y147:Int)))then((idx y147 a163).bind fun y170=>(((bif (decide (y170.x6=y143.x6))then(bif (decide (y170.q0.q5<y143.q0.q8))then some (decide (y143.q0.q5<y170.q0.q8))else some false)else some false):Option Bool).bind fun v171=>(bif v171 then some (.inr (.inr (.inr (.inr 4))))else some (.inl (w64 (a163+1))))))else some (.inr (.inl ())))
def wV(p0:(List cz)):Int→Option (Int ⊕ (Unit ⊕ Int)):=fun a96 =>
  (bif (decide (a96<(List.length p0:Int)))then((idx p0 a96).bind fun y143=>(((bif (decide (y143.x6<0))then some true else(bif (decide (1000000000000000<y143.x6))then some true else(bif (decide (y143.q6<0))then some true else(bif (decide (1000000000000000<y143.q6))then some true else(bif (decide (y143.x5<1))then some true else(bif (decide (1000000000000<y143.x5))then some true else((lz y143.q0).bind fun r187=>some (!r187)))))))):Option Bool).bind fun v144=>(bif v144 then some (.inr (.inr 2))else((qW y143.j4).bind fun r145=>(bif (!decide (r145=0))then some (.inr (.inr r145))else(((bif (decide (0<a96))then((idx p0 (w64 (a96-1))).bind fun y178=>some (decide (y143.q0.q5<y178.q0.q5)))else some false):Option Bool).bind fun v146=>(bif v146 then some (.inr (.inr 11))else((N2 p0 0 a96).bind fun y147=>((loop (sW y143 y147) 0).bind fun | .inl _=>some (.inl (w64 (a96+1))) | .inr rv=>some rv)))))))))else some (.inr (.inl ())))
def vX(p0:(List cz)):Option Int :=
  ((loop (wV p0) 0).bind fun | .inl _=>some 0 | .inr rv=>some rv)
theorem VJ(p0:(List cz))(r:Int)(hF:vX p0=some r):Fun Tryz.prog 122 true [] [cL 7 cq p0] noHeap (cI r) noHeap:=by
 refine fW Tryz.func122 ?_
 unfold vX at hF
 refine wA rfl (aJ (wC 1 rfl (rS (fQ (tc:=cq) p0 .tree (QV rfl (kq (fun _ _ h=>h) hF (.inl) (fun a96=>[(0,cL 7 cq p0),(8,cL 7 cq p0),(9,cI (List.length p0:Int)),(10,cI a96)]) (fun a96=>[]) (fun _=>[]) (fun _=>[]) sw ?_ ?_))))))
 ·rintro⟨⟩ hF
  refine wA rfl ?_;cases hF
  exact bZ wR
 rintro a96 x_0 hF cont_0 brk_0 fin_0
 unfold wV at hF
 refine wA rfl (aJ (wIf hF rfl (fun _ hF=>?_) fun _ hF=>?_))
 ·refine aW (aJ (dV (wC 1 rfl ?_)));obtain⟨y143,hy143,hF⟩:=bB hF
  refine rS (i8 (tc:=cq) p0 rfl rfl hy143 (QV rfl (aJ (aJ (eV (fun _ _ h=>h) hF (fun v144=>[(0,cL 7 cq p0),(3,cI a96),(4,cP (4,0) 0),(8,cL 7 cq p0),(9,cI (List.length p0:Int)),(10,cI a96),(48,cB v144)]) (fun v144=>[((4,0),.box (rj y143))]) ?_ ?_)))))
  ·rintro v144 hF
   refine wIf hF rfl (fun _ hF=>?_) fun _ hF=>?_
   ·refine wA rfl ?_;have hF:=fin_0 _ (oi hF);cases hF
    exact bZ wR
   refine aW (aJ (wC 2 rfl ?_));obtain⟨r145,hr145,hF⟩:=bB hF
   refine rS (dj (IQ _ _ hr145) ⟨rfl,trivial⟩ rfl (.inl rfl) (QV rfl (wA rfl (wIf hF rfl (fun _ hF=>?_) fun _ hF=>?_))))
   ·refine wA rfl ?_;have hF:=fin_0 _ (oi hF);cases hF
    exact bZ wR
   refine aW (aJ (aJ (eV (fun _ _ h=>h) hF (fun v146=>[(0,cL 7 cq p0),(3,cI a96),(4,cP (4,0) 0),(8,cL 7 cq p0),(9,cI (List.length p0:Int)),(10,cI a96),(69,cB v146)]) (fun v146=>[((4,0),.box (rj y143))]) ?_ ?_)))
   ·rintro v146 hF
    refine wIf hF rfl (fun _ hF=>?_) fun _ hF=>?_
    ·refine wA rfl ?_;have hF:=fin_0 _ (oi hF);cases hF
     exact bZ wR
    refine aW (wC 2 rfl ?_);obtain⟨y147,hy147,hF⟩:=bB hF
    refine rS (bbW (tc:=cq) p0 rfl rfl rfl hy147 (rS (fQ (tc:=cq) y147 .tree (QV rfl (kq (fun _ _ h=>h) hF (.inl) (fun a163=>[(0,cL 7 cq p0),(4,cP (4,0) 0),(8,cL 7 cq p0),(9,cI (List.length p0:Int)),(10,cI a96),(72,cL 7 cq y147),(73,cI (List.length y147:Int)),(74,cI a163)]) (fun a163=>[((4,0),.box (rj y143))]) (fun _=>[(0,cL 7 cq p0),(8,cL 7 cq p0),(9,cI (List.length p0:Int)),(10,cI a96)]) (fun _=>[]) sw ?_ ?_)))))
    ·rintro⟨⟩ hF
     exact wB rfl (cont_0 _ _ _ (oi hF) sw)
    rintro a163 x_1 hF cont_1 brk_1 fin_1
    unfold sW at hF
    refine wA rfl (aJ (wIf hF rfl (fun _ hF=>?_) fun _ hF=>?_))
    ·refine aW (aJ (dV (wE ?_)));obtain⟨y170,hy170,hF⟩:=bB hF
     refine rS (i8 (tc:=cq) y147 rfl rfl hy170 (QV rfl (aJ (eV (fun _ _ h=>h) hF (fun v171=>[(0,cL 7 cq p0),(4,cP (4,0) 0),(8,cL 7 cq p0),(9,cI (List.length p0:Int)),(10,cI a96),(72,cL 7 cq y147),(73,cI (List.length y147:Int)),(74,cI a163),(100,cB v171)]) (fun v171=>[((4,0),.box (rj y143))]) ?_ ?_))))
     ·rintro v171 hF
      refine wIf hF rfl (fun _ hF=>?_) fun _ hF=>?_
      ·refine wA rfl ?_;have hF:=fin_1 _ (oi hF);have hF:=fin_0 _ (oi hF);cases hF
       exact bZ wR
      exact aW (wB rfl (cont_1 _ _ _ (oi hF) sw))
     intro join hF
     refine wD 6 rfl ?_;cases h173:(decide (y170.x6=y143.x6))
     ·have hF:=bF' h173 hF;exact QV rfl (join false _ _ hF sw)
     have hF:=bT' h173 hF;refine bq SV 9 rfl ?_;cases h174:(decide (y170.q0.q5<y143.q0.q8))
     ·have hF:=bF' h174 hF;exact QV rfl (join false _ _ hF sw)
     have hF:=bT' h174 hF;exact QV rfl (join (decide (y143.q0.q5<y170.q0.q8)) _ _ hF sw)
    exact fZ (aZ (aZ (cj (brk_1 _ _ _ (oi hF) sw))))
   intro join hF
   refine n4 (by decide) (by kernel_rfl) rfl (bq SP 3 rfl ?_);cases h177:(decide (0<a96))
   ·have hF:=bF' h177 hF;exact QP rfl (join false _ _ hF sw)
   have hF:=bT' h177 hF;refine bq SP 6 rfl ?_;obtain⟨y178,hy178,hF⟩:=bB' hF
   exact bz SP rfl (i8 (tc:=cq) p0 rfl rfl hy178 (QP rfl (join (decide (y143.q0.q5<y178.q0.q5)) _ _ hF sw)))
  intro join hF
  refine wD 4 rfl ?_;cases h181:(decide (y143.x6<0))
  ·have hF:=bF' h181 hF;refine bq SV 5 rfl ?_;cases h182:(decide (1000000000000000<y143.x6))
   ·have hF:=bF' h182 hF;refine bq SV 5 rfl ?_;cases h183:(decide (y143.q6<0))
    ·have hF:=bF' h183 hF;refine bq SV 5 rfl ?_;cases h184:(decide (1000000000000000<y143.q6))
     ·have hF:=bF' h184 hF;refine bq SV 5 rfl ?_;cases h185:(decide (y143.x5<1))
      ·have hF:=bF' h185 hF;refine bq SV 5 rfl ?_;cases h186:(decide (1000000000000<y143.x5))
       ·have hF:=bF' h186 hF;refine bq SV 2 rfl ?_;obtain⟨r187,hr187,hF⟩:=bB' hF
        exact bz SV rfl (dj (s8 _ _ hr187) ⟨⟨rfl,rfl,trivial⟩,trivial⟩ rfl (.inl rfl) (QV rfl (join (!r187) _ _ hF sw)))
       have hF:=bT' h186 hF;exact QV rfl (join true _ _ hF sw)
      have hF:=bT' h185 hF;exact QV rfl (join true _ _ hF sw)
     have hF:=bT' h184 hF;exact QV rfl (join true _ _ hF sw)
    have hF:=bT' h183 hF;exact QV rfl (join true _ _ hF sw)
   have hF:=bT' h182 hF;exact QV rfl (join true _ _ hF sw)
  have hF:=bT' h181 hF;exact QV rfl (join true _ _ hF sw)
 exact fZ (aZ (aZ (cj (brk_0 _ _ _ (oi hF) sw))))
def zX(p0:cz):Option Int :=
  some p0.q6
theorem Rx(p0:cz)(r:Int)(hF:zX p0=some r):Fun Tryz.prog 123 true [] [.agg (rj p0)] noHeap (cI r) noHeap:=by
 refine fW Tryz.func123 ?_
 unfold zX at hF
 refine wA rfl (wA rfl ?_);cases hF
 exact bZ wR
def mZ(p1:(List (Int×ByteArray)))(p2:(List cz)):Int→Option (Int ⊕ (Unit ⊕ Int)):=fun a12 =>
  (bif (decide (a12<(List.length p2:Int)))then((idx p2 a12).bind fun y17=>((zX y17).bind fun r18=>(bif (!(Option.isSome (nY r18 p1)))then some (.inr (.inr 5))else some (.inl (w64 (a12+1))))))else some (.inr (.inl ())))
def jK(p0:Int)(p1:(List (Int×ByteArray)))(p2:(List cz)):Option Int :=
  (bif (!decide (p0=0))then some p0 else((loop (mZ p1 p2) 0).bind fun | .inl _=>some 0 | .inr rv=>some rv))
theorem FZ(p0:Int)(p1:(List (Int×ByteArray)))(p2:(List cz))(r:Int)(hF:jK p0 p1 p2=some r):Fun Tryz.prog 121 false [(5840,0)] [cI p0,cM (5840,0),cL 7 cq p2,.c (.fn 123 [])] (aQ [((5840,0),o7 (.int .i64) kvI vvS p1)]) (cI r) (aQ [((5840,0),o7 (.int .i64) kvI vvS p1)]):=by
 refine fM [(5840,0)] (some [(5840,0)]) Tryz.func121 ?_
 unfold jK at hF
 refine wA rfl (aJ (wA rfl (wIf hF rfl (fun _ hF=>?_) fun _ hF=>?_)))
 ·refine wA rfl ?_;cases hF
  exact bZ ⟨_,_,e9,_,rfl,rfl,⟨rfl,fun _=>rfl⟩,(AgM.weak ⟨rfl,trivial⟩)⟩
 refine aW (aJ (wC 1 rfl (rS (fQ (tc:=cq) p2 .tree (QV rfl (kq (fun _ _ h=>h) hF (.inl) (fun a12=>[(1,cM (5840,0)),(3,.c (.fn 123 [])),(16,cL 7 cq p2),(17,cI (List.length p2:Int)),(18,cI a12)]) (fun a12=>[((5840,0),o7 (.int .i64) kvI vvS p1)]) (fun _=>[]) (fun _=>[((5840,0),o7 (.int .i64) kvI vvS p1)]) sw ?_ ?_))))))
 ·rintro⟨⟩ hF
  refine wA rfl ?_;cases hF
  exact bZ ⟨_,_,e9,_,rfl,rfl,⟨rfl,fun _=>rfl⟩,(AgM.weak ⟨rfl,trivial⟩)⟩
 rintro a12 x_0 hF cont_0 brk_0 fin_0
 unfold mZ at hF
 refine wA rfl (aJ (wIf hF rfl (fun _ hF=>?_) fun _ hF=>?_))
 ·refine aW (aJ (dV (wE ?_)));obtain⟨y17,hy17,hF⟩:=bB hF
  refine rS (i8 (tc:=cq) p2 rfl rfl hy17 (QV rfl (wC 3 rfl ?_)));obtain⟨r18,hr18,hF⟩:=bB hF
  refine jX trivial (Ej (E6 _ rfl a2K) (Rx _ _ hr18) ⟨⟨rfl,rfl,rfl,rfl,rfl,rfl,rfl,trivial⟩,trivial⟩ rfl (.inl rfl) (rS (H3 (aeZ .i64) (vv:=vvS) p1 r18 (⟨#[]⟩ : ByteArray) (.own _ rfl) rfl rfl (QV rfl (wA rfl (wIf hF rfl (fun _ hF=>?_) fun _ hF=>?_))))))
  ·refine wA rfl ?_;have hF:=fin_0 _ (oi hF);cases hF
   exact bZ ⟨_,_,e9,_,rfl,rfl,⟨rfl,fun _=>rfl⟩,(AgM.weak ⟨rfl,trivial⟩)⟩
  exact aW (wB rfl (cont_0 _ _ _ (oi hF) sw))
 exact fZ (aZ (aZ (cj (brk_0 _ _ _ (oi hF) sw))))
def sj(p0:(List (Int×ByteArray)))(p1:(List fJ)):Int→Option (Int ⊕ (Unit ⊕ Int)):=fun a20 =>
  (bif (decide (a20<(List.length p1:Int)))then((idx p1 a20).bind fun y29=>(bif (!(Option.isSome (nY y29.q6 p0)))then some (.inr (.inr 5))else((((lz y29.q0).bind fun r32=>(bif (!r32)then some true else(bif (decide (y29.w6<1))then some true else some (decide (1000000000000000<y29.w6))))):Option Bool).bind fun v30=>(bif v30 then some (.inr (.inr 2))else some (.inl (w64 (a20+1)))))))else some (.inr (.inl ())))
def qj(p0:(List (Int×ByteArray)))(p1:(List fJ)):Option Int :=
  ((loop (sj p0 p1) 0).bind fun | .inl _=>some 0 | .inr rv=>some rv)
theorem Px(p0:(List (Int×ByteArray)))(p1:(List fJ))(r:Int)(hF:qj p0 p1=some r):Fun Tryz.prog 124 false [(5960,0)] [cM (5960,0),cL 4 fj p1] (aQ [((5960,0),o7 (.int .i64) kvI vvS p0)]) (cI r) (aQ [((5960,0),o7 (.int .i64) kvI vvS p0)]):=by
 refine fM [(5960,0)] (some [(5960,0)]) Tryz.func124 ?_
 unfold qj at hF
 refine wA rfl (aJ (wC 1 rfl (rS (fQ (tc:=fj) p1 .tree (QV rfl (kq (fun _ _ h=>h) hF (.inl) (fun a20=>[(0,cM (5960,0)),(9,cL 4 fj p1),(10,cI (List.length p1:Int)),(11,cI a20)]) (fun a20=>[((5960,0),o7 (.int .i64) kvI vvS p0)]) (fun _=>[]) (fun _=>[((5960,0),o7 (.int .i64) kvI vvS p0)]) sw ?_ ?_))))))
 ·rintro⟨⟩ hF
  refine wA rfl ?_;cases hF
  exact bZ ⟨_,_,e9,_,rfl,rfl,⟨rfl,fun _=>rfl⟩,(AgM.weak ⟨rfl,trivial⟩)⟩
 rintro a20 x_0 hF cont_0 brk_0 fin_0
 unfold sj at hF
 refine wA rfl (aJ (wIf hF rfl (fun _ hF=>?_) fun _ hF=>?_))
 ·refine aW (aJ (dV (wE ?_)));obtain⟨y29,hy29,hF⟩:=bB hF
  refine rS (i8 (tc:=fj) p1 rfl rfl hy29 (QV rfl (aJ (wC 3 rfl (rS (H3 (aeZ .i64) (vv:=vvS) p0 y29.q6 (⟨#[]⟩ : ByteArray) (.own _ rfl) rfl rfl (QV rfl (wA rfl (wIf hF rfl (fun _ hF=>?_) fun _ hF=>?_)))))))))
  ·refine wA rfl ?_;have hF:=fin_0 _ (oi hF);cases hF
   exact bZ ⟨_,_,e9,_,rfl,rfl,⟨rfl,fun _=>rfl⟩,(AgM.weak ⟨rfl,trivial⟩)⟩
  refine aW (aJ (eV (fun _ _ h=>h) hF (fun v30=>[(0,cM (5960,0)),(9,cL 4 fj p1),(10,cI (List.length p1:Int)),(11,cI a20),(37,cB v30)]) (fun v30=>[((5960,0),o7 (.int .i64) kvI vvS p0)]) ?_ ?_))
  ·rintro v30 hF
   refine wIf hF rfl (fun _ hF=>?_) fun _ hF=>?_
   ·refine wA rfl ?_;have hF:=fin_0 _ (oi hF);cases hF
    exact bZ ⟨_,_,e9,_,rfl,rfl,⟨rfl,fun _=>rfl⟩,(AgM.weak ⟨rfl,trivial⟩)⟩
   exact aW (wB rfl (cont_0 _ _ _ (oi hF) sw))
  intro join hF
  refine wD 2 rfl ?_;obtain⟨r32,hr32,hF⟩:=bB' hF
  refine rS (dj (s8 _ _ hr32) ⟨⟨rfl,rfl,trivial⟩,trivial⟩ rfl (.inl rfl) (bq SV 2 rfl ?_));cases h33:(!r32)
  ·have hF:=bF' h33 hF;refine bq SV 5 rfl ?_;cases h34:(decide (y29.w6<1))
   ·have hF:=bF' h34 hF;exact QV rfl (join (decide (1000000000000000<y29.w6)) _ _ hF sw)
   have hF:=bT' h34 hF;exact QV rfl (join true _ _ hF sw)
  have hF:=bT' h33 hF;exact QV rfl (join true _ _ hF sw)
 exact fZ (aZ (aZ (cj (brk_0 _ _ _ (oi hF) sw))))
def tx(p0:cW):Option Int :=
  ((m8 p0).bind fun | .inl r1_0=>(bif (!decide (r1_0.2=0))then some r1_0.2 else((o4 p0.z6).bind fun r2=>none)) | .inr r1_1=>(bif (!decide (r1_1.2=0))then some r1_1.2 else((o4 p0.z6).bind fun r4=>((iQ r4 r1_1.1 p0.z6).bind fun r5=>(bif (!decide (r5=0))then some r5 else((vQ p0.z3 p0.j7).bind fun r6=>(bif (!decide (r6=0))then some r6 else((Cq p0.v9).bind fun r7=>((kJ r7 r1_1.1 p0.v9).bind fun r8=>((kj r8 r1_1.1 p0.v9).bind fun r9=>(bif (!decide (r9=0))then some r9 else((wZ p0.z9).bind fun r10=>((jZ r10 r1_1.1 p0.z9).bind fun r11=>(bif (!decide (r11=0))then some r11 else((oY p0.w4).bind fun r12=>(bif (!decide (r12=0))then some r12 else((vX p0.j5).bind fun r13=>((jK r13 r1_1.1 p0.j5).bind fun r14=>(bif (!decide (r14=0))then some r14 else((qj r1_1.1 p0.x4).bind fun r15=>some r15))))))))))))))))))))
theorem WK(p0:cW)(r:Int)(hF:tx p0=some r):Fun Tryz.prog 39 true [] [.agg (nJ p0)] noHeap (cI r) noHeap:=by
 refine fW Tryz.func39 ?_
 unfold tx at hF
 refine wA rfl (wC 1 rfl ?_);obtain⟨r1,hr1,hF⟩:=bB hF
 rcases r1 with r1_0 | r1_1
 ·refine jX trivial (n8 [] rfl (xJ _) (Ix _ _ hr1) trivial ⟨.inr ⟨rfl,rfl,rfl,rfl,rfl,rfl,rfl,rfl,rfl,rfl,trivial⟩,trivial⟩ rfl rfl rfl ?_);refine QV rfl (aJ (wA rfl (wIf hF rfl (fun _ hF=>?_) fun _ hF=>?_)))
  ·refine wA rfl ?_;cases hF
   exact bZ wR
  refine aW (aJ (aJ (n4 (by decide) (by kernel_rfl) rfl (bq SP 2 rfl ?_))));obtain⟨r2,hr2,hF⟩:=bB hF
  refine bz SP trivial (dj (L3 _ _ hr2) ⟨rfl,trivial⟩ rfl (.inl rfl) (bq SP 3 rfl ?_));simp at hF
 refine jX trivial (n8 [((902,4320),(13,1))] rfl (xJ _) (Ix _ _ hr1) trivial ⟨.inr ⟨rfl,rfl,rfl,rfl,rfl,rfl,rfl,rfl,rfl,rfl,trivial⟩,trivial⟩ rfl rfl rfl ?_);refine QV rfl (aJ (wA rfl (wIf hF rfl (fun _ hF=>?_) fun _ hF=>?_)))
 ·refine wA rfl ?_;cases hF
  exact bZ wR
 refine aW (aJ (aJ (n4 (by decide) (by kernel_rfl) rfl (bq SP 2 rfl ?_))));obtain⟨r4,hr4,hF⟩:=bB hF
 refine bz SP trivial (dj (L3 _ _ hr4) ⟨rfl,trivial⟩ rfl (.inl rfl) (bq SP 3 rfl ?_));obtain⟨r5,hr5,hF⟩:=bB hF
 refine bz SP trivial (qx [((5360,0),(13,1))] rfl (FV _ _ _ _ hr5) ⟨rfl,trivial⟩ rfl rfl (.inr ⟨.inl rfl,.inl rfl,.inl rfl,.inl rfl,trivial⟩) (QP rfl (wA rfl (wIf hF rfl (fun _ hF=>?_) fun _ hF=>?_))))
 ·refine wA rfl ?_;cases hF
  exact bZ wR
 refine aW (aJ (wC 4 rfl ?_));obtain⟨r6,hr6,hF⟩:=bB hF
 refine rS (dj (Zx _ _ _ hr6) ⟨rfl,rfl,trivial⟩ rfl (.inl rfl) (QV rfl (wA rfl (wIf hF rfl (fun _ hF=>?_) fun _ hF=>?_))))
 ·refine wA rfl ?_;cases hF
  exact bZ wR
 refine aW (aJ (n4 (by decide) (by kernel_rfl) rfl (bq SP 2 rfl ?_)));obtain⟨r7,hr7,hF⟩:=bB hF
 refine bz SP trivial (dj (agx _ _ hr7) ⟨rfl,trivial⟩ rfl (.inl rfl) (bq SP 3 rfl ?_));obtain⟨r8,hr8,hF⟩:=bB hF
 refine bz SP trivial (qx [((5520,0),(13,1))] rfl (GZ _ _ _ _ hr8) ⟨rfl,trivial⟩ rfl rfl (.inr ⟨.inl rfl,.inl rfl,.inl rfl,.inl rfl,trivial⟩) (QP rfl (aJ (wC 4 rfl ?_))));obtain⟨r9,hr9,hF⟩:=bB hF
 refine rS (qx [((5520,0),(13,1))] rfl (F2 _ _ _ _ hr9) ⟨rfl,trivial⟩ rfl rfl (.inr ⟨.inl rfl,.inl rfl,.inl rfl,.inl rfl,trivial⟩) (QV rfl (wA rfl (wIf hF rfl (fun _ hF=>?_) fun _ hF=>?_))))
 ·refine wA rfl ?_;cases hF
  exact bZ wR
 refine aW (aJ (aJ (n4 (by decide) (by kernel_rfl) rfl (bq SP 2 rfl ?_))));obtain⟨r10,hr10,hF⟩:=bB hF
 refine bz SP trivial (dj (V6 _ _ hr10) ⟨rfl,trivial⟩ rfl (.inl rfl) (bq SP 3 rfl ?_));obtain⟨r11,hr11,hF⟩:=bB hF
 refine bz SP trivial (qx [((5680,0),(13,1))] rfl (Fx _ _ _ _ hr11) ⟨rfl,trivial⟩ rfl rfl (.inr ⟨.inl rfl,.inl rfl,.inl rfl,.inl rfl,trivial⟩) (QP rfl (wA rfl (wIf hF rfl (fun _ hF=>?_) fun _ hF=>?_))))
 ·refine wA rfl ?_;cases hF
  exact bZ wR
 refine aW (aJ (wC 2 rfl ?_));obtain⟨r12,hr12,hF⟩:=bB hF
 refine rS (dj (UY _ _ hr12) ⟨rfl,trivial⟩ rfl (.inl rfl) (QV rfl (wA rfl (wIf hF rfl (fun _ hF=>?_) fun _ hF=>?_))))
 ·refine wA rfl ?_;cases hF
  exact bZ wR
 refine aW (aJ (aJ (n4 (by decide) (by kernel_rfl) rfl (bq SP 2 rfl ?_))));obtain⟨r13,hr13,hF⟩:=bB hF
 refine bz SP trivial (dj (VJ _ _ hr13) ⟨rfl,trivial⟩ rfl (.inl rfl) (bq SP 3 rfl ?_));obtain⟨r14,hr14,hF⟩:=bB hF
 refine bz SP trivial (qx [((5840,0),(13,1))] rfl (FZ _ _ _ _ hr14) ⟨rfl,trivial⟩ rfl rfl (.inr ⟨.inl rfl,.inl rfl,.inl rfl,.inl rfl,trivial⟩) (QP rfl (wA rfl (wIf hF rfl (fun _ hF=>?_) fun _ hF=>?_))))
 ·refine wA rfl ?_;cases hF
  exact bZ wR
 refine aW (wC 3 rfl ?_);obtain⟨r15,hr15,hF⟩:=bB hF
 refine rS (qx [((5960,0),(13,1))] rfl (Px _ _ _ hr15) ⟨rfl,trivial⟩ rfl rfl (.inr ⟨.inl rfl,.inl rfl,trivial⟩) (QV rfl ?_));cases hF
 exact bZ wR
def qZ(p0:az)(p1:az):Option Bool :=
  (((bif (decide (p1.q5≤p0.q5))then some (decide (p0.q8≤p1.q8))else some false):Option Bool).bind fun v1=>some v1)
theorem EX(p0:az)(p1:az)(r:Bool)(hF:qZ p0 p1=some r):Fun Tryz.prog 127 true [] [.agg [jI p0.q5,jI p0.q8],.agg [jI p1.q5,jI p1.q8]] noHeap (cB r) noHeap:=by
 refine fW Tryz.func127 ?_
 unfold qZ at hF
 refine wA rfl (aJ (eV (fun _ _ h=>h) hF (fun v1=>[(4,cB v1)]) (fun v1=>[]) ?_ ?_))
 ·rintro v1 hF
  cases hF
  exact bZ wR
 intro join hF
 refine wD 6 rfl ?_;cases h2:(decide (p1.q5≤p0.q5))
 ·have hF:=bF' h2 hF;exact QV rfl (join false _ _ hF sw)
 have hF:=bT' h2 hF;exact QV rfl (join (decide (p0.q8≤p1.q8)) _ _ hF sw)
def pZ(p0:aX)(p1:az):Option Bool :=
  ((qZ p0.q0 p1).bind fun r1=>some (!r1))
theorem K4(p0:aX)(p1:az)(r:Bool)(hF:pZ p0 p1=some r):Fun Tryz.prog 126 true [] [.agg (p6 p0),.c (.ptrI [tI p1.q5,tI p1.q8])] noHeap (cB r) noHeap:=by
 refine fW Tryz.func126 ?_
 unfold pZ at hF
 refine wA rfl (wC 3 rfl ?_);obtain⟨r1,hr1,hF⟩:=bB hF
 refine rS (dj (EX _ _ _ hr1) ⟨⟨rfl,rfl,trivial⟩,⟨rfl,rfl,trivial⟩,trivial⟩ rfl (.inl rfl) (QV rfl ?_));cases hF
 exact bZ wR
def gq(p0:(List aX))(p1_0:az):Int→Option (Int ⊕ (Unit ⊕ Int)):=fun a12 =>
  (bif (decide (a12<(List.length p0:Int)))then((idx p0 a12).bind fun y17=>((pZ y17 p1_0).bind fun r18=>(bif r18 then some (.inr (.inr a12))else some (.inl (w64 (a12+1))))))else some (.inr (.inl ())))
def iz(p0:(List aX))(p1_0:az):Option Int :=
  ((loop (gq p0 p1_0) 0).bind fun | .inl _=>some (-1) | .inr rv=>some rv)
theorem vz(p0:(List aX))(p1_0:az)(r:Int)(hF:iz p0 p1_0=some r):Fun Tryz.prog 185 false [(8400,0)] [cL 8 aK p0,.c (.fn 126 [.ptr (8400,0)])] (aQ [((8400,0),.box [jI p1_0.q5,jI p1_0.q8])]) (cI r) (aQ [((8400,0),.box [jI p1_0.q5,jI p1_0.q8])]):=by
 refine fM [(8400,0)] (some [(8400,0)]) Tryz.func185 ?_
 unfold iz at hF
 refine wA rfl (aJ (wC 1 rfl (rS (fQ (tc:=aK) p0 .tree (QV rfl (kq (fun _ _ h=>h) hF (.inl) (fun a12=>[(0,cL 8 aK p0),(1,.c (.fn 126 [.ptr (8400,0)])),(7,cI (List.length p0:Int)),(8,cI a12)]) (fun a12=>[((8400,0),.box [jI p1_0.q5,jI p1_0.q8])]) (fun _=>[]) (fun _=>[((8400,0),.box [jI p1_0.q5,jI p1_0.q8])]) sw ?_ ?_))))))
 ·rintro⟨⟩ hF
  refine wA rfl ?_;cases hF
  exact bZ ⟨_,_,e9,_,rfl,rfl,⟨rfl,fun _=>rfl⟩,(AgM.weak ⟨rfl,trivial⟩)⟩
 rintro a12 x_0 hF cont_0 brk_0 fin_0
 unfold gq at hF
 refine wA rfl (aJ (wIf hF rfl (fun _ hF=>?_) fun _ hF=>?_))
 ·refine aW (aJ (dV (wA rfl (wC 3 rfl ?_))));obtain⟨y17,hy17,hF⟩:=bB hF
  refine rS (i8 (tc:=aK) p0 rfl rfl hy17 (bq SV 1 rfl ?_));obtain⟨r18,hr18,hF⟩:=bB hF
  refine jX trivial (Ej (E6 _ rfl a0q) (K4 _ _ _ hr18) ⟨⟨rfl,rfl,rfl,rfl,rfl,rfl,rfl,rfl,trivial⟩,⟨_,rfl,⟨rfl,rfl,trivial⟩⟩,trivial⟩ rfl (.inl rfl) (QV rfl (wIf hF rfl (fun _ hF=>?_) fun _ hF=>?_)))
  ·refine wA rfl ?_;have hF:=fin_0 _ (oi hF);cases hF
   exact bZ ⟨_,_,e9,_,rfl,rfl,⟨rfl,fun _=>rfl⟩,(AgM.weak ⟨rfl,trivial⟩)⟩
  exact aW (wB rfl (cont_0 _ _ _ (oi hF) sw))
 exact fZ (aZ (aZ (cj (brk_0 _ _ _ (oi hF) sw))))
def d5(p0:(List aX))(p1_0:az):Option Bool :=
  ((iz p0 p1_0).bind fun r1=>some (decide (0≤r1)))
theorem tQ(p0:(List aX))(p1_0:az)(r:Bool)(hF:d5 p0 p1_0=some r):Fun Tryz.prog 125 false [(6000,0)] [cL 8 aK p0,.c (.fn 126 [.ptr (6000,0)])] (aQ [((6000,0),.box [jI p1_0.q5,jI p1_0.q8])]) (cB r) (aQ [((6000,0),.box [jI p1_0.q5,jI p1_0.q8])]):=by
 refine fM [(6000,0)] (some [(6000,0)]) Tryz.func125 ?_
 unfold d5 at hF
 refine wA rfl (wC 2 rfl ?_);obtain⟨r1,hr1,hF⟩:=bB hF
 refine rS (qx [((8400,0),(6000,0))] rfl (vz _ _ _ hr1) ⟨rfl,trivial⟩ rfl rfl (.inr ⟨.inl rfl,.inl rfl,trivial⟩) (QV rfl ?_));cases hF
 exact bZ ⟨_,_,e9,_,rfl,rfl,⟨rfl,fun _=>rfl⟩,(AgM.weak ⟨rfl,trivial⟩)⟩
def pJ(p0:bj)(p1:az):Option Bool :=
  ((qZ p0.q0 p1).bind fun r1=>some (!r1))
theorem KQ(p0:bj)(p1:az)(r:Bool)(hF:pJ p0 p1=some r):Fun Tryz.prog 129 true [] [.agg (o3 p0),.c (.ptrI [tI p1.q5,tI p1.q8])] noHeap (cB r) noHeap:=by
 refine fW Tryz.func129 ?_
 unfold pJ at hF
 refine wA rfl (wC 3 rfl ?_);obtain⟨r1,hr1,hF⟩:=bB hF
 refine rS (dj (EX _ _ _ hr1) ⟨⟨rfl,rfl,trivial⟩,⟨rfl,rfl,trivial⟩,trivial⟩ rfl (.inl rfl) (QV rfl ?_));cases hF
 exact bZ wR
def f9(p0:(List bj))(p1_0:az):Int→Option (Int ⊕ (Unit ⊕ Int)):=fun a12 =>
  (bif (decide (a12<(List.length p0:Int)))then((idx p0 a12).bind fun y17=>((pJ y17 p1_0).bind fun r18=>(bif r18 then some (.inr (.inr a12))else some (.inl (w64 (a12+1))))))else some (.inr (.inl ())))
def ij(p0:(List bj))(p1_0:az):Option Int :=
  ((loop (f9 p0 p1_0) 0).bind fun | .inl _=>some (-1) | .inr rv=>some rv)
theorem u6(p0:(List bj))(p1_0:az)(r:Int)(hF:ij p0 p1_0=some r):Fun Tryz.prog 186 false [(8440,0)] [cL 7 bW p0,.c (.fn 129 [.ptr (8440,0)])] (aQ [((8440,0),.box [jI p1_0.q5,jI p1_0.q8])]) (cI r) (aQ [((8440,0),.box [jI p1_0.q5,jI p1_0.q8])]):=by
 refine fM [(8440,0)] (some [(8440,0)]) Tryz.func186 ?_
 unfold ij at hF
 refine wA rfl (aJ (wC 1 rfl (rS (fQ (tc:=bW) p0 .tree (QV rfl (kq (fun _ _ h=>h) hF (.inl) (fun a12=>[(0,cL 7 bW p0),(1,.c (.fn 129 [.ptr (8440,0)])),(7,cI (List.length p0:Int)),(8,cI a12)]) (fun a12=>[((8440,0),.box [jI p1_0.q5,jI p1_0.q8])]) (fun _=>[]) (fun _=>[((8440,0),.box [jI p1_0.q5,jI p1_0.q8])]) sw ?_ ?_))))))
 ·rintro⟨⟩ hF
  refine wA rfl ?_;cases hF
  exact bZ ⟨_,_,e9,_,rfl,rfl,⟨rfl,fun _=>rfl⟩,(AgM.weak ⟨rfl,trivial⟩)⟩
 rintro a12 x_0 hF cont_0 brk_0 fin_0
 unfold f9 at hF
 refine wA rfl (aJ (wIf hF rfl (fun _ hF=>?_) fun _ hF=>?_))
 ·refine aW (aJ (dV (wA rfl (wC 3 rfl ?_))));obtain⟨y17,hy17,hF⟩:=bB hF
  refine rS (i8 (tc:=bW) p0 rfl rfl hy17 (bq SV 1 rfl ?_));obtain⟨r18,hr18,hF⟩:=bB hF
  refine jX trivial (Ej (E6 _ rfl a2W) (KQ _ _ _ hr18) ⟨⟨rfl,rfl,rfl,rfl,rfl,rfl,rfl,trivial⟩,⟨_,rfl,⟨rfl,rfl,trivial⟩⟩,trivial⟩ rfl (.inl rfl) (QV rfl (wIf hF rfl (fun _ hF=>?_) fun _ hF=>?_)))
  ·refine wA rfl ?_;have hF:=fin_0 _ (oi hF);cases hF
   exact bZ ⟨_,_,e9,_,rfl,rfl,⟨rfl,fun _=>rfl⟩,(AgM.weak ⟨rfl,trivial⟩)⟩
  exact aW (wB rfl (cont_0 _ _ _ (oi hF) sw))
 exact fZ (aZ (aZ (cj (brk_0 _ _ _ (oi hF) sw))))
def dW(p0:(List bj))(p1_0:az):Option Bool :=
  ((ij p0 p1_0).bind fun r1=>some (decide (0≤r1)))
theorem tY(p0:(List bj))(p1_0:az)(r:Bool)(hF:dW p0 p1_0=some r):Fun Tryz.prog 128 false [(6120,0)] [cL 7 bW p0,.c (.fn 129 [.ptr (6120,0)])] (aQ [((6120,0),.box [jI p1_0.q5,jI p1_0.q8])]) (cB r) (aQ [((6120,0),.box [jI p1_0.q5,jI p1_0.q8])]):=by
 refine fM [(6120,0)] (some [(6120,0)]) Tryz.func128 ?_
 unfold dW at hF
 refine wA rfl (wC 2 rfl ?_);obtain⟨r1,hr1,hF⟩:=bB hF
 refine rS (qx [((8440,0),(6120,0))] rfl (u6 _ _ _ hr1) ⟨rfl,trivial⟩ rfl rfl (.inr ⟨.inl rfl,.inl rfl,trivial⟩) (QV rfl ?_));cases hF
 exact bZ ⟨_,_,e9,_,rfl,rfl,⟨rfl,fun _=>rfl⟩,(AgM.weak ⟨rfl,trivial⟩)⟩
def pQ(p0:cz)(p1:az):Option Bool :=
  ((qZ p0.q0 p1).bind fun r1=>some (!r1))
theorem LV(p0:cz)(p1:az)(r:Bool)(hF:pQ p0 p1=some r):Fun Tryz.prog 131 true [] [.agg (rj p0),.c (.ptrI [tI p1.q5,tI p1.q8])] noHeap (cB r) noHeap:=by
 refine fW Tryz.func131 ?_
 unfold pQ at hF
 refine wA rfl (wC 3 rfl ?_);obtain⟨r1,hr1,hF⟩:=bB hF
 refine rS (dj (EX _ _ _ hr1) ⟨⟨rfl,rfl,trivial⟩,⟨rfl,rfl,trivial⟩,trivial⟩ rfl (.inl rfl) (QV rfl ?_));cases hF
 exact bZ wR
def f7(p0:(List cz))(p1_0:az):Int→Option (Int ⊕ (Unit ⊕ Int)):=fun a12 =>
  (bif (decide (a12<(List.length p0:Int)))then((idx p0 a12).bind fun y17=>((pQ y17 p1_0).bind fun r18=>(bif r18 then some (.inr (.inr a12))else some (.inl (w64 (a12+1))))))else some (.inr (.inl ())))
def iq(p0:(List cz))(p1_0:az):Option Int :=
  ((loop (f7 p0 p1_0) 0).bind fun | .inl _=>some (-1) | .inr rv=>some rv)
theorem vj(p0:(List cz))(p1_0:az)(r:Int)(hF:iq p0 p1_0=some r):Fun Tryz.prog 157 false [(7280,0)] [cL 7 cq p0,.c (.fn 131 [.ptr (7280,0)])] (aQ [((7280,0),.box [jI p1_0.q5,jI p1_0.q8])]) (cI r) (aQ [((7280,0),.box [jI p1_0.q5,jI p1_0.q8])]):=by
 refine fM [(7280,0)] (some [(7280,0)]) Tryz.func157 ?_
 unfold iq at hF
 refine wA rfl (aJ (wC 1 rfl (rS (fQ (tc:=cq) p0 .tree (QV rfl (kq (fun _ _ h=>h) hF (.inl) (fun a12=>[(0,cL 7 cq p0),(1,.c (.fn 131 [.ptr (7280,0)])),(7,cI (List.length p0:Int)),(8,cI a12)]) (fun a12=>[((7280,0),.box [jI p1_0.q5,jI p1_0.q8])]) (fun _=>[]) (fun _=>[((7280,0),.box [jI p1_0.q5,jI p1_0.q8])]) sw ?_ ?_))))))
 ·rintro⟨⟩ hF
  refine wA rfl ?_;cases hF
  exact bZ ⟨_,_,e9,_,rfl,rfl,⟨rfl,fun _=>rfl⟩,(AgM.weak ⟨rfl,trivial⟩)⟩
 rintro a12 x_0 hF cont_0 brk_0 fin_0
 unfold f7 at hF
 refine wA rfl (aJ (wIf hF rfl (fun _ hF=>?_) fun _ hF=>?_))
 ·refine aW (aJ (dV (wA rfl (wC 3 rfl ?_))));obtain⟨y17,hy17,hF⟩:=bB hF
  refine rS (i8 (tc:=cq) p0 rfl rfl hy17 (bq SV 1 rfl ?_));obtain⟨r18,hr18,hF⟩:=bB hF
  refine jX trivial (Ej (E6 _ rfl a2Q) (LV _ _ _ hr18) ⟨⟨rfl,rfl,rfl,rfl,rfl,rfl,rfl,trivial⟩,⟨_,rfl,⟨rfl,rfl,trivial⟩⟩,trivial⟩ rfl (.inl rfl) (QV rfl (wIf hF rfl (fun _ hF=>?_) fun _ hF=>?_)))
  ·refine wA rfl ?_;have hF:=fin_0 _ (oi hF);cases hF
   exact bZ ⟨_,_,e9,_,rfl,rfl,⟨rfl,fun _=>rfl⟩,(AgM.weak ⟨rfl,trivial⟩)⟩
  exact aW (wB rfl (cont_0 _ _ _ (oi hF) sw))
 exact fZ (aZ (aZ (cj (brk_0 _ _ _ (oi hF) sw))))
def d0(p0:(List cz))(p1_0:az):Option Bool :=
  ((iq p0 p1_0).bind fun r1=>some (decide (0≤r1)))
theorem tV(p0:(List cz))(p1_0:az)(r:Bool)(hF:d0 p0 p1_0=some r):Fun Tryz.prog 130 false [(6200,0)] [cL 7 cq p0,.c (.fn 131 [.ptr (6200,0)])] (aQ [((6200,0),.box [jI p1_0.q5,jI p1_0.q8])]) (cB r) (aQ [((6200,0),.box [jI p1_0.q5,jI p1_0.q8])]):=by
 refine fM [(6200,0)] (some [(6200,0)]) Tryz.func130 ?_
 unfold d0 at hF
 refine wA rfl (wC 2 rfl ?_);obtain⟨r1,hr1,hF⟩:=bB hF
 refine rS (qx [((7280,0),(6200,0))] rfl (vj _ _ _ hr1) ⟨rfl,trivial⟩ rfl rfl (.inr ⟨.inl rfl,.inl rfl,trivial⟩) (QV rfl ?_));cases hF
 exact bZ ⟨_,_,e9,_,rfl,rfl,⟨rfl,fun _=>rfl⟩,(AgM.weak ⟨rfl,trivial⟩)⟩
def lZ(p0:az)(p1:Int):Option Bool :=
  (((bif (decide (p0.q5≤p1))then some (decide (p1<p0.q8))else some false):Option Bool).bind fun v1=>some v1)
theorem o9(p0:az)(p1:Int)(r:Bool)(hF:lZ p0 p1=some r):Fun Tryz.prog 134 true [] [.agg [jI p0.q5,jI p0.q8],cI p1] noHeap (cB r) noHeap:=by
 refine fW Tryz.func134 ?_
 unfold lZ at hF
 refine wA rfl (aJ (eV (fun _ _ h=>h) hF (fun v1=>[(4,cB v1)]) (fun v1=>[]) ?_ ?_))
 ·rintro v1 hF
  cases hF
  exact bZ wR
 intro join hF
 refine wD 5 rfl ?_;cases h2:(decide (p0.q5≤p1))
 ·have hF:=bF' h2 hF;exact QV rfl (join false _ _ hF sw)
 have hF:=bT' h2 hF;exact QV rfl (join (decide (p1<p0.q8)) _ _ hF sw)
def pV(p0:c7)(p1:az):Option Bool :=
  ((((lZ p1 p0.w9).bind fun r2=>(bif (!r2)then some true else((lZ p1 p0.v8).bind fun r4=>some (!r4)))):Option Bool).bind fun v1=>some v1)
theorem K5(p0:c7)(p1:az)(r:Bool)(hF:pV p0 p1=some r):Fun Tryz.prog 133 true [] [.agg (G1 p0),.c (.ptrI [tI p1.q5,tI p1.q8])] noHeap (cB r) noHeap:=by
 refine fW Tryz.func133 ?_
 unfold pV at hF
 refine wA rfl (aJ (eV (fun _ _ h=>h) hF (fun v1=>[(3,cB v1)]) (fun v1=>[]) ?_ ?_))
 ·rintro v1 hF
  cases hF
  exact bZ wR
 intro join hF
 refine wD 3 rfl ?_;obtain⟨r2,hr2,hF⟩:=bB' hF
 refine rS (dj (o9 _ _ _ hr2) ⟨⟨rfl,rfl,trivial⟩,rfl,trivial⟩ rfl (.inl rfl) (bq SV 2 rfl ?_));cases h3:(!r2)
 ·have hF:=bF' h3 hF;refine bq SV 3 rfl ?_;obtain⟨r4,hr4,hF⟩:=bB' hF
  exact bz SV rfl (dj (o9 _ _ _ hr4) ⟨⟨rfl,rfl,trivial⟩,rfl,trivial⟩ rfl (.inl rfl) (QV rfl (join (!r4) _ _ hF sw)))
 have hF:=bT' h3 hF;exact QV rfl (join true _ _ hF sw)
def gJ(p0:(List c7))(p1_0:az):Int→Option (Int ⊕ (Unit ⊕ Int)):=fun a12 =>
  (bif (decide (a12<(List.length p0:Int)))then((idx p0 a12).bind fun y17=>((pV y17 p1_0).bind fun r18=>(bif r18 then some (.inr (.inr a12))else some (.inl (w64 (a12+1))))))else some (.inr (.inl ())))
def iK(p0:(List c7))(p1_0:az):Option Int :=
  ((loop (gJ p0 p1_0) 0).bind fun | .inl _=>some (-1) | .inr rv=>some rv)
theorem xx(p0:(List c7))(p1_0:az)(r:Int)(hF:iK p0 p1_0=some r):Fun Tryz.prog 187 false [(8480,0)] [cL 7 c4 p0,.c (.fn 133 [.ptr (8480,0)])] (aQ [((8480,0),.box [jI p1_0.q5,jI p1_0.q8])]) (cI r) (aQ [((8480,0),.box [jI p1_0.q5,jI p1_0.q8])]):=by
 refine fM [(8480,0)] (some [(8480,0)]) Tryz.func187 ?_
 unfold iK at hF
 refine wA rfl (aJ (wC 1 rfl (rS (fQ (tc:=c4) p0 .tree (QV rfl (kq (fun _ _ h=>h) hF (.inl) (fun a12=>[(0,cL 7 c4 p0),(1,.c (.fn 133 [.ptr (8480,0)])),(7,cI (List.length p0:Int)),(8,cI a12)]) (fun a12=>[((8480,0),.box [jI p1_0.q5,jI p1_0.q8])]) (fun _=>[]) (fun _=>[((8480,0),.box [jI p1_0.q5,jI p1_0.q8])]) sw ?_ ?_))))))
 ·rintro⟨⟩ hF
  refine wA rfl ?_;cases hF
  exact bZ ⟨_,_,e9,_,rfl,rfl,⟨rfl,fun _=>rfl⟩,(AgM.weak ⟨rfl,trivial⟩)⟩
 rintro a12 x_0 hF cont_0 brk_0 fin_0
 unfold gJ at hF
 refine wA rfl (aJ (wIf hF rfl (fun _ hF=>?_) fun _ hF=>?_))
 ·refine aW (aJ (dV (wA rfl (wC 3 rfl ?_))));obtain⟨y17,hy17,hF⟩:=bB hF
  refine rS (i8 (tc:=c4) p0 rfl rfl hy17 (bq SV 1 rfl ?_));obtain⟨r18,hr18,hF⟩:=bB hF
  refine jX trivial (Ej (E6 _ rfl a1j) (K5 _ _ _ hr18) ⟨⟨rfl,rfl,rfl,rfl,rfl,rfl,rfl,trivial⟩,⟨_,rfl,⟨rfl,rfl,trivial⟩⟩,trivial⟩ rfl (.inl rfl) (QV rfl (wIf hF rfl (fun _ hF=>?_) fun _ hF=>?_)))
  ·refine wA rfl ?_;have hF:=fin_0 _ (oi hF);cases hF
   exact bZ ⟨_,_,e9,_,rfl,rfl,⟨rfl,fun _=>rfl⟩,(AgM.weak ⟨rfl,trivial⟩)⟩
  exact aW (wB rfl (cont_0 _ _ _ (oi hF) sw))
 exact fZ (aZ (aZ (cj (brk_0 _ _ _ (oi hF) sw))))
def d8(p0:(List c7))(p1_0:az):Option Bool :=
  ((iK p0 p1_0).bind fun r1=>some (decide (0≤r1)))
theorem uW(p0:(List c7))(p1_0:az)(r:Bool)(hF:d8 p0 p1_0=some r):Fun Tryz.prog 132 false [(6280,0)] [cL 7 c4 p0,.c (.fn 133 [.ptr (6280,0)])] (aQ [((6280,0),.box [jI p1_0.q5,jI p1_0.q8])]) (cB r) (aQ [((6280,0),.box [jI p1_0.q5,jI p1_0.q8])]):=by
 refine fM [(6280,0)] (some [(6280,0)]) Tryz.func132 ?_
 unfold d8 at hF
 refine wA rfl (wC 2 rfl ?_);obtain⟨r1,hr1,hF⟩:=bB hF
 refine rS (qx [((8480,0),(6280,0))] rfl (xx _ _ _ hr1) ⟨rfl,trivial⟩ rfl rfl (.inr ⟨.inl rfl,.inl rfl,trivial⟩) (QV rfl ?_));cases hF
 exact bZ ⟨_,_,e9,_,rfl,rfl,⟨rfl,fun _=>rfl⟩,(AgM.weak ⟨rfl,trivial⟩)⟩
def pz(p0:bY)(p1:az):Option Bool :=
  ((lZ p1 p0.j9).bind fun r1=>some (!r1))
theorem Kj(p0:bY)(p1:az)(r:Bool)(hF:pz p0 p1=some r):Fun Tryz.prog 136 true [] [.agg (wx p0),.c (.ptrI [tI p1.q5,tI p1.q8])] noHeap (cB r) noHeap:=by
 refine fW Tryz.func136 ?_
 unfold pz at hF
 refine wA rfl (wC 3 rfl ?_);obtain⟨r1,hr1,hF⟩:=bB hF
 refine rS (dj (o9 _ _ _ hr1) ⟨⟨rfl,rfl,trivial⟩,rfl,trivial⟩ rfl (.inl rfl) (QV rfl ?_));cases hF
 exact bZ wR
def fV(p0:(List bY))(p1_0:az):Int→Option (Int ⊕ (Unit ⊕ Int)):=fun a12 =>
  (bif (decide (a12<(List.length p0:Int)))then((idx p0 a12).bind fun y17=>((pz y17 p1_0).bind fun r18=>(bif r18 then some (.inr (.inr a12))else some (.inl (w64 (a12+1))))))else some (.inr (.inl ())))
def gj(p0:(List bY))(p1_0:az):Option Int :=
  ((loop (fV p0 p1_0) 0).bind fun | .inl _=>some (-1) | .inr rv=>some rv)
theorem uz(p0:(List bY))(p1_0:az)(r:Int)(hF:gj p0 p1_0=some r):Fun Tryz.prog 188 false [(8520,0)] [cL 4 cV p0,.c (.fn 136 [.ptr (8520,0)])] (aQ [((8520,0),.box [jI p1_0.q5,jI p1_0.q8])]) (cI r) (aQ [((8520,0),.box [jI p1_0.q5,jI p1_0.q8])]):=by
 refine fM [(8520,0)] (some [(8520,0)]) Tryz.func188 ?_
 unfold gj at hF
 refine wA rfl (aJ (wC 1 rfl (rS (fQ (tc:=cV) p0 .tree (QV rfl (kq (fun _ _ h=>h) hF (.inl) (fun a12=>[(0,cL 4 cV p0),(1,.c (.fn 136 [.ptr (8520,0)])),(7,cI (List.length p0:Int)),(8,cI a12)]) (fun a12=>[((8520,0),.box [jI p1_0.q5,jI p1_0.q8])]) (fun _=>[]) (fun _=>[((8520,0),.box [jI p1_0.q5,jI p1_0.q8])]) sw ?_ ?_))))))
 ·rintro⟨⟩ hF
  refine wA rfl ?_;cases hF
  exact bZ ⟨_,_,e9,_,rfl,rfl,⟨rfl,fun _=>rfl⟩,(AgM.weak ⟨rfl,trivial⟩)⟩
 rintro a12 x_0 hF cont_0 brk_0 fin_0
 unfold fV at hF
 refine wA rfl (aJ (wIf hF rfl (fun _ hF=>?_) fun _ hF=>?_))
 ·refine aW (aJ (dV (wA rfl (wC 3 rfl ?_))));obtain⟨y17,hy17,hF⟩:=bB hF
  refine rS (i8 (tc:=cV) p0 rfl rfl hy17 (bq SV 1 rfl ?_));obtain⟨r18,hr18,hF⟩:=bB hF
  refine jX trivial (Ej (E6 _ rfl a0W) (Kj _ _ _ hr18) ⟨⟨rfl,rfl,rfl,rfl,trivial⟩,⟨_,rfl,⟨rfl,rfl,trivial⟩⟩,trivial⟩ rfl (.inl rfl) (QV rfl (wIf hF rfl (fun _ hF=>?_) fun _ hF=>?_)))
  ·refine wA rfl ?_;have hF:=fin_0 _ (oi hF);cases hF
   exact bZ ⟨_,_,e9,_,rfl,rfl,⟨rfl,fun _=>rfl⟩,(AgM.weak ⟨rfl,trivial⟩)⟩
  exact aW (wB rfl (cont_0 _ _ _ (oi hF) sw))
 exact fZ (aZ (aZ (cj (brk_0 _ _ _ (oi hF) sw))))
def dJ(p0:(List bY))(p1_0:az):Option Bool :=
  ((gj p0 p1_0).bind fun r1=>some (decide (0≤r1)))
theorem sK(p0:(List bY))(p1_0:az)(r:Bool)(hF:dJ p0 p1_0=some r):Fun Tryz.prog 135 false [(6400,0)] [cL 4 cV p0,.c (.fn 136 [.ptr (6400,0)])] (aQ [((6400,0),.box [jI p1_0.q5,jI p1_0.q8])]) (cB r) (aQ [((6400,0),.box [jI p1_0.q5,jI p1_0.q8])]):=by
 refine fM [(6400,0)] (some [(6400,0)]) Tryz.func135 ?_
 unfold dJ at hF
 refine wA rfl (wC 2 rfl ?_);obtain⟨r1,hr1,hF⟩:=bB hF
 refine rS (qx [((8520,0),(6400,0))] rfl (uz _ _ _ hr1) ⟨rfl,trivial⟩ rfl rfl (.inr ⟨.inl rfl,.inl rfl,trivial⟩) (QV rfl ?_));cases hF
 exact bZ ⟨_,_,e9,_,rfl,rfl,⟨rfl,fun _=>rfl⟩,(AgM.weak ⟨rfl,trivial⟩)⟩
def pX(p0:bJ)(p1:az):Option Bool :=
  ((lZ p1 p0.j9).bind fun r1=>some (!r1))
theorem KZ(p0:bJ)(p1:az)(r:Bool)(hF:pX p0 p1=some r):Fun Tryz.prog 138 true [] [.agg (KJ p0),.c (.ptrI [tI p1.q5,tI p1.q8])] noHeap (cB r) noHeap:=by
 refine fW Tryz.func138 ?_
 unfold pX at hF
 refine wA rfl (wC 3 rfl ?_);obtain⟨r1,hr1,hF⟩:=bB hF
 refine rS (dj (o9 _ _ _ hr1) ⟨⟨rfl,rfl,trivial⟩,rfl,trivial⟩ rfl (.inl rfl) (QV rfl ?_));cases hF
 exact bZ wR
def gX(p0:(List bJ))(p1_0:az):Int→Option (Int ⊕ (Unit ⊕ Int)):=fun a12 =>
  (bif (decide (a12<(List.length p0:Int)))then((idx p0 a12).bind fun y17=>((pX y17 p1_0).bind fun r18=>(bif r18 then some (.inr (.inr a12))else some (.inl (w64 (a12+1))))))else some (.inr (.inl ())))
def iY(p0:(List bJ))(p1_0:az):Option Int :=
  ((loop (gX p0 p1_0) 0).bind fun | .inl _=>some (-1) | .inr rv=>some rv)
theorem wY(p0:(List bJ))(p1_0:az)(r:Int)(hF:iY p0 p1_0=some r):Fun Tryz.prog 189 false [(8560,0)] [cL 3 c5 p0,.c (.fn 138 [.ptr (8560,0)])] (aQ [((8560,0),.box [jI p1_0.q5,jI p1_0.q8])]) (cI r) (aQ [((8560,0),.box [jI p1_0.q5,jI p1_0.q8])]):=by
 refine fM [(8560,0)] (some [(8560,0)]) Tryz.func189 ?_
 unfold iY at hF
 refine wA rfl (aJ (wC 1 rfl (rS (fQ (tc:=c5) p0 .tree (QV rfl (kq (fun _ _ h=>h) hF (.inl) (fun a12=>[(0,cL 3 c5 p0),(1,.c (.fn 138 [.ptr (8560,0)])),(7,cI (List.length p0:Int)),(8,cI a12)]) (fun a12=>[((8560,0),.box [jI p1_0.q5,jI p1_0.q8])]) (fun _=>[]) (fun _=>[((8560,0),.box [jI p1_0.q5,jI p1_0.q8])]) sw ?_ ?_))))))
 ·rintro⟨⟩ hF
  refine wA rfl ?_;cases hF
  exact bZ ⟨_,_,e9,_,rfl,rfl,⟨rfl,fun _=>rfl⟩,(AgM.weak ⟨rfl,trivial⟩)⟩
 rintro a12 x_0 hF cont_0 brk_0 fin_0
 unfold gX at hF
 refine wA rfl (aJ (wIf hF rfl (fun _ hF=>?_) fun _ hF=>?_))
 ·refine aW (aJ (dV (wA rfl (wC 3 rfl ?_))));obtain⟨y17,hy17,hF⟩:=bB hF
  refine rS (i8 (tc:=c5) p0 rfl rfl hy17 (bq SV 1 rfl ?_));obtain⟨r18,hr18,hF⟩:=bB hF
  refine jX trivial (Ej (E6 _ rfl a1x) (KZ _ _ _ hr18) ⟨⟨rfl,rfl,rfl,trivial⟩,⟨_,rfl,⟨rfl,rfl,trivial⟩⟩,trivial⟩ rfl (.inl rfl) (QV rfl (wIf hF rfl (fun _ hF=>?_) fun _ hF=>?_)))
  ·refine wA rfl ?_;have hF:=fin_0 _ (oi hF);cases hF
   exact bZ ⟨_,_,e9,_,rfl,rfl,⟨rfl,fun _=>rfl⟩,(AgM.weak ⟨rfl,trivial⟩)⟩
  exact aW (wB rfl (cont_0 _ _ _ (oi hF) sw))
 exact fZ (aZ (aZ (cj (brk_0 _ _ _ (oi hF) sw))))
def d9(p0:(List bJ))(p1_0:az):Option Bool :=
  ((iY p0 p1_0).bind fun r1=>some (decide (0≤r1)))
theorem u1(p0:(List bJ))(p1_0:az)(r:Bool)(hF:d9 p0 p1_0=some r):Fun Tryz.prog 137 false [(6480,0)] [cL 3 c5 p0,.c (.fn 138 [.ptr (6480,0)])] (aQ [((6480,0),.box [jI p1_0.q5,jI p1_0.q8])]) (cB r) (aQ [((6480,0),.box [jI p1_0.q5,jI p1_0.q8])]):=by
 refine fM [(6480,0)] (some [(6480,0)]) Tryz.func137 ?_
 unfold d9 at hF
 refine wA rfl (wC 2 rfl ?_);obtain⟨r1,hr1,hF⟩:=bB hF
 refine rS (qx [((8560,0),(6480,0))] rfl (wY _ _ _ hr1) ⟨rfl,trivial⟩ rfl rfl (.inr ⟨.inl rfl,.inl rfl,trivial⟩) (QV rfl ?_));cases hF
 exact bZ ⟨_,_,e9,_,rfl,rfl,⟨rfl,fun _=>rfl⟩,(AgM.weak ⟨rfl,trivial⟩)⟩
def oK(p0:cW):Option Bool :=
  ((((d5 p0.z6 p0.q0).bind fun r2=>(bif r2 then some true else((dW p0.j7 p0.q0).bind fun r4=>(bif r4 then some true else((d0 p0.j5 p0.q0).bind fun r6=>(bif r6 then some true else((d8 p0.v9 p0.q0).bind fun r8=>(bif r8 then some true else((dJ p0.z9 p0.q0).bind fun r10=>(bif r10 then some true else((d9 p0.w4 p0.q0).bind fun r12=>some r12))))))))))):Option Bool).bind fun v1=>some v1)
theorem U5(p0:cW)(r:Bool)(hF:oK p0=some r):Fun Tryz.prog 40 true [] [.agg (nJ p0)] noHeap (cB r) noHeap:=by
 refine fW Tryz.func40 ?_
 unfold oK at hF
 refine wA rfl (wA rfl (aJ (eV (fun _ _ h=>h) hF (fun v1=>[(2,cB v1)]) (fun v1=>[]) ?_ ?_)))
 ·rintro v1 hF
  cases hF
  exact bZ wR
 intro join hF
 refine wD 3 rfl ?_;obtain⟨r2,hr2,hF⟩:=bB' hF
 refine rS (qx [((6000,0),(3,0))] rfl (tQ _ _ _ hr2) ⟨rfl,trivial⟩ rfl rfl (.inr ⟨.inl rfl,.inl rfl,trivial⟩) (bq SV 1 rfl ?_));cases h3:r2
 ·have hF:=bF' h3 hF;refine bq SV 3 rfl ?_;obtain⟨r4,hr4,hF⟩:=bB' hF
  refine bz SV rfl (qx [((6120,0),(3,0))] rfl (tY _ _ _ hr4) ⟨rfl,trivial⟩ rfl rfl (.inr ⟨.inl rfl,.inl rfl,trivial⟩) (bq SV 2 rfl ?_))
  cases h5:r4
  ·have hF:=bF' h5 hF;refine bq SV 3 rfl ?_;obtain⟨r6,hr6,hF⟩:=bB' hF
   refine bz SV rfl (qx [((6200,0),(3,0))] rfl (tV _ _ _ hr6) ⟨rfl,trivial⟩ rfl rfl (.inr ⟨.inl rfl,.inl rfl,trivial⟩) (bq SV 2 rfl ?_))
   cases h7:r6
   ·have hF:=bF' h7 hF;refine bq SV 3 rfl ?_;obtain⟨r8,hr8,hF⟩:=bB' hF
    refine bz SV rfl (qx [((6280,0),(3,0))] rfl (uW _ _ _ hr8) ⟨rfl,trivial⟩ rfl rfl (.inr ⟨.inl rfl,.inl rfl,trivial⟩) (bq SV 2 rfl ?_));cases h9:r8
    ·have hF:=bF' h9 hF;refine bq SV 3 rfl ?_;obtain⟨r10,hr10,hF⟩:=bB' hF
     refine bz SV rfl (qx [((6400,0),(3,0))] rfl (sK _ _ _ hr10) ⟨rfl,trivial⟩ rfl rfl (.inr ⟨.inl rfl,.inl rfl,trivial⟩) (bq SV 2 rfl ?_))
     cases h11:r10
     ·have hF:=bF' h11 hF;refine bq SV 3 rfl ?_;obtain⟨r12,hr12,hF⟩:=bB' hF
      exact bz SV rfl (qx [((6480,0),(3,0))] rfl (u1 _ _ _ hr12) ⟨rfl,trivial⟩ rfl rfl (.inr ⟨.inl rfl,.inl rfl,trivial⟩) (QV rfl (join r12 _ _ hF sw)))
     have hF:=bT' h11 hF;exact QV rfl (join true _ _ hF sw)
    have hF:=bT' h9 hF;exact QV rfl (join true _ _ hF sw)
   have hF:=bT' h7 hF;exact QV rfl (join true _ _ hF sw)
  have hF:=bT' h5 hF;exact QV rfl (join true _ _ hF sw)
 have hF:=bT' h3 hF;exact QV rfl (join true _ _ hF sw)
def lq(p0:cW):Option Int :=
  ((tx p0).bind fun r1=>(bif (!decide (r1=0))then some r1 else(((bif (decide (p0.q0.q5<0))then some true else(bif (decide (p0.q0.q8<p0.q0.q5))then some true else some (decide (1000000000000<p0.q0.q8)))):Option Bool).bind fun v2=>(bif v2 then some 2 else((oK p0).bind fun r3=>(bif r3 then some 10 else some 0))))))
theorem YW(p0:cW)(r:Int)(hF:lq p0=some r):Fun Tryz.prog 13 true [] [.agg (nJ p0)] noHeap (cI r) noHeap:=by
 refine fW Tryz.func13 ?_
 unfold lq at hF
 refine wA rfl (aJ (wC 1 rfl ?_));obtain⟨r1,hr1,hF⟩:=bB hF
 refine rS (dj (WK _ _ hr1) ⟨⟨rfl,rfl,rfl,rfl,rfl,rfl,rfl,rfl,rfl,rfl,trivial⟩,trivial⟩ rfl (.inl rfl) (QV rfl (wA rfl (wIf hF rfl (fun _ hF=>?_) fun _ hF=>?_))))
 ·refine wA rfl ?_;cases hF
  exact bZ wR
 refine aW (aJ (aJ (eV (fun _ _ h=>h) hF (fun v2=>[(1,cP (1,0) 0),(27,cB v2)]) (fun v2=>[((1,0),.box (nJ p0))]) ?_ ?_)))
 ·rintro v2 hF
  refine wIf hF rfl (fun _ hF=>?_) fun _ hF=>?_
  ·refine wA rfl ?_;cases hF
   exact bZ wR
  refine aW (aJ (wC 1 rfl ?_));obtain⟨r3,hr3,hF⟩:=bB hF
  refine rS (dj (U5 _ _ hr3) ⟨⟨rfl,rfl,rfl,rfl,rfl,rfl,rfl,rfl,rfl,rfl,trivial⟩,trivial⟩ rfl (.inl rfl) (QV rfl (wIf hF rfl (fun _ hF=>?_) fun _ hF=>?_)))
  ·refine wA rfl ?_;cases hF
   exact bZ wR
  refine aW (wA rfl ?_);cases hF
  exact bZ wR
 intro join hF
 refine wD 5 rfl ?_;cases h6:(decide (p0.q0.q5<0))
 ·have hF:=bF' h6 hF;refine bq SV 9 rfl ?_;cases h7:(decide (p0.q0.q8<p0.q0.q5))
  ·have hF:=bF' h7 hF;exact QV rfl (join (decide (1000000000000<p0.q0.q8)) _ _ hF sw)
  have hF:=bT' h7 hF;exact QV rfl (join true _ _ hF sw)
 have hF:=bT' h6 hF;exact QV rfl (join true _ _ hF sw)
def oW(p0:az)(p1:az):Option (az×Bool×Bool) :=
  some (({q5:=(w64 ((max p0.q5 p1.q5)-p1.q5)),q8:=(w64 ((min p0.q8 p1.q8)-p1.q5))}:az),(decide ((max p0.q5 p1.q5)<(min p0.q8 p1.q8))),(decide (p1.q8<p0.q8)))
theorem wX(p0:az)(p1:az)(r:(az×Bool×Bool))(hF:oW p0 p1=some r):Fun Tryz.prog 139 true [] [.agg [jI p0.q5,jI p0.q8],.agg [jI p1.q5,jI p1.q8]] noHeap (.tup [.agg [jI r.1.q5,jI r.1.q8],cB r.2.1,cB r.2.2]) noHeap:=by
 refine fW Tryz.func139 ?_
 unfold oW at hF
 refine wA rfl (wA rfl (aJ (a8W [none,none,none,none,none,none,none,none,none,none,none,none,(some ([(7,0)],[])),none,(some ([(7,0)],[])),none,none,(some ([(2,0)],[])),none,(some ([(3,0)],[])),none,(some ([],[(4,0)])),none,none] (by decide) rfl (by kernel_rfl) rfl (ayV 12 rfl rfl (abx trivial rfl (AW rfl (ayV 1 rfl rfl (abx trivial rfl (AW rfl (ayV 2 rfl rfl (abx trivial rfl (AW rfl (ayV 1 rfl rfl (abx trivial rfl (AW rfl (ayV 1 rfl rfl (abx trivial rfl (AW rfl (ZE rfl rfl ?_)))))))))))))))))));cases hF
 exact bZ ⟨_,rfl,rfl,⟨⟨⟨rfl,fun _=>rfl⟩,⟨rfl,fun _=>rfl⟩,trivial⟩,⟨rfl,fun _=>rfl⟩,⟨rfl,fun _=>rfl⟩,trivial⟩,a5x _⟩
def nZ(p0:ax)(p1:ax):Option Int :=
  ((jJ p0.q9.q0.q5 p1.q9.q0.q5).bind fun r1=>((jJ p1.q9.q0.q8 p0.q9.q0.q8).bind fun r2=>((jJ p0.q9.q6 p1.q9.q6).bind fun r3=>((vK [r1,r2,r3]).bind fun r4=>some r4))))
theorem sV(p0:ax)(p1:ax)(r:Int)(hF:nZ p0 p1=some r):Fun Tryz.prog 141 true [] [.agg (PW p0),.agg (PW p1)] noHeap (cI r) noHeap:=by
 refine fW Tryz.func141 ?_
 unfold nZ at hF
 refine wA rfl (aJ (n4 (by decide) (by kernel_rfl) rfl (bq SP 8 rfl ?_)));obtain⟨r1,hr1,hF⟩:=bB hF
 refine bz SP trivial (dj (nj _ _ _ hr1) ⟨rfl,rfl,trivial⟩ rfl (.inl rfl) (bq SP 8 rfl ?_));obtain⟨r2,hr2,hF⟩:=bB hF
 refine bz SP trivial (dj (nj _ _ _ hr2) ⟨rfl,rfl,trivial⟩ rfl (.inl rfl) (bq SP 6 rfl ?_));obtain⟨r3,hr3,hF⟩:=bB hF
 refine bz SP trivial (dj (nj _ _ _ hr3) ⟨rfl,rfl,trivial⟩ rfl (.inl rfl) ?_);refine bz SP trivial (L7 (tc:=u4) [r1,r2,r3] rfl ⟨rfl,rfl,rfl,trivial⟩ rfl (fun _=>rfl) rfl ?_)
 obtain⟨r4,hr4,hF⟩:=bB hF
 refine bz SP trivial (dj (G4 _ _ hr4) ⟨⟨_,rfl⟩,trivial⟩ rfl (.inl rfl) (QP rfl ?_));cases hF
 exact bZ wR
def iZ(p1:Int):((List ax)×Int)→Option (((List ax)×Int) ⊕ (List ax)):=fun(a135,a136) =>
  (((bif (decide (p1<a136))then((idx a135 a136).bind fun y155=>((idx a135 (w64 (a136-1))).bind fun y156=>((nZ y155 y156).bind fun r157=>some (decide (r157<0)))))else some false):Option Bool).bind fun v148=>(bif v148 then((idx a135 (w64 (a136-1))).bind fun y149=>((idx a135 a136).bind fun y150=>((idx a135 a136).bind fun y151=>((idx (List.set a135 (Int.toNat a136) y149) (w64 (a136-1))).bind fun y152=>some (.inl ((List.set (List.set a135 (Int.toNat a136) y149) (Int.toNat (w64 (a136-1))) y150),(w64 (a136-1))))))))else some (.inr a135)))
def iJ(p1:Int)(p2:Int):((List ax)×Int)→Option (((List ax)×Int) ⊕ (List ax)):=fun(a107,a108) =>
  (bif (decide (a108<p2))then((loop (iZ p1) (a107,a108)).bind fun e147=>some (.inl (e147,(w64 (a108+1)))))else some (.inr a107))
def d4(p0:(List ax))(p1:Int)(p2:Int):Option (List ax) :=
  (loop (iJ p1 p2) (p0,(w64 (p1+1))))
theorem nW(p0:(List ax))(p1:Int)(p2:Int)(r:(List ax))(hF:d4 p0 p1 p2=some r):Fun Tryz.prog 223 false [(9920,0)] [cO (9920,0),cI p1,cI p2,.c (.fn 141 [])] (aQ [((9920,0),.arr 220 9 (List.map aj p0))]) (.tup []) (aQ [((9920,0),.arr 220 9 (List.map aj r))]):=by
 refine fM [(9920,0)] (some [(9920,0)]) Tryz.func223 ?_
 unfold d4 at hF
 refine wA rfl (aDQ hF (fun(a107,a108)=>[(0,cO (9920,0)),(1,cI p1),(2,cI p2),(3,.c (.fn 141 [])),(8,cI a108)]) (fun(a107,a108)=>[((9920,0),.arr 220 9 (List.map aj a107))]) sw ?_)
 rintro⟨a107,a108⟩ x_0 hF cont_0 fin_0
 unfold iJ at hF
 refine aJ (wA rfl (wIf hF rfl (fun _ hF=>?_) fun _ hF=>?_))
 ·refine aW (aJ (dV (wA rfl (kq (fun _ _ h=>h) hF (id) (fun(a135,a136)=>[(0,cO (9920,0)),(1,cI p1),(2,cI p2),(3,.c (.fn 141 [])),(8,cI a108),(9,cI a136)]) (fun(a135,a136)=>[((9920,0),.arr 220 9 (List.map aj a135))]) (fun e147=>[(0,cO (9920,0)),(1,cI p1),(2,cI p2),(3,.c (.fn 141 [])),(8,cI a108)]) (fun e147=>[((9920,0),.arr 220 9 (List.map aj e147))]) sw ?_ ?_))))
  ·rintro e147 hF
   exact wB rfl (cont_0 _ _ _ (oi hF) sw)
  rintro⟨a135,a136⟩ x_1 hF cont_1 brk_1 fin_1
  unfold iZ at hF
  refine aJ (aJ (eV (fun _ _ h=>h) hF (fun v148=>[(0,cO (9920,0)),(1,cI p1),(2,cI p2),(3,.c (.fn 141 [])),(8,cI a108),(9,cI a136),(34,cB v148)]) (fun v148=>[((9920,0),.arr 220 9 (List.map aj a135))]) ?_ ?_))
  ·rintro v148 hF
   refine wIf hF rfl (fun _ hF=>?_) fun _ hF=>?_
   ·refine aW (aJ (dV (n4 (by decide) (by kernel_rfl) rfl (bq SP 8 rfl ?_))));obtain⟨y149,hy149,hF⟩:=bB hF
    refine bz SP trivial (sx (tc:=aj) a135 rfl rfl rfl hy149 (bz SP trivial (BK (tc:=aj) a135 rfl rfl (kV hy149).2.1 rfl (bq SP 2 rfl ?_))))
    obtain⟨y150,hy150,hF⟩:=bB hF
    refine bz SP trivial (sx (tc:=aj) a135 rfl rfl rfl hy150 (bz SP trivial (BK (tc:=aj) a135 rfl rfl (kV hy150).2.1 rfl ?_)));obtain⟨y151,hy151,hF⟩:=bB hF
    refine bz SP trivial (sx (tc:=aj) a135 rfl rfl rfl hy151 (bz SP trivial (PJ (tc:=aj) a135 y149 rfl rfl (kV hy151).2.1 rfl rfl rfl rfl rfl ?_)));obtain⟨y152,hy152,hF⟩:=bB hF
    exact bz SP trivial (sx (tc:=aj) (List.set a135 (Int.toNat a136) y149) rfl rfl rfl hy152 (bz SP trivial (PJ (tc:=aj) (List.set a135 (Int.toNat a136) y149) y150 rfl rfl (kV hy152).2.1 rfl rfl rfl rfl rfl (QP rfl (wB rfl (cont_1 _ _ _ (oi hF) sw))))))
   exact fZ (aZ (aZ (cj (brk_1 _ _ _ (oi hF) sw))))
  intro join hF
  refine n4 (by decide) (by kernel_rfl) rfl (bq SP 4 rfl ?_);cases h154:(decide (p1<a136))
  ·have hF:=bF' h154 hF;exact QP rfl (join false _ _ hF sw)
  have hF:=bT' h154 hF;refine bq SP 3 rfl ?_;obtain⟨y155,hy155,hF⟩:=bB' hF
  refine bz SP rfl (sx (tc:=aj) a135 rfl rfl rfl hy155 (bz SP rfl (BK (tc:=aj) a135 rfl rfl (kV hy155).2.1 rfl (bq SP 3 rfl ?_))));obtain⟨y156,hy156,hF⟩:=bB' hF
  refine bz SP rfl (sx (tc:=aj) a135 rfl rfl rfl hy156 (bz SP rfl (BK (tc:=aj) a135 rfl rfl (kV hy156).2.1 rfl ?_)));obtain⟨r157,hr157,hF⟩:=bB' hF
  exact bz SP rfl (ZK (E6 _ rfl Z3) (sV _ _ _ hr157) ⟨⟨rfl,rfl,rfl,rfl,rfl,rfl,rfl,rfl,rfl,trivial⟩,⟨rfl,rfl,rfl,rfl,rfl,rfl,rfl,rfl,rfl,trivial⟩,trivial⟩ rfl (.inl rfl) (QP rfl (join (decide (r157<0)) _ _ hF sw)))
 refine fZ (aZ (aZ (cj ?_)));have hF:=fin_0 _ (oi hF);cases hF
 exact⟨_,_,e9,_,rfl,rfl,trivial,(AgM.weak ⟨rfl,trivial⟩)⟩
def lK(p1:Int)(p2:Int)(p3:Int):((List ax)×Int)→Option (((List ax)×Int) ⊕ (List ax)):=fun(a17,a18) =>
  (bif (decide (a18<p3))then((idx a17 (w64 (p2+a18))).bind fun y19=>((idx a17 (w64 (p1+a18))).bind fun y20=>((idx a17 (w64 (p1+a18))).bind fun y21=>((idx (List.set a17 (Int.toNat (w64 (p1+a18))) y19) (w64 (p2+a18))).bind fun y22=>some (.inl ((List.set (List.set a17 (Int.toNat (w64 (p1+a18))) y19) (Int.toNat (w64 (p2+a18))) y20),(w64 (a18+1))))))))else some (.inr a17))
def dY(p0:(List ax))(p1:Int)(p2:Int)(p3:Int):Option (List ax) :=
  (loop (lK p1 p2 p3) (p0,0))
theorem lJ(p0:(List ax))(p1:Int)(p2:Int)(p3:Int)(r:(List ax))(hF:dY p0 p1 p2 p3=some r):Fun Tryz.prog 288 false [(12520,0)] [cO (12520,0),cI p1,cI p2,cI p3,.c (.fn 141 [])] (aQ [((12520,0),.arr 220 9 (List.map aj p0))]) (.tup []) (aQ [((12520,0),.arr 220 9 (List.map aj r))]):=by
 refine fM [(12520,0)] (some [(12520,0)]) Tryz.func288 ?_
 unfold dY at hF
 refine wA rfl (aDQ hF (fun(a17,a18)=>[(0,cO (12520,0)),(1,cI p1),(2,cI p2),(3,cI p3),(10,cI a18)]) (fun(a17,a18)=>[((12520,0),.arr 220 9 (List.map aj a17))]) sw ?_)
 rintro⟨a17,a18⟩ x_0 hF cont_0 fin_0
 unfold lK at hF
 refine aJ (wA rfl (wIf hF rfl (fun _ hF=>?_) fun _ hF=>?_))
 ·refine aW (aJ (dV (n4 (by decide) (by kernel_rfl) rfl (bq SP 12 rfl ?_))));obtain⟨y19,hy19,hF⟩:=bB hF
  refine bz SP trivial (sx (tc:=aj) a17 rfl rfl rfl hy19 (bz SP trivial (BK (tc:=aj) a17 rfl rfl (kV hy19).2.1 rfl (bq SP 4 rfl ?_))));obtain⟨y20,hy20,hF⟩:=bB hF
  refine bz SP trivial (sx (tc:=aj) a17 rfl rfl rfl hy20 (bz SP trivial (BK (tc:=aj) a17 rfl rfl (kV hy20).2.1 rfl ?_)));obtain⟨y21,hy21,hF⟩:=bB hF
  refine bz SP trivial (sx (tc:=aj) a17 rfl rfl rfl hy21 (bz SP trivial (PJ (tc:=aj) a17 y19 rfl rfl (kV hy21).2.1 rfl rfl rfl rfl rfl ?_)));obtain⟨y22,hy22,hF⟩:=bB hF
  exact bz SP trivial (sx (tc:=aj) (List.set a17 (Int.toNat (w64 (p1+a18))) y19) rfl rfl rfl hy22 (bz SP trivial (PJ (tc:=aj) (List.set a17 (Int.toNat (w64 (p1+a18))) y19) y20 rfl rfl (kV hy22).2.1 rfl rfl rfl rfl rfl (QP rfl (wB rfl (cont_0 _ _ _ (oi hF) sw))))))
 refine fZ (aZ (aZ (cj ?_)));have hF:=fin_0 _ (oi hF);cases hF
 exact⟨_,_,e9,_,rfl,rfl,trivial,(AgM.weak ⟨rfl,trivial⟩)⟩
def mY(p2:Int):((List ax)×Int×Int)→Option (((List ax)×Int×Int) ⊕ ((List ax)×Int)):=fun(a18,a19,a20) =>
  (bif (!decide (a19=a20))then(bif (decide (a20<a19))then((dY a18 (w64 (p2-a19)) p2 a20).bind fun r28=>some (.inl (r28,(w64 (a19-a20)),a20)))else((dY a18 (w64 (p2-a19)) (w64 ((w64 (p2+a20))-a19)) a19).bind fun r29=>some (.inl (r29,a19,(w64 (a20-a19))))))else some (.inr (a18,a19)))
def gQ(p0:(List ax))(p1:Int)(p2:Int)(p3:Int):Option (List ax) :=
  ((loop (mY p2) (p0,(w64 (p2-p1)),(w64 (p3-p2)))).bind fun(e25,e26)=>((dY e25 (w64 (p2-e26)) p2 e26).bind fun r27=>some r27))
theorem zj(p0:(List ax))(p1:Int)(p2:Int)(p3:Int)(r:(List ax))(hF:gQ p0 p1 p2 p3=some r):Fun Tryz.prog 258 false [(11320,0)] [cO (11320,0),cI p1,cI p2,cI p3,.c (.fn 141 [])] (aQ [((11320,0),.arr 220 9 (List.map aj p0))]) (.tup []) (aQ [((11320,0),.arr 220 9 (List.map aj r))]):=by
 refine fM [(11320,0)] (some [(11320,0)]) Tryz.func258 ?_
 unfold gQ at hF
 refine wA rfl (wA rfl (aJ (kq (fun _ _ h=>h) hF (id) (fun(a18,a19,a20)=>[(0,cO (11320,0)),(2,cI p2),(4,.c (.fn 141 [])),(10,cI a19),(11,cI a20)]) (fun(a18,a19,a20)=>[((11320,0),.arr 220 9 (List.map aj a18))]) (fun(e25,e26)=>[(0,cO (11320,0)),(2,cI p2),(4,.c (.fn 141 [])),(10,cI e26)]) (fun(e25,e26)=>[((11320,0),.arr 220 9 (List.map aj e25))]) sw ?_ ?_)))
 ·rintro⟨e25,e26⟩ hF
  refine wD 7 rfl ?_;obtain⟨r27,hr27,hF⟩:=bB hF
  refine jX trivial (n8 [((12520,0),(11320,0))] rfl (xJ _) (lJ _ _ _ _ _ hr27) ⟨rfl,trivial⟩ ⟨.inl rfl,.inl rfl,.inl rfl,.inl rfl,.inl rfl,trivial⟩ rfl rfl rfl ?_)
  refine QV rfl ?_;cases hF
  exact⟨_,_,e9,_,rfl,rfl,trivial,(AgM.weak ⟨rfl,trivial⟩)⟩
 rintro⟨a18,a19,a20⟩ x_0 hF cont_0 brk_0 fin_0
 unfold mY at hF
 refine aJ (wA rfl (wIf hF rfl (fun _ hF=>?_) fun _ hF=>?_))
 ·refine aW (dV (wA rfl (wIf hF rfl (fun _ hF=>?_) fun _ hF=>?_)))
  ·refine wC 7 rfl ?_;obtain⟨r28,hr28,hF⟩:=bB hF
   refine jX trivial (n8 [((12520,0),(11320,0))] rfl (xJ _) (lJ _ _ _ _ _ hr28) ⟨rfl,trivial⟩ ⟨.inl rfl,.inl rfl,.inl rfl,.inl rfl,.inl rfl,trivial⟩ rfl rfl rfl ?_)
   exact QV rfl (wB rfl (cont_0 _ _ _ (oi hF) sw))
  refine wC 11 rfl ?_;obtain⟨r29,hr29,hF⟩:=bB hF
  refine jX trivial (n8 [((12520,0),(11320,0))] rfl (xJ _) (lJ _ _ _ _ _ hr29) ⟨rfl,trivial⟩ ⟨.inl rfl,.inl rfl,.inl rfl,.inl rfl,.inl rfl,trivial⟩ rfl rfl rfl ?_)
  exact QV rfl (wB rfl (cont_0 _ _ _ (oi hF) sw))
 exact fZ (aZ (aZ (cj (brk_0 _ _ _ (oi hF) sw))))
def gW(e24:Int):((List ax)×Int)→Option (((List ax)×Int) ⊕ (List ax)):=fun(a41,a42) =>
  (bif (decide (a42<(w64 (e24-1))))then((idx a41 (w64 (a42+1))).bind fun y49=>((idx a41 a42).bind fun y50=>((idx a41 a42).bind fun y51=>((idx (List.set a41 (Int.toNat a42) y49) (w64 (a42+1))).bind fun y52=>some (.inl ((List.set (List.set a41 (Int.toNat a42) y49) (Int.toNat (w64 (a42+1))) y50),(w64 (a42+1))))))))else some (.inr a41))
def gZ(p0:(List ax))(p1:Int):(Int×Int)→Option ((Int×Int) ⊕ Int):=fun(a17,a18) =>
  (bif (decide (a17<a18))then((idx p0 (w64 (shR .u64 (IntKind.wrap .u64 (w64 (a17+a18))) 1))).bind fun y54=>((idx p0 p1).bind fun y55=>((nZ y54 y55).bind fun r56=>(bif (decide (r56<0))then some (.inl ((w64 ((w64 (shR .u64 (IntKind.wrap .u64 (w64 (a17+a18))) 1))+1)),a18))else some (.inl (a17,(w64 (shR .u64 (IntKind.wrap .u64 (w64 (a17+a18))) 1))))))))else some (.inr a17))
def gV(e82:Int):((List ax)×Int)→Option (((List ax)×Int) ⊕ (List ax)):=fun(a99,a100) =>
  (bif (decide (e82<a100))then((idx a99 (w64 (a100-1))).bind fun y107=>((idx a99 a100).bind fun y108=>((idx a99 a100).bind fun y109=>((idx (List.set a99 (Int.toNat a100) y107) (w64 (a100-1))).bind fun y110=>some (.inl ((List.set (List.set a99 (Int.toNat a100) y107) (Int.toNat (w64 (a100-1))) y108),(w64 (a100-1))))))))else some (.inr a99))
def gY(p0:(List ax))(p2:Int):(Int×Int)→Option ((Int×Int) ⊕ Int):=fun(a75,a76) =>
  (bif (decide (a75<a76))then((idx p0 p2).bind fun y112=>((idx p0 (w64 (shR .u64 (IntKind.wrap .u64 (w64 (a75+a76))) 1))).bind fun y113=>((nZ y112 y113).bind fun r114=>(bif (!(decide (r114<0)))then some (.inl ((w64 ((w64 (shR .u64 (IntKind.wrap .u64 (w64 (a75+a76))) 1))+1)),a76))else some (.inl (a75,(w64 (shR .u64 (IntKind.wrap .u64 (w64 (a75+a76))) 1))))))))else some (.inr a75))
def gK(p0:(List ax))(p1:Int)(p2:Int)(p3:Int):(Int×Int)→Option ((Int×Int) ⊕ Int):=fun(a135,a136) =>
  (bif (decide (a135<a136))then((idx p0 (w64 ((w64 ((w64 ((w64 (shR .u64 (IntKind.wrap .u64 (w64 (p1+p3))) 1))+p2))-1))-(w64 (shR .u64 (IntKind.wrap .u64 (w64 (a135+a136))) 1))))).bind fun y157=>((idx p0 (w64 (shR .u64 (IntKind.wrap .u64 (w64 (a135+a136))) 1))).bind fun y158=>((nZ y157 y158).bind fun r159=>(bif (!(decide (r159<0)))then some (.inl ((w64 ((w64 (shR .u64 (IntKind.wrap .u64 (w64 (a135+a136))) 1))+1)),a136))else some (.inl (a135,(w64 (shR .u64 (IntKind.wrap .u64 (w64 (a135+a136))) 1))))))))else some (.inr a135))
def mV(rec:((List ax)→Int→Int→Int→Option (List ax)))(p0:(List ax))(p1:Int)(p2:Int)(p3:Int):Option (List ax) :=
  (bif (decide ((w64 (p2-p1))=1))then((loop (gZ p0 p1) (p2,p3)).bind fun e24=>((loop (gW e24) (p0,p1)).bind fun e48=>some e48))else(bif (decide ((w64 (p3-p2))=1))then((loop (gY p0 p2) (p1,p2)).bind fun e82=>((loop (gV e82) (p0,p2)).bind fun e106=>some e106))else(((bif (decide ((w64 (shR .u64 (IntKind.wrap .u64 (w64 (p1+p3))) 1))<p2))then some ((w64 ((w64 ((w64 (shR .u64 (IntKind.wrap .u64 (w64 (p1+p3))) 1))+p2))-p3)),(w64 (shR .u64 (IntKind.wrap .u64 (w64 (p1+p3))) 1)))else some (p1,p2)):Option (Int×Int)).bind fun(v117,v118)=>((loop (gK p0 p1 p2 p3) (v117,v118)).bind fun e142=>(((bif (decide (e142<p2))then some (decide (p2<(w64 ((w64 ((w64 (shR .u64 (IntKind.wrap .u64 (w64 (p1+p3))) 1))+p2))-e142))))else some false):Option Bool).bind fun v143=>(((bif v143 then((gQ p0 e142 p2 (w64 ((w64 ((w64 (shR .u64 (IntKind.wrap .u64 (w64 (p1+p3))) 1))+p2))-e142))).bind fun r154=>some r154)else some p0):Option (List ax)).bind fun v144=>(((bif (decide (p1<e142))then some (decide (e142<(w64 (shR .u64 (IntKind.wrap .u64 (w64 (p1+p3))) 1))))else some false):Option Bool).bind fun v145=>(((bif v145 then((rec v144 p1 e142 (w64 (shR .u64 (IntKind.wrap .u64 (w64 (p1+p3))) 1))).bind fun r151=>some r151)else some v144):Option (List ax)).bind fun v146=>(((bif (decide ((w64 (shR .u64 (IntKind.wrap .u64 (w64 (p1+p3))) 1))<(w64 ((w64 ((w64 (shR .u64 (IntKind.wrap .u64 (w64 (p1+p3))) 1))+p2))-e142))))then some (decide ((w64 ((w64 ((w64 (shR .u64 (IntKind.wrap .u64 (w64 (p1+p3))) 1))+p2))-e142))<p3))else some false):Option Bool).bind fun v147=>(bif v147 then((rec v146 (w64 (shR .u64 (IntKind.wrap .u64 (w64 (p1+p3))) 1)) (w64 ((w64 ((w64 (shR .u64 (IntKind.wrap .u64 (w64 (p1+p3))) 1))+p2))-e142)) p3).bind fun r148=>some r148)else some v146))))))))))
def eX:Nat→(List ax)→Int→Int→Int→Option (List ax)
  | 0=>fun _ _ _ _=>none
  | n+1=>mV (eX n)
def fK(p0:(List ax))(p1:Int)(p2:Int)(p3:Int):Option (List ax):=eX 9223372036854775808 p0 p1 p2 p3
theorem u7:∀(n:Nat) (p0:(List ax)) (p1:Int) (p2:Int) (p3:Int) (r:(List ax)),eX n p0 p1 p2 p3=some r→Fun Tryz.prog 224 false [(9960,0)] [cO (9960,0),cI p1,cI p2,cI p3,.c (.fn 141 [])] (aQ [((9960,0),.arr 220 9 (List.map aj p0))]) (.tup []) (aQ [((9960,0),.arr 220 9 (List.map aj r))]):=by
 intro n
 induction n
 ·intro p0 p1 p2 p3 r hF;simp[eX]at hF
 rename_i n ih;intro p0 p1 p2 p3 r hF
 refine fM [(9960,0)] (some [(9960,0)]) Tryz.func224 ?_
 unfold eX at hF
 unfold mV at hF
 refine aJ (wA rfl (wIf hF rfl (fun _ hF=>?_) fun _ hF=>?_))
 ·refine wA rfl (wA rfl (aJ (kq (fun _ _ h=>h) hF (id) (fun(a17,a18)=>[(0,cO (9960,0)),(1,cI p1),(4,.c (.fn 141 [])),(10,cI a17),(11,cI a18)]) (fun(a17,a18)=>[((9960,0),.arr 220 9 (List.map aj p0))]) (fun e24=>[(0,cO (9960,0)),(1,cI p1),(10,cI e24)]) (fun e24=>[((9960,0),.arr 220 9 (List.map aj p0))]) sw ?_ ?_)))
  ·rintro e24 hF
   refine aJ (wA rfl (kq (fun _ _ h=>h) hF (id) (fun(a41,a42)=>[(0,cO (9960,0)),(10,cI e24),(13,cI a42)]) (fun(a41,a42)=>[((9960,0),.arr 220 9 (List.map aj a41))]) (fun e48=>[]) (fun e48=>[((9960,0),.arr 220 9 (List.map aj e48))]) sw ?_ ?_))
   ·rintro e48 hF
    cases hF
    exact bZ ⟨_,_,e9,_,rfl,rfl,trivial,(AgM.weak ⟨rfl,trivial⟩)⟩
   rintro⟨a41,a42⟩ x_0 hF cont_0 brk_0 fin_0
   unfold gW at hF
   refine aJ (wA rfl (wIf hF rfl (fun _ hF=>?_) fun _ hF=>?_))
   ·refine aW (aJ (dV (n4 (by decide) (by kernel_rfl) rfl (bq SP 8 rfl ?_))));obtain⟨y49,hy49,hF⟩:=bB hF
    refine bz SP trivial (sx (tc:=aj) a41 rfl rfl rfl hy49 (bz SP trivial (BK (tc:=aj) a41 rfl rfl (kV hy49).2.1 rfl (bq SP 2 rfl ?_))));obtain⟨y50,hy50,hF⟩:=bB hF
    refine bz SP trivial (sx (tc:=aj) a41 rfl rfl rfl hy50 (bz SP trivial (BK (tc:=aj) a41 rfl rfl (kV hy50).2.1 rfl ?_)));obtain⟨y51,hy51,hF⟩:=bB hF
    refine bz SP trivial (sx (tc:=aj) a41 rfl rfl rfl hy51 (bz SP trivial (PJ (tc:=aj) a41 y49 rfl rfl (kV hy51).2.1 rfl rfl rfl rfl rfl ?_)));obtain⟨y52,hy52,hF⟩:=bB hF
    exact bz SP trivial (sx (tc:=aj) (List.set a41 (Int.toNat a42) y49) rfl rfl rfl hy52 (bz SP trivial (PJ (tc:=aj) (List.set a41 (Int.toNat a42) y49) y50 rfl rfl (kV hy52).2.1 rfl rfl rfl rfl rfl (QP rfl (wB rfl (cont_0 _ _ _ (oi hF) sw))))))
   exact fZ (aZ (aZ (cj (brk_0 _ _ _ (oi hF) sw))))
  rintro⟨a17,a18⟩ x_0 hF cont_0 brk_0 fin_0
  unfold gZ at hF
  refine aJ (wA rfl (wIf hF rfl (fun _ hF=>?_) fun _ hF=>?_))
  ·refine aW (dV (wA rfl (aJ (n4 (by decide) (by kernel_rfl) rfl (bq SP 3 rfl ?_)))));obtain⟨y54,hy54,hF⟩:=bB hF
   refine bz SP trivial (sx (tc:=aj) p0 rfl rfl rfl hy54 (bz SP trivial (BK (tc:=aj) p0 rfl rfl (kV hy54).2.1 rfl (bq SP 2 rfl ?_))));obtain⟨y55,hy55,hF⟩:=bB hF
   refine bz SP trivial (sx (tc:=aj) p0 rfl rfl rfl hy55 (bz SP trivial (BK (tc:=aj) p0 rfl rfl (kV hy55).2.1 rfl ?_)));obtain⟨r56,hr56,hF⟩:=bB hF
   refine bz SP trivial (ZK (E6 _ rfl Z3) (sV _ _ _ hr56) ⟨⟨rfl,rfl,rfl,rfl,rfl,rfl,rfl,rfl,rfl,trivial⟩,⟨rfl,rfl,rfl,rfl,rfl,rfl,rfl,rfl,rfl,trivial⟩,trivial⟩ rfl (.inl rfl) (QP rfl (wIf hF rfl (fun _ hF=>?_) fun _ hF=>?_)))
   ·exact wB rfl (cont_0 _ _ _ (oi hF) sw)
   exact wB rfl (cont_0 _ _ _ (oi hF) sw)
  exact fZ (aZ (aZ (cj (brk_0 _ _ _ (oi hF) sw))))
 refine aW (aJ (wA rfl (wIf hF rfl (fun _ hF=>?_) fun _ hF=>?_)))
 ·refine wA rfl (wA rfl (aJ (kq (fun _ _ h=>h) hF (id) (fun(a75,a76)=>[(0,cO (9960,0)),(2,cI p2),(4,.c (.fn 141 [])),(14,cI a75),(15,cI a76)]) (fun(a75,a76)=>[((9960,0),.arr 220 9 (List.map aj p0))]) (fun e82=>[(0,cO (9960,0)),(2,cI p2),(14,cI e82)]) (fun e82=>[((9960,0),.arr 220 9 (List.map aj p0))]) sw ?_ ?_)))
  ·rintro e82 hF
   refine aJ (wA rfl (kq (fun _ _ h=>h) hF (id) (fun(a99,a100)=>[(0,cO (9960,0)),(14,cI e82),(17,cI a100)]) (fun(a99,a100)=>[((9960,0),.arr 220 9 (List.map aj a99))]) (fun e106=>[]) (fun e106=>[((9960,0),.arr 220 9 (List.map aj e106))]) sw ?_ ?_))
   ·rintro e106 hF
    cases hF
    exact bZ ⟨_,_,e9,_,rfl,rfl,trivial,(AgM.weak ⟨rfl,trivial⟩)⟩
   rintro⟨a99,a100⟩ x_0 hF cont_0 brk_0 fin_0
   unfold gV at hF
   refine aJ (wA rfl (wIf hF rfl (fun _ hF=>?_) fun _ hF=>?_))
   ·refine aW (aJ (dV (n4 (by decide) (by kernel_rfl) rfl (bq SP 8 rfl ?_))));obtain⟨y107,hy107,hF⟩:=bB hF
    refine bz SP trivial (sx (tc:=aj) a99 rfl rfl rfl hy107 (bz SP trivial (BK (tc:=aj) a99 rfl rfl (kV hy107).2.1 rfl (bq SP 2 rfl ?_))))
    obtain⟨y108,hy108,hF⟩:=bB hF
    refine bz SP trivial (sx (tc:=aj) a99 rfl rfl rfl hy108 (bz SP trivial (BK (tc:=aj) a99 rfl rfl (kV hy108).2.1 rfl ?_)));obtain⟨y109,hy109,hF⟩:=bB hF
    refine bz SP trivial (sx (tc:=aj) a99 rfl rfl rfl hy109 (bz SP trivial (PJ (tc:=aj) a99 y107 rfl rfl (kV hy109).2.1 rfl rfl rfl rfl rfl ?_)));obtain⟨y110,hy110,hF⟩:=bB hF
    exact bz SP trivial (sx (tc:=aj) (List.set a99 (Int.toNat a100) y107) rfl rfl rfl hy110 (bz SP trivial (PJ (tc:=aj) (List.set a99 (Int.toNat a100) y107) y108 rfl rfl (kV hy110).2.1 rfl rfl rfl rfl rfl (QP rfl (wB rfl (cont_0 _ _ _ (oi hF) sw))))))
   exact fZ (aZ (aZ (cj (brk_0 _ _ _ (oi hF) sw))))
  rintro⟨a75,a76⟩ x_0 hF cont_0 brk_0 fin_0
  unfold gY at hF
  refine aJ (wA rfl (wIf hF rfl (fun _ hF=>?_) fun _ hF=>?_))
  ·refine aW (dV (wA rfl (aJ (n4 (by decide) (by kernel_rfl) rfl (bq SP 3 rfl ?_)))));obtain⟨y112,hy112,hF⟩:=bB hF
   refine bz SP trivial (sx (tc:=aj) p0 rfl rfl rfl hy112 (bz SP trivial (BK (tc:=aj) p0 rfl rfl (kV hy112).2.1 rfl (bq SP 2 rfl ?_))));obtain⟨y113,hy113,hF⟩:=bB hF
   refine bz SP trivial (sx (tc:=aj) p0 rfl rfl rfl hy113 (bz SP trivial (BK (tc:=aj) p0 rfl rfl (kV hy113).2.1 rfl ?_)));obtain⟨r114,hr114,hF⟩:=bB hF
   refine bz SP trivial (ZK (E6 _ rfl Z3) (sV _ _ _ hr114) ⟨⟨rfl,rfl,rfl,rfl,rfl,rfl,rfl,rfl,rfl,trivial⟩,⟨rfl,rfl,rfl,rfl,rfl,rfl,rfl,rfl,rfl,trivial⟩,trivial⟩ rfl (.inl rfl) (QP rfl (wIf hF rfl (fun _ hF=>?_) fun _ hF=>?_)))
   ·exact wB rfl (cont_0 _ _ _ (oi hF) sw)
   exact wB rfl (cont_0 _ _ _ (oi hF) sw)
  exact fZ (aZ (aZ (cj (brk_0 _ _ _ (oi hF) sw))))
 refine aW (wA rfl (wA rfl (wA rfl (aJ (wA rfl (eV (fun _ _ h=>h) hF (fun(v117,v118)=>[(0,cO (9960,0)),(1,cI p1),(2,cI p2),(3,cI p3),(4,.c (.fn 141 [])),(18,cI (w64 (shR .u64 (IntKind.wrap .u64 (w64 (p1+p3))) 1))),(19,cI (w64 ((w64 (shR .u64 (IntKind.wrap .u64 (w64 (p1+p3))) 1))+p2))),(20,cI v117),(21,cI v118)]) (fun(v117,v118)=>[((9960,0),.arr 220 9 (List.map aj p0))]) ?_ ?_))))))
 ·rintro⟨v117,v118⟩ hF
  refine wA rfl (aJ (kq (fun _ _ h=>h) hF (id) (fun(a135,a136)=>[(0,cO (9960,0)),(1,cI p1),(2,cI p2),(3,cI p3),(4,.c (.fn 141 [])),(18,cI (w64 (shR .u64 (IntKind.wrap .u64 (w64 (p1+p3))) 1))),(19,cI (w64 ((w64 (shR .u64 (IntKind.wrap .u64 (w64 (p1+p3))) 1))+p2))),(20,cI a135),(21,cI a136),(22,cI (w64 ((w64 ((w64 (shR .u64 (IntKind.wrap .u64 (w64 (p1+p3))) 1))+p2))-1)))]) (fun(a135,a136)=>[((9960,0),.arr 220 9 (List.map aj p0))]) (fun e142=>[(0,cO (9960,0)),(1,cI p1),(2,cI p2),(3,cI p3),(4,.c (.fn 141 [])),(18,cI (w64 (shR .u64 (IntKind.wrap .u64 (w64 (p1+p3))) 1))),(19,cI (w64 ((w64 (shR .u64 (IntKind.wrap .u64 (w64 (p1+p3))) 1))+p2))),(20,cI e142)]) (fun e142=>[((9960,0),.arr 220 9 (List.map aj p0))]) sw ?_ ?_))
  ·rintro e142 hF
   refine wA rfl (aJ (aJ (eV (fun _ _ h=>h) hF (fun v143=>[(0,cO (9960,0)),(1,cI p1),(2,cI p2),(3,cI p3),(4,.c (.fn 141 [])),(18,cI (w64 (shR .u64 (IntKind.wrap .u64 (w64 (p1+p3))) 1))),(20,cI e142),(24,cI (w64 ((w64 ((w64 (shR .u64 (IntKind.wrap .u64 (w64 (p1+p3))) 1))+p2))-e142))),(185,cB v143)]) (fun v143=>[((9960,0),.arr 220 9 (List.map aj p0))]) ?_ ?_)))
   ·rintro v143 hF
    refine eV (fun _ _ h=>h) hF (fun v144=>[(0,cO (9960,0)),(1,cI p1),(3,cI p3),(4,.c (.fn 141 [])),(18,cI (w64 (shR .u64 (IntKind.wrap .u64 (w64 (p1+p3))) 1))),(20,cI e142),(24,cI (w64 ((w64 ((w64 (shR .u64 (IntKind.wrap .u64 (w64 (p1+p3))) 1))+p2))-e142)))]) (fun v144=>[((9960,0),.arr 220 9 (List.map aj v144))]) ?_ ?_
    ·rintro v144 hF
     refine aJ (aJ (eV (fun _ _ h=>h) hF (fun v145=>[(0,cO (9960,0)),(1,cI p1),(3,cI p3),(4,.c (.fn 141 [])),(18,cI (w64 (shR .u64 (IntKind.wrap .u64 (w64 (p1+p3))) 1))),(20,cI e142),(24,cI (w64 ((w64 ((w64 (shR .u64 (IntKind.wrap .u64 (w64 (p1+p3))) 1))+p2))-e142))),(199,cB v145)]) (fun v145=>[((9960,0),.arr 220 9 (List.map aj v144))]) ?_ ?_))
     ·rintro v145 hF
      refine eV (fun _ _ h=>h) hF (fun v146=>[(0,cO (9960,0)),(3,cI p3),(4,.c (.fn 141 [])),(18,cI (w64 (shR .u64 (IntKind.wrap .u64 (w64 (p1+p3))) 1))),(24,cI (w64 ((w64 ((w64 (shR .u64 (IntKind.wrap .u64 (w64 (p1+p3))) 1))+p2))-e142)))]) (fun v146=>[((9960,0),.arr 220 9 (List.map aj v146))]) ?_ ?_
      ·rintro v146 hF
       refine aJ (eV (fun _ _ h=>h) hF (fun v147=>[(0,cO (9960,0)),(3,cI p3),(4,.c (.fn 141 [])),(18,cI (w64 (shR .u64 (IntKind.wrap .u64 (w64 (p1+p3))) 1))),(24,cI (w64 ((w64 ((w64 (shR .u64 (IntKind.wrap .u64 (w64 (p1+p3))) 1))+p2))-e142))),(213,cB v147)]) (fun v147=>[((9960,0),.arr 220 9 (List.map aj v146))]) ?_ ?_)
       ·rintro v147 hF
        refine wIf hF rfl (fun _ hF=>?_) fun _ hF=>?_
        ·refine wD 5 rfl ?_;obtain⟨r148,hr148,hF⟩:=bB hF
         refine jX trivial (n8 [] rfl (xJ _) (ih _ _ _ _ _ hr148) ⟨rfl,trivial⟩ ⟨.inl rfl,.inl rfl,.inl rfl,.inl rfl,.inl rfl,trivial⟩ rfl rfl rfl ?_);refine QV rfl ?_;cases hF
         exact⟨_,_,e9,_,rfl,rfl,trivial,(AgM.weak ⟨rfl,trivial⟩)⟩
        refine aW ?_;cases hF
        exact⟨_,_,e9,_,rfl,rfl,trivial,(AgM.weak ⟨rfl,trivial⟩)⟩
       intro join hF
       refine wD 4 rfl ?_;cases h150:(decide ((w64 (shR .u64 (IntKind.wrap .u64 (w64 (p1+p3))) 1))<(w64 ((w64 ((w64 (shR .u64 (IntKind.wrap .u64 (w64 (p1+p3))) 1))+p2))-e142))))
       ·have hF:=bF' h150 hF;exact QV rfl (join false _ _ hF sw)
       have hF:=bT' h150 hF;exact QV rfl (join (decide ((w64 ((w64 ((w64 (shR .u64 (IntKind.wrap .u64 (w64 (p1+p3))) 1))+p2))-e142))<p3)) _ _ hF sw)
      intro join hF
      refine FJ hF rfl (fun _ hF=>?_) fun _ hF=>?_
      ·refine wD 5 rfl ?_;obtain⟨r151,hr151,hF⟩:=bB' hF
       refine jX trivial (n8 [] rfl (xJ _) (ih _ _ _ _ _ hr151) ⟨rfl,trivial⟩ ⟨.inl rfl,.inl rfl,.inl rfl,.inl rfl,.inl rfl,trivial⟩ rfl rfl rfl ?_);exact QV rfl (join r151 _ _ hF sw)
      exact aW (join v144 _ _ hF sw)
     intro join hF
     refine wD 4 rfl ?_;cases h153:(decide (p1<e142))
     ·have hF:=bF' h153 hF;exact QV rfl (join false _ _ hF sw)
     have hF:=bT' h153 hF;exact QV rfl (join (decide (e142<(w64 (shR .u64 (IntKind.wrap .u64 (w64 (p1+p3))) 1)))) _ _ hF sw)
    intro join hF
    refine FJ hF rfl (fun _ hF=>?_) fun _ hF=>?_
    ·refine wD 5 rfl ?_;obtain⟨r154,hr154,hF⟩:=bB' hF
     refine jX trivial (n8 [((11320,0),(9960,0))] rfl (xJ _) (zj _ _ _ _ _ hr154) ⟨rfl,trivial⟩ ⟨.inl rfl,.inl rfl,.inl rfl,.inl rfl,.inl rfl,trivial⟩ rfl rfl rfl ?_)
     exact QV rfl (join r154 _ _ hF sw)
    exact aW (join p0 _ _ hF sw)
   intro join hF
   refine wD 4 rfl ?_;cases h156:(decide (e142<p2))
   ·have hF:=bF' h156 hF;exact QV rfl (join false _ _ hF sw)
   have hF:=bT' h156 hF;exact QV rfl (join (decide (p2<(w64 ((w64 ((w64 (shR .u64 (IntKind.wrap .u64 (w64 (p1+p3))) 1))+p2))-e142)))) _ _ hF sw)
  rintro⟨a135,a136⟩ x_0 hF cont_0 brk_0 fin_0
  unfold gK at hF
  refine aJ (wA rfl (wIf hF rfl (fun _ hF=>?_) fun _ hF=>?_))
  ·refine aW (dV (wA rfl (aJ (n4 (by decide) (by kernel_rfl) rfl (bq SP 5 rfl ?_)))));obtain⟨y157,hy157,hF⟩:=bB hF
   refine bz SP trivial (sx (tc:=aj) p0 rfl rfl rfl hy157 (bz SP trivial (BK (tc:=aj) p0 rfl rfl (kV hy157).2.1 rfl (bq SP 2 rfl ?_))));obtain⟨y158,hy158,hF⟩:=bB hF
   refine bz SP trivial (sx (tc:=aj) p0 rfl rfl rfl hy158 (bz SP trivial (BK (tc:=aj) p0 rfl rfl (kV hy158).2.1 rfl ?_)));obtain⟨r159,hr159,hF⟩:=bB hF
   refine bz SP trivial (ZK (E6 _ rfl Z3) (sV _ _ _ hr159) ⟨⟨rfl,rfl,rfl,rfl,rfl,rfl,rfl,rfl,rfl,trivial⟩,⟨rfl,rfl,rfl,rfl,rfl,rfl,rfl,rfl,rfl,trivial⟩,trivial⟩ rfl (.inl rfl) (QP rfl (wIf hF rfl (fun _ hF=>?_) fun _ hF=>?_)))
   ·exact wB rfl (cont_0 _ _ _ (oi hF) sw)
   exact wB rfl (cont_0 _ _ _ (oi hF) sw)
  exact fZ (aZ (aZ (cj (brk_0 _ _ _ (oi hF) sw))))
 intro join hF
 refine FJ hF rfl (fun _ hF=>?_) fun _ hF=>?_
 ·exact wA rfl (wB rfl (join ((w64 ((w64 ((w64 (shR .u64 (IntKind.wrap .u64 (w64 (p1+p3))) 1))+p2))-p3)),(w64 (shR .u64 (IntKind.wrap .u64 (w64 (p1+p3))) 1))) _ _ hF sw))
 exact wA rfl (wB rfl (join (p1,p2) _ _ hF sw))
theorem o5(p0:(List ax))(p1:Int)(p2:Int)(p3:Int)(r:(List ax))(hF:fK p0 p1 p2 p3=some r):Fun Tryz.prog 224 false [(9960,0)] [.c (.slO (9960,0)),.c (.imm (tI p1)),.c (.imm (tI p2)),.c (.imm (tI p3)),.c (.fn 141 [])] (aQ [((9960,0),.arr 220 9 (List.map aj p0))]) (.tup []) (aQ [((9960,0),.arr 220 9 (List.map aj r))]):=u7 _ p0 p1 p2 p3 r hF
def iX(p1:Int)(a81:Int):((List ax)×Int×Int)→Option (((List ax)×Int×Int) ⊕ ((List ax)×Int)):=fun(a95,a96,a97) =>
  (bif (decide (a97≤p1))then((fK a95 a96 (w64 (a96+a81)) a97).bind fun r105=>some (.inl (r105,a97,(w64 (a97+(w64 (2*a81)))))))else some (.inr (a95,a96)))
def m5(p1:Int):((List ax)×Int)→Option (((List ax)×Int) ⊕ (List ax)):=fun(a80,a81) =>
  (bif (decide (a81<p1))then((loop (iX p1 a81) (a80,0,(w64 (2*a81)))).bind fun(e100,e101)=>(((bif (decide ((w64 (e101+a81))<p1))then((fK e100 e101 (w64 (e101+a81)) p1).bind fun r103=>some r103)else some e100):Option (List ax)).bind fun v102=>some (.inl (v102,(w64 (a81*2))))))else some (.inr a80))
def jV(p1:Int):((List ax)×Int×Int)→Option (((List ax)×Int×Int) ⊕ ((List ax)×Int)):=fun(a14,a15,a16) =>
  (bif (decide (a16≤p1))then((d4 a14 a15 a16).bind fun r108=>some (.inl (r108,a16,(w64 (a16+20)))))else some (.inr (a14,a15)))
def jq(p0:(List ax))(p1:Int):Option (List ax) :=
  ((loop (jV p1) (p0,0,20)).bind fun(e19,e20)=>((d4 e19 e20 p1).bind fun r21=>(loop (m5 p1) (r21,20))))
theorem zQ(p0:(List ax))(p1:Int)(r:(List ax))(hF:jq p0 p1=some r):Fun Tryz.prog 190 false [(8600,0)] [cO (8600,0),cI p1,.c (.fn 141 [])] (aQ [((8600,0),.arr 220 9 (List.map aj p0))]) (.tup []) (aQ [((8600,0),.arr 220 9 (List.map aj r))]):=by
 refine fM [(8600,0)] (some [(8600,0)]) Tryz.func190 ?_
 unfold jq at hF
 refine wA rfl (wA rfl (aJ (kq (fun _ _ h=>h) hF (id) (fun(a14,a15,a16)=>[(0,cO (8600,0)),(1,cI p1),(2,.c (.fn 141 [])),(6,cI 20),(7,cI a15),(8,cI a16)]) (fun(a14,a15,a16)=>[((8600,0),.arr 220 9 (List.map aj a14))]) (fun(e19,e20)=>[(0,cO (8600,0)),(1,cI p1),(2,.c (.fn 141 [])),(6,cI 20),(7,cI e20)]) (fun(e19,e20)=>[((8600,0),.arr 220 9 (List.map aj e19))]) sw ?_ ?_)))
 ·rintro⟨e19,e20⟩ hF
  refine wC 4 rfl ?_;obtain⟨r21,hr21,hF⟩:=bB hF
  refine jX trivial (n8 [((9920,0),(8600,0))] rfl (xJ _) (nW _ _ _ _ hr21) ⟨rfl,trivial⟩ ⟨.inl rfl,.inl rfl,.inl rfl,.inl rfl,trivial⟩ rfl rfl rfl ?_)
  refine QV rfl (aDQ hF (fun(a80,a81)=>[(0,cO (8600,0)),(1,cI p1),(2,.c (.fn 141 [])),(6,cI a81)]) (fun(a80,a81)=>[((8600,0),.arr 220 9 (List.map aj a80))]) sw ?_)
  rintro⟨a80,a81⟩ x_0 hF cont_0 fin_0
  unfold m5 at hF
  refine aJ (wA rfl (wIf hF rfl (fun _ hF=>?_) fun _ hF=>?_))
  ·refine aW (dV (wA rfl (aJ (kq (fun _ _ h=>h) hF (id) (fun(a95,a96,a97)=>[(0,cO (8600,0)),(1,cI p1),(2,.c (.fn 141 [])),(6,cI a81),(7,cI a96),(8,cI a97)]) (fun(a95,a96,a97)=>[((8600,0),.arr 220 9 (List.map aj a95))]) (fun(e100,e101)=>[(0,cO (8600,0)),(1,cI p1),(2,.c (.fn 141 [])),(6,cI a81),(7,cI e101)]) (fun(e100,e101)=>[((8600,0),.arr 220 9 (List.map aj e100))]) sw ?_ ?_))))
   ·rintro⟨e100,e101⟩ hF
    refine aJ (wA rfl (wA rfl (eV (fun _ _ h=>h) hF (fun v102=>[(0,cO (8600,0)),(1,cI p1),(2,.c (.fn 141 [])),(6,cI a81)]) (fun v102=>[((8600,0),.arr 220 9 (List.map aj v102))]) ?_ ?_)))
    ·rintro v102 hF
     exact wB rfl (cont_0 _ _ _ (oi hF) sw)
    intro join hF
    refine FJ hF rfl (fun _ hF=>?_) fun _ hF=>?_
    ·refine wD 5 rfl ?_;obtain⟨r103,hr103,hF⟩:=bB' hF
     refine jX trivial (n8 [((9960,0),(8600,0))] rfl (xJ _) (o5 _ _ _ _ _ hr103) ⟨rfl,trivial⟩ ⟨.inl rfl,.inl rfl,.inl rfl,.inl rfl,.inl rfl,trivial⟩ rfl rfl rfl ?_)
     exact QV rfl (join r103 _ _ hF sw)
    exact aW (join e100 _ _ hF sw)
   rintro⟨a95,a96,a97⟩ x_1 hF cont_1 brk_1 fin_1
   unfold iX at hF
   refine aJ (wA rfl (wIf hF rfl (fun _ hF=>?_) fun _ hF=>?_))
   ·refine aW (dV (wC 7 rfl ?_));obtain⟨r105,hr105,hF⟩:=bB hF
    refine jX trivial (n8 [((9960,0),(8600,0))] rfl (xJ _) (o5 _ _ _ _ _ hr105) ⟨rfl,trivial⟩ ⟨.inl rfl,.inl rfl,.inl rfl,.inl rfl,.inl rfl,trivial⟩ rfl rfl rfl ?_)
    exact QV rfl (wA rfl (wB rfl (cont_1 _ _ _ (oi hF) sw)))
   exact fZ (aZ (aZ (cj (brk_1 _ _ _ (oi hF) sw))))
  refine fZ (aZ (aZ (cj ?_)));have hF:=fin_0 _ (oi hF);cases hF
  exact⟨_,_,e9,_,rfl,rfl,trivial,(AgM.weak ⟨rfl,trivial⟩)⟩
 rintro⟨a14,a15,a16⟩ x_0 hF cont_0 brk_0 fin_0
 unfold jV at hF
 refine aJ (wA rfl (wIf hF rfl (fun _ hF=>?_) fun _ hF=>?_))
 ·refine aW (dV (wC 4 rfl ?_));obtain⟨r108,hr108,hF⟩:=bB hF
  refine jX trivial (n8 [((9920,0),(8600,0))] rfl (xJ _) (nW _ _ _ _ hr108) ⟨rfl,trivial⟩ ⟨.inl rfl,.inl rfl,.inl rfl,.inl rfl,trivial⟩ rfl rfl rfl ?_)
  exact QV rfl (wA rfl (wB rfl (cont_0 _ _ _ (oi hF) sw)))
 exact fZ (aZ (aZ (cj (brk_0 _ _ _ (oi hF) sw))))
def dK(p0:(List ax)):Option (List ax) :=
  ((jq p0 (List.length p0:Int)).bind fun r1=>some r1)
theorem qY(p0:(List ax))(r:(List ax))(hF:dK p0=some r):Fun Tryz.prog 140 false [(6600,0)] [cO (6600,0),.c (.fn 141 [])] (aQ [((6600,0),.arr 220 9 (List.map aj p0))]) (.tup []) (aQ [((6600,0),.arr 220 9 (List.map aj r))]):=by
 refine fM [(6600,0)] (some [(6600,0)]) Tryz.func140 ?_
 unfold dK at hF
 refine wD 2 rfl (rS (fQ (tc:=aj) p0 (.own _ _ rfl) (bq SV 1 rfl ?_)));obtain⟨r1,hr1,hF⟩:=bB hF
 refine jX trivial (n8 [((8600,0),(6600,0))] rfl (xJ _) (zQ _ _ _ hr1) ⟨rfl,trivial⟩ ⟨.inl rfl,.inl rfl,.inl rfl,trivial⟩ rfl rfl rfl ?_);refine QV rfl ?_
 cases hF
 exact⟨_,_,e9,_,rfl,rfl,trivial,(AgM.weak ⟨rfl,trivial⟩)⟩
def ox(r34:(List ax))(e49:(List (Int×Int))):((List aX)×Int)→Option (((List aX)×Int) ⊕ (List aX)):=fun(a69,a70) =>
  (bif (decide (a70<(List.length r34:Int)))then((idx r34 a70).bind fun y81=>(((bif (decide (0≤(Option.getD (nY y81.q9.z2 e49) 0)))then((idx a69 (Option.getD (nY y81.q9.z2 e49) 0)).bind fun y85=>((idx a69 (Option.getD (nY y81.q9.z2 e49) 0)).bind fun y86=>((idx a69 (Option.getD (nY y81.q9.z2 e49) 0)).bind fun y87=>some ((List.set a69 (Int.toNat (Option.getD (nY y81.q9.z2 e49) 0)) ({q6:=y87.q6,z2:=y87.z2,j3:=y87.j3,q7:=y87.q7,q0:=y87.q0,x3:=(w64 (y86.x3-(w64 (y81.q9.q0.q8-y81.q9.q0.q5)))),w7:=y87.w7}:aX)),(w64 (y85.j3+1))))))else some (a69,0)):Option ((List aX)×Int)).bind fun(v82,v83)=>(bif H7 72 (List.length v82+List.length [({q6:=y81.q9.q6,z2:=(Option.getD (nY y81.q9.z2 e49) 0),j3:=v83,q7:=y81.q9.q7,q0:=y81.q9.q0,x3:=(w64 (y81.q9.q0.q8-y81.q9.q0.q5)),w7:=y81.q9.w7}:aX)])then some (.inl ((v82++[({q6:=y81.q9.q6,z2:=(Option.getD (nY y81.q9.z2 e49) 0),j3:=v83,q7:=y81.q9.q7,q0:=y81.q9.q0,x3:=(w64 (y81.q9.q0.q8-y81.q9.q0.q5)),w7:=y81.q9.w7}:aX)]),(w64 (a70+1))))else none)))else some (.inr a69))
def wz(r34:(List ax)):((List (Int×Int))×Int)→Option (((List (Int×Int))×Int) ⊕ (List (Int×Int))):=fun(a45,a46) =>
  (bif (decide (a46<(List.length r34:Int)))then((idx r34 a46).bind fun y90=>some (.inl ((afK y90.fold a46 a45),(w64 (a46+1)))))else some (.inr a45))
def sX(p0:(List aX))(p1:az):((List ax)×Int)→Option (((List ax)×Int) ⊕ (List ax)):=fun(a23,a24) =>
  (bif (decide (a24<(List.length p0:Int)))then((((idx p0 a24).bind fun y93=>((oW y93.q0 p1).bind fun r94=>(bif r94.2.1 then(((bif y93.w7 then some true else some r94.2.2):Option Bool).bind fun v95=>(bif H7 80 (List.length a23+List.length [({q9:=({q6:=y93.q6,z2:=y93.z2,j3:=y93.j3,q7:=y93.q7,q0:=r94.1,x3:=y93.x3,w7:=v95}:aX),fold:=a24}:ax)])then some (a23++[({q9:=({q6:=y93.q6,z2:=y93.z2,j3:=y93.j3,q7:=y93.q7,q0:=r94.1,x3:=y93.x3,w7:=v95}:aX),fold:=a24}:ax)])else none))else some a23))):Option (List ax)).bind fun v92=>some (.inl (v92,(w64 (a24+1)))))else some (.inr a23))
def wJ(p0:(List aX))(p1:az):Option (List aX) :=
  ((loop (sX p0 p1) ([],0)).bind fun e33=>((dK e33).bind fun r34=>((loop (wz r34) ((afK (-1) (-1) []),0)).bind fun e49=>((loop (ox r34 e49) ([],0)).bind fun e80=>some e80))))
theorem Pz(p0:(List aX))(p1:az)(r:(List aX))(hF:wJ p0 p1=some r):Fun Tryz.prog 41 false [] [cL 8 aK p0,.agg [jI p1.q5,jI p1.q8]] (aQ []) (cO (902,1640)) (aQ [((902,1640),.arr 67 8 (List.map aK r))]):=by
 refine fM [] (some []) Tryz.func41 ?_
 unfold wJ at hF
 refine wA rfl (wA rfl (aJ (wC 1 rfl (rS (fQ (tc:=aK) p0 .tree (QV rfl (kq (fun _ _ h=>h) hF (id) (fun(a23,a24)=>[(3,cP (3,0) 0),(5,cO (47,1)),(18,cL 8 aK p0),(19,cI (List.length p0:Int)),(20,cI a24)]) (fun(a23,a24)=>[((3,0),.box [jI p1.q5,jI p1.q8]),((47,1),.arr 220 9 (List.map aj a23))]) (fun e33=>[(5,cO (47,1))]) (fun e33=>[((47,1),.arr 220 9 (List.map aj e33))]) (R7 5 (47,1) 220 9 rfl rfl rfl rfl sw) ?_ ?_)))))))
 ·rintro e33 hF
  refine wC 1 rfl ?_;obtain⟨r34,hr34,hF⟩:=bB hF
  refine jX trivial (n8 [((6600,0),(47,1))] rfl (xJ _) (qY _ _ hr34) ⟨rfl,trivial⟩ ⟨.inl rfl,.inl rfl,trivial⟩ rfl rfl rfl ?_);refine QV rfl (wE (rS (aIJ (kd:=(.int .i64)) (kv:=kvI) (vv:=(fun y:Int=>(.one (tI y):MT))) rfl (rS (aDX (aeZ .i64) (vv:=(fun y:Int=>(.one (tI y):MT))) [] (-1) (-1) rfl rfl rfl rfl (QV rfl (aJ (wC 1 rfl (rS (fQ (tc:=aj) r34 (.own _ _ rfl) (QV rfl (kq (fun _ _ h=>h) hF (id) (fun(a45,a46)=>[(5,cO (47,1)),(11,cM (51,0)),(53,cO (47,1)),(54,cI (List.length r34:Int)),(55,cI a46)]) (fun(a45,a46)=>[((47,1),.arr 220 9 (List.map aj r34)),((51,0),o7 (.int .i64) kvI (fun y:Int=>(.one (tI y):MT)) a45)]) (fun e49=>[(5,cO (47,1)),(11,cM (51,0))]) (fun e49=>[((47,1),.arr 220 9 (List.map aj r34)),((51,0),o7 (.int .i64) kvI (fun y:Int=>(.one (tI y):MT)) e49)]) sw ?_ ?_))))))))))))
  ·rintro e49 hF
   refine wA rfl (aJ (wC 1 rfl (rS (fQ (tc:=aj) r34 (.own _ _ rfl) (QV rfl (kq (fun _ _ h=>h) hF (id) (fun(a69,a70)=>[(11,cM (51,0)),(14,cO (112,1)),(65,cO (47,1)),(66,cI (List.length r34:Int)),(67,cI a70)]) (fun(a69,a70)=>[((51,0),o7 (.int .i64) kvI (fun y:Int=>(.one (tI y):MT)) e49),((112,1),.arr 67 8 (List.map aK a69)),((47,1),.arr 220 9 (List.map aj r34))]) (fun e80=>[(14,cO (112,1))]) (fun e80=>[((112,1),.arr 67 8 (List.map aK e80))]) (R7 14 (112,1) 67 8 rfl rfl rfl rfl sw) ?_ ?_))))))
   ·rintro e80 hF
    refine wA rfl ?_;cases hF
    exact bZ ⟨_,_,(D6 (112,1) (902,1640) rfl rfl e9),_,rfl,rfl,rfl,(AgM.weak ⟨rfl,trivial⟩)⟩
   rintro⟨a69,a70⟩ x_0 hF cont_0 brk_0 fin_0
   unfold ox at hF
   refine wA rfl (aJ (wIf hF rfl (fun _ hF=>?_) fun _ hF=>?_))
   ·refine aW (aJ (dV (wE ?_)));obtain⟨y81,hy81,hF⟩:=bB hF
    refine rS (sx (tc:=aj) r34 rfl rfl rfl hy81 (rS (BK (tc:=aj) r34 rfl rfl (kV hy81).2.1 rfl (QV rfl (wA rfl (wC 3 rfl (rS (a6X (aeZ .i64) (vv:=(fun y:Int=>(.one (tI y):MT))) e49 y81.q9.z2 0 (.own _ rfl) rfl rfl (QV rfl (aJ (wA rfl (eV (fun _ _ h=>h) hF (fun(v82,v83)=>[(11,cM (51,0)),(14,cO (112,1)),(17,cP (17,0) 0),(65,cO (47,1)),(66,cI (List.length r34:Int)),(67,cI a70)]) (fun(v82,v83)=>[((51,0),o7 (.int .i64) kvI (fun y:Int=>(.one (tI y):MT)) e49),((112,1),.arr 67 8 (List.map aK v82)),((17,0),.box [jI y81.q9.q6,jI (Option.getD (nY y81.q9.z2 e49) 0),jI v83,jS y81.q9.q7,jI y81.q9.q0.q5,jI y81.q9.q0.q8,jI (w64 (y81.q9.q0.q8-y81.q9.q0.q5)),jB y81.q9.w7]),((47,1),.arr 220 9 (List.map aj r34))]) ?_ ?_))))))))))))
    ·rintro⟨v82,v83⟩ hF
     refine wD 2 rfl ?_;refine rS (L7 (tc:=aK) [({q6:=y81.q9.q6,z2:=(Option.getD (nY y81.q9.z2 e49) 0),j3:=v83,q7:=y81.q9.q7,q0:=y81.q9.q0,x3:=(w64 (y81.q9.q0.q8-y81.q9.q0.q5)),w7:=y81.q9.w7}:aX)] rfl ⟨rfl,rfl,rfl,rfl,rfl,rfl,rfl,rfl,trivial⟩ rfl (fun _=>rfl) rfl ?_)
     obtain⟨h84,hF⟩:=bbx hF
     exact rS (LZ (tc:=aK) v82 [({q6:=y81.q9.q6,z2:=(Option.getD (nY y81.q9.z2 e49) 0),j3:=v83,q7:=y81.q9.q7,q0:=y81.q9.q0,x3:=(w64 (y81.q9.q0.q8-y81.q9.q0.q5)),w7:=y81.q9.w7}:aX)] rfl rfl (.own _ _ rfl) h84 rfl (QV rfl (wB rfl (cont_0 _ _ _ (oi hF) (D6 (112,0) (112,1) rfl rfl sw)))))
    intro join hF
    refine FJ hF rfl (fun _ hF=>?_) fun _ hF=>?_
    ·refine wC 3 rfl ?_;obtain⟨y85,hy85,hF⟩:=bB' hF
     refine rS (sx (tc:=aK) a69 rfl rfl rfl hy85 (bq SV 1 rfl (rS (BK (tc:=aK) a69 rfl rfl (kV hy85).2.1 rfl (QV rfl (n4 (by decide) (by kernel_rfl) rfl (bq SP 3 rfl ?_)))))));obtain⟨y86,hy86,hF⟩:=bB' hF
     refine bz SP trivial (sx (tc:=aK) a69 rfl rfl rfl hy86 (bq SP 1 rfl (bz SP trivial (BK (tc:=aK) a69 rfl rfl (kV hy86).2.1 rfl (bq SP 3 rfl ?_)))))
     obtain⟨y87,hy87,hF⟩:=bB' hF
     exact bz SP trivial (sx (tc:=aK) a69 rfl rfl rfl hy87 (bq SP 1 rfl (bz SP trivial (PJ (tc:=aK) a69 ({q6:=y87.q6,z2:=y87.z2,j3:=y87.j3,q7:=y87.q7,q0:=y87.q0,x3:=(w64 (y86.x3-(w64 (y81.q9.q0.q8-y81.q9.q0.q5)))),w7:=y87.w7}:aX) rfl rfl (kV hy87).2.1 rfl rfl rfl rfl rfl (QP rfl (join ((List.set a69 (Int.toNat (Option.getD (nY y81.q9.z2 e49) 0)) ({q6:=y87.q6,z2:=y87.z2,j3:=y87.j3,q7:=y87.q7,q0:=y87.q0,x3:=(w64 (y86.x3-(w64 (y81.q9.q0.q8-y81.q9.q0.q5)))),w7:=y87.w7}:aX)),(w64 (y85.j3+1))) _ _ hF sw))))))
    exact aW (join (a69,0) _ _ hF sw)
   exact fZ (aZ (aZ (cj (brk_0 _ _ _ (oi hF) sw))))
  rintro⟨a45,a46⟩ x_0 hF cont_0 brk_0 fin_0
  unfold wz at hF
  refine wA rfl (aJ (wIf hF rfl (fun _ hF=>?_) fun _ hF=>?_))
  ·refine aW (aJ (dV (wC 1 rfl ?_)));obtain⟨y90,hy90,hF⟩:=bB hF
   exact rS (sx (tc:=aj) r34 rfl rfl rfl hy90 (rS (BK (tc:=aj) r34 rfl rfl (kV hy90).2.1 rfl (QV rfl (wD 4 rfl (rS (aDX (aeZ .i64) (vv:=(fun y:Int=>(.one (tI y):MT))) a45 y90.fold a46 rfl rfl rfl rfl (QV rfl (wB rfl (cont_0 _ _ _ (oi hF) sw))))))))))
  exact fZ (aZ (aZ (cj (brk_0 _ _ _ (oi hF) sw))))
 rintro⟨a23,a24⟩ x_0 hF cont_0 brk_0 fin_0
 unfold sX at hF
 refine wA rfl (aJ (wIf hF rfl (fun _ hF=>?_) fun _ hF=>?_))
 ·refine aW (aJ (eV (fun _ _ h=>h) hF (fun v92=>[(3,cP (3,0) 0),(5,cO (47,1)),(18,cL 8 aK p0),(19,cI (List.length p0:Int)),(20,cI a24)]) (fun v92=>[((3,0),.box [jI p1.q5,jI p1.q8]),((47,1),.arr 220 9 (List.map aj v92))]) ?_ ?_))
  ·rintro v92 hF
   exact wB rfl (cont_0 _ _ _ (oi hF) sw)
  intro join hF
  refine dV (wC 1 rfl ?_);obtain⟨y93,hy93,hF⟩:=bB' hF
  refine rS (i8 (tc:=aK) p0 rfl rfl hy93 (QV rfl (wC 3 rfl ?_)));obtain⟨r94,hr94,hF⟩:=bB' hF
  refine rS (dj (wX _ _ _ hr94) ⟨⟨rfl,rfl,trivial⟩,⟨rfl,rfl,trivial⟩,trivial⟩ rfl (.inl rfl) (QV rfl (wA rfl (FJ hF rfl (fun _ hF=>?_) fun _ hF=>?_))))
  ·refine aJ ?_;have hF:=bA hF;refine eV (fun _ _ h=>h) hF (fun v95=>[(3,cP (3,0) 0),(5,cO (47,1)),(6,cI a24),(7,cP (7,0) 0),(18,cL 8 aK p0),(19,cI (List.length p0:Int)),(20,cI a24)]) (fun v95=>[((3,0),.box [jI p1.q5,jI p1.q8]),((47,1),.arr 220 9 (List.map aj a23)),((7,0),.box [jI y93.q6,jI y93.z2,jI y93.j3,jS y93.q7,jI r94.1.q5,jI r94.1.q8,jI y93.x3,jB v95])]) ?_ ?_
   ·rintro v95 hF
    refine wD 4 rfl ?_;refine rS (L7 (tc:=aj) [({q9:=({q6:=y93.q6,z2:=y93.z2,j3:=y93.j3,q7:=y93.q7,q0:=r94.1,x3:=y93.x3,w7:=v95}:aX),fold:=a24}:ax)] rfl ⟨rfl,rfl,rfl,rfl,rfl,rfl,rfl,rfl,rfl,trivial⟩ rfl (fun _=>rfl) rfl ?_)
    obtain⟨h96,hF⟩:=NQ hF
    exact rS (LZ (tc:=aj) a23 [({q9:=({q6:=y93.q6,z2:=y93.z2,j3:=y93.j3,q7:=y93.q7,q0:=r94.1,x3:=y93.x3,w7:=v95}:aX),fold:=a24}:ax)] rfl rfl (.own _ _ rfl) h96 rfl (QV rfl (join (a23++[({q9:=({q6:=y93.q6,z2:=y93.z2,j3:=y93.j3,q7:=y93.q7,q0:=r94.1,x3:=y93.x3,w7:=v95}:aX),fold:=a24}:ax)]) _ _ hF (D6 (47,0) (47,1) rfl rfl sw))))
   intro join hF
   refine wD 4 rfl ?_;cases h97:y93.w7
   ·have hF:=bF' h97 hF;exact QV rfl (join r94.2.2 _ _ hF (acz (by repeat' first | constructor | (rw[h97];rfl)) (by repeat' first | constructor | (rw[h97];rfl))))
   have hF:=bT' h97 hF;exact QV rfl (join true _ _ hF (acz (by repeat' first | constructor | (rw[h97];rfl)) (by repeat' first | constructor | (rw[h97];rfl))))
  exact aW (join a23 _ _ hF sw)
 exact fZ (aZ (aZ (cj (brk_0 _ _ _ (oi hF) sw))))
def wq(p0:(List bj))(p1:az):((List bj)×Int)→Option (((List bj)×Int) ⊕ (List bj)):=fun(a23,a24) =>
  (bif (decide (a24<(List.length p0:Int)))then((((idx p0 a24).bind fun y35=>((oW y35.q0 p1).bind fun r36=>(bif (!r36.2.1)then some a23 else(((bif r36.2.2 then some (-1)else some y35.g9):Option Int).bind fun v37=>(bif H7 56 (List.length a23+List.length [({q6:=y35.q6,j8:=y35.j8,q0:=r36.1,x7:=y35.x7,g8:=y35.g8,g9:=v37}:bj)])then some (a23++[({q6:=y35.q6,j8:=y35.j8,q0:=r36.1,x7:=y35.x7,g8:=y35.g8,g9:=v37}:bj)])else none))))):Option (List bj)).bind fun v34=>some (.inl (v34,(w64 (a24+1)))))else some (.inr a23))
def wW(p0:(List bj))(p1:az):Option (List bj) :=
  ((loop (wq p0 p1) ([],0)).bind fun e33=>some e33)
theorem Pj(p0:(List bj))(p1:az)(r:(List bj))(hF:wW p0 p1=some r):Fun Tryz.prog 42 false [] [cL 7 bW p0,.agg [jI p1.q5,jI p1.q8]] (aQ []) (cO (902,1680)) (aQ [((902,1680),.arr 107 7 (List.map bW r))]):=by
 refine fM [] (some []) Tryz.func42 ?_
 unfold wW at hF
 refine wA rfl (wA rfl (aJ (wC 1 rfl (rS (fQ (tc:=bW) p0 .tree (QV rfl (kq (fun _ _ h=>h) hF (id) (fun(a23,a24)=>[(3,cP (3,0) 0),(5,cO (34,1)),(11,cL 7 bW p0),(12,cI (List.length p0:Int)),(13,cI a24)]) (fun(a23,a24)=>[((3,0),.box [jI p1.q5,jI p1.q8]),((34,1),.arr 107 7 (List.map bW a23))]) (fun e33=>[(5,cO (34,1))]) (fun e33=>[((34,1),.arr 107 7 (List.map bW e33))]) (R7 5 (34,1) 107 7 rfl rfl rfl rfl sw) ?_ ?_)))))))
 ·rintro e33 hF
  refine wA rfl ?_;cases hF
  exact bZ ⟨_,_,(D6 (34,1) (902,1680) rfl rfl e9),_,rfl,rfl,rfl,(AgM.weak ⟨rfl,trivial⟩)⟩
 rintro⟨a23,a24⟩ x_0 hF cont_0 brk_0 fin_0
 unfold wq at hF
 refine wA rfl (aJ (wIf hF rfl (fun _ hF=>?_) fun _ hF=>?_))
 ·refine aW (aJ (eV (fun _ _ h=>h) hF (fun v34=>[(3,cP (3,0) 0),(5,cO (34,1)),(11,cL 7 bW p0),(12,cI (List.length p0:Int)),(13,cI a24)]) (fun v34=>[((3,0),.box [jI p1.q5,jI p1.q8]),((34,1),.arr 107 7 (List.map bW v34))]) ?_ ?_))
  ·rintro v34 hF
   exact wB rfl (cont_0 _ _ _ (oi hF) sw)
  intro join hF
  refine dV (wE ?_);obtain⟨y35,hy35,hF⟩:=bB' hF
  refine rS (i8 (tc:=bW) p0 rfl rfl hy35 (QV rfl (wC 3 rfl ?_)));obtain⟨r36,hr36,hF⟩:=bB' hF
  refine rS (dj (wX _ _ _ hr36) ⟨⟨rfl,rfl,trivial⟩,⟨rfl,rfl,trivial⟩,trivial⟩ rfl (.inl rfl) (QV rfl (aJ (wA rfl (FJ hF rfl (fun _ hF=>?_) fun _ hF=>?_)))))
  ·exact fZ (aZ (cj (join a23 _ _ hF sw)))
  refine aW (wA rfl (aJ (wA rfl ?_)));have hF:=bA hF;refine eV (fun _ _ h=>h) hF (fun v37=>[(3,cP (3,0) 0),(5,cO (34,1)),(7,cP (7,0) 0),(11,cL 7 bW p0),(12,cI (List.length p0:Int)),(13,cI a24)]) (fun v37=>[((3,0),.box [jI p1.q5,jI p1.q8]),((34,1),.arr 107 7 (List.map bW a23)),((7,0),.box [jI y35.q6,jI y35.j8,jI r36.1.q5,jI r36.1.q8,jI y35.x7,jI y35.g8,jI v37])]) ?_ ?_
  ·rintro v37 hF
   refine wD 2 rfl ?_;refine rS (L7 (tc:=bW) [({q6:=y35.q6,j8:=y35.j8,q0:=r36.1,x7:=y35.x7,g8:=y35.g8,g9:=v37}:bj)] rfl ⟨rfl,rfl,rfl,rfl,rfl,rfl,rfl,trivial⟩ rfl (fun _=>rfl) rfl ?_)
   obtain⟨h38,hF⟩:=NQ hF
   exact rS (LZ (tc:=bW) a23 [({q6:=y35.q6,j8:=y35.j8,q0:=r36.1,x7:=y35.x7,g8:=y35.g8,g9:=v37}:bj)] rfl rfl (.own _ _ rfl) h38 rfl (QV rfl (join (a23++[({q6:=y35.q6,j8:=y35.j8,q0:=r36.1,x7:=y35.x7,g8:=y35.g8,g9:=v37}:bj)]) _ _ hF (D6 (34,0) (34,1) rfl rfl sw))))
  intro join hF
  refine FJ hF rfl (fun _ hF=>?_) fun _ hF=>?_
  ·exact wB rfl (join (-1) _ _ hF sw)
  exact aW (join y35.g9 _ _ hF sw)
 exact fZ (aZ (aZ (cj (brk_0 _ _ _ (oi hF) sw))))
def yW(p0:(List c7))(p1:az):((List c7)×Int)→Option (((List c7)×Int) ⊕ (List c7)):=fun(a25,a26) =>
  (bif (decide (a26<(List.length p0:Int)))then((((idx p0 a26).bind fun y38=>((((lZ p1 y38.w9).bind fun r42=>(bif r42 then((lZ p1 y38.v8).bind fun r44=>some r44)else some false)):Option Bool).bind fun v39=>(bif v39 then(bif H7 56 (List.length a25+List.length [({x6:=y38.x6,q5:=y38.q5,q8:=y38.q8,w9:=(w64 (y38.w9-p1.q5)),v8:=(w64 (y38.v8-p1.q5))}:c7)])then some (a25++[({x6:=y38.x6,q5:=y38.q5,q8:=y38.q8,w9:=(w64 (y38.w9-p1.q5)),v8:=(w64 (y38.v8-p1.q5))}:c7)])else none)else some a25))):Option (List c7)).bind fun v37=>some (.inl (v37,(w64 (a26+1)))))else some (.inr a25))
def zY(p0:(List c7))(p1:az):Option (List c7) :=
  ((loop (yW p0 p1) ([],0)).bind fun e36=>some e36)
theorem Q5(p0:(List c7))(p1:az)(r:(List c7))(hF:zY p0 p1=some r):Fun Tryz.prog 43 false [] [cL 7 c4 p0,.agg [jI p1.q5,jI p1.q8]] (aQ []) (cO (902,1720)) (aQ [((902,1720),.arr 90 7 (List.map c4 r))]):=by
 refine fM [] (some []) Tryz.func43 ?_
 unfold zY at hF
 refine wA rfl (wA rfl (aJ (wC 1 rfl (rS (fQ (tc:=c4) p0 .tree (QV rfl (kq (fun _ _ h=>h) hF (id) (fun(a25,a26)=>[(3,cP (3,0) 0),(5,cO (39,1)),(8,cL 7 c4 p0),(9,cI (List.length p0:Int)),(10,cI a26)]) (fun(a25,a26)=>[((3,0),.box [jI p1.q5,jI p1.q8]),((39,1),.arr 90 7 (List.map c4 a25))]) (fun e36=>[(5,cO (39,1))]) (fun e36=>[((39,1),.arr 90 7 (List.map c4 e36))]) (R7 5 (39,1) 90 7 rfl rfl rfl rfl sw) ?_ ?_)))))))
 ·rintro e36 hF
  refine wA rfl ?_;cases hF
  exact bZ ⟨_,_,(D6 (39,1) (902,1720) rfl rfl e9),_,rfl,rfl,rfl,(AgM.weak ⟨rfl,trivial⟩)⟩
 rintro⟨a25,a26⟩ x_0 hF cont_0 brk_0 fin_0
 unfold yW at hF
 refine wA rfl (aJ (wIf hF rfl (fun _ hF=>?_) fun _ hF=>?_))
 ·refine aW (aJ (eV (fun _ _ h=>h) hF (fun v37=>[(3,cP (3,0) 0),(5,cO (39,1)),(8,cL 7 c4 p0),(9,cI (List.length p0:Int)),(10,cI a26)]) (fun v37=>[((3,0),.box [jI p1.q5,jI p1.q8]),((39,1),.arr 90 7 (List.map c4 v37))]) ?_ ?_))
  ·rintro v37 hF
   exact wB rfl (cont_0 _ _ _ (oi hF) sw)
  intro join hF
  refine dV (wE ?_);obtain⟨y38,hy38,hF⟩:=bB' hF
  refine rS (i8 (tc:=c4) p0 rfl rfl hy38 (QV rfl (aJ ?_)));have hF:=bA hF;refine eV (fun _ _ h=>h) hF (fun v39=>[(3,cP (3,0) 0),(5,cO (39,1)),(7,cP (7,0) 0),(8,cL 7 c4 p0),(9,cI (List.length p0:Int)),(10,cI a26),(23,cB v39)]) (fun v39=>[((3,0),.box [jI p1.q5,jI p1.q8]),((39,1),.arr 90 7 (List.map c4 a25)),((7,0),.box (G1 y38))]) ?_ ?_
  ·rintro v39 hF
   refine FJ hF rfl (fun _ hF=>?_) fun _ hF=>?_
   ·refine wA rfl (wA rfl (wD 2 rfl ?_));refine rS (L7 (tc:=c4) [({x6:=y38.x6,q5:=y38.q5,q8:=y38.q8,w9:=(w64 (y38.w9-p1.q5)),v8:=(w64 (y38.v8-p1.q5))}:c7)] rfl ⟨rfl,rfl,rfl,rfl,rfl,rfl,rfl,trivial⟩ rfl (fun _=>rfl) rfl ?_)
    obtain⟨h40,hF⟩:=NQ hF
    exact rS (LZ (tc:=c4) a25 [({x6:=y38.x6,q5:=y38.q5,q8:=y38.q8,w9:=(w64 (y38.w9-p1.q5)),v8:=(w64 (y38.v8-p1.q5))}:c7)] rfl rfl (.own _ _ rfl) h40 rfl (QV rfl (join (a25++[({x6:=y38.x6,q5:=y38.q5,q8:=y38.q8,w9:=(w64 (y38.w9-p1.q5)),v8:=(w64 (y38.v8-p1.q5))}:c7)]) _ _ hF (D6 (39,0) (39,1) rfl rfl sw))))
   exact aW (join a25 _ _ hF sw)
  intro join hF
  refine wD 3 rfl ?_;obtain⟨r42,hr42,hF⟩:=bB' hF
  refine rS (dj (o9 _ _ _ hr42) ⟨⟨rfl,rfl,trivial⟩,rfl,trivial⟩ rfl (.inl rfl) (bq SV 1 rfl ?_));cases h43:r42
  ·have hF:=bF' h43 hF;exact QV rfl (join false _ _ hF sw)
  have hF:=bT' h43 hF;refine bq SV 3 rfl ?_;obtain⟨r44,hr44,hF⟩:=bB' hF
  exact bz SV rfl (dj (o9 _ _ _ hr44) ⟨⟨rfl,rfl,trivial⟩,rfl,trivial⟩ rfl (.inl rfl) (QV rfl (join r44 _ _ hF sw)))
 exact fZ (aZ (aZ (cj (brk_0 _ _ _ (oi hF) sw))))
def uQ(p0:(List bY))(p1:az):((List bY)×Int)→Option (((List bY)×Int) ⊕ (List bY)):=fun(a19,a20) =>
  (bif (decide (a20<(List.length p0:Int)))then((((idx p0 a20).bind fun y29=>((lZ p1 y29.j9).bind fun r30=>(bif r30 then(bif H7 48 (List.length a19+List.length [({q6:=y29.q6,j9:=(w64 (y29.j9-p1.q5)),w5:=y29.w5,j4:=y29.j4}:bY)])then some (a19++[({q6:=y29.q6,j9:=(w64 (y29.j9-p1.q5)),w5:=y29.w5,j4:=y29.j4}:bY)])else none)else some a19))):Option (List bY)).bind fun v28=>some (.inl (v28,(w64 (a20+1)))))else some (.inr a19))
def uK(p0:(List bY))(p1:az):Option (List bY) :=
  ((loop (uQ p0 p1) ([],0)).bind fun e27=>some e27)
theorem NV(p0:(List bY))(p1:az)(r:(List bY))(hF:uK p0 p1=some r):Fun Tryz.prog 44 false [] [cL 4 cV p0,.agg [jI p1.q5,jI p1.q8]] (aQ []) (cO (902,1760)) (aQ [((902,1760),.arr 92 4 (List.map cV r))]):=by
 refine fM [] (some []) Tryz.func44 ?_
 unfold uK at hF
 refine wA rfl (wA rfl (aJ (wC 1 rfl (rS (fQ (tc:=cV) p0 .tree (QV rfl (kq (fun _ _ h=>h) hF (id) (fun(a19,a20)=>[(3,cP (3,0) 0),(5,cO (27,1)),(8,cL 4 cV p0),(9,cI (List.length p0:Int)),(10,cI a20)]) (fun(a19,a20)=>[((3,0),.box [jI p1.q5,jI p1.q8]),((27,1),.arr 92 4 (List.map cV a19))]) (fun e27=>[(5,cO (27,1))]) (fun e27=>[((27,1),.arr 92 4 (List.map cV e27))]) (R7 5 (27,1) 92 4 rfl rfl rfl rfl sw) ?_ ?_)))))))
 ·rintro e27 hF
  refine wA rfl ?_;cases hF
  exact bZ ⟨_,_,(D6 (27,1) (902,1760) rfl rfl e9),_,rfl,rfl,rfl,(AgM.weak ⟨rfl,trivial⟩)⟩
 rintro⟨a19,a20⟩ x_0 hF cont_0 brk_0 fin_0
 unfold uQ at hF
 refine wA rfl (aJ (wIf hF rfl (fun _ hF=>?_) fun _ hF=>?_))
 ·refine aW (aJ (eV (fun _ _ h=>h) hF (fun v28=>[(3,cP (3,0) 0),(5,cO (27,1)),(8,cL 4 cV p0),(9,cI (List.length p0:Int)),(10,cI a20)]) (fun v28=>[((3,0),.box [jI p1.q5,jI p1.q8]),((27,1),.arr 92 4 (List.map cV v28))]) ?_ ?_))
  ·rintro v28 hF
   exact wB rfl (cont_0 _ _ _ (oi hF) sw)
  intro join hF
  refine dV (wE ?_);obtain⟨y29,hy29,hF⟩:=bB' hF
  refine rS (i8 (tc:=cV) p0 rfl rfl hy29 (QV rfl (wC 3 rfl ?_)));obtain⟨r30,hr30,hF⟩:=bB' hF
  refine rS (dj (o9 _ _ _ hr30) ⟨⟨rfl,rfl,trivial⟩,rfl,trivial⟩ rfl (.inl rfl) (QV rfl (FJ hF rfl (fun _ hF=>?_) fun _ hF=>?_)))
  ·refine wA rfl (wD 2 rfl ?_);refine rS (L7 (tc:=cV) [({q6:=y29.q6,j9:=(w64 (y29.j9-p1.q5)),w5:=y29.w5,j4:=y29.j4}:bY)] rfl ⟨rfl,rfl,rfl,rfl,trivial⟩ rfl (fun _=>rfl) rfl ?_)
   obtain⟨h31,hF⟩:=NQ hF
   exact rS (LZ (tc:=cV) a19 [({q6:=y29.q6,j9:=(w64 (y29.j9-p1.q5)),w5:=y29.w5,j4:=y29.j4}:bY)] rfl rfl (.own _ _ rfl) h31 rfl (QV rfl (join (a19++[({q6:=y29.q6,j9:=(w64 (y29.j9-p1.q5)),w5:=y29.w5,j4:=y29.j4}:bY)]) _ _ hF (D6 (27,0) (27,1) rfl rfl sw))))
  exact aW (join a19 _ _ hF sw)
 exact fZ (aZ (aZ (cj (brk_0 _ _ _ (oi hF) sw))))
def tj(p0:(List bJ))(p1:az):((List bJ)×Int)→Option (((List bJ)×Int) ⊕ (List bJ)):=fun(a24,a25) =>
  (bif (decide (a25<(List.length p0:Int)))then((((idx p0 a25).bind fun y39=>(bif (decide (p1.q8≤y39.j9))then some a24 else(((bif (decide (0<(List.length a24:Int)))then((idx a24 (w64 ((List.length a24:Int)-1))).bind fun y45=>(bif (decide (y45.q7=y39.q7))then some (decide ((max (w64 (y39.j9-p1.q5)) 0)=0))else some false))else some false):Option Bool).bind fun v40=>(bif v40 then((idx a24 (w64 ((List.length a24:Int)-1))).bind fun y41=>some (List.set a24 (Int.toNat (w64 ((List.length a24:Int)-1))) ({q7:=y39.q7,j9:=(max (w64 (y39.j9-p1.q5)) 0),j6:=y39.j6}:bJ)))else(bif H7 32 (List.length a24+List.length [({q7:=y39.q7,j9:=(max (w64 (y39.j9-p1.q5)) 0),j6:=y39.j6}:bJ)])then some (a24++[({q7:=y39.q7,j9:=(max (w64 (y39.j9-p1.q5)) 0),j6:=y39.j6}:bJ)])else none))))):Option (List bJ)).bind fun v38=>some (.inl (v38,(w64 (a25+1)))))else some (.inr a24))
def zV(p0:(List bJ))(p1:az):Option (List bJ) :=
  ((loop (tj p0 p1) ([],0)).bind fun e37=>some e37)
theorem Q8(p0:(List bJ))(p1:az)(r:(List bJ))(hF:zV p0 p1=some r):Fun Tryz.prog 45 false [] [cL 3 c5 p0,.agg [jI p1.q5,jI p1.q8]] (aQ []) (cO (902,1800)) (aQ [((902,1800),.arr 95 3 (List.map c5 r))]):=by
 refine fM [] (some []) Tryz.func45 ?_
 unfold zV at hF
 refine wA rfl (wA rfl (aJ (wC 1 rfl (rS (fQ (tc:=c5) p0 .tree (QV rfl (kq (fun _ _ h=>h) hF (id) (fun(a24,a25)=>[(3,cP (3,0) 0),(5,cO (55,1)),(9,cL 3 c5 p0),(10,cI (List.length p0:Int)),(11,cI a25)]) (fun(a24,a25)=>[((3,0),.box [jI p1.q5,jI p1.q8]),((55,1),.arr 95 3 (List.map c5 a24))]) (fun e37=>[(5,cO (55,1))]) (fun e37=>[((55,1),.arr 95 3 (List.map c5 e37))]) (R7 5 (55,1) 95 3 rfl rfl rfl rfl sw) ?_ ?_)))))))
 ·rintro e37 hF
  refine wA rfl ?_;cases hF
  exact bZ ⟨_,_,(D6 (55,1) (902,1800) rfl rfl e9),_,rfl,rfl,rfl,(AgM.weak ⟨rfl,trivial⟩)⟩
 rintro⟨a24,a25⟩ x_0 hF cont_0 brk_0 fin_0
 unfold tj at hF
 refine wA rfl (aJ (wIf hF rfl (fun _ hF=>?_) fun _ hF=>?_))
 ·refine aW (aJ (eV (fun _ _ h=>h) hF (fun v38=>[(3,cP (3,0) 0),(5,cO (55,1)),(9,cL 3 c5 p0),(10,cI (List.length p0:Int)),(11,cI a25)]) (fun v38=>[((3,0),.box [jI p1.q5,jI p1.q8]),((55,1),.arr 95 3 (List.map c5 v38))]) ?_ ?_))
  ·rintro v38 hF
   exact wB rfl (cont_0 _ _ _ (oi hF) sw)
  intro join hF
  refine dV (wE ?_);obtain⟨y39,hy39,hF⟩:=bB' hF
  refine rS (i8 (tc:=c5) p0 rfl rfl hy39 (QV rfl (aJ (wA rfl (FJ hF rfl (fun _ hF=>?_) fun _ hF=>?_)))))
  ·exact fZ (aZ (cj (join a24 _ _ hF sw)))
  refine aW (wA rfl (aJ (wC 1 rfl (rS (fQ (tc:=c5) a24 (.own _ _ rfl) (QV rfl (aJ ?_)))))));have hF:=bA hF;refine eV (fun _ _ h=>h) hF (fun v40=>[(3,cP (3,0) 0),(5,cO (55,1)),(7,cP (7,0) 0),(8,cI (List.length a24:Int)),(9,cL 3 c5 p0),(10,cI (List.length p0:Int)),(11,cI a25),(46,cB v40)]) (fun v40=>[((3,0),.box [jI p1.q5,jI p1.q8]),((55,1),.arr 95 3 (List.map c5 a24)),((7,0),.box [jS y39.q7,jI (max (w64 (y39.j9-p1.q5)) 0),jI y39.j6])]) ?_ ?_
  ·rintro v40 hF
   refine FJ hF rfl (fun _ hF=>?_) fun _ hF=>?_
   ·refine wC 4 rfl ?_;obtain⟨y41,hy41,hF⟩:=bB' hF
    exact rS (sx (tc:=c5) a24 rfl rfl rfl hy41 (rS (PJ (tc:=c5) a24 ({q7:=y39.q7,j9:=(max (w64 (y39.j9-p1.q5)) 0),j6:=y39.j6}:bJ) rfl rfl (kV hy41).2.1 rfl rfl rfl rfl rfl (QV rfl (fZ (aZ (cj (join (List.set a24 (Int.toNat (w64 ((List.length a24:Int)-1))) ({q7:=y39.q7,j9:=(max (w64 (y39.j9-p1.q5)) 0),j6:=y39.j6}:bJ)) _ _ hF sw))))))))
   refine aW (wD 2 rfl ?_);refine rS (L7 (tc:=c5) [({q7:=y39.q7,j9:=(max (w64 (y39.j9-p1.q5)) 0),j6:=y39.j6}:bJ)] rfl ⟨rfl,rfl,rfl,trivial⟩ rfl (fun _=>rfl) rfl ?_)
   obtain⟨h42,hF⟩:=NQ hF
   exact rS (LZ (tc:=c5) a24 [({q7:=y39.q7,j9:=(max (w64 (y39.j9-p1.q5)) 0),j6:=y39.j6}:bJ)] rfl rfl (.own _ _ rfl) h42 rfl (QV rfl (join (a24++[({q7:=y39.q7,j9:=(max (w64 (y39.j9-p1.q5)) 0),j6:=y39.j6}:bJ)]) _ _ hF (D6 (55,0) (55,1) rfl rfl sw))))
  intro join hF
  refine n4 (by decide) (by kernel_rfl) rfl (bq SP 3 rfl ?_);cases h44:(decide (0<(List.length a24:Int)))
  ·have hF:=bF' h44 hF;exact QP rfl (join false _ _ hF sw)
  have hF:=bT' h44 hF;refine bq SP 3 rfl ?_;obtain⟨y45,hy45,hF⟩:=bB' hF
  refine bz SP rfl (sx (tc:=c5) a24 rfl rfl rfl hy45 (bq SP 1 rfl (bz SP rfl (BK (tc:=c5) a24 rfl rfl (kV hy45).2.1 rfl (bq SP 5 rfl ?_)))))
  cases h46:(decide (y45.q7=y39.q7))
  ·have hF:=bF' h46 hF;exact QP rfl (join false _ _ hF sw)
  have hF:=bT' h46 hF;exact QP rfl (join (decide ((max (w64 (y39.j9-p1.q5)) 0)=0)) _ _ hF sw)
 exact fZ (aZ (aZ (cj (brk_0 _ _ _ (oi hF) sw))))
def wQ(p0:(List cz))(p1:az):((List cz)×Int)→Option (((List cz)×Int) ⊕ (List cz)):=fun(a23,a24) =>
  (bif (decide (a24<(List.length p0:Int)))then((((idx p0 a24).bind fun y35=>((oW y35.q0 p1).bind fun r36=>(bif r36.2.1 then(((bif y35.x9 then some true else some r36.2.2):Option Bool).bind fun v37=>(bif H7 72 (List.length a23+List.length [({x6:=y35.x6,q6:=y35.q6,x5:=y35.x5,q0:=r36.1,j4:=y35.j4,x9:=v37}:cz)])then some (a23++[({x6:=y35.x6,q6:=y35.q6,x5:=y35.x5,q0:=r36.1,j4:=y35.j4,x9:=v37}:cz)])else none))else some a23))):Option (List cz)).bind fun v34=>some (.inl (v34,(w64 (a24+1)))))else some (.inr a23))
def xV(p0:(List cz))(p1:az):Option (List cz) :=
  ((loop (wQ p0 p1) ([],0)).bind fun e33=>some e33)
theorem Pq(p0:(List cz))(p1:az)(r:(List cz))(hF:xV p0 p1=some r):Fun Tryz.prog 46 false [] [cL 7 cq p0,.agg [jI p1.q5,jI p1.q8]] (aQ []) (cO (902,1840)) (aQ [((902,1840),.arr 97 7 (List.map cq r))]):=by
 refine fM [] (some []) Tryz.func46 ?_
 unfold xV at hF
 refine wA rfl (wA rfl (aJ (wC 1 rfl (rS (fQ (tc:=cq) p0 .tree (QV rfl (kq (fun _ _ h=>h) hF (id) (fun(a23,a24)=>[(3,cP (3,0) 0),(5,cO (37,1)),(11,cL 7 cq p0),(12,cI (List.length p0:Int)),(13,cI a24)]) (fun(a23,a24)=>[((3,0),.box [jI p1.q5,jI p1.q8]),((37,1),.arr 97 7 (List.map cq a23))]) (fun e33=>[(5,cO (37,1))]) (fun e33=>[((37,1),.arr 97 7 (List.map cq e33))]) (R7 5 (37,1) 97 7 rfl rfl rfl rfl sw) ?_ ?_)))))))
 ·rintro e33 hF
  refine wA rfl ?_;cases hF
  exact bZ ⟨_,_,(D6 (37,1) (902,1840) rfl rfl e9),_,rfl,rfl,rfl,(AgM.weak ⟨rfl,trivial⟩)⟩
 rintro⟨a23,a24⟩ x_0 hF cont_0 brk_0 fin_0
 unfold wQ at hF
 refine wA rfl (aJ (wIf hF rfl (fun _ hF=>?_) fun _ hF=>?_))
 ·refine aW (aJ (eV (fun _ _ h=>h) hF (fun v34=>[(3,cP (3,0) 0),(5,cO (37,1)),(11,cL 7 cq p0),(12,cI (List.length p0:Int)),(13,cI a24)]) (fun v34=>[((3,0),.box [jI p1.q5,jI p1.q8]),((37,1),.arr 97 7 (List.map cq v34))]) ?_ ?_))
  ·rintro v34 hF
   exact wB rfl (cont_0 _ _ _ (oi hF) sw)
  intro join hF
  refine dV (wE ?_);obtain⟨y35,hy35,hF⟩:=bB' hF
  refine rS (i8 (tc:=cq) p0 rfl rfl hy35 (QV rfl (wC 3 rfl ?_)));obtain⟨r36,hr36,hF⟩:=bB' hF
  refine rS (dj (wX _ _ _ hr36) ⟨⟨rfl,rfl,trivial⟩,⟨rfl,rfl,trivial⟩,trivial⟩ rfl (.inl rfl) (QV rfl (wA rfl (FJ hF rfl (fun _ hF=>?_) fun _ hF=>?_))))
  ·refine aJ ?_;have hF:=bA hF;refine eV (fun _ _ h=>h) hF (fun v37=>[(3,cP (3,0) 0),(5,cO (37,1)),(7,cP (7,0) 0),(11,cL 7 cq p0),(12,cI (List.length p0:Int)),(13,cI a24)]) (fun v37=>[((3,0),.box [jI p1.q5,jI p1.q8]),((37,1),.arr 97 7 (List.map cq a23)),((7,0),.box [jI y35.x6,jI y35.q6,jI y35.x5,jI r36.1.q5,jI r36.1.q8,jL 1 CW y35.j4,jB v37])]) ?_ ?_
   ·rintro v37 hF
    refine wD 2 rfl ?_;refine rS (L7 (tc:=cq) [({x6:=y35.x6,q6:=y35.q6,x5:=y35.x5,q0:=r36.1,j4:=y35.j4,x9:=v37}:cz)] rfl ⟨rfl,rfl,rfl,rfl,rfl,rfl,rfl,trivial⟩ rfl (fun _=>rfl) rfl ?_)
    obtain⟨h38,hF⟩:=NQ hF
    exact rS (LZ (tc:=cq) a23 [({x6:=y35.x6,q6:=y35.q6,x5:=y35.x5,q0:=r36.1,j4:=y35.j4,x9:=v37}:cz)] rfl rfl (.own _ _ rfl) h38 rfl (QV rfl (join (a23++[({x6:=y35.x6,q6:=y35.q6,x5:=y35.x5,q0:=r36.1,j4:=y35.j4,x9:=v37}:cz)]) _ _ hF (D6 (37,0) (37,1) rfl rfl sw))))
   intro join hF
   refine wD 4 rfl ?_;cases h39:y35.x9
   ·have hF:=bF' h39 hF;exact QV rfl (join r36.2.2 _ _ hF (acz (by repeat' first | constructor | (rw[h39];rfl)) (by repeat' first | constructor | (rw[h39];rfl))))
   have hF:=bT' h39 hF;exact QV rfl (join true _ _ hF (acz (by repeat' first | constructor | (rw[h39];rfl)) (by repeat' first | constructor | (rw[h39];rfl))))
  exact aW (join a23 _ _ hF sw)
 exact fZ (aZ (aZ (cj (brk_0 _ _ _ (oi hF) sw))))
def vJ(p0:(List fJ))(p1:az):((List fJ)×Int)→Option (((List fJ)×Int) ⊕ (List fJ)):=fun(a19,a20) =>
  (bif (decide (a20<(List.length p0:Int)))then((((idx p0 a20).bind fun y29=>((oW y29.q0 p1).bind fun r30=>(bif r30.2.1 then(bif H7 32 (List.length a19+List.length [({q6:=y29.q6,q0:=r30.1,w6:=y29.w6}:fJ)])then some (a19++[({q6:=y29.q6,q0:=r30.1,w6:=y29.w6}:fJ)])else none)else some a19))):Option (List fJ)).bind fun v28=>some (.inl (v28,(w64 (a20+1)))))else some (.inr a19))
def xZ(p0:(List fJ))(p1:az):Option (List fJ) :=
  ((loop (vJ p0 p1) ([],0)).bind fun e27=>some e27)
theorem O9(p0:(List fJ))(p1:az)(r:(List fJ))(hF:xZ p0 p1=some r):Fun Tryz.prog 47 false [] [cL 4 fj p0,.agg [jI p1.q5,jI p1.q8]] (aQ []) (cO (902,1880)) (aQ [((902,1880),.arr 77 4 (List.map fj r))]):=by
 refine fM [] (some []) Tryz.func47 ?_
 unfold xZ at hF
 refine wA rfl (wA rfl (aJ (wC 1 rfl (rS (fQ (tc:=fj) p0 .tree (QV rfl (kq (fun _ _ h=>h) hF (id) (fun(a19,a20)=>[(3,cP (3,0) 0),(5,cO (31,1)),(11,cL 4 fj p0),(12,cI (List.length p0:Int)),(13,cI a20)]) (fun(a19,a20)=>[((3,0),.box [jI p1.q5,jI p1.q8]),((31,1),.arr 77 4 (List.map fj a19))]) (fun e27=>[(5,cO (31,1))]) (fun e27=>[((31,1),.arr 77 4 (List.map fj e27))]) (R7 5 (31,1) 77 4 rfl rfl rfl rfl sw) ?_ ?_)))))))
 ·rintro e27 hF
  refine wA rfl ?_;cases hF
  exact bZ ⟨_,_,(D6 (31,1) (902,1880) rfl rfl e9),_,rfl,rfl,rfl,(AgM.weak ⟨rfl,trivial⟩)⟩
 rintro⟨a19,a20⟩ x_0 hF cont_0 brk_0 fin_0
 unfold vJ at hF
 refine wA rfl (aJ (wIf hF rfl (fun _ hF=>?_) fun _ hF=>?_))
 ·refine aW (aJ (eV (fun _ _ h=>h) hF (fun v28=>[(3,cP (3,0) 0),(5,cO (31,1)),(11,cL 4 fj p0),(12,cI (List.length p0:Int)),(13,cI a20)]) (fun v28=>[((3,0),.box [jI p1.q5,jI p1.q8]),((31,1),.arr 77 4 (List.map fj v28))]) ?_ ?_))
  ·rintro v28 hF
   exact wB rfl (cont_0 _ _ _ (oi hF) sw)
  intro join hF
  refine dV (wE ?_);obtain⟨y29,hy29,hF⟩:=bB' hF
  refine rS (i8 (tc:=fj) p0 rfl rfl hy29 (QV rfl (wC 3 rfl ?_)));obtain⟨r30,hr30,hF⟩:=bB' hF
  refine rS (dj (wX _ _ _ hr30) ⟨⟨rfl,rfl,trivial⟩,⟨rfl,rfl,trivial⟩,trivial⟩ rfl (.inl rfl) (QV rfl (wA rfl (FJ hF rfl (fun _ hF=>?_) fun _ hF=>?_))))
  ·refine wA rfl (wD 2 rfl ?_);refine rS (L7 (tc:=fj) [({q6:=y29.q6,q0:=r30.1,w6:=y29.w6}:fJ)] rfl ⟨rfl,rfl,rfl,rfl,trivial⟩ rfl (fun _=>rfl) rfl ?_)
   obtain⟨h31,hF⟩:=NQ hF
   exact rS (LZ (tc:=fj) a19 [({q6:=y29.q6,q0:=r30.1,w6:=y29.w6}:fJ)] rfl rfl (.own _ _ rfl) h31 rfl (QV rfl (join (a19++[({q6:=y29.q6,q0:=r30.1,w6:=y29.w6}:fJ)]) _ _ hF (D6 (31,0) (31,1) rfl rfl sw))))
  exact aW (join a19 _ _ hF sw)
 exact fZ (aZ (aZ (cj (brk_0 _ _ _ (oi hF) sw))))
def pY(p0:cW)(p1:az):Option (cW×Int) :=
  ((lq p0).bind fun r1=>(bif (!decide (r1=0))then some (({q0:=({q5:=0,q8:=0}:az),z3:=[],z6:=[],j7:=[],v9:=[],z9:=[],w4:=[],j5:=[],x4:=[]}:cW),r1)else((lz p1).bind fun r2=>(bif (!r2)then some (({q0:=({q5:=0,q8:=0}:az),z3:=[],z6:=[],j7:=[],v9:=[],z9:=[],w4:=[],j5:=[],x4:=[]}:cW),1)else(bif (decide ((min p1.q8 p0.q0.q8)≤(max p1.q5 p0.q0.q5)))then some (({q0:=({q5:=0,q8:=0}:az),z3:=p0.z3,z6:=[],j7:=[],v9:=[],z9:=[],w4:=[],j5:=[],x4:=[]}:cW),0)else((wJ p0.z6 ({q5:=(max p1.q5 p0.q0.q5),q8:=(min p1.q8 p0.q0.q8)}:az)).bind fun r3=>((wW p0.j7 ({q5:=(max p1.q5 p0.q0.q5),q8:=(min p1.q8 p0.q0.q8)}:az)).bind fun r4=>((zY p0.v9 ({q5:=(max p1.q5 p0.q0.q5),q8:=(min p1.q8 p0.q0.q8)}:az)).bind fun r5=>((uK p0.z9 ({q5:=(max p1.q5 p0.q0.q5),q8:=(min p1.q8 p0.q0.q8)}:az)).bind fun r6=>((zV p0.w4 ({q5:=(max p1.q5 p0.q0.q5),q8:=(min p1.q8 p0.q0.q8)}:az)).bind fun r7=>((xV p0.j5 ({q5:=(max p1.q5 p0.q0.q5),q8:=(min p1.q8 p0.q0.q8)}:az)).bind fun r8=>((xZ p0.x4 ({q5:=(max p1.q5 p0.q0.q5),q8:=(min p1.q8 p0.q0.q8)}:az)).bind fun r9=>some (({q0:=({q5:=0,q8:=(w64 ((min p1.q8 p0.q0.q8)-(max p1.q5 p0.q0.q5)))}:az),z3:=p0.z3,z6:=r3,j7:=r4,v9:=r5,z9:=r6,w4:=r7,j5:=r8,x4:=r9}:cW),0)))))))))))))
theorem I3(p0:cW)(p1:az)(r:(cW×Int))(hF:pY p0 p1=some r):Fun Tryz.prog 14 false [] [.agg (nJ p0),.agg [jI p1.q5,jI p1.q8]] (aQ []) (.tup [.agg [jI r.1.q0.q5,jI r.1.q0.q8,jL 3 fX r.1.z3,.slO (902,560),.slO (902,561),.slO (902,562),.slO (902,563),.slO (902,564),.slO (902,565),.slO (902,566)],cI r.2]) (aQ [((902,560),.arr 67 8 (List.map aK r.1.z6)),((902,561),.arr 107 7 (List.map bW r.1.j7)),((902,562),.arr 90 7 (List.map c4 r.1.v9)),((902,563),.arr 92 4 (List.map cV r.1.z9)),((902,564),.arr 95 3 (List.map c5 r.1.w4)),((902,565),.arr 97 7 (List.map cq r.1.j5)),((902,566),.arr 77 4 (List.map fj r.1.x4))]):=by
 refine fM [] (some []) Tryz.func14 ?_
 unfold pY at hF
 refine wA rfl (aJ (wC 1 rfl ?_));obtain⟨r1,hr1,hF⟩:=bB hF
 refine rS (dj (YW _ _ hr1) ⟨⟨rfl,rfl,rfl,rfl,rfl,rfl,rfl,rfl,rfl,rfl,trivial⟩,trivial⟩ rfl (.inl rfl) (QV rfl (wA rfl (wIf hF rfl (fun _ hF=>?_) fun _ hF=>?_))))
 ·refine wA rfl ?_;cases hF
  exact bZ ⟨_,_,(tZ (4,0) _ 3 (902,560) 67 8 rfl rfl rfl rfl rfl (tZ (4,0) _ 4 (902,561) 107 7 rfl rfl rfl rfl rfl (tZ (4,0) _ 5 (902,562) 90 7 rfl rfl rfl rfl rfl (tZ (4,0) _ 6 (902,563) 92 4 rfl rfl rfl rfl rfl (tZ (4,0) _ 7 (902,564) 95 3 rfl rfl rfl rfl rfl (tZ (4,0) _ 8 (902,565) 97 7 rfl rfl rfl rfl rfl (tZ (4,0) _ 9 (902,566) 77 4 rfl rfl rfl rfl rfl e9))))))),_,rfl,rfl,⟨⟨⟨rfl,fun _=>rfl⟩,⟨rfl,fun _=>rfl⟩,rfl,rfl,rfl,rfl,rfl,rfl,rfl,rfl,trivial⟩,⟨rfl,fun _=>rfl⟩,trivial⟩,(AgM.weak ⟨rfl,rfl,rfl,rfl,rfl,rfl,rfl,trivial⟩)⟩
 refine aW (aJ (wC 1 rfl ?_));obtain⟨r2,hr2,hF⟩:=bB hF
 refine rS (dj (s8 _ _ hr2) ⟨⟨rfl,rfl,trivial⟩,trivial⟩ rfl (.inl rfl) (QV rfl (wIf hF rfl (fun _ hF=>?_) fun _ hF=>?_)))
 ·refine wA rfl ?_;cases hF
  exact bZ ⟨_,_,(tZ (4,0) _ 3 (902,560) 67 8 rfl rfl rfl rfl rfl (tZ (4,0) _ 4 (902,561) 107 7 rfl rfl rfl rfl rfl (tZ (4,0) _ 5 (902,562) 90 7 rfl rfl rfl rfl rfl (tZ (4,0) _ 6 (902,563) 92 4 rfl rfl rfl rfl rfl (tZ (4,0) _ 7 (902,564) 95 3 rfl rfl rfl rfl rfl (tZ (4,0) _ 8 (902,565) 97 7 rfl rfl rfl rfl rfl (tZ (4,0) _ 9 (902,566) 77 4 rfl rfl rfl rfl rfl e9))))))),_,rfl,rfl,⟨⟨⟨rfl,fun _=>rfl⟩,⟨rfl,fun _=>rfl⟩,rfl,rfl,rfl,rfl,rfl,rfl,rfl,rfl,trivial⟩,⟨rfl,fun _=>rfl⟩,trivial⟩,(AgM.weak ⟨rfl,rfl,rfl,rfl,rfl,rfl,rfl,trivial⟩)⟩
 refine aW (wA rfl (wA rfl (aJ (wA rfl (wIf hF rfl (fun _ hF=>?_) fun _ hF=>?_)))))
 ·refine wA rfl ?_;cases hF
  exact bZ ⟨_,_,(tZ (4,0) _ 3 (902,560) 67 8 rfl rfl rfl rfl rfl (tZ (4,0) _ 4 (902,561) 107 7 rfl rfl rfl rfl rfl (tZ (4,0) _ 5 (902,562) 90 7 rfl rfl rfl rfl rfl (tZ (4,0) _ 6 (902,563) 92 4 rfl rfl rfl rfl rfl (tZ (4,0) _ 7 (902,564) 95 3 rfl rfl rfl rfl rfl (tZ (4,0) _ 8 (902,565) 97 7 rfl rfl rfl rfl rfl (tZ (4,0) _ 9 (902,566) 77 4 rfl rfl rfl rfl rfl e9))))))),_,rfl,rfl,⟨⟨⟨rfl,fun _=>rfl⟩,⟨rfl,fun _=>rfl⟩,⟨rfl,fun h=>(by cases h)⟩,rfl,rfl,rfl,rfl,rfl,rfl,rfl,trivial⟩,⟨rfl,fun _=>rfl⟩,trivial⟩,(AgM.weak ⟨rfl,rfl,rfl,rfl,rfl,rfl,rfl,trivial⟩)⟩
 refine aW (wA rfl (wC 3 rfl ?_));obtain⟨r3,hr3,hF⟩:=bB hF
 refine jX trivial (n8 [((902,1640),(51,1))] rfl (xJ _) (Pz _ _ _ hr3) trivial ⟨.inl rfl,.inr ⟨rfl,rfl,trivial⟩,trivial⟩ rfl rfl rfl ?_);refine QV rfl (wC 3 rfl ?_)
 obtain⟨r4,hr4,hF⟩:=bB hF
 refine jX trivial (n8 [((902,1680),(56,1))] rfl (xJ _) (Pj _ _ _ hr4) trivial ⟨.inl rfl,.inr ⟨rfl,rfl,trivial⟩,trivial⟩ rfl rfl rfl ?_);refine QV rfl (wC 3 rfl ?_)
 obtain⟨r5,hr5,hF⟩:=bB hF
 refine jX trivial (n8 [((902,1720),(61,1))] rfl (xJ _) (Q5 _ _ _ hr5) trivial ⟨.inl rfl,.inr ⟨rfl,rfl,trivial⟩,trivial⟩ rfl rfl rfl ?_);refine QV rfl (wC 3 rfl ?_)
 obtain⟨r6,hr6,hF⟩:=bB hF
 refine jX trivial (n8 [((902,1760),(66,1))] rfl (xJ _) (NV _ _ _ hr6) trivial ⟨.inl rfl,.inr ⟨rfl,rfl,trivial⟩,trivial⟩ rfl rfl rfl ?_);refine QV rfl (wC 3 rfl ?_)
 obtain⟨r7,hr7,hF⟩:=bB hF
 refine jX trivial (n8 [((902,1800),(71,1))] rfl (xJ _) (Q8 _ _ _ hr7) trivial ⟨.inl rfl,.inr ⟨rfl,rfl,trivial⟩,trivial⟩ rfl rfl rfl ?_);refine QV rfl (wC 3 rfl ?_)
 obtain⟨r8,hr8,hF⟩:=bB hF
 refine jX trivial (n8 [((902,1840),(76,1))] rfl (xJ _) (Pq _ _ _ hr8) trivial ⟨.inl rfl,.inr ⟨rfl,rfl,trivial⟩,trivial⟩ rfl rfl rfl ?_);refine QV rfl (wC 3 rfl ?_)
 obtain⟨r9,hr9,hF⟩:=bB hF
 refine jX trivial (n8 [((902,1880),(81,1))] rfl (xJ _) (O9 _ _ _ hr9) trivial ⟨.inl rfl,.inr ⟨rfl,rfl,trivial⟩,trivial⟩ rfl rfl rfl ?_);refine QV rfl (wA rfl ?_)
 cases hF
 exact bZ ⟨_,_,(a9Y [((51,1),(902,560)),((56,1),(902,561)),((61,1),(902,562)),((66,1),(902,563)),((71,1),(902,564)),((76,1),(902,565)),((81,1),(902,566))] rfl e9),_,rfl,rfl,⟨⟨⟨rfl,fun _=>rfl⟩,⟨rfl,fun _=>rfl⟩,⟨rfl,fun h=>(by cases h)⟩,rfl,rfl,rfl,rfl,rfl,rfl,rfl,trivial⟩,⟨rfl,fun _=>rfl⟩,trivial⟩,(AgM.weak ⟨rfl,rfl,rfl,rfl,rfl,rfl,rfl,trivial⟩)⟩
def jW(p0:(List i5))(p1:(List i5)):Int→Option (Int ⊕ (Unit ⊕ Bool)):=fun a12 =>
  (bif (decide (a12<(List.length p0:Int)))then((idx p0 a12).bind fun y17=>((idx p1 a12).bind fun y18=>(bif ((decide (y17.x6=y18.x6)&&(decide (y17.q7=y18.q7)&&(decide (y17.x8=y18.x8)&&true))) != true)then some (.inr (.inr false))else some (.inl (w64 (a12+1))))))else some (.inr (.inl ())))
def lQ(p0:(List i5))(p1:(List i5)):Option Bool :=
  (bif (!decide ((List.length p0:Int)=(List.length p1:Int)))then some false else((loop (jW p0 p1) 0).bind fun | .inl _=>some true | .inr rv=>some rv))
theorem AX(p0:(List i5))(p1:(List i5))(r:Bool)(hF:lQ p0 p1=some r):Fun Tryz.prog 51 true [] [cL 3 fX p0,cL 3 fX p1] noHeap (cB r) noHeap:=by
 refine fW Tryz.func51 ?_
 unfold lQ at hF
 refine wA rfl (aJ (wC 1 rfl (rS (fQ (tc:=fX) p0 .tree (bq SV 1 rfl (rS (fQ (tc:=fX) p1 .tree (QV rfl (wIf hF rfl (fun _ hF=>?_) fun _ hF=>?_)))))))))
 ·refine wA rfl ?_;cases hF
  exact bZ wR
 refine aW (aJ (wC 1 rfl (rS (fQ (tc:=fX) p0 .tree (QV rfl (kq (fun _ _ h=>h) hF (.inl) (fun a12=>[(0,cL 3 fX p0),(1,cL 3 fX p1),(12,cI (List.length p0:Int)),(13,cI a12)]) (fun a12=>[]) (fun _=>[]) (fun _=>[]) sw ?_ ?_))))))
 ·rintro⟨⟩ hF
  refine wA rfl ?_;cases hF
  exact bZ wR
 rintro a12 x_0 hF cont_0 brk_0 fin_0
 unfold jW at hF
 refine wA rfl (aJ (wIf hF rfl (fun _ hF=>?_) fun _ hF=>?_))
 ·refine aW (aJ (dV (wA rfl (aJ (n4 (by decide) (by kernel_rfl) rfl (bq SP 2 rfl ?_))))));obtain⟨y17,hy17,hF⟩:=bB hF
  refine bz SP trivial (i8 (tc:=fX) p0 rfl rfl hy17 (bq SP 3 rfl ?_));obtain⟨y18,hy18,hF⟩:=bB hF
  refine bz SP trivial (i8 (tc:=fX) p1 rfl rfl hy18 (bq SP 1 rfl (bz SP trivial (TV (b:=(decide (y17.x6=y18.x6)&&(decide (y17.q7=y18.q7)&&(decide (y17.x8=y18.x8)&&true)))) (eqOk_of (n:=3) (sh:=[.int .i64,.string,.int .i64]) Tryz.underlying58 (by kernel_rfl) (by kernel_rfl)) rfl rfl rfl rfl (QP rfl (wIf hF rfl (fun _ hF=>?_) fun _ hF=>?_))))))
  ·refine wA rfl ?_;have hF:=fin_0 _ (oi hF);cases hF
   exact bZ wR
  exact aW (wB rfl (cont_0 _ _ _ (oi hF) sw))
 exact fZ (aZ (aZ (cj (brk_0 _ _ _ (oi hF) sw))))
def kY(p0:(List aX))(p1:(List aX)):Int→Option (Int ⊕ (Unit ⊕ Bool)):=fun a12 =>
  (bif (decide (a12<(List.length p0:Int)))then((idx p0 a12).bind fun y17=>((idx p1 a12).bind fun y18=>(bif ((decide (y17.q6=y18.q6)&&(decide (y17.z2=y18.z2)&&(decide (y17.j3=y18.j3)&&(decide (y17.q7=y18.q7)&&(decide (y17.q0.q5=y18.q0.q5)&&(decide (y17.q0.q8=y18.q0.q8)&&(decide (y17.x3=y18.x3)&&(decide (y17.w7=y18.w7)&&true)))))))) != true)then some (.inr (.inr false))else some (.inl (w64 (a12+1))))))else some (.inr (.inl ())))
def mQ(p0:(List aX))(p1:(List aX)):Option Bool :=
  (bif (!decide ((List.length p0:Int)=(List.length p1:Int)))then some false else((loop (kY p0 p1) 0).bind fun | .inl _=>some true | .inr rv=>some rv))
theorem A7(p0:(List aX))(p1:(List aX))(r:Bool)(hF:mQ p0 p1=some r):Fun Tryz.prog 52 true [] [cL 8 aK p0,cL 8 aK p1] noHeap (cB r) noHeap:=by
 refine fW Tryz.func52 ?_
 unfold mQ at hF
 refine wA rfl (aJ (wC 1 rfl (rS (fQ (tc:=aK) p0 .tree (bq SV 1 rfl (rS (fQ (tc:=aK) p1 .tree (QV rfl (wIf hF rfl (fun _ hF=>?_) fun _ hF=>?_)))))))))
 ·refine wA rfl ?_;cases hF
  exact bZ wR
 refine aW (aJ (wC 1 rfl (rS (fQ (tc:=aK) p0 .tree (QV rfl (kq (fun _ _ h=>h) hF (.inl) (fun a12=>[(0,cL 8 aK p0),(1,cL 8 aK p1),(12,cI (List.length p0:Int)),(13,cI a12)]) (fun a12=>[]) (fun _=>[]) (fun _=>[]) sw ?_ ?_))))))
 ·rintro⟨⟩ hF
  refine wA rfl ?_;cases hF
  exact bZ wR
 rintro a12 x_0 hF cont_0 brk_0 fin_0
 unfold kY at hF
 refine wA rfl (aJ (wIf hF rfl (fun _ hF=>?_) fun _ hF=>?_))
 ·refine aW (aJ (dV (wA rfl (aJ (n4 (by decide) (by kernel_rfl) rfl (bq SP 2 rfl ?_))))));obtain⟨y17,hy17,hF⟩:=bB hF
  refine bz SP trivial (i8 (tc:=aK) p0 rfl rfl hy17 (bq SP 3 rfl ?_));obtain⟨y18,hy18,hF⟩:=bB hF
  refine bz SP trivial (i8 (tc:=aK) p1 rfl rfl hy18 (bq SP 1 rfl (bz SP trivial (TV (b:=(decide (y17.q6=y18.q6)&&(decide (y17.z2=y18.z2)&&(decide (y17.j3=y18.j3)&&(decide (y17.q7=y18.q7)&&(decide (y17.q0.q5=y18.q0.q5)&&(decide (y17.q0.q8=y18.q0.q8)&&(decide (y17.x3=y18.x3)&&(decide (y17.w7=y18.w7)&&true))))))))) (eqOk_of (n:=8) (sh:=[.int .i64,.int .i64,.int .i64,.string,.int .i64,.int .i64,.int .i64,.bool]) Tryz.underlying66 (by kernel_rfl) (by kernel_rfl)) rfl rfl rfl rfl (QP rfl (wIf hF rfl (fun _ hF=>?_) fun _ hF=>?_))))))
  ·refine wA rfl ?_;have hF:=fin_0 _ (oi hF);cases hF
   exact bZ wR
  exact aW (wB rfl (cont_0 _ _ _ (oi hF) sw))
 exact fZ (aZ (aZ (cj (brk_0 _ _ _ (oi hF) sw))))
def kK(p0:(List bj))(p1:(List bj)):Int→Option (Int ⊕ (Unit ⊕ Bool)):=fun a12 =>
  (bif (decide (a12<(List.length p0:Int)))then((idx p0 a12).bind fun y17=>((idx p1 a12).bind fun y18=>(bif ((decide (y17.q6=y18.q6)&&(decide (y17.j8=y18.j8)&&(decide (y17.q0.q5=y18.q0.q5)&&(decide (y17.q0.q8=y18.q0.q8)&&(decide (y17.x7=y18.x7)&&(decide (y17.g8=y18.g8)&&(decide (y17.g9=y18.g9)&&true))))))) != true)then some (.inr (.inr false))else some (.inl (w64 (a12+1))))))else some (.inr (.inl ())))
def mj(p0:(List bj))(p1:(List bj)):Option Bool :=
  (bif (!decide ((List.length p0:Int)=(List.length p1:Int)))then some false else((loop (kK p0 p1) 0).bind fun | .inl _=>some true | .inr rv=>some rv))
theorem Bq(p0:(List bj))(p1:(List bj))(r:Bool)(hF:mj p0 p1=some r):Fun Tryz.prog 53 true [] [cL 7 bW p0,cL 7 bW p1] noHeap (cB r) noHeap:=by
 refine fW Tryz.func53 ?_
 unfold mj at hF
 refine wA rfl (aJ (wC 1 rfl (rS (fQ (tc:=bW) p0 .tree (bq SV 1 rfl (rS (fQ (tc:=bW) p1 .tree (QV rfl (wIf hF rfl (fun _ hF=>?_) fun _ hF=>?_)))))))))
 ·refine wA rfl ?_;cases hF
  exact bZ wR
 refine aW (aJ (wC 1 rfl (rS (fQ (tc:=bW) p0 .tree (QV rfl (kq (fun _ _ h=>h) hF (.inl) (fun a12=>[(0,cL 7 bW p0),(1,cL 7 bW p1),(12,cI (List.length p0:Int)),(13,cI a12)]) (fun a12=>[]) (fun _=>[]) (fun _=>[]) sw ?_ ?_))))))
 ·rintro⟨⟩ hF
  refine wA rfl ?_;cases hF
  exact bZ wR
 rintro a12 x_0 hF cont_0 brk_0 fin_0
 unfold kK at hF
 refine wA rfl (aJ (wIf hF rfl (fun _ hF=>?_) fun _ hF=>?_))
 ·refine aW (aJ (dV (wA rfl (aJ (n4 (by decide) (by kernel_rfl) rfl (bq SP 2 rfl ?_))))));obtain⟨y17,hy17,hF⟩:=bB hF
  refine bz SP trivial (i8 (tc:=bW) p0 rfl rfl hy17 (bq SP 3 rfl ?_));obtain⟨y18,hy18,hF⟩:=bB hF
  refine bz SP trivial (i8 (tc:=bW) p1 rfl rfl hy18 (bq SP 1 rfl (bz SP trivial (TV (b:=(decide (y17.q6=y18.q6)&&(decide (y17.j8=y18.j8)&&(decide (y17.q0.q5=y18.q0.q5)&&(decide (y17.q0.q8=y18.q0.q8)&&(decide (y17.x7=y18.x7)&&(decide (y17.g8=y18.g8)&&(decide (y17.g9=y18.g9)&&true)))))))) (eqOk_of (n:=7) (sh:=[.int .i64,.int .i64,.int .i64,.int .i64,.int .i64,.int .i64,.int .i64]) Tryz.underlying106 (by kernel_rfl) (by kernel_rfl)) rfl rfl rfl rfl (QP rfl (wIf hF rfl (fun _ hF=>?_) fun _ hF=>?_))))))
  ·refine wA rfl ?_;have hF:=fin_0 _ (oi hF);cases hF
   exact bZ wR
  exact aW (wB rfl (cont_0 _ _ _ (oi hF) sw))
 exact fZ (aZ (aZ (cj (brk_0 _ _ _ (oi hF) sw))))
def mq(p0:(List c7))(p1:(List c7)):Int→Option (Int ⊕ (Unit ⊕ Bool)):=fun a12 =>
  (bif (decide (a12<(List.length p0:Int)))then((idx p0 a12).bind fun y17=>((idx p1 a12).bind fun y18=>(bif ((decide (y17.x6=y18.x6)&&(decide (y17.q5.q6=y18.q5.q6)&&(decide (y17.q5.w8=y18.q5.w8)&&(decide (y17.q8.q6=y18.q8.q6)&&(decide (y17.q8.w8=y18.q8.w8)&&(decide (y17.w9=y18.w9)&&(decide (y17.v8=y18.v8)&&true))))))) != true)then some (.inr (.inr false))else some (.inl (w64 (a12+1))))))else some (.inr (.inl ())))
def nz(p0:(List c7))(p1:(List c7)):Option Bool :=
  (bif (!decide ((List.length p0:Int)=(List.length p1:Int)))then some false else((loop (mq p0 p1) 0).bind fun | .inl _=>some true | .inr rv=>some rv))
theorem B8(p0:(List c7))(p1:(List c7))(r:Bool)(hF:nz p0 p1=some r):Fun Tryz.prog 54 true [] [cL 7 c4 p0,cL 7 c4 p1] noHeap (cB r) noHeap:=by
 refine fW Tryz.func54 ?_
 unfold nz at hF
 refine wA rfl (aJ (wC 1 rfl (rS (fQ (tc:=c4) p0 .tree (bq SV 1 rfl (rS (fQ (tc:=c4) p1 .tree (QV rfl (wIf hF rfl (fun _ hF=>?_) fun _ hF=>?_)))))))))
 ·refine wA rfl ?_;cases hF
  exact bZ wR
 refine aW (aJ (wC 1 rfl (rS (fQ (tc:=c4) p0 .tree (QV rfl (kq (fun _ _ h=>h) hF (.inl) (fun a12=>[(0,cL 7 c4 p0),(1,cL 7 c4 p1),(12,cI (List.length p0:Int)),(13,cI a12)]) (fun a12=>[]) (fun _=>[]) (fun _=>[]) sw ?_ ?_))))))
 ·rintro⟨⟩ hF
  refine wA rfl ?_;cases hF
  exact bZ wR
 rintro a12 x_0 hF cont_0 brk_0 fin_0
 unfold mq at hF
 refine wA rfl (aJ (wIf hF rfl (fun _ hF=>?_) fun _ hF=>?_))
 ·refine aW (aJ (dV (wA rfl (aJ (n4 (by decide) (by kernel_rfl) rfl (bq SP 2 rfl ?_))))));obtain⟨y17,hy17,hF⟩:=bB hF
  refine bz SP trivial (i8 (tc:=c4) p0 rfl rfl hy17 (bq SP 3 rfl ?_));obtain⟨y18,hy18,hF⟩:=bB hF
  refine bz SP trivial (i8 (tc:=c4) p1 rfl rfl hy18 (bq SP 1 rfl (bz SP trivial (TV (b:=(decide (y17.x6=y18.x6)&&(decide (y17.q5.q6=y18.q5.q6)&&(decide (y17.q5.w8=y18.q5.w8)&&(decide (y17.q8.q6=y18.q8.q6)&&(decide (y17.q8.w8=y18.q8.w8)&&(decide (y17.w9=y18.w9)&&(decide (y17.v8=y18.v8)&&true)))))))) (eqOk_of (n:=7) (sh:=[.int .i64,.int .i64,.int .i64,.int .i64,.int .i64,.int .i64,.int .i64]) Tryz.underlying89 (by kernel_rfl) (by kernel_rfl)) rfl rfl rfl rfl (QP rfl (wIf hF rfl (fun _ hF=>?_) fun _ hF=>?_))))))
  ·refine wA rfl ?_;have hF:=fin_0 _ (oi hF);cases hF
   exact bZ wR
  exact aW (wB rfl (cont_0 _ _ _ (oi hF) sw))
 exact fZ (aZ (aZ (cj (brk_0 _ _ _ (oi hF) sw))))
def l9(p0:(List bJ))(p1:(List bJ)):Int→Option (Int ⊕ (Unit ⊕ Bool)):=fun a12 =>
  (bif (decide (a12<(List.length p0:Int)))then((idx p0 a12).bind fun y17=>((idx p1 a12).bind fun y18=>(bif ((decide (y17.q7=y18.q7)&&(decide (y17.j9=y18.j9)&&(decide (y17.j6=y18.j6)&&true))) != true)then some (.inr (.inr false))else some (.inl (w64 (a12+1))))))else some (.inr (.inl ())))
def m9(p0:(List bJ))(p1:(List bJ)):Option Bool :=
  (bif (!decide ((List.length p0:Int)=(List.length p1:Int)))then some false else((loop (l9 p0 p1) 0).bind fun | .inl _=>some true | .inr rv=>some rv))
theorem CX(p0:(List bJ))(p1:(List bJ))(r:Bool)(hF:m9 p0 p1=some r):Fun Tryz.prog 55 true [] [cL 3 c5 p0,cL 3 c5 p1] noHeap (cB r) noHeap:=by
 refine fW Tryz.func55 ?_
 unfold m9 at hF
 refine wA rfl (aJ (wC 1 rfl (rS (fQ (tc:=c5) p0 .tree (bq SV 1 rfl (rS (fQ (tc:=c5) p1 .tree (QV rfl (wIf hF rfl (fun _ hF=>?_) fun _ hF=>?_)))))))))
 ·refine wA rfl ?_;cases hF
  exact bZ wR
 refine aW (aJ (wC 1 rfl (rS (fQ (tc:=c5) p0 .tree (QV rfl (kq (fun _ _ h=>h) hF (.inl) (fun a12=>[(0,cL 3 c5 p0),(1,cL 3 c5 p1),(12,cI (List.length p0:Int)),(13,cI a12)]) (fun a12=>[]) (fun _=>[]) (fun _=>[]) sw ?_ ?_))))))
 ·rintro⟨⟩ hF
  refine wA rfl ?_;cases hF
  exact bZ wR
 rintro a12 x_0 hF cont_0 brk_0 fin_0
 unfold l9 at hF
 refine wA rfl (aJ (wIf hF rfl (fun _ hF=>?_) fun _ hF=>?_))
 ·refine aW (aJ (dV (wA rfl (aJ (n4 (by decide) (by kernel_rfl) rfl (bq SP 2 rfl ?_))))));obtain⟨y17,hy17,hF⟩:=bB hF
  refine bz SP trivial (i8 (tc:=c5) p0 rfl rfl hy17 (bq SP 3 rfl ?_));obtain⟨y18,hy18,hF⟩:=bB hF
  refine bz SP trivial (i8 (tc:=c5) p1 rfl rfl hy18 (bq SP 1 rfl (bz SP trivial (TV (b:=(decide (y17.q7=y18.q7)&&(decide (y17.j9=y18.j9)&&(decide (y17.j6=y18.j6)&&true)))) (eqOk_of (n:=3) (sh:=[.string,.int .i64,.int .i64]) Tryz.underlying94 (by kernel_rfl) (by kernel_rfl)) rfl rfl rfl rfl (QP rfl (wIf hF rfl (fun _ hF=>?_) fun _ hF=>?_))))))
  ·refine wA rfl ?_;have hF:=fin_0 _ (oi hF);cases hF
   exact bZ wR
  exact aW (wB rfl (cont_0 _ _ _ (oi hF) sw))
 exact fZ (aZ (aZ (cj (brk_0 _ _ _ (oi hF) sw))))
def l8(p0:(List fJ))(p1:(List fJ)):Int→Option (Int ⊕ (Unit ⊕ Bool)):=fun a12 =>
  (bif (decide (a12<(List.length p0:Int)))then((idx p0 a12).bind fun y17=>((idx p1 a12).bind fun y18=>(bif ((decide (y17.q6=y18.q6)&&(decide (y17.q0.q5=y18.q0.q5)&&(decide (y17.q0.q8=y18.q0.q8)&&(decide (y17.w6=y18.w6)&&true)))) != true)then some (.inr (.inr false))else some (.inl (w64 (a12+1))))))else some (.inr (.inl ())))
def nq(p0:(List fJ))(p1:(List fJ)):Option Bool :=
  (bif (!decide ((List.length p0:Int)=(List.length p1:Int)))then some false else((loop (l8 p0 p1) 0).bind fun | .inl _=>some true | .inr rv=>some rv))
theorem Cj(p0:(List fJ))(p1:(List fJ))(r:Bool)(hF:nq p0 p1=some r):Fun Tryz.prog 56 true [] [cL 4 fj p0,cL 4 fj p1] noHeap (cB r) noHeap:=by
 refine fW Tryz.func56 ?_
 unfold nq at hF
 refine wA rfl (aJ (wC 1 rfl (rS (fQ (tc:=fj) p0 .tree (bq SV 1 rfl (rS (fQ (tc:=fj) p1 .tree (QV rfl (wIf hF rfl (fun _ hF=>?_) fun _ hF=>?_)))))))))
 ·refine wA rfl ?_;cases hF
  exact bZ wR
 refine aW (aJ (wC 1 rfl (rS (fQ (tc:=fj) p0 .tree (QV rfl (kq (fun _ _ h=>h) hF (.inl) (fun a12=>[(0,cL 4 fj p0),(1,cL 4 fj p1),(12,cI (List.length p0:Int)),(13,cI a12)]) (fun a12=>[]) (fun _=>[]) (fun _=>[]) sw ?_ ?_))))))
 ·rintro⟨⟩ hF
  refine wA rfl ?_;cases hF
  exact bZ wR
 rintro a12 x_0 hF cont_0 brk_0 fin_0
 unfold l8 at hF
 refine wA rfl (aJ (wIf hF rfl (fun _ hF=>?_) fun _ hF=>?_))
 ·refine aW (aJ (dV (wA rfl (aJ (n4 (by decide) (by kernel_rfl) rfl (bq SP 2 rfl ?_))))));obtain⟨y17,hy17,hF⟩:=bB hF
  refine bz SP trivial (i8 (tc:=fj) p0 rfl rfl hy17 (bq SP 3 rfl ?_));obtain⟨y18,hy18,hF⟩:=bB hF
  refine bz SP trivial (i8 (tc:=fj) p1 rfl rfl hy18 (bq SP 1 rfl (bz SP trivial (TV (b:=(decide (y17.q6=y18.q6)&&(decide (y17.q0.q5=y18.q0.q5)&&(decide (y17.q0.q8=y18.q0.q8)&&(decide (y17.w6=y18.w6)&&true))))) (eqOk_of (n:=4) (sh:=[.int .i64,.int .i64,.int .i64,.int .i64]) Tryz.underlying76 (by kernel_rfl) (by kernel_rfl)) rfl rfl rfl rfl (QP rfl (wIf hF rfl (fun _ hF=>?_) fun _ hF=>?_))))))
  ·refine wA rfl ?_;have hF:=fin_0 _ (oi hF);cases hF
   exact bZ wR
  exact aW (wB rfl (cont_0 _ _ _ (oi hF) sw))
 exact fZ (aZ (aZ (cj (brk_0 _ _ _ (oi hF) sw))))
def nV(p0:(List ByteArray))(p1:(List ByteArray)):Int→Option (Int ⊕ (Unit ⊕ Bool)):=fun a12 =>
  (bif (decide (a12<(List.length p0:Int)))then((idx p0 a12).bind fun y17=>((idx p1 a12).bind fun y18=>(bif (!decide (y17=y18))then some (.inr (.inr false))else some (.inl (w64 (a12+1))))))else some (.inr (.inl ())))
def mW(p0:(List ByteArray))(p1:(List ByteArray)):Option Bool :=
  (bif (!decide ((List.length p0:Int)=(List.length p1:Int)))then some false else((loop (nV p0 p1) 0).bind fun | .inl _=>some true | .inr rv=>some rv))
theorem u2(p0:(List ByteArray))(p1:(List ByteArray))(r:Bool)(hF:mW p0 p1=some r):Fun Tryz.prog 145 true [] [cL 1 CW p0,cL 1 CW p1] noHeap (cB r) noHeap:=by
 refine fW Tryz.func145 ?_
 unfold mW at hF
 refine wA rfl (aJ (wC 1 rfl (rS (fQ (tc:=CW) p0 .tree (bq SV 1 rfl (rS (fQ (tc:=CW) p1 .tree (QV rfl (wIf hF rfl (fun _ hF=>?_) fun _ hF=>?_)))))))))
 ·refine wA rfl ?_;cases hF
  exact bZ wR
 refine aW (aJ (wC 1 rfl (rS (fQ (tc:=CW) p0 .tree (QV rfl (kq (fun _ _ h=>h) hF (.inl) (fun a12=>[(0,cL 1 CW p0),(1,cL 1 CW p1),(12,cI (List.length p0:Int)),(13,cI a12)]) (fun a12=>[]) (fun _=>[]) (fun _=>[]) sw ?_ ?_))))))
 ·rintro⟨⟩ hF
  refine wA rfl ?_;cases hF
  exact bZ wR
 rintro a12 x_0 hF cont_0 brk_0 fin_0
 unfold nV at hF
 refine wA rfl (aJ (wIf hF rfl (fun _ hF=>?_) fun _ hF=>?_))
 ·refine aW (aJ (dV (wA rfl (aJ (n4 (by decide) (by kernel_rfl) rfl (bq SP 2 rfl ?_))))));obtain⟨y17,hy17,hF⟩:=bB hF
  refine bz SP trivial (i8 (tc:=CW) p0 rfl rfl hy17 (bq SP 3 rfl ?_));obtain⟨y18,hy18,hF⟩:=bB hF
  refine bz SP trivial (i8 (tc:=CW) p1 rfl rfl hy18 (QP rfl (wIf hF rfl (fun _ hF=>?_) fun _ hF=>?_)))
  ·refine wA rfl ?_;have hF:=fin_0 _ (oi hF);cases hF
   exact bZ wR
  exact aW (wB rfl (cont_0 _ _ _ (oi hF) sw))
 exact fZ (aZ (aZ (cj (brk_0 _ _ _ (oi hF) sw))))
def uV(p0:bY)(p1:bY):Option Bool :=
  (((bif (decide (p0.q6=p1.q6))then(bif (decide (p0.j9=p1.j9))then(bif (decide (p0.w5=p1.w5))then((mW p0.j4 p1.j4).bind fun r5=>some r5)else some false)else some false)else some false):Option Bool).bind fun v1=>some v1)
theorem M8(p0:bY)(p1:bY)(r:Bool)(hF:uV p0 p1=some r):Fun Tryz.prog 59 true [] [.agg (wx p0),.agg (wx p1)] noHeap (cB r) noHeap:=by
 refine fW Tryz.func59 ?_
 unfold uV at hF
 refine wA rfl (aJ (eV (fun _ _ h=>h) hF (fun v1=>[(4,cB v1)]) (fun v1=>[]) ?_ ?_))
 ·rintro v1 hF
  cases hF
  exact bZ wR
 intro join hF
 refine wD 6 rfl ?_;cases h2:(decide (p0.q6=p1.q6))
 ·have hF:=bF' h2 hF;exact QV rfl (join false _ _ hF sw)
 have hF:=bT' h2 hF;refine bq SV 7 rfl ?_;cases h3:(decide (p0.j9=p1.j9))
 ·have hF:=bF' h3 hF;exact QV rfl (join false _ _ hF sw)
 have hF:=bT' h3 hF;refine bq SV 7 rfl ?_;cases h4:(decide (p0.w5=p1.w5))
 ·have hF:=bF' h4 hF;exact QV rfl (join false _ _ hF sw)
 have hF:=bT' h4 hF;refine bq SV 4 rfl ?_;obtain⟨r5,hr5,hF⟩:=bB' hF
 exact bz SV rfl (dj (u2 _ _ _ hr5) ⟨rfl,rfl,trivial⟩ rfl (.inl rfl) (QV rfl (join r5 _ _ hF sw)))
def F9(p0:bY)(p1:bY):Option Bool :=
  ((uV p0 p1).bind fun r1=>some r1)
theorem V5(p0:bY)(p1:bY)(r:Bool)(hF:F9 p0 p1=some r):Fun Tryz.prog 58 true [] [.agg (wx p0),.agg (wx p1)] noHeap (cB r) noHeap:=by
 refine fW Tryz.func58 ?_
 unfold F9 at hF
 refine wA rfl (wC 2 rfl ?_);obtain⟨r1,hr1,hF⟩:=bB hF
 refine rS (dj (M8 _ _ _ hr1) ⟨⟨rfl,rfl,rfl,rfl,trivial⟩,⟨rfl,rfl,rfl,rfl,trivial⟩,trivial⟩ rfl (.inl rfl) (QV rfl ?_));cases hF
 exact bZ wR
def d6(p0:(List bY))(p1:(List bY)):Int→Option (Int ⊕ (Unit ⊕ Bool)):=fun a14 =>
  (bif (decide (a14<(List.length p0:Int)))then((idx p0 a14).bind fun y20=>((idx p1 a14).bind fun y21=>((F9 y20 y21).bind fun r22=>(bif (!r22)then some (.inr (.inr false))else some (.inl (w64 (a14+1)))))))else some (.inr (.inl ())))
def d7(p0:(List bY))(p1:(List bY)):Option Bool :=
  (bif (!decide ((List.length p0:Int)=(List.length p1:Int)))then some false else((loop (d6 p0 p1) 0).bind fun | .inl _=>some true | .inr rv=>some rv))
theorem n9(p0:(List bY))(p1:(List bY))(r:Bool)(hF:d7 p0 p1=some r):Fun Tryz.prog 57 false [] [cL 4 cV p0,cL 4 cV p1,.c (.fn 58 [])] (aQ []) (cB r) (aQ []):=by
 refine fM [] (some []) Tryz.func57 ?_
 unfold d7 at hF
 refine wA rfl (aJ (wC 1 rfl (rS (fQ (tc:=cV) p0 .tree (bq SV 1 rfl (rS (fQ (tc:=cV) p1 .tree (QV rfl (wIf hF rfl (fun _ hF=>?_) fun _ hF=>?_)))))))))
 ·refine wA rfl ?_;cases hF
  exact bZ ⟨_,_,e9,_,rfl,rfl,⟨rfl,fun _=>rfl⟩,(AgM.weak trivial)⟩
 refine aW (aJ (wC 1 rfl (rS (fQ (tc:=cV) p0 .tree (QV rfl (kq (fun _ _ h=>h) hF (.inl) (fun a14=>[(1,cL 4 cV p1),(2,.c (.fn 58 [])),(15,cL 4 cV p0),(16,cI (List.length p0:Int)),(17,cI a14)]) (fun a14=>[]) (fun _=>[]) (fun _=>[]) sw ?_ ?_))))))
 ·rintro⟨⟩ hF
  refine wA rfl ?_;cases hF
  exact bZ ⟨_,_,e9,_,rfl,rfl,⟨rfl,fun _=>rfl⟩,(AgM.weak trivial)⟩
 rintro a14 x_0 hF cont_0 brk_0 fin_0
 unfold d6 at hF
 refine wA rfl (aJ (wIf hF rfl (fun _ hF=>?_) fun _ hF=>?_))
 ·refine aW (aJ (dV (wC 1 rfl ?_)));obtain⟨y20,hy20,hF⟩:=bB hF
  refine rS (i8 (tc:=cV) p0 rfl rfl hy20 (QV rfl (wC 2 rfl ?_)));obtain⟨y21,hy21,hF⟩:=bB hF
  refine rS (i8 (tc:=cV) p1 rfl rfl hy21 (QV rfl (wC 3 rfl ?_)));obtain⟨r22,hr22,hF⟩:=bB hF
  refine jX trivial (Ej (E6 _ rfl a7K) (V5 _ _ _ hr22) ⟨⟨rfl,rfl,rfl,rfl,trivial⟩,⟨rfl,rfl,rfl,rfl,trivial⟩,trivial⟩ rfl (.inl rfl) (QV rfl (wIf hF rfl (fun _ hF=>?_) fun _ hF=>?_)))
  ·refine wA rfl ?_;have hF:=fin_0 _ (oi hF);cases hF
   exact bZ ⟨_,_,e9,_,rfl,rfl,⟨rfl,fun _=>rfl⟩,(AgM.weak trivial)⟩
  exact aW (wB rfl (cont_0 _ _ _ (oi hF) sw))
 exact fZ (aZ (aZ (cj (brk_0 _ _ _ (oi hF) sw))))
def xW(p0:cz)(p1:cz):Option Bool :=
  (((bif (decide (p0.x6=p1.x6))then(bif (decide (p0.q6=p1.q6))then(bif (decide (p0.x5=p1.x5))then(bif ((decide (p0.q0.q5=p1.q0.q5)&&(decide (p0.q0.q8=p1.q0.q8)&&true)) != false)then(bif (decide (p0.x9=p1.x9) != false)then((mW p0.j4 p1.j4).bind fun r7=>some r7)else some false)else some false)else some false)else some false)else some false):Option Bool).bind fun v1=>some v1)
theorem O6(p0:cz)(p1:cz)(r:Bool)(hF:xW p0 p1=some r):Fun Tryz.prog 62 true [] [.agg (rj p0),.agg (rj p1)] noHeap (cB r) noHeap:=by
 refine fW Tryz.func62 ?_
 unfold xW at hF
 refine wA rfl (aJ (eV (fun _ _ h=>h) hF (fun v1=>[(4,cB v1)]) (fun v1=>[]) ?_ ?_))
 ·rintro v1 hF
  cases hF
  exact bZ wR
 intro join hF
 refine wD 6 rfl ?_;cases h2:(decide (p0.x6=p1.x6))
 ·have hF:=bF' h2 hF;exact QV rfl (join false _ _ hF sw)
 have hF:=bT' h2 hF;refine bq SV 7 rfl ?_;cases h3:(decide (p0.q6=p1.q6))
 ·have hF:=bF' h3 hF;exact QV rfl (join false _ _ hF sw)
 have hF:=bT' h3 hF;refine bq SV 7 rfl ?_;cases h4:(decide (p0.x5=p1.x5))
 ·have hF:=bF' h4 hF;exact QV rfl (join false _ _ hF sw)
 have hF:=bT' h4 hF;refine bq SV 4 rfl (bz SV rfl (TV (b:=(decide (p0.q0.q5=p1.q0.q5)&&(decide (p0.q0.q8=p1.q0.q8)&&true))) (eqOk_of (n:=2) (sh:=[.int .i64,.int .i64]) Tryz.underlying32 (by kernel_rfl) (by kernel_rfl)) rfl rfl rfl rfl (bq SV 2 rfl ?_)));cases h5:((decide (p0.q0.q5=p1.q0.q5)&&(decide (p0.q0.q8=p1.q0.q8)&&true)) != false)
 ·have hF:=bF' h5 hF;exact QV rfl (join false _ _ hF sw)
 have hF:=bT' h5 hF;refine bq SV 7 rfl ?_;cases h6:(decide (p0.x9=p1.x9) != false)
 ·have hF:=bF' h6 hF;exact QV rfl (join false _ _ hF sw)
 have hF:=bT' h6 hF;refine bq SV 4 rfl ?_;obtain⟨r7,hr7,hF⟩:=bB' hF
 exact bz SV rfl (dj (u2 _ _ _ hr7) ⟨rfl,rfl,trivial⟩ rfl (.inl rfl) (QV rfl (join r7 _ _ hF sw)))
def Gj(p0:cz)(p1:cz):Option Bool :=
  ((xW p0 p1).bind fun r1=>some r1)
theorem Vq(p0:cz)(p1:cz)(r:Bool)(hF:Gj p0 p1=some r):Fun Tryz.prog 61 true [] [.agg (rj p0),.agg (rj p1)] noHeap (cB r) noHeap:=by
 refine fW Tryz.func61 ?_
 unfold Gj at hF
 refine wA rfl (wC 2 rfl ?_);obtain⟨r1,hr1,hF⟩:=bB hF
 refine rS (dj (O6 _ _ _ hr1) ⟨⟨rfl,rfl,rfl,rfl,rfl,rfl,rfl,trivial⟩,⟨rfl,rfl,rfl,rfl,rfl,rfl,rfl,trivial⟩,trivial⟩ rfl (.inl rfl) (QV rfl ?_));cases hF
 exact bZ wR
def eQ(p0:(List cz))(p1:(List cz)):Int→Option (Int ⊕ (Unit ⊕ Bool)):=fun a14 =>
  (bif (decide (a14<(List.length p0:Int)))then((idx p0 a14).bind fun y20=>((idx p1 a14).bind fun y21=>((Gj y20 y21).bind fun r22=>(bif (!r22)then some (.inr (.inr false))else some (.inl (w64 (a14+1)))))))else some (.inr (.inl ())))
def eJ(p0:(List cz))(p1:(List cz)):Option Bool :=
  (bif (!decide ((List.length p0:Int)=(List.length p1:Int)))then some false else((loop (eQ p0 p1) 0).bind fun | .inl _=>some true | .inr rv=>some rv))
theorem oV(p0:(List cz))(p1:(List cz))(r:Bool)(hF:eJ p0 p1=some r):Fun Tryz.prog 60 false [] [cL 7 cq p0,cL 7 cq p1,.c (.fn 61 [])] (aQ []) (cB r) (aQ []):=by
 refine fM [] (some []) Tryz.func60 ?_
 unfold eJ at hF
 refine wA rfl (aJ (wC 1 rfl (rS (fQ (tc:=cq) p0 .tree (bq SV 1 rfl (rS (fQ (tc:=cq) p1 .tree (QV rfl (wIf hF rfl (fun _ hF=>?_) fun _ hF=>?_)))))))))
 ·refine wA rfl ?_;cases hF
  exact bZ ⟨_,_,e9,_,rfl,rfl,⟨rfl,fun _=>rfl⟩,(AgM.weak trivial)⟩
 refine aW (aJ (wC 1 rfl (rS (fQ (tc:=cq) p0 .tree (QV rfl (kq (fun _ _ h=>h) hF (.inl) (fun a14=>[(1,cL 7 cq p1),(2,.c (.fn 61 [])),(15,cL 7 cq p0),(16,cI (List.length p0:Int)),(17,cI a14)]) (fun a14=>[]) (fun _=>[]) (fun _=>[]) sw ?_ ?_))))))
 ·rintro⟨⟩ hF
  refine wA rfl ?_;cases hF
  exact bZ ⟨_,_,e9,_,rfl,rfl,⟨rfl,fun _=>rfl⟩,(AgM.weak trivial)⟩
 rintro a14 x_0 hF cont_0 brk_0 fin_0
 unfold eQ at hF
 refine wA rfl (aJ (wIf hF rfl (fun _ hF=>?_) fun _ hF=>?_))
 ·refine aW (aJ (dV (wC 1 rfl ?_)));obtain⟨y20,hy20,hF⟩:=bB hF
  refine rS (i8 (tc:=cq) p0 rfl rfl hy20 (QV rfl (wC 2 rfl ?_)));obtain⟨y21,hy21,hF⟩:=bB hF
  refine rS (i8 (tc:=cq) p1 rfl rfl hy21 (QV rfl (wC 3 rfl ?_)));obtain⟨r22,hr22,hF⟩:=bB hF
  refine jX trivial (Ej (E6 _ rfl a9q) (Vq _ _ _ hr22) ⟨⟨rfl,rfl,rfl,rfl,rfl,rfl,rfl,trivial⟩,⟨rfl,rfl,rfl,rfl,rfl,rfl,rfl,trivial⟩,trivial⟩ rfl (.inl rfl) (QV rfl (wIf hF rfl (fun _ hF=>?_) fun _ hF=>?_)))
  ·refine wA rfl ?_;have hF:=fin_0 _ (oi hF);cases hF
   exact bZ ⟨_,_,e9,_,rfl,rfl,⟨rfl,fun _=>rfl⟩,(AgM.weak trivial)⟩
  exact aW (wB rfl (cont_0 _ _ _ (oi hF) sw))
 exact fZ (aZ (aZ (cj (brk_0 _ _ _ (oi hF) sw))))
def G2(p0:cW)(p1:cW):Option Bool :=
  (((bif ((decide (p0.q0.q5=p1.q0.q5)&&(decide (p0.q0.q8=p1.q0.q8)&&true)) != false)then((lQ p0.z3 p1.z3).bind fun r3=>(bif r3 then((mQ p0.z6 p1.z6).bind fun r5=>(bif r5 then((mj p0.j7 p1.j7).bind fun r7=>(bif r7 then((nz p0.v9 p1.v9).bind fun r9=>(bif r9 then((m9 p0.w4 p1.w4).bind fun r11=>(bif r11 then((nq p0.x4 p1.x4).bind fun r13=>(bif r13 then((d7 p0.z9 p1.z9).bind fun r15=>(bif r15 then((eJ p0.j5 p1.j5).bind fun r17=>some r17)else some false))else some false))else some false))else some false))else some false))else some false))else some false))else some false):Option Bool).bind fun v1=>some v1)
theorem aaW(p0:cW)(p1:cW)(r:Bool)(hF:G2 p0 p1=some r):Fun Tryz.prog 16 true [] [.agg (nJ p0),.agg (nJ p1)] noHeap (cB r) noHeap:=by
 refine fW Tryz.func16 ?_
 unfold G2 at hF
 refine wA rfl (aJ (eV (fun _ _ h=>h) hF (fun v1=>[(4,cB v1)]) (fun v1=>[]) ?_ ?_))
 ·rintro v1 hF
  cases hF
  exact bZ wR
 intro join hF
 refine wD 4 rfl (rS (TV (b:=(decide (p0.q0.q5=p1.q0.q5)&&(decide (p0.q0.q8=p1.q0.q8)&&true))) (eqOk_of (n:=2) (sh:=[.int .i64,.int .i64]) Tryz.underlying32 (by kernel_rfl) (by kernel_rfl)) rfl rfl rfl rfl (bq SV 1 rfl ?_)));cases h2:((decide (p0.q0.q5=p1.q0.q5)&&(decide (p0.q0.q8=p1.q0.q8)&&true)) != false)
 ·have hF:=bF' h2 hF;exact QV rfl (join false _ _ hF sw)
 have hF:=bT' h2 hF;refine bq SV 4 rfl ?_;obtain⟨r3,hr3,hF⟩:=bB' hF
 refine bz SV rfl (dj (AX _ _ _ hr3) ⟨rfl,rfl,trivial⟩ rfl (.inl rfl) (bq SV 2 rfl ?_));cases h4:r3
 ·have hF:=bF' h4 hF;exact QV rfl (join false _ _ hF sw)
 have hF:=bT' h4 hF;refine bq SV 4 rfl ?_;obtain⟨r5,hr5,hF⟩:=bB' hF
 refine bz SV rfl (dj (A7 _ _ _ hr5) ⟨rfl,rfl,trivial⟩ rfl (.inl rfl) (bq SV 2 rfl ?_));cases h6:r5
 ·have hF:=bF' h6 hF;exact QV rfl (join false _ _ hF sw)
 have hF:=bT' h6 hF;refine bq SV 4 rfl ?_;obtain⟨r7,hr7,hF⟩:=bB' hF
 refine bz SV rfl (dj (Bq _ _ _ hr7) ⟨rfl,rfl,trivial⟩ rfl (.inl rfl) (bq SV 2 rfl ?_));cases h8:r7
 ·have hF:=bF' h8 hF;exact QV rfl (join false _ _ hF sw)
 have hF:=bT' h8 hF;refine bq SV 4 rfl ?_;obtain⟨r9,hr9,hF⟩:=bB' hF
 refine bz SV rfl (dj (B8 _ _ _ hr9) ⟨rfl,rfl,trivial⟩ rfl (.inl rfl) (bq SV 2 rfl ?_));cases h10:r9
 ·have hF:=bF' h10 hF;exact QV rfl (join false _ _ hF sw)
 have hF:=bT' h10 hF;refine bq SV 4 rfl ?_;obtain⟨r11,hr11,hF⟩:=bB' hF
 refine bz SV rfl (dj (CX _ _ _ hr11) ⟨rfl,rfl,trivial⟩ rfl (.inl rfl) (bq SV 2 rfl ?_));cases h12:r11
 ·have hF:=bF' h12 hF;exact QV rfl (join false _ _ hF sw)
 have hF:=bT' h12 hF;refine bq SV 4 rfl ?_;obtain⟨r13,hr13,hF⟩:=bB' hF
 refine bz SV rfl (dj (Cj _ _ _ hr13) ⟨rfl,rfl,trivial⟩ rfl (.inl rfl) (bq SV 2 rfl ?_));cases h14:r13
 ·have hF:=bF' h14 hF;exact QV rfl (join false _ _ hF sw)
 have hF:=bT' h14 hF;refine bq SV 4 rfl ?_;obtain⟨r15,hr15,hF⟩:=bB' hF
 refine bz SV rfl (qx [] rfl (n9 _ _ _ hr15) trivial rfl rfl (.inr ⟨.inl rfl,.inl rfl,.inl rfl,trivial⟩) (bq SV 2 rfl ?_))
 cases h16:r15
 ·have hF:=bF' h16 hF;exact QV rfl (join false _ _ hF sw)
 have hF:=bT' h16 hF;refine bq SV 4 rfl ?_;obtain⟨r17,hr17,hF⟩:=bB' hF
 exact bz SV rfl (qx [] rfl (oV _ _ _ hr17) trivial rfl rfl (.inr ⟨.inl rfl,.inl rfl,.inl rfl,trivial⟩) (QV rfl (join r17 _ _ hF sw)))
def gz(p0:cW)(p1:az)(p2:az):Option Bool :=
  ((sJ p0).bind fun r1=>(bif (!r1)then((oQ ).bind fun r2=>some r2)else((pY p0 p1).bind fun r3=>(((bif (!decide (r3.2=0))then some true else(bif (decide (r3.1.q0.q8=0))then some true else((lz p2).bind fun r23=>some (!r23)))):Option Bool).bind fun v4=>(bif v4 then((oQ ).bind fun r5=>some r5)else((pY r3.1 p2).bind fun r6=>(bif (decide ((min (w64 ((max p1.q5 p0.q0.q5)+p2.q8)) (w64 ((max p1.q5 p0.q0.q5)+r3.1.q0.q8)))≤(w64 ((max p1.q5 p0.q0.q5)+p2.q5))))then(((bif (decide (r6.2=0))then(bif (decide ((w64 ((w64 ((w64 ((w64 ((w64 ((w64 ((List.length r6.1.z6:Int)+(List.length r6.1.j7:Int)))+(List.length r6.1.v9:Int)))+(List.length r6.1.z9:Int)))+(List.length r6.1.w4:Int)))+(List.length r6.1.j5:Int)))+(List.length r6.1.x4:Int)))=0))then(bif ((decide (r6.1.q0.q5=0)&&(decide (r6.1.q0.q8=0)&&true)) != false)then((oQ ).bind fun r11=>some r11)else some false)else some false)else some false):Option Bool).bind fun v7=>some v7)else((pY p0 ({q5:=(w64 ((max p1.q5 p0.q0.q5)+p2.q5)),q8:=(min (w64 ((max p1.q5 p0.q0.q5)+p2.q8)) (w64 ((max p1.q5 p0.q0.q5)+r3.1.q0.q8)))}:az)).bind fun r12=>(((bif (decide (r6.2=0))then(bif (decide (r12.2=0))then((G2 r6.1 r12.1).bind fun r16=>(bif r16 then((oQ ).bind fun r18=>some r18)else some false))else some false)else some false):Option Bool).bind fun v13=>some v13)))))))))
end Go.VM
