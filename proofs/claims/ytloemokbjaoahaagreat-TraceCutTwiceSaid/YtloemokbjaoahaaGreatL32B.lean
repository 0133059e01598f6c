/- From the law on lists and numbers to the statement. -/
import Derived.Test.YtloemokbjaoahaaGreatL322
import Derived.JoinedOf
import Derived.SizedLaws
namespace Go.VM
open Go.Proofs Go.Proofs.YtloemokbjaoahaaGreat
open Go.ChangeShapes Go.WideShapes Go.ChangeAt Go.RowKit
def ayJ(x:cW):List T:=[tI x.q0.q5,tI x.q0.q8,.sl 3 (List.map fX x.z3),.sl 8 (List.map aK x.z6),.sl 7 (List.map bW x.j7),.sl 7 (List.map c4 x.v9),.sl 4 (List.map cV x.z9),.sl 3 (List.map c5 x.w4),.sl 7 (List.map cq x.j5),.sl 4 (List.map fj x.x4)]
def aCY(x:az):List T:=[tI x.q5,tI x.q8]
def Hz(x:i5):Prop:=inI .i64 x.x6∧ByteArray.size x.q7≤reachBytes∧inI .i64 x.x8
theorem aaZ(ts:List T)(h:WTs [.int .i64,.str,.int .i64] ts):∃x:i5,fX x=ts∧Hz x:=by
  obtain⟨t0,r0,rfl,h0,h⟩:=h.inv
  obtain⟨t1,r1,rfl,h1,h⟩:=h.inv
  obtain⟨t2,r2,rfl,h2,h⟩:=h.inv
  obtain rfl:=h.inv0
  obtain⟨y0,rfl,k0⟩:=kW h0
  obtain⟨y1,rfl,k1⟩:=apj h1
  obtain⟨y2,rfl,k2⟩:=kW h2
  exact⟨({x6:=y0,q7:=y1,x8:=y2}:i5),rfl,k0,k1,k2⟩
def I5(x:aX):Prop:=inI .i64 x.q6∧inI .i64 x.z2∧inI .i64 x.j3∧ByteArray.size x.q7≤reachBytes∧inI .i64 x.q0.q5∧inI .i64 x.q0.q8∧inI .i64 x.x3∧True
theorem aiY(ts:List T)(h:WTs [.int .i64,.int .i64,.int .i64,.str,.int .i64,.int .i64,.int .i64,.bool] ts):∃x:aX,aK x=ts∧I5 x:=by
  obtain⟨t0,r0,rfl,h0,h⟩:=h.inv
  obtain⟨t1,r1,rfl,h1,h⟩:=h.inv
  obtain⟨t2,r2,rfl,h2,h⟩:=h.inv
  obtain⟨t3,r3,rfl,h3,h⟩:=h.inv
  obtain⟨t4,r4,rfl,h4,h⟩:=h.inv
  obtain⟨t5,r5,rfl,h5,h⟩:=h.inv
  obtain⟨t6,r6,rfl,h6,h⟩:=h.inv
  obtain⟨t7,r7,rfl,h7,h⟩:=h.inv
  obtain rfl:=h.inv0
  obtain⟨y0,rfl,k0⟩:=kW h0
  obtain⟨y1,rfl,k1⟩:=kW h1
  obtain⟨y2,rfl,k2⟩:=kW h2
  obtain⟨y3,rfl,k3⟩:=apj h3
  obtain⟨y4,rfl,k4⟩:=kW h4
  obtain⟨y5,rfl,k5⟩:=kW h5
  obtain⟨y6,rfl,k6⟩:=kW h6
  obtain⟨y7,rfl,k7⟩:=aHz h7
  exact⟨({q6:=y0,z2:=y1,j3:=y2,q7:=y3,q0:=({q5:=y4,q8:=y5}:az),x3:=y6,w7:=y7}:aX),rfl,k0,k1,k2,k3,k4,k5,k6,k7⟩
def PZ(x:bj):Prop:=inI .i64 x.q6∧inI .i64 x.j8∧inI .i64 x.q0.q5∧inI .i64 x.q0.q8∧inI .i64 x.x7∧inI .i64 x.g8∧inI .i64 x.g9
theorem ahK(ts:List T)(h:WTs [.int .i64,.int .i64,.int .i64,.int .i64,.int .i64,.int .i64,.int .i64] ts):∃x:bj,bW x=ts∧PZ x:=by
  obtain⟨t0,r0,rfl,h0,h⟩:=h.inv
  obtain⟨t1,r1,rfl,h1,h⟩:=h.inv
  obtain⟨t2,r2,rfl,h2,h⟩:=h.inv
  obtain⟨t3,r3,rfl,h3,h⟩:=h.inv
  obtain⟨t4,r4,rfl,h4,h⟩:=h.inv
  obtain⟨t5,r5,rfl,h5,h⟩:=h.inv
  obtain⟨t6,r6,rfl,h6,h⟩:=h.inv
  obtain rfl:=h.inv0
  obtain⟨y0,rfl,k0⟩:=kW h0
  obtain⟨y1,rfl,k1⟩:=kW h1
  obtain⟨y2,rfl,k2⟩:=kW h2
  obtain⟨y3,rfl,k3⟩:=kW h3
  obtain⟨y4,rfl,k4⟩:=kW h4
  obtain⟨y5,rfl,k5⟩:=kW h5
  obtain⟨y6,rfl,k6⟩:=kW h6
  exact⟨({q6:=y0,j8:=y1,q0:=({q5:=y2,q8:=y3}:az),x7:=y4,g8:=y5,g9:=y6}:bj),rfl,k0,k1,k2,k3,k4,k5,k6⟩
def R8(x:c7):Prop:=inI .i64 x.x6∧inI .i64 x.q5.q6∧inI .i64 x.q5.w8∧inI .i64 x.q8.q6∧inI .i64 x.q8.w8∧inI .i64 x.w9∧inI .i64 x.v8
theorem apY(ts:List T)(h:WTs [.int .i64,.int .i64,.int .i64,.int .i64,.int .i64,.int .i64,.int .i64] ts):∃x:c7,c4 x=ts∧R8 x:=by
  obtain⟨t0,r0,rfl,h0,h⟩:=h.inv
  obtain⟨t1,r1,rfl,h1,h⟩:=h.inv
  obtain⟨t2,r2,rfl,h2,h⟩:=h.inv
  obtain⟨t3,r3,rfl,h3,h⟩:=h.inv
  obtain⟨t4,r4,rfl,h4,h⟩:=h.inv
  obtain⟨t5,r5,rfl,h5,h⟩:=h.inv
  obtain⟨t6,r6,rfl,h6,h⟩:=h.inv
  obtain rfl:=h.inv0
  obtain⟨y0,rfl,k0⟩:=kW h0
  obtain⟨y1,rfl,k1⟩:=kW h1
  obtain⟨y2,rfl,k2⟩:=kW h2
  obtain⟨y3,rfl,k3⟩:=kW h3
  obtain⟨y4,rfl,k4⟩:=kW h4
  obtain⟨y5,rfl,k5⟩:=kW h5
  obtain⟨y6,rfl,k6⟩:=kW h6
  exact⟨({x6:=y0,q5:=({q6:=y1,w8:=y2}:aoZ),q8:=({q6:=y3,w8:=y4}:aoZ),w9:=y5,v8:=y6}:c7),rfl,k0,k1,k2,k3,k4,k5,k6⟩
def Z1(x:ByteArray):Prop:=ByteArray.size x≤reachBytes
theorem aHJ(ts:List T)(h:WTs [.str] ts):∃x:ByteArray,CW x=ts∧Z1 x:=by
  obtain⟨t0,r0,rfl,h0,h⟩:=h.inv
  obtain rfl:=h.inv0
  obtain⟨y0,rfl,k0⟩:=apj h0
  exact⟨y0,rfl,k0⟩
def Hj(x:bY):Prop:=inI .i64 x.q6∧inI .i64 x.j9∧inI .i64 x.w5∧okL Z1 x.j4
theorem acJ(ts:List T)(h:WTs [.int .i64,.int .i64,.int .i64,.sl [.str]] ts):∃x:bY,cV x=ts∧Hj x:=by
  obtain⟨t0,r0,rfl,h0,h⟩:=h.inv
  obtain⟨t1,r1,rfl,h1,h⟩:=h.inv
  obtain⟨t2,r2,rfl,h2,h⟩:=h.inv
  obtain⟨t3,r3,rfl,h3,h⟩:=h.inv
  obtain rfl:=h.inv0
  obtain⟨y0,rfl,k0⟩:=kW h0
  obtain⟨y1,rfl,k1⟩:=kW h1
  obtain⟨y2,rfl,k2⟩:=kW h2
  obtain⟨y3,rfl,k3⟩:=E0 aHJ h3
  exact⟨({q6:=y0,j9:=y1,w5:=y2,j4:=y3}:bY),rfl,k0,k1,k2,k3⟩
def LK(x:bJ):Prop:=ByteArray.size x.q7≤reachBytes∧inI .i64 x.j9∧inI .i64 x.j6
theorem apJ(ts:List T)(h:WTs [.str,.int .i64,.int .i64] ts):∃x:bJ,c5 x=ts∧LK x:=by
  obtain⟨t0,r0,rfl,h0,h⟩:=h.inv
  obtain⟨t1,r1,rfl,h1,h⟩:=h.inv
  obtain⟨t2,r2,rfl,h2,h⟩:=h.inv
  obtain rfl:=h.inv0
  obtain⟨y0,rfl,k0⟩:=apj h0
  obtain⟨y1,rfl,k1⟩:=kW h1
  obtain⟨y2,rfl,k2⟩:=kW h2
  exact⟨({q7:=y0,j9:=y1,j6:=y2}:bJ),rfl,k0,k1,k2⟩
def I0(x:cz):Prop:=inI .i64 x.x6∧inI .i64 x.q6∧inI .i64 x.x5∧inI .i64 x.q0.q5∧inI .i64 x.q0.q8∧okL Z1 x.j4∧True
theorem aiW(ts:List T)(h:WTs [.int .i64,.int .i64,.int .i64,.int .i64,.int .i64,.sl [.str],.bool] ts):∃x:cz,cq x=ts∧I0 x:=by
  obtain⟨t0,r0,rfl,h0,h⟩:=h.inv
  obtain⟨t1,r1,rfl,h1,h⟩:=h.inv
  obtain⟨t2,r2,rfl,h2,h⟩:=h.inv
  obtain⟨t3,r3,rfl,h3,h⟩:=h.inv
  obtain⟨t4,r4,rfl,h4,h⟩:=h.inv
  obtain⟨t5,r5,rfl,h5,h⟩:=h.inv
  obtain⟨t6,r6,rfl,h6,h⟩:=h.inv
  obtain rfl:=h.inv0
  obtain⟨y0,rfl,k0⟩:=kW h0
  obtain⟨y1,rfl,k1⟩:=kW h1
  obtain⟨y2,rfl,k2⟩:=kW h2
  obtain⟨y3,rfl,k3⟩:=kW h3
  obtain⟨y4,rfl,k4⟩:=kW h4
  obtain⟨y5,rfl,k5⟩:=E0 aHJ h5
  obtain⟨y6,rfl,k6⟩:=aHz h6
  exact⟨({x6:=y0,q6:=y1,x5:=y2,q0:=({q5:=y3,q8:=y4}:az),j4:=y5,x9:=y6}:cz),rfl,k0,k1,k2,k3,k4,k5,k6⟩
def S8(x:fJ):Prop:=inI .i64 x.q6∧inI .i64 x.q0.q5∧inI .i64 x.q0.q8∧inI .i64 x.w6
theorem aqJ(ts:List T)(h:WTs [.int .i64,.int .i64,.int .i64,.int .i64] ts):∃x:fJ,fj x=ts∧S8 x:=by
  obtain⟨t0,r0,rfl,h0,h⟩:=h.inv
  obtain⟨t1,r1,rfl,h1,h⟩:=h.inv
  obtain⟨t2,r2,rfl,h2,h⟩:=h.inv
  obtain⟨t3,r3,rfl,h3,h⟩:=h.inv
  obtain rfl:=h.inv0
  obtain⟨y0,rfl,k0⟩:=kW h0
  obtain⟨y1,rfl,k1⟩:=kW h1
  obtain⟨y2,rfl,k2⟩:=kW h2
  obtain⟨y3,rfl,k3⟩:=kW h3
  exact⟨({q6:=y0,q0:=({q5:=y1,q8:=y2}:az),w6:=y3}:fJ),rfl,k0,k1,k2,k3⟩
def rX(x:cW):Prop:=inI .i64 x.q0.q5∧inI .i64 x.q0.q8∧okL Hz x.z3∧okL I5 x.z6∧okL PZ x.j7∧okL R8 x.v9∧okL Hj x.z9∧okL LK x.w4∧okL I0 x.j5∧okL S8 x.x4
theorem ahV(ts:List T)(h:WTs [.int .i64,.int .i64,.sl [.int .i64,.str,.int .i64],.sl [.int .i64,.int .i64,.int .i64,.str,.int .i64,.int .i64,.int .i64,.bool],.sl [.int .i64,.int .i64,.int .i64,.int .i64,.int .i64,.int .i64,.int .i64],.sl [.int .i64,.int .i64,.int .i64,.int .i64,.int .i64,.int .i64,.int .i64],.sl [.int .i64,.int .i64,.int .i64,.sl [.str]],.sl [.str,.int .i64,.int .i64],.sl [.int .i64,.int .i64,.int .i64,.int .i64,.int .i64,.sl [.str],.bool],.sl [.int .i64,.int .i64,.int .i64,.int .i64]] ts):∃x:cW,ayJ x=ts∧rX x:=by
  obtain⟨t0,r0,rfl,h0,h⟩:=h.inv
  obtain⟨t1,r1,rfl,h1,h⟩:=h.inv
  obtain⟨t2,r2,rfl,h2,h⟩:=h.inv
  obtain⟨t3,r3,rfl,h3,h⟩:=h.inv
  obtain⟨t4,r4,rfl,h4,h⟩:=h.inv
  obtain⟨t5,r5,rfl,h5,h⟩:=h.inv
  obtain⟨t6,r6,rfl,h6,h⟩:=h.inv
  obtain⟨t7,r7,rfl,h7,h⟩:=h.inv
  obtain⟨t8,r8,rfl,h8,h⟩:=h.inv
  obtain⟨t9,r9,rfl,h9,h⟩:=h.inv
  obtain rfl:=h.inv0
  obtain⟨y0,rfl,k0⟩:=kW h0
  obtain⟨y1,rfl,k1⟩:=kW h1
  obtain⟨y2,rfl,k2⟩:=E0 aaZ h2
  obtain⟨y3,rfl,k3⟩:=E0 aiY h3
  obtain⟨y4,rfl,k4⟩:=E0 ahK h4
  obtain⟨y5,rfl,k5⟩:=E0 apY h5
  obtain⟨y6,rfl,k6⟩:=E0 acJ h6
  obtain⟨y7,rfl,k7⟩:=E0 apJ h7
  obtain⟨y8,rfl,k8⟩:=E0 aiW h8
  obtain⟨y9,rfl,k9⟩:=E0 aqJ h9
  exact⟨({q0:=({q5:=y0,q8:=y1}:az),z3:=y2,z6:=y3,j7:=y4,v9:=y5,z9:=y6,w4:=y7,j5:=y8,x4:=y9}:cW),rfl,k0,k1,k2,k3,k4,k5,k6,k7,k8,k9⟩
def vW(x:az):Prop:=inI .i64 x.q5∧inI .i64 x.q8
theorem UJ(ts:List T)(h:WTs [.int .i64,.int .i64] ts):∃x:az,aCY x=ts∧vW x:=by
  obtain⟨t0,r0,rfl,h0,h⟩:=h.inv
  obtain⟨t1,r1,rfl,h1,h⟩:=h.inv
  obtain rfl:=h.inv0
  obtain⟨y0,rfl,k0⟩:=kW h0
  obtain⟨y1,rfl,k1⟩:=kW h1
  exact⟨({q5:=y0,q8:=y1}:az),rfl,k0,k1⟩
set_option maxRecDepth 100000 in
theorem KK(hlaw:∀(x0:cW) (x1:az) (x2:az),rX x0→vW x1→vW x2→gz x0 x1 x2=some true)(H:Type)(enc:TypeId×Value→H)(W:World)(base:Nat)(args:Array Value)(ds gs:List (DataW H))(before:List MemPlace)
    (hval:∀(j:Nat) t v,Tryz.f6.params[j]? = some t→args[j]? = some v→Value.okWide Tryz.prog W .any base t v)
    (hW:DataW.Whole enc Tryz.prog Tryz.f6.params.toList Rows.traceCutTwiceSpec.vars false W args.toList ds gs before)
    (hz:(DataW.weightsEach Tryz.prog (Tryz.f6.params.toList++Rows.traceCutTwiceSpec.plain.varTypes Tryz.prog) (ds++gs)).all (·≤reachBytes)=true) :
    Calls Tryz.prog 6 args W fun e W'=>∃v,e = .returned v∧Rows.traceCutTwiceSpec.post enc Tryz.prog Tryz.f6 false true false false W args v W':=by
  refine aOJ (n:=64) (ts:=[42,33,33]) (tb:=4) (shs:=[[.int .i64,.int .i64,.sl [.int .i64,.str,.int .i64],.sl [.int .i64,.int .i64,.int .i64,.str,.int .i64,.int .i64,.int .i64,.bool],.sl [.int .i64,.int .i64,.int .i64,.int .i64,.int .i64,.int .i64,.int .i64],.sl [.int .i64,.int .i64,.int .i64,.int .i64,.int .i64,.int .i64,.int .i64],.sl [.int .i64,.int .i64,.int .i64,.sl [.str]],.sl [.str,.int .i64,.int .i64],.sl [.int .i64,.int .i64,.int .i64,.int .i64,.int .i64,.sl [.str],.bool],.sl [.int .i64,.int .i64,.int .i64,.int .i64]],[.int .i64,.int .i64],[.int .i64,.int .i64]]) (bs:=[true,true,true]) (by kernel_rfl) (by kernel_rfl) (by kernel_rfl) rfl (by kernel_rfl) (by kernel_rfl) (fun ds h=>?_) (by kernel_rfl) (by kernel_rfl) (fresh:=true) (fun tss h=>?_) hval hW hz
  ·match ds,h with
   | [_,_,_],_=>exact⟨rfl,rfl,rfl⟩
  ·match tss,h with
   | [t0,t1,t2],⟨h0,h1,h2,_⟩ =>
     obtain⟨x0,rfl,k0⟩:=ahV t0 h0
     obtain⟨x1,rfl,k1⟩:=UJ t1 h1
     obtain⟨x2,rfl,k2⟩:=UJ t2 h2
     exact C7 x0 x1 x2 true (hlaw x0 x1 x2 k0 k1 k2)
set_option maxRecDepth 100000 in
theorem Nq(hlaw:∀(x0:cW) (x1:az) (x2:az),rX x0→vW x1→vW x2→gz x0 x1 x2=some true)(os:Os)(started:os.Started)(H:Type)(enc:TypeId×Value→H) :
    ReturnsInHanded {} Tryz.checked os 6 .any (Rows.traceCutTwiceSpec.pre6 enc Tryz.prog Tryz.f6 Rows.traceCutTwiceRow.domain false) (Rows.traceCutTwiceSpec.post enc Tryz.prog Tryz.f6 false true false false):=by
  refine returnsInHanded_of_change_sized (C:=Tryz.checked) (s:=Rows.traceCutTwiceSpec) (by kernel_rfl) started (by kernel_rfl) Tryz.func6
    (ChangeSpec.witness6 (enc:=enc) (C:=Tryz.checked) false ⟨#[],#[.agg #[.int .i64 0,.int .i64 0,.slice none 0 0,.slice none 0 0,.slice none 0 0,.slice none 0 0,.slice none 0 0,.slice none 0 0,.slice none 0 0,.slice none 0 0],.agg #[.int .i64 0,.int .i64 0],.agg #[.int .i64 0,.int .i64 0]],[]⟩ 64 (by kernel_rfl) (by kernel_rfl) (by kernel_rfl) (by kernel_rfl)) ?_
  intro W base args ds gs before hval hW _ hz _
  exact KK hlaw H enc W base args ds gs before hval hW hz
set_option maxRecDepth 100000 in
theorem W4:(Rows.traceCutTwiceRow.wf (OpenSpec.ofChange Rows.traceCutTwiceSpec))=true:=by kernel_rfl
set_option maxRecDepth 100000 in
theorem V4:(laidOutB Tryz.pinned.checked.prog)=true:=by kernel_rfl
set_option maxRecDepth 100000 in
theorem Vz:(mapsRowed Tryz.pinned.checked.prog)=true:=by kernel_rfl
set_option maxRecDepth 100000 in
theorem VK:(Tryz.f6.params.all (Tryz.pinned.checked.prog.readableRec ·))=true:=by kernel_rfl
set_option maxRecDepth 100000 in
theorem Wq:(namedTie Tryz.pinned.checked.prog Rows.traceCutTwiceRow.named Rows.traceCutTwiceSpec.vars)=true:=by kernel_rfl
set_option maxRecDepth 100000 in
theorem Xz:((Rows.traceCutTwiceRow.stops == []))=true:=by kernel_rfl
set_option maxRecDepth 100000 in
theorem XQ:((Tryz.pinned.checked.prog.stops == []))=true:=by kernel_rfl
set_option maxRecDepth 100000 in
theorem WV:((Rows.traceCutTwiceRow.knobs == []))=true:=by kernel_rfl
set_option maxRecDepth 100000 in
theorem Vj:((Tryz.pinned.checked.prog.stopKnobs == []))=true:=by kernel_rfl
set_option maxRecDepth 100000 in
theorem W2:((Rows.traceCutTwiceRow.inPlace == Tryz.pinned.checked.prog.inPlace 6))=true:=by kernel_rfl
set_option maxRecDepth 100000 in
theorem SJ:((Rows.traceCutTwiceRow.unfollowed == Tryz.pinned.checked.prog.unfollowed 6))=true:=by kernel_rfl
set_option maxRecDepth 100000 in
theorem U6:((Rows.traceCutTwiceRow.recurses == Tryz.pinned.checked.prog.recurses 6))=true:=by kernel_rfl
set_option maxRecDepth 100000 in
theorem Uq:((Rows.traceCutTwiceRow.named == Tryz.pinned.checked.prog.varsNamed 6))=true:=by kernel_rfl
set_option maxRecDepth 100000 in
theorem T4:((Rows.traceCutTwiceRow.maps == (Tryz.f6.params.toList++Rows.traceCutTwiceSpec.plain.varTypes Tryz.pinned.checked.prog).any (Tryz.pinned.checked.prog.mapsRec ·)))=true:=by kernel_rfl
set_option maxRecDepth 100000 in
theorem S9:((Rows.traceCutTwiceRow.ifaces == (Tryz.f6.params.toList++Rows.traceCutTwiceSpec.plain.varTypes Tryz.pinned.checked.prog).any (Tryz.pinned.checked.prog.ifacesRec ·)))=true:=by kernel_rfl
set_option maxRecDepth 100000 in
theorem SK:((Rows.traceCutTwiceRow.mapsOut == Tryz.pinned.checked.prog.mapsAmong Tryz.f6.resultTypes.toList))=true:=by kernel_rfl
set_option maxRecDepth 100000 in
theorem SY:((Rows.traceCutTwiceRow.loops == (Tryz.f6.params.toList++Rows.traceCutTwiceSpec.plain.varTypes Tryz.pinned.checked.prog).any (Tryz.pinned.checked.prog.loopsFrom ·)))=true:=by kernel_rfl
set_option maxRecDepth 100000 in
theorem T9:((Rows.traceCutTwiceRow.wideKeys == (Tryz.f6.params.toList++Rows.traceCutTwiceSpec.plain.varTypes Tryz.pinned.checked.prog++Tryz.f6.resultTypes.toList).any (Tryz.pinned.checked.prog.wideKeysFrom ·)))=true:=by kernel_rfl
set_option maxRecDepth 100000 in
theorem S7:(Rows.traceCutTwiceSpec.vars.all (Tryz.pinned.checked.prog.varReadable ·))=true:=by kernel_rfl
set_option maxRecDepth 100000 in
theorem Sz:(Tryz.f6.resultTypes.all (fun t=>Tryz.pinned.checked.prog.readableRec t&&decide (t<Tryz.pinned.checked.prog.types.size)))=true:=by kernel_rfl
set_option maxRecDepth 100000 in
theorem Tj:((Rows.traceCutTwiceRow.ifacesOut == Tryz.f6.resultTypes.toList.any (Tryz.pinned.checked.prog.ifacesRec ·)))=true:=by kernel_rfl
set_option maxRecDepth 100000 in
theorem TZ:((Rows.traceCutTwiceRow.loopsOut == Tryz.f6.resultTypes.toList.any (Tryz.pinned.checked.prog.loopsFrom ·)))=true:=by kernel_rfl
set_option maxRecDepth 100000 in
theorem Tq:((Rows.traceCutTwiceRow.plainKeys == Tryz.pinned.checked.prog.plainKeys))=true:=by kernel_rfl
set_option maxRecDepth 100000 in
theorem Ux:(Rows.traceCutTwiceRow.shortTexts.isNone)=true:=by kernel_rfl
set_option maxRecDepth 100000 in
theorem T5:(Tryz.pinned.checked.prog.stopsHeard)=true:=by kernel_rfl
set_option maxRecDepth 100000 in
theorem TW:(Tryz.pinned.checked.prog.mayEnter)=true:=by kernel_rfl
set_option maxRecDepth 100000 in
theorem Sx:((Rows.traceCutTwiceRow.lifted == Tryz.pinned.checked.prog.liftsFinal))=true:=by kernel_rfl
set_option maxRecDepth 100000 in
theorem U2:((Tryz.pinned.checked.prog.make == some Rows.traceCutTwiceRow.make))=true:=by kernel_rfl
set_option maxRecDepth 100000 in
theorem TY:((Rows.traceCutTwiceRow.kinds == (if Rows.traceCutTwiceRow.domain.isEmpty then[]else Tryz.f6.params.toList.map fun t => match Tryz.pinned.checked.prog.underlying t with | some (.int k) => some k | _ => none)))=true := by kernel_rfl
set_option maxRecDepth 100000 in
theorem UK:((Rows.traceCutTwiceRow.pinned == Rows.traceCutTwiceRow.pinnedBy))=true:=by kernel_rfl
set_option maxRecDepth 100000 in
theorem Uz:((Rows.traceCutTwiceRow.veiled == (Tryz.f6.params.toList++Rows.traceCutTwiceSpec.plain.varTypes Tryz.pinned.checked.prog++Tryz.f6.resultTypes.toList).any (Tryz.pinned.checked.prog.veiledRec ·)))=true:=by kernel_rfl
set_option maxRecDepth 100000 in
theorem S3:(Rows.traceCutTwiceRow.veiledFits Tryz.pinned.checked.prog Tryz.f6.params.toList (Tryz.f6.params.toList++Rows.traceCutTwiceSpec.plain.varTypes Tryz.pinned.checked.prog++Tryz.f6.resultTypes.toList))=true:=by kernel_rfl
set_option maxRecDepth 100000 in
theorem traceCutTwice_said(hlaw:∀(x0:cW) (x1:az) (x2:az),rX x0→vW x1→vW x2→gz x0 x1 x2=some true):Rows.TraceCutTwiceSaid :=
  OpenClaim.holds_of_wide 6 Tryz.f6 rfl rfl rfl rfl rfl rfl rfl ⟨rfl,rfl,rfl,rfl,rfl⟩ rfl rfl rfl rfl rfl (by kernel_rfl) Tryz.func6 (by simp only[joinedFacts,dk];exact⟨⟨⟨⟨⟨⟨⟨⟨⟨⟨⟨⟨⟨⟨⟨⟨⟨⟨⟨⟨⟨⟨⟨⟨⟨⟨⟨⟨⟨⟨⟨W4,V4⟩,Vz⟩,VK⟩,Wq⟩,Xz⟩,XQ⟩,WV⟩,Vj⟩,W2⟩,SJ⟩,U6⟩,Uq⟩,T4⟩,S9⟩,SK⟩,SY⟩,T9⟩,S7⟩,Sz⟩,Tj⟩,TZ⟩,Tq⟩,Ux⟩,T5⟩,TW⟩,Sx⟩,U2⟩,TY⟩,UK⟩,Uz⟩,S3⟩)
    (of_decide_eq_true (by kernel_rfl)) (by unfold Func.isWrapper;first | (rw[if_pos (by decide +kernel)];kernel_rfl) | (rw[if_neg (by decide +kernel)];exact⟨rfl,rfl⟩))
    (fun os started H enc _=>Nq hlaw os started H enc)
end Go.VM
