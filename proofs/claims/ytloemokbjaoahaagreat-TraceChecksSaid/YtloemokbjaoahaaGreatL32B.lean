/- From the law on lists and numbers to the statement. -/
import Derived.Test.YtloemokbjaoahaaGreatL322
import Derived.JoinedOf
import Derived.SizedLaws
namespace Go.VM
open Go.Proofs Go.Proofs.YtloemokbjaoahaaGreat
open Go.ChangeShapes Go.WideShapes Go.ChangeAt Go.RowKit
def aHK(x:a0):List T:=[tI x.q5.q0,tI x.q5.q9,.sl 3 (List.map bZ x.q7),.sl 8 (List.map aj x.z3),.sl 7 (List.map bz x.z8),.sl 7 (List.map cz x.z6),.sl 4 (List.map b9 x.z2),.sl 3 (List.map bX x.j4),.sl 7 (List.map bJ x.z5),.sl 4 (List.map d7 x.j7)]
def aLW(x:aZ):List T:=[tI x.q0,tI x.q9]
def MK(x:dW):Prop:=inI .i64 x.w5∧ByteArray.size x.q8≤reachBytes∧inI .i64 x.x3
theorem amY(ts:List T)(h:WTs [.int .i64,.str,.int .i64] ts):∃x:dW,bZ x=ts∧MK x:=by
  obtain⟨t0,r0,rfl,h0,h⟩:=h.inv
  obtain⟨t1,r1,rfl,h1,h⟩:=h.inv
  obtain⟨t2,r2,rfl,h2,h⟩:=h.inv
  obtain rfl:=h.inv0
  obtain⟨y0,rfl,k0⟩:=lV h0
  obtain⟨y1,rfl,k1⟩:=ayJ h1
  obtain⟨y2,rfl,k2⟩:=lV h2
  exact⟨({w5:=y0,q8:=y1,x3:=y2}:dW),rfl,k0,k1,k2⟩
def Oz(x:aY):Prop:=inI .i64 x.q6∧inI .i64 x.z1∧inI .i64 x.z9∧ByteArray.size x.q8≤reachBytes∧inI .i64 x.q5.q0∧inI .i64 x.q5.q9∧inI .i64 x.j9∧True
theorem apY(ts:List T)(h:WTs [.int .i64,.int .i64,.int .i64,.str,.int .i64,.int .i64,.int .i64,.bool] ts):∃x:aY,aj x=ts∧Oz x:=by
  obtain⟨t0,r0,rfl,h0,h⟩:=h.inv
  obtain⟨t1,r1,rfl,h1,h⟩:=h.inv
  obtain⟨t2,r2,rfl,h2,h⟩:=h.inv
  obtain⟨t3,r3,rfl,h3,h⟩:=h.inv
  obtain⟨t4,r4,rfl,h4,h⟩:=h.inv
  obtain⟨t5,r5,rfl,h5,h⟩:=h.inv
  obtain⟨t6,r6,rfl,h6,h⟩:=h.inv
  obtain⟨t7,r7,rfl,h7,h⟩:=h.inv
  obtain rfl:=h.inv0
  obtain⟨y0,rfl,k0⟩:=lV h0
  obtain⟨y1,rfl,k1⟩:=lV h1
  obtain⟨y2,rfl,k2⟩:=lV h2
  obtain⟨y3,rfl,k3⟩:=ayJ h3
  obtain⟨y4,rfl,k4⟩:=lV h4
  obtain⟨y5,rfl,k5⟩:=lV h5
  obtain⟨y6,rfl,k6⟩:=lV h6
  obtain⟨y7,rfl,k7⟩:=aRj h7
  exact⟨({q6:=y0,z1:=y1,z9:=y2,q8:=y3,q5:=({q0:=y4,q9:=y5}:aZ),j9:=y6,v8:=y7}:aY),rfl,k0,k1,k2,k3,k4,k5,k6,k7⟩
def U7(x:cZ):Prop:=inI .i64 x.q6∧inI .i64 x.j3∧inI .i64 x.q5.q0∧inI .i64 x.q5.q9∧inI .i64 x.w9∧inI .i64 x.x5∧inI .i64 x.x6
theorem apW(ts:List T)(h:WTs [.int .i64,.int .i64,.int .i64,.int .i64,.int .i64,.int .i64,.int .i64] ts):∃x:cZ,bz x=ts∧U7 x:=by
  obtain⟨t0,r0,rfl,h0,h⟩:=h.inv
  obtain⟨t1,r1,rfl,h1,h⟩:=h.inv
  obtain⟨t2,r2,rfl,h2,h⟩:=h.inv
  obtain⟨t3,r3,rfl,h3,h⟩:=h.inv
  obtain⟨t4,r4,rfl,h4,h⟩:=h.inv
  obtain⟨t5,r5,rfl,h5,h⟩:=h.inv
  obtain⟨t6,r6,rfl,h6,h⟩:=h.inv
  obtain rfl:=h.inv0
  obtain⟨y0,rfl,k0⟩:=lV h0
  obtain⟨y1,rfl,k1⟩:=lV h1
  obtain⟨y2,rfl,k2⟩:=lV h2
  obtain⟨y3,rfl,k3⟩:=lV h3
  obtain⟨y4,rfl,k4⟩:=lV h4
  obtain⟨y5,rfl,k5⟩:=lV h5
  obtain⟨y6,rfl,k6⟩:=lV h6
  exact⟨({q6:=y0,j3:=y1,q5:=({q0:=y2,q9:=y3}:aZ),w9:=y4,x5:=y5,x6:=y6}:cZ),rfl,k0,k1,k2,k3,k4,k5,k6⟩
def Y4(x:d3):Prop:=inI .i64 x.w5∧inI .i64 x.q0.q6∧inI .i64 x.q0.w6∧inI .i64 x.q9.q6∧inI .i64 x.q9.w6∧inI .i64 x.w7∧inI .i64 x.w4
theorem azZ(ts:List T)(h:WTs [.int .i64,.int .i64,.int .i64,.int .i64,.int .i64,.int .i64,.int .i64] ts):∃x:d3,cz x=ts∧Y4 x:=by
  obtain⟨t0,r0,rfl,h0,h⟩:=h.inv
  obtain⟨t1,r1,rfl,h1,h⟩:=h.inv
  obtain⟨t2,r2,rfl,h2,h⟩:=h.inv
  obtain⟨t3,r3,rfl,h3,h⟩:=h.inv
  obtain⟨t4,r4,rfl,h4,h⟩:=h.inv
  obtain⟨t5,r5,rfl,h5,h⟩:=h.inv
  obtain⟨t6,r6,rfl,h6,h⟩:=h.inv
  obtain rfl:=h.inv0
  obtain⟨y0,rfl,k0⟩:=lV h0
  obtain⟨y1,rfl,k1⟩:=lV h1
  obtain⟨y2,rfl,k2⟩:=lV h2
  obtain⟨y3,rfl,k3⟩:=lV h3
  obtain⟨y4,rfl,k4⟩:=lV h4
  obtain⟨y5,rfl,k5⟩:=lV h5
  obtain⟨y6,rfl,k6⟩:=lV h6
  exact⟨({w5:=y0,q0:=({q6:=y1,w6:=y2}:ayj),q9:=({q6:=y3,w6:=y4}:ayj),w7:=y5,w4:=y6}:d3),rfl,k0,k1,k2,k3,k4,k5,k6⟩
def agZ(x:ByteArray):Prop:=ByteArray.size x≤reachBytes
theorem aPx(ts:List T)(h:WTs [.str] ts):∃x:ByteArray,u7 x=ts∧agZ x:=by
  obtain⟨t0,r0,rfl,h0,h⟩:=h.inv
  obtain rfl:=h.inv0
  obtain⟨y0,rfl,k0⟩:=ayJ h0
  exact⟨y0,rfl,k0⟩
def MJ(x:cY):Prop:=inI .i64 x.q6∧inI .i64 x.j8∧inI .i64 x.j5∧okL agZ x.z7
theorem alZ(ts:List T)(h:WTs [.int .i64,.int .i64,.int .i64,.sl [.str]] ts):∃x:cY,b9 x=ts∧MJ x:=by
  obtain⟨t0,r0,rfl,h0,h⟩:=h.inv
  obtain⟨t1,r1,rfl,h1,h⟩:=h.inv
  obtain⟨t2,r2,rfl,h2,h⟩:=h.inv
  obtain⟨t3,r3,rfl,h3,h⟩:=h.inv
  obtain rfl:=h.inv0
  obtain⟨y0,rfl,k0⟩:=lV h0
  obtain⟨y1,rfl,k1⟩:=lV h1
  obtain⟨y2,rfl,k2⟩:=lV h2
  obtain⟨y3,rfl,k3⟩:=I5 aPx h3
  exact⟨({q6:=y0,j8:=y1,j5:=y2,z7:=y3}:cY),rfl,k0,k1,k2,k3⟩
def P3(x:cV):Prop:=ByteArray.size x.q8≤reachBytes∧inI .i64 x.j8∧inI .i64 x.j2
theorem ayq(ts:List T)(h:WTs [.str,.int .i64,.int .i64] ts):∃x:cV,bX x=ts∧P3 x:=by
  obtain⟨t0,r0,rfl,h0,h⟩:=h.inv
  obtain⟨t1,r1,rfl,h1,h⟩:=h.inv
  obtain⟨t2,r2,rfl,h2,h⟩:=h.inv
  obtain rfl:=h.inv0
  obtain⟨y0,rfl,k0⟩:=ayJ h0
  obtain⟨y1,rfl,k1⟩:=lV h1
  obtain⟨y2,rfl,k2⟩:=lV h2
  exact⟨({q8:=y0,j8:=y1,j2:=y2}:cV),rfl,k0,k1,k2⟩
def N7(x:dq):Prop:=inI .i64 x.w5∧inI .i64 x.q6∧inI .i64 x.w8∧inI .i64 x.q5.q0∧inI .i64 x.q5.q9∧okL agZ x.z7∧True
theorem apV(ts:List T)(h:WTs [.int .i64,.int .i64,.int .i64,.int .i64,.int .i64,.sl [.str],.bool] ts):∃x:dq,bJ x=ts∧N7 x:=by
  obtain⟨t0,r0,rfl,h0,h⟩:=h.inv
  obtain⟨t1,r1,rfl,h1,h⟩:=h.inv
  obtain⟨t2,r2,rfl,h2,h⟩:=h.inv
  obtain⟨t3,r3,rfl,h3,h⟩:=h.inv
  obtain⟨t4,r4,rfl,h4,h⟩:=h.inv
  obtain⟨t5,r5,rfl,h5,h⟩:=h.inv
  obtain⟨t6,r6,rfl,h6,h⟩:=h.inv
  obtain rfl:=h.inv0
  obtain⟨y0,rfl,k0⟩:=lV h0
  obtain⟨y1,rfl,k1⟩:=lV h1
  obtain⟨y2,rfl,k2⟩:=lV h2
  obtain⟨y3,rfl,k3⟩:=lV h3
  obtain⟨y4,rfl,k4⟩:=lV h4
  obtain⟨y5,rfl,k5⟩:=I5 aPx h5
  obtain⟨y6,rfl,k6⟩:=aRj h6
  exact⟨({w5:=y0,q6:=y1,w8:=y2,q5:=({q0:=y3,q9:=y4}:aZ),z7:=y5,x4:=y6}:dq),rfl,k0,k1,k2,k3,k4,k5,k6⟩
def Yq(x:f6):Prop:=inI .i64 x.q6∧inI .i64 x.q5.q0∧inI .i64 x.q5.q9∧inI .i64 x.j6
theorem ayY(ts:List T)(h:WTs [.int .i64,.int .i64,.int .i64,.int .i64] ts):∃x:f6,d7 x=ts∧Yq x:=by
  obtain⟨t0,r0,rfl,h0,h⟩:=h.inv
  obtain⟨t1,r1,rfl,h1,h⟩:=h.inv
  obtain⟨t2,r2,rfl,h2,h⟩:=h.inv
  obtain⟨t3,r3,rfl,h3,h⟩:=h.inv
  obtain rfl:=h.inv0
  obtain⟨y0,rfl,k0⟩:=lV h0
  obtain⟨y1,rfl,k1⟩:=lV h1
  obtain⟨y2,rfl,k2⟩:=lV h2
  obtain⟨y3,rfl,k3⟩:=lV h3
  exact⟨({q6:=y0,q5:=({q0:=y1,q9:=y2}:aZ),j6:=y3}:f6),rfl,k0,k1,k2,k3⟩
def pV(x:a0):Prop:=inI .i64 x.q5.q0∧inI .i64 x.q5.q9∧okL MK x.q7∧okL Oz x.z3∧okL U7 x.z8∧okL Y4 x.z6∧okL MJ x.z2∧okL P3 x.j4∧okL N7 x.z5∧okL Yq x.j7
theorem U2(ts:List T)(h:WTs [.int .i64,.int .i64,.sl [.int .i64,.str,.int .i64],.sl [.int .i64,.int .i64,.int .i64,.str,.int .i64,.int .i64,.int .i64,.bool],.sl [.int .i64,.int .i64,.int .i64,.int .i64,.int .i64,.int .i64,.int .i64],.sl [.int .i64,.int .i64,.int .i64,.int .i64,.int .i64,.int .i64,.int .i64],.sl [.int .i64,.int .i64,.int .i64,.sl [.str]],.sl [.str,.int .i64,.int .i64],.sl [.int .i64,.int .i64,.int .i64,.int .i64,.int .i64,.sl [.str],.bool],.sl [.int .i64,.int .i64,.int .i64,.int .i64]] ts):∃x:a0,aHK x=ts∧pV x:=by
  obtain⟨t0,r0,rfl,h0,h⟩:=h.inv
  obtain⟨t1,r1,rfl,h1,h⟩:=h.inv
  obtain⟨t2,r2,rfl,h2,h⟩:=h.inv
  obtain⟨t3,r3,rfl,h3,h⟩:=h.inv
  obtain⟨t4,r4,rfl,h4,h⟩:=h.inv
  obtain⟨t5,r5,rfl,h5,h⟩:=h.inv
  obtain⟨t6,r6,rfl,h6,h⟩:=h.inv
  obtain⟨t7,r7,rfl,h7,h⟩:=h.inv
  obtain⟨t8,r8,rfl,h8,h⟩:=h.inv
  obtain⟨t9,r9,rfl,h9,h⟩:=h.inv
  obtain rfl:=h.inv0
  obtain⟨y0,rfl,k0⟩:=lV h0
  obtain⟨y1,rfl,k1⟩:=lV h1
  obtain⟨y2,rfl,k2⟩:=I5 amY h2
  obtain⟨y3,rfl,k3⟩:=I5 apY h3
  obtain⟨y4,rfl,k4⟩:=I5 apW h4
  obtain⟨y5,rfl,k5⟩:=I5 azZ h5
  obtain⟨y6,rfl,k6⟩:=I5 alZ h6
  obtain⟨y7,rfl,k7⟩:=I5 ayq h7
  obtain⟨y8,rfl,k8⟩:=I5 apV h8
  obtain⟨y9,rfl,k9⟩:=I5 ayY h9
  exact⟨({q5:=({q0:=y0,q9:=y1}:aZ),q7:=y2,z3:=y3,z8:=y4,z6:=y5,z2:=y6,j4:=y7,z5:=y8,j7:=y9}:a0),rfl,k0,k1,k2,k3,k4,k5,k6,k7,k8,k9⟩
def K0(x:aZ):Prop:=inI .i64 x.q0∧inI .i64 x.q9
theorem azq(ts:List T)(h:WTs [.int .i64,.int .i64] ts):∃x:aZ,aLW x=ts∧K0 x:=by
  obtain⟨t0,r0,rfl,h0,h⟩:=h.inv
  obtain⟨t1,r1,rfl,h1,h⟩:=h.inv
  obtain rfl:=h.inv0
  obtain⟨y0,rfl,k0⟩:=lV h0
  obtain⟨y1,rfl,k1⟩:=lV h1
  exact⟨({q0:=y0,q9:=y1}:aZ),rfl,k0,k1⟩
set_option maxRecDepth 100000 in
theorem SK(hlaw:∀(x0:a0) (x1:a0) (x2:aZ),pV x0→pV x1→K0 x2→iW x0 x1 x2=some true)(H:Type)(enc:TypeId×Value→H)(W:World)(base:Nat)(args:Array Value)(ds gs:List (DataW H))(before:List MemPlace)
    (hval:∀(j:Nat) t v,Tryz.f5.params[j]? = some t→args[j]? = some v→Value.okWide Tryz.prog W .any base t v)
    (hW:DataW.Whole enc Tryz.prog Tryz.f5.params.toList Rows.traceChecksSpec.vars false W args.toList ds gs before)
    (hz:(DataW.weightsEach Tryz.prog (Tryz.f5.params.toList++Rows.traceChecksSpec.plain.varTypes Tryz.prog) (ds++gs)).all (·≤reachBytes)=true) :
    Calls Tryz.prog 5 args W fun e W'=>∃v,e = .returned v∧Rows.traceChecksSpec.post enc Tryz.prog Tryz.f5 false true false false W args v W':=by
  refine aSJ (n:=64) (ts:=[42,42,33]) (tb:=4) (shs:=[[.int .i64,.int .i64,.sl [.int .i64,.str,.int .i64],.sl [.int .i64,.int .i64,.int .i64,.str,.int .i64,.int .i64,.int .i64,.bool],.sl [.int .i64,.int .i64,.int .i64,.int .i64,.int .i64,.int .i64,.int .i64],.sl [.int .i64,.int .i64,.int .i64,.int .i64,.int .i64,.int .i64,.int .i64],.sl [.int .i64,.int .i64,.int .i64,.sl [.str]],.sl [.str,.int .i64,.int .i64],.sl [.int .i64,.int .i64,.int .i64,.int .i64,.int .i64,.sl [.str],.bool],.sl [.int .i64,.int .i64,.int .i64,.int .i64]],[.int .i64,.int .i64,.sl [.int .i64,.str,.int .i64],.sl [.int .i64,.int .i64,.int .i64,.str,.int .i64,.int .i64,.int .i64,.bool],.sl [.int .i64,.int .i64,.int .i64,.int .i64,.int .i64,.int .i64,.int .i64],.sl [.int .i64,.int .i64,.int .i64,.int .i64,.int .i64,.int .i64,.int .i64],.sl [.int .i64,.int .i64,.int .i64,.sl [.str]],.sl [.str,.int .i64,.int .i64],.sl [.int .i64,.int .i64,.int .i64,.int .i64,.int .i64,.sl [.str],.bool],.sl [.int .i64,.int .i64,.int .i64,.int .i64]],[.int .i64,.int .i64]]) (bs:=[true,true,true]) (by kernel_rfl) (by kernel_rfl) (by kernel_rfl) rfl (by kernel_rfl) (by kernel_rfl) (fun ds h=>?_) (by kernel_rfl) (by kernel_rfl) (fresh:=true) (fun tss h=>?_) hval hW hz
  ·match ds,h with
   | [_,_,_],_=>exact⟨rfl,rfl,rfl⟩
  ·match tss,h with
   | [t0,t1,t2],⟨h0,h1,h2,_⟩ =>
     obtain⟨x0,rfl,k0⟩:=U2 t0 h0
     obtain⟨x1,rfl,k1⟩:=U2 t1 h1
     obtain⟨x2,rfl,k2⟩:=azq t2 h2
     exact IV x0 x1 x2 true (hlaw x0 x1 x2 k0 k1 k2)
set_option maxRecDepth 100000 in
theorem WW(hlaw:∀(x0:a0) (x1:a0) (x2:aZ),pV x0→pV x1→K0 x2→iW x0 x1 x2=some true)(os:Os)(started:os.Started)(H:Type)(enc:TypeId×Value→H) :
    ReturnsInHanded {} Tryz.checked os 5 .any (Rows.traceChecksSpec.pre6 enc Tryz.prog Tryz.f5 Rows.traceChecksRow.domain false) (Rows.traceChecksSpec.post enc Tryz.prog Tryz.f5 false true false false):=by
  refine returnsInHanded_of_change_sized (C:=Tryz.checked) (s:=Rows.traceChecksSpec) (by kernel_rfl) started (by kernel_rfl) Tryz.func5
    (ChangeSpec.witness6 (enc:=enc) (C:=Tryz.checked) false ⟨#[],#[.agg #[.int .i64 0,.int .i64 0,.slice none 0 0,.slice none 0 0,.slice none 0 0,.slice none 0 0,.slice none 0 0,.slice none 0 0,.slice none 0 0,.slice none 0 0],.agg #[.int .i64 0,.int .i64 0,.slice none 0 0,.slice none 0 0,.slice none 0 0,.slice none 0 0,.slice none 0 0,.slice none 0 0,.slice none 0 0,.slice none 0 0],.agg #[.int .i64 0,.int .i64 0]],[]⟩ 64 (by kernel_rfl) (by kernel_rfl) (by kernel_rfl) (by kernel_rfl)) ?_
  intro W base args ds gs before hval hW _ hz _
  exact SK hlaw H enc W base args ds gs before hval hW hz
set_option maxRecDepth 100000 in
theorem akX:(Rows.traceChecksRow.wf (OpenSpec.ofChange Rows.traceChecksSpec))=true:=by kernel_rfl
set_option maxRecDepth 100000 in
theorem aiq:(laidOutB Tryz.pinned.checked.prog)=true:=by kernel_rfl
set_option maxRecDepth 100000 in
theorem aoj:(mapsRowed Tryz.pinned.checked.prog)=true:=by kernel_rfl
set_option maxRecDepth 100000 in
theorem aoK:(Tryz.f5.params.all (Tryz.pinned.checked.prog.readableRec ·))=true:=by kernel_rfl
set_option maxRecDepth 100000 in
theorem aoY:(namedTie Tryz.pinned.checked.prog Rows.traceChecksRow.named Rows.traceChecksSpec.vars)=true:=by kernel_rfl
set_option maxRecDepth 100000 in
theorem akV:((Rows.traceChecksRow.stops == []))=true:=by kernel_rfl
set_option maxRecDepth 100000 in
theorem alV:((Tryz.pinned.checked.prog.stops == []))=true:=by kernel_rfl
set_option maxRecDepth 100000 in
theorem aoQ:((Rows.traceChecksRow.knobs == []))=true:=by kernel_rfl
set_option maxRecDepth 100000 in
theorem anJ:((Tryz.pinned.checked.prog.stopKnobs == []))=true:=by kernel_rfl
set_option maxRecDepth 100000 in
theorem alK:((Rows.traceChecksRow.inPlace == Tryz.pinned.checked.prog.inPlace 5))=true:=by kernel_rfl
set_option maxRecDepth 100000 in
theorem agx:((Rows.traceChecksRow.unfollowed == Tryz.pinned.checked.prog.unfollowed 5))=true:=by kernel_rfl
set_option maxRecDepth 100000 in
theorem adZ:((Rows.traceChecksRow.recurses == Tryz.pinned.checked.prog.recurses 5))=true:=by kernel_rfl
set_option maxRecDepth 100000 in
theorem afq:((Rows.traceChecksRow.named == Tryz.pinned.checked.prog.varsNamed 5))=true:=by kernel_rfl
set_option maxRecDepth 100000 in
theorem aeQ:((Rows.traceChecksRow.maps == (Tryz.f5.params.toList++Rows.traceChecksSpec.plain.varTypes Tryz.pinned.checked.prog).any (Tryz.pinned.checked.prog.mapsRec ·)))=true:=by kernel_rfl
set_option maxRecDepth 100000 in
theorem aeJ:((Rows.traceChecksRow.ifaces == (Tryz.f5.params.toList++Rows.traceChecksSpec.plain.varTypes Tryz.pinned.checked.prog).any (Tryz.pinned.checked.prog.ifacesRec ·)))=true:=by kernel_rfl
set_option maxRecDepth 100000 in
theorem aej:((Rows.traceChecksRow.mapsOut == Tryz.pinned.checked.prog.mapsAmong Tryz.f5.resultTypes.toList))=true:=by kernel_rfl
set_option maxRecDepth 100000 in
theorem afZ:((Rows.traceChecksRow.loops == (Tryz.f5.params.toList++Rows.traceChecksSpec.plain.varTypes Tryz.pinned.checked.prog).any (Tryz.pinned.checked.prog.loopsFrom ·)))=true:=by kernel_rfl
set_option maxRecDepth 100000 in
theorem afj:((Rows.traceChecksRow.wideKeys == (Tryz.f5.params.toList++Rows.traceChecksSpec.plain.varTypes Tryz.pinned.checked.prog++Tryz.f5.resultTypes.toList).any (Tryz.pinned.checked.prog.wideKeysFrom ·)))=true:=by kernel_rfl
set_option maxRecDepth 100000 in
theorem agj:(Rows.traceChecksSpec.vars.all (Tryz.pinned.checked.prog.varReadable ·))=true:=by kernel_rfl
set_option maxRecDepth 100000 in
theorem afx:(Tryz.f5.resultTypes.all (fun t=>Tryz.pinned.checked.prog.readableRec t&&decide (t<Tryz.pinned.checked.prog.types.size)))=true:=by kernel_rfl
set_option maxRecDepth 100000 in
theorem adW:((Rows.traceChecksRow.ifacesOut == Tryz.f5.resultTypes.toList.any (Tryz.pinned.checked.prog.ifacesRec ·)))=true:=by kernel_rfl
set_option maxRecDepth 100000 in
theorem aex:((Rows.traceChecksRow.loopsOut == Tryz.f5.resultTypes.toList.any (Tryz.pinned.checked.prog.loopsFrom ·)))=true:=by kernel_rfl
set_option maxRecDepth 100000 in
theorem afJ:((Rows.traceChecksRow.plainKeys == Tryz.pinned.checked.prog.plainKeys))=true:=by kernel_rfl
set_option maxRecDepth 100000 in
theorem adV:(Rows.traceChecksRow.shortTexts.isNone)=true:=by kernel_rfl
set_option maxRecDepth 100000 in
theorem aez:(Tryz.pinned.checked.prog.stopsHeard)=true:=by kernel_rfl
set_option maxRecDepth 100000 in
theorem aeV:(Tryz.pinned.checked.prog.mayEnter)=true:=by kernel_rfl
set_option maxRecDepth 100000 in
theorem adK:((Rows.traceChecksRow.lifted == Tryz.pinned.checked.prog.liftsFinal))=true:=by kernel_rfl
set_option maxRecDepth 100000 in
theorem afY:((Tryz.pinned.checked.prog.make == some Rows.traceChecksRow.make))=true:=by kernel_rfl
set_option maxRecDepth 100000 in
theorem aeY:((Rows.traceChecksRow.kinds == (if Rows.traceChecksRow.domain.isEmpty then[]else Tryz.f5.params.toList.map fun t => match Tryz.pinned.checked.prog.underlying t with | some (.int k) => some k | _ => none)))=true := by kernel_rfl
set_option maxRecDepth 100000 in
theorem afX:((Rows.traceChecksRow.pinned == Rows.traceChecksRow.pinnedBy))=true:=by kernel_rfl
set_option maxRecDepth 100000 in
theorem aeX:((Rows.traceChecksRow.veiled == (Tryz.f5.params.toList++Rows.traceChecksSpec.plain.varTypes Tryz.pinned.checked.prog++Tryz.f5.resultTypes.toList).any (Tryz.pinned.checked.prog.veiledRec ·)))=true:=by kernel_rfl
set_option maxRecDepth 100000 in
theorem agq:(Rows.traceChecksRow.veiledFits Tryz.pinned.checked.prog Tryz.f5.params.toList (Tryz.f5.params.toList++Rows.traceChecksSpec.plain.varTypes Tryz.pinned.checked.prog++Tryz.f5.resultTypes.toList))=true:=by kernel_rfl
set_option maxRecDepth 100000 in
theorem traceChecks_said(hlaw:∀(x0:a0) (x1:a0) (x2:aZ),pV x0→pV x1→K0 x2→iW x0 x1 x2=some true):Rows.TraceChecksSaid :=
  OpenClaim.holds_of_wide 5 Tryz.f5 rfl rfl rfl rfl rfl rfl rfl ⟨rfl,rfl,rfl,rfl,rfl⟩ rfl rfl rfl rfl rfl (by kernel_rfl) Tryz.func5 (by simp only[joinedFacts,cw];exact⟨⟨⟨⟨⟨⟨⟨⟨⟨⟨⟨⟨⟨⟨⟨⟨⟨⟨⟨⟨⟨⟨⟨⟨⟨⟨⟨⟨⟨⟨⟨akX,aiq⟩,aoj⟩,aoK⟩,aoY⟩,akV⟩,alV⟩,aoQ⟩,anJ⟩,alK⟩,agx⟩,adZ⟩,afq⟩,aeQ⟩,aeJ⟩,aej⟩,afZ⟩,afj⟩,agj⟩,afx⟩,adW⟩,aex⟩,afJ⟩,adV⟩,aez⟩,aeV⟩,adK⟩,afY⟩,aeY⟩,afX⟩,aeX⟩,agq⟩)
    (of_decide_eq_true (by kernel_rfl)) (by unfold Func.isWrapper;first | (rw[if_pos (by decide +kernel)];kernel_rfl) | (rw[if_neg (by decide +kernel)];exact⟨rfl,rfl⟩))
    (fun os started H enc _=>WW hlaw os started H enc)
end Go.VM
