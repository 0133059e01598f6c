/- From the law on lists and numbers to the statement. -/
import Derived.Test.YtloemokbjaoahaaGreatL322
import Derived.JoinedOf
import Derived.SizedLaws
namespace Go.VM
open Go.Proofs Go.Proofs.YtloemokbjaoahaaGreat
open Go.ChangeShapes Go.WideShapes Go.ChangeAt Go.RowKit
def axJ(x:a0):List T:=[tI x.fSpan.fFrom,tI x.fSpan.fTo,.sl 3 (List.map bZ x.fThreads),.sl 8 (List.map aj x.fSlices),.sl 7 (List.map bz x.fStates),.sl 7 (List.map cz x.fFlows),.sl 4 (List.map b9 x.fSamples),.sl 3 (List.map bX x.fSteps),.sl 7 (List.map bJ x.fBlocks),.sl 4 (List.map d7 x.fLost)]
def aDQ(x:aZ):List T:=[tI x.fFrom,tI x.fTo]
def Jz(x:dW):Prop:=inI .i64 x.fId∧ByteArray.size x.fName≤reachBytes∧inI .i64 x.fDomain
theorem abK(ts:List T)(h:WTs [.int .i64,.str,.int .i64] ts):∃x:dW,bZ x=ts∧Jz x:=by
  obtain⟨t0,r0,rfl,h0,h⟩:=h.inv
  obtain⟨t1,r1,rfl,h1,h⟩:=h.inv
  obtain⟨t2,r2,rfl,h2,h⟩:=h.inv
  obtain rfl:=h.inv0
  obtain⟨y0,rfl,k0⟩:=kK h0
  obtain⟨y1,rfl,k1⟩:=atq h1
  obtain⟨y2,rfl,k2⟩:=kK h2
  exact⟨({fId:=y0,fName:=y1,fDomain:=y2}:dW),rfl,k0,k1,k2⟩
def Mz(x:aY):Prop:=inI .i64 x.fThread∧inI .i64 x.fParent∧inI .i64 x.fDepth∧ByteArray.size x.fName≤reachBytes∧inI .i64 x.fSpan.fFrom∧inI .i64 x.fSpan.fTo∧inI .i64 x.fSelf∧True
theorem akx(ts:List T)(h:WTs [.int .i64,.int .i64,.int .i64,.str,.int .i64,.int .i64,.int .i64,.bool] ts):∃x:aY,aj x=ts∧Mz x:=by
  obtain⟨t0,r0,rfl,h0,h⟩:=h.inv
  obtain⟨t1,r1,rfl,h1,h⟩:=h.inv
  obtain⟨t2,r2,rfl,h2,h⟩:=h.inv
  obtain⟨t3,r3,rfl,h3,h⟩:=h.inv
  obtain⟨t4,r4,rfl,h4,h⟩:=h.inv
  obtain⟨t5,r5,rfl,h5,h⟩:=h.inv
  obtain⟨t6,r6,rfl,h6,h⟩:=h.inv
  obtain⟨t7,r7,rfl,h7,h⟩:=h.inv
  obtain rfl:=h.inv0
  obtain⟨y0,rfl,k0⟩:=kK h0
  obtain⟨y1,rfl,k1⟩:=kK h1
  obtain⟨y2,rfl,k2⟩:=kK h2
  obtain⟨y3,rfl,k3⟩:=atq h3
  obtain⟨y4,rfl,k4⟩:=kK h4
  obtain⟨y5,rfl,k5⟩:=kK h5
  obtain⟨y6,rfl,k6⟩:=kK h6
  obtain⟨y7,rfl,k7⟩:=aHz h7
  exact⟨({fThread:=y0,fParent:=y1,fDepth:=y2,fName:=y3,fSpan:=({fFrom:=y4,fTo:=y5}:aZ),fSelf:=y6,fOpen:=y7}:aY),rfl,k0,k1,k2,k3,k4,k5,k6,k7⟩
def SW(x:cZ):Prop:=inI .i64 x.fThread∧inI .i64 x.fState∧inI .i64 x.fSpan.fFrom∧inI .i64 x.fSpan.fTo∧inI .i64 x.fCpu∧inI .i64 x.fOn∧inI .i64 x.fBy
theorem ajZ(ts:List T)(h:WTs [.int .i64,.int .i64,.int .i64,.int .i64,.int .i64,.int .i64,.int .i64] ts):∃x:cZ,bz x=ts∧SW x:=by
  obtain⟨t0,r0,rfl,h0,h⟩:=h.inv
  obtain⟨t1,r1,rfl,h1,h⟩:=h.inv
  obtain⟨t2,r2,rfl,h2,h⟩:=h.inv
  obtain⟨t3,r3,rfl,h3,h⟩:=h.inv
  obtain⟨t4,r4,rfl,h4,h⟩:=h.inv
  obtain⟨t5,r5,rfl,h5,h⟩:=h.inv
  obtain⟨t6,r6,rfl,h6,h⟩:=h.inv
  obtain rfl:=h.inv0
  obtain⟨y0,rfl,k0⟩:=kK h0
  obtain⟨y1,rfl,k1⟩:=kK h1
  obtain⟨y2,rfl,k2⟩:=kK h2
  obtain⟨y3,rfl,k3⟩:=kK h3
  obtain⟨y4,rfl,k4⟩:=kK h4
  obtain⟨y5,rfl,k5⟩:=kK h5
  obtain⟨y6,rfl,k6⟩:=kK h6
  exact⟨({fThread:=y0,fState:=y1,fSpan:=({fFrom:=y2,fTo:=y3}:aZ),fCpu:=y4,fOn:=y5,fBy:=y6}:cZ),rfl,k0,k1,k2,k3,k4,k5,k6⟩
def V0(x:d3):Prop:=inI .i64 x.fId∧inI .i64 x.fFrom.fThread∧inI .i64 x.fFrom.fSerial∧inI .i64 x.fTo.fThread∧inI .i64 x.fTo.fSerial∧inI .i64 x.fSend∧inI .i64 x.fRecv
theorem arQ(ts:List T)(h:WTs [.int .i64,.int .i64,.int .i64,.int .i64,.int .i64,.int .i64,.int .i64] ts):∃x:d3,cz x=ts∧V0 x:=by
  obtain⟨t0,r0,rfl,h0,h⟩:=h.inv
  obtain⟨t1,r1,rfl,h1,h⟩:=h.inv
  obtain⟨t2,r2,rfl,h2,h⟩:=h.inv
  obtain⟨t3,r3,rfl,h3,h⟩:=h.inv
  obtain⟨t4,r4,rfl,h4,h⟩:=h.inv
  obtain⟨t5,r5,rfl,h5,h⟩:=h.inv
  obtain⟨t6,r6,rfl,h6,h⟩:=h.inv
  obtain rfl:=h.inv0
  obtain⟨y0,rfl,k0⟩:=kK h0
  obtain⟨y1,rfl,k1⟩:=kK h1
  obtain⟨y2,rfl,k2⟩:=kK h2
  obtain⟨y3,rfl,k3⟩:=kK h3
  obtain⟨y4,rfl,k4⟩:=kK h4
  obtain⟨y5,rfl,k5⟩:=kK h5
  obtain⟨y6,rfl,k6⟩:=kK h6
  exact⟨({fId:=y0,fFrom:=({fThread:=y1,fSerial:=y2}:asZ),fTo:=({fThread:=y3,fSerial:=y4}:asZ),fSend:=y5,fRecv:=y6}:d3),rfl,k0,k1,k2,k3,k4,k5,k6⟩
def abq(x:ByteArray):Prop:=ByteArray.size x≤reachBytes
theorem aJX(ts:List T)(h:WTs [.str] ts):∃x:ByteArray,tW x=ts∧abq x:=by
  obtain⟨t0,r0,rfl,h0,h⟩:=h.inv
  obtain rfl:=h.inv0
  obtain⟨y0,rfl,k0⟩:=atq h0
  exact⟨y0,rfl,k0⟩
def Kq(x:cY):Prop:=inI .i64 x.fThread∧inI .i64 x.fAt∧inI .i64 x.fWeight∧okL abq x.fStack
theorem ahW(ts:List T)(h:WTs [.int .i64,.int .i64,.int .i64,.sl [.str]] ts):∃x:cY,b9 x=ts∧Kq x:=by
  obtain⟨t0,r0,rfl,h0,h⟩:=h.inv
  obtain⟨t1,r1,rfl,h1,h⟩:=h.inv
  obtain⟨t2,r2,rfl,h2,h⟩:=h.inv
  obtain⟨t3,r3,rfl,h3,h⟩:=h.inv
  obtain rfl:=h.inv0
  obtain⟨y0,rfl,k0⟩:=kK h0
  obtain⟨y1,rfl,k1⟩:=kK h1
  obtain⟨y2,rfl,k2⟩:=kK h2
  obtain⟨y3,rfl,k3⟩:=G8 aJX h3
  exact⟨({fThread:=y0,fAt:=y1,fWeight:=y2,fStack:=y3}:cY),rfl,k0,k1,k2,k3⟩
def Oz(x:cV):Prop:=ByteArray.size x.fName≤reachBytes∧inI .i64 x.fAt∧inI .i64 x.fValue
theorem aqW(ts:List T)(h:WTs [.str,.int .i64,.int .i64] ts):∃x:cV,bX x=ts∧Oz x:=by
  obtain⟨t0,r0,rfl,h0,h⟩:=h.inv
  obtain⟨t1,r1,rfl,h1,h⟩:=h.inv
  obtain⟨t2,r2,rfl,h2,h⟩:=h.inv
  obtain rfl:=h.inv0
  obtain⟨y0,rfl,k0⟩:=atq h0
  obtain⟨y1,rfl,k1⟩:=kK h1
  obtain⟨y2,rfl,k2⟩:=kK h2
  exact⟨({fName:=y0,fAt:=y1,fValue:=y2}:cV),rfl,k0,k1,k2⟩
def L8(x:dq):Prop:=inI .i64 x.fId∧inI .i64 x.fThread∧inI .i64 x.fSize∧inI .i64 x.fSpan.fFrom∧inI .i64 x.fSpan.fTo∧okL abq x.fStack∧True
theorem akj(ts:List T)(h:WTs [.int .i64,.int .i64,.int .i64,.int .i64,.int .i64,.sl [.str],.bool] ts):∃x:dq,bJ x=ts∧L8 x:=by
  obtain⟨t0,r0,rfl,h0,h⟩:=h.inv
  obtain⟨t1,r1,rfl,h1,h⟩:=h.inv
  obtain⟨t2,r2,rfl,h2,h⟩:=h.inv
  obtain⟨t3,r3,rfl,h3,h⟩:=h.inv
  obtain⟨t4,r4,rfl,h4,h⟩:=h.inv
  obtain⟨t5,r5,rfl,h5,h⟩:=h.inv
  obtain⟨t6,r6,rfl,h6,h⟩:=h.inv
  obtain rfl:=h.inv0
  obtain⟨y0,rfl,k0⟩:=kK h0
  obtain⟨y1,rfl,k1⟩:=kK h1
  obtain⟨y2,rfl,k2⟩:=kK h2
  obtain⟨y3,rfl,k3⟩:=kK h3
  obtain⟨y4,rfl,k4⟩:=kK h4
  obtain⟨y5,rfl,k5⟩:=G8 aJX h5
  obtain⟨y6,rfl,k6⟩:=aHz h6
  exact⟨({fId:=y0,fThread:=y1,fSize:=y2,fSpan:=({fFrom:=y3,fTo:=y4}:aZ),fStack:=y5,fLive:=y6}:dq),rfl,k0,k1,k2,k3,k4,k5,k6⟩
def U9(x:f7):Prop:=inI .i64 x.fThread∧inI .i64 x.fSpan.fFrom∧inI .i64 x.fSpan.fTo∧inI .i64 x.fCount
theorem aqx(ts:List T)(h:WTs [.int .i64,.int .i64,.int .i64,.int .i64] ts):∃x:f7,d7 x=ts∧U9 x:=by
  obtain⟨t0,r0,rfl,h0,h⟩:=h.inv
  obtain⟨t1,r1,rfl,h1,h⟩:=h.inv
  obtain⟨t2,r2,rfl,h2,h⟩:=h.inv
  obtain⟨t3,r3,rfl,h3,h⟩:=h.inv
  obtain rfl:=h.inv0
  obtain⟨y0,rfl,k0⟩:=kK h0
  obtain⟨y1,rfl,k1⟩:=kK h1
  obtain⟨y2,rfl,k2⟩:=kK h2
  obtain⟨y3,rfl,k3⟩:=kK h3
  exact⟨({fThread:=y0,fSpan:=({fFrom:=y1,fTo:=y2}:aZ),fCount:=y3}:f7),rfl,k0,k1,k2,k3⟩
def o6(x:a0):Prop:=inI .i64 x.fSpan.fFrom∧inI .i64 x.fSpan.fTo∧okL Jz x.fThreads∧okL Mz x.fSlices∧okL SW x.fStates∧okL V0 x.fFlows∧okL Kq x.fSamples∧okL Oz x.fSteps∧okL L8 x.fBlocks∧okL U9 x.fLost
theorem S2(ts:List T)(h:WTs [.int .i64,.int .i64,.sl [.int .i64,.str,.int .i64],.sl [.int .i64,.int .i64,.int .i64,.str,.int .i64,.int .i64,.int .i64,.bool],.sl [.int .i64,.int .i64,.int .i64,.int .i64,.int .i64,.int .i64,.int .i64],.sl [.int .i64,.int .i64,.int .i64,.int .i64,.int .i64,.int .i64,.int .i64],.sl [.int .i64,.int .i64,.int .i64,.sl [.str]],.sl [.str,.int .i64,.int .i64],.sl [.int .i64,.int .i64,.int .i64,.int .i64,.int .i64,.sl [.str],.bool],.sl [.int .i64,.int .i64,.int .i64,.int .i64]] ts):∃x:a0,axJ x=ts∧o6 x:=by
  obtain⟨t0,r0,rfl,h0,h⟩:=h.inv
  obtain⟨t1,r1,rfl,h1,h⟩:=h.inv
  obtain⟨t2,r2,rfl,h2,h⟩:=h.inv
  obtain⟨t3,r3,rfl,h3,h⟩:=h.inv
  obtain⟨t4,r4,rfl,h4,h⟩:=h.inv
  obtain⟨t5,r5,rfl,h5,h⟩:=h.inv
  obtain⟨t6,r6,rfl,h6,h⟩:=h.inv
  obtain⟨t7,r7,rfl,h7,h⟩:=h.inv
  obtain⟨t8,r8,rfl,h8,h⟩:=h.inv
  obtain⟨t9,r9,rfl,h9,h⟩:=h.inv
  obtain rfl:=h.inv0
  obtain⟨y0,rfl,k0⟩:=kK h0
  obtain⟨y1,rfl,k1⟩:=kK h1
  obtain⟨y2,rfl,k2⟩:=G8 abK h2
  obtain⟨y3,rfl,k3⟩:=G8 akx h3
  obtain⟨y4,rfl,k4⟩:=G8 ajZ h4
  obtain⟨y5,rfl,k5⟩:=G8 arQ h5
  obtain⟨y6,rfl,k6⟩:=G8 ahW h6
  obtain⟨y7,rfl,k7⟩:=G8 aqW h7
  obtain⟨y8,rfl,k8⟩:=G8 akj h8
  obtain⟨y9,rfl,k9⟩:=G8 aqx h9
  exact⟨({fSpan:=({fFrom:=y0,fTo:=y1}:aZ),fThreads:=y2,fSlices:=y3,fStates:=y4,fFlows:=y5,fSamples:=y6,fSteps:=y7,fBlocks:=y8,fLost:=y9}:a0),rfl,k0,k1,k2,k3,k4,k5,k6,k7,k8,k9⟩
def IX(x:aZ):Prop:=inI .i64 x.fFrom∧inI .i64 x.fTo
theorem asK(ts:List T)(h:WTs [.int .i64,.int .i64] ts):∃x:aZ,aDQ x=ts∧IX x:=by
  obtain⟨t0,r0,rfl,h0,h⟩:=h.inv
  obtain⟨t1,r1,rfl,h1,h⟩:=h.inv
  obtain rfl:=h.inv0
  obtain⟨y0,rfl,k0⟩:=kK h0
  obtain⟨y1,rfl,k1⟩:=kK h1
  exact⟨({fFrom:=y0,fTo:=y1}:aZ),rfl,k0,k1⟩
set_option maxRecDepth 100000 in
theorem P3(hlaw:∀(x0:a0) (x1:a0) (x2:aZ),o6 x0→o6 x1→IX x2→i4 x0 x1 x2=some true)(H:Type)(enc:TypeId×Value→H)(W:World)(base:Nat)(args:Array Value)(ds gs:List (DataW H))(before:List MemPlace)
    (hval:∀(j:Nat) t v,Tryz.f5.params[j]? = some t→args[j]? = some v→Value.okWide Tryz.prog W .any base t v)
    (hW:DataW.Whole enc Tryz.prog Tryz.f5.params.toList Rows.traceChecksSpec.vars false W args.toList ds gs before)
    (hz:(DataW.weightsEach Tryz.prog (Tryz.f5.params.toList++Rows.traceChecksSpec.plain.varTypes Tryz.prog) (ds++gs)).all (·≤reachBytes)=true) :
    Calls Tryz.prog 5 args W fun e W'=>∃v,e = .returned v∧Rows.traceChecksSpec.post enc Tryz.prog Tryz.f5 false true false false W args v W':=by
  refine aKq (n:=64) (ts:=[42,42,33]) (tb:=4) (shs:=[[.int .i64,.int .i64,.sl [.int .i64,.str,.int .i64],.sl [.int .i64,.int .i64,.int .i64,.str,.int .i64,.int .i64,.int .i64,.bool],.sl [.int .i64,.int .i64,.int .i64,.int .i64,.int .i64,.int .i64,.int .i64],.sl [.int .i64,.int .i64,.int .i64,.int .i64,.int .i64,.int .i64,.int .i64],.sl [.int .i64,.int .i64,.int .i64,.sl [.str]],.sl [.str,.int .i64,.int .i64],.sl [.int .i64,.int .i64,.int .i64,.int .i64,.int .i64,.sl [.str],.bool],.sl [.int .i64,.int .i64,.int .i64,.int .i64]],[.int .i64,.int .i64,.sl [.int .i64,.str,.int .i64],.sl [.int .i64,.int .i64,.int .i64,.str,.int .i64,.int .i64,.int .i64,.bool],.sl [.int .i64,.int .i64,.int .i64,.int .i64,.int .i64,.int .i64,.int .i64],.sl [.int .i64,.int .i64,.int .i64,.int .i64,.int .i64,.int .i64,.int .i64],.sl [.int .i64,.int .i64,.int .i64,.sl [.str]],.sl [.str,.int .i64,.int .i64],.sl [.int .i64,.int .i64,.int .i64,.int .i64,.int .i64,.sl [.str],.bool],.sl [.int .i64,.int .i64,.int .i64,.int .i64]],[.int .i64,.int .i64]]) (bs:=[true,true,true]) (by kernel_rfl) (by kernel_rfl) (by kernel_rfl) rfl (by kernel_rfl) (by kernel_rfl) (fun ds h=>?_) (by kernel_rfl) (by kernel_rfl) (fresh:=true) (fun tss h=>?_) hval hW hz
  ·match ds,h with
   | [_,_,_],_=>exact⟨rfl,rfl,rfl⟩
  ·match tss,h with
   | [t0,t1,t2],⟨h0,h1,h2,_⟩ =>
     obtain⟨x0,rfl,k0⟩:=S2 t0 h0
     obtain⟨x1,rfl,k1⟩:=S2 t1 h1
     obtain⟨x2,rfl,k2⟩:=asK t2 h2
     exact G5 x0 x1 x2 true (hlaw x0 x1 x2 k0 k1 k2)
set_option maxRecDepth 100000 in
theorem Tj(hlaw:∀(x0:a0) (x1:a0) (x2:aZ),o6 x0→o6 x1→IX x2→i4 x0 x1 x2=some true)(os:Os)(started:os.Started)(H:Type)(enc:TypeId×Value→H) :
    ReturnsInHanded {} Tryz.checked os 5 .any (Rows.traceChecksSpec.pre6 enc Tryz.prog Tryz.f5 Rows.traceChecksRow.domain false) (Rows.traceChecksSpec.post enc Tryz.prog Tryz.f5 false true false false):=by
  refine returnsInHanded_of_change_sized (C:=Tryz.checked) (s:=Rows.traceChecksSpec) (by kernel_rfl) started (by kernel_rfl) Tryz.func5
    (ChangeSpec.witness6 (enc:=enc) (C:=Tryz.checked) false ⟨#[],#[.agg #[.int .i64 0,.int .i64 0,.slice none 0 0,.slice none 0 0,.slice none 0 0,.slice none 0 0,.slice none 0 0,.slice none 0 0,.slice none 0 0,.slice none 0 0],.agg #[.int .i64 0,.int .i64 0,.slice none 0 0,.slice none 0 0,.slice none 0 0,.slice none 0 0,.slice none 0 0,.slice none 0 0,.slice none 0 0,.slice none 0 0],.agg #[.int .i64 0,.int .i64 0]],[]⟩ 64 (by kernel_rfl) (by kernel_rfl) (by kernel_rfl) (by kernel_rfl)) ?_
  intro W base args ds gs before hval hW _ hz _
  exact P3 hlaw H enc W base args ds gs before hval hW hz
theorem traceChecks_said(hlaw:∀(x0:a0) (x1:a0) (x2:aZ),o6 x0→o6 x1→IX x2→i4 x0 x1 x2=some true):Rows.TraceChecksSaid :=
  OpenClaim.holds_of_wide 5 Tryz.f5 rfl rfl rfl rfl rfl rfl rfl ⟨rfl,rfl,rfl,rfl,rfl⟩ rfl rfl rfl rfl rfl (by kernel_rfl) Tryz.func5 (by kernel_rfl)
    (of_decide_eq_true (by kernel_rfl)) (by unfold Func.isWrapper;first | (rw[if_pos (by decide +kernel)];kernel_rfl) | (rw[if_neg (by decide +kernel)];exact⟨rfl,rfl⟩))
    (fun os started H enc _=>Tj hlaw os started H enc)
end Go.VM
