/- From the law on lists and numbers to the statement. -/
import Derived.Test.YtkemjaomoopdnaaGreatL542
import Derived.JoinedOf
import Derived.SizedLaws
namespace Go.VM
open Go.Proofs Go.Proofs.YtkemjaomoopdnaaGreat
open Go.ChangeShapes Go.WideShapes Go.ChangeAt Go.RowKit
def anX(x:aY):List T:=[tI x.fSpan.fFrom,tI x.fSpan.fTo,.sl 3 (List.map cV x.fThreads),.sl 8 (List.map aj x.fSlices),.sl 7 (List.map bz x.fStates),.sl 7 (List.map d5 x.fFlows),.sl 4 (List.map dY x.fSamples),.sl 3 (List.map dW x.fSteps),.sl 7 (List.map cW x.fBlocks),.sl 4 (List.map rX x.fLost)]
def Ix(x:dz):Prop:=inI .i64 x.fId∧ByteArray.size x.fName≤reachBytes∧inI .i64 x.fDomain
theorem YV(ts:List T)(h:WTs [.int .i64,.str,.int .i64] ts):∃x:dz,cV x=ts∧Ix x:=by
  obtain⟨t0,r0,rfl,h0,h⟩:=h.inv
  obtain⟨t1,r1,rfl,h1,h⟩:=h.inv
  obtain⟨t2,r2,rfl,h2,h⟩:=h.inv
  obtain rfl:=h.inv0
  obtain⟨y0,rfl,k0⟩:=j5 h0
  obtain⟨y1,rfl,k1⟩:=akj h1
  obtain⟨y2,rfl,k2⟩:=j5 h2
  exact⟨({fId:=y0,fName:=y1,fDomain:=y2}:dz),rfl,k0,k1,k2⟩
def J5(x:aK):Prop:=inI .i64 x.fThread∧inI .i64 x.fParent∧inI .i64 x.fDepth∧ByteArray.size x.fName≤reachBytes∧inI .i64 x.fSpan.fFrom∧inI .i64 x.fSpan.fTo∧inI .i64 x.fSelf∧True
theorem aex(ts:List T)(h:WTs [.int .i64,.int .i64,.int .i64,.str,.int .i64,.int .i64,.int .i64,.bool] ts):∃x:aK,aj x=ts∧J5 x:=by
  obtain⟨t0,r0,rfl,h0,h⟩:=h.inv
  obtain⟨t1,r1,rfl,h1,h⟩:=h.inv
  obtain⟨t2,r2,rfl,h2,h⟩:=h.inv
  obtain⟨t3,r3,rfl,h3,h⟩:=h.inv
  obtain⟨t4,r4,rfl,h4,h⟩:=h.inv
  obtain⟨t5,r5,rfl,h5,h⟩:=h.inv
  obtain⟨t6,r6,rfl,h6,h⟩:=h.inv
  obtain⟨t7,r7,rfl,h7,h⟩:=h.inv
  obtain rfl:=h.inv0
  obtain⟨y0,rfl,k0⟩:=j5 h0
  obtain⟨y1,rfl,k1⟩:=j5 h1
  obtain⟨y2,rfl,k2⟩:=j5 h2
  obtain⟨y3,rfl,k3⟩:=akj h3
  obtain⟨y4,rfl,k4⟩:=j5 h4
  obtain⟨y5,rfl,k5⟩:=j5 h5
  obtain⟨y6,rfl,k6⟩:=j5 h6
  obtain⟨y7,rfl,k7⟩:=aAY h7
  exact⟨({fThread:=y0,fParent:=y1,fDepth:=y2,fName:=y3,fSpan:=({fFrom:=y4,fTo:=y5}:bZ),fSelf:=y6,fOpen:=y7}:aK),rfl,k0,k1,k2,k3,k4,k5,k6,k7⟩
def QY(x:cZ):Prop:=inI .i64 x.fThread∧inI .i64 x.fState∧inI .i64 x.fSpan.fFrom∧inI .i64 x.fSpan.fTo∧inI .i64 x.fCpu∧inI .i64 x.fOn∧inI .i64 x.fBy
theorem aej(ts:List T)(h:WTs [.int .i64,.int .i64,.int .i64,.int .i64,.int .i64,.int .i64,.int .i64] ts):∃x:cZ,bz x=ts∧QY x:=by
  obtain⟨t0,r0,rfl,h0,h⟩:=h.inv
  obtain⟨t1,r1,rfl,h1,h⟩:=h.inv
  obtain⟨t2,r2,rfl,h2,h⟩:=h.inv
  obtain⟨t3,r3,rfl,h3,h⟩:=h.inv
  obtain⟨t4,r4,rfl,h4,h⟩:=h.inv
  obtain⟨t5,r5,rfl,h5,h⟩:=h.inv
  obtain⟨t6,r6,rfl,h6,h⟩:=h.inv
  obtain rfl:=h.inv0
  obtain⟨y0,rfl,k0⟩:=j5 h0
  obtain⟨y1,rfl,k1⟩:=j5 h1
  obtain⟨y2,rfl,k2⟩:=j5 h2
  obtain⟨y3,rfl,k3⟩:=j5 h3
  obtain⟨y4,rfl,k4⟩:=j5 h4
  obtain⟨y5,rfl,k5⟩:=j5 h5
  obtain⟨y6,rfl,k6⟩:=j5 h6
  exact⟨({fThread:=y0,fState:=y1,fSpan:=({fFrom:=y2,fTo:=y3}:bZ),fCpu:=y4,fOn:=y5,fBy:=y6}:cZ),rfl,k0,k1,k2,k3,k4,k5,k6⟩
def S6(x:fX):Prop:=inI .i64 x.fId∧inI .i64 x.fFrom.fThread∧inI .i64 x.fFrom.fSerial∧inI .i64 x.fTo.fThread∧inI .i64 x.fTo.fSerial∧inI .i64 x.fSend∧inI .i64 x.fRecv
theorem alj(ts:List T)(h:WTs [.int .i64,.int .i64,.int .i64,.int .i64,.int .i64,.int .i64,.int .i64] ts):∃x:fX,d5 x=ts∧S6 x:=by
  obtain⟨t0,r0,rfl,h0,h⟩:=h.inv
  obtain⟨t1,r1,rfl,h1,h⟩:=h.inv
  obtain⟨t2,r2,rfl,h2,h⟩:=h.inv
  obtain⟨t3,r3,rfl,h3,h⟩:=h.inv
  obtain⟨t4,r4,rfl,h4,h⟩:=h.inv
  obtain⟨t5,r5,rfl,h5,h⟩:=h.inv
  obtain⟨t6,r6,rfl,h6,h⟩:=h.inv
  obtain rfl:=h.inv0
  obtain⟨y0,rfl,k0⟩:=j5 h0
  obtain⟨y1,rfl,k1⟩:=j5 h1
  obtain⟨y2,rfl,k2⟩:=j5 h2
  obtain⟨y3,rfl,k3⟩:=j5 h3
  obtain⟨y4,rfl,k4⟩:=j5 h4
  obtain⟨y5,rfl,k5⟩:=j5 h5
  obtain⟨y6,rfl,k6⟩:=j5 h6
  exact⟨({fId:=y0,fFrom:=({fThread:=y1,fSerial:=y2}:akx),fTo:=({fThread:=y3,fSerial:=y4}:akx),fSend:=y5,fRecv:=y6}:fX),rfl,k0,k1,k2,k3,k4,k5,k6⟩
def X6(x:ByteArray):Prop:=ByteArray.size x≤reachBytes
theorem azY(ts:List T)(h:WTs [.str] ts):∃x:ByteArray,iJ x=ts∧X6 x:=by
  obtain⟨t0,r0,rfl,h0,h⟩:=h.inv
  obtain rfl:=h.inv0
  obtain⟨y0,rfl,k0⟩:=akj h0
  exact⟨y0,rfl,k0⟩
def H1(x:eY):Prop:=inI .i64 x.fThread∧inI .i64 x.fAt∧inI .i64 x.fWeight∧okL X6 x.fStack
theorem Y7(ts:List T)(h:WTs [.int .i64,.int .i64,.int .i64,.sl [.str]] ts):∃x:eY,dY x=ts∧H1 x:=by
  obtain⟨t0,r0,rfl,h0,h⟩:=h.inv
  obtain⟨t1,r1,rfl,h1,h⟩:=h.inv
  obtain⟨t2,r2,rfl,h2,h⟩:=h.inv
  obtain⟨t3,r3,rfl,h3,h⟩:=h.inv
  obtain rfl:=h.inv0
  obtain⟨y0,rfl,k0⟩:=j5 h0
  obtain⟨y1,rfl,k1⟩:=j5 h1
  obtain⟨y2,rfl,k2⟩:=j5 h2
  obtain⟨y3,rfl,k3⟩:=E1 azY h3
  exact⟨({fThread:=y0,fAt:=y1,fWeight:=y2,fStack:=y3}:eY),rfl,k0,k1,k2,k3⟩
def L0(x:jj):Prop:=ByteArray.size x.fName≤reachBytes∧inI .i64 x.fAt∧inI .i64 x.fValue
theorem akK(ts:List T)(h:WTs [.str,.int .i64,.int .i64] ts):∃x:jj,dW x=ts∧L0 x:=by
  obtain⟨t0,r0,rfl,h0,h⟩:=h.inv
  obtain⟨t1,r1,rfl,h1,h⟩:=h.inv
  obtain⟨t2,r2,rfl,h2,h⟩:=h.inv
  obtain rfl:=h.inv0
  obtain⟨y0,rfl,k0⟩:=akj h0
  obtain⟨y1,rfl,k1⟩:=j5 h1
  obtain⟨y2,rfl,k2⟩:=j5 h2
  exact⟨({fName:=y0,fAt:=y1,fValue:=y2}:jj),rfl,k0,k1,k2⟩
def Kj(x:eJ):Prop:=inI .i64 x.fId∧inI .i64 x.fThread∧inI .i64 x.fSize∧inI .i64 x.fSpan.fFrom∧inI .i64 x.fSpan.fTo∧okL X6 x.fStack∧True
theorem adj(ts:List T)(h:WTs [.int .i64,.int .i64,.int .i64,.int .i64,.int .i64,.sl [.str],.bool] ts):∃x:eJ,cW x=ts∧Kj x:=by
  obtain⟨t0,r0,rfl,h0,h⟩:=h.inv
  obtain⟨t1,r1,rfl,h1,h⟩:=h.inv
  obtain⟨t2,r2,rfl,h2,h⟩:=h.inv
  obtain⟨t3,r3,rfl,h3,h⟩:=h.inv
  obtain⟨t4,r4,rfl,h4,h⟩:=h.inv
  obtain⟨t5,r5,rfl,h5,h⟩:=h.inv
  obtain⟨t6,r6,rfl,h6,h⟩:=h.inv
  obtain rfl:=h.inv0
  obtain⟨y0,rfl,k0⟩:=j5 h0
  obtain⟨y1,rfl,k1⟩:=j5 h1
  obtain⟨y2,rfl,k2⟩:=j5 h2
  obtain⟨y3,rfl,k3⟩:=j5 h3
  obtain⟨y4,rfl,k4⟩:=j5 h4
  obtain⟨y5,rfl,k5⟩:=E1 azY h5
  obtain⟨y6,rfl,k6⟩:=aAY h6
  exact⟨({fId:=y0,fThread:=y1,fSize:=y2,fSpan:=({fFrom:=y3,fTo:=y4}:bZ),fStack:=y5,fLive:=y6}:eJ),rfl,k0,k1,k2,k3,k4,k5,k6⟩
def S1(x:yq):Prop:=inI .i64 x.fThread∧inI .i64 x.fSpan.fFrom∧inI .i64 x.fSpan.fTo∧inI .i64 x.fCount
theorem alV(ts:List T)(h:WTs [.int .i64,.int .i64,.int .i64,.int .i64] ts):∃x:yq,rX x=ts∧S1 x:=by
  obtain⟨t0,r0,rfl,h0,h⟩:=h.inv
  obtain⟨t1,r1,rfl,h1,h⟩:=h.inv
  obtain⟨t2,r2,rfl,h2,h⟩:=h.inv
  obtain⟨t3,r3,rfl,h3,h⟩:=h.inv
  obtain rfl:=h.inv0
  obtain⟨y0,rfl,k0⟩:=j5 h0
  obtain⟨y1,rfl,k1⟩:=j5 h1
  obtain⟨y2,rfl,k2⟩:=j5 h2
  obtain⟨y3,rfl,k3⟩:=j5 h3
  exact⟨({fThread:=y0,fSpan:=({fFrom:=y1,fTo:=y2}:bZ),fCount:=y3}:yq),rfl,k0,k1,k2,k3⟩
def uW(x:aY):Prop:=inI .i64 x.fSpan.fFrom∧inI .i64 x.fSpan.fTo∧okL Ix x.fThreads∧okL J5 x.fSlices∧okL QY x.fStates∧okL S6 x.fFlows∧okL H1 x.fSamples∧okL L0 x.fSteps∧okL Kj x.fBlocks∧okL S1 x.fLost
theorem aeQ(ts:List T)(h:WTs [.int .i64,.int .i64,.sl [.int .i64,.str,.int .i64],.sl [.int .i64,.int .i64,.int .i64,.str,.int .i64,.int .i64,.int .i64,.bool],.sl [.int .i64,.int .i64,.int .i64,.int .i64,.int .i64,.int .i64,.int .i64],.sl [.int .i64,.int .i64,.int .i64,.int .i64,.int .i64,.int .i64,.int .i64],.sl [.int .i64,.int .i64,.int .i64,.sl [.str]],.sl [.str,.int .i64,.int .i64],.sl [.int .i64,.int .i64,.int .i64,.int .i64,.int .i64,.sl [.str],.bool],.sl [.int .i64,.int .i64,.int .i64,.int .i64]] ts):∃x:aY,anX x=ts∧uW x:=by
  obtain⟨t0,r0,rfl,h0,h⟩:=h.inv
  obtain⟨t1,r1,rfl,h1,h⟩:=h.inv
  obtain⟨t2,r2,rfl,h2,h⟩:=h.inv
  obtain⟨t3,r3,rfl,h3,h⟩:=h.inv
  obtain⟨t4,r4,rfl,h4,h⟩:=h.inv
  obtain⟨t5,r5,rfl,h5,h⟩:=h.inv
  obtain⟨t6,r6,rfl,h6,h⟩:=h.inv
  obtain⟨t7,r7,rfl,h7,h⟩:=h.inv
  obtain⟨t8,r8,rfl,h8,h⟩:=h.inv
  obtain⟨t9,r9,rfl,h9,h⟩:=h.inv
  obtain rfl:=h.inv0
  obtain⟨y0,rfl,k0⟩:=j5 h0
  obtain⟨y1,rfl,k1⟩:=j5 h1
  obtain⟨y2,rfl,k2⟩:=E1 YV h2
  obtain⟨y3,rfl,k3⟩:=E1 aex h3
  obtain⟨y4,rfl,k4⟩:=E1 aej h4
  obtain⟨y5,rfl,k5⟩:=E1 alj h5
  obtain⟨y6,rfl,k6⟩:=E1 Y7 h6
  obtain⟨y7,rfl,k7⟩:=E1 akK h7
  obtain⟨y8,rfl,k8⟩:=E1 adj h8
  obtain⟨y9,rfl,k9⟩:=E1 alV h9
  exact⟨({fSpan:=({fFrom:=y0,fTo:=y1}:bZ),fThreads:=y2,fSlices:=y3,fStates:=y4,fFlows:=y5,fSamples:=y6,fSteps:=y7,fBlocks:=y8,fLost:=y9}:aY),rfl,k0,k1,k2,k3,k4,k5,k6,k7,k8,k9⟩
def MY(x:Int):Prop:=inI .i64 x
theorem aBW(ts:List T)(h:WTs [.int .i64] ts):∃x:Int,dV x=ts∧MY x:=by
  obtain⟨t0,r0,rfl,h0,h⟩:=h.inv
  obtain rfl:=h.inv0
  obtain⟨y0,rfl,k0⟩:=j5 h0
  exact⟨y0,rfl,k0⟩
set_option maxRecDepth 100000 in
theorem R9(hlaw:∀(x0:aY) (x1:Int) (x2:Int),uW x0→MY x1→MY x2→i9 x0 x1 x2=some true)(H:Type)(enc:TypeId×Value→H)(W:World)(base:Nat)(args:Array Value)(ds gs:List (DataW H))(before:List MemPlace)
    (hval:∀(j:Nat) t v,Tryz.f3.params[j]? = some t→args[j]? = some v→Value.okWide Tryz.prog W .any base t v)
    (hW:DataW.Whole enc Tryz.prog Tryz.f3.params.toList Rows.anomalyOfSpec.vars false W args.toList ds gs before)
    (hz:(DataW.weightsEach Tryz.prog (Tryz.f3.params.toList++Rows.anomalyOfSpec.plain.varTypes Tryz.prog) (ds++gs)).all (·≤reachBytes)=true) :
    Calls Tryz.prog 3 args W fun e W'=>∃v,e = .returned v∧Rows.anomalyOfSpec.post enc Tryz.prog Tryz.f3 false true false false W args v W':=by
  refine aFJ (n:=64) (ts:=[33,3,3]) (tb:=4) (shs:=[[.int .i64,.int .i64,.sl [.int .i64,.str,.int .i64],.sl [.int .i64,.int .i64,.int .i64,.str,.int .i64,.int .i64,.int .i64,.bool],.sl [.int .i64,.int .i64,.int .i64,.int .i64,.int .i64,.int .i64,.int .i64],.sl [.int .i64,.int .i64,.int .i64,.int .i64,.int .i64,.int .i64,.int .i64],.sl [.int .i64,.int .i64,.int .i64,.sl [.str]],.sl [.str,.int .i64,.int .i64],.sl [.int .i64,.int .i64,.int .i64,.int .i64,.int .i64,.sl [.str],.bool],.sl [.int .i64,.int .i64,.int .i64,.int .i64]],[.int .i64],[.int .i64]]) (bs:=[true,false,false]) (by kernel_rfl) (by kernel_rfl) (by kernel_rfl) rfl (by kernel_rfl) (by kernel_rfl) (fun ds h=>?_) (by kernel_rfl) (by kernel_rfl) (fresh:=true) (fun tss h=>?_) hval hW hz
  ·match ds,h with
   | [_,_,_],_=>exact⟨rfl,rfl,rfl⟩
  ·match tss,h with
   | [t0,t1,t2],⟨h0,h1,h2,_⟩ =>
     obtain⟨x0,rfl,k0⟩:=aeQ t0 h0
     obtain⟨x1,rfl,k1⟩:=aBW t1 h1
     obtain⟨x2,rfl,k2⟩:=aBW t2 h2
     exact Fx x0 x1 x2 true (hlaw x0 x1 x2 k0 k1 k2)
set_option maxRecDepth 100000 in
theorem UW(hlaw:∀(x0:aY) (x1:Int) (x2:Int),uW x0→MY x1→MY x2→i9 x0 x1 x2=some true)(os:Os)(started:os.Started)(H:Type)(enc:TypeId×Value→H) :
    ReturnsInHanded {} Tryz.checked os 3 .any (Rows.anomalyOfSpec.pre6 enc Tryz.prog Tryz.f3 Rows.anomalyOfRow.domain false) (Rows.anomalyOfSpec.post enc Tryz.prog Tryz.f3 false true false false):=by
  refine returnsInHanded_of_change_sized (C:=Tryz.checked) (s:=Rows.anomalyOfSpec) (by kernel_rfl) started (by kernel_rfl) Tryz.func3
    (ChangeSpec.witness6 (enc:=enc) (C:=Tryz.checked) false ⟨#[],#[.agg #[.int .i64 0,.int .i64 0,.slice none 0 0,.slice none 0 0,.slice none 0 0,.slice none 0 0,.slice none 0 0,.slice none 0 0,.slice none 0 0,.slice none 0 0],.int .i64 0,.int .i64 0],[]⟩ 64 (by kernel_rfl) (by kernel_rfl) (by kernel_rfl) (by kernel_rfl)) ?_
  intro W base args ds gs before hval hW _ hz _
  exact R9 hlaw H enc W base args ds gs before hval hW hz
theorem anomalyOf_said(hlaw:∀(x0:aY) (x1:Int) (x2:Int),uW x0→MY x1→MY x2→i9 x0 x1 x2=some true):Rows.AnomalyOfSaid :=
  OpenClaim.holds_of_wide 3 Tryz.f3 rfl rfl rfl rfl rfl rfl rfl ⟨rfl,rfl,rfl,rfl,rfl⟩ rfl rfl rfl rfl rfl (by kernel_rfl) Tryz.func3 (by kernel_rfl)
    (of_decide_eq_true (by kernel_rfl)) (by unfold Func.isWrapper;first | (rw[if_pos (by decide +kernel)];kernel_rfl) | (rw[if_neg (by decide +kernel)];exact⟨rfl,rfl⟩))
    (fun os started H enc _=>UW hlaw os started H enc)
end Go.VM
