/- From the law on lists and numbers to the statement. -/
import Derived.Test.YtinhkpcgdfppkaaL261
import Derived.JoinedOf
import Derived.SizedLaws
namespace Go.VM
open Go.Proofs Go.Proofs.Ytinhkpcgdfppkaa
open Go.ChangeShapes Go.WideShapes Go.ChangeAt Go.RowKit
def aaq(x:ByteArray):Prop:=ByteArray.size x≤reachBytes
theorem aqX(ts:List T)(h:WTs [.str] ts):∃x:ByteArray,qz x=ts∧aaq x:=by
  obtain⟨t0,r0,rfl,h0,h⟩:=h.inv
  obtain rfl:=h.inv0
  obtain⟨y0,rfl,k0⟩:=agJ h0
  exact⟨y0,rfl,k0⟩
def Dj(x:a7):Prop:=inI .i64 x.fId.fThread∧inI .i64 x.fId.fSerial∧inI .i64 x.fEvent.fAt∧inI .i64 x.fEvent.fKind∧ByteArray.size x.fEvent.fName≤reachBytes∧inI .i64 x.fEvent.fN∧inI .i64 x.fEvent.fM∧okL aaq x.fEvent.fStack∧inI .i64 x.fWhen.fLo∧inI .i64 x.fWhen.fHi
theorem O1(ts:List T)(h:WTs [.int .i64,.int .i64,.int .i64,.int .i64,.str,.int .i64,.int .i64,.sl [.str],.int .i64,.int .i64] ts):∃x:a7,aY x=ts∧Dj x:=by
  obtain⟨t0,r0,rfl,h0,h⟩:=h.inv
  obtain⟨t1,r1,rfl,h1,h⟩:=h.inv
  obtain⟨t2,r2,rfl,h2,h⟩:=h.inv
  obtain⟨t3,r3,rfl,h3,h⟩:=h.inv
  obtain⟨t4,r4,rfl,h4,h⟩:=h.inv
  obtain⟨t5,r5,rfl,h5,h⟩:=h.inv
  obtain⟨t6,r6,rfl,h6,h⟩:=h.inv
  obtain⟨t7,r7,rfl,h7,h⟩:=h.inv
  obtain⟨t8,r8,rfl,h8,h⟩:=h.inv
  obtain⟨t9,r9,rfl,h9,h⟩:=h.inv
  obtain rfl:=h.inv0
  obtain⟨y0,rfl,k0⟩:=yV h0
  obtain⟨y1,rfl,k1⟩:=yV h1
  obtain⟨y2,rfl,k2⟩:=yV h2
  obtain⟨y3,rfl,k3⟩:=yV h3
  obtain⟨y4,rfl,k4⟩:=agJ h4
  obtain⟨y5,rfl,k5⟩:=yV h5
  obtain⟨y6,rfl,k6⟩:=yV h6
  obtain⟨y7,rfl,k7⟩:=aaj aqX h7
  obtain⟨y8,rfl,k8⟩:=yV h8
  obtain⟨y9,rfl,k9⟩:=yV h9
  exact⟨({fId:=({fThread:=y0,fSerial:=y1}:ajz),fEvent:=({fAt:=y2,fKind:=y3,fName:=y4,fN:=y5,fM:=y6,fStack:=y7}:m6),fWhen:=({fLo:=y8,fHi:=y9}:GK)}:a7),rfl,k0,k1,k2,k3,k4,k5,k6,k7,k8,k9⟩
def oQ(x:(List a7)):Prop:=okL Dj x
theorem I9(ts:List T)(h:WTs [.sl [.int .i64,.int .i64,.int .i64,.int .i64,.str,.int .i64,.int .i64,.sl [.str],.int .i64,.int .i64]] ts):∃x:(List a7),N9 x=ts∧oQ x:=by
  obtain⟨t0,r0,rfl,h0,h⟩:=h.inv
  obtain rfl:=h.inv0
  obtain⟨y0,rfl,k0⟩:=aaj O1 h0
  exact⟨y0,rfl,k0⟩
def KQ(x:Int):Prop:=inI .i64 x
theorem aoK(ts:List T)(h:WTs [.int .i64] ts):∃x:Int,awW x=ts∧KQ x:=by
  obtain⟨t0,r0,rfl,h0,h⟩:=h.inv
  obtain rfl:=h.inv0
  obtain⟨y0,rfl,k0⟩:=yV h0
  exact⟨y0,rfl,k0⟩
set_option maxRecDepth 100000 in
theorem Bx(hlaw:∀(x0:(List a7)) (x1:Int),oQ x0→KQ x1→cJ x0 x1=some true)(H:Type)(enc:TypeId×Value→H)(W:World)(base:Nat)(args:Array Value)(ds gs:List (DataW H))(before:List MemPlace)
    (hval:∀(j:Nat) t v,Try.f4.params[j]? = some t→args[j]? = some v→Value.okWide Try.prog W .any base t v)
    (hW:DataW.Whole enc Try.prog Try.f4.params.toList Rows.sliceCountsSpec.vars false W args.toList ds gs before)
    (hz:(DataW.weightsEach Try.prog (Try.f4.params.toList++Rows.sliceCountsSpec.plain.varTypes Try.prog) (ds++gs)).all (·≤reachBytes)=true) :
    Calls Try.prog 4 args W fun e W'=>∃v,e = .returned v∧Rows.sliceCountsSpec.post enc Try.prog Try.f4 false true false false W args v W':=by
  refine acZ (n:=64) (ts:=[22,3]) (tb:=4) (shs:=[[.sl [.int .i64,.int .i64,.int .i64,.int .i64,.str,.int .i64,.int .i64,.sl [.str],.int .i64,.int .i64]],[.int .i64]]) (bs:=[false,false]) (by kernel_rfl) (by kernel_rfl) (by kernel_rfl) rfl (by kernel_rfl) (by kernel_rfl) (fun ds h=>?_) (by kernel_rfl) (by kernel_rfl) (fresh:=true) (fun tss h=>?_) hval hW hz
  ·match ds,h with
   | [_,_],_=>exact⟨rfl,rfl,rfl⟩
  ·match tss,h with
   | [t0,t1],⟨h0,h1,_⟩ =>
     obtain⟨x0,rfl,k0⟩:=I9 t0 h0
     obtain⟨x1,rfl,k1⟩:=aoK t1 h1
     exact q6 x0 x1 true (hlaw x0 x1 k0 k1)
set_option maxRecDepth 100000 in
theorem Ej(hlaw:∀(x0:(List a7)) (x1:Int),oQ x0→KQ x1→cJ x0 x1=some true)(os:Os)(started:os.Started)(H:Type)(enc:TypeId×Value→H) :
    ReturnsInHanded {} Try.checked os 4 .any (Rows.sliceCountsSpec.pre6 enc Try.prog Try.f4 Rows.sliceCountsRow.domain false) (Rows.sliceCountsSpec.post enc Try.prog Try.f4 false true false false):=by
  refine returnsInHanded_of_change_sized (C:=Try.checked) (s:=Rows.sliceCountsSpec) (by kernel_rfl) started (by kernel_rfl) Try.func4
    (ChangeSpec.witness6 (enc:=enc) (C:=Try.checked) false ⟨#[],#[.slice none 0 0,.int .i64 0],[]⟩ 64 (by kernel_rfl) (by kernel_rfl) (by kernel_rfl) (by kernel_rfl)) ?_
  intro W base args ds gs before hval hW _ hz _
  exact Bx hlaw H enc W base args ds gs before hval hW hz
set_option maxRecDepth 100000 in
theorem KY:(Rows.sliceCountsRow.wf (OpenSpec.ofChange Rows.sliceCountsSpec))=true:=by kernel_rfl
set_option maxRecDepth 100000 in
theorem Nq:(laidOutB Try.pinned.checked.prog)=true:=by kernel_rfl
set_option maxRecDepth 100000 in
theorem Lj:(mapsRowed Try.pinned.checked.prog)=true:=by kernel_rfl
set_option maxRecDepth 100000 in
theorem KZ:(Try.f4.params.all (Try.pinned.checked.prog.readableRec ·))=true:=by kernel_rfl
set_option maxRecDepth 100000 in
theorem L0:(namedTie Try.pinned.checked.prog Rows.sliceCountsRow.named Rows.sliceCountsSpec.vars)=true:=by kernel_rfl
set_option maxRecDepth 100000 in
theorem K7:((Rows.sliceCountsRow.stops == []))=true:=by kernel_rfl
set_option maxRecDepth 100000 in
theorem N7:((Try.pinned.checked.prog.stops == []))=true:=by kernel_rfl
set_option maxRecDepth 100000 in
theorem L8:((Rows.sliceCountsRow.knobs == []))=true:=by kernel_rfl
set_option maxRecDepth 100000 in
theorem M2:((Try.pinned.checked.prog.stopKnobs == []))=true:=by kernel_rfl
set_option maxRecDepth 100000 in
theorem LV:((Rows.sliceCountsRow.inPlace == Try.pinned.checked.prog.inPlace 4))=true:=by kernel_rfl
set_option maxRecDepth 100000 in
theorem JV:((Rows.sliceCountsRow.unfollowed == Try.pinned.checked.prog.unfollowed 4))=true:=by kernel_rfl
set_option maxRecDepth 100000 in
theorem JQ:((Rows.sliceCountsRow.recurses == Try.pinned.checked.prog.recurses 4))=true:=by kernel_rfl
set_option maxRecDepth 100000 in
theorem JW:((Rows.sliceCountsRow.named == Try.pinned.checked.prog.varsNamed 4))=true:=by kernel_rfl
set_option maxRecDepth 100000 in
theorem JX:((Rows.sliceCountsRow.maps == (Try.f4.params.toList++Rows.sliceCountsSpec.plain.varTypes Try.pinned.checked.prog).any (Try.pinned.checked.prog.mapsRec ·)))=true:=by kernel_rfl
set_option maxRecDepth 100000 in
theorem I2:((Rows.sliceCountsRow.ifaces == (Try.f4.params.toList++Rows.sliceCountsSpec.plain.varTypes Try.pinned.checked.prog).any (Try.pinned.checked.prog.ifacesRec ·)))=true:=by kernel_rfl
set_option maxRecDepth 100000 in
theorem J5:((Rows.sliceCountsRow.mapsOut == Try.pinned.checked.prog.mapsAmong Try.f4.resultTypes.toList))=true:=by kernel_rfl
set_option maxRecDepth 100000 in
theorem Jj:((Rows.sliceCountsRow.loops == (Try.f4.params.toList++Rows.sliceCountsSpec.plain.varTypes Try.pinned.checked.prog).any (Try.pinned.checked.prog.loopsFrom ·)))=true:=by kernel_rfl
set_option maxRecDepth 100000 in
theorem J0:((Rows.sliceCountsRow.wideKeys == (Try.f4.params.toList++Rows.sliceCountsSpec.plain.varTypes Try.pinned.checked.prog++Try.f4.resultTypes.toList).any (Try.pinned.checked.prog.wideKeysFrom ·)))=true:=by kernel_rfl
set_option maxRecDepth 100000 in
theorem I4:(Rows.sliceCountsSpec.vars.all (Try.pinned.checked.prog.varReadable ·))=true:=by kernel_rfl
set_option maxRecDepth 100000 in
theorem JY:(Try.f4.resultTypes.all (fun t=>Try.pinned.checked.prog.readableRec t&&decide (t<Try.pinned.checked.prog.types.size)))=true:=by kernel_rfl
set_option maxRecDepth 100000 in
theorem JJ:((Rows.sliceCountsRow.ifacesOut == Try.f4.resultTypes.toList.any (Try.pinned.checked.prog.ifacesRec ·)))=true:=by kernel_rfl
set_option maxRecDepth 100000 in
theorem J1:((Rows.sliceCountsRow.loopsOut == Try.f4.resultTypes.toList.any (Try.pinned.checked.prog.loopsFrom ·)))=true:=by kernel_rfl
set_option maxRecDepth 100000 in
theorem Jq:((Rows.sliceCountsRow.plainKeys == Try.pinned.checked.prog.plainKeys))=true:=by kernel_rfl
set_option maxRecDepth 100000 in
theorem J3:(Rows.sliceCountsRow.shortTexts.isNone)=true:=by kernel_rfl
set_option maxRecDepth 100000 in
theorem I5:(Try.pinned.checked.prog.stopsHeard)=true:=by kernel_rfl
set_option maxRecDepth 100000 in
theorem I6:(Try.pinned.checked.prog.mayEnter)=true:=by kernel_rfl
set_option maxRecDepth 100000 in
theorem JK:((Rows.sliceCountsRow.lifted == Try.pinned.checked.prog.liftsFinal))=true:=by kernel_rfl
set_option maxRecDepth 100000 in
theorem Jx:((Try.pinned.checked.prog.make == some Rows.sliceCountsRow.make))=true:=by kernel_rfl
set_option maxRecDepth 100000 in
theorem I7:((Rows.sliceCountsRow.kinds == (if Rows.sliceCountsRow.domain.isEmpty then[]else Try.f4.params.toList.map fun t => match Try.pinned.checked.prog.underlying t with | some (.int k) => some k | _ => none)))=true := by kernel_rfl
set_option maxRecDepth 100000 in
theorem Jz:((Rows.sliceCountsRow.pinned == Rows.sliceCountsRow.pinnedBy))=true:=by kernel_rfl
set_option maxRecDepth 100000 in
theorem JZ:((Rows.sliceCountsRow.veiled == (Try.f4.params.toList++Rows.sliceCountsSpec.plain.varTypes Try.pinned.checked.prog++Try.f4.resultTypes.toList).any (Try.pinned.checked.prog.veiledRec ·)))=true:=by kernel_rfl
set_option maxRecDepth 100000 in
theorem J4:(Rows.sliceCountsRow.veiledFits Try.pinned.checked.prog Try.f4.params.toList (Try.f4.params.toList++Rows.sliceCountsSpec.plain.varTypes Try.pinned.checked.prog++Try.f4.resultTypes.toList))=true:=by kernel_rfl
set_option maxRecDepth 100000 in
theorem sliceCounts_said(hlaw:∀(x0:(List a7)) (x1:Int),oQ x0→KQ x1→cJ x0 x1=some true):Rows.SliceCountsSaid :=
  OpenClaim.holds_of_wide 4 Try.f4 rfl rfl rfl rfl rfl rfl rfl ⟨rfl,rfl,rfl,rfl,rfl⟩ rfl rfl rfl rfl rfl (by kernel_rfl) Try.func4 (by simp only[joinedFacts,jk];exact⟨⟨⟨⟨⟨⟨⟨⟨⟨⟨⟨⟨⟨⟨⟨⟨⟨⟨⟨⟨⟨⟨⟨⟨⟨⟨⟨⟨⟨⟨⟨KY,Nq⟩,Lj⟩,KZ⟩,L0⟩,K7⟩,N7⟩,L8⟩,M2⟩,LV⟩,JV⟩,JQ⟩,JW⟩,JX⟩,I2⟩,J5⟩,Jj⟩,J0⟩,I4⟩,JY⟩,JJ⟩,J1⟩,Jq⟩,J3⟩,I5⟩,I6⟩,JK⟩,Jx⟩,I7⟩,Jz⟩,JZ⟩,J4⟩)
    (of_decide_eq_true (by kernel_rfl)) (by unfold Func.isWrapper;first | (rw[if_pos (by decide +kernel)];kernel_rfl) | (rw[if_neg (by decide +kernel)];exact⟨rfl,rfl⟩))
    (fun os started H enc _=>Ej hlaw os started H enc)
end Go.VM
