/- From the law on lists and numbers to the statement. -/
import Derived.Test.YtinhkpcgdfppkaaL261
import Derived.JoinedOf
import Derived.SizedLaws
namespace Go.VM
open Go.Proofs Go.Proofs.Ytinhkpcgdfppkaa
open Go.ChangeShapes Go.WideShapes Go.ChangeAt Go.RowKit
def atQ(x:ByteArray):Prop:=ByteArray.size x≤reachBytes
theorem aLx(ts:List T)(h:WTs [.str] ts):∃x:ByteArray,wW x=ts∧atQ x:=by
  obtain⟨t0,r0,rfl,h0,h⟩:=h.inv
  obtain rfl:=h.inv0
  obtain⟨y0,rfl,k0⟩:=aDY h0
  exact⟨y0,rfl,k0⟩
def Kz(x:a8):Prop:=inI .i64 x.j8.q6∧inI .i64 x.j8.j3∧inI .i64 x.j4.w8∧inI .i64 x.j4.j9∧ByteArray.size x.j4.z5≤reachBytes∧inI .i64 x.j4.x5∧inI .i64 x.j4.x6∧okL atQ x.j4.j5∧inI .i64 x.j7.w7∧inI .i64 x.j7.w9
theorem XX(ts:List T)(h:WTs [.int .i64,.int .i64,.int .i64,.int .i64,.str,.int .i64,.int .i64,.sl [.str],.int .i64,.int .i64] ts):∃x:a8,a0 x=ts∧Kz x:=by
  obtain⟨t0,r0,rfl,h0,h⟩:=h.inv
  obtain⟨t1,r1,rfl,h1,h⟩:=h.inv
  obtain⟨t2,r2,rfl,h2,h⟩:=h.inv
  obtain⟨t3,r3,rfl,h3,h⟩:=h.inv
  obtain⟨t4,r4,rfl,h4,h⟩:=h.inv
  obtain⟨t5,r5,rfl,h5,h⟩:=h.inv
  obtain⟨t6,r6,rfl,h6,h⟩:=h.inv
  obtain⟨t7,r7,rfl,h7,h⟩:=h.inv
  obtain⟨t8,r8,rfl,h8,h⟩:=h.inv
  obtain⟨t9,r9,rfl,h9,h⟩:=h.inv
  obtain rfl:=h.inv0
  obtain⟨y0,rfl,k0⟩:=G1 h0
  obtain⟨y1,rfl,k1⟩:=G1 h1
  obtain⟨y2,rfl,k2⟩:=G1 h2
  obtain⟨y3,rfl,k3⟩:=G1 h3
  obtain⟨y4,rfl,k4⟩:=aDY h4
  obtain⟨y5,rfl,k5⟩:=G1 h5
  obtain⟨y6,rfl,k6⟩:=G1 h6
  obtain⟨y7,rfl,k7⟩:=aux aLx h7
  obtain⟨y8,rfl,k8⟩:=G1 h8
  obtain⟨y9,rfl,k9⟩:=G1 h9
  exact⟨({j8:=({q6:=y0,j3:=y1}:aIq),j4:=({w8:=y2,j9:=y3,z5:=y4,x5:=y5,x6:=y6,j5:=y7}:qz),j7:=({w7:=y8,w9:=y9}:MK)}:a8),rfl,k0,k1,k2,k3,k4,k5,k6,k7,k8,k9⟩
def uV(x:(List a8)):Prop:=okL Kz x
theorem Q2(ts:List T)(h:WTs [.sl [.int .i64,.int .i64,.int .i64,.int .i64,.str,.int .i64,.int .i64,.sl [.str],.int .i64,.int .i64]] ts):∃x:(List a8),W4 x=ts∧uV x:=by
  obtain⟨t0,r0,rfl,h0,h⟩:=h.inv
  obtain rfl:=h.inv0
  obtain⟨y0,rfl,k0⟩:=aux XX h0
  exact⟨y0,rfl,k0⟩
def Rj(x:Int):Prop:=inI .i64 x
theorem aJW(ts:List T)(h:WTs [.int .i64] ts):∃x:Int,kx x=ts∧Rj x:=by
  obtain⟨t0,r0,rfl,h0,h⟩:=h.inv
  obtain rfl:=h.inv0
  obtain⟨y0,rfl,k0⟩:=G1 h0
  exact⟨y0,rfl,k0⟩
set_option maxRecDepth 100000 in
theorem J5(hlaw:∀(x0:(List a8)) (x1:Int),uV x0→Rj x1→d9 x0 x1=some true)(H:Type)(enc:TypeId×Value→H)(W:World)(base:Nat)(args:Array Value)(ds gs:List (DataW H))(before:List MemPlace)
    (hval:∀(j:Nat) t v,Try.f3.params[j]? = some t→args[j]? = some v→Value.okWide Try.prog W .any base t v)
    (hW:DataW.Whole enc Try.prog Try.f3.params.toList Rows.sliceFindsSpec.vars false W args.toList ds gs before)
    (hz:(DataW.weightsEach Try.prog (Try.f3.params.toList++Rows.sliceFindsSpec.plain.varTypes Try.prog) (ds++gs)).all (·≤reachBytes)=true) :
    Calls Try.prog 3 args W fun e W'=>∃v,e = .returned v∧Rows.sliceFindsSpec.post enc Try.prog Try.f3 false true false false W args v W':=by
  refine auV (n:=64) (ts:=[22,3]) (tb:=4) (shs:=[[.sl [.int .i64,.int .i64,.int .i64,.int .i64,.str,.int .i64,.int .i64,.sl [.str],.int .i64,.int .i64]],[.int .i64]]) (bs:=[false,false]) (by kernel_rfl) (by kernel_rfl) (by kernel_rfl) rfl (by kernel_rfl) (by kernel_rfl) (fun ds h=>?_) (by kernel_rfl) (by kernel_rfl) (fresh:=true) (fun tss h=>?_) hval hW hz
  ·match ds,h with
   | [_,_],_=>exact⟨rfl,rfl,rfl⟩
  ·match tss,h with
   | [t0,t1],⟨h0,h1,_⟩ =>
     obtain⟨x0,rfl,k0⟩:=Q2 t0 h0
     obtain⟨x1,rfl,k1⟩:=aJW t1 h1
     exact zj x0 x1 true (hlaw x0 x1 k0 k1)
set_option maxRecDepth 100000 in
theorem M2(hlaw:∀(x0:(List a8)) (x1:Int),uV x0→Rj x1→d9 x0 x1=some true)(os:Os)(started:os.Started)(H:Type)(enc:TypeId×Value→H) :
    ReturnsInHanded {} Try.checked os 3 .any (Rows.sliceFindsSpec.pre6 enc Try.prog Try.f3 Rows.sliceFindsRow.domain false) (Rows.sliceFindsSpec.post enc Try.prog Try.f3 false true false false):=by
  refine returnsInHanded_of_change_sized (C:=Try.checked) (s:=Rows.sliceFindsSpec) (by kernel_rfl) started (by kernel_rfl) Try.func3
    (ChangeSpec.witness6 (enc:=enc) (C:=Try.checked) false ⟨#[],#[.slice none 0 0,.int .i64 0],[]⟩ 64 (by kernel_rfl) (by kernel_rfl) (by kernel_rfl) (by kernel_rfl)) ?_
  intro W base args ds gs before hval hW _ hz _
  exact J5 hlaw H enc W base args ds gs before hval hW hz
set_option maxRecDepth 100000 in
theorem W7:(Rows.sliceFindsRow.wf (OpenSpec.ofChange Rows.sliceFindsSpec))=true:=by kernel_rfl
set_option maxRecDepth 100000 in
theorem XZ:(laidOutB Try.pinned.checked.prog)=true:=by kernel_rfl
set_option maxRecDepth 100000 in
theorem W5:(mapsRowed Try.pinned.checked.prog)=true:=by kernel_rfl
set_option maxRecDepth 100000 in
theorem Xj:(Try.f3.params.all (Try.pinned.checked.prog.readableRec ·))=true:=by kernel_rfl
set_option maxRecDepth 100000 in
theorem XK:(namedTie Try.pinned.checked.prog Rows.sliceFindsRow.named Rows.sliceFindsSpec.vars)=true:=by kernel_rfl
set_option maxRecDepth 100000 in
theorem XQ:((Rows.sliceFindsRow.stops == []))=true:=by kernel_rfl
set_option maxRecDepth 100000 in
theorem Xq:((Try.pinned.checked.prog.stops == []))=true:=by kernel_rfl
set_option maxRecDepth 100000 in
theorem W8:((Rows.sliceFindsRow.knobs == []))=true:=by kernel_rfl
set_option maxRecDepth 100000 in
theorem W9:((Try.pinned.checked.prog.stopKnobs == []))=true:=by kernel_rfl
set_option maxRecDepth 100000 in
theorem W2:((Rows.sliceFindsRow.inPlace == Try.pinned.checked.prog.inPlace 3))=true:=by kernel_rfl
set_option maxRecDepth 100000 in
theorem S9:((Rows.sliceFindsRow.unfollowed == Try.pinned.checked.prog.unfollowed 3))=true:=by kernel_rfl
set_option maxRecDepth 100000 in
theorem S7:((Rows.sliceFindsRow.recurses == Try.pinned.checked.prog.recurses 3))=true:=by kernel_rfl
set_option maxRecDepth 100000 in
theorem VW:((Rows.sliceFindsRow.named == Try.pinned.checked.prog.varsNamed 3))=true:=by kernel_rfl
set_option maxRecDepth 100000 in
theorem S1:((Rows.sliceFindsRow.maps == (Try.f3.params.toList++Rows.sliceFindsSpec.plain.varTypes Try.pinned.checked.prog).any (Try.pinned.checked.prog.mapsRec ·)))=true:=by kernel_rfl
set_option maxRecDepth 100000 in
theorem V5:((Rows.sliceFindsRow.ifaces == (Try.f3.params.toList++Rows.sliceFindsSpec.plain.varTypes Try.pinned.checked.prog).any (Try.pinned.checked.prog.ifacesRec ·)))=true:=by kernel_rfl
set_option maxRecDepth 100000 in
theorem S6:((Rows.sliceFindsRow.mapsOut == Try.pinned.checked.prog.mapsAmong Try.f3.resultTypes.toList))=true:=by kernel_rfl
set_option maxRecDepth 100000 in
theorem V2:((Rows.sliceFindsRow.loops == (Try.f3.params.toList++Rows.sliceFindsSpec.plain.varTypes Try.pinned.checked.prog).any (Try.pinned.checked.prog.loopsFrom ·)))=true:=by kernel_rfl
set_option maxRecDepth 100000 in
theorem Tq:((Rows.sliceFindsRow.wideKeys == (Try.f3.params.toList++Rows.sliceFindsSpec.plain.varTypes Try.pinned.checked.prog++Try.f3.resultTypes.toList).any (Try.pinned.checked.prog.wideKeysFrom ·)))=true:=by kernel_rfl
set_option maxRecDepth 100000 in
theorem V7:(Rows.sliceFindsSpec.vars.all (Try.pinned.checked.prog.varReadable ·))=true:=by kernel_rfl
set_option maxRecDepth 100000 in
theorem UZ:(Try.f3.resultTypes.all (fun t=>Try.pinned.checked.prog.readableRec t&&decide (t<Try.pinned.checked.prog.types.size)))=true:=by kernel_rfl
set_option maxRecDepth 100000 in
theorem SW:((Rows.sliceFindsRow.ifacesOut == Try.f3.resultTypes.toList.any (Try.pinned.checked.prog.ifacesRec ·)))=true:=by kernel_rfl
set_option maxRecDepth 100000 in
theorem RW:((Rows.sliceFindsRow.loopsOut == Try.f3.resultTypes.toList.any (Try.pinned.checked.prog.loopsFrom ·)))=true:=by kernel_rfl
set_option maxRecDepth 100000 in
theorem UW:((Rows.sliceFindsRow.plainKeys == Try.pinned.checked.prog.plainKeys))=true:=by kernel_rfl
set_option maxRecDepth 100000 in
theorem V8:(Rows.sliceFindsRow.shortTexts.isNone)=true:=by kernel_rfl
set_option maxRecDepth 100000 in
theorem U3:(Try.pinned.checked.prog.stopsHeard)=true:=by kernel_rfl
set_option maxRecDepth 100000 in
theorem Tj:(Try.pinned.checked.prog.mayEnter)=true:=by kernel_rfl
set_option maxRecDepth 100000 in
theorem SZ:((Rows.sliceFindsRow.lifted == Try.pinned.checked.prog.liftsFinal))=true:=by kernel_rfl
set_option maxRecDepth 100000 in
theorem T4:((Try.pinned.checked.prog.make == some Rows.sliceFindsRow.make))=true:=by kernel_rfl
set_option maxRecDepth 100000 in
theorem TX:((Rows.sliceFindsRow.kinds == (if Rows.sliceFindsRow.domain.isEmpty then[]else Try.f3.params.toList.map fun t => match Try.pinned.checked.prog.underlying t with | some (.int k) => some k | _ => none)))=true := by kernel_rfl
set_option maxRecDepth 100000 in
theorem T6:((Rows.sliceFindsRow.pinned == Rows.sliceFindsRow.pinnedBy))=true:=by kernel_rfl
set_option maxRecDepth 100000 in
theorem RJ:((Rows.sliceFindsRow.veiled == (Try.f3.params.toList++Rows.sliceFindsSpec.plain.varTypes Try.pinned.checked.prog++Try.f3.resultTypes.toList).any (Try.pinned.checked.prog.veiledRec ·)))=true:=by kernel_rfl
set_option maxRecDepth 100000 in
theorem UK:(Rows.sliceFindsRow.veiledFits Try.pinned.checked.prog Try.f3.params.toList (Try.f3.params.toList++Rows.sliceFindsSpec.plain.varTypes Try.pinned.checked.prog++Try.f3.resultTypes.toList))=true:=by kernel_rfl
set_option maxRecDepth 100000 in
theorem sliceFinds_said(hlaw:∀(x0:(List a8)) (x1:Int),uV x0→Rj x1→d9 x0 x1=some true):Rows.SliceFindsSaid :=
  OpenClaim.holds_of_wide 3 Try.f3 rfl rfl rfl rfl rfl rfl rfl ⟨rfl,rfl,rfl,rfl,rfl⟩ rfl rfl rfl rfl rfl (by kernel_rfl) Try.func3 (by simp only[joinedFacts,gk];exact⟨⟨⟨⟨⟨⟨⟨⟨⟨⟨⟨⟨⟨⟨⟨⟨⟨⟨⟨⟨⟨⟨⟨⟨⟨⟨⟨⟨⟨⟨⟨W7,XZ⟩,W5⟩,Xj⟩,XK⟩,XQ⟩,Xq⟩,W8⟩,W9⟩,W2⟩,S9⟩,S7⟩,VW⟩,S1⟩,V5⟩,S6⟩,V2⟩,Tq⟩,V7⟩,UZ⟩,SW⟩,RW⟩,UW⟩,V8⟩,U3⟩,Tj⟩,SZ⟩,T4⟩,TX⟩,T6⟩,RJ⟩,UK⟩)
    (of_decide_eq_true (by kernel_rfl)) (by unfold Func.isWrapper;first | (rw[if_pos (by decide +kernel)];kernel_rfl) | (rw[if_neg (by decide +kernel)];exact⟨rfl,rfl⟩))
    (fun os started H enc _=>M2 hlaw os started H enc)
end Go.VM
