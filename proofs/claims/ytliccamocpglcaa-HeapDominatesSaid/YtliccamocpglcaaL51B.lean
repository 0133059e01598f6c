/- From the law on lists and numbers to the statement. -/
import Derived.Test.YtliccamocpglcaaL511
import Derived.JoinedOf
import Derived.SizedLaws
namespace Go.VM
open Go.Proofs Go.Proofs.Ytliccamocpglcaa
open Go.ChangeShapes Go.WideShapes Go.ChangeAt Go.RowKit
def Z8 (x:Int):Prop:=inI .i64 x
theorem atJ (ts:List T) (h:WTs [.int .i64] ts):∃ x:Int,aY x = ts∧Z8 x:=by
  obtain ⟨t0,r0,rfl,h0,h⟩:=h.inv
  obtain rfl:=h.inv0
  obtain ⟨y0,rfl,k0⟩:=amJ h0
  exact ⟨y0,rfl,k0⟩
def HJ (x:bK):Prop:=inI .i64 x.fId∧inI .i64 x.fSize∧ByteArray.size x.fType≤reachBytes∧okL Z8 x.fRefs
theorem VV (ts:List T) (h:WTs [.int .i64,.int .i64,.str,.sl [.int .i64]] ts):∃ x:bK,ax x = ts∧HJ x:=by
  obtain ⟨t0,r0,rfl,h0,h⟩:=h.inv
  obtain ⟨t1,r1,rfl,h1,h⟩:=h.inv
  obtain ⟨t2,r2,rfl,h2,h⟩:=h.inv
  obtain ⟨t3,r3,rfl,h3,h⟩:=h.inv
  obtain rfl:=h.inv0
  obtain ⟨y0,rfl,k0⟩:=amJ h0
  obtain ⟨y1,rfl,k1⟩:=amJ h1
  obtain ⟨y2,rfl,k2⟩:=aTx h2
  obtain ⟨y3,rfl,k3⟩:=aaX atJ h3
  exact ⟨({ fId:=y0,fSize:=y1,fType:=y2,fRefs:=y3 }:bK),rfl,k0,k1,k2,k3⟩
def okr_api_Heap (x:api_Heap):Prop:=okL HJ x.fObjects∧okL Z8 x.fRoots
theorem Y5 (ts:List T) (h:WTs [.sl [.int .i64,.int .i64,.str,.sl [.int .i64]],.sl [.int .i64]] ts):∃ x:api_Heap,amZ x = ts∧okr_api_Heap x:=by
  obtain ⟨t0,r0,rfl,h0,h⟩:=h.inv
  obtain ⟨t1,r1,rfl,h1,h⟩:=h.inv
  obtain rfl:=h.inv0
  obtain ⟨y0,rfl,k0⟩:=aaX VV h0
  obtain ⟨y1,rfl,k1⟩:=aaX atJ h1
  exact ⟨({ fObjects:=y0,fRoots:=y1 }:api_Heap),rfl,k0,k1⟩
set_option maxRecDepth 100000 in
theorem F0 (hlaw:∀ (x0:api_Heap),okr_api_Heap x0→dV x0 = some true) (H:Type) (enc:TypeId × Value→H) (W:World) (base:Nat) (args:Array Value) (ds gs:List (DataW H)) (before:List MemPlace)
    (hval:∀ (j:Nat) t v,Try.f5.params[j]? = some t→args[j]? = some v→Value.okWide Try.prog W .any base t v)
    (hW:DataW.Whole enc Try.prog Try.f5.params.toList Rows.heapDominatesSpec.vars false W args.toList ds gs before)
    (hz:(DataW.weightsEach Try.prog (Try.f5.params.toList++Rows.heapDominatesSpec.plain.varTypes Try.prog) (ds++gs)).all (·≤reachBytes) = true) :
    Calls Try.prog 5 args W fun e W'=>∃ v,e = .returned v∧Rows.heapDominatesSpec.post enc Try.prog Try.f5 false true false false W args v W':=by
  refine awK (n:=64) (ts:=[25]) (tb:=4) (shs:=[[.sl [.int .i64,.int .i64,.str,.sl [.int .i64]],.sl [.int .i64]]]) (bs:=[true]) (by kernel_rfl) (by kernel_rfl) (by kernel_rfl) rfl (by kernel_rfl) (by kernel_rfl) (fun ds h=>?_) (by kernel_rfl) (by kernel_rfl) (fresh:=true) (fun tss h=>?_) hval hW hz
  · match ds,h with
    | [_],_=>exact ⟨rfl,rfl,rfl⟩
  · match tss,h with
    | [t0],⟨h0,_⟩ =>
      obtain ⟨x0,rfl,k0⟩:=Y5 t0 h0
      exact w9 x0 true (hlaw x0 k0)
set_option maxRecDepth 100000 in
theorem Gj (hlaw:∀ (x0:api_Heap),okr_api_Heap x0→dV x0 = some true) (os:Os) (started:os.Started) (H:Type) (enc:TypeId × Value→H) :
    ReturnsInHanded {} Try.checked os 5 .any (Rows.heapDominatesSpec.pre6 enc Try.prog Try.f5 Rows.heapDominatesRow.domain false) (Rows.heapDominatesSpec.post enc Try.prog Try.f5 false true false false):=by
  refine returnsInHanded_of_change_sized (C:=Try.checked) (s:=Rows.heapDominatesSpec) (by kernel_rfl) started (by kernel_rfl) Try.func5
    (ChangeSpec.witness6 (enc:=enc) (C:=Try.checked) false ⟨#[],#[.agg #[.slice none 0 0,.slice none 0 0]],[]⟩ 64 (by kernel_rfl) (by kernel_rfl) (by kernel_rfl) (by kernel_rfl)) ?_
  intro W base args ds gs before hval hW _ hz _
  exact F0 hlaw H enc W base args ds gs before hval hW hz
theorem heapDominates_said (hlaw:∀ (x0:api_Heap),okr_api_Heap x0→dV x0 = some true):Rows.HeapDominatesSaid :=
  OpenClaim.holds_of_wide 5 Try.f5 rfl rfl rfl rfl rfl rfl rfl ⟨rfl,rfl,rfl,rfl,rfl⟩ rfl rfl rfl rfl rfl (by kernel_rfl) Try.func5 (by kernel_rfl)
    (of_decide_eq_true (by kernel_rfl)) (by unfold Func.isWrapper; first | (rw [if_pos (by decide +kernel)]; kernel_rfl) | (rw [if_neg (by decide +kernel)]; exact ⟨rfl,rfl⟩))
    (fun os started H enc _=>Gj hlaw os started H enc)
end Go.VM
