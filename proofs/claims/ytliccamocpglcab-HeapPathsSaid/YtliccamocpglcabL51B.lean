/- From the law on lists and numbers to the statement. -/
import Derived.Test.YtliccamocpglcabL511
import Derived.JoinedOf
import Derived.SizedLaws
namespace Go.VM
open Go.Proofs Go.Proofs.Ytliccamocpglcab
open Go.ChangeShapes Go.WideShapes Go.ChangeAt Go.RowKit
def HY (x:Int):Prop:=inI .i64 x
theorem Yx (ts:List T) (h:WTs [.int .i64] ts):∃ x:Int,aV x = ts∧HY x:=by
  obtain ⟨t0,r0,rfl,h0,h⟩:=h.inv
  obtain rfl:=h.inv0
  obtain ⟨y0,rfl,k0⟩:=ahX h0
  exact ⟨y0,rfl,k0⟩
def F3 (x:bY):Prop:=inI .i64 x.fId∧inI .i64 x.fSize∧ByteArray.size x.fType≤reachBytes∧okL HY x.fRefs
theorem Q0 (ts:List T) (h:WTs [.int .i64,.int .i64,.str,.sl [.int .i64]] ts):∃ x:bY,ax x = ts∧F3 x:=by
  obtain ⟨t0,r0,rfl,h0,h⟩:=h.inv
  obtain ⟨t1,r1,rfl,h1,h⟩:=h.inv
  obtain ⟨t2,r2,rfl,h2,h⟩:=h.inv
  obtain ⟨t3,r3,rfl,h3,h⟩:=h.inv
  obtain rfl:=h.inv0
  obtain ⟨y0,rfl,k0⟩:=ahX h0
  obtain ⟨y1,rfl,k1⟩:=ahX h1
  obtain ⟨y2,rfl,k2⟩:=aRV h2
  obtain ⟨y3,rfl,k3⟩:=YZ Yx h3
  exact ⟨({ fId:=y0,fSize:=y1,fType:=y2,fRefs:=y3 }:bY),rfl,k0,k1,k2,k3⟩
def okr_api_Heap (x:api_Heap):Prop:=okL F3 x.fObjects∧okL HY x.fRoots
theorem Zz (ts:List T) (h:WTs [.sl [.int .i64,.int .i64,.str,.sl [.int .i64]],.sl [.int .i64]] ts):∃ x:api_Heap,ahJ x = ts∧okr_api_Heap x:=by
  obtain ⟨t0,r0,rfl,h0,h⟩:=h.inv
  obtain ⟨t1,r1,rfl,h1,h⟩:=h.inv
  obtain rfl:=h.inv0
  obtain ⟨y0,rfl,k0⟩:=YZ Q0 h0
  obtain ⟨y1,rfl,k1⟩:=YZ Yx h1
  exact ⟨({ fObjects:=y0,fRoots:=y1 }:api_Heap),rfl,k0,k1⟩
set_option maxRecDepth 100000 in
theorem Kz (hlaw:∀ (x0:api_Heap) (x1:Int),okr_api_Heap x0→HY x1→eJ x0 x1 = some true) (H:Type) (enc:TypeId × Value→H) (W:World) (base:Nat) (args:Array Value) (ds gs:List (DataW H)) (before:List MemPlace)
    (hval:∀ (j:Nat) t v,Try.f3.params[j]? = some t→args[j]? = some v→Value.okWide Try.prog W .any base t v)
    (hW:DataW.Whole enc Try.prog Try.f3.params.toList Rows.heapPathsSpec.vars false W args.toList ds gs before)
    (hz:(DataW.weightsEach Try.prog (Try.f3.params.toList++Rows.heapPathsSpec.plain.varTypes Try.prog) (ds++gs)).all (·≤reachBytes) = true) :
    Calls Try.prog 3 args W fun e W'=>∃ v,e = .returned v∧Rows.heapPathsSpec.post enc Try.prog Try.f3 false true false false W args v W':=by
  refine avZ (n:=64) (ts:=[25,3]) (tb:=4) (shs:=[[.sl [.int .i64,.int .i64,.str,.sl [.int .i64]],.sl [.int .i64]],[.int .i64]]) (bs:=[true,false]) (by kernel_rfl) (by kernel_rfl) (by kernel_rfl) rfl (by kernel_rfl) (by kernel_rfl) (fun ds h=>?_) (by kernel_rfl) (by kernel_rfl) (fresh:=true) (fun tss h=>?_) hval hW hz
  · match ds,h with
    | [_,_],_=>exact ⟨rfl,rfl,rfl⟩
  · match tss,h with
    | [t0,t1],⟨h0,h1,_⟩ =>
      obtain ⟨x0,rfl,k0⟩:=Zz t0 h0
      obtain ⟨x1,rfl,k1⟩:=Yx t1 h1
      exact yV x0 x1 true (hlaw x0 x1 k0 k1)
set_option maxRecDepth 100000 in
theorem NW (hlaw:∀ (x0:api_Heap) (x1:Int),okr_api_Heap x0→HY x1→eJ x0 x1 = some true) (os:Os) (started:os.Started) (H:Type) (enc:TypeId × Value→H) :
    ReturnsInHanded {} Try.checked os 3 .any (Rows.heapPathsSpec.pre6 enc Try.prog Try.f3 Rows.heapPathsRow.domain false) (Rows.heapPathsSpec.post enc Try.prog Try.f3 false true false false):=by
  refine returnsInHanded_of_change_sized (C:=Try.checked) (s:=Rows.heapPathsSpec) (by kernel_rfl) started (by kernel_rfl) Try.func3
    (ChangeSpec.witness6 (enc:=enc) (C:=Try.checked) false ⟨#[],#[.agg #[.slice none 0 0,.slice none 0 0],.int .i64 0],[]⟩ 64 (by kernel_rfl) (by kernel_rfl) (by kernel_rfl) (by kernel_rfl)) ?_
  intro W base args ds gs before hval hW _ hz _
  exact Kz hlaw H enc W base args ds gs before hval hW hz
theorem heapPaths_said (hlaw:∀ (x0:api_Heap) (x1:Int),okr_api_Heap x0→HY x1→eJ x0 x1 = some true):Rows.HeapPathsSaid :=
  OpenClaim.holds_of_wide 3 Try.f3 rfl rfl rfl rfl rfl rfl rfl ⟨rfl,rfl,rfl,rfl,rfl⟩ rfl rfl rfl rfl rfl (by kernel_rfl) Try.func3 (by kernel_rfl)
    (of_decide_eq_true (by kernel_rfl)) (by unfold Func.isWrapper; first | (rw [if_pos (by decide +kernel)]; kernel_rfl) | (rw [if_neg (by decide +kernel)]; exact ⟨rfl,rfl⟩))
    (fun os started H enc _=>NW hlaw os started H enc)
end Go.VM
