/- From the law on lists and numbers to the statement. -/
import Derived.Test.YtliccamocpglcaaL511
import Derived.JoinedOf
import Derived.SizedLaws
namespace Go.VM
open Go.Proofs Go.Proofs.Ytliccamocpglcaa
open Go.ChangeShapes Go.WideShapes Go.ChangeAt Go.RowKit
def Xj (x:Int):Prop:=inI .i64 x
theorem apY (ts:List T) (h:WTs [.int .i64] ts):∃ x:Int,bj x = ts∧Xj x:=by
  obtain ⟨t0,r0,rfl,h0,h⟩:=h.inv
  obtain rfl:=h.inv0
  obtain ⟨y0,rfl,k0⟩:=ahQ h0
  exact ⟨y0,rfl,k0⟩
def F8 (x:aY):Prop:=inI .i64 x.fId∧inI .i64 x.fSize∧ByteArray.size x.fType≤reachBytes∧okL Xj x.fRefs
theorem S1 (ts:List T) (h:WTs [.int .i64,.int .i64,.str,.sl [.int .i64]] ts):∃ x:aY,ax x = ts∧F8 x:=by
  obtain ⟨t0,r0,rfl,h0,h⟩:=h.inv
  obtain ⟨t1,r1,rfl,h1,h⟩:=h.inv
  obtain ⟨t2,r2,rfl,h2,h⟩:=h.inv
  obtain ⟨t3,r3,rfl,h3,h⟩:=h.inv
  obtain rfl:=h.inv0
  obtain ⟨y0,rfl,k0⟩:=ahQ h0
  obtain ⟨y1,rfl,k1⟩:=ahQ h1
  obtain ⟨y2,rfl,k2⟩:=aQz h2
  obtain ⟨y3,rfl,k3⟩:=X4 apY h3
  exact ⟨({ fId:=y0,fSize:=y1,fType:=y2,fRefs:=y3 }:aY),rfl,k0,k1,k2,k3⟩
def okr_api_Heap (x:api_Heap):Prop:=okL F8 x.fObjects∧okL Xj x.fRoots
theorem W7 (ts:List T) (h:WTs [.sl [.int .i64,.int .i64,.str,.sl [.int .i64]],.sl [.int .i64]] ts):∃ x:api_Heap,ahx x = ts∧okr_api_Heap x:=by
  obtain ⟨t0,r0,rfl,h0,h⟩:=h.inv
  obtain ⟨t1,r1,rfl,h1,h⟩:=h.inv
  obtain rfl:=h.inv0
  obtain ⟨y0,rfl,k0⟩:=X4 S1 h0
  obtain ⟨y1,rfl,k1⟩:=X4 apY h1
  exact ⟨({ fObjects:=y0,fRoots:=y1 }:api_Heap),rfl,k0,k1⟩
set_option maxRecDepth 100000 in
theorem LW (hlaw:∀ (x0:api_Heap),okr_api_Heap x0→eK x0 = some true) (H:Type) (enc:TypeId × Value→H) (W:World) (base:Nat) (args:Array Value) (ds gs:List (DataW H)) (before:List MemPlace)
    (hval:∀ (j:Nat) t v,Try.f6.params[j]? = some t→args[j]? = some v→Value.okWide Try.prog W .any base t v)
    (hW:DataW.Whole enc Try.prog Try.f6.params.toList Rows.heapCutsSpec.vars false W args.toList ds gs before)
    (hz:(DataW.weightsEach Try.prog (Try.f6.params.toList++Rows.heapCutsSpec.plain.varTypes Try.prog) (ds++gs)).all (·≤reachBytes) = true) :
    Calls Try.prog 6 args W fun e W'=>∃ v,e = .returned v∧Rows.heapCutsSpec.post enc Try.prog Try.f6 false true false false W args v W':=by
  refine asX (n:=64) (ts:=[25]) (tb:=4) (shs:=[[.sl [.int .i64,.int .i64,.str,.sl [.int .i64]],.sl [.int .i64]]]) (bs:=[true]) (by kernel_rfl) (by kernel_rfl) (by kernel_rfl) rfl (by kernel_rfl) (by kernel_rfl) (fun ds h=>?_) (by kernel_rfl) (by kernel_rfl) (fresh:=true) (fun tss h=>?_) hval hW hz
  · match ds,h with
    | [_],_=>exact ⟨rfl,rfl,rfl⟩
  · match tss,h with
    | [t0],⟨h0,_⟩ =>
      obtain ⟨x0,rfl,k0⟩:=W7 t0 h0
      exact zZ x0 true (hlaw x0 k0)
set_option maxRecDepth 100000 in
theorem O0 (hlaw:∀ (x0:api_Heap),okr_api_Heap x0→eK x0 = some true) (os:Os) (started:os.Started) (H:Type) (enc:TypeId × Value→H) :
    ReturnsInHanded {} Try.checked os 6 .any (Rows.heapCutsSpec.pre6 enc Try.prog Try.f6 Rows.heapCutsRow.domain false) (Rows.heapCutsSpec.post enc Try.prog Try.f6 false true false false):=by
  refine returnsInHanded_of_change_sized (C:=Try.checked) (s:=Rows.heapCutsSpec) (by kernel_rfl) started (by kernel_rfl) Try.func6
    (ChangeSpec.witness6 (enc:=enc) (C:=Try.checked) false ⟨#[],#[.agg #[.slice none 0 0,.slice none 0 0]],[]⟩ 64 (by kernel_rfl) (by kernel_rfl) (by kernel_rfl) (by kernel_rfl)) ?_
  intro W base args ds gs before hval hW _ hz _
  exact LW hlaw H enc W base args ds gs before hval hW hz
theorem heapCuts_said (hlaw:∀ (x0:api_Heap),okr_api_Heap x0→eK x0 = some true):Rows.HeapCutsSaid :=
  OpenClaim.holds_of_wide 6 Try.f6 rfl rfl rfl rfl rfl rfl rfl ⟨rfl,rfl,rfl,rfl,rfl⟩ rfl rfl rfl rfl rfl (by kernel_rfl) Try.func6 (by kernel_rfl)
    (of_decide_eq_true (by kernel_rfl)) (by unfold Func.isWrapper; first | (rw [if_pos (by decide +kernel)]; kernel_rfl) | (rw [if_neg (by decide +kernel)]; exact ⟨rfl,rfl⟩))
    (fun os started H enc _=>O0 hlaw os started H enc)
end Go.VM
