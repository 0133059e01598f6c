/- From the law on lists and numbers to the statement. -/
import Derived.Test.YtliccamocpglcaaL511
import Derived.JoinedOf
import Derived.SizedLaws
namespace Go.VM
open Go.Proofs Go.Proofs.Ytliccamocpglcaa
open Go.ChangeShapes Go.WideShapes Go.ChangeAt Go.RowKit
def Y7 (x:Int):Prop:=inI .i64 x
theorem atz (ts:List T) (h:WTs [.int .i64] ts):∃ x:Int,aY x = ts∧Y7 x:=by
  obtain ⟨t0,r0,rfl,h0,h⟩:=h.inv
  obtain rfl:=h.inv0
  obtain ⟨y0,rfl,k0⟩:=anj h0
  exact ⟨y0,rfl,k0⟩
def GJ (x:bY):Prop:=inI .i64 x.fId∧inI .i64 x.fSize∧ByteArray.size x.fType≤reachBytes∧okL Y7 x.fRefs
theorem SK (ts:List T) (h:WTs [.int .i64,.int .i64,.str,.sl [.int .i64]] ts):∃ x:bY,ax x = ts∧GJ x:=by
  obtain ⟨t0,r0,rfl,h0,h⟩:=h.inv
  obtain ⟨t1,r1,rfl,h1,h⟩:=h.inv
  obtain ⟨t2,r2,rfl,h2,h⟩:=h.inv
  obtain ⟨t3,r3,rfl,h3,h⟩:=h.inv
  obtain rfl:=h.inv0
  obtain ⟨y0,rfl,k0⟩:=anj h0
  obtain ⟨y1,rfl,k1⟩:=anj h1
  obtain ⟨y2,rfl,k2⟩:=aTJ h2
  obtain ⟨y3,rfl,k3⟩:=Z4 atz h3
  exact ⟨({ fId:=y0,fSize:=y1,fType:=y2,fRefs:=y3 }:bY),rfl,k0,k1,k2,k3⟩
def okr_api_Heap (x:api_Heap):Prop:=okL GJ x.fObjects∧okL Y7 x.fRoots
theorem abj (ts:List T) (h:WTs [.sl [.int .i64,.int .i64,.str,.sl [.int .i64]],.sl [.int .i64]] ts):∃ x:api_Heap,alq x = ts∧okr_api_Heap x:=by
  obtain ⟨t0,r0,rfl,h0,h⟩:=h.inv
  obtain ⟨t1,r1,rfl,h1,h⟩:=h.inv
  obtain rfl:=h.inv0
  obtain ⟨y0,rfl,k0⟩:=Z4 SK h0
  obtain ⟨y1,rfl,k1⟩:=Z4 atz h1
  exact ⟨({ fObjects:=y0,fRoots:=y1 }:api_Heap),rfl,k0,k1⟩
set_option maxRecDepth 100000 in
theorem Hq (hlaw:∀ (x0:api_Heap),okr_api_Heap x0→eQ x0 = some true) (H:Type) (enc:TypeId × Value→H) (W:World) (base:Nat) (args:Array Value) (ds gs:List (DataW H)) (before:List MemPlace)
    (hval:∀ (j:Nat) t v,Try.f7.params[j]? = some t→args[j]? = some v→Value.okWide Try.prog W .any base t v)
    (hW:DataW.Whole enc Try.prog Try.f7.params.toList Rows.heapRetainsSpec.vars false W args.toList ds gs before)
    (hz:(DataW.weightsEach Try.prog (Try.f7.params.toList++Rows.heapRetainsSpec.plain.varTypes Try.prog) (ds++gs)).all (·≤reachBytes) = true) :
    Calls Try.prog 7 args W fun e W'=>∃ v,e = .returned v∧Rows.heapRetainsSpec.post enc Try.prog Try.f7 false true false false W args v W':=by
  refine avW (n:=64) (ts:=[25]) (tb:=4) (shs:=[[.sl [.int .i64,.int .i64,.str,.sl [.int .i64]],.sl [.int .i64]]]) (bs:=[true]) (by kernel_rfl) (by kernel_rfl) (by kernel_rfl) rfl (by kernel_rfl) (by kernel_rfl) (fun ds h=>?_) (by kernel_rfl) (by kernel_rfl) (fresh:=true) (fun tss h=>?_) hval hW hz
  · match ds,h with
    | [_],_=>exact ⟨rfl,rfl,rfl⟩
  · match tss,h with
    | [t0],⟨h0,_⟩ =>
      obtain ⟨x0,rfl,k0⟩:=abj t0 h0
      exact x9 x0 true (hlaw x0 k0)
set_option maxRecDepth 100000 in
theorem J3 (hlaw:∀ (x0:api_Heap),okr_api_Heap x0→eQ x0 = some true) (os:Os) (started:os.Started) (H:Type) (enc:TypeId × Value→H) :
    ReturnsInHanded {} Try.checked os 7 .any (Rows.heapRetainsSpec.pre6 enc Try.prog Try.f7 Rows.heapRetainsRow.domain false) (Rows.heapRetainsSpec.post enc Try.prog Try.f7 false true false false):=by
  refine returnsInHanded_of_change_sized (C:=Try.checked) (s:=Rows.heapRetainsSpec) (by kernel_rfl) started (by kernel_rfl) Try.func7
    (ChangeSpec.witness6 (enc:=enc) (C:=Try.checked) false ⟨#[],#[.agg #[.slice none 0 0,.slice none 0 0]],[]⟩ 64 (by kernel_rfl) (by kernel_rfl) (by kernel_rfl) (by kernel_rfl)) ?_
  intro W base args ds gs before hval hW _ hz _
  exact Hq hlaw H enc W base args ds gs before hval hW hz
theorem heapRetains_said (hlaw:∀ (x0:api_Heap),okr_api_Heap x0→eQ x0 = some true):Rows.HeapRetainsSaid :=
  OpenClaim.holds_of_wide 7 Try.f7 rfl rfl rfl rfl rfl rfl rfl ⟨rfl,rfl,rfl,rfl,rfl⟩ rfl rfl rfl rfl rfl (by kernel_rfl) Try.func7 (by kernel_rfl)
    (of_decide_eq_true (by kernel_rfl)) (by unfold Func.isWrapper; first | (rw [if_pos (by decide +kernel)]; kernel_rfl) | (rw [if_neg (by decide +kernel)]; exact ⟨rfl,rfl⟩))
    (fun os started H enc _=>J3 hlaw os started H enc)
end Go.VM
