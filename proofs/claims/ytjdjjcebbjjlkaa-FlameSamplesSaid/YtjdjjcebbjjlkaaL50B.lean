/- From the law on lists and numbers to the statement. -/
import Derived.Test.YtjdjjcebbjjlkaaL501
import Derived.JoinedOf
import Derived.SizedLaws
namespace Go.VM
open Go.Proofs Go.Proofs.Ytjdjjcebbjjlkaa
open Go.ChangeShapes Go.WideShapes Go.ChangeAt Go.RowKit
def arW (x:ByteArray):Prop:=ByteArray.size x≤reachBytes
theorem aJj (ts:List T) (h:WTs [.str] ts):∃ x:ByteArray,dV x = ts∧arW x:=by
  obtain ⟨t0,r0,rfl,h0,h⟩:=h.inv
  obtain rfl:=h.inv0
  obtain ⟨y0,rfl,k0⟩:=aQQ h0
  exact ⟨y0,rfl,k0⟩
def Hz (x:aW):Prop:=inI .i64 x.fThread∧inI .i64 x.fAt∧inI .i64 x.fWeight∧okL arW x.fStack
theorem T4 (ts:List T) (h:WTs [.int .i64,.int .i64,.int .i64,.sl [.str]] ts):∃ x:aW,aY x = ts∧Hz x:=by
  obtain ⟨t0,r0,rfl,h0,h⟩:=h.inv
  obtain ⟨t1,r1,rfl,h1,h⟩:=h.inv
  obtain ⟨t2,r2,rfl,h2,h⟩:=h.inv
  obtain ⟨t3,r3,rfl,h3,h⟩:=h.inv
  obtain rfl:=h.inv0
  obtain ⟨y0,rfl,k0⟩:=aoj h0
  obtain ⟨y1,rfl,k1⟩:=aoj h1
  obtain ⟨y2,rfl,k2⟩:=aoj h2
  obtain ⟨y3,rfl,k3⟩:=arz aJj h3
  exact ⟨({ fThread:=y0,fAt:=y1,fWeight:=y2,fStack:=y3 }:aW),rfl,k0,k1,k2,k3⟩
def iz (x:(List aW)):Prop:=okL Hz x
theorem P2 (ts:List T) (h:WTs [.sl [.int .i64,.int .i64,.int .i64,.sl [.str]]] ts):∃ x:(List aW),TQ x = ts∧iz x:=by
  obtain ⟨t0,r0,rfl,h0,h⟩:=h.inv
  obtain rfl:=h.inv0
  obtain ⟨y0,rfl,k0⟩:=arz T4 h0
  exact ⟨y0,rfl,k0⟩
set_option maxRecDepth 100000 in
theorem Gx (hlaw:∀ (x0:(List aW)),iz x0→bW x0 = some true) (H:Type) (enc:TypeId × Value→H) (W:World) (base:Nat) (args:Array Value) (ds gs:List (DataW H)) (before:List MemPlace)
    (hval:∀ (j:Nat) t v,Try.f3.params[j]? = some t→args[j]? = some v→Value.okWide Try.prog W .any base t v)
    (hW:DataW.Whole enc Try.prog Try.f3.params.toList Rows.flameSamplesSpec.vars false W args.toList ds gs before)
    (hz:(DataW.weightsEach Try.prog (Try.f3.params.toList++Rows.flameSamplesSpec.plain.varTypes Try.prog) (ds++gs)).all (·≤reachBytes) = true) :
    Calls Try.prog 3 args W fun e W'=>∃ v,e = .returned v∧Rows.flameSamplesSpec.post enc Try.prog Try.f3 false true false false W args v W':=by
  refine atY (n:=64) (ts:=[22]) (tb:=4) (shs:=[[.sl [.int .i64,.int .i64,.int .i64,.sl [.str]]]]) (bs:=[false]) (by kernel_rfl) (by kernel_rfl) (by kernel_rfl) rfl (by kernel_rfl) (by kernel_rfl) (fun ds h=>?_) (by kernel_rfl) (by kernel_rfl) (fresh:=true) (fun tss h=>?_) hval hW hz
  · match ds,h with
    | [_],_=>exact ⟨rfl,rfl,rfl⟩
  · match tss,h with
    | [t0],⟨h0,_⟩ =>
      obtain ⟨x0,rfl,k0⟩:=P2 t0 h0
      exact uK x0 true (hlaw x0 k0)
set_option maxRecDepth 100000 in
theorem JY (hlaw:∀ (x0:(List aW)),iz x0→bW x0 = some true) (os:Os) (started:os.Started) (H:Type) (enc:TypeId × Value→H) :
    ReturnsInHanded {} Try.checked os 3 .any (Rows.flameSamplesSpec.pre6 enc Try.prog Try.f3 Rows.flameSamplesRow.domain false) (Rows.flameSamplesSpec.post enc Try.prog Try.f3 false true false false):=by
  refine returnsInHanded_of_change_sized (C:=Try.checked) (s:=Rows.flameSamplesSpec) (by kernel_rfl) started (by kernel_rfl) Try.func3
    (ChangeSpec.witness6 (enc:=enc) (C:=Try.checked) false ⟨#[],#[.slice none 0 0],[]⟩ 64 (by kernel_rfl) (by kernel_rfl) (by kernel_rfl) (by kernel_rfl)) ?_
  intro W base args ds gs before hval hW _ hz _
  exact Gx hlaw H enc W base args ds gs before hval hW hz
theorem flameSamples_said (hlaw:∀ (x0:(List aW)),iz x0→bW x0 = some true):Rows.FlameSamplesSaid :=
  OpenClaim.holds_of_wide 3 Try.f3 rfl rfl rfl rfl rfl rfl rfl ⟨rfl,rfl,rfl,rfl,rfl⟩ rfl rfl rfl rfl rfl (by kernel_rfl) Try.func3 (by kernel_rfl)
    (of_decide_eq_true (by kernel_rfl)) (by unfold Func.isWrapper; first | (rw [if_pos (by decide +kernel)]; kernel_rfl) | (rw [if_neg (by decide +kernel)]; exact ⟨rfl,rfl⟩))
    (fun os started H enc _=>JY hlaw os started H enc)
end Go.VM
