/- From the law on lists and numbers to the statement. -/
import Derived.Test.YtjdjjcebbjjlkaaL501
import Derived.JoinedOf
import Derived.SizedLaws
namespace Go.VM
open Go.Proofs Go.Proofs.Ytjdjjcebbjjlkaa
open Go.ChangeShapes Go.WideShapes Go.ChangeAt Go.RowKit
def azZ (x:ByteArray):Prop:=ByteArray.size x≤reachBytes
theorem aQK (ts:List T) (h:WTs [.str] ts):∃ x:ByteArray,d7 x = ts∧azZ x:=by
  obtain ⟨t0,r0,rfl,h0,h⟩:=h.inv
  obtain rfl:=h.inv0
  obtain ⟨y0,rfl,k0⟩:=aVZ h0
  exact ⟨y0,rfl,k0⟩
def J4 (x:aK):Prop:=inI .i64 x.fThread∧inI .i64 x.fAt∧inI .i64 x.fWeight∧okL azZ x.fStack
theorem XV (ts:List T) (h:WTs [.int .i64,.int .i64,.int .i64,.sl [.str]] ts):∃ x:aK,aV x = ts∧J4 x:=by
  obtain ⟨t0,r0,rfl,h0,h⟩:=h.inv
  obtain ⟨t1,r1,rfl,h1,h⟩:=h.inv
  obtain ⟨t2,r2,rfl,h2,h⟩:=h.inv
  obtain ⟨t3,r3,rfl,h3,h⟩:=h.inv
  obtain rfl:=h.inv0
  obtain ⟨y0,rfl,k0⟩:=arW h0
  obtain ⟨y1,rfl,k1⟩:=arW h1
  obtain ⟨y2,rfl,k2⟩:=arW h2
  obtain ⟨y3,rfl,k3⟩:=awX aQK h3
  exact ⟨({ fThread:=y0,fAt:=y1,fWeight:=y2,fStack:=y3 }:aK),rfl,k0,k1,k2,k3⟩
def fK (x:(List aK)):Prop:=okL J4 x
theorem EW (ts:List T) (h:WTs [.sl [.int .i64,.int .i64,.int .i64,.sl [.str]]] ts):∃ x:(List aK),Wx x = ts∧fK x:=by
  obtain ⟨t0,r0,rfl,h0,h⟩:=h.inv
  obtain rfl:=h.inv0
  obtain ⟨y0,rfl,k0⟩:=awX XV h0
  exact ⟨y0,rfl,k0⟩
set_option maxRecDepth 100000 in
theorem Lj (hlaw:∀ (x0:(List aK)) (x1:(List aK)),fK x0→fK x1→dq x0 x1 = some true) (H:Type) (enc:TypeId × Value→H) (W:World) (base:Nat) (args:Array Value) (ds gs:List (DataW H)) (before:List MemPlace)
    (hval:∀ (j:Nat) t v,Try.f7.params[j]? = some t→args[j]? = some v→Value.okWide Try.prog W .any base t v)
    (hW:DataW.Whole enc Try.prog Try.f7.params.toList Rows.flamePartsSpec.vars false W args.toList ds gs before)
    (hz:(DataW.weightsEach Try.prog (Try.f7.params.toList++Rows.flamePartsSpec.plain.varTypes Try.prog) (ds++gs)).all (·≤reachBytes) = true) :
    Calls Try.prog 7 args W fun e W'=>∃ v,e = .returned v∧Rows.flamePartsSpec.post enc Try.prog Try.f7 false true false false W args v W':=by
  refine aCY (n:=64) (ts:=[22,22]) (tb:=4) (shs:=[[.sl [.int .i64,.int .i64,.int .i64,.sl [.str]]],[.sl [.int .i64,.int .i64,.int .i64,.sl [.str]]]]) (bs:=[false,false]) (by kernel_rfl) (by kernel_rfl) (by kernel_rfl) rfl (by kernel_rfl) (by kernel_rfl) (fun ds h=>?_) (by kernel_rfl) (by kernel_rfl) (fresh:=true) (fun tss h=>?_) hval hW hz
  · match ds,h with
    | [_,_],_=>exact ⟨rfl,rfl,rfl⟩
  · match tss,h with
    | [t0,t1],⟨h0,h1,_⟩ =>
      obtain ⟨x0,rfl,k0⟩:=EW t0 h0
      obtain ⟨x1,rfl,k1⟩:=EW t1 h1
      exact x7 x0 x1 true (hlaw x0 x1 k0 k1)
set_option maxRecDepth 100000 in
theorem PX (hlaw:∀ (x0:(List aK)) (x1:(List aK)),fK x0→fK x1→dq x0 x1 = some true) (os:Os) (started:os.Started) (H:Type) (enc:TypeId × Value→H) :
    ReturnsInHanded {} Try.checked os 7 .any (Rows.flamePartsSpec.pre6 enc Try.prog Try.f7 Rows.flamePartsRow.domain false) (Rows.flamePartsSpec.post enc Try.prog Try.f7 false true false false):=by
  refine returnsInHanded_of_change_sized (C:=Try.checked) (s:=Rows.flamePartsSpec) (by kernel_rfl) started (by kernel_rfl) Try.func7
    (ChangeSpec.witness6 (enc:=enc) (C:=Try.checked) false ⟨#[],#[.slice none 0 0,.slice none 0 0],[]⟩ 64 (by kernel_rfl) (by kernel_rfl) (by kernel_rfl) (by kernel_rfl)) ?_
  intro W base args ds gs before hval hW _ hz _
  exact Lj hlaw H enc W base args ds gs before hval hW hz
theorem flameParts_said (hlaw:∀ (x0:(List aK)) (x1:(List aK)),fK x0→fK x1→dq x0 x1 = some true):Rows.FlamePartsSaid :=
  OpenClaim.holds_of_wide 7 Try.f7 rfl rfl rfl rfl rfl rfl rfl ⟨rfl,rfl,rfl,rfl,rfl⟩ rfl rfl rfl rfl rfl (by kernel_rfl) Try.func7 (by kernel_rfl)
    (of_decide_eq_true (by kernel_rfl)) (by unfold Func.isWrapper; first | (rw [if_pos (by decide +kernel)]; kernel_rfl) | (rw [if_neg (by decide +kernel)]; exact ⟨rfl,rfl⟩))
    (fun os started H enc _=>PX hlaw os started H enc)
end Go.VM
