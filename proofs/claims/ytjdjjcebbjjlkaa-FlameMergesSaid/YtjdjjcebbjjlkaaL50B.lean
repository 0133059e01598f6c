/- From the law on lists and numbers to the statement. -/
import Derived.Test.YtjdjjcebbjjlkaaL501
import Derived.JoinedOf
import Derived.SizedLaws
namespace Go.VM
open Go.Proofs Go.Proofs.Ytjdjjcebbjjlkaa
open Go.ChangeShapes Go.WideShapes Go.ChangeAt Go.RowKit
def OX (x:ax):Prop:=inI .i64 x.fParent∧ByteArray.size x.fName≤reachBytes∧inI .i64 x.fSelf∧inI .i64 x.fTotal∧inI .i64 x.fCount
theorem abQ (ts:List T) (h:WTs [.int .i64,.str,.int .i64,.int .i64,.int .i64] ts):∃ x:ax,az x = ts∧OX x:=by
  obtain ⟨t0,r0,rfl,h0,h⟩:=h.inv
  obtain ⟨t1,r1,rfl,h1,h⟩:=h.inv
  obtain ⟨t2,r2,rfl,h2,h⟩:=h.inv
  obtain ⟨t3,r3,rfl,h3,h⟩:=h.inv
  obtain ⟨t4,r4,rfl,h4,h⟩:=h.inv
  obtain rfl:=h.inv0
  obtain ⟨y0,rfl,k0⟩:=abK h0
  obtain ⟨y1,rfl,k1⟩:=aSz h1
  obtain ⟨y2,rfl,k2⟩:=abK h2
  obtain ⟨y3,rfl,k3⟩:=abK h3
  obtain ⟨y4,rfl,k4⟩:=abK h4
  exact ⟨({ fParent:=y0,fName:=y1,fSelf:=y2,fTotal:=y3,fCount:=y4 }:ax),rfl,k0,k1,k2,k3,k4⟩
def gY (x:(List ax)):Prop:=okL OX x
theorem H2 (ts:List T) (h:WTs [.sl [.int .i64,.str,.int .i64,.int .i64,.int .i64]] ts):∃ x:(List ax),acJ x = ts∧gY x:=by
  obtain ⟨t0,r0,rfl,h0,h⟩:=h.inv
  obtain rfl:=h.inv0
  obtain ⟨y0,rfl,k0⟩:=aLQ abQ h0
  exact ⟨y0,rfl,k0⟩
set_option maxRecDepth 100000 in
theorem GY (hlaw:∀ (x0:(List ax)) (x1:(List ax)),gY x0→gY x1→cj x0 x1 = some true) (H:Type) (enc:TypeId × Value→H) (W:World) (base:Nat) (args:Array Value) (ds gs:List (DataW H)) (before:List MemPlace)
    (hval:∀ (j:Nat) t v,Try.f6.params[j]? = some t→args[j]? = some v→Value.okWide Try.prog W .any base t v)
    (hW:DataW.Whole enc Try.prog Try.f6.params.toList Rows.flameMergesSpec.vars false W args.toList ds gs before)
    (hz:(DataW.weightsEach Try.prog (Try.f6.params.toList++Rows.flameMergesSpec.plain.varTypes Try.prog) (ds++gs)).all (·≤reachBytes) = true) :
    Calls Try.prog 6 args W fun e W'=>∃ v,e = .returned v∧Rows.flameMergesSpec.post enc Try.prog Try.f6 false true false false W args v W':=by
  refine axX (n:=64) (ts:=[25,25]) (tb:=4) (shs:=[[.sl [.int .i64,.str,.int .i64,.int .i64,.int .i64]],[.sl [.int .i64,.str,.int .i64,.int .i64,.int .i64]]]) (bs:=[false,false]) (by kernel_rfl) (by kernel_rfl) (by kernel_rfl) rfl (by kernel_rfl) (by kernel_rfl) (fun ds h=>?_) (by kernel_rfl) (by kernel_rfl) (fresh:=true) (fun tss h=>?_) hval hW hz
  · match ds,h with
    | [_,_],_=>exact ⟨rfl,rfl,rfl⟩
  · match tss,h with
    | [t0,t1],⟨h0,h1,_⟩ =>
      obtain ⟨x0,rfl,k0⟩:=H2 t0 h0
      obtain ⟨x1,rfl,k1⟩:=H2 t1 h1
      exact wq x0 x1 true (hlaw x0 x1 k0 k1)
set_option maxRecDepth 100000 in
theorem L9 (hlaw:∀ (x0:(List ax)) (x1:(List ax)),gY x0→gY x1→cj x0 x1 = some true) (os:Os) (started:os.Started) (H:Type) (enc:TypeId × Value→H) :
    ReturnsInHanded {} Try.checked os 6 .any (Rows.flameMergesSpec.pre6 enc Try.prog Try.f6 Rows.flameMergesRow.domain false) (Rows.flameMergesSpec.post enc Try.prog Try.f6 false true false false):=by
  refine returnsInHanded_of_change_sized (C:=Try.checked) (s:=Rows.flameMergesSpec) (by kernel_rfl) started (by kernel_rfl) Try.func6
    (ChangeSpec.witness6 (enc:=enc) (C:=Try.checked) false ⟨#[],#[.slice none 0 0,.slice none 0 0],[]⟩ 64 (by kernel_rfl) (by kernel_rfl) (by kernel_rfl) (by kernel_rfl)) ?_
  intro W base args ds gs before hval hW _ hz _
  exact GY hlaw H enc W base args ds gs before hval hW hz
theorem flameMerges_said (hlaw:∀ (x0:(List ax)) (x1:(List ax)),gY x0→gY x1→cj x0 x1 = some true):Rows.FlameMergesSaid :=
  OpenClaim.holds_of_wide 6 Try.f6 rfl rfl rfl rfl rfl rfl rfl ⟨rfl,rfl,rfl,rfl,rfl⟩ rfl rfl rfl rfl rfl (by kernel_rfl) Try.func6 (by kernel_rfl)
    (of_decide_eq_true (by kernel_rfl)) (by unfold Func.isWrapper; first | (rw [if_pos (by decide +kernel)]; kernel_rfl) | (rw [if_neg (by decide +kernel)]; exact ⟨rfl,rfl⟩))
    (fun os started H enc _=>L9 hlaw os started H enc)
end Go.VM
