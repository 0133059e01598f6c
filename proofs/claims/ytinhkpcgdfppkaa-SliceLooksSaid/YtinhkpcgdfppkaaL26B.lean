/- From the law on lists and numbers to the statement. -/
import Derived.Test.YtinhkpcgdfppkaaL261
import Derived.JoinedOf
import Derived.SizedLaws
namespace Go.VM
open Go.Proofs Go.Proofs.Ytinhkpcgdfppkaa
open Go.ChangeShapes Go.WideShapes Go.ChangeAt Go.RowKit
def okr_api_Slice (x : api_Slice) : Prop := inI .i64 x.fThread ∧ inI .i64 x.fParent ∧ inI .i64 x.fDepth ∧ ByteArray.size x.fName ≤ reachBytes ∧ inI .i64 x.fSpan.fFrom ∧ inI .i64 x.fSpan.fTo ∧ inI .i64 x.fSelf ∧ True
theorem exr_api_Slice (ts : List T) (h : WTs [.int .i64, .int .i64, .int .i64, .str, .int .i64, .int .i64, .int .i64, .bool] ts) : ∃ x : api_Slice, t_api_Slice x = ts ∧ okr_api_Slice x := by
  obtain ⟨t0, r0, rfl, h0, h⟩ := h.inv
  obtain ⟨t1, r1, rfl, h1, h⟩ := h.inv
  obtain ⟨t2, r2, rfl, h2, h⟩ := h.inv
  obtain ⟨t3, r3, rfl, h3, h⟩ := h.inv
  obtain ⟨t4, r4, rfl, h4, h⟩ := h.inv
  obtain ⟨t5, r5, rfl, h5, h⟩ := h.inv
  obtain ⟨t6, r6, rfl, h6, h⟩ := h.inv
  obtain ⟨t7, r7, rfl, h7, h⟩ := h.inv
  obtain rfl := h.inv0
  obtain ⟨y0, rfl, k0⟩ := ex_int h0
  obtain ⟨y1, rfl, k1⟩ := ex_int h1
  obtain ⟨y2, rfl, k2⟩ := ex_int h2
  obtain ⟨y3, rfl, k3⟩ := ex_str h3
  obtain ⟨y4, rfl, k4⟩ := ex_int h4
  obtain ⟨y5, rfl, k5⟩ := ex_int h5
  obtain ⟨y6, rfl, k6⟩ := ex_int h6
  obtain ⟨y7, rfl, k7⟩ := ex_bool h7
  exact ⟨({ fThread := y0, fParent := y1, fDepth := y2, fName := y3, fSpan := ({ fFrom := y4, fTo := y5 } : api_Span), fSelf := y6, fOpen := y7 } : api_Slice), rfl, k0, k1, k2, k3, k4, k5, k6, k7⟩
def okr_L_api_Slice (x : (List api_Slice)) : Prop := okL okr_api_Slice x
theorem exr_L_api_Slice (ts : List T) (h : WTs [.sl [.int .i64, .int .i64, .int .i64, .str, .int .i64, .int .i64, .int .i64, .bool]] ts) : ∃ x : (List api_Slice), t_L_api_Slice x = ts ∧ okr_L_api_Slice x := by
  obtain ⟨t0, r0, rfl, h0, h⟩ := h.inv
  obtain rfl := h.inv0
  obtain ⟨y0, rfl, k0⟩ := ex_list exr_api_Slice h0
  exact ⟨y0, rfl, k0⟩
def okr_i64 (x : Int) : Prop := inI .i64 x
theorem exr_i64 (ts : List T) (h : WTs [.int .i64] ts) : ∃ x : Int, t_i64 x = ts ∧ okr_i64 x := by
  obtain ⟨t0, r0, rfl, h0, h⟩ := h.inv
  obtain rfl := h.inv0
  obtain ⟨y0, rfl, k0⟩ := ex_int h0
  exact ⟨y0, rfl, k0⟩
set_option maxRecDepth 100000 in
theorem sliceLooks_contract (hlaw : ∀ (x0 : (List api_Slice)) (x1 : Int) (x2 : Int) (x3 : Int), okr_L_api_Slice x0 → okr_i64 x1 → okr_i64 x2 → okr_i64 x3 → tracebooklaw26_SliceLooks x0 x1 x2 x3 = some true) (H : Type) (enc : TypeId × Value → H) (W : World) (base : Nat) (args : Array Value) (ds gs : List (DataW H)) (before : List MemPlace)
    (hval : ∀ (j : Nat) t v, Try.f6.params[j]? = some t → args[j]? = some v → Value.okWide Try.prog W .any base t v)
    (hW : DataW.Whole enc Try.prog Try.f6.params.toList Rows.sliceLooksSpec.vars false W args.toList ds gs before)
    (hz : (DataW.weightsEach Try.prog (Try.f6.params.toList ++ Rows.sliceLooksSpec.plain.varTypes Try.prog) (ds ++ gs)).all (· ≤ reachBytes) = true) :
    Calls Try.prog 6 args W fun e W' => ∃ v, e = .returned v ∧ Rows.sliceLooksSpec.post enc Try.prog Try.f6 false true false false W args v W' := by
  refine law_calls (n := 64) (ts := [25, 3, 3, 3]) (tb := 4) (shs := [[.sl [.int .i64, .int .i64, .int .i64, .str, .int .i64, .int .i64, .int .i64, .bool]], [.int .i64], [.int .i64], [.int .i64]]) (bs := [false, false, false, false]) (by kernel_rfl) (by kernel_rfl) (by kernel_rfl) rfl (by kernel_rfl) (by kernel_rfl) (fun ds h => ?_) (by kernel_rfl) (by kernel_rfl) (fresh := true) (fun tss h => ?_) hval hW hz
  · match ds, h with
    | [_, _, _, _], _ => exact ⟨rfl, rfl, rfl⟩
  · match tss, h with
    | [t0, t1, t2, t3], ⟨h0, h1, h2, h3, _⟩ =>
      obtain ⟨x0, rfl, k0⟩ := exr_L_api_Slice t0 h0
      obtain ⟨x1, rfl, k1⟩ := exr_i64 t1 h1
      obtain ⟨x2, rfl, k2⟩ := exr_i64 t2 h2
      obtain ⟨x3, rfl, k3⟩ := exr_i64 t3 h3
      exact tracebooklaw26_SliceLooks_fun x0 x1 x2 x3 true (hlaw x0 x1 x2 x3 k0 k1 k2 k3)
set_option maxRecDepth 100000 in
theorem sliceLooks_lifted (hlaw : ∀ (x0 : (List api_Slice)) (x1 : Int) (x2 : Int) (x3 : Int), okr_L_api_Slice x0 → okr_i64 x1 → okr_i64 x2 → okr_i64 x3 → tracebooklaw26_SliceLooks x0 x1 x2 x3 = some true) (os : Os) (started : os.Started) (H : Type) (enc : TypeId × Value → H) :
    ReturnsInHanded {} Try.checked os 6 .any (Rows.sliceLooksSpec.pre6 enc Try.prog Try.f6 Rows.sliceLooksRow.domain false) (Rows.sliceLooksSpec.post enc Try.prog Try.f6 false true false false) := by
  refine returnsInHanded_of_change_sized (C := Try.checked) (s := Rows.sliceLooksSpec) (by kernel_rfl) started (by kernel_rfl) Try.func6
    (ChangeSpec.witness6 (enc := enc) (C := Try.checked) false ⟨#[], #[.slice none 0 0, .int .i64 0, .int .i64 0, .int .i64 0], []⟩ 64 (by kernel_rfl) (by kernel_rfl) (by kernel_rfl) (by kernel_rfl)) ?_
  intro W base args ds gs before hval hW _ hz _
  exact sliceLooks_contract hlaw H enc W base args ds gs before hval hW hz
theorem sliceLooks_said (hlaw : ∀ (x0 : (List api_Slice)) (x1 : Int) (x2 : Int) (x3 : Int), okr_L_api_Slice x0 → okr_i64 x1 → okr_i64 x2 → okr_i64 x3 → tracebooklaw26_SliceLooks x0 x1 x2 x3 = some true) : Rows.SliceLooksSaid :=
  OpenClaim.holds_of_wide 6 Try.f6 rfl rfl rfl rfl rfl rfl rfl ⟨rfl, rfl, rfl, rfl, rfl⟩ rfl rfl rfl rfl rfl (by kernel_rfl) Try.func6 (by kernel_rfl)
    (of_decide_eq_true (by kernel_rfl)) (by unfold Func.isWrapper; first | (rw [if_pos (by decide +kernel)]; kernel_rfl) | (rw [if_neg (by decide +kernel)]; exact ⟨rfl, rfl⟩))
    (fun os started H enc _ => sliceLooks_lifted hlaw os started H enc)
end Go.VM
