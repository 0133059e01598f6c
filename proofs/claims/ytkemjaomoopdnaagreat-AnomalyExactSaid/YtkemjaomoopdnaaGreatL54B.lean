/- From the law on lists and numbers to the statement. -/
import Derived.Test.YtkemjaomoopdnaaGreatL542
import Derived.JoinedOf
import Derived.SizedLaws
namespace Go.VM
open Go.Proofs Go.Proofs.YtkemjaomoopdnaaGreat
open Go.ChangeShapes Go.WideShapes Go.ChangeAt Go.RowKit
def t_api_Trace (x : api_Trace) : List T := [tI x.fSpan.fFrom, tI x.fSpan.fTo, .sl 3 (List.map t_api_Thread x.fThreads), .sl 8 (List.map t_api_Slice x.fSlices), .sl 7 (List.map t_api_State x.fStates), .sl 7 (List.map t_api_Flow x.fFlows), .sl 4 (List.map t_api_Sample x.fSamples), .sl 3 (List.map t_api_Step x.fSteps), .sl 7 (List.map t_api_Block x.fBlocks), .sl 4 (List.map t_api_Loss x.fLost)]
def okr_api_Thread (x : api_Thread) : Prop := inI .i64 x.fId ∧ ByteArray.size x.fName ≤ reachBytes ∧ inI .i64 x.fDomain
theorem exr_api_Thread (ts : List T) (h : WTs [.int .i64, .str, .int .i64] ts) : ∃ x : api_Thread, t_api_Thread x = ts ∧ okr_api_Thread x := by
  obtain ⟨t0, r0, rfl, h0, h⟩ := h.inv
  obtain ⟨t1, r1, rfl, h1, h⟩ := h.inv
  obtain ⟨t2, r2, rfl, h2, h⟩ := h.inv
  obtain rfl := h.inv0
  obtain ⟨y0, rfl, k0⟩ := ex_int h0
  obtain ⟨y1, rfl, k1⟩ := ex_str h1
  obtain ⟨y2, rfl, k2⟩ := ex_int h2
  exact ⟨({ fId := y0, fName := y1, fDomain := y2 } : api_Thread), rfl, k0, k1, k2⟩
def okr_api_Slice (x : api_Slice) : Prop := inI .i64 x.fThread ∧ inI .i64 x.fParent ∧ inI .i64 x.fDepth ∧ ByteArray.size x.fName ≤ reachBytes ∧ inI .i64 x.fSpan.fFrom ∧ inI .i64 x.fSpan.fTo ∧ inI .i64 x.fSelf ∧ True
theorem exr_api_Slice (ts : List T) (h : WTs [.int .i64, .int .i64, .int .i64, .str, .int .i64, .int .i64, .int .i64, .bool] ts) : ∃ x : api_Slice, t_api_Slice x = ts ∧ okr_api_Slice x := by
  obtain ⟨t0, r0, rfl, h0, h⟩ := h.inv
  obtain ⟨t1, r1, rfl, h1, h⟩ := h.inv
  obtain ⟨t2, r2, rfl, h2, h⟩ := h.inv
  obtain ⟨t3, r3, rfl, h3, h⟩ := h.inv
  obtain ⟨t4, r4, rfl, h4, h⟩ := h.inv
  obtain ⟨t5, r5, rfl, h5, h⟩ := h.inv
  obtain ⟨t6, r6, rfl, h6, h⟩ := h.inv
  obtain ⟨t7, r7, rfl, h7, h⟩ := h.inv
  obtain rfl := h.inv0
  obtain ⟨y0, rfl, k0⟩ := ex_int h0
  obtain ⟨y1, rfl, k1⟩ := ex_int h1
  obtain ⟨y2, rfl, k2⟩ := ex_int h2
  obtain ⟨y3, rfl, k3⟩ := ex_str h3
  obtain ⟨y4, rfl, k4⟩ := ex_int h4
  obtain ⟨y5, rfl, k5⟩ := ex_int h5
  obtain ⟨y6, rfl, k6⟩ := ex_int h6
  obtain ⟨y7, rfl, k7⟩ := ex_bool h7
  exact ⟨({ fThread := y0, fParent := y1, fDepth := y2, fName := y3, fSpan := ({ fFrom := y4, fTo := y5 } : api_Span), fSelf := y6, fOpen := y7 } : api_Slice), rfl, k0, k1, k2, k3, k4, k5, k6, k7⟩
def okr_api_State (x : api_State) : Prop := inI .i64 x.fThread ∧ inI .i64 x.fState ∧ inI .i64 x.fSpan.fFrom ∧ inI .i64 x.fSpan.fTo ∧ inI .i64 x.fCpu ∧ inI .i64 x.fOn ∧ inI .i64 x.fBy
theorem exr_api_State (ts : List T) (h : WTs [.int .i64, .int .i64, .int .i64, .int .i64, .int .i64, .int .i64, .int .i64] ts) : ∃ x : api_State, t_api_State x = ts ∧ okr_api_State x := by
  obtain ⟨t0, r0, rfl, h0, h⟩ := h.inv
  obtain ⟨t1, r1, rfl, h1, h⟩ := h.inv
  obtain ⟨t2, r2, rfl, h2, h⟩ := h.inv
  obtain ⟨t3, r3, rfl, h3, h⟩ := h.inv
  obtain ⟨t4, r4, rfl, h4, h⟩ := h.inv
  obtain ⟨t5, r5, rfl, h5, h⟩ := h.inv
  obtain ⟨t6, r6, rfl, h6, h⟩ := h.inv
  obtain rfl := h.inv0
  obtain ⟨y0, rfl, k0⟩ := ex_int h0
  obtain ⟨y1, rfl, k1⟩ := ex_int h1
  obtain ⟨y2, rfl, k2⟩ := ex_int h2
  obtain ⟨y3, rfl, k3⟩ := ex_int h3
  obtain ⟨y4, rfl, k4⟩ := ex_int h4
  obtain ⟨y5, rfl, k5⟩ := ex_int h5
  obtain ⟨y6, rfl, k6⟩ := ex_int h6
  exact ⟨({ fThread := y0, fState := y1, fSpan := ({ fFrom := y2, fTo := y3 } : api_Span), fCpu := y4, fOn := y5, fBy := y6 } : api_State), rfl, k0, k1, k2, k3, k4, k5, k6⟩
def okr_api_Flow (x : api_Flow) : Prop := inI .i64 x.fId ∧ inI .i64 x.fFrom.fThread ∧ inI .i64 x.fFrom.fSerial ∧ inI .i64 x.fTo.fThread ∧ inI .i64 x.fTo.fSerial ∧ inI .i64 x.fSend ∧ inI .i64 x.fRecv
theorem exr_api_Flow (ts : List T) (h : WTs [.int .i64, .int .i64, .int .i64, .int .i64, .int .i64, .int .i64, .int .i64] ts) : ∃ x : api_Flow, t_api_Flow x = ts ∧ okr_api_Flow x := by
  obtain ⟨t0, r0, rfl, h0, h⟩ := h.inv
  obtain ⟨t1, r1, rfl, h1, h⟩ := h.inv
  obtain ⟨t2, r2, rfl, h2, h⟩ := h.inv
  obtain ⟨t3, r3, rfl, h3, h⟩ := h.inv
  obtain ⟨t4, r4, rfl, h4, h⟩ := h.inv
  obtain ⟨t5, r5, rfl, h5, h⟩ := h.inv
  obtain ⟨t6, r6, rfl, h6, h⟩ := h.inv
  obtain rfl := h.inv0
  obtain ⟨y0, rfl, k0⟩ := ex_int h0
  obtain ⟨y1, rfl, k1⟩ := ex_int h1
  obtain ⟨y2, rfl, k2⟩ := ex_int h2
  obtain ⟨y3, rfl, k3⟩ := ex_int h3
  obtain ⟨y4, rfl, k4⟩ := ex_int h4
  obtain ⟨y5, rfl, k5⟩ := ex_int h5
  obtain ⟨y6, rfl, k6⟩ := ex_int h6
  exact ⟨({ fId := y0, fFrom := ({ fThread := y1, fSerial := y2 } : api_Id), fTo := ({ fThread := y3, fSerial := y4 } : api_Id), fSend := y5, fRecv := y6 } : api_Flow), rfl, k0, k1, k2, k3, k4, k5, k6⟩
def okr_str (x : ByteArray) : Prop := ByteArray.size x ≤ reachBytes
theorem exr_str (ts : List T) (h : WTs [.str] ts) : ∃ x : ByteArray, t_str x = ts ∧ okr_str x := by
  obtain ⟨t0, r0, rfl, h0, h⟩ := h.inv
  obtain rfl := h.inv0
  obtain ⟨y0, rfl, k0⟩ := ex_str h0
  exact ⟨y0, rfl, k0⟩
def okr_api_Sample (x : api_Sample) : Prop := inI .i64 x.fThread ∧ inI .i64 x.fAt ∧ inI .i64 x.fWeight ∧ okL okr_str x.fStack
theorem exr_api_Sample (ts : List T) (h : WTs [.int .i64, .int .i64, .int .i64, .sl [.str]] ts) : ∃ x : api_Sample, t_api_Sample x = ts ∧ okr_api_Sample x := by
  obtain ⟨t0, r0, rfl, h0, h⟩ := h.inv
  obtain ⟨t1, r1, rfl, h1, h⟩ := h.inv
  obtain ⟨t2, r2, rfl, h2, h⟩ := h.inv
  obtain ⟨t3, r3, rfl, h3, h⟩ := h.inv
  obtain rfl := h.inv0
  obtain ⟨y0, rfl, k0⟩ := ex_int h0
  obtain ⟨y1, rfl, k1⟩ := ex_int h1
  obtain ⟨y2, rfl, k2⟩ := ex_int h2
  obtain ⟨y3, rfl, k3⟩ := ex_list exr_str h3
  exact ⟨({ fThread := y0, fAt := y1, fWeight := y2, fStack := y3 } : api_Sample), rfl, k0, k1, k2, k3⟩
def okr_api_Step (x : api_Step) : Prop := ByteArray.size x.fName ≤ reachBytes ∧ inI .i64 x.fAt ∧ inI .i64 x.fValue
theorem exr_api_Step (ts : List T) (h : WTs [.str, .int .i64, .int .i64] ts) : ∃ x : api_Step, t_api_Step x = ts ∧ okr_api_Step x := by
  obtain ⟨t0, r0, rfl, h0, h⟩ := h.inv
  obtain ⟨t1, r1, rfl, h1, h⟩ := h.inv
  obtain ⟨t2, r2, rfl, h2, h⟩ := h.inv
  obtain rfl := h.inv0
  obtain ⟨y0, rfl, k0⟩ := ex_str h0
  obtain ⟨y1, rfl, k1⟩ := ex_int h1
  obtain ⟨y2, rfl, k2⟩ := ex_int h2
  exact ⟨({ fName := y0, fAt := y1, fValue := y2 } : api_Step), rfl, k0, k1, k2⟩
def okr_api_Block (x : api_Block) : Prop := inI .i64 x.fId ∧ inI .i64 x.fThread ∧ inI .i64 x.fSize ∧ inI .i64 x.fSpan.fFrom ∧ inI .i64 x.fSpan.fTo ∧ okL okr_str x.fStack ∧ True
theorem exr_api_Block (ts : List T) (h : WTs [.int .i64, .int .i64, .int .i64, .int .i64, .int .i64, .sl [.str], .bool] ts) : ∃ x : api_Block, t_api_Block x = ts ∧ okr_api_Block x := by
  obtain ⟨t0, r0, rfl, h0, h⟩ := h.inv
  obtain ⟨t1, r1, rfl, h1, h⟩ := h.inv
  obtain ⟨t2, r2, rfl, h2, h⟩ := h.inv
  obtain ⟨t3, r3, rfl, h3, h⟩ := h.inv
  obtain ⟨t4, r4, rfl, h4, h⟩ := h.inv
  obtain ⟨t5, r5, rfl, h5, h⟩ := h.inv
  obtain ⟨t6, r6, rfl, h6, h⟩ := h.inv
  obtain rfl := h.inv0
  obtain ⟨y0, rfl, k0⟩ := ex_int h0
  obtain ⟨y1, rfl, k1⟩ := ex_int h1
  obtain ⟨y2, rfl, k2⟩ := ex_int h2
  obtain ⟨y3, rfl, k3⟩ := ex_int h3
  obtain ⟨y4, rfl, k4⟩ := ex_int h4
  obtain ⟨y5, rfl, k5⟩ := ex_list exr_str h5
  obtain ⟨y6, rfl, k6⟩ := ex_bool h6
  exact ⟨({ fId := y0, fThread := y1, fSize := y2, fSpan := ({ fFrom := y3, fTo := y4 } : api_Span), fStack := y5, fLive := y6 } : api_Block), rfl, k0, k1, k2, k3, k4, k5, k6⟩
def okr_api_Loss (x : api_Loss) : Prop := inI .i64 x.fThread ∧ inI .i64 x.fSpan.fFrom ∧ inI .i64 x.fSpan.fTo ∧ inI .i64 x.fCount
theorem exr_api_Loss (ts : List T) (h : WTs [.int .i64, .int .i64, .int .i64, .int .i64] ts) : ∃ x : api_Loss, t_api_Loss x = ts ∧ okr_api_Loss x := by
  obtain ⟨t0, r0, rfl, h0, h⟩ := h.inv
  obtain ⟨t1, r1, rfl, h1, h⟩ := h.inv
  obtain ⟨t2, r2, rfl, h2, h⟩ := h.inv
  obtain ⟨t3, r3, rfl, h3, h⟩ := h.inv
  obtain rfl := h.inv0
  obtain ⟨y0, rfl, k0⟩ := ex_int h0
  obtain ⟨y1, rfl, k1⟩ := ex_int h1
  obtain ⟨y2, rfl, k2⟩ := ex_int h2
  obtain ⟨y3, rfl, k3⟩ := ex_int h3
  exact ⟨({ fThread := y0, fSpan := ({ fFrom := y1, fTo := y2 } : api_Span), fCount := y3 } : api_Loss), rfl, k0, k1, k2, k3⟩
def okr_api_Trace (x : api_Trace) : Prop := inI .i64 x.fSpan.fFrom ∧ inI .i64 x.fSpan.fTo ∧ okL okr_api_Thread x.fThreads ∧ okL okr_api_Slice x.fSlices ∧ okL okr_api_State x.fStates ∧ okL okr_api_Flow x.fFlows ∧ okL okr_api_Sample x.fSamples ∧ okL okr_api_Step x.fSteps ∧ okL okr_api_Block x.fBlocks ∧ okL okr_api_Loss x.fLost
theorem exr_api_Trace (ts : List T) (h : WTs [.int .i64, .int .i64, .sl [.int .i64, .str, .int .i64], .sl [.int .i64, .int .i64, .int .i64, .str, .int .i64, .int .i64, .int .i64, .bool], .sl [.int .i64, .int .i64, .int .i64, .int .i64, .int .i64, .int .i64, .int .i64], .sl [.int .i64, .int .i64, .int .i64, .int .i64, .int .i64, .int .i64, .int .i64], .sl [.int .i64, .int .i64, .int .i64, .sl [.str]], .sl [.str, .int .i64, .int .i64], .sl [.int .i64, .int .i64, .int .i64, .int .i64, .int .i64, .sl [.str], .bool], .sl [.int .i64, .int .i64, .int .i64, .int .i64]] ts) : ∃ x : api_Trace, t_api_Trace x = ts ∧ okr_api_Trace x := by
  obtain ⟨t0, r0, rfl, h0, h⟩ := h.inv
  obtain ⟨t1, r1, rfl, h1, h⟩ := h.inv
  obtain ⟨t2, r2, rfl, h2, h⟩ := h.inv
  obtain ⟨t3, r3, rfl, h3, h⟩ := h.inv
  obtain ⟨t4, r4, rfl, h4, h⟩ := h.inv
  obtain ⟨t5, r5, rfl, h5, h⟩ := h.inv
  obtain ⟨t6, r6, rfl, h6, h⟩ := h.inv
  obtain ⟨t7, r7, rfl, h7, h⟩ := h.inv
  obtain ⟨t8, r8, rfl, h8, h⟩ := h.inv
  obtain ⟨t9, r9, rfl, h9, h⟩ := h.inv
  obtain rfl := h.inv0
  obtain ⟨y0, rfl, k0⟩ := ex_int h0
  obtain ⟨y1, rfl, k1⟩ := ex_int h1
  obtain ⟨y2, rfl, k2⟩ := ex_list exr_api_Thread h2
  obtain ⟨y3, rfl, k3⟩ := ex_list exr_api_Slice h3
  obtain ⟨y4, rfl, k4⟩ := ex_list exr_api_State h4
  obtain ⟨y5, rfl, k5⟩ := ex_list exr_api_Flow h5
  obtain ⟨y6, rfl, k6⟩ := ex_list exr_api_Sample h6
  obtain ⟨y7, rfl, k7⟩ := ex_list exr_api_Step h7
  obtain ⟨y8, rfl, k8⟩ := ex_list exr_api_Block h8
  obtain ⟨y9, rfl, k9⟩ := ex_list exr_api_Loss h9
  exact ⟨({ fSpan := ({ fFrom := y0, fTo := y1 } : api_Span), fThreads := y2, fSlices := y3, fStates := y4, fFlows := y5, fSamples := y6, fSteps := y7, fBlocks := y8, fLost := y9 } : api_Trace), rfl, k0, k1, k2, k3, k4, k5, k6, k7, k8, k9⟩
def okr_i64 (x : Int) : Prop := inI .i64 x
theorem exr_i64 (ts : List T) (h : WTs [.int .i64] ts) : ∃ x : Int, t_i64 x = ts ∧ okr_i64 x := by
  obtain ⟨t0, r0, rfl, h0, h⟩ := h.inv
  obtain rfl := h.inv0
  obtain ⟨y0, rfl, k0⟩ := ex_int h0
  exact ⟨y0, rfl, k0⟩
set_option maxRecDepth 100000 in
theorem anomalyExact_contract (hlaw : ∀ (x0 : api_Trace) (x1 : Int) (x2 : Int), okr_api_Trace x0 → okr_i64 x1 → okr_i64 x2 → tracebooklaw54_AnomalyExact x0 x1 x2 = some true) (H : Type) (enc : TypeId × Value → H) (W : World) (base : Nat) (args : Array Value) (ds gs : List (DataW H)) (before : List MemPlace)
    (hval : ∀ (j : Nat) t v, Tryz.f7.params[j]? = some t → args[j]? = some v → Value.okWide Tryz.prog W .any base t v)
    (hW : DataW.Whole enc Tryz.prog Tryz.f7.params.toList Rows.anomalyExactSpec.vars false W args.toList ds gs before)
    (hz : (DataW.weightsEach Tryz.prog (Tryz.f7.params.toList ++ Rows.anomalyExactSpec.plain.varTypes Tryz.prog) (ds ++ gs)).all (· ≤ reachBytes) = true) :
    Calls Tryz.prog 7 args W fun e W' => ∃ v, e = .returned v ∧ Rows.anomalyExactSpec.post enc Tryz.prog Tryz.f7 false true false false W args v W' := by
  refine law_calls (n := 64) (ts := [33, 3, 3]) (tb := 4) (shs := [[.int .i64, .int .i64, .sl [.int .i64, .str, .int .i64], .sl [.int .i64, .int .i64, .int .i64, .str, .int .i64, .int .i64, .int .i64, .bool], .sl [.int .i64, .int .i64, .int .i64, .int .i64, .int .i64, .int .i64, .int .i64], .sl [.int .i64, .int .i64, .int .i64, .int .i64, .int .i64, .int .i64, .int .i64], .sl [.int .i64, .int .i64, .int .i64, .sl [.str]], .sl [.str, .int .i64, .int .i64], .sl [.int .i64, .int .i64, .int .i64, .int .i64, .int .i64, .sl [.str], .bool], .sl [.int .i64, .int .i64, .int .i64, .int .i64]], [.int .i64], [.int .i64]]) (bs := [true, false, false]) (by kernel_rfl) (by kernel_rfl) (by kernel_rfl) rfl (by kernel_rfl) (by kernel_rfl) (fun ds h => ?_) (by kernel_rfl) (by kernel_rfl) (fresh := true) (fun tss h => ?_) hval hW hz
  · match ds, h with
    | [_, _, _], _ => exact ⟨rfl, rfl, rfl⟩
  · match tss, h with
    | [t0, t1, t2], ⟨h0, h1, h2, _⟩ =>
      obtain ⟨x0, rfl, k0⟩ := exr_api_Trace t0 h0
      obtain ⟨x1, rfl, k1⟩ := exr_i64 t1 h1
      obtain ⟨x2, rfl, k2⟩ := exr_i64 t2 h2
      exact tracebooklaw54_AnomalyExact_fun x0 x1 x2 true (hlaw x0 x1 x2 k0 k1 k2)
set_option maxRecDepth 100000 in
theorem anomalyExact_lifted (hlaw : ∀ (x0 : api_Trace) (x1 : Int) (x2 : Int), okr_api_Trace x0 → okr_i64 x1 → okr_i64 x2 → tracebooklaw54_AnomalyExact x0 x1 x2 = some true) (os : Os) (started : os.Started) (H : Type) (enc : TypeId × Value → H) :
    ReturnsInHanded {} Tryz.checked os 7 .any (Rows.anomalyExactSpec.pre6 enc Tryz.prog Tryz.f7 Rows.anomalyExactRow.domain false) (Rows.anomalyExactSpec.post enc Tryz.prog Tryz.f7 false true false false) := by
  refine returnsInHanded_of_change_sized (C := Tryz.checked) (s := Rows.anomalyExactSpec) (by kernel_rfl) started (by kernel_rfl) Tryz.func7
    (ChangeSpec.witness6 (enc := enc) (C := Tryz.checked) false ⟨#[], #[.agg #[.int .i64 0, .int .i64 0, .slice none 0 0, .slice none 0 0, .slice none 0 0, .slice none 0 0, .slice none 0 0, .slice none 0 0, .slice none 0 0, .slice none 0 0], .int .i64 0, .int .i64 0], []⟩ 64 (by kernel_rfl) (by kernel_rfl) (by kernel_rfl) (by kernel_rfl)) ?_
  intro W base args ds gs before hval hW _ hz _
  exact anomalyExact_contract hlaw H enc W base args ds gs before hval hW hz
theorem anomalyExact_said (hlaw : ∀ (x0 : api_Trace) (x1 : Int) (x2 : Int), okr_api_Trace x0 → okr_i64 x1 → okr_i64 x2 → tracebooklaw54_AnomalyExact x0 x1 x2 = some true) : Rows.AnomalyExactSaid :=
  OpenClaim.holds_of_wide 7 Tryz.f7 rfl rfl rfl rfl rfl rfl rfl ⟨rfl, rfl, rfl, rfl, rfl⟩ rfl rfl rfl rfl rfl (by kernel_rfl) Tryz.func7 (by kernel_rfl)
    (of_decide_eq_true (by kernel_rfl)) (by unfold Func.isWrapper; first | (rw [if_pos (by decide +kernel)]; kernel_rfl) | (rw [if_neg (by decide +kernel)]; exact ⟨rfl, rfl⟩))
    (fun os started H enc _ => anomalyExact_lifted hlaw os started H enc)
end Go.VM
