/- From the law on lists and numbers to the statement. -/
import Derived.Test.YtnhjanhaokiahaaL271
import Derived.JoinedOf
import Derived.SizedLaws
namespace Go.VM
open Go.Proofs Go.Proofs.Ytnhjanhaokiahaa
open Go.ChangeShapes Go.WideShapes Go.ChangeAt Go.RowKit
def t_L_api_Thread (x : (List api_Thread)) : List T := [.sl 3 (List.map t_api_Thread x)]
def t_L_api_Timed (x : (List api_Timed)) : List T := [.sl 10 (List.map t_api_Timed x)]
def okr_api_Thread (x : api_Thread) : Prop := inI .i64 x.fId ∧ ByteArray.size x.fName ≤ reachBytes ∧ inI .i64 x.fDomain
theorem exr_api_Thread (ts : List T) (h : WTs [.int .i64, .str, .int .i64] ts) : ∃ x : api_Thread, t_api_Thread x = ts ∧ okr_api_Thread x := by
  obtain ⟨t0, r0, rfl, h0, h⟩ := h.inv
  obtain ⟨t1, r1, rfl, h1, h⟩ := h.inv
  obtain ⟨t2, r2, rfl, h2, h⟩ := h.inv
  obtain rfl := h.inv0
  obtain ⟨y0, rfl, k0⟩ := ex_int h0
  obtain ⟨y1, rfl, k1⟩ := ex_str h1
  obtain ⟨y2, rfl, k2⟩ := ex_int h2
  exact ⟨({ fId := y0, fName := y1, fDomain := y2 } : api_Thread), rfl, k0, k1, k2⟩
def okr_L_api_Thread (x : (List api_Thread)) : Prop := okL okr_api_Thread x
theorem exr_L_api_Thread (ts : List T) (h : WTs [.sl [.int .i64, .str, .int .i64]] ts) : ∃ x : (List api_Thread), t_L_api_Thread x = ts ∧ okr_L_api_Thread x := by
  obtain ⟨t0, r0, rfl, h0, h⟩ := h.inv
  obtain rfl := h.inv0
  obtain ⟨y0, rfl, k0⟩ := ex_list exr_api_Thread h0
  exact ⟨y0, rfl, k0⟩
def okr_str (x : ByteArray) : Prop := ByteArray.size x ≤ reachBytes
theorem exr_str (ts : List T) (h : WTs [.str] ts) : ∃ x : ByteArray, t_str x = ts ∧ okr_str x := by
  obtain ⟨t0, r0, rfl, h0, h⟩ := h.inv
  obtain rfl := h.inv0
  obtain ⟨y0, rfl, k0⟩ := ex_str h0
  exact ⟨y0, rfl, k0⟩
def okr_api_Timed (x : api_Timed) : Prop := inI .i64 x.fId.fThread ∧ inI .i64 x.fId.fSerial ∧ inI .i64 x.fEvent.fAt ∧ inI .i64 x.fEvent.fKind ∧ ByteArray.size x.fEvent.fName ≤ reachBytes ∧ inI .i64 x.fEvent.fN ∧ inI .i64 x.fEvent.fM ∧ okL okr_str x.fEvent.fStack ∧ inI .i64 x.fWhen.fLo ∧ inI .i64 x.fWhen.fHi
theorem exr_api_Timed (ts : List T) (h : WTs [.int .i64, .int .i64, .int .i64, .int .i64, .str, .int .i64, .int .i64, .sl [.str], .int .i64, .int .i64] ts) : ∃ x : api_Timed, t_api_Timed x = ts ∧ okr_api_Timed x := by
  obtain ⟨t0, r0, rfl, h0, h⟩ := h.inv
  obtain ⟨t1, r1, rfl, h1, h⟩ := h.inv
  obtain ⟨t2, r2, rfl, h2, h⟩ := h.inv
  obtain ⟨t3, r3, rfl, h3, h⟩ := h.inv
  obtain ⟨t4, r4, rfl, h4, h⟩ := h.inv
  obtain ⟨t5, r5, rfl, h5, h⟩ := h.inv
  obtain ⟨t6, r6, rfl, h6, h⟩ := h.inv
  obtain ⟨t7, r7, rfl, h7, h⟩ := h.inv
  obtain ⟨t8, r8, rfl, h8, h⟩ := h.inv
  obtain ⟨t9, r9, rfl, h9, h⟩ := h.inv
  obtain rfl := h.inv0
  obtain ⟨y0, rfl, k0⟩ := ex_int h0
  obtain ⟨y1, rfl, k1⟩ := ex_int h1
  obtain ⟨y2, rfl, k2⟩ := ex_int h2
  obtain ⟨y3, rfl, k3⟩ := ex_int h3
  obtain ⟨y4, rfl, k4⟩ := ex_str h4
  obtain ⟨y5, rfl, k5⟩ := ex_int h5
  obtain ⟨y6, rfl, k6⟩ := ex_int h6
  obtain ⟨y7, rfl, k7⟩ := ex_list exr_str h7
  obtain ⟨y8, rfl, k8⟩ := ex_int h8
  obtain ⟨y9, rfl, k9⟩ := ex_int h9
  exact ⟨({ fId := ({ fThread := y0, fSerial := y1 } : api_Id), fEvent := ({ fAt := y2, fKind := y3, fName := y4, fN := y5, fM := y6, fStack := y7 } : api_Event), fWhen := ({ fLo := y8, fHi := y9 } : api_Interval) } : api_Timed), rfl, k0, k1, k2, k3, k4, k5, k6, k7, k8, k9⟩
def okr_L_api_Timed (x : (List api_Timed)) : Prop := okL okr_api_Timed x
theorem exr_L_api_Timed (ts : List T) (h : WTs [.sl [.int .i64, .int .i64, .int .i64, .int .i64, .str, .int .i64, .int .i64, .sl [.str], .int .i64, .int .i64]] ts) : ∃ x : (List api_Timed), t_L_api_Timed x = ts ∧ okr_L_api_Timed x := by
  obtain ⟨t0, r0, rfl, h0, h⟩ := h.inv
  obtain rfl := h.inv0
  obtain ⟨y0, rfl, k0⟩ := ex_list exr_api_Timed h0
  exact ⟨y0, rfl, k0⟩
def okr_i64 (x : Int) : Prop := inI .i64 x
theorem exr_i64 (ts : List T) (h : WTs [.int .i64] ts) : ∃ x : Int, t_i64 x = ts ∧ okr_i64 x := by
  obtain ⟨t0, r0, rfl, h0, h⟩ := h.inv
  obtain rfl := h.inv0
  obtain ⟨y0, rfl, k0⟩ := ex_int h0
  exact ⟨y0, rfl, k0⟩
set_option maxRecDepth 100000 in
theorem stateRuns_contract (hlaw : ∀ (x0 : (List api_Thread)) (x1 : (List api_Timed)) (x2 : Int) (x3 : Int) (x4 : Int), okr_L_api_Thread x0 → okr_L_api_Timed x1 → okr_i64 x2 → okr_i64 x3 → okr_i64 x4 → tracebooklaw27_StateRuns x0 x1 x2 x3 x4 = some true) (H : Type) (enc : TypeId × Value → H) (W : World) (base : Nat) (args : Array Value) (ds gs : List (DataW H)) (before : List MemPlace)
    (hval : ∀ (j : Nat) t v, Try.f6.params[j]? = some t → args[j]? = some v → Value.okWide Try.prog W .any base t v)
    (hW : DataW.Whole enc Try.prog Try.f6.params.toList Rows.stateRunsSpec.vars false W args.toList ds gs before)
    (hz : (DataW.weightsEach Try.prog (Try.f6.params.toList ++ Rows.stateRunsSpec.plain.varTypes Try.prog) (ds ++ gs)).all (· ≤ reachBytes) = true) :
    Calls Try.prog 6 args W fun e W' => ∃ v, e = .returned v ∧ Rows.stateRunsSpec.post enc Try.prog Try.f6 false true false false W args v W' := by
  refine law_calls (n := 64) (ts := [22, 23, 3, 3, 3]) (tb := 4) (shs := [[.sl [.int .i64, .str, .int .i64]], [.sl [.int .i64, .int .i64, .int .i64, .int .i64, .str, .int .i64, .int .i64, .sl [.str], .int .i64, .int .i64]], [.int .i64], [.int .i64], [.int .i64]]) (bs := [false, false, false, false, false]) (by kernel_rfl) (by kernel_rfl) (by kernel_rfl) rfl (by kernel_rfl) (by kernel_rfl) (fun ds h => ?_) (by kernel_rfl) (by kernel_rfl) (fresh := true) (fun tss h => ?_) hval hW hz
  · match ds, h with
    | [_, _, _, _, _], _ => exact ⟨rfl, rfl, rfl⟩
  · match tss, h with
    | [t0, t1, t2, t3, t4], ⟨h0, h1, h2, h3, h4, _⟩ =>
      obtain ⟨x0, rfl, k0⟩ := exr_L_api_Thread t0 h0
      obtain ⟨x1, rfl, k1⟩ := exr_L_api_Timed t1 h1
      obtain ⟨x2, rfl, k2⟩ := exr_i64 t2 h2
      obtain ⟨x3, rfl, k3⟩ := exr_i64 t3 h3
      obtain ⟨x4, rfl, k4⟩ := exr_i64 t4 h4
      exact tracebooklaw27_StateRuns_fun x0 x1 x2 x3 x4 true (hlaw x0 x1 x2 x3 x4 k0 k1 k2 k3 k4)
set_option maxRecDepth 100000 in
theorem stateRuns_lifted (hlaw : ∀ (x0 : (List api_Thread)) (x1 : (List api_Timed)) (x2 : Int) (x3 : Int) (x4 : Int), okr_L_api_Thread x0 → okr_L_api_Timed x1 → okr_i64 x2 → okr_i64 x3 → okr_i64 x4 → tracebooklaw27_StateRuns x0 x1 x2 x3 x4 = some true) (os : Os) (started : os.Started) (H : Type) (enc : TypeId × Value → H) :
    ReturnsInHanded {} Try.checked os 6 .any (Rows.stateRunsSpec.pre6 enc Try.prog Try.f6 Rows.stateRunsRow.domain false) (Rows.stateRunsSpec.post enc Try.prog Try.f6 false true false false) := by
  refine returnsInHanded_of_change_sized (C := Try.checked) (s := Rows.stateRunsSpec) (by kernel_rfl) started (by kernel_rfl) Try.func6
    (ChangeSpec.witness6 (enc := enc) (C := Try.checked) false ⟨#[], #[.slice none 0 0, .slice none 0 0, .int .i64 0, .int .i64 0, .int .i64 0], []⟩ 64 (by kernel_rfl) (by kernel_rfl) (by kernel_rfl) (by kernel_rfl)) ?_
  intro W base args ds gs before hval hW _ hz _
  exact stateRuns_contract hlaw H enc W base args ds gs before hval hW hz
theorem stateRuns_said (hlaw : ∀ (x0 : (List api_Thread)) (x1 : (List api_Timed)) (x2 : Int) (x3 : Int) (x4 : Int), okr_L_api_Thread x0 → okr_L_api_Timed x1 → okr_i64 x2 → okr_i64 x3 → okr_i64 x4 → tracebooklaw27_StateRuns x0 x1 x2 x3 x4 = some true) : Rows.StateRunsSaid :=
  OpenClaim.holds_of_wide 6 Try.f6 rfl rfl rfl rfl rfl rfl rfl ⟨rfl, rfl, rfl, rfl, rfl⟩ rfl rfl rfl rfl rfl (by kernel_rfl) Try.func6 (by kernel_rfl)
    (of_decide_eq_true (by kernel_rfl)) (by unfold Func.isWrapper; first | (rw [if_pos (by decide +kernel)]; kernel_rfl) | (rw [if_neg (by decide +kernel)]; exact ⟨rfl, rfl⟩))
    (fun os started H enc _ => stateRuns_lifted hlaw os started H enc)
end Go.VM
