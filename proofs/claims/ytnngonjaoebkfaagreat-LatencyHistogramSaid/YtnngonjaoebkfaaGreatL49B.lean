/- From the law on lists and numbers to the statement. -/
import Derived.Test.YtnngonjaoebkfaaGreatL492
import Derived.JoinedOf
import Derived.SizedLaws
namespace Go.VM
open Go.Proofs Go.Proofs.YtnngonjaoebkfaaGreat
open Go.ChangeShapes Go.WideShapes Go.ChangeAt Go.RowKit
def t_L_i64 (x : (List Int)) : List T := [.sl 1 (List.map t_i64 x)]
def okr_i64 (x : Int) : Prop := inI .i64 x
theorem exr_i64 (ts : List T) (h : WTs [.int .i64] ts) : ∃ x : Int, t_i64 x = ts ∧ okr_i64 x := by
  obtain ⟨t0, r0, rfl, h0, h⟩ := h.inv
  obtain rfl := h.inv0
  obtain ⟨y0, rfl, k0⟩ := ex_int h0
  exact ⟨y0, rfl, k0⟩
def okr_L_i64 (x : (List Int)) : Prop := okL okr_i64 x
theorem exr_L_i64 (ts : List T) (h : WTs [.sl [.int .i64]] ts) : ∃ x : (List Int), t_L_i64 x = ts ∧ okr_L_i64 x := by
  obtain ⟨t0, r0, rfl, h0, h⟩ := h.inv
  obtain rfl := h.inv0
  obtain ⟨y0, rfl, k0⟩ := ex_list exr_i64 h0
  exact ⟨y0, rfl, k0⟩
set_option maxRecDepth 100000 in
theorem latencyHistogram_contract (hlaw : ∀ (x0 : (List Int)), okr_L_i64 x0 → tracebooklaw49_LatencyHistogram x0 = some true) (H : Type) (enc : TypeId × Value → H) (W : World) (base : Nat) (args : Array Value) (ds gs : List (DataW H)) (before : List MemPlace)
    (hval : ∀ (j : Nat) t v, Tryz.f5.params[j]? = some t → args[j]? = some v → Value.okWide Tryz.prog W .any base t v)
    (hW : DataW.Whole enc Tryz.prog Tryz.f5.params.toList Rows.latencyHistogramSpec.vars false W args.toList ds gs before)
    (hz : (DataW.weightsEach Tryz.prog (Tryz.f5.params.toList ++ Rows.latencyHistogramSpec.plain.varTypes Tryz.prog) (ds ++ gs)).all (· ≤ reachBytes) = true) :
    Calls Tryz.prog 5 args W fun e W' => ∃ v, e = .returned v ∧ Rows.latencyHistogramSpec.post enc Tryz.prog Tryz.f5 false true false false W args v W' := by
  refine law_calls (n := 64) (ts := [36]) (tb := 4) (shs := [[.sl [.int .i64]]]) (bs := [false]) (by kernel_rfl) (by kernel_rfl) (by kernel_rfl) rfl (by kernel_rfl) (by kernel_rfl) (fun ds h => ?_) (by kernel_rfl) (by kernel_rfl) (fresh := true) (fun tss h => ?_) hval hW hz
  · match ds, h with
    | [_], _ => exact ⟨rfl, rfl, rfl⟩
  · match tss, h with
    | [t0], ⟨h0, _⟩ =>
      obtain ⟨x0, rfl, k0⟩ := exr_L_i64 t0 h0
      exact tracebooklaw49_LatencyHistogram_fun x0 true (hlaw x0 k0)
set_option maxRecDepth 100000 in
theorem latencyHistogram_lifted (hlaw : ∀ (x0 : (List Int)), okr_L_i64 x0 → tracebooklaw49_LatencyHistogram x0 = some true) (os : Os) (started : os.Started) (H : Type) (enc : TypeId × Value → H) :
    ReturnsInHanded {} Tryz.checked os 5 .any (Rows.latencyHistogramSpec.pre6 enc Tryz.prog Tryz.f5 Rows.latencyHistogramRow.domain false) (Rows.latencyHistogramSpec.post enc Tryz.prog Tryz.f5 false true false false) := by
  refine returnsInHanded_of_change_sized (C := Tryz.checked) (s := Rows.latencyHistogramSpec) (by kernel_rfl) started (by kernel_rfl) Tryz.func5
    (ChangeSpec.witness6 (enc := enc) (C := Tryz.checked) false ⟨#[], #[.slice none 0 0], []⟩ 64 (by kernel_rfl) (by kernel_rfl) (by kernel_rfl) (by kernel_rfl)) ?_
  intro W base args ds gs before hval hW _ hz _
  exact latencyHistogram_contract hlaw H enc W base args ds gs before hval hW hz
theorem latencyHistogram_said (hlaw : ∀ (x0 : (List Int)), okr_L_i64 x0 → tracebooklaw49_LatencyHistogram x0 = some true) : Rows.LatencyHistogramSaid :=
  OpenClaim.holds_of_wide 5 Tryz.f5 rfl rfl rfl rfl rfl rfl rfl ⟨rfl, rfl, rfl, rfl, rfl⟩ rfl rfl rfl rfl rfl (by kernel_rfl) Tryz.func5 (by kernel_rfl)
    (of_decide_eq_true (by kernel_rfl)) (by unfold Func.isWrapper; first | (rw [if_pos (by decide +kernel)]; kernel_rfl) | (rw [if_neg (by decide +kernel)]; exact ⟨rfl, rfl⟩))
    (fun os started H enc _ => latencyHistogram_lifted hlaw os started H enc)
end Go.VM
