/- From the law on lists and numbers to the statement. -/
import Derived.Test.YtjdjjcebbjjlkaaL501
import Derived.JoinedOf
import Derived.SizedLaws
namespace Go.VM
open Go.Proofs Go.Proofs.Ytjdjjcebbjjlkaa
open Go.ChangeShapes Go.WideShapes Go.ChangeAt Go.RowKit
def t_L_api_Node (x : (List api_Node)) : List T := [.sl 5 (List.map t_api_Node x)]
def okr_api_Node (x : api_Node) : Prop := inI .i64 x.fParent ∧ ByteArray.size x.fName ≤ reachBytes ∧ inI .i64 x.fSelf ∧ inI .i64 x.fTotal ∧ inI .i64 x.fCount
theorem exr_api_Node (ts : List T) (h : WTs [.int .i64, .str, .int .i64, .int .i64, .int .i64] ts) : ∃ x : api_Node, t_api_Node x = ts ∧ okr_api_Node x := by
  obtain ⟨t0, r0, rfl, h0, h⟩ := h.inv
  obtain ⟨t1, r1, rfl, h1, h⟩ := h.inv
  obtain ⟨t2, r2, rfl, h2, h⟩ := h.inv
  obtain ⟨t3, r3, rfl, h3, h⟩ := h.inv
  obtain ⟨t4, r4, rfl, h4, h⟩ := h.inv
  obtain rfl := h.inv0
  obtain ⟨y0, rfl, k0⟩ := ex_int h0
  obtain ⟨y1, rfl, k1⟩ := ex_str h1
  obtain ⟨y2, rfl, k2⟩ := ex_int h2
  obtain ⟨y3, rfl, k3⟩ := ex_int h3
  obtain ⟨y4, rfl, k4⟩ := ex_int h4
  exact ⟨({ fParent := y0, fName := y1, fSelf := y2, fTotal := y3, fCount := y4 } : api_Node), rfl, k0, k1, k2, k3, k4⟩
def okr_L_api_Node (x : (List api_Node)) : Prop := okL okr_api_Node x
theorem exr_L_api_Node (ts : List T) (h : WTs [.sl [.int .i64, .str, .int .i64, .int .i64, .int .i64]] ts) : ∃ x : (List api_Node), t_L_api_Node x = ts ∧ okr_L_api_Node x := by
  obtain ⟨t0, r0, rfl, h0, h⟩ := h.inv
  obtain rfl := h.inv0
  obtain ⟨y0, rfl, k0⟩ := ex_list exr_api_Node h0
  exact ⟨y0, rfl, k0⟩
set_option maxRecDepth 100000 in
theorem flameChecks_contract (hlaw : ∀ (x0 : (List api_Node)), okr_L_api_Node x0 → tracebooklaw50_FlameChecks x0 = some true) (H : Type) (enc : TypeId × Value → H) (W : World) (base : Nat) (args : Array Value) (ds gs : List (DataW H)) (before : List MemPlace)
    (hval : ∀ (j : Nat) t v, Try.f4.params[j]? = some t → args[j]? = some v → Value.okWide Try.prog W .any base t v)
    (hW : DataW.Whole enc Try.prog Try.f4.params.toList Rows.flameChecksSpec.vars false W args.toList ds gs before)
    (hz : (DataW.weightsEach Try.prog (Try.f4.params.toList ++ Rows.flameChecksSpec.plain.varTypes Try.prog) (ds ++ gs)).all (· ≤ reachBytes) = true) :
    Calls Try.prog 4 args W fun e W' => ∃ v, e = .returned v ∧ Rows.flameChecksSpec.post enc Try.prog Try.f4 false true false false W args v W' := by
  refine law_calls (n := 64) (ts := [25]) (tb := 4) (shs := [[.sl [.int .i64, .str, .int .i64, .int .i64, .int .i64]]]) (bs := [false]) (by kernel_rfl) (by kernel_rfl) (by kernel_rfl) rfl (by kernel_rfl) (by kernel_rfl) (fun ds h => ?_) (by kernel_rfl) (by kernel_rfl) (fresh := true) (fun tss h => ?_) hval hW hz
  · match ds, h with
    | [_], _ => exact ⟨rfl, rfl, rfl⟩
  · match tss, h with
    | [t0], ⟨h0, _⟩ =>
      obtain ⟨x0, rfl, k0⟩ := exr_L_api_Node t0 h0
      exact tracebooklaw50_FlameChecks_fun x0 true (hlaw x0 k0)
set_option maxRecDepth 100000 in
theorem flameChecks_lifted (hlaw : ∀ (x0 : (List api_Node)), okr_L_api_Node x0 → tracebooklaw50_FlameChecks x0 = some true) (os : Os) (started : os.Started) (H : Type) (enc : TypeId × Value → H) :
    ReturnsInHanded {} Try.checked os 4 .any (Rows.flameChecksSpec.pre6 enc Try.prog Try.f4 Rows.flameChecksRow.domain false) (Rows.flameChecksSpec.post enc Try.prog Try.f4 false true false false) := by
  refine returnsInHanded_of_change_sized (C := Try.checked) (s := Rows.flameChecksSpec) (by kernel_rfl) started (by kernel_rfl) Try.func4
    (ChangeSpec.witness6 (enc := enc) (C := Try.checked) false ⟨#[], #[.slice none 0 0], []⟩ 64 (by kernel_rfl) (by kernel_rfl) (by kernel_rfl) (by kernel_rfl)) ?_
  intro W base args ds gs before hval hW _ hz _
  exact flameChecks_contract hlaw H enc W base args ds gs before hval hW hz
theorem flameChecks_said (hlaw : ∀ (x0 : (List api_Node)), okr_L_api_Node x0 → tracebooklaw50_FlameChecks x0 = some true) : Rows.FlameChecksSaid :=
  OpenClaim.holds_of_wide 4 Try.f4 rfl rfl rfl rfl rfl rfl rfl ⟨rfl, rfl, rfl, rfl, rfl⟩ rfl rfl rfl rfl rfl (by kernel_rfl) Try.func4 (by kernel_rfl)
    (of_decide_eq_true (by kernel_rfl)) (by unfold Func.isWrapper; first | (rw [if_pos (by decide +kernel)]; kernel_rfl) | (rw [if_neg (by decide +kernel)]; exact ⟨rfl, rfl⟩))
    (fun os started H enc _ => flameChecks_lifted hlaw os started H enc)
end Go.VM
