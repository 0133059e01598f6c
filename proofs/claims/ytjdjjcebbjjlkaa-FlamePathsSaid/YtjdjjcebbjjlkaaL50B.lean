/- From the law on lists and numbers to the statement. -/
import Derived.Test.YtjdjjcebbjjlkaaL501
import Derived.JoinedOf
import Derived.SizedLaws
namespace Go.VM
open Go.Proofs Go.Proofs.Ytjdjjcebbjjlkaa
open Go.ChangeShapes Go.WideShapes Go.ChangeAt Go.RowKit
def t_L_api_Node (x : (List api_Node)) : List T := [.sl 5 (List.map t_api_Node x)]
def t_L_str (x : (List ByteArray)) : List T := [.sl 1 (List.map t_str x)]
def okr_api_Node (x : api_Node) : Prop := inI .i64 x.fParent ∧ ByteArray.size x.fName ≤ reachBytes ∧ inI .i64 x.fSelf ∧ inI .i64 x.fTotal ∧ inI .i64 x.fCount
theorem exr_api_Node (ts : List T) (h : WTs [.int .i64, .str, .int .i64, .int .i64, .int .i64] ts) : ∃ x : api_Node, t_api_Node x = ts ∧ okr_api_Node x := by
  obtain ⟨t0, r0, rfl, h0, h⟩ := h.inv
  obtain ⟨t1, r1, rfl, h1, h⟩ := h.inv
  obtain ⟨t2, r2, rfl, h2, h⟩ := h.inv
  obtain ⟨t3, r3, rfl, h3, h⟩ := h.inv
  obtain ⟨t4, r4, rfl, h4, h⟩ := h.inv
  obtain rfl := h.inv0
  obtain ⟨y0, rfl, k0⟩ := ex_int h0
  obtain ⟨y1, rfl, k1⟩ := ex_str h1
  obtain ⟨y2, rfl, k2⟩ := ex_int h2
  obtain ⟨y3, rfl, k3⟩ := ex_int h3
  obtain ⟨y4, rfl, k4⟩ := ex_int h4
  exact ⟨({ fParent := y0, fName := y1, fSelf := y2, fTotal := y3, fCount := y4 } : api_Node), rfl, k0, k1, k2, k3, k4⟩
def okr_L_api_Node (x : (List api_Node)) : Prop := okL okr_api_Node x
theorem exr_L_api_Node (ts : List T) (h : WTs [.sl [.int .i64, .str, .int .i64, .int .i64, .int .i64]] ts) : ∃ x : (List api_Node), t_L_api_Node x = ts ∧ okr_L_api_Node x := by
  obtain ⟨t0, r0, rfl, h0, h⟩ := h.inv
  obtain rfl := h.inv0
  obtain ⟨y0, rfl, k0⟩ := ex_list exr_api_Node h0
  exact ⟨y0, rfl, k0⟩
def okr_str (x : ByteArray) : Prop := ByteArray.size x ≤ reachBytes
theorem exr_str (ts : List T) (h : WTs [.str] ts) : ∃ x : ByteArray, t_str x = ts ∧ okr_str x := by
  obtain ⟨t0, r0, rfl, h0, h⟩ := h.inv
  obtain rfl := h.inv0
  obtain ⟨y0, rfl, k0⟩ := ex_str h0
  exact ⟨y0, rfl, k0⟩
def okr_L_str (x : (List ByteArray)) : Prop := okL okr_str x
theorem exr_L_str (ts : List T) (h : WTs [.sl [.str]] ts) : ∃ x : (List ByteArray), t_L_str x = ts ∧ okr_L_str x := by
  obtain ⟨t0, r0, rfl, h0, h⟩ := h.inv
  obtain rfl := h.inv0
  obtain ⟨y0, rfl, k0⟩ := ex_list exr_str h0
  exact ⟨y0, rfl, k0⟩
set_option maxRecDepth 100000 in
theorem flamePaths_contract (hlaw : ∀ (x0 : (List api_Node)) (x1 : (List ByteArray)), okr_L_api_Node x0 → okr_L_str x1 → tracebooklaw50_FlamePaths x0 x1 = some true) (H : Type) (enc : TypeId × Value → H) (W : World) (base : Nat) (args : Array Value) (ds gs : List (DataW H)) (before : List MemPlace)
    (hval : ∀ (j : Nat) t v, Try.f5.params[j]? = some t → args[j]? = some v → Value.okWide Try.prog W .any base t v)
    (hW : DataW.Whole enc Try.prog Try.f5.params.toList Rows.flamePathsSpec.vars false W args.toList ds gs before)
    (hz : (DataW.weightsEach Try.prog (Try.f5.params.toList ++ Rows.flamePathsSpec.plain.varTypes Try.prog) (ds ++ gs)).all (· ≤ reachBytes) = true) :
    Calls Try.prog 5 args W fun e W' => ∃ v, e = .returned v ∧ Rows.flamePathsSpec.post enc Try.prog Try.f5 false true false false W args v W' := by
  refine law_calls (n := 64) (ts := [25, 30]) (tb := 4) (shs := [[.sl [.int .i64, .str, .int .i64, .int .i64, .int .i64]], [.sl [.str]]]) (bs := [false, false]) (by kernel_rfl) (by kernel_rfl) (by kernel_rfl) rfl (by kernel_rfl) (by kernel_rfl) (fun ds h => ?_) (by kernel_rfl) (by kernel_rfl) (fresh := true) (fun tss h => ?_) hval hW hz
  · match ds, h with
    | [_, _], _ => exact ⟨rfl, rfl, rfl⟩
  · match tss, h with
    | [t0, t1], ⟨h0, h1, _⟩ =>
      obtain ⟨x0, rfl, k0⟩ := exr_L_api_Node t0 h0
      obtain ⟨x1, rfl, k1⟩ := exr_L_str t1 h1
      exact tracebooklaw50_FlamePaths_fun x0 x1 true (hlaw x0 x1 k0 k1)
set_option maxRecDepth 100000 in
theorem flamePaths_lifted (hlaw : ∀ (x0 : (List api_Node)) (x1 : (List ByteArray)), okr_L_api_Node x0 → okr_L_str x1 → tracebooklaw50_FlamePaths x0 x1 = some true) (os : Os) (started : os.Started) (H : Type) (enc : TypeId × Value → H) :
    ReturnsInHanded {} Try.checked os 5 .any (Rows.flamePathsSpec.pre6 enc Try.prog Try.f5 Rows.flamePathsRow.domain false) (Rows.flamePathsSpec.post enc Try.prog Try.f5 false true false false) := by
  refine returnsInHanded_of_change_sized (C := Try.checked) (s := Rows.flamePathsSpec) (by kernel_rfl) started (by kernel_rfl) Try.func5
    (ChangeSpec.witness6 (enc := enc) (C := Try.checked) false ⟨#[], #[.slice none 0 0, .slice none 0 0], []⟩ 64 (by kernel_rfl) (by kernel_rfl) (by kernel_rfl) (by kernel_rfl)) ?_
  intro W base args ds gs before hval hW _ hz _
  exact flamePaths_contract hlaw H enc W base args ds gs before hval hW hz
theorem flamePaths_said (hlaw : ∀ (x0 : (List api_Node)) (x1 : (List ByteArray)), okr_L_api_Node x0 → okr_L_str x1 → tracebooklaw50_FlamePaths x0 x1 = some true) : Rows.FlamePathsSaid :=
  OpenClaim.holds_of_wide 5 Try.f5 rfl rfl rfl rfl rfl rfl rfl ⟨rfl, rfl, rfl, rfl, rfl⟩ rfl rfl rfl rfl rfl (by kernel_rfl) Try.func5 (by kernel_rfl)
    (of_decide_eq_true (by kernel_rfl)) (by unfold Func.isWrapper; first | (rw [if_pos (by decide +kernel)]; kernel_rfl) | (rw [if_neg (by decide +kernel)]; exact ⟨rfl, rfl⟩))
    (fun os started H enc _ => flamePaths_lifted hlaw os started H enc)
end Go.VM
