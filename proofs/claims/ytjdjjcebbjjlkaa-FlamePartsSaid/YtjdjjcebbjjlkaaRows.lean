/-
  No cell of these rows narrows 'for every input' (looked for: loops, veiled, ifaces, maps, wideKeys, modest, calm, conditions, laid).
  DERIVED. THE GIVEN ROWS OF THIS SEAT. 5 by the template 'for every input the law returns true; each argument reads behind the call as it read before'; 0 by the template 'total and deterministic' (their statements: YtjdjjcebbjjlkaaTotals.lean).
  GIVEN WITH THE SEED: the statements are not yours to turn. If you find one false, say at which input.
  Laid BY PROGRAM, IN A SANDBOX (cutbox-rows.mjs): the forced cells as the released guide's own fill.sh prints them over the translation f62c80847d3de7d9… (all of the seat's roots in one cut). By AI agents, Wed Nov 11 2026. No macro, syntax, notation, axiom, sorry.
-/
import Derived.Test.YtjdjjcebbjjlkaaChecked
import GoSem.Claim
import GoSem.ClaimJoined
import GoSem.ClaimMapViews
import Derived.JoinedTies
import Derived.KernelRfl
namespace Go.Proofs.Ytjdjjcebbjjlkaa
/- THE CELL 'sum', in the pinned program and in every row, IS THE sha256 OF THE DUMP (.gsa) THAT YtjdjjcebbjjlkaaProg.lean LOADS. Nothing in Lean hashes anything: it is a label: what it is worth is what the hold of that sum in a sandbox is worth. -/
noncomputable def Try.pinned : Pinned := { name := "ytjdjjcebbjjlkaa", sum := "f62c80847d3de7d9ff5f7329d967461502241cadb8f3e55b62c864aa49186a6c", checked := Try.checked }
namespace Rows
def none {H : Type} : Left H := { results := [], args := [] }

/-- 'tracebooklaw50.FlameSamples': WHATEVER THE INPUT: true; the input reads as it did. -/
def flameSamplesSpec : ChangeSpec := { name := "flameSamples", fn := fun _ => fun
  | [d] => { results := [.lit (.bool true)], args := [d] }
  | _ => none }
def flameSamplesRow : OpenClaim := { program := "ytjdjjcebbjjlkaa", sum := "f62c80847d3de7d9ff5f7329d967461502241cadb8f3e55b62c864aa49186a6c", func := "tracebook/tracebooklaw50.FlameSamples", spec := "flameSamples", inPlace := ["internal/bytealg.IndexByteString"], unfollowed := true, recurses := true, apart := false }
def FlameSamplesSaid : Prop := flameSamplesRow.holds Try.pinned (OpenSpec.ofChange flameSamplesSpec)

/-- ITS FALSE NEIGHBOUR: 'it returns false'. Refute it at one input. -/
def flameSamplesWrong : ChangeSpec := { name := "flameSamples", fn := fun _ => fun
  | [d] => { results := [.lit (.bool false)], args := [d] }
  | _ => none }
def FlameSamplesWrongFalsely : Prop := flameSamplesRow.holds Try.pinned (OpenSpec.ofChange flameSamplesWrong)

/-- 'tracebooklaw50.FlameChecks': WHATEVER THE INPUT: true; the input reads as it did. -/
def flameChecksSpec : ChangeSpec := { name := "flameChecks", fn := fun _ => fun
  | [d] => { results := [.lit (.bool true)], args := [d] }
  | _ => none }
def flameChecksRow : OpenClaim := { program := "ytjdjjcebbjjlkaa", sum := "f62c80847d3de7d9ff5f7329d967461502241cadb8f3e55b62c864aa49186a6c", func := "tracebook/tracebooklaw50.FlameChecks", spec := "flameChecks", inPlace := ["internal/bytealg.IndexByteString"], unfollowed := true, recurses := true, apart := false }
def FlameChecksSaid : Prop := flameChecksRow.holds Try.pinned (OpenSpec.ofChange flameChecksSpec)

/-- ITS FALSE NEIGHBOUR: 'it returns false'. Refute it at one input. -/
def flameChecksWrong : ChangeSpec := { name := "flameChecks", fn := fun _ => fun
  | [d] => { results := [.lit (.bool false)], args := [d] }
  | _ => none }
def FlameChecksWrongFalsely : Prop := flameChecksRow.holds Try.pinned (OpenSpec.ofChange flameChecksWrong)

/-- 'tracebooklaw50.FlamePaths': WHATEVER THE INPUT: true; the input reads as it did. -/
def flamePathsSpec : ChangeSpec := { name := "flamePaths", fn := fun _ => fun
  | [d1, d2] => { results := [.lit (.bool true)], args := [d1, d2] }
  | _ => none }
def flamePathsRow : OpenClaim := { program := "ytjdjjcebbjjlkaa", sum := "f62c80847d3de7d9ff5f7329d967461502241cadb8f3e55b62c864aa49186a6c", func := "tracebook/tracebooklaw50.FlamePaths", spec := "flamePaths", inPlace := ["internal/bytealg.IndexByteString"], unfollowed := true, recurses := true, apart := false }
def FlamePathsSaid : Prop := flamePathsRow.holds Try.pinned (OpenSpec.ofChange flamePathsSpec)

/-- ITS FALSE NEIGHBOUR: 'it returns false'. Refute it at one input. -/
def flamePathsWrong : ChangeSpec := { name := "flamePaths", fn := fun _ => fun
  | [d1, d2] => { results := [.lit (.bool false)], args := [d1, d2] }
  | _ => none }
def FlamePathsWrongFalsely : Prop := flamePathsRow.holds Try.pinned (OpenSpec.ofChange flamePathsWrong)

/-- 'tracebooklaw50.FlameMerges': WHATEVER THE INPUT: true; the input reads as it did. -/
def flameMergesSpec : ChangeSpec := { name := "flameMerges", fn := fun _ => fun
  | [d1, d2] => { results := [.lit (.bool true)], args := [d1, d2] }
  | _ => none }
def flameMergesRow : OpenClaim := { program := "ytjdjjcebbjjlkaa", sum := "f62c80847d3de7d9ff5f7329d967461502241cadb8f3e55b62c864aa49186a6c", func := "tracebook/tracebooklaw50.FlameMerges", spec := "flameMerges", inPlace := ["internal/bytealg.IndexByteString"], unfollowed := true, recurses := true, apart := false }
def FlameMergesSaid : Prop := flameMergesRow.holds Try.pinned (OpenSpec.ofChange flameMergesSpec)

/-- ITS FALSE NEIGHBOUR: 'it returns false'. Refute it at one input. -/
def flameMergesWrong : ChangeSpec := { name := "flameMerges", fn := fun _ => fun
  | [d1, d2] => { results := [.lit (.bool false)], args := [d1, d2] }
  | _ => none }
def FlameMergesWrongFalsely : Prop := flameMergesRow.holds Try.pinned (OpenSpec.ofChange flameMergesWrong)

/-- 'tracebooklaw50.FlameParts': WHATEVER THE INPUT: true; the input reads as it did. -/
def flamePartsSpec : ChangeSpec := { name := "flameParts", fn := fun _ => fun
  | [d1, d2] => { results := [.lit (.bool true)], args := [d1, d2] }
  | _ => none }
def flamePartsRow : OpenClaim := { program := "ytjdjjcebbjjlkaa", sum := "f62c80847d3de7d9ff5f7329d967461502241cadb8f3e55b62c864aa49186a6c", func := "tracebook/tracebooklaw50.FlameParts", spec := "flameParts", inPlace := ["internal/bytealg.IndexByteString"], unfollowed := true, recurses := true, apart := false }
def FlamePartsSaid : Prop := flamePartsRow.holds Try.pinned (OpenSpec.ofChange flamePartsSpec)

/-- ITS FALSE NEIGHBOUR: 'it returns false'. Refute it at one input. -/
def flamePartsWrong : ChangeSpec := { name := "flameParts", fn := fun _ => fun
  | [d1, d2] => { results := [.lit (.bool false)], args := [d1, d2] }
  | _ => none }
def FlamePartsWrongFalsely : Prop := flamePartsRow.holds Try.pinned (OpenSpec.ofChange flamePartsWrong)

/- THE SECOND FORM. 'bulk': how many values and letters a reading holds, each counted each time it is reached (what is shared counts as often as it is met; a slice's spare places count too). A statement '..UptoSaid' is the law's where the arguments, and the package variables that the reading takes, are together of bulk at most 1048576: NARROWER than '..Said'. Prove '..Said' where nothing that the law and all that it calls make is longer than what came in: it says more and counts as full. Else prove '..UptoSaid'. A law counts once. -/
mutual
def uptoBulk {H : Type} : DataW H → Nat
  | .lit (.string bytes) => bytes.length + 1
  | .lit _ => 1
  | .nil => 1
  | .ptr d => uptoBulk d + 1
  | .slice elems spare => uptoBulkAll elems + uptoBulkAll spare + 1
  | .agg parts => uptoBulkAll parts + 1
  | .iface _ d => uptoBulk d + 1
  | .map entries => uptoBulkEntries entries + 1
  | .held _ => 1
def uptoBulkAll {H : Type} : List (DataW H) → Nat
  | [] => 0
  | d :: r => uptoBulk d + uptoBulkAll r
def uptoBulkEntries {H : Type} : List (Lit × DataW H) → Nat
  | [] => 0
  | x :: r => uptoBulkEntry x + uptoBulkEntries r
def uptoBulkEntry {H : Type} : Lit × DataW H → Nat
  | (.string bytes, d) => bytes.length + uptoBulk d + 1
  | (_, d) => uptoBulk d + 1
 end
def uptoSmall : (H : Type) → List (DataW H) → Bool := fun _ ds => decide (uptoBulkAll ds ≤ 1048576)
def OpenSpec.upto (s : _root_.Go.ChangeSpec) : _root_.Go.OpenSpec := { _root_.Go.OpenSpec.ofChange s with cond := some uptoSmall }

/-- 'tracebooklaw50.FlameSamples', WHERE WHAT IT READS IS OF BULK AT MOST 1048576: true; the input reads as it did. -/
def flameSamplesUptoRow : OpenClaim := { program := "ytjdjjcebbjjlkaa", sum := "f62c80847d3de7d9ff5f7329d967461502241cadb8f3e55b62c864aa49186a6c", func := "tracebook/tracebooklaw50.FlameSamples", spec := "flameSamples", inPlace := ["internal/bytealg.IndexByteString"], unfollowed := true, recurses := true, apart := false, narrowed := true }
def FlameSamplesUptoSaid : Prop := flameSamplesUptoRow.holds Try.pinned (OpenSpec.upto flameSamplesSpec)

/-- 'tracebooklaw50.FlameChecks', WHERE WHAT IT READS IS OF BULK AT MOST 1048576: true; the input reads as it did. -/
def flameChecksUptoRow : OpenClaim := { program := "ytjdjjcebbjjlkaa", sum := "f62c80847d3de7d9ff5f7329d967461502241cadb8f3e55b62c864aa49186a6c", func := "tracebook/tracebooklaw50.FlameChecks", spec := "flameChecks", inPlace := ["internal/bytealg.IndexByteString"], unfollowed := true, recurses := true, apart := false, narrowed := true }
def FlameChecksUptoSaid : Prop := flameChecksUptoRow.holds Try.pinned (OpenSpec.upto flameChecksSpec)

/-- 'tracebooklaw50.FlamePaths', WHERE WHAT IT READS IS OF BULK AT MOST 1048576: true; the input reads as it did. -/
def flamePathsUptoRow : OpenClaim := { program := "ytjdjjcebbjjlkaa", sum := "f62c80847d3de7d9ff5f7329d967461502241cadb8f3e55b62c864aa49186a6c", func := "tracebook/tracebooklaw50.FlamePaths", spec := "flamePaths", inPlace := ["internal/bytealg.IndexByteString"], unfollowed := true, recurses := true, apart := false, narrowed := true }
def FlamePathsUptoSaid : Prop := flamePathsUptoRow.holds Try.pinned (OpenSpec.upto flamePathsSpec)

/-- 'tracebooklaw50.FlameMerges', WHERE WHAT IT READS IS OF BULK AT MOST 1048576: true; the input reads as it did. -/
def flameMergesUptoRow : OpenClaim := { program := "ytjdjjcebbjjlkaa", sum := "f62c80847d3de7d9ff5f7329d967461502241cadb8f3e55b62c864aa49186a6c", func := "tracebook/tracebooklaw50.FlameMerges", spec := "flameMerges", inPlace := ["internal/bytealg.IndexByteString"], unfollowed := true, recurses := true, apart := false, narrowed := true }
def FlameMergesUptoSaid : Prop := flameMergesUptoRow.holds Try.pinned (OpenSpec.upto flameMergesSpec)

/-- 'tracebooklaw50.FlameParts', WHERE WHAT IT READS IS OF BULK AT MOST 1048576: true; the input reads as it did. -/
def flamePartsUptoRow : OpenClaim := { program := "ytjdjjcebbjjlkaa", sum := "f62c80847d3de7d9ff5f7329d967461502241cadb8f3e55b62c864aa49186a6c", func := "tracebook/tracebooklaw50.FlameParts", spec := "flameParts", inPlace := ["internal/bytealg.IndexByteString"], unfollowed := true, recurses := true, apart := false, narrowed := true }
def FlamePartsUptoSaid : Prop := flamePartsUptoRow.holds Try.pinned (OpenSpec.upto flamePartsSpec)

end Rows
end Go.Proofs.Ytjdjjcebbjjlkaa
