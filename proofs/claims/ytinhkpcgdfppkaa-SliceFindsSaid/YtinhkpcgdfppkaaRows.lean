/-
  No cell of these rows narrows 'for every input' (looked for: loops, veiled, ifaces, maps, wideKeys, modest, calm, conditions, laid).
  DERIVED. THE GIVEN ROWS OF THIS SEAT. 6 by the template 'for every input the law returns true; each argument reads behind the call as it read before'; 0 by the template 'total and deterministic' (their statements: YtinhkpcgdfppkaaTotals.lean).
  GIVEN WITH THE SEED: the statements are not yours to turn. If you find one false, say at which input.
  Laid BY PROGRAM, IN A SANDBOX (cutbox-rows.mjs): the forced cells as the released guide's own fill.sh prints them over the translation fc227c0af4e8dbaf… (all of the seat's roots in one cut). By AI agents, Wed Nov 11 2026. No macro, syntax, notation, axiom, sorry.
-/
import Derived.Test.YtinhkpcgdfppkaaChecked
import GoSem.Claim
import GoSem.ClaimJoined
import GoSem.ClaimMapViews
import Derived.JoinedTies
import Derived.KernelRfl
namespace Go.Proofs.Ytinhkpcgdfppkaa
/- THE CELL 'sum', in the pinned program and in every row, IS THE sha256 OF THE DUMP (.gsa) THAT YtinhkpcgdfppkaaProg.lean LOADS. Nothing in Lean hashes anything: it is a label: what it is worth is what the hold of that sum in a sandbox is worth. -/
noncomputable def Try.pinned : Pinned := { name := "ytinhkpcgdfppkaa", sum := "fc227c0af4e8dbaf1ce2fc5d7ae00daa9388d71e647b16a4118c153efbb9998b", checked := Try.checked }
namespace Rows
def none {H : Type} : Left H := { results := [], args := [] }

/-- 'tracebooklaw26.SliceFinds': WHATEVER THE INPUT: true; the input reads as it did. -/
def sliceFindsSpec : ChangeSpec := { name := "sliceFinds", fn := fun _ => fun
  | [d1, d2] => { results := [.lit (.bool true)], args := [d1, d2] }
  | _ => none }
def sliceFindsRow : OpenClaim := { program := "ytinhkpcgdfppkaa", sum := "fc227c0af4e8dbaf1ce2fc5d7ae00daa9388d71e647b16a4118c153efbb9998b", func := "tracebook/tracebooklaw26.SliceFinds", spec := "sliceFinds", inPlace := ["internal/bytealg.IndexByteString"], unfollowed := true, recurses := true, apart := false }
def SliceFindsSaid : Prop := sliceFindsRow.holds Try.pinned (OpenSpec.ofChange sliceFindsSpec)

/-- ITS FALSE NEIGHBOUR: 'it returns false'. Refute it at one input. -/
def sliceFindsWrong : ChangeSpec := { name := "sliceFinds", fn := fun _ => fun
  | [d1, d2] => { results := [.lit (.bool false)], args := [d1, d2] }
  | _ => none }
def SliceFindsWrongFalsely : Prop := sliceFindsRow.holds Try.pinned (OpenSpec.ofChange sliceFindsWrong)

/-- 'tracebooklaw26.SliceCounts': WHATEVER THE INPUT: true; the input reads as it did. -/
def sliceCountsSpec : ChangeSpec := { name := "sliceCounts", fn := fun _ => fun
  | [d1, d2] => { results := [.lit (.bool true)], args := [d1, d2] }
  | _ => none }
def sliceCountsRow : OpenClaim := { program := "ytinhkpcgdfppkaa", sum := "fc227c0af4e8dbaf1ce2fc5d7ae00daa9388d71e647b16a4118c153efbb9998b", func := "tracebook/tracebooklaw26.SliceCounts", spec := "sliceCounts", inPlace := ["internal/bytealg.IndexByteString"], unfollowed := true, recurses := true, apart := false }
def SliceCountsSaid : Prop := sliceCountsRow.holds Try.pinned (OpenSpec.ofChange sliceCountsSpec)

/-- ITS FALSE NEIGHBOUR: 'it returns false'. Refute it at one input. -/
def sliceCountsWrong : ChangeSpec := { name := "sliceCounts", fn := fun _ => fun
  | [d1, d2] => { results := [.lit (.bool false)], args := [d1, d2] }
  | _ => none }
def SliceCountsWrongFalsely : Prop := sliceCountsRow.holds Try.pinned (OpenSpec.ofChange sliceCountsWrong)

/-- 'tracebooklaw26.SliceChecks': WHATEVER THE INPUT: true; the input reads as it did. -/
def sliceChecksSpec : ChangeSpec := { name := "sliceChecks", fn := fun _ => fun
  | [d] => { results := [.lit (.bool true)], args := [d] }
  | _ => none }
def sliceChecksRow : OpenClaim := { program := "ytinhkpcgdfppkaa", sum := "fc227c0af4e8dbaf1ce2fc5d7ae00daa9388d71e647b16a4118c153efbb9998b", func := "tracebook/tracebooklaw26.SliceChecks", spec := "sliceChecks", inPlace := ["internal/bytealg.IndexByteString"], unfollowed := true, recurses := true, apart := false }
def SliceChecksSaid : Prop := sliceChecksRow.holds Try.pinned (OpenSpec.ofChange sliceChecksSpec)

/-- ITS FALSE NEIGHBOUR: 'it returns false'. Refute it at one input. -/
def sliceChecksWrong : ChangeSpec := { name := "sliceChecks", fn := fun _ => fun
  | [d] => { results := [.lit (.bool false)], args := [d] }
  | _ => none }
def SliceChecksWrongFalsely : Prop := sliceChecksRow.holds Try.pinned (OpenSpec.ofChange sliceChecksWrong)

/-- 'tracebooklaw26.SliceLooks': WHATEVER THE INPUT: true; the input reads as it did. -/
def sliceLooksSpec : ChangeSpec := { name := "sliceLooks", fn := fun _ => fun
  | [d1, d2, d3, d4] => { results := [.lit (.bool true)], args := [d1, d2, d3, d4] }
  | _ => none }
def sliceLooksRow : OpenClaim := { program := "ytinhkpcgdfppkaa", sum := "fc227c0af4e8dbaf1ce2fc5d7ae00daa9388d71e647b16a4118c153efbb9998b", func := "tracebook/tracebooklaw26.SliceLooks", spec := "sliceLooks", inPlace := ["internal/bytealg.IndexByteString"], unfollowed := true, recurses := true, apart := false }
def SliceLooksSaid : Prop := sliceLooksRow.holds Try.pinned (OpenSpec.ofChange sliceLooksSpec)

/-- ITS FALSE NEIGHBOUR: 'it returns false'. Refute it at one input. -/
def sliceLooksWrong : ChangeSpec := { name := "sliceLooks", fn := fun _ => fun
  | [d1, d2, d3, d4] => { results := [.lit (.bool false)], args := [d1, d2, d3, d4] }
  | _ => none }
def SliceLooksWrongFalsely : Prop := sliceLooksRow.holds Try.pinned (OpenSpec.ofChange sliceLooksWrong)

/-- 'tracebooklaw26.SlicePaths': WHATEVER THE INPUT: true; the input reads as it did. -/
def slicePathsSpec : ChangeSpec := { name := "slicePaths", fn := fun _ => fun
  | [d] => { results := [.lit (.bool true)], args := [d] }
  | _ => none }
def slicePathsRow : OpenClaim := { program := "ytinhkpcgdfppkaa", sum := "fc227c0af4e8dbaf1ce2fc5d7ae00daa9388d71e647b16a4118c153efbb9998b", func := "tracebook/tracebooklaw26.SlicePaths", spec := "slicePaths", inPlace := ["internal/bytealg.IndexByteString"], unfollowed := true, recurses := true, apart := false }
def SlicePathsSaid : Prop := slicePathsRow.holds Try.pinned (OpenSpec.ofChange slicePathsSpec)

/-- ITS FALSE NEIGHBOUR: 'it returns false'. Refute it at one input. -/
def slicePathsWrong : ChangeSpec := { name := "slicePaths", fn := fun _ => fun
  | [d] => { results := [.lit (.bool false)], args := [d] }
  | _ => none }
def SlicePathsWrongFalsely : Prop := slicePathsRow.holds Try.pinned (OpenSpec.ofChange slicePathsWrong)

/-- 'tracebooklaw26.SliceTimes': WHATEVER THE INPUT: true; the input reads as it did. -/
def sliceTimesSpec : ChangeSpec := { name := "sliceTimes", fn := fun _ => fun
  | [d1, d2, d3] => { results := [.lit (.bool true)], args := [d1, d2, d3] }
  | _ => none }
def sliceTimesRow : OpenClaim := { program := "ytinhkpcgdfppkaa", sum := "fc227c0af4e8dbaf1ce2fc5d7ae00daa9388d71e647b16a4118c153efbb9998b", func := "tracebook/tracebooklaw26.SliceTimes", spec := "sliceTimes", inPlace := ["internal/bytealg.IndexByteString"], unfollowed := true, recurses := true, apart := false }
def SliceTimesSaid : Prop := sliceTimesRow.holds Try.pinned (OpenSpec.ofChange sliceTimesSpec)

/-- ITS FALSE NEIGHBOUR: 'it returns false'. Refute it at one input. -/
def sliceTimesWrong : ChangeSpec := { name := "sliceTimes", fn := fun _ => fun
  | [d1, d2, d3] => { results := [.lit (.bool false)], args := [d1, d2, d3] }
  | _ => none }
def SliceTimesWrongFalsely : Prop := sliceTimesRow.holds Try.pinned (OpenSpec.ofChange sliceTimesWrong)

/- THE SECOND FORM. 'bulk': how many values and letters a reading holds, each counted each time it is reached (what is shared counts as often as it is met; a slice's spare places count too). A statement '..UptoSaid' is the law's where the arguments, and the package variables that the reading takes, are together of bulk at most 1048576: NARROWER than '..Said'. Prove '..Said' where nothing that the law and all that it calls make is longer than what came in: it says more and counts as full. Else prove '..UptoSaid'. A law counts once. -/
mutual
def uptoBulk {H : Type} : DataW H → Nat
  | .lit (.string bytes) => bytes.length + 1
  | .lit _ => 1
  | .nil => 1
  | .ptr d => uptoBulk d + 1
  | .slice elems spare => uptoBulkAll elems + uptoBulkAll spare + 1
  | .agg parts => uptoBulkAll parts + 1
  | .iface _ d => uptoBulk d + 1
  | .map entries => uptoBulkEntries entries + 1
  | .held _ => 1
def uptoBulkAll {H : Type} : List (DataW H) → Nat
  | [] => 0
  | d :: r => uptoBulk d + uptoBulkAll r
def uptoBulkEntries {H : Type} : List (Lit × DataW H) → Nat
  | [] => 0
  | x :: r => uptoBulkEntry x + uptoBulkEntries r
def uptoBulkEntry {H : Type} : Lit × DataW H → Nat
  | (.string bytes, d) => bytes.length + uptoBulk d + 1
  | (_, d) => uptoBulk d + 1
 end
def uptoSmall : (H : Type) → List (DataW H) → Bool := fun _ ds => decide (uptoBulkAll ds ≤ 1048576)
def OpenSpec.upto (s : _root_.Go.ChangeSpec) : _root_.Go.OpenSpec := { _root_.Go.OpenSpec.ofChange s with cond := some uptoSmall }

/-- 'tracebooklaw26.SliceFinds', WHERE WHAT IT READS IS OF BULK AT MOST 1048576: true; the input reads as it did. -/
def sliceFindsUptoRow : OpenClaim := { program := "ytinhkpcgdfppkaa", sum := "fc227c0af4e8dbaf1ce2fc5d7ae00daa9388d71e647b16a4118c153efbb9998b", func := "tracebook/tracebooklaw26.SliceFinds", spec := "sliceFinds", inPlace := ["internal/bytealg.IndexByteString"], unfollowed := true, recurses := true, apart := false, narrowed := true }
def SliceFindsUptoSaid : Prop := sliceFindsUptoRow.holds Try.pinned (OpenSpec.upto sliceFindsSpec)

/-- 'tracebooklaw26.SliceCounts', WHERE WHAT IT READS IS OF BULK AT MOST 1048576: true; the input reads as it did. -/
def sliceCountsUptoRow : OpenClaim := { program := "ytinhkpcgdfppkaa", sum := "fc227c0af4e8dbaf1ce2fc5d7ae00daa9388d71e647b16a4118c153efbb9998b", func := "tracebook/tracebooklaw26.SliceCounts", spec := "sliceCounts", inPlace := ["internal/bytealg.IndexByteString"], unfollowed := true, recurses := true, apart := false, narrowed := true }
def SliceCountsUptoSaid : Prop := sliceCountsUptoRow.holds Try.pinned (OpenSpec.upto sliceCountsSpec)

/-- 'tracebooklaw26.SliceChecks', WHERE WHAT IT READS IS OF BULK AT MOST 1048576: true; the input reads as it did. -/
def sliceChecksUptoRow : OpenClaim := { program := "ytinhkpcgdfppkaa", sum := "fc227c0af4e8dbaf1ce2fc5d7ae00daa9388d71e647b16a4118c153efbb9998b", func := "tracebook/tracebooklaw26.SliceChecks", spec := "sliceChecks", inPlace := ["internal/bytealg.IndexByteString"], unfollowed := true, recurses := true, apart := false, narrowed := true }
def SliceChecksUptoSaid : Prop := sliceChecksUptoRow.holds Try.pinned (OpenSpec.upto sliceChecksSpec)

/-- 'tracebooklaw26.SliceLooks', WHERE WHAT IT READS IS OF BULK AT MOST 1048576: true; the input reads as it did. -/
def sliceLooksUptoRow : OpenClaim := { program := "ytinhkpcgdfppkaa", sum := "fc227c0af4e8dbaf1ce2fc5d7ae00daa9388d71e647b16a4118c153efbb9998b", func := "tracebook/tracebooklaw26.SliceLooks", spec := "sliceLooks", inPlace := ["internal/bytealg.IndexByteString"], unfollowed := true, recurses := true, apart := false, narrowed := true }
def SliceLooksUptoSaid : Prop := sliceLooksUptoRow.holds Try.pinned (OpenSpec.upto sliceLooksSpec)

/-- 'tracebooklaw26.SlicePaths', WHERE WHAT IT READS IS OF BULK AT MOST 1048576: true; the input reads as it did. -/
def slicePathsUptoRow : OpenClaim := { program := "ytinhkpcgdfppkaa", sum := "fc227c0af4e8dbaf1ce2fc5d7ae00daa9388d71e647b16a4118c153efbb9998b", func := "tracebook/tracebooklaw26.SlicePaths", spec := "slicePaths", inPlace := ["internal/bytealg.IndexByteString"], unfollowed := true, recurses := true, apart := false, narrowed := true }
def SlicePathsUptoSaid : Prop := slicePathsUptoRow.holds Try.pinned (OpenSpec.upto slicePathsSpec)

/-- 'tracebooklaw26.SliceTimes', WHERE WHAT IT READS IS OF BULK AT MOST 1048576: true; the input reads as it did. -/
def sliceTimesUptoRow : OpenClaim := { program := "ytinhkpcgdfppkaa", sum := "fc227c0af4e8dbaf1ce2fc5d7ae00daa9388d71e647b16a4118c153efbb9998b", func := "tracebook/tracebooklaw26.SliceTimes", spec := "sliceTimes", inPlace := ["internal/bytealg.IndexByteString"], unfollowed := true, recurses := true, apart := false, narrowed := true }
def SliceTimesUptoSaid : Prop := sliceTimesUptoRow.holds Try.pinned (OpenSpec.upto sliceTimesSpec)

end Rows
end Go.Proofs.Ytinhkpcgdfppkaa
