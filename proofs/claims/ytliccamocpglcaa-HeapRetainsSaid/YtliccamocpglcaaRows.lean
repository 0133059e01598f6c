/-
  No cell of these rows narrows 'for every input' (looked for: loops, veiled, ifaces, maps, wideKeys, modest, calm, conditions, laid).
  DERIVED. THE GIVEN ROWS OF THIS SEAT. 6 by the template 'for every input the law returns true; each argument reads behind the call as it read before'; 0 by the template 'total and deterministic' (their statements: YtliccamocpglcaaTotals.lean).
  GIVEN WITH THE SEED: the statements are not yours to turn. If you find one false, say at which input.
  Laid BY PROGRAM, IN A SANDBOX (cutbox-rows.mjs): the forced cells as the released guide's own fill.sh prints them over the translation eea8a5b5f4efa6d7… (all of the seat's roots in one cut). By AI agents, Wed Nov 11 2026. No macro, syntax, notation, axiom, sorry.
-/
import Derived.Test.YtliccamocpglcaaChecked
import GoSem.Claim
import GoSem.ClaimJoined
import GoSem.ClaimMapViews
import Derived.JoinedTies
import Derived.KernelRfl
namespace Go.Proofs.Ytliccamocpglcaa
/- THE CELL 'sum', in the pinned program and in every row, IS THE sha256 OF THE DUMP (.gsa) THAT YtliccamocpglcaaProg.lean LOADS. Nothing in Lean hashes anything: it is a label: what it is worth is what the hold of that sum in a sandbox is worth. -/
noncomputable def Try.pinned : Pinned := { name := "ytliccamocpglcaa", sum := "eea8a5b5f4efa6d7be91cb02ae34fba916aa06bbe535560c654ce9388ff8b5d6", checked := Try.checked }
namespace Rows
def none {H : Type} : Left H := { results := [], args := [] }

/-- 'tracebooklaw51.HeapReaches': WHATEVER THE INPUT: true; the input reads as it did. -/
def heapReachesSpec : ChangeSpec := { name := "heapReaches", fn := fun _ => fun
  | [d] => { results := [.lit (.bool true)], args := [d] }
  | _ => none }
def heapReachesRow : OpenClaim := { program := "ytliccamocpglcaa", sum := "eea8a5b5f4efa6d7be91cb02ae34fba916aa06bbe535560c654ce9388ff8b5d6", func := "tracebook/tracebooklaw51.HeapReaches", spec := "heapReaches", inPlace := ["internal/bytealg.IndexByteString"], unfollowed := true, recurses := true, apart := false }
def HeapReachesSaid : Prop := heapReachesRow.holds Try.pinned (OpenSpec.ofChange heapReachesSpec)

/-- ITS FALSE NEIGHBOUR: 'it returns false'. Refute it at one input. -/
def heapReachesWrong : ChangeSpec := { name := "heapReaches", fn := fun _ => fun
  | [d] => { results := [.lit (.bool false)], args := [d] }
  | _ => none }
def HeapReachesWrongFalsely : Prop := heapReachesRow.holds Try.pinned (OpenSpec.ofChange heapReachesWrong)

/-- 'tracebooklaw51.HeapCloses': WHATEVER THE INPUT: true; the input reads as it did. -/
def heapClosesSpec : ChangeSpec := { name := "heapCloses", fn := fun _ => fun
  | [d] => { results := [.lit (.bool true)], args := [d] }
  | _ => none }
def heapClosesRow : OpenClaim := { program := "ytliccamocpglcaa", sum := "eea8a5b5f4efa6d7be91cb02ae34fba916aa06bbe535560c654ce9388ff8b5d6", func := "tracebook/tracebooklaw51.HeapCloses", spec := "heapCloses", inPlace := ["internal/bytealg.IndexByteString"], unfollowed := true, recurses := true, apart := false }
def HeapClosesSaid : Prop := heapClosesRow.holds Try.pinned (OpenSpec.ofChange heapClosesSpec)

/-- ITS FALSE NEIGHBOUR: 'it returns false'. Refute it at one input. -/
def heapClosesWrong : ChangeSpec := { name := "heapCloses", fn := fun _ => fun
  | [d] => { results := [.lit (.bool false)], args := [d] }
  | _ => none }
def HeapClosesWrongFalsely : Prop := heapClosesRow.holds Try.pinned (OpenSpec.ofChange heapClosesWrong)

/-- 'tracebooklaw51.HeapDominates': WHATEVER THE INPUT: true; the input reads as it did. -/
def heapDominatesSpec : ChangeSpec := { name := "heapDominates", fn := fun _ => fun
  | [d] => { results := [.lit (.bool true)], args := [d] }
  | _ => none }
def heapDominatesRow : OpenClaim := { program := "ytliccamocpglcaa", sum := "eea8a5b5f4efa6d7be91cb02ae34fba916aa06bbe535560c654ce9388ff8b5d6", func := "tracebook/tracebooklaw51.HeapDominates", spec := "heapDominates", inPlace := ["internal/bytealg.IndexByteString"], unfollowed := true, recurses := true, apart := false }
def HeapDominatesSaid : Prop := heapDominatesRow.holds Try.pinned (OpenSpec.ofChange heapDominatesSpec)

/-- ITS FALSE NEIGHBOUR: 'it returns false'. Refute it at one input. -/
def heapDominatesWrong : ChangeSpec := { name := "heapDominates", fn := fun _ => fun
  | [d] => { results := [.lit (.bool false)], args := [d] }
  | _ => none }
def HeapDominatesWrongFalsely : Prop := heapDominatesRow.holds Try.pinned (OpenSpec.ofChange heapDominatesWrong)

/-- 'tracebooklaw51.HeapCuts': WHATEVER THE INPUT: true; the input reads as it did. -/
def heapCutsSpec : ChangeSpec := { name := "heapCuts", fn := fun _ => fun
  | [d] => { results := [.lit (.bool true)], args := [d] }
  | _ => none }
def heapCutsRow : OpenClaim := { program := "ytliccamocpglcaa", sum := "eea8a5b5f4efa6d7be91cb02ae34fba916aa06bbe535560c654ce9388ff8b5d6", func := "tracebook/tracebooklaw51.HeapCuts", spec := "heapCuts", inPlace := ["internal/bytealg.IndexByteString"], unfollowed := true, recurses := true, apart := false }
def HeapCutsSaid : Prop := heapCutsRow.holds Try.pinned (OpenSpec.ofChange heapCutsSpec)

/-- ITS FALSE NEIGHBOUR: 'it returns false'. Refute it at one input. -/
def heapCutsWrong : ChangeSpec := { name := "heapCuts", fn := fun _ => fun
  | [d] => { results := [.lit (.bool false)], args := [d] }
  | _ => none }
def HeapCutsWrongFalsely : Prop := heapCutsRow.holds Try.pinned (OpenSpec.ofChange heapCutsWrong)

/-- 'tracebooklaw51.HeapRetains': WHATEVER THE INPUT: true; the input reads as it did. -/
def heapRetainsSpec : ChangeSpec := { name := "heapRetains", fn := fun _ => fun
  | [d] => { results := [.lit (.bool true)], args := [d] }
  | _ => none }
def heapRetainsRow : OpenClaim := { program := "ytliccamocpglcaa", sum := "eea8a5b5f4efa6d7be91cb02ae34fba916aa06bbe535560c654ce9388ff8b5d6", func := "tracebook/tracebooklaw51.HeapRetains", spec := "heapRetains", inPlace := ["internal/bytealg.IndexByteString"], unfollowed := true, recurses := true, apart := false }
def HeapRetainsSaid : Prop := heapRetainsRow.holds Try.pinned (OpenSpec.ofChange heapRetainsSpec)

/-- ITS FALSE NEIGHBOUR: 'it returns false'. Refute it at one input. -/
def heapRetainsWrong : ChangeSpec := { name := "heapRetains", fn := fun _ => fun
  | [d] => { results := [.lit (.bool false)], args := [d] }
  | _ => none }
def HeapRetainsWrongFalsely : Prop := heapRetainsRow.holds Try.pinned (OpenSpec.ofChange heapRetainsWrong)

/-- 'tracebooklaw51.HeapSums': WHATEVER THE INPUT: true; the input reads as it did. -/
def heapSumsSpec : ChangeSpec := { name := "heapSums", fn := fun _ => fun
  | [d] => { results := [.lit (.bool true)], args := [d] }
  | _ => none }
def heapSumsRow : OpenClaim := { program := "ytliccamocpglcaa", sum := "eea8a5b5f4efa6d7be91cb02ae34fba916aa06bbe535560c654ce9388ff8b5d6", func := "tracebook/tracebooklaw51.HeapSums", spec := "heapSums", inPlace := ["internal/bytealg.IndexByteString"], unfollowed := true, recurses := true, apart := false }
def HeapSumsSaid : Prop := heapSumsRow.holds Try.pinned (OpenSpec.ofChange heapSumsSpec)

/-- ITS FALSE NEIGHBOUR: 'it returns false'. Refute it at one input. -/
def heapSumsWrong : ChangeSpec := { name := "heapSums", fn := fun _ => fun
  | [d] => { results := [.lit (.bool false)], args := [d] }
  | _ => none }
def HeapSumsWrongFalsely : Prop := heapSumsRow.holds Try.pinned (OpenSpec.ofChange heapSumsWrong)

/- THE SECOND FORM. 'bulk': how many values and letters a reading holds, each counted each time it is reached (what is shared counts as often as it is met; a slice's spare places count too). A statement '..UptoSaid' is the law's where the arguments, and the package variables that the reading takes, are together of bulk at most 1048576: NARROWER than '..Said'. Prove '..Said' where nothing that the law and all that it calls make is longer than what came in: it says more and counts as full. Else prove '..UptoSaid'. A law counts once. -/
mutual
def uptoBulk {H : Type} : DataW H → Nat
  | .lit (.string bytes) => bytes.length + 1
  | .lit _ => 1
  | .nil => 1
  | .ptr d => uptoBulk d + 1
  | .slice elems spare => uptoBulkAll elems + uptoBulkAll spare + 1
  | .agg parts => uptoBulkAll parts + 1
  | .iface _ d => uptoBulk d + 1
  | .map entries => uptoBulkEntries entries + 1
  | .held _ => 1
def uptoBulkAll {H : Type} : List (DataW H) → Nat
  | [] => 0
  | d :: r => uptoBulk d + uptoBulkAll r
def uptoBulkEntries {H : Type} : List (Lit × DataW H) → Nat
  | [] => 0
  | x :: r => uptoBulkEntry x + uptoBulkEntries r
def uptoBulkEntry {H : Type} : Lit × DataW H → Nat
  | (.string bytes, d) => bytes.length + uptoBulk d + 1
  | (_, d) => uptoBulk d + 1
 end
def uptoSmall : (H : Type) → List (DataW H) → Bool := fun _ ds => decide (uptoBulkAll ds ≤ 1048576)
def OpenSpec.upto (s : _root_.Go.ChangeSpec) : _root_.Go.OpenSpec := { _root_.Go.OpenSpec.ofChange s with cond := some uptoSmall }

/-- 'tracebooklaw51.HeapReaches', WHERE WHAT IT READS IS OF BULK AT MOST 1048576: true; the input reads as it did. -/
def heapReachesUptoRow : OpenClaim := { program := "ytliccamocpglcaa", sum := "eea8a5b5f4efa6d7be91cb02ae34fba916aa06bbe535560c654ce9388ff8b5d6", func := "tracebook/tracebooklaw51.HeapReaches", spec := "heapReaches", inPlace := ["internal/bytealg.IndexByteString"], unfollowed := true, recurses := true, apart := false, narrowed := true }
def HeapReachesUptoSaid : Prop := heapReachesUptoRow.holds Try.pinned (OpenSpec.upto heapReachesSpec)

/-- 'tracebooklaw51.HeapCloses', WHERE WHAT IT READS IS OF BULK AT MOST 1048576: true; the input reads as it did. -/
def heapClosesUptoRow : OpenClaim := { program := "ytliccamocpglcaa", sum := "eea8a5b5f4efa6d7be91cb02ae34fba916aa06bbe535560c654ce9388ff8b5d6", func := "tracebook/tracebooklaw51.HeapCloses", spec := "heapCloses", inPlace := ["internal/bytealg.IndexByteString"], unfollowed := true, recurses := true, apart := false, narrowed := true }
def HeapClosesUptoSaid : Prop := heapClosesUptoRow.holds Try.pinned (OpenSpec.upto heapClosesSpec)

/-- 'tracebooklaw51.HeapDominates', WHERE WHAT IT READS IS OF BULK AT MOST 1048576: true; the input reads as it did. -/
def heapDominatesUptoRow : OpenClaim := { program := "ytliccamocpglcaa", sum := "eea8a5b5f4efa6d7be91cb02ae34fba916aa06bbe535560c654ce9388ff8b5d6", func := "tracebook/tracebooklaw51.HeapDominates", spec := "heapDominates", inPlace := ["internal/bytealg.IndexByteString"], unfollowed := true, recurses := true, apart := false, narrowed := true }
def HeapDominatesUptoSaid : Prop := heapDominatesUptoRow.holds Try.pinned (OpenSpec.upto heapDominatesSpec)

/-- 'tracebooklaw51.HeapCuts', WHERE WHAT IT READS IS OF BULK AT MOST 1048576: true; the input reads as it did. -/
def heapCutsUptoRow : OpenClaim := { program := "ytliccamocpglcaa", sum := "eea8a5b5f4efa6d7be91cb02ae34fba916aa06bbe535560c654ce9388ff8b5d6", func := "tracebook/tracebooklaw51.HeapCuts", spec := "heapCuts", inPlace := ["internal/bytealg.IndexByteString"], unfollowed := true, recurses := true, apart := false, narrowed := true }
def HeapCutsUptoSaid : Prop := heapCutsUptoRow.holds Try.pinned (OpenSpec.upto heapCutsSpec)

/-- 'tracebooklaw51.HeapRetains', WHERE WHAT IT READS IS OF BULK AT MOST 1048576: true; the input reads as it did. -/
def heapRetainsUptoRow : OpenClaim := { program := "ytliccamocpglcaa", sum := "eea8a5b5f4efa6d7be91cb02ae34fba916aa06bbe535560c654ce9388ff8b5d6", func := "tracebook/tracebooklaw51.HeapRetains", spec := "heapRetains", inPlace := ["internal/bytealg.IndexByteString"], unfollowed := true, recurses := true, apart := false, narrowed := true }
def HeapRetainsUptoSaid : Prop := heapRetainsUptoRow.holds Try.pinned (OpenSpec.upto heapRetainsSpec)

/-- 'tracebooklaw51.HeapSums', WHERE WHAT IT READS IS OF BULK AT MOST 1048576: true; the input reads as it did. -/
def heapSumsUptoRow : OpenClaim := { program := "ytliccamocpglcaa", sum := "eea8a5b5f4efa6d7be91cb02ae34fba916aa06bbe535560c654ce9388ff8b5d6", func := "tracebook/tracebooklaw51.HeapSums", spec := "heapSums", inPlace := ["internal/bytealg.IndexByteString"], unfollowed := true, recurses := true, apart := false, narrowed := true }
def HeapSumsUptoSaid : Prop := heapSumsUptoRow.holds Try.pinned (OpenSpec.upto heapSumsSpec)

end Rows
end Go.Proofs.Ytliccamocpglcaa
