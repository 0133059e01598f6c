/-
  No cell of these rows narrows 'for every input' (looked for: loops, veiled, ifaces, maps, wideKeys, modest, calm, conditions, laid).
  DERIVED. THE GIVEN ROWS OF THIS SEAT. 6 by the template 'for every input the law returns true; each argument reads behind the call as it read before'; 0 by the template 'total and deterministic' (their statements: YtnngonjaoebkfaaGreatTotals.lean).
  GIVEN WITH THE SEED: the statements are not yours to turn. If you find one false, say at which input.
  Laid BY PROGRAM, IN A SANDBOX (cutbox-rows.mjs): the forced cells as the released guide's own fill.sh prints them over the translation 83f80c1cb6dbe281… (all of the seat's roots in one cut). By AI agents, Wed Nov 11 2026. No macro, syntax, notation, axiom, sorry.
-/
import Derived.Test.YtnngonjaoebkfaaGreatChecked
import GoSem.Claim
import GoSem.ClaimJoined
import GoSem.ClaimMapViews
import Derived.JoinedTies
import Derived.KernelRfl
namespace Go.Proofs.YtnngonjaoebkfaaGreat
/- THE CELL 'sum', in the pinned program and in every row, IS THE sha256 OF THE DUMP (.gsa) THAT YtnngonjaoebkfaaGreatProg.lean LOADS. Nothing in Lean hashes anything: it is a label: what it is worth is what the hold of that sum in a sandbox is worth. -/
noncomputable def Tryz.pinned : Pinned := { name := "ytnngonjaoebkfaagreat", sum := "83f80c1cb6dbe281b4f75fd99315b991645cb123b8b8d8b00718da3a34280c7f", checked := Tryz.checked }
namespace Rows
def none {H : Type} : Left H := { results := [], args := [] }

/-- 'tracebooklaw49.LatencyExact': WHATEVER THE INPUT: true; the input reads as it did. -/
def latencyExactSpec : ChangeSpec := { name := "latencyExact", fn := fun _ => fun
  | [d1, d2, d3] => { results := [.lit (.bool true)], args := [d1, d2, d3] }
  | _ => none }
def latencyExactRow : OpenClaim := { program := "ytnngonjaoebkfaagreat", sum := "83f80c1cb6dbe281b4f75fd99315b991645cb123b8b8d8b00718da3a34280c7f", func := "tracebook/tracebooklaw49.LatencyExact", spec := "latencyExact", inPlace := ["internal/bytealg.IndexByteString"], unfollowed := true, recurses := true, named := ["math/bits.divideError", "math/bits.overflowError"], apart := false }
def LatencyExactSaid : Prop := latencyExactRow.holds Tryz.pinned (OpenSpec.ofChange latencyExactSpec)

/-- ITS FALSE NEIGHBOUR: 'it returns false'. Refute it at one input. -/
def latencyExactWrong : ChangeSpec := { name := "latencyExact", fn := fun _ => fun
  | [d1, d2, d3] => { results := [.lit (.bool false)], args := [d1, d2, d3] }
  | _ => none }
def LatencyExactWrongFalsely : Prop := latencyExactRow.holds Tryz.pinned (OpenSpec.ofChange latencyExactWrong)

/-- 'tracebooklaw49.LatencyQuantiles': WHATEVER THE INPUT: true; the input reads as it did. -/
def latencyQuantilesSpec : ChangeSpec := { name := "latencyQuantiles", fn := fun _ => fun
  | [d1, d2, d3] => { results := [.lit (.bool true)], args := [d1, d2, d3] }
  | _ => none }
def latencyQuantilesRow : OpenClaim := { program := "ytnngonjaoebkfaagreat", sum := "83f80c1cb6dbe281b4f75fd99315b991645cb123b8b8d8b00718da3a34280c7f", func := "tracebook/tracebooklaw49.LatencyQuantiles", spec := "latencyQuantiles", inPlace := ["internal/bytealg.IndexByteString"], unfollowed := true, recurses := true, named := ["math/bits.divideError", "math/bits.overflowError"], apart := false }
def LatencyQuantilesSaid : Prop := latencyQuantilesRow.holds Tryz.pinned (OpenSpec.ofChange latencyQuantilesSpec)

/-- ITS FALSE NEIGHBOUR: 'it returns false'. Refute it at one input. -/
def latencyQuantilesWrong : ChangeSpec := { name := "latencyQuantiles", fn := fun _ => fun
  | [d1, d2, d3] => { results := [.lit (.bool false)], args := [d1, d2, d3] }
  | _ => none }
def LatencyQuantilesWrongFalsely : Prop := latencyQuantilesRow.holds Tryz.pinned (OpenSpec.ofChange latencyQuantilesWrong)

/-- 'tracebooklaw49.LatencyHistogram': WHATEVER THE INPUT: true; the input reads as it did. -/
def latencyHistogramSpec : ChangeSpec := { name := "latencyHistogram", fn := fun _ => fun
  | [d] => { results := [.lit (.bool true)], args := [d] }
  | _ => none }
def latencyHistogramRow : OpenClaim := { program := "ytnngonjaoebkfaagreat", sum := "83f80c1cb6dbe281b4f75fd99315b991645cb123b8b8d8b00718da3a34280c7f", func := "tracebook/tracebooklaw49.LatencyHistogram", spec := "latencyHistogram", inPlace := ["internal/bytealg.IndexByteString"], unfollowed := true, recurses := true, named := ["math/bits.divideError", "math/bits.overflowError"], apart := false }
def LatencyHistogramSaid : Prop := latencyHistogramRow.holds Tryz.pinned (OpenSpec.ofChange latencyHistogramSpec)

/-- ITS FALSE NEIGHBOUR: 'it returns false'. Refute it at one input. -/
def latencyHistogramWrong : ChangeSpec := { name := "latencyHistogram", fn := fun _ => fun
  | [d] => { results := [.lit (.bool false)], args := [d] }
  | _ => none }
def LatencyHistogramWrongFalsely : Prop := latencyHistogramRow.holds Tryz.pinned (OpenSpec.ofChange latencyHistogramWrong)

/-- 'tracebooklaw49.LatencyAll': WHATEVER THE INPUT: true; the input reads as it did. -/
def latencyAllSpec : ChangeSpec := { name := "latencyAll", fn := fun _ => fun
  | [d] => { results := [.lit (.bool true)], args := [d] }
  | _ => none }
def latencyAllRow : OpenClaim := { program := "ytnngonjaoebkfaagreat", sum := "83f80c1cb6dbe281b4f75fd99315b991645cb123b8b8d8b00718da3a34280c7f", func := "tracebook/tracebooklaw49.LatencyAll", spec := "latencyAll", inPlace := ["internal/bytealg.IndexByteString"], unfollowed := true, recurses := true, named := ["math/bits.divideError", "math/bits.overflowError"], apart := false }
def LatencyAllSaid : Prop := latencyAllRow.holds Tryz.pinned (OpenSpec.ofChange latencyAllSpec)

/-- ITS FALSE NEIGHBOUR: 'it returns false'. Refute it at one input. -/
def latencyAllWrong : ChangeSpec := { name := "latencyAll", fn := fun _ => fun
  | [d] => { results := [.lit (.bool false)], args := [d] }
  | _ => none }
def LatencyAllWrongFalsely : Prop := latencyAllRow.holds Tryz.pinned (OpenSpec.ofChange latencyAllWrong)

/-- 'tracebooklaw49.LatencyWorst': WHATEVER THE INPUT: true; the input reads as it did. -/
def latencyWorstSpec : ChangeSpec := { name := "latencyWorst", fn := fun _ => fun
  | [d1, d2] => { results := [.lit (.bool true)], args := [d1, d2] }
  | _ => none }
def latencyWorstRow : OpenClaim := { program := "ytnngonjaoebkfaagreat", sum := "83f80c1cb6dbe281b4f75fd99315b991645cb123b8b8d8b00718da3a34280c7f", func := "tracebook/tracebooklaw49.LatencyWorst", spec := "latencyWorst", inPlace := ["internal/bytealg.IndexByteString"], unfollowed := true, recurses := true, named := ["math/bits.divideError", "math/bits.overflowError"], apart := false }
def LatencyWorstSaid : Prop := latencyWorstRow.holds Tryz.pinned (OpenSpec.ofChange latencyWorstSpec)

/-- ITS FALSE NEIGHBOUR: 'it returns false'. Refute it at one input. -/
def latencyWorstWrong : ChangeSpec := { name := "latencyWorst", fn := fun _ => fun
  | [d1, d2] => { results := [.lit (.bool false)], args := [d1, d2] }
  | _ => none }
def LatencyWorstWrongFalsely : Prop := latencyWorstRow.holds Tryz.pinned (OpenSpec.ofChange latencyWorstWrong)

/-- 'tracebooklaw49.LatencyReady': WHATEVER THE INPUT: true; the input reads as it did. -/
def latencyReadySpec : ChangeSpec := { name := "latencyReady", fn := fun _ => fun
  | [d1, d2] => { results := [.lit (.bool true)], args := [d1, d2] }
  | _ => none }
def latencyReadyRow : OpenClaim := { program := "ytnngonjaoebkfaagreat", sum := "83f80c1cb6dbe281b4f75fd99315b991645cb123b8b8d8b00718da3a34280c7f", func := "tracebook/tracebooklaw49.LatencyReady", spec := "latencyReady", inPlace := ["internal/bytealg.IndexByteString"], unfollowed := true, recurses := true, named := ["math/bits.divideError", "math/bits.overflowError"], apart := false }
def LatencyReadySaid : Prop := latencyReadyRow.holds Tryz.pinned (OpenSpec.ofChange latencyReadySpec)

/-- ITS FALSE NEIGHBOUR: 'it returns false'. Refute it at one input. -/
def latencyReadyWrong : ChangeSpec := { name := "latencyReady", fn := fun _ => fun
  | [d1, d2] => { results := [.lit (.bool false)], args := [d1, d2] }
  | _ => none }
def LatencyReadyWrongFalsely : Prop := latencyReadyRow.holds Tryz.pinned (OpenSpec.ofChange latencyReadyWrong)

/- THE SECOND FORM. 'bulk': how many values and letters a reading holds, each counted each time it is reached (what is shared counts as often as it is met; a slice's spare places count too). A statement '..UptoSaid' is the law's where the arguments, and the package variables that the reading takes, are together of bulk at most 1048576: NARROWER than '..Said'. Prove '..Said' where nothing that the law and all that it calls make is longer than what came in: it says more and counts as full. Else prove '..UptoSaid'. A law counts once. -/
mutual
def uptoBulk {H : Type} : DataW H → Nat
  | .lit (.string bytes) => bytes.length + 1
  | .lit _ => 1
  | .nil => 1
  | .ptr d => uptoBulk d + 1
  | .slice elems spare => uptoBulkAll elems + uptoBulkAll spare + 1
  | .agg parts => uptoBulkAll parts + 1
  | .iface _ d => uptoBulk d + 1
  | .map entries => uptoBulkEntries entries + 1
  | .held _ => 1
def uptoBulkAll {H : Type} : List (DataW H) → Nat
  | [] => 0
  | d :: r => uptoBulk d + uptoBulkAll r
def uptoBulkEntries {H : Type} : List (Lit × DataW H) → Nat
  | [] => 0
  | x :: r => uptoBulkEntry x + uptoBulkEntries r
def uptoBulkEntry {H : Type} : Lit × DataW H → Nat
  | (.string bytes, d) => bytes.length + uptoBulk d + 1
  | (_, d) => uptoBulk d + 1
 end
def uptoSmall : (H : Type) → List (DataW H) → Bool := fun _ ds => decide (uptoBulkAll ds ≤ 1048576)
def OpenSpec.upto (s : _root_.Go.ChangeSpec) : _root_.Go.OpenSpec := { _root_.Go.OpenSpec.ofChange s with cond := some uptoSmall }

/-- 'tracebooklaw49.LatencyExact', WHERE WHAT IT READS IS OF BULK AT MOST 1048576: true; the input reads as it did. -/
def latencyExactUptoRow : OpenClaim := { program := "ytnngonjaoebkfaagreat", sum := "83f80c1cb6dbe281b4f75fd99315b991645cb123b8b8d8b00718da3a34280c7f", func := "tracebook/tracebooklaw49.LatencyExact", spec := "latencyExact", inPlace := ["internal/bytealg.IndexByteString"], unfollowed := true, recurses := true, named := ["math/bits.divideError", "math/bits.overflowError"], apart := false, narrowed := true }
def LatencyExactUptoSaid : Prop := latencyExactUptoRow.holds Tryz.pinned (OpenSpec.upto latencyExactSpec)

/-- 'tracebooklaw49.LatencyQuantiles', WHERE WHAT IT READS IS OF BULK AT MOST 1048576: true; the input reads as it did. -/
def latencyQuantilesUptoRow : OpenClaim := { program := "ytnngonjaoebkfaagreat", sum := "83f80c1cb6dbe281b4f75fd99315b991645cb123b8b8d8b00718da3a34280c7f", func := "tracebook/tracebooklaw49.LatencyQuantiles", spec := "latencyQuantiles", inPlace := ["internal/bytealg.IndexByteString"], unfollowed := true, recurses := true, named := ["math/bits.divideError", "math/bits.overflowError"], apart := false, narrowed := true }
def LatencyQuantilesUptoSaid : Prop := latencyQuantilesUptoRow.holds Tryz.pinned (OpenSpec.upto latencyQuantilesSpec)

/-- 'tracebooklaw49.LatencyHistogram', WHERE WHAT IT READS IS OF BULK AT MOST 1048576: true; the input reads as it did. -/
def latencyHistogramUptoRow : OpenClaim := { program := "ytnngonjaoebkfaagreat", sum := "83f80c1cb6dbe281b4f75fd99315b991645cb123b8b8d8b00718da3a34280c7f", func := "tracebook/tracebooklaw49.LatencyHistogram", spec := "latencyHistogram", inPlace := ["internal/bytealg.IndexByteString"], unfollowed := true, recurses := true, named := ["math/bits.divideError", "math/bits.overflowError"], apart := false, narrowed := true }
def LatencyHistogramUptoSaid : Prop := latencyHistogramUptoRow.holds Tryz.pinned (OpenSpec.upto latencyHistogramSpec)

/-- 'tracebooklaw49.LatencyAll', WHERE WHAT IT READS IS OF BULK AT MOST 1048576: true; the input reads as it did. -/
def latencyAllUptoRow : OpenClaim := { program := "ytnngonjaoebkfaagreat", sum := "83f80c1cb6dbe281b4f75fd99315b991645cb123b8b8d8b00718da3a34280c7f", func := "tracebook/tracebooklaw49.LatencyAll", spec := "latencyAll", inPlace := ["internal/bytealg.IndexByteString"], unfollowed := true, recurses := true, named := ["math/bits.divideError", "math/bits.overflowError"], apart := false, narrowed := true }
def LatencyAllUptoSaid : Prop := latencyAllUptoRow.holds Tryz.pinned (OpenSpec.upto latencyAllSpec)

/-- 'tracebooklaw49.LatencyWorst', WHERE WHAT IT READS IS OF BULK AT MOST 1048576: true; the input reads as it did. -/
def latencyWorstUptoRow : OpenClaim := { program := "ytnngonjaoebkfaagreat", sum := "83f80c1cb6dbe281b4f75fd99315b991645cb123b8b8d8b00718da3a34280c7f", func := "tracebook/tracebooklaw49.LatencyWorst", spec := "latencyWorst", inPlace := ["internal/bytealg.IndexByteString"], unfollowed := true, recurses := true, named := ["math/bits.divideError", "math/bits.overflowError"], apart := false, narrowed := true }
def LatencyWorstUptoSaid : Prop := latencyWorstUptoRow.holds Tryz.pinned (OpenSpec.upto latencyWorstSpec)

/-- 'tracebooklaw49.LatencyReady', WHERE WHAT IT READS IS OF BULK AT MOST 1048576: true; the input reads as it did. -/
def latencyReadyUptoRow : OpenClaim := { program := "ytnngonjaoebkfaagreat", sum := "83f80c1cb6dbe281b4f75fd99315b991645cb123b8b8d8b00718da3a34280c7f", func := "tracebook/tracebooklaw49.LatencyReady", spec := "latencyReady", inPlace := ["internal/bytealg.IndexByteString"], unfollowed := true, recurses := true, named := ["math/bits.divideError", "math/bits.overflowError"], apart := false, narrowed := true }
def LatencyReadyUptoSaid : Prop := latencyReadyUptoRow.holds Tryz.pinned (OpenSpec.upto latencyReadySpec)

end Rows
end Go.Proofs.YtnngonjaoebkfaaGreat
