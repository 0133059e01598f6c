/-
  No cell of these rows narrows 'for every input' (looked for: loops, veiled, ifaces, maps, wideKeys, modest, calm, conditions, laid).
  DERIVED. THE GIVEN ROWS OF THIS SEAT. 5 by the template 'for every input the law returns true; each argument reads behind the call as it read before'; 0 by the template 'total and deterministic' (their statements: YtkemjaomoopdnaaGreatTotals.lean).
  GIVEN WITH THE SEED: the statements are not yours to turn. If you find one false, say at which input.
  Laid BY PROGRAM, IN A SANDBOX (cutbox-rows.mjs): the forced cells as the released guide's own fill.sh prints them over the translation ca1a8fd2de06d752… (all of the seat's roots in one cut). By AI agents, Wed Nov 11 2026. No macro, syntax, notation, axiom, sorry.
-/
import Derived.Test.YtkemjaomoopdnaaGreatChecked
import GoSem.Claim
import GoSem.ClaimJoined
import GoSem.ClaimMapViews
import Derived.JoinedTies
import Derived.KernelRfl
namespace Go.Proofs.YtkemjaomoopdnaaGreat
/- THE CELL 'sum', in the pinned program and in every row, IS THE sha256 OF THE DUMP (.gsa) THAT YtkemjaomoopdnaaGreatProg.lean LOADS. Nothing in Lean hashes anything: it is a label: what it is worth is what the hold of that sum in a sandbox is worth. -/
noncomputable def Tryz.pinned : Pinned := { name := "ytkemjaomoopdnaagreat", sum := "ca1a8fd2de06d752f5902ea0fbc05320eb5f3aa3e97f6732c470bd8b964b8f19", checked := Tryz.checked }
namespace Rows
def none {H : Type} : Left H := { results := [], args := [] }

/-- 'tracebooklaw54.AnomalyOf': WHATEVER THE INPUT: true; the input reads as it did. -/
def anomalyOfSpec : ChangeSpec := { name := "anomalyOf", fn := fun _ => fun
  | [d1, d2, d3] => { results := [.lit (.bool true)], args := [d1, d2, d3] }
  | _ => none }
def anomalyOfRow : OpenClaim := { program := "ytkemjaomoopdnaagreat", sum := "ca1a8fd2de06d752f5902ea0fbc05320eb5f3aa3e97f6732c470bd8b964b8f19", func := "tracebook/tracebooklaw54.AnomalyOf", spec := "anomalyOf", inPlace := ["internal/bytealg.IndexByteString"], unfollowed := true, recurses := true, named := ["math/bits.divideError", "math/bits.overflowError"], apart := false }
def AnomalyOfSaid : Prop := anomalyOfRow.holds Tryz.pinned (OpenSpec.ofChange anomalyOfSpec)

/-- ITS FALSE NEIGHBOUR: 'it returns false'. Refute it at one input. -/
def anomalyOfWrong : ChangeSpec := { name := "anomalyOf", fn := fun _ => fun
  | [d1, d2, d3] => { results := [.lit (.bool false)], args := [d1, d2, d3] }
  | _ => none }
def AnomalyOfWrongFalsely : Prop := anomalyOfRow.holds Tryz.pinned (OpenSpec.ofChange anomalyOfWrong)

/-- 'tracebooklaw54.AnomalyStricter': WHATEVER THE INPUT: true; the input reads as it did. -/
def anomalyStricterSpec : ChangeSpec := { name := "anomalyStricter", fn := fun _ => fun
  | [d1, d2, d3, d4, d5] => { results := [.lit (.bool true)], args := [d1, d2, d3, d4, d5] }
  | _ => none }
def anomalyStricterRow : OpenClaim := { program := "ytkemjaomoopdnaagreat", sum := "ca1a8fd2de06d752f5902ea0fbc05320eb5f3aa3e97f6732c470bd8b964b8f19", func := "tracebook/tracebooklaw54.AnomalyStricter", spec := "anomalyStricter", inPlace := ["internal/bytealg.IndexByteString"], unfollowed := true, recurses := true, named := ["math/bits.divideError", "math/bits.overflowError"], apart := false }
def AnomalyStricterSaid : Prop := anomalyStricterRow.holds Tryz.pinned (OpenSpec.ofChange anomalyStricterSpec)

/-- ITS FALSE NEIGHBOUR: 'it returns false'. Refute it at one input. -/
def anomalyStricterWrong : ChangeSpec := { name := "anomalyStricter", fn := fun _ => fun
  | [d1, d2, d3, d4, d5] => { results := [.lit (.bool false)], args := [d1, d2, d3, d4, d5] }
  | _ => none }
def AnomalyStricterWrongFalsely : Prop := anomalyStricterRow.holds Tryz.pinned (OpenSpec.ofChange anomalyStricterWrong)

/-- 'tracebooklaw54.AnomalyMost': WHATEVER THE INPUT: true; the input reads as it did. -/
def anomalyMostSpec : ChangeSpec := { name := "anomalyMost", fn := fun _ => fun
  | [d1, d2, d3] => { results := [.lit (.bool true)], args := [d1, d2, d3] }
  | _ => none }
def anomalyMostRow : OpenClaim := { program := "ytkemjaomoopdnaagreat", sum := "ca1a8fd2de06d752f5902ea0fbc05320eb5f3aa3e97f6732c470bd8b964b8f19", func := "tracebook/tracebooklaw54.AnomalyMost", spec := "anomalyMost", inPlace := ["internal/bytealg.IndexByteString"], unfollowed := true, recurses := true, named := ["math/bits.divideError", "math/bits.overflowError"], apart := false }
def AnomalyMostSaid : Prop := anomalyMostRow.holds Tryz.pinned (OpenSpec.ofChange anomalyMostSpec)

/-- ITS FALSE NEIGHBOUR: 'it returns false'. Refute it at one input. -/
def anomalyMostWrong : ChangeSpec := { name := "anomalyMost", fn := fun _ => fun
  | [d1, d2, d3] => { results := [.lit (.bool false)], args := [d1, d2, d3] }
  | _ => none }
def AnomalyMostWrongFalsely : Prop := anomalyMostRow.holds Tryz.pinned (OpenSpec.ofChange anomalyMostWrong)

/-- 'tracebooklaw54.AnomalyReads': WHATEVER THE INPUT: true; the input reads as it did. -/
def anomalyReadsSpec : ChangeSpec := { name := "anomalyReads", fn := fun _ => fun
  | [d1, d2, d3] => { results := [.lit (.bool true)], args := [d1, d2, d3] }
  | _ => none }
def anomalyReadsRow : OpenClaim := { program := "ytkemjaomoopdnaagreat", sum := "ca1a8fd2de06d752f5902ea0fbc05320eb5f3aa3e97f6732c470bd8b964b8f19", func := "tracebook/tracebooklaw54.AnomalyReads", spec := "anomalyReads", inPlace := ["internal/bytealg.IndexByteString"], unfollowed := true, recurses := true, named := ["math/bits.divideError", "math/bits.overflowError"], apart := false }
def AnomalyReadsSaid : Prop := anomalyReadsRow.holds Tryz.pinned (OpenSpec.ofChange anomalyReadsSpec)

/-- ITS FALSE NEIGHBOUR: 'it returns false'. Refute it at one input. -/
def anomalyReadsWrong : ChangeSpec := { name := "anomalyReads", fn := fun _ => fun
  | [d1, d2, d3] => { results := [.lit (.bool false)], args := [d1, d2, d3] }
  | _ => none }
def AnomalyReadsWrongFalsely : Prop := anomalyReadsRow.holds Tryz.pinned (OpenSpec.ofChange anomalyReadsWrong)

/-- 'tracebooklaw54.AnomalyExact': WHATEVER THE INPUT: true; the input reads as it did. -/
def anomalyExactSpec : ChangeSpec := { name := "anomalyExact", fn := fun _ => fun
  | [d1, d2, d3] => { results := [.lit (.bool true)], args := [d1, d2, d3] }
  | _ => none }
def anomalyExactRow : OpenClaim := { program := "ytkemjaomoopdnaagreat", sum := "ca1a8fd2de06d752f5902ea0fbc05320eb5f3aa3e97f6732c470bd8b964b8f19", func := "tracebook/tracebooklaw54.AnomalyExact", spec := "anomalyExact", inPlace := ["internal/bytealg.IndexByteString"], unfollowed := true, recurses := true, named := ["math/bits.divideError", "math/bits.overflowError"], apart := false }
def AnomalyExactSaid : Prop := anomalyExactRow.holds Tryz.pinned (OpenSpec.ofChange anomalyExactSpec)

/-- ITS FALSE NEIGHBOUR: 'it returns false'. Refute it at one input. -/
def anomalyExactWrong : ChangeSpec := { name := "anomalyExact", fn := fun _ => fun
  | [d1, d2, d3] => { results := [.lit (.bool false)], args := [d1, d2, d3] }
  | _ => none }
def AnomalyExactWrongFalsely : Prop := anomalyExactRow.holds Tryz.pinned (OpenSpec.ofChange anomalyExactWrong)

/- THE SECOND FORM. 'bulk': how many values and letters a reading holds, each counted each time it is reached (what is shared counts as often as it is met; a slice's spare places count too). A statement '..UptoSaid' is the law's where the arguments, and the package variables that the reading takes, are together of bulk at most 1048576: NARROWER than '..Said'. Prove '..Said' where nothing that the law and all that it calls make is longer than what came in: it says more and counts as full. Else prove '..UptoSaid'. A law counts once. -/
mutual
def uptoBulk {H : Type} : DataW H → Nat
  | .lit (.string bytes) => bytes.length + 1
  | .lit _ => 1
  | .nil => 1
  | .ptr d => uptoBulk d + 1
  | .slice elems spare => uptoBulkAll elems + uptoBulkAll spare + 1
  | .agg parts => uptoBulkAll parts + 1
  | .iface _ d => uptoBulk d + 1
  | .map entries => uptoBulkEntries entries + 1
  | .held _ => 1
def uptoBulkAll {H : Type} : List (DataW H) → Nat
  | [] => 0
  | d :: r => uptoBulk d + uptoBulkAll r
def uptoBulkEntries {H : Type} : List (Lit × DataW H) → Nat
  | [] => 0
  | x :: r => uptoBulkEntry x + uptoBulkEntries r
def uptoBulkEntry {H : Type} : Lit × DataW H → Nat
  | (.string bytes, d) => bytes.length + uptoBulk d + 1
  | (_, d) => uptoBulk d + 1
 end
def uptoSmall : (H : Type) → List (DataW H) → Bool := fun _ ds => decide (uptoBulkAll ds ≤ 1048576)
def OpenSpec.upto (s : _root_.Go.ChangeSpec) : _root_.Go.OpenSpec := { _root_.Go.OpenSpec.ofChange s with cond := some uptoSmall }

/-- 'tracebooklaw54.AnomalyOf', WHERE WHAT IT READS IS OF BULK AT MOST 1048576: true; the input reads as it did. -/
def anomalyOfUptoRow : OpenClaim := { program := "ytkemjaomoopdnaagreat", sum := "ca1a8fd2de06d752f5902ea0fbc05320eb5f3aa3e97f6732c470bd8b964b8f19", func := "tracebook/tracebooklaw54.AnomalyOf", spec := "anomalyOf", inPlace := ["internal/bytealg.IndexByteString"], unfollowed := true, recurses := true, named := ["math/bits.divideError", "math/bits.overflowError"], apart := false, narrowed := true }
def AnomalyOfUptoSaid : Prop := anomalyOfUptoRow.holds Tryz.pinned (OpenSpec.upto anomalyOfSpec)

/-- 'tracebooklaw54.AnomalyStricter', WHERE WHAT IT READS IS OF BULK AT MOST 1048576: true; the input reads as it did. -/
def anomalyStricterUptoRow : OpenClaim := { program := "ytkemjaomoopdnaagreat", sum := "ca1a8fd2de06d752f5902ea0fbc05320eb5f3aa3e97f6732c470bd8b964b8f19", func := "tracebook/tracebooklaw54.AnomalyStricter", spec := "anomalyStricter", inPlace := ["internal/bytealg.IndexByteString"], unfollowed := true, recurses := true, named := ["math/bits.divideError", "math/bits.overflowError"], apart := false, narrowed := true }
def AnomalyStricterUptoSaid : Prop := anomalyStricterUptoRow.holds Tryz.pinned (OpenSpec.upto anomalyStricterSpec)

/-- 'tracebooklaw54.AnomalyMost', WHERE WHAT IT READS IS OF BULK AT MOST 1048576: true; the input reads as it did. -/
def anomalyMostUptoRow : OpenClaim := { program := "ytkemjaomoopdnaagreat", sum := "ca1a8fd2de06d752f5902ea0fbc05320eb5f3aa3e97f6732c470bd8b964b8f19", func := "tracebook/tracebooklaw54.AnomalyMost", spec := "anomalyMost", inPlace := ["internal/bytealg.IndexByteString"], unfollowed := true, recurses := true, named := ["math/bits.divideError", "math/bits.overflowError"], apart := false, narrowed := true }
def AnomalyMostUptoSaid : Prop := anomalyMostUptoRow.holds Tryz.pinned (OpenSpec.upto anomalyMostSpec)

/-- 'tracebooklaw54.AnomalyReads', WHERE WHAT IT READS IS OF BULK AT MOST 1048576: true; the input reads as it did. -/
def anomalyReadsUptoRow : OpenClaim := { program := "ytkemjaomoopdnaagreat", sum := "ca1a8fd2de06d752f5902ea0fbc05320eb5f3aa3e97f6732c470bd8b964b8f19", func := "tracebook/tracebooklaw54.AnomalyReads", spec := "anomalyReads", inPlace := ["internal/bytealg.IndexByteString"], unfollowed := true, recurses := true, named := ["math/bits.divideError", "math/bits.overflowError"], apart := false, narrowed := true }
def AnomalyReadsUptoSaid : Prop := anomalyReadsUptoRow.holds Tryz.pinned (OpenSpec.upto anomalyReadsSpec)

/-- 'tracebooklaw54.AnomalyExact', WHERE WHAT IT READS IS OF BULK AT MOST 1048576: true; the input reads as it did. -/
def anomalyExactUptoRow : OpenClaim := { program := "ytkemjaomoopdnaagreat", sum := "ca1a8fd2de06d752f5902ea0fbc05320eb5f3aa3e97f6732c470bd8b964b8f19", func := "tracebook/tracebooklaw54.AnomalyExact", spec := "anomalyExact", inPlace := ["internal/bytealg.IndexByteString"], unfollowed := true, recurses := true, named := ["math/bits.divideError", "math/bits.overflowError"], apart := false, narrowed := true }
def AnomalyExactUptoSaid : Prop := anomalyExactUptoRow.holds Tryz.pinned (OpenSpec.upto anomalyExactSpec)

end Rows
end Go.Proofs.YtkemjaomoopdnaaGreat
