/-
  No cell of these rows narrows 'for every input' (looked for: loops, veiled, ifaces, maps, wideKeys, modest, calm, conditions, laid).
  DERIVED. THE GIVEN ROWS OF THIS SEAT. 3 by the template 'for every input the law returns true; each argument reads behind the call as it read before'; 0 by the template 'total and deterministic' (their statements: YtdpnoiebfagmfaaGreatTotals.lean).
  GIVEN WITH THE SEED: the statements are not yours to turn. If you find one false, say at which input.
  Laid BY PROGRAM, IN A SANDBOX (cutbox-rows.mjs): the forced cells as the released guide's own fill.sh prints them over the translation 1b0daefc99710959… (all of the seat's roots in one cut). By AI agents, Wed Nov 11 2026. No macro, syntax, notation, axiom, sorry.
-/
import Derived.Test.YtdpnoiebfagmfaaGreatChecked
import GoSem.Claim
import GoSem.ClaimJoined
import GoSem.ClaimMapViews
import Derived.JoinedTies
import Derived.KernelRfl
namespace Go.Proofs.YtdpnoiebfagmfaaGreat
/- THE CELL 'sum', in the pinned program and in every row, IS THE sha256 OF THE DUMP (.gsa) THAT YtdpnoiebfagmfaaGreatProg.lean LOADS. Nothing in Lean hashes anything: it is a label: what it is worth is what the hold of that sum in a sandbox is worth. -/
noncomputable def Tryz.pinned : Pinned := { name := "ytdpnoiebfagmfaagreat", sum := "1b0daefc99710959c6c19ccbdbcac37e55f531d6f0a415e03db37cb5f9083ea5", checked := Tryz.checked }
namespace Rows
def none {H : Type} : Left H := { results := [], args := [] }

/-- 'tracebooklaw48.CriticalPath': WHATEVER THE INPUT: true; the input reads as it did. -/
def criticalPathSpec : ChangeSpec := { name := "criticalPath", fn := fun _ => fun
  | [d1, d2, d3] => { results := [.lit (.bool true)], args := [d1, d2, d3] }
  | _ => none }
def criticalPathRow : OpenClaim := { program := "ytdpnoiebfagmfaagreat", sum := "1b0daefc99710959c6c19ccbdbcac37e55f531d6f0a415e03db37cb5f9083ea5", func := "tracebook/tracebooklaw48.CriticalPath", spec := "criticalPath", inPlace := ["internal/bytealg.IndexByteString"], unfollowed := true, recurses := true, apart := false }
def CriticalPathSaid : Prop := criticalPathRow.holds Tryz.pinned (OpenSpec.ofChange criticalPathSpec)

/-- ITS FALSE NEIGHBOUR: 'it returns false'. Refute it at one input. -/
def criticalPathWrong : ChangeSpec := { name := "criticalPath", fn := fun _ => fun
  | [d1, d2, d3] => { results := [.lit (.bool false)], args := [d1, d2, d3] }
  | _ => none }
def CriticalPathWrongFalsely : Prop := criticalPathRow.holds Tryz.pinned (OpenSpec.ofChange criticalPathWrong)

/-- 'tracebooklaw48.CriticalReads': WHATEVER THE INPUT: true; the input reads as it did. -/
def criticalReadsSpec : ChangeSpec := { name := "criticalReads", fn := fun _ => fun
  | [d1, d2, d3, d4, d5] => { results := [.lit (.bool true)], args := [d1, d2, d3, d4, d5] }
  | _ => none }
def criticalReadsRow : OpenClaim := { program := "ytdpnoiebfagmfaagreat", sum := "1b0daefc99710959c6c19ccbdbcac37e55f531d6f0a415e03db37cb5f9083ea5", func := "tracebook/tracebooklaw48.CriticalReads", spec := "criticalReads", inPlace := ["internal/bytealg.IndexByteString"], unfollowed := true, recurses := true, apart := false }
def CriticalReadsSaid : Prop := criticalReadsRow.holds Tryz.pinned (OpenSpec.ofChange criticalReadsSpec)

/-- ITS FALSE NEIGHBOUR: 'it returns false'. Refute it at one input. -/
def criticalReadsWrong : ChangeSpec := { name := "criticalReads", fn := fun _ => fun
  | [d1, d2, d3, d4, d5] => { results := [.lit (.bool false)], args := [d1, d2, d3, d4, d5] }
  | _ => none }
def CriticalReadsWrongFalsely : Prop := criticalReadsRow.holds Tryz.pinned (OpenSpec.ofChange criticalReadsWrong)

/-- 'tracebooklaw48.CriticalCovers': WHATEVER THE INPUT: true; the input reads as it did. -/
def criticalCoversSpec : ChangeSpec := { name := "criticalCovers", fn := fun _ => fun
  | [d1, d2, d3] => { results := [.lit (.bool true)], args := [d1, d2, d3] }
  | _ => none }
def criticalCoversRow : OpenClaim := { program := "ytdpnoiebfagmfaagreat", sum := "1b0daefc99710959c6c19ccbdbcac37e55f531d6f0a415e03db37cb5f9083ea5", func := "tracebook/tracebooklaw48.CriticalCovers", spec := "criticalCovers", inPlace := ["internal/bytealg.IndexByteString"], unfollowed := true, recurses := true, apart := false }
def CriticalCoversSaid : Prop := criticalCoversRow.holds Tryz.pinned (OpenSpec.ofChange criticalCoversSpec)

/-- ITS FALSE NEIGHBOUR: 'it returns false'. Refute it at one input. -/
def criticalCoversWrong : ChangeSpec := { name := "criticalCovers", fn := fun _ => fun
  | [d1, d2, d3] => { results := [.lit (.bool false)], args := [d1, d2, d3] }
  | _ => none }
def CriticalCoversWrongFalsely : Prop := criticalCoversRow.holds Tryz.pinned (OpenSpec.ofChange criticalCoversWrong)

/- THE SECOND FORM. 'bulk': how many values and letters a reading holds, each counted each time it is reached (what is shared counts as often as it is met; a slice's spare places count too). A statement '..UptoSaid' is the law's where the arguments, and the package variables that the reading takes, are together of bulk at most 1048576: NARROWER than '..Said'. Prove '..Said' where nothing that the law and all that it calls make is longer than what came in: it says more and counts as full. Else prove '..UptoSaid'. A law counts once. -/
mutual
def uptoBulk {H : Type} : DataW H → Nat
  | .lit (.string bytes) => bytes.length + 1
  | .lit _ => 1
  | .nil => 1
  | .ptr d => uptoBulk d + 1
  | .slice elems spare => uptoBulkAll elems + uptoBulkAll spare + 1
  | .agg parts => uptoBulkAll parts + 1
  | .iface _ d => uptoBulk d + 1
  | .map entries => uptoBulkEntries entries + 1
  | .held _ => 1
def uptoBulkAll {H : Type} : List (DataW H) → Nat
  | [] => 0
  | d :: r => uptoBulk d + uptoBulkAll r
def uptoBulkEntries {H : Type} : List (Lit × DataW H) → Nat
  | [] => 0
  | x :: r => uptoBulkEntry x + uptoBulkEntries r
def uptoBulkEntry {H : Type} : Lit × DataW H → Nat
  | (.string bytes, d) => bytes.length + uptoBulk d + 1
  | (_, d) => uptoBulk d + 1
 end
def uptoSmall : (H : Type) → List (DataW H) → Bool := fun _ ds => decide (uptoBulkAll ds ≤ 1048576)
def OpenSpec.upto (s : _root_.Go.ChangeSpec) : _root_.Go.OpenSpec := { _root_.Go.OpenSpec.ofChange s with cond := some uptoSmall }

/-- 'tracebooklaw48.CriticalPath', WHERE WHAT IT READS IS OF BULK AT MOST 1048576: true; the input reads as it did. -/
def criticalPathUptoRow : OpenClaim := { program := "ytdpnoiebfagmfaagreat", sum := "1b0daefc99710959c6c19ccbdbcac37e55f531d6f0a415e03db37cb5f9083ea5", func := "tracebook/tracebooklaw48.CriticalPath", spec := "criticalPath", inPlace := ["internal/bytealg.IndexByteString"], unfollowed := true, recurses := true, apart := false, narrowed := true }
def CriticalPathUptoSaid : Prop := criticalPathUptoRow.holds Tryz.pinned (OpenSpec.upto criticalPathSpec)

/-- 'tracebooklaw48.CriticalReads', WHERE WHAT IT READS IS OF BULK AT MOST 1048576: true; the input reads as it did. -/
def criticalReadsUptoRow : OpenClaim := { program := "ytdpnoiebfagmfaagreat", sum := "1b0daefc99710959c6c19ccbdbcac37e55f531d6f0a415e03db37cb5f9083ea5", func := "tracebook/tracebooklaw48.CriticalReads", spec := "criticalReads", inPlace := ["internal/bytealg.IndexByteString"], unfollowed := true, recurses := true, apart := false, narrowed := true }
def CriticalReadsUptoSaid : Prop := criticalReadsUptoRow.holds Tryz.pinned (OpenSpec.upto criticalReadsSpec)

/-- 'tracebooklaw48.CriticalCovers', WHERE WHAT IT READS IS OF BULK AT MOST 1048576: true; the input reads as it did. -/
def criticalCoversUptoRow : OpenClaim := { program := "ytdpnoiebfagmfaagreat", sum := "1b0daefc99710959c6c19ccbdbcac37e55f531d6f0a415e03db37cb5f9083ea5", func := "tracebook/tracebooklaw48.CriticalCovers", spec := "criticalCovers", inPlace := ["internal/bytealg.IndexByteString"], unfollowed := true, recurses := true, apart := false, narrowed := true }
def CriticalCoversUptoSaid : Prop := criticalCoversUptoRow.holds Tryz.pinned (OpenSpec.upto criticalCoversSpec)

end Rows
end Go.Proofs.YtdpnoiebfagmfaaGreat
