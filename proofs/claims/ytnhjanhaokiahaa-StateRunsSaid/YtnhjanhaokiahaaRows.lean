/-
  No cell of these rows narrows 'for every input' (looked for: loops, veiled, ifaces, maps, wideKeys, modest, calm, conditions, laid).
  DERIVED. THE GIVEN ROWS OF THIS SEAT. 4 by the template 'for every input the law returns true; each argument reads behind the call as it read before'; 0 by the template 'total and deterministic' (their statements: YtnhjanhaokiahaaTotals.lean).
  GIVEN WITH THE SEED: the statements are not yours to turn. If you find one false, say at which input.
  Laid BY PROGRAM, IN A SANDBOX (cutbox-rows.mjs): the forced cells as the released guide's own fill.sh prints them over the translation 1bf3bda1b1c86aa6… (all of the seat's roots in one cut). By AI agents, Wed Nov 11 2026. No macro, syntax, notation, axiom, sorry.
-/
import Derived.Test.YtnhjanhaokiahaaChecked
import GoSem.Claim
import GoSem.ClaimJoined
import GoSem.ClaimMapViews
import Derived.JoinedTies
import Derived.KernelRfl
namespace Go.Proofs.Ytnhjanhaokiahaa
/- THE CELL 'sum', in the pinned program and in every row, IS THE sha256 OF THE DUMP (.gsa) THAT YtnhjanhaokiahaaProg.lean LOADS. Nothing in Lean hashes anything: it is a label: what it is worth is what the hold of that sum in a sandbox is worth. -/
noncomputable def Try.pinned : Pinned := { name := "ytnhjanhaokiahaa", sum := "1bf3bda1b1c86aa612336bcc2acd54d04e7741bf8a1cf401c8d4edb9ec42e6ba", checked := Try.checked }
namespace Rows
def none {H : Type} : Left H := { results := [], args := [] }

/-- 'tracebooklaw27.StateOf': WHATEVER THE INPUT: true; the input reads as it did. -/
def stateOfSpec : ChangeSpec := { name := "stateOf", fn := fun _ => fun
  | [d1, d2, d3] => { results := [.lit (.bool true)], args := [d1, d2, d3] }
  | _ => none }
def stateOfRow : OpenClaim := { program := "ytnhjanhaokiahaa", sum := "1bf3bda1b1c86aa612336bcc2acd54d04e7741bf8a1cf401c8d4edb9ec42e6ba", func := "tracebook/tracebooklaw27.StateOf", spec := "stateOf", apart := false }
def StateOfSaid : Prop := stateOfRow.holds Try.pinned (OpenSpec.ofChange stateOfSpec)

/-- ITS FALSE NEIGHBOUR: 'it returns false'. Refute it at one input. -/
def stateOfWrong : ChangeSpec := { name := "stateOf", fn := fun _ => fun
  | [d1, d2, d3] => { results := [.lit (.bool false)], args := [d1, d2, d3] }
  | _ => none }
def StateOfWrongFalsely : Prop := stateOfRow.holds Try.pinned (OpenSpec.ofChange stateOfWrong)

/-- 'tracebooklaw27.StateAdds': WHATEVER THE INPUT: true; the input reads as it did. -/
def stateAddsSpec : ChangeSpec := { name := "stateAdds", fn := fun _ => fun
  | [d1, d2, d3, d4] => { results := [.lit (.bool true)], args := [d1, d2, d3, d4] }
  | _ => none }
def stateAddsRow : OpenClaim := { program := "ytnhjanhaokiahaa", sum := "1bf3bda1b1c86aa612336bcc2acd54d04e7741bf8a1cf401c8d4edb9ec42e6ba", func := "tracebook/tracebooklaw27.StateAdds", spec := "stateAdds", apart := false }
def StateAddsSaid : Prop := stateAddsRow.holds Try.pinned (OpenSpec.ofChange stateAddsSpec)

/-- ITS FALSE NEIGHBOUR: 'it returns false'. Refute it at one input. -/
def stateAddsWrong : ChangeSpec := { name := "stateAdds", fn := fun _ => fun
  | [d1, d2, d3, d4] => { results := [.lit (.bool false)], args := [d1, d2, d3, d4] }
  | _ => none }
def StateAddsWrongFalsely : Prop := stateAddsRow.holds Try.pinned (OpenSpec.ofChange stateAddsWrong)

/-- 'tracebooklaw27.StateAlone': WHATEVER THE INPUT: true; the input reads as it did. -/
def stateAloneSpec : ChangeSpec := { name := "stateAlone", fn := fun _ => fun
  | [d1, d2, d3] => { results := [.lit (.bool true)], args := [d1, d2, d3] }
  | _ => none }
def stateAloneRow : OpenClaim := { program := "ytnhjanhaokiahaa", sum := "1bf3bda1b1c86aa612336bcc2acd54d04e7741bf8a1cf401c8d4edb9ec42e6ba", func := "tracebook/tracebooklaw27.StateAlone", spec := "stateAlone", apart := false }
def StateAloneSaid : Prop := stateAloneRow.holds Try.pinned (OpenSpec.ofChange stateAloneSpec)

/-- ITS FALSE NEIGHBOUR: 'it returns false'. Refute it at one input. -/
def stateAloneWrong : ChangeSpec := { name := "stateAlone", fn := fun _ => fun
  | [d1, d2, d3] => { results := [.lit (.bool false)], args := [d1, d2, d3] }
  | _ => none }
def StateAloneWrongFalsely : Prop := stateAloneRow.holds Try.pinned (OpenSpec.ofChange stateAloneWrong)

/-- 'tracebooklaw27.StateRuns': WHATEVER THE INPUT: true; the input reads as it did. -/
def stateRunsSpec : ChangeSpec := { name := "stateRuns", fn := fun _ => fun
  | [d1, d2, d3, d4, d5] => { results := [.lit (.bool true)], args := [d1, d2, d3, d4, d5] }
  | _ => none }
def stateRunsRow : OpenClaim := { program := "ytnhjanhaokiahaa", sum := "1bf3bda1b1c86aa612336bcc2acd54d04e7741bf8a1cf401c8d4edb9ec42e6ba", func := "tracebook/tracebooklaw27.StateRuns", spec := "stateRuns", unfollowed := true, recurses := true, apart := false }
def StateRunsSaid : Prop := stateRunsRow.holds Try.pinned (OpenSpec.ofChange stateRunsSpec)

/-- ITS FALSE NEIGHBOUR: 'it returns false'. Refute it at one input. -/
def stateRunsWrong : ChangeSpec := { name := "stateRuns", fn := fun _ => fun
  | [d1, d2, d3, d4, d5] => { results := [.lit (.bool false)], args := [d1, d2, d3, d4, d5] }
  | _ => none }
def StateRunsWrongFalsely : Prop := stateRunsRow.holds Try.pinned (OpenSpec.ofChange stateRunsWrong)

/- THE SECOND FORM. 'bulk': how many values and letters a reading holds, each counted each time it is reached (what is shared counts as often as it is met; a slice's spare places count too). A statement '..UptoSaid' is the law's where the arguments, and the package variables that the reading takes, are together of bulk at most 1048576: NARROWER than '..Said'. Prove '..Said' where nothing that the law and all that it calls make is longer than what came in: it says more and counts as full. Else prove '..UptoSaid'. A law counts once. -/
mutual
def uptoBulk {H : Type} : DataW H → Nat
  | .lit (.string bytes) => bytes.length + 1
  | .lit _ => 1
  | .nil => 1
  | .ptr d => uptoBulk d + 1
  | .slice elems spare => uptoBulkAll elems + uptoBulkAll spare + 1
  | .agg parts => uptoBulkAll parts + 1
  | .iface _ d => uptoBulk d + 1
  | .map entries => uptoBulkEntries entries + 1
  | .held _ => 1
def uptoBulkAll {H : Type} : List (DataW H) → Nat
  | [] => 0
  | d :: r => uptoBulk d + uptoBulkAll r
def uptoBulkEntries {H : Type} : List (Lit × DataW H) → Nat
  | [] => 0
  | x :: r => uptoBulkEntry x + uptoBulkEntries r
def uptoBulkEntry {H : Type} : Lit × DataW H → Nat
  | (.string bytes, d) => bytes.length + uptoBulk d + 1
  | (_, d) => uptoBulk d + 1
 end
def uptoSmall : (H : Type) → List (DataW H) → Bool := fun _ ds => decide (uptoBulkAll ds ≤ 1048576)
def OpenSpec.upto (s : _root_.Go.ChangeSpec) : _root_.Go.OpenSpec := { _root_.Go.OpenSpec.ofChange s with cond := some uptoSmall }

/-- 'tracebooklaw27.StateOf', WHERE WHAT IT READS IS OF BULK AT MOST 1048576: true; the input reads as it did. -/
def stateOfUptoRow : OpenClaim := { program := "ytnhjanhaokiahaa", sum := "1bf3bda1b1c86aa612336bcc2acd54d04e7741bf8a1cf401c8d4edb9ec42e6ba", func := "tracebook/tracebooklaw27.StateOf", spec := "stateOf", apart := false, narrowed := true }
def StateOfUptoSaid : Prop := stateOfUptoRow.holds Try.pinned (OpenSpec.upto stateOfSpec)

/-- 'tracebooklaw27.StateAdds', WHERE WHAT IT READS IS OF BULK AT MOST 1048576: true; the input reads as it did. -/
def stateAddsUptoRow : OpenClaim := { program := "ytnhjanhaokiahaa", sum := "1bf3bda1b1c86aa612336bcc2acd54d04e7741bf8a1cf401c8d4edb9ec42e6ba", func := "tracebook/tracebooklaw27.StateAdds", spec := "stateAdds", apart := false, narrowed := true }
def StateAddsUptoSaid : Prop := stateAddsUptoRow.holds Try.pinned (OpenSpec.upto stateAddsSpec)

/-- 'tracebooklaw27.StateAlone', WHERE WHAT IT READS IS OF BULK AT MOST 1048576: true; the input reads as it did. -/
def stateAloneUptoRow : OpenClaim := { program := "ytnhjanhaokiahaa", sum := "1bf3bda1b1c86aa612336bcc2acd54d04e7741bf8a1cf401c8d4edb9ec42e6ba", func := "tracebook/tracebooklaw27.StateAlone", spec := "stateAlone", apart := false, narrowed := true }
def StateAloneUptoSaid : Prop := stateAloneUptoRow.holds Try.pinned (OpenSpec.upto stateAloneSpec)

/-- 'tracebooklaw27.StateRuns', WHERE WHAT IT READS IS OF BULK AT MOST 1048576: true; the input reads as it did. -/
def stateRunsUptoRow : OpenClaim := { program := "ytnhjanhaokiahaa", sum := "1bf3bda1b1c86aa612336bcc2acd54d04e7741bf8a1cf401c8d4edb9ec42e6ba", func := "tracebook/tracebooklaw27.StateRuns", spec := "stateRuns", unfollowed := true, recurses := true, apart := false, narrowed := true }
def StateRunsUptoSaid : Prop := stateRunsUptoRow.holds Try.pinned (OpenSpec.upto stateRunsSpec)

end Rows
end Go.Proofs.Ytnhjanhaokiahaa
