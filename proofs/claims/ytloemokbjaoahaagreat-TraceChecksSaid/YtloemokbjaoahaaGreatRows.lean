/-
  No cell of these rows narrows 'for every input' (looked for: loops, veiled, ifaces, maps, wideKeys, modest, calm, conditions, laid).
  DERIVED. THE GIVEN ROWS OF THIS SEAT. 4 by the template 'for every input the law returns true; each argument reads behind the call as it read before'; 0 by the template 'total and deterministic' (their statements: YtloemokbjaoahaaGreatTotals.lean).
  GIVEN WITH THE SEED: the statements are not yours to turn. If you find one false, say at which input.
  Laid BY PROGRAM, IN A SANDBOX (cutbox-rows.mjs): the forced cells as the released guide's own fill.sh prints them over the translation 0aacf1880209b520… (all of the seat's roots in one cut). By AI agents, Wed Nov 11 2026. No macro, syntax, notation, axiom, sorry.
-/
import Derived.Test.YtloemokbjaoahaaGreatChecked
import GoSem.Claim
import GoSem.ClaimJoined
import GoSem.ClaimMapViews
import Derived.JoinedTies
import Derived.KernelRfl
namespace Go.Proofs.YtloemokbjaoahaaGreat
/- THE CELL 'sum', in the pinned program and in every row, IS THE sha256 OF THE DUMP (.gsa) THAT YtloemokbjaoahaaGreatProg.lean LOADS. Nothing in Lean hashes anything: it is a label: what it is worth is what the hold of that sum in a sandbox is worth. -/
noncomputable def Tryz.pinned : Pinned := { name := "ytloemokbjaoahaagreat", sum := "0aacf1880209b520fc5fc38c02aff6e65e5d92e893b74f8344ee78da6fd84c6c", checked := Tryz.checked }
namespace Rows
def none {H : Type} : Left H := { results := [], args := [] }

/-- 'tracebooklaw32.TraceOf': WHATEVER THE INPUT: true; the input reads as it did. -/
def traceOfSpec : ChangeSpec := { name := "traceOf", fn := fun _ => fun
  | [d] => { results := [.lit (.bool true)], args := [d] }
  | _ => none }
def traceOfRow : OpenClaim := { program := "ytloemokbjaoahaagreat", sum := "0aacf1880209b520fc5fc38c02aff6e65e5d92e893b74f8344ee78da6fd84c6c", func := "tracebook/tracebooklaw32.TraceOf", spec := "traceOf", inPlace := ["internal/bytealg.IndexByteString"], unfollowed := true, recurses := true, named := ["math/bits.divideError", "math/bits.overflowError"], plainKeys := false, apart := false }
def TraceOfSaid : Prop := traceOfRow.holds Tryz.pinned (OpenSpec.ofChange traceOfSpec)

/-- ITS FALSE NEIGHBOUR: 'it returns false'. Refute it at one input. -/
def traceOfWrong : ChangeSpec := { name := "traceOf", fn := fun _ => fun
  | [d] => { results := [.lit (.bool false)], args := [d] }
  | _ => none }
def TraceOfWrongFalsely : Prop := traceOfRow.holds Tryz.pinned (OpenSpec.ofChange traceOfWrong)

/-- 'tracebooklaw32.TraceValid': WHATEVER THE INPUT: true; the input reads as it did. -/
def traceValidSpec : ChangeSpec := { name := "traceValid", fn := fun _ => fun
  | [d1, d2, d3] => { results := [.lit (.bool true)], args := [d1, d2, d3] }
  | _ => none }
def traceValidRow : OpenClaim := { program := "ytloemokbjaoahaagreat", sum := "0aacf1880209b520fc5fc38c02aff6e65e5d92e893b74f8344ee78da6fd84c6c", func := "tracebook/tracebooklaw32.TraceValid", spec := "traceValid", inPlace := ["internal/bytealg.IndexByteString"], unfollowed := true, recurses := true, named := ["math/bits.divideError", "math/bits.overflowError"], plainKeys := false, apart := false }
def TraceValidSaid : Prop := traceValidRow.holds Tryz.pinned (OpenSpec.ofChange traceValidSpec)

/-- ITS FALSE NEIGHBOUR: 'it returns false'. Refute it at one input. -/
def traceValidWrong : ChangeSpec := { name := "traceValid", fn := fun _ => fun
  | [d1, d2, d3] => { results := [.lit (.bool false)], args := [d1, d2, d3] }
  | _ => none }
def TraceValidWrongFalsely : Prop := traceValidRow.holds Tryz.pinned (OpenSpec.ofChange traceValidWrong)

/-- 'tracebooklaw32.TraceChecks': WHATEVER THE INPUT: true; the input reads as it did. -/
def traceChecksSpec : ChangeSpec := { name := "traceChecks", fn := fun _ => fun
  | [d1, d2, d3] => { results := [.lit (.bool true)], args := [d1, d2, d3] }
  | _ => none }
def traceChecksRow : OpenClaim := { program := "ytloemokbjaoahaagreat", sum := "0aacf1880209b520fc5fc38c02aff6e65e5d92e893b74f8344ee78da6fd84c6c", func := "tracebook/tracebooklaw32.TraceChecks", spec := "traceChecks", inPlace := ["internal/bytealg.IndexByteString"], unfollowed := true, recurses := true, named := ["math/bits.divideError", "math/bits.overflowError"], plainKeys := false, apart := false }
def TraceChecksSaid : Prop := traceChecksRow.holds Tryz.pinned (OpenSpec.ofChange traceChecksSpec)

/-- ITS FALSE NEIGHBOUR: 'it returns false'. Refute it at one input. -/
def traceChecksWrong : ChangeSpec := { name := "traceChecks", fn := fun _ => fun
  | [d1, d2, d3] => { results := [.lit (.bool false)], args := [d1, d2, d3] }
  | _ => none }
def TraceChecksWrongFalsely : Prop := traceChecksRow.holds Tryz.pinned (OpenSpec.ofChange traceChecksWrong)

/-- 'tracebooklaw32.TraceCutTwice': WHATEVER THE INPUT: true; the input reads as it did. -/
def traceCutTwiceSpec : ChangeSpec := { name := "traceCutTwice", fn := fun _ => fun
  | [d1, d2, d3] => { results := [.lit (.bool true)], args := [d1, d2, d3] }
  | _ => none }
def traceCutTwiceRow : OpenClaim := { program := "ytloemokbjaoahaagreat", sum := "0aacf1880209b520fc5fc38c02aff6e65e5d92e893b74f8344ee78da6fd84c6c", func := "tracebook/tracebooklaw32.TraceCutTwice", spec := "traceCutTwice", inPlace := ["internal/bytealg.IndexByteString"], unfollowed := true, recurses := true, named := ["math/bits.divideError", "math/bits.overflowError"], plainKeys := false, apart := false }
def TraceCutTwiceSaid : Prop := traceCutTwiceRow.holds Tryz.pinned (OpenSpec.ofChange traceCutTwiceSpec)

/-- ITS FALSE NEIGHBOUR: 'it returns false'. Refute it at one input. -/
def traceCutTwiceWrong : ChangeSpec := { name := "traceCutTwice", fn := fun _ => fun
  | [d1, d2, d3] => { results := [.lit (.bool false)], args := [d1, d2, d3] }
  | _ => none }
def TraceCutTwiceWrongFalsely : Prop := traceCutTwiceRow.holds Tryz.pinned (OpenSpec.ofChange traceCutTwiceWrong)

/- THE SECOND FORM. 'bulk': how many values and letters a reading holds, each counted each time it is reached (what is shared counts as often as it is met; a slice's spare places count too). A statement '..UptoSaid' is the law's where the arguments, and the package variables that the reading takes, are together of bulk at most 1048576: NARROWER than '..Said'. Prove '..Said' where nothing that the law and all that it calls make is longer than what came in: it says more and counts as full. Else prove '..UptoSaid'. A law counts once. -/
mutual
def uptoBulk {H : Type} : DataW H → Nat
  | .lit (.string bytes) => bytes.length + 1
  | .lit _ => 1
  | .nil => 1
  | .ptr d => uptoBulk d + 1
  | .slice elems spare => uptoBulkAll elems + uptoBulkAll spare + 1
  | .agg parts => uptoBulkAll parts + 1
  | .iface _ d => uptoBulk d + 1
  | .map entries => uptoBulkEntries entries + 1
  | .held _ => 1
def uptoBulkAll {H : Type} : List (DataW H) → Nat
  | [] => 0
  | d :: r => uptoBulk d + uptoBulkAll r
def uptoBulkEntries {H : Type} : List (Lit × DataW H) → Nat
  | [] => 0
  | x :: r => uptoBulkEntry x + uptoBulkEntries r
def uptoBulkEntry {H : Type} : Lit × DataW H → Nat
  | (.string bytes, d) => bytes.length + uptoBulk d + 1
  | (_, d) => uptoBulk d + 1
 end
def uptoSmall : (H : Type) → List (DataW H) → Bool := fun _ ds => decide (uptoBulkAll ds ≤ 1048576)
def OpenSpec.upto (s : _root_.Go.ChangeSpec) : _root_.Go.OpenSpec := { _root_.Go.OpenSpec.ofChange s with cond := some uptoSmall }

/-- 'tracebooklaw32.TraceOf', WHERE WHAT IT READS IS OF BULK AT MOST 1048576: true; the input reads as it did. -/
def traceOfUptoRow : OpenClaim := { program := "ytloemokbjaoahaagreat", sum := "0aacf1880209b520fc5fc38c02aff6e65e5d92e893b74f8344ee78da6fd84c6c", func := "tracebook/tracebooklaw32.TraceOf", spec := "traceOf", inPlace := ["internal/bytealg.IndexByteString"], unfollowed := true, recurses := true, named := ["math/bits.divideError", "math/bits.overflowError"], plainKeys := false, apart := false, narrowed := true }
def TraceOfUptoSaid : Prop := traceOfUptoRow.holds Tryz.pinned (OpenSpec.upto traceOfSpec)

/-- 'tracebooklaw32.TraceValid', WHERE WHAT IT READS IS OF BULK AT MOST 1048576: true; the input reads as it did. -/
def traceValidUptoRow : OpenClaim := { program := "ytloemokbjaoahaagreat", sum := "0aacf1880209b520fc5fc38c02aff6e65e5d92e893b74f8344ee78da6fd84c6c", func := "tracebook/tracebooklaw32.TraceValid", spec := "traceValid", inPlace := ["internal/bytealg.IndexByteString"], unfollowed := true, recurses := true, named := ["math/bits.divideError", "math/bits.overflowError"], plainKeys := false, apart := false, narrowed := true }
def TraceValidUptoSaid : Prop := traceValidUptoRow.holds Tryz.pinned (OpenSpec.upto traceValidSpec)

/-- 'tracebooklaw32.TraceChecks', WHERE WHAT IT READS IS OF BULK AT MOST 1048576: true; the input reads as it did. -/
def traceChecksUptoRow : OpenClaim := { program := "ytloemokbjaoahaagreat", sum := "0aacf1880209b520fc5fc38c02aff6e65e5d92e893b74f8344ee78da6fd84c6c", func := "tracebook/tracebooklaw32.TraceChecks", spec := "traceChecks", inPlace := ["internal/bytealg.IndexByteString"], unfollowed := true, recurses := true, named := ["math/bits.divideError", "math/bits.overflowError"], plainKeys := false, apart := false, narrowed := true }
def TraceChecksUptoSaid : Prop := traceChecksUptoRow.holds Tryz.pinned (OpenSpec.upto traceChecksSpec)

/-- 'tracebooklaw32.TraceCutTwice', WHERE WHAT IT READS IS OF BULK AT MOST 1048576: true; the input reads as it did. -/
def traceCutTwiceUptoRow : OpenClaim := { program := "ytloemokbjaoahaagreat", sum := "0aacf1880209b520fc5fc38c02aff6e65e5d92e893b74f8344ee78da6fd84c6c", func := "tracebook/tracebooklaw32.TraceCutTwice", spec := "traceCutTwice", inPlace := ["internal/bytealg.IndexByteString"], unfollowed := true, recurses := true, named := ["math/bits.divideError", "math/bits.overflowError"], plainKeys := false, apart := false, narrowed := true }
def TraceCutTwiceUptoSaid : Prop := traceCutTwiceUptoRow.holds Tryz.pinned (OpenSpec.upto traceCutTwiceSpec)

end Rows
end Go.Proofs.YtloemokbjaoahaaGreat
