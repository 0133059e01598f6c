/- The law TraceCutTwice holds of every argument that can be read as data: the statement TraceCutTwiceSaid. -/
import Derived.Test.YtloemokbjaoahaaGreatL32M
namespace Go.Proofs.YtloemokbjaoahaaGreat
theorem traceCutTwice_holds:Rows.TraceCutTwiceSaid :=
  Go.VM.traceCutTwice_said (fun x0 x1 x2 h _ _=>Go.VM.traceCutTwice_holds x0 x1 x2 h)
end Go.Proofs.YtloemokbjaoahaaGreat
