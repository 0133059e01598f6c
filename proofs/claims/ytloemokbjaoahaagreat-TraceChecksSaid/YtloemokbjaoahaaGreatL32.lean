/- The law TraceChecks holds of every argument that can be read as data: the statement TraceChecksSaid. -/
import Derived.Test.YtloemokbjaoahaaGreatL32M
namespace Go.Proofs.YtloemokbjaoahaaGreat
theorem traceChecks_holds:Rows.TraceChecksSaid :=
  Go.VM.traceChecks_said (fun x0 x1 x2 h _ _=>Go.VM.traceChecks_holds x0 x1 x2 h)
end Go.Proofs.YtloemokbjaoahaaGreat
