/- The law LatencyExact holds of every argument that can be read as data: the statement LatencyExactSaid. -/
import Derived.Test.YtnngonjaoebkfaaGreatL49M
namespace Go.Proofs.YtnngonjaoebkfaaGreat
theorem latencyExact_holds : Rows.LatencyExactSaid :=
  Go.VM.latencyExact_said (fun x0 x1 x2 h _ _ => Go.VM.latencyExact_holds x0 x1 x2 h)
end Go.Proofs.YtnngonjaoebkfaaGreat
