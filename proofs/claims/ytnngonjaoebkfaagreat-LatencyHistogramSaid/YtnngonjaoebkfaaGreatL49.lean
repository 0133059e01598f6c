/- The law LatencyHistogram holds of every argument that can be read as data: the statement LatencyHistogramSaid. -/
import Derived.Test.YtnngonjaoebkfaaGreatL49M
namespace Go.Proofs.YtnngonjaoebkfaaGreat
theorem latencyHistogram_holds : Rows.LatencyHistogramSaid :=
  Go.VM.latencyHistogram_said (fun x0 h => Go.VM.latencyHistogram_holds x0 h)
end Go.Proofs.YtnngonjaoebkfaaGreat
