/- The law LatencyQuantiles holds of every argument that can be read as data: the statement LatencyQuantilesSaid. -/
import Derived.Test.YtnngonjaoebkfaaGreatL49M
namespace Go.Proofs.YtnngonjaoebkfaaGreat
theorem latencyQuantiles_holds : Rows.LatencyQuantilesSaid :=
  Go.VM.latencyQuantiles_said (fun x0 x1 x2 h hk _ => Go.VM.latencyQuantiles_holds x0 x1 x2 h hk)
end Go.Proofs.YtnngonjaoebkfaaGreat
