/- The law LatencyAll holds of every argument that can be read as data: the statement LatencyAllSaid. -/
import Derived.Test.YtnngonjaoebkfaaGreatL49M
namespace Go.Proofs.YtnngonjaoebkfaaGreat
theorem latencyAll_holds : Rows.LatencyAllSaid :=
  Go.VM.latencyAll_said (fun x0 h => Go.VM.latencyAll_holds x0 h)
end Go.Proofs.YtnngonjaoebkfaaGreat
