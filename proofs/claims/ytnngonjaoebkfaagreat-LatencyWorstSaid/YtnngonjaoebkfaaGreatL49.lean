/- The law LatencyWorst holds of every argument that can be read as data: the statement LatencyWorstSaid. -/
import Derived.Test.YtnngonjaoebkfaaGreatL49M
namespace Go.Proofs.YtnngonjaoebkfaaGreat
theorem latencyWorst_holds : Rows.LatencyWorstSaid :=
  Go.VM.latencyWorst_said (fun x0 x1 h _ => Go.VM.latencyWorst_holds x0 x1 h)
end Go.Proofs.YtnngonjaoebkfaaGreat
