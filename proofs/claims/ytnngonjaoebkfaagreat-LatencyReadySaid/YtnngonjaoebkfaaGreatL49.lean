/- The law LatencyReady holds of every argument that can be read as data: the statement LatencyReadySaid. -/
import Derived.Test.YtnngonjaoebkfaaGreatL49M
namespace Go.Proofs.YtnngonjaoebkfaaGreat
theorem latencyReady_holds : Rows.LatencyReadySaid :=
  Go.VM.latencyReady_said (fun x0 x1 h _ => Go.VM.latencyReady_holds x0 x1 h)
end Go.Proofs.YtnngonjaoebkfaaGreat
