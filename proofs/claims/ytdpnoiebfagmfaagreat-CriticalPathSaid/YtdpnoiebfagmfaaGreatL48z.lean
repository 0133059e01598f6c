/- The law CriticalPath holds of every trace, thread and span that can be read as data: the statement CriticalPathSaid. -/
import Derived.Test.YtdpnoiebfagmfaaGreatL48zM
namespace Go.Proofs.YtdpnoiebfagmfaaGreat
theorem criticalPath_holds : Rows.CriticalPathSaid :=
  Go.VM.criticalPath_said (fun x0 x1 x2 h _ _ => Go.VM.criticalPath_holds x0 x1 x2 h)
end Go.Proofs.YtdpnoiebfagmfaaGreat
