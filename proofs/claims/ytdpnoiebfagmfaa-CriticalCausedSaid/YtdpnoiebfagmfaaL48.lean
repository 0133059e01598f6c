/- The law CriticalCaused holds of every trace, thread and span that can be read as data: the statement CriticalCausedSaid. -/
import Derived.Test.YtdpnoiebfagmfaaL48M
namespace Go.Proofs.Ytdpnoiebfagmfaa
theorem criticalCaused_holds : Rows.CriticalCausedSaid :=
  Go.VM.criticalCaused_said (fun x0 x1 x2 h _ _ => Go.VM.criticalCaused_holds x0 x1 x2 h)
end Go.Proofs.Ytdpnoiebfagmfaa
