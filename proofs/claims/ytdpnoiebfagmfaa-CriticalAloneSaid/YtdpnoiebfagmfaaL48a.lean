/- The law CriticalAlone holds of every trace, thread and span that can be read as data: the statement CriticalAloneSaid. -/
import Derived.Test.YtdpnoiebfagmfaaL48aM
namespace Go.Proofs.Ytdpnoiebfagmfaa
theorem criticalAlone_holds : Rows.CriticalAloneSaid :=
  Go.VM.criticalAlone_said (fun x0 x1 x2 h _ _ => Go.VM.criticalAlone_holds x0 x1 x2 h)
end Go.Proofs.Ytdpnoiebfagmfaa
