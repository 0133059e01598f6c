/- The law CriticalReads holds of every argument that can be read as data: the statement CriticalReadsSaid. -/
import Derived.Test.YtdpnoiebfagmfaaGreatL48rM
namespace Go.Proofs.YtdpnoiebfagmfaaGreat
theorem criticalReads_holds : Rows.CriticalReadsSaid :=
  Go.VM.criticalReads_said (fun x0 x1 x2 x3 x4 h0 _ _ h3 _ => Go.VM.criticalReads_holds x0 x1 x2 x3 x4 h0 (fun y hy => (h3.2 y hy).1))
end Go.Proofs.YtdpnoiebfagmfaaGreat
