/- The law CriticalCovers holds of every argument that can be read as data: the statement CriticalCoversSaid. -/
import Derived.Test.YtdpnoiebfagmfaaGreatL48rM
namespace Go.Proofs.YtdpnoiebfagmfaaGreat
theorem criticalCovers_holds : Rows.CriticalCoversSaid :=
  Go.VM.criticalCovers_said (fun x0 x1 x2 h0 _ _ => Go.VM.criticalCovers_holds x0 x1 x2 h0)
end Go.Proofs.YtdpnoiebfagmfaaGreat
