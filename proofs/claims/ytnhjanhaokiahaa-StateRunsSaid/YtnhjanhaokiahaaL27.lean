/- The law StateRuns holds of every argument that can be read as data: the statement StateRunsSaid. -/
import Derived.Test.YtnhjanhaokiahaaL27M
namespace Go.Proofs.Ytnhjanhaokiahaa
theorem stateRuns_holds : Rows.StateRunsSaid :=
  Go.VM.stateRuns_said (fun x0 x1 x2 x3 x4 _ _ _ _ _ => Go.VM.stateRuns_holds x0 x1 x2 x3 x4)
end Go.Proofs.Ytnhjanhaokiahaa
