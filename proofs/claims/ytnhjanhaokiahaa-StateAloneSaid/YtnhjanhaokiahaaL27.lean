/- The law StateAlone holds of every argument that can be read as data: the statement StateAloneSaid. -/
import Derived.Test.YtnhjanhaokiahaaL27M
namespace Go.Proofs.Ytnhjanhaokiahaa
theorem stateAlone_holds : Rows.StateAloneSaid :=
  Go.VM.stateAlone_said (fun x0 x1 x2 _ _ _ => Go.VM.stateAlone_holds x0 x1 x2)
end Go.Proofs.Ytnhjanhaokiahaa
