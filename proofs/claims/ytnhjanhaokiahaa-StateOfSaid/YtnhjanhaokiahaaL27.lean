/- The law StateOf holds of every argument that can be read as data: the statement StateOfSaid. -/
import Derived.Test.YtnhjanhaokiahaaL27M
namespace Go.Proofs.Ytnhjanhaokiahaa
theorem stateOf_holds : Rows.StateOfSaid :=
  Go.VM.stateOf_said (fun x0 x1 x2 _ _ _ => Go.VM.stateOf_holds x0 x1 x2)
end Go.Proofs.Ytnhjanhaokiahaa
