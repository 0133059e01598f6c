/- The law StateAdds holds of every argument that can be read as data: the statement StateAddsSaid. -/
import Derived.Test.YtnhjanhaokiahaaL27M
namespace Go.Proofs.Ytnhjanhaokiahaa
theorem stateAdds_holds : Rows.StateAddsSaid :=
  Go.VM.stateAdds_said (fun x0 x1 x2 x3 _ _ _ _ => Go.VM.stateAdds_holds x0 x1 x2 x3)
end Go.Proofs.Ytnhjanhaokiahaa
