/- The law SliceLooks holds of every argument that can be read as data: the statement SliceLooksSaid. -/
import Derived.Test.YtinhkpcgdfppkaaL26M
namespace Go.Proofs.Ytinhkpcgdfppkaa
theorem sliceLooks_holds : Rows.SliceLooksSaid :=
  Go.VM.sliceLooks_said (fun x0 x1 x2 x3 h _ _ _ => Go.VM.sliceLooks_holds x0 x1 x2 x3 h)
end Go.Proofs.Ytinhkpcgdfppkaa
