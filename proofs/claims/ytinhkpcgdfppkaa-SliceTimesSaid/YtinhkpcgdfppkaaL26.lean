/- The law SliceTimes holds of every argument that can be read as data: the statement SliceTimesSaid. -/
import Derived.Test.YtinhkpcgdfppkaaL26M
namespace Go.Proofs.Ytinhkpcgdfppkaa
theorem sliceTimes_holds : Rows.SliceTimesSaid :=
  Go.VM.sliceTimes_said (fun x0 x1 x2 h _ _ => Go.VM.sliceTimes_holds x0 x1 x2 h)
end Go.Proofs.Ytinhkpcgdfppkaa
