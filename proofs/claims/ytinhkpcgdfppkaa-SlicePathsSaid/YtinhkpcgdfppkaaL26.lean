/- The law SlicePaths holds of every argument that can be read as data: the statement SlicePathsSaid. -/
import Derived.Test.YtinhkpcgdfppkaaL26M
namespace Go.Proofs.Ytinhkpcgdfppkaa
theorem slicePaths_holds : Rows.SlicePathsSaid :=
  Go.VM.slicePaths_said (fun x0 h => Go.VM.slicePaths_holds x0 h)
end Go.Proofs.Ytinhkpcgdfppkaa
