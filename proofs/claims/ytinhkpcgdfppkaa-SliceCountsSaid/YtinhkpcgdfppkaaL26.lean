/- The law SliceCounts holds of every argument that can be read as data: the statement SliceCountsSaid. -/
import Derived.Test.YtinhkpcgdfppkaaL26M
namespace Go.Proofs.Ytinhkpcgdfppkaa
theorem sliceCounts_holds:Rows.SliceCountsSaid :=
  Go.VM.sliceCounts_said (fun x0 x1 _ _=>Go.VM.sliceCounts_holds x0 x1)
end Go.Proofs.Ytinhkpcgdfppkaa
