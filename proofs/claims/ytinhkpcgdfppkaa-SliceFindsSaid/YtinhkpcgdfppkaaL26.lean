/- The law SliceFinds holds of every argument that can be read as data: the statement SliceFindsSaid. -/
import Derived.Test.YtinhkpcgdfppkaaL26M
namespace Go.Proofs.Ytinhkpcgdfppkaa
theorem sliceFinds_holds:Rows.SliceFindsSaid :=
  Go.VM.sliceFinds_said (fun x0 x1 _ _=>Go.VM.sliceFinds_holds x0 x1)
end Go.Proofs.Ytinhkpcgdfppkaa
