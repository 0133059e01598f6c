/- The law SliceChecks holds of every argument that can be read as data: the statement SliceChecksSaid. -/
import Derived.Test.YtinhkpcgdfppkaaL26M
namespace Go.Proofs.Ytinhkpcgdfppkaa
theorem sliceChecks_holds : Rows.SliceChecksSaid :=
  Go.VM.sliceChecks_said (fun x0 h => Go.VM.sliceChecks_holds x0 h)
end Go.Proofs.Ytinhkpcgdfppkaa
