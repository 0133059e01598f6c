/- The law AnomalyReads holds of every trace, index and name that can be read as data: the statement AnomalyReadsSaid. -/
import Derived.Test.YtkemjaomoopdnaaGreatL54rM
namespace Go.Proofs.YtkemjaomoopdnaaGreat
theorem anomalyReads_holds : Rows.AnomalyReadsSaid :=
  Go.VM.anomalyReads_said (fun x0 x1 x2 h _ _ => Go.VM.anomalyReads_holds x0 x1 x2 h)
end Go.Proofs.YtkemjaomoopdnaaGreat
