/- The law AnomalyMost holds of every trace and every threshold that can be read as data: the statement AnomalyMostSaid. -/
import Derived.Test.YtkemjaomoopdnaaGreatL54M
namespace Go.Proofs.YtkemjaomoopdnaaGreat
theorem anomalyMost_holds : Rows.AnomalyMostSaid :=
  Go.VM.anomalyMost_said (fun x0 x1 x2 h _ _ => Go.VM.anomalyMost_holds x0 x1 x2 h)
end Go.Proofs.YtkemjaomoopdnaaGreat
