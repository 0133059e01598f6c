/- The law AnomalyStricter holds of every trace and every threshold that can be read as data: the statement AnomalyStricterSaid. -/
import Derived.Test.YtkemjaomoopdnaaGreatL54M
namespace Go.Proofs.YtkemjaomoopdnaaGreat
theorem anomalyStricter_holds : Rows.AnomalyStricterSaid :=
  Go.VM.anomalyStricter_said (fun x0 x1 x2 x3 x4 h _ _ _ _ => Go.VM.anomalyStricter_holds x0 x1 x2 x3 x4 h)
end Go.Proofs.YtkemjaomoopdnaaGreat
