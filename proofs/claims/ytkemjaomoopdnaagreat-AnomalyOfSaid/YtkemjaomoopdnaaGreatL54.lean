/- The law AnomalyOf holds of every argument that can be read as data: the statement AnomalyOfSaid. -/
import Derived.Test.YtkemjaomoopdnaaGreatL54M
namespace Go.Proofs.YtkemjaomoopdnaaGreat
theorem anomalyOf_holds:Rows.AnomalyOfSaid :=
  Go.VM.anomalyOf_said (fun x0 x1 x2 h _ _=>Go.VM.anomalyOf_holds x0 x1 x2 h)
end Go.Proofs.YtkemjaomoopdnaaGreat
