/- The law AnomalyExact holds of every argument that can be read as data: the statement AnomalyExactSaid. -/
import Derived.Test.YtkemjaomoopdnaaGreatL54M
namespace Go.Proofs.YtkemjaomoopdnaaGreat
theorem anomalyExact_holds : Rows.AnomalyExactSaid :=
  Go.VM.anomalyExact_said (fun x0 x1 x2 h _ _ => Go.VM.anomalyExact_holds x0 x1 x2 h)
end Go.Proofs.YtkemjaomoopdnaaGreat
