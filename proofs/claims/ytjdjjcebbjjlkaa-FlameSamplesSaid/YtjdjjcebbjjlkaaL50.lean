/- The law FlameSamples holds of every argument that can be read as data: the statement FlameSamplesSaid. -/
import Derived.Test.YtjdjjcebbjjlkaaL50M
namespace Go.Proofs.Ytjdjjcebbjjlkaa
theorem flameSamples_holds:Rows.FlameSamplesSaid :=
  Go.VM.flameSamples_said (fun x0 h=>Go.VM.flameSamples_holds x0 h)
end Go.Proofs.Ytjdjjcebbjjlkaa
