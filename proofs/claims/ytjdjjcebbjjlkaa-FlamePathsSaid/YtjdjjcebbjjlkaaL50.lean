/- The law FlamePaths holds of every argument that can be read as data: the statement FlamePathsSaid. -/
import Derived.Test.YtjdjjcebbjjlkaaL50M
namespace Go.Proofs.Ytjdjjcebbjjlkaa
theorem flamePaths_holds : Rows.FlamePathsSaid :=
  Go.VM.flamePaths_said (fun x0 x1 h h1 => Go.VM.flamePaths_holds x0 x1 h h1)
end Go.Proofs.Ytjdjjcebbjjlkaa
