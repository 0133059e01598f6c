/- The law FlameChecks holds of every argument that can be read as data: the statement FlameChecksSaid. -/
import Derived.Test.YtjdjjcebbjjlkaaL50M
namespace Go.Proofs.Ytjdjjcebbjjlkaa
theorem flameChecks_holds : Rows.FlameChecksSaid :=
  Go.VM.flameChecks_said (fun x0 h => Go.VM.flameChecks_holds x0 h)
end Go.Proofs.Ytjdjjcebbjjlkaa
