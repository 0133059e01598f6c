/- The law FlameMerges holds of every argument that can be read as data: the statement FlameMergesSaid. -/
import Derived.Test.YtjdjjcebbjjlkaaL50M
namespace Go.Proofs.Ytjdjjcebbjjlkaa
theorem flameMerges_holds:Rows.FlameMergesSaid :=
  Go.VM.flameMerges_said (fun x0 x1 h h1=>Go.VM.flameMerges_v x0 x1 (Go.VM.siz50 h).1 (Go.VM.siz50 h1).1 (Go.VM.siz50 h).2 (Go.VM.siz50 h1).2)
end Go.Proofs.Ytjdjjcebbjjlkaa
