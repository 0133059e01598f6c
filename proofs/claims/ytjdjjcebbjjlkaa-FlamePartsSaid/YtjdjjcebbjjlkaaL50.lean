/- The law FlameParts holds of every argument that can be read as data: the statement FlamePartsSaid. -/
import Derived.Test.YtjdjjcebbjjlkaaL50M
namespace Go.Proofs.Ytjdjjcebbjjlkaa
theorem flameParts_holds:Rows.FlamePartsSaid :=
  Go.VM.flameParts_said (fun x0 x1 h h1=>Go.VM.flameParts_v x0 x1 (Go.VM.sizS h).1 (Go.VM.sizS h1).1 (Go.VM.sizS h).2 (Go.VM.sizS h1).2)
end Go.Proofs.Ytjdjjcebbjjlkaa
