/- The law HeapCuts holds of every argument that can be read as data: the statement HeapCutsSaid. -/
import Derived.Test.YtliccamocpglcaaL51M
namespace Go.Proofs.Ytliccamocpglcaa
theorem aKK {x:Go.VM.api_Heap} (h:Go.VM.okr_api_Heap x):∀ o∈x.fObjects,o.fType.size≤9223372036854775807:=by
  have e:Go.reachBytes = 140737488351232:=by decide
  intro o ho
  have:=(h.1.2 o ho).2.2.1
  rw [e] at this
  omega
theorem heapCuts_holds:Rows.HeapCutsSaid :=
  Go.VM.heapCuts_said (fun x0 h=>Go.VM.heapCuts_holds x0 (aKK h))
end Go.Proofs.Ytliccamocpglcaa
