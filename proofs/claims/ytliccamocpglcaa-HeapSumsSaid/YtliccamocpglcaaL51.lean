/- The law HeapSums holds of every argument that can be read as data: the statement HeapSumsSaid. -/
import Derived.Test.YtliccamocpglcaaL51M
namespace Go.Proofs.Ytliccamocpglcaa
theorem aIx {x:Go.VM.api_Heap} (h:Go.VM.okr_api_Heap x):∀ o∈x.fObjects,o.fType.size≤9223372036854775807:=by
  have e:Go.reachBytes = 140737488351232:=by decide
  intro o ho
  have:=(h.1.2 o ho).2.2.1
  rw [e] at this
  omega
theorem heapSums_holds:Rows.HeapSumsSaid :=
  Go.VM.heapSums_said (fun x0 h=>Go.VM.heapSums_holds x0 (aIx h))
end Go.Proofs.Ytliccamocpglcaa
