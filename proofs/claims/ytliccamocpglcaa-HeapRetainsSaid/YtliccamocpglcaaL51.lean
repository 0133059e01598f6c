/- The law HeapRetains holds of every argument that can be read as data: the statement HeapRetainsSaid. -/
import Derived.Test.YtliccamocpglcaaL51M
namespace Go.Proofs.Ytliccamocpglcaa
theorem aRz {x:Go.VM.api_Heap} (h:Go.VM.okr_api_Heap x):∀ o∈x.fObjects,o.fType.size≤9223372036854775807:=by
  have e:Go.reachBytes = 140737488351232:=by decide
  intro o ho
  have:=(h.1.2 o ho).2.2.1
  rw [e] at this
  omega
theorem heapRetains_holds:Rows.HeapRetainsSaid :=
  Go.VM.heapRetains_said (fun x0 h=>Go.VM.heapRetains_holds x0 (aRz h))
end Go.Proofs.Ytliccamocpglcaa
