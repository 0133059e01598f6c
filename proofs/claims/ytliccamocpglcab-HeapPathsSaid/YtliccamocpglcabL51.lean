/- The law HeapPaths holds of every argument that can be read as data: the statement HeapPathsSaid. -/
import Derived.Test.YtliccamocpglcabL51M
namespace Go.Proofs.Ytliccamocpglcab
theorem aIZ {x:Go.VM.api_Heap} (h:Go.VM.okr_api_Heap x):∀ o∈x.fObjects,o.fType.size≤9223372036854775807:=by
  have e:Go.reachBytes = 140737488351232:=by decide
  intro o ho
  have:=(h.1.2 o ho).2.2.1
  rw [e] at this
  omega
theorem heapPaths_holds:Rows.HeapPathsSaid :=
  Go.VM.heapPaths_said (fun x0 x1 h _=>Go.VM.heapPaths_holds x0 x1 (aIZ h))
end Go.Proofs.Ytliccamocpglcab
