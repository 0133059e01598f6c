/- The value machine, in parts: what a stretch of code comes to, kx value trees. -/
import Derived.Test.YtkemjaomoopdnaaGreatVm2
import Derived.WalkKit
import Derived.MapKept
import Derived.MapFrom
import Derived.Great.BuildSlice
import Derived.LoopN
import Derived.Orders
import Derived.Laws.StructEq
import Derived.ProofKit
import Derived.OpenShut
import Derived.ChangeArms
import Derived.DataReads
import Derived.Carry
import Derived.SizedLaws
import Derived.ChangeCalls
import Derived.ChangeKeysEq
import Derived.KernelRfl
namespace Go.VM
section
variable {P:Program} {K:Ctx}
end
section
variable {P:Program} {K:Ctx} {n:Nat} {I:Option (List Oid)} {Q:Exit→Env→Heap→Prop}
end
section
variable {P:Program} {K:Ctx}
end
section
variable {P:Program} {n:Nat} {I:Option (List Oid)} {Q:Exit→Env→Heap→Prop} {Γ:Env} {h:Heap}
end
section
variable {P:Program} {n:Nat} {I:Option (List Oid)} {Q:Exit→Env→Heap→Prop} {l:L} {m:M}
end
end Go.VM
namespace Go.VM
section
variable {κ ν:Type}
variable {N:Nat} {kd:TypeDesc} {kv:κ→Value} {bx:Nat→ν→List C} {ars:Nat→ν→Option Ob} {es:List (κ×ν)}
end
end Go.VM
namespace Go.VM
section
variable {P:Program} {n:Nat} {I:Option (List Oid)} {l:L} {m:M} {kk:Env→Heap→Prop} {dst:Option Nat} {op:VO}
variable {κ ν:Type} [DecidableEq κ] {N:Nat} {kd:TypeDesc} {kv:κ→Value} {bx:Nat→ν→List C} {ars:Nat→ν→Option Ob} {es:List (κ×ν)}
end
end Go.VM
namespace Go.VM
def AsOk(m:M)(f:Nat→Option Ob):Nat→List Oid→Prop
 | j,[]=>∀k,j≤k→f k=none
 | j,a::r=>((f j).isSome=true∧dK m a=f j)∧AsOk m f (j+1) r
theorem AsOk.get{m:M}{f:Nat→Option Ob}:∀ {as:List Oid} {j:Nat},AsOk m f j as→∀k ob,f (j+k)=some ob→∃a,as[k]? = some a∧dK m a=some ob
 | [],j,h,k,ob,e=>by rw[h (j+k) (by omega)]at e;simp at e
 | a::r,j,h,0,ob,e=>⟨a,rfl,by rw[h.1.2];exact e⟩
 | a::r,j,h,k+1,ob,e=>by
  obtain⟨b,h1,h2⟩:=AsOk.get h.2 k ob (by rw[←e];congr 1;omega)
  exact⟨b,by simpa using h1,h2⟩
theorem AsOk.len{m:M}{f:Nat→Option Ob}:∀ {as:List Oid} {j:Nat},AsOk m f j as→∀k,k<as.length→(f (j+k)).isSome=true
 | [],j,h,k,e=>by simp at e
 | a::r,j,h,0,e=>h.1.1
 | a::r,j,h,k+1,e=>by
  have:=AsOk.len h.2 k (by simpa using e)
  rw[show j+(k+1)=j+1+k by omega];exact this
section
variable {P:Program} {n:Nat} {I:Option (List Oid)} {l:L} {m:M} {kk:Env→Heap→Prop} {dst:Option Nat} {op:VO}
variable {κ ν:Type} [DecidableEq κ] {N:Nat} {kd:TypeDesc} {kv:κ→Value} {bx:Nat→ν→List C} {ars:Nat→ν→Option Ob} {es:List (κ×ν)}
def ObsOk(f:Nat→Option Ob):Nat→List Ob→Prop
 | j,[]=>∀k,j≤k→f k=none
 | j,ob::r=>f j=some ob∧ObsOk f (j+1) r
theorem ObsOk.get{f:Nat→Option Ob}:∀ {obs:List Ob} {j:Nat},ObsOk f j obs→∀k,f (j+k)=obs[k]?
 | [],j,h,k=>by rw[h (j+k) (by omega)];rfl
 | ob::r,j,h,0=>h.1
 | ob::r,j,h,k+1=>by
  have:=ObsOk.get h.2 k
  rw[show j+(k+1)=j+1+k by omega,this];simp
end
end Go.VM
namespace Go.VM
section
variable {κ ν:Type} [DecidableEq κ] {N:Nat} {kd:TypeDesc} {kv:κ→Value} {bx:Nat→ν→List C} {ars:Nat→ν→Option Ob} {es:List (κ×ν)} {m:M}
end
section
variable {P:Program} {n:Nat} {I:Option (List Oid)} {l l':L} {m m':M} {kk:Env→Heap→Prop} {dst:Option Nat} {op:VO}
end
end Go.VM
