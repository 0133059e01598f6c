/- The raw machine, in parts: a walk that is reckoned, kx an explicit memory. -/
import Derived.Test.YtkemjaomoopdnaaGreatVm3
import Derived.Lib.Bytealg
import Derived.Laws.Externs
import Derived.KernelRfl
import Derived.MapFrom
import Derived.Maps.RangeRun
import Derived.RangeFuncLeaves
import Derived.RangeFuncCalls
import Derived.LoopNIn
import Derived.OrdersIn
import Derived.TacticsIn
namespace Go.RM
open Go.VM (Pt Fr T RepT At)
inductive X where
  | sc (v:Value)
  | ptr (n off:Nat)
  | sl (n k off len:Nat)
  | es
  | mp (n:Nat)
  | fn (f:FuncId) (caps:List X)
  | im (k:Nat) (rows:List (List T))
  | pI (cells:List T)
  | ez
  deriving Inhabited
inductive V where
  | c (x:X)
  | agg (xs:List X)
  | tup (vs:List V)
  | junk
  deriving Inhabited
inductive O where
  | cells (e:TypeId) (xs:List X)
  | map (kd:TypeDesc) (rng:Bool) (es:List (Value×V))
  | iter (m:Nat) (size:Nat) (seen:List Nat)
  | itern
  | dmap (kd:TypeDesc) (es:List (Value×V))
  | dead
  deriving Inhabited
inductive Tr(α:Type) where
  | lf
  | nd (v:Option α) (l r:Tr α)
def Tr.get{α:Type}:Tr α→Nat→Option α
  | .lf,_=>none
  | .nd v l r,n=>match n with
    | 0=>v
    | n+1=>bif Nat.beq (n % 2) 0 then l.get (n / 2)else r.get (n / 2)
def Tr.one{α:Type}:Nat→Nat→α→Tr α
  | 0,_,_=>.lf
  | f+1,n,x=>match n with
    | 0=>.nd (some x) .lf .lf
    | n+1=>bif Nat.beq (n % 2) 0 then .nd none (Tr.one f (n / 2) x) .lf else .nd none .lf (Tr.one f (n / 2) x)
def Tr.set{α:Type}:Tr α→Nat→α→Tr α
  | .lf,n,x=>Tr.one (Nat.log2 n+2) n x
  | .nd v l r,n,x=>match n with
    | 0=>.nd (some x) l r
    | n+1=>bif Nat.beq (n % 2) 0 then .nd v (l.set (n / 2) x) r else .nd v l (r.set (n / 2) x)
theorem Tr.get_one{α:Type}(x:α):∀(f n m:Nat),n<2 ^ f-1→(Tr.one f n x).get m=if m=n then some x else none:=by
  intro f
  induction f with
  | zero=>intro n m h;omega
  | succ f ih =>
    intro n m h
    cases n with
    | zero =>
      simp only[Tr.one,Tr.get]
      cases m with
      | zero=>rfl
      | succ m =>
        simp only[Nat.add_eq_zero_iff,Nat.one_ne_zero,and_false,ck]
        cases Nat.beq (m % 2) 0<;>rfl
    | succ n =>
      have h2:n / 2<2 ^ f-1:=by have:2 ^ (f+1)=2*2 ^ f:=by rw[Nat.pow_succ];omega
                                omega
      simp only[Tr.one]
      by_cases e:n % 2=0
      ·have:Nat.beq (n % 2) 0=true:=by rw[e];rfl
       simp only[this,cond_true,Tr.get]
       cases m with
       | zero=>simp
       | succ m =>
         simp only
         by_cases e2:m % 2=0
         ·have:Nat.beq (m % 2) 0=true:=by rw[e2];rfl
          simp only[this,cond_true,ih _ _ h2]
          have:(m / 2=n / 2)↔(m+1=n+1):=by omega
          simp only[this]
         ·have:Nat.beq (m % 2) 0=false := by cases hb:Nat.beq (m % 2) 0 with | true => exact absurd (Nat.eq_of_beq_eq_true hb) e2 | false => rfl
          simp only[this,cond_false,Tr.get]
          have : ¬(m+1=n+1):=by omega
          simp only[this,ck]
      ·have:Nat.beq (n % 2) 0=false := by cases hb:Nat.beq (n % 2) 0 with | true => exact absurd (Nat.eq_of_beq_eq_true hb) e | false => rfl
       simp only[this,cond_false,Tr.get]
       cases m with
       | zero=>simp
       | succ m =>
         simp only
         by_cases e2:m % 2=0
         ·have:Nat.beq (m % 2) 0=true:=by rw[e2];rfl
          simp only[this,cond_true,Tr.get]
          have : ¬(m+1=n+1):=by omega
          simp only[this,ck]
         ·have:Nat.beq (m % 2) 0=false := by cases hb:Nat.beq (m % 2) 0 with | true => exact absurd (Nat.eq_of_beq_eq_true hb) e2 | false => rfl
          simp only[this,cond_false,ih _ _ h2]
          have:(m / 2=n / 2)↔(m+1=n+1):=by omega
          simp only[this]
theorem Tr.log_lt(n:Nat):n<2 ^ (Nat.log2 n+2)-1:=by
  have h1:n<2 ^ (Nat.log2 n+1):=Nat.lt_log2_self
  have h2:2 ^ (Nat.log2 n+2)=2*2 ^ (Nat.log2 n+1):=by rw[Nat.pow_succ];omega
  omega
theorem Tr.get_set{α:Type}(x:α):∀(t:Tr α) (n m:Nat),(t.set n x).get m=if m=n then some x else t.get m:=by
  intro t
  induction t with
  | lf=>intro n m;simp only[Tr.set,Tr.get_one x _ n m (Tr.log_lt n),Tr.get]
  | nd v l r ihl ihr =>
    intro n m
    cases n with
    | zero =>
      simp only[Tr.set,Tr.get]
      cases m with
      | zero=>rfl
      | succ m=>simp
    | succ n =>
      simp only[Tr.set]
      by_cases e:n % 2=0
      ·have:Nat.beq (n % 2) 0=true:=by rw[e];rfl
       simp only[this,cond_true,Tr.get]
       cases m with
       | zero=>simp
       | succ m =>
         simp only
         by_cases e2:m % 2=0
         ·have:Nat.beq (m % 2) 0=true:=by rw[e2];rfl
          simp only[this,cond_true,ihl _ _]
          have:(m / 2=n / 2)↔(m+1=n+1):=by omega
          simp only[this]
         ·have:Nat.beq (m % 2) 0=false := by cases hb:Nat.beq (m % 2) 0 with | true => exact absurd (Nat.eq_of_beq_eq_true hb) e2 | false => rfl
          simp only[this,cond_false]
          have : ¬(m+1=n+1):=by omega
          simp only[this,ck]
      ·have:Nat.beq (n % 2) 0=false := by cases hb:Nat.beq (n % 2) 0 with | true => exact absurd (Nat.eq_of_beq_eq_true hb) e | false => rfl
       simp only[this,cond_false,Tr.get]
       cases m with
       | zero=>simp
       | succ m =>
         simp only
         by_cases e2:m % 2=0
         ·have:Nat.beq (m % 2) 0=true:=by rw[e2];rfl
          simp only[this,cond_true]
          have : ¬(m+1=n+1):=by omega
          simp only[this,ck]
         ·have:Nat.beq (m % 2) 0=false := by cases hb:Nat.beq (m % 2) 0 with | true => exact absurd (Nat.eq_of_beq_eq_true hb) e2 | false => rfl
          simp only[this,cond_false,ihr _ _]
          have:(m / 2=n / 2)↔(m+1=n+1):=by omega
          simp only[this]
abbrev Hp:=Nat→Option O
abbrev Loc:=Nat×Nat×Nat
structure Ren where
  loc:Nat→Option Loc
  w0:World
  ok:Nat→Prop
  fz:Nat→Option Obj
instance:CoeFun Ren (fun _=>Nat→Option Loc):=⟨Ren.loc⟩
structure Ren.le(φ ψ:Ren):Prop where
  loc:∀n l,φ n=some l→ψ n=some l
  w0:ψ.w0=φ.w0
  ok:ψ.ok=φ.ok
  fz:∀D o,φ.fz D=some o→ψ.fz D=some o
theorem Ren.le_refl(φ:Ren):φ.le φ:=⟨fun _ _ h=>h,rfl,rfl,fun _ _ h=>h⟩
theorem Ren.le_trans{φ ψ χ:Ren}(h:φ.le ψ)(h':ψ.le χ):φ.le χ:=⟨fun n l hn=>h'.loc n l (h.loc n l hn),h'.w0.trans h.w0,h'.ok.trans h.ok,fun D o hD=>h'.fz D o (h.fz D o hD)⟩
inductive RepX(φ:Ren):Value→X→Prop
  | sc (v:Value):v.oneCell'=true→RepX φ v (.sc v)
  | ptr (n off b β lim:Nat):φ n=some (b,β,lim)→RepX φ (.pointer (some ⟨b,β+off,none⟩)) (.ptr n off)
  | sl (n k off len b β lim o cap:Nat):φ n=some (b,β,lim)→len≤cap→(0<len→o=β+off)→o+cap*k≤lim→RepX φ (.slice (some ⟨b,o,none⟩) len cap) (.sl n k off len)
  | es (a:Addr):RepX φ (.slice (some a) 0 0) .es
  | mp (n b β lim:Nat):φ n=some (b,β,lim)→RepX φ (.map (some b)) (.mp n)
  | fn (f:FuncId) (cs:List Value) (caps:List X):cs.length=caps.length→(∀(j:Nat) v x,cs[j]? = some v→caps[j]? = some x→RepX φ v x)→RepX φ (.func (.func f) #[] cs.toArray) (.fn f caps)
  | im (v:Value) (k:Nat) (rows:List (List T)):RepT φ.w0 φ.ok v (.sl k rows)→RepX φ v (.im k rows)
  | pI (b off:Nat) (cells:List T):At φ.w0 φ.ok b off cells→RepX φ (.pointer (some ⟨b,off,none⟩)) (.pI cells)
  | ez (a:Option Addr):RepX φ (.slice a 0 0) .ez
def RepS(φ:Ren):Value→V→Prop
  | v,.c x=>RepX φ v x
  | v,.agg xs=>∃cs,v = .agg cs∧Pt (RepX φ) cs.toList xs
  | _,.tup _=>False
  | _,.junk=>True
def RepV(φ:Ren):Value→V→Prop
  | v,.tup xs=>∃vs,v = .tuple vs∧Pt (RepS φ) vs.toList xs
  | v,x=>RepS φ v x
theorem RepX.mono{φ ψ:Ren}(hle:φ.le ψ){v:Value}{x:X}(h:RepX φ v x):RepX ψ v x:=by
  induction h with
  | sc v h=>exact .sc v h
  | ptr n off b β lim h=>exact .ptr n off b β lim (hle.loc _ _ h)
  | sl n k off len b β lim o cap h h1 h2 h3=>exact .sl n k off len b β lim o cap (hle.loc _ _ h) h1 h2 h3
  | es a=>exact .es a
  | mp n b β lim h=>exact .mp n b β lim (hle.loc _ _ h)
  | fn f cs caps hl _ ih=>exact .fn f cs caps hl ih
  | im v k rows h=>exact .im v k rows (by rw[hle.w0,hle.ok];exact h)
  | pI b off cells h=>exact .pI b off cells (by rw[hle.w0,hle.ok];exact h)
  | ez a=>exact .ez a
theorem RepS.mono{φ ψ:Ren}(hle:φ.le ψ){v:Value}{x:V}(h:RepS φ v x):RepS ψ v x:=by
  cases x with
  | c x=>exact RepX.mono hle h
  | agg xs=>obtain⟨cs,h1,h2⟩:=h;exact⟨cs,h1,h2.1,fun j v x hv hx=>(h2.2 j v x hv hx).mono hle⟩
  | tup xs=>exact h.elim
  | junk=>trivial
theorem RepV.mono{φ ψ:Ren}(hle:φ.le ψ){v:Value}{x:V}(h:RepV φ v x):RepV ψ v x:=by
  cases x with
  | c x=>exact RepS.mono (x:=.c x) hle h
  | agg xs=>exact RepS.mono (x:=.agg xs) hle h
  | tup xs=>obtain⟨cs,h1,h2⟩:=h;exact⟨cs,h1,h2.1,fun j v x hv hx=>(h2.2 j v x hv hx).mono hle⟩
  | junk=>trivial
def RepO(φ:Ren)(w:World)(n:Nat):O→Prop
  | .cells e xs=>∃b β lim arr,φ n=some (b,β,lim)∧w.heap[b]? = some (.cells arr e (0,0))∧lim≤arr.size∧β+xs.length≤lim ∧
      ∀(j:Nat) x,xs[j]? = some x→∃v,arr[β+j]? = some v∧RepX φ v x
  | .map kd _ es=>∃b es' clock,φ n=some (b,0,0)∧w.heap[b]? = some (.map es' clock)∧clock=es.length∧es'.size=es.length ∧
      ∀(i:Nat) e p,es'[i]? = some e→es[i]? = some p→e.key=p.1∧Go.VM.keyOf kd p.1=true∧e.born=i∧RepS φ e.val p.2
  | .iter m size seen=>∃b bm β lim last es',φ n=some (b,0,0)∧φ m=some (bm,β,lim)∧w.heap[b]? = some (.mapIter (some bm) size seen.toArray last)∧last=size ∧
      w.heap[bm]? = some (.map es' size)
  | .itern=>∃b,φ n=some (b,0,0)∧w.heap[b]? = some (.mapIter none 0 #[] 0)
  | .dmap kd es=>∃b es' clock,φ n=some (b,0,0)∧w.heap[b]? = some (.map es' clock)∧es'.size=es.length ∧
      ∀(i:Nat) e p,es'[i]? = some e→es[i]? = some p→e.key=p.1∧Go.VM.keyOf kd p.1=true∧RepS φ e.val p.2
  | .dead=>True
def O.live:O→Bool
  | .dead=>false
  | _=>true
def blk(φ:Ren)(n b:Nat):Prop:=∃β lim,φ n=some (b,β,lim)
structure Rel(w0:World)(φ:Ren)(h:Hp)(w:World):Prop where
  rep:∀n o,h n=some o→RepO φ w n o
  inj:∀n m o o' b,h n=some o→h m=some o'→o.live=true→o'.live=true→blk φ n b→blk φ m b→n=m
  old:∀n o b,h n=some o→o.live=true→blk φ n b→w0.heap.size≤b
  iters:∀n m size seen,h n=some (.iter m size seen)→∃kd es,h m=some (.map kd true es)
  dom:∀n,h n=none→φ n=none
  lt:∀n b,blk φ n b→b<w.heap.size
  fr:Fr w0 w fun _=>False
  w0e:φ.w0=w0
  okl:∀b,φ.ok b→b<w0.heap.size
  fz:∀D o,φ.fz D=some o→w.heap[D]? = some o∧∀n p,h n=some p→p.live=true→¬blk φ n D
end Go.RM
namespace Go.RM
open Go.VM (aSx iq)
inductive Opd where
 | tmp (t:Nat)
 | con (x:V)
 | fn (f:FuncId)
 deriving Inhabited
inductive RO where
 | mv (x:Opd)
 | pick (c a b:Opd)
 | build (zero:List X) (parts:List (Nat×Nat×Opd))
 | load (n:Nat) (agg:Bool) (x:Opd)
 | nilc (x:Opd)
 | fld (off:Nat) (x:Opd)
 | ixA (k:Nat) (x i:Opd)
 | bin (op:BinOp) (x y:Opd)
 | neq (kind:Nat) (ne:Bool) (x y:Opd)
 | un (op:UnOp) (x:Opd)
 | ext (x:Opd) (i:Nat)
 | lenS (x:Opd)
 | mm (max:Bool) (args:List Opd)
 | mkfn (f:FuncId) (caps:List Opd)
 | sub (k:Nat) (x:Opd) (lo hi:Option Opd)
 | call (f:FuncId) (args:List Opd)
 | callv (x:Opd) (args:List Opd)
 | alloc (e:TypeId) (zero:List X)
 | box (e:TypeId) (x:Opd)
 | mksl (e:TypeId) (k bytes:Nat) (zero:List X) (len cap:Opd)
 | bsl (e:TypeId) (k:Nat) (len:Nat) (zero:List X) (parts:List (Nat×Nat×Opd))
 | store (n:Nat) (x v:Opd)
 | app (e:TypeId) (k bytes:Nat) (s x:Opd)
 | mkmap (kd:TypeDesc)
 | look (kd:TypeDesc) (zero:V) (ok:Bool) (x i:Opd)
 | mupd (kd:TypeDesc) (x i v:Opd)
 | mdel (kd:TypeDesc) (x i:Opd)
 deriving Inhabited
structure ROp where
 dst:Option Nat
 op:RO
 guard:Option (Nat×Bool)
instance:Inhabited ROp:=⟨⟨none,.mv (.tmp 0),none⟩⟩
inductive RC where
 | skip
 | region (draw:Option (List Nat)) (ops:List (ROp×Nat))
 | seq (a b:RC)
 | cond (c:Opd) (thn els:RC)
 | block (id:Nat) (body:RC)
 | loop (body:RC)
 | exit (id:Nat)
 | ret
 | bad
 deriving Inhabited
def RO.opds:RO→List Opd
 | .mv x | .load _ _ x | .nilc x | .fld _ x | .un _ x | .ext x _ | .lenS x | .box _ x=>[x]
 | .pick c a b=>[c,a,b]
 | .build _ ps | .bsl _ _ _ _ ps=>ps.map fun p=>p.2.2
 | .ixA _ x i | .bin _ x i | .neq _ _ x i | .mksl _ _ _ _ x i | .store _ x i | .app _ _ _ x i | .look _ _ _ x i | .mdel _ x i=>[x,i]
 | .mupd _ x i v=>[x,i,v]
 | .mm _ args | .mkfn _ args | .call _ args=>args
 | .callv x args=>x::args
 | .sub _ x lo hi=>x::(lo.toList++hi.toList)
 | .alloc .. | .mkmap _=>[]
def L3(xs:List Opd):List Nat:=xs.filterMap fun | .tmp t=>some t | _=>none
def ROp.reads(o:ROp):List Nat := L3 o.op.opds ++ (match o.guard with | some (t,_) => [t] | none => [])
def bit(n:Nat):Nat:=Nat.shiftLeft 1 n
def RX:List Nat→Nat
 | []=>0
 | n::r=>Nat.lor (bit n) (RX r)
def adY:Value→Option X
 | .bool b=>some (.sc (.bool b))
 | .int k n=>some (.sc (.int k n))
 | .string s=>some (.sc (.string s))
 | .pointer none=>some (.sc (.pointer none))
 | .nilFunc=>some (.sc .nilFunc)
 | .slice none 0 0=>some (.sc (.slice none 0 0))
 | .map none=>some (.sc (.map none))
 | _=>none
def Mz:Value→Option V
 | .agg cs=>(cs.toList.mapM adY).map .agg
 | v=>(adY v).map .c
def d7:Operand→Option Opd
 | .tmp t=>some (.tmp t)
 | .const v=>(Mz v).map .con
 | .func f=>some (.fn f)
 | .global _=>none
section
variable (P:Program)
def RY(t:TypeId):Option (List X):=((P.info? t).bind (·.zero)).bind fun z=>z.cells.toList.mapM adY
def TZ(t:TypeId):Option (TypeDesc×TypeInfo):=(P.underlying t).bind fun d=>(P.info? t).map fun i=>(d,i)
def C2(pl:Nat→Option (Nat×Nat))(parts:List (Nat×Operand)):Option (List (Nat×Nat×Opd)) :=
 parts.mapM fun p=>(pl p.1).bind fun q=>(d7 p.2).map fun x=>(q.1,q.2,x)
def O3(xs:List Operand):Option (List Opd):=xs.mapM d7
def adz:Option Operand→Option (Option Opd)
 | none=>some none
 | some l=>(d7 l).map some
def cRO(o:Oper):Option RO :=
 match o.op with
 | .move x | .assign x=>(d7 x).map .mv
 | .pick c a b=>(d7 c).bind fun c=>(d7 a).bind fun a=>(d7 b).map fun b=>.pick c a b
 | .build t parts=>(RY P t).bind fun z=>(P.underlying t).bind fun
   | .struct fs=>(fs.toList.mapM fun f=>(P.info? f.type).map fun i=>(f.offset,i.size)).bind fun pl=>(C2 (pl.toArray[·]?) parts.toList).map fun ps=>.build z ps
   | .array _ e=>(P.info? e).bind fun i=>(C2 (fun j=>some (j*i.size,i.size)) parts.toList).map fun ps=>.build z ps
   | _=>none
 | .load t x=>(TZ P t).bind fun(d,i)=>(d7 x).bind fun x=>if iq d then some (.load i.size true x)else some (.load 1 false x)
 | .nilCheck x=>(d7 x).map .nilc
 | .fieldAddr s x f=>(P.underlying s).bind fun
   | .struct fs=>(fs[f]?).bind fun fd=>(P.info? fd.type).bind fun fi=>if fi.size=0 then none else(d7 x).map fun x=>.fld fd.offset x
   | _=>none
 | .indexAddr t x i=>(P.underlying t).bind fun
   | .slice e=>(P.info? e).bind fun ie=>(d7 x).bind fun x=>(d7 i).map fun i=>.ixA ie.size x i
   | _=>none
 | .binOp op t x y _=>(P.underlying t).bind fun d=>(d7 x).bind fun x=>(d7 y).bind fun y =>
   match d,op with
   | .pointer _,.eql=>some (.neq 0 false x y)
   | .pointer _,.neq=>some (.neq 0 true x y)
   | .map _ _,.eql=>some (.neq 1 false x y)
   | .map _ _,.neq=>some (.neq 1 true x y)
   | .slice _,.eql=>some (.neq 2 false x y)
   | .slice _,.neq=>some (.neq 2 true x y)
   | .int _,op=>some (.bin op x y)
   | .string,op=>some (.bin op x y)
   | _,_=>none
 | .unOp op _ x=>(d7 x).map fun x=>.un op x
 | .extract x i=>(d7 x).map fun x=>.ext x i
 | .makeFunc (.func f) first caps=>if first.size=0 then(O3 caps.toList).map fun cs=>.mkfn f cs else none
 | .slice t x lo hi mx=>(P.underlying t).bind fun
   | .slice e=>(P.info? e).bind fun ie=>(d7 x).bind fun x=>(adz lo).bind fun lo=>(adz hi).bind fun hi=>if mx.isNone then some (.sub ie.size x lo hi)else none
   | _=>none
 | .alloc e=>(RY P e).map fun z=>.alloc e z
 | .box e x=>(d7 x).map fun x=>.box e x
 | .makeSlice t l c=>(P.underlying t).bind fun
   | .slice e=>(P.info? e).bind fun ie=>(RY P e).bind fun z=>if 0<ie.size∧z.length=ie.size then(d7 l).bind fun l=>(d7 c).map fun c=>.mksl e ie.size ie.bytes z l c else none
   | _=>none
 | .buildSlice t len parts=>(P.underlying t).bind fun
   | .slice e=>(P.info? e).bind fun ie=>(RY P e).bind fun z=>(C2 (fun j=>some (j*ie.size,ie.size)) parts.toList).bind fun ps =>
     if 0<ie.size∧len*ie.size≤16777216∧z.length=ie.size then some (.bsl e ie.size len z ps)else none
   | _=>none
 | .makeMap t none=>(P.underlying t).bind fun
   | .map k _=>(P.underlying k).bind fun kd=>if aSx kd=true then some (.mkmap kd)else none
   | _=>none
 | .lookup t x i ok=>(P.underlying t).bind fun
   | .map k e=>(P.underlying k).bind fun kd=>((P.info? e).bind (·.zero)).bind fun z=>(Mz z).bind fun z=>(d7 x).bind fun x=>(d7 i).bind fun i=>some (.look kd z ok x i)
   | _=>none
 | .mapUpdate t x i v=>(P.underlying t).bind fun
   | .map k _=>(P.underlying k).bind fun kd=>(d7 x).bind fun x=>(d7 i).bind fun i=>(d7 v).bind fun v=>some (.mupd kd x i v)
   | _=>none
 | .store t x v=>(P.info? t).bind fun i=>(d7 x).bind fun x=>(d7 v).map fun v=>.store i.size x v
 | .call c =>
  match c.callee with
  | .value (.func f) => (P.funcs[f]?).bind fun fn => if fn.body.isSome && !(fn.name == "runtime.NumGoroutine") then (O3 c.args.toList).map fun as => .call f as else none
  | .value x=>(d7 x).bind fun x=>(O3 c.args.toList).map fun as=>.callv x as
  | .builtin .len=>match c.argTypes[0]? with
   | some t=>(P.underlying t).bind fun
    | .slice _ => match c.args.toList with | [x] => (d7 x).map .lenS | _ => none
    | _=>none
   | none=>none
  | .builtin .delete=>match c.argTypes[0]? with
   | some t=>(P.underlying t).bind fun
    | .map k _ => (P.underlying k).bind fun kd => match c.args.toList with | [x,i] => (d7 x).bind fun x => (d7 i).map fun i => .mdel kd x i | _ => none
    | _=>none
   | none=>none
  | .builtin .min=>(O3 c.args.toList).map (.mm false)
  | .builtin .max=>(O3 c.args.toList).map (.mm true)
  | .builtin .append=>match c.argTypes.toList,c.args.toList with
   | [t,u],[s,x]=>(P.underlying t).bind fun
    | .slice e=>(P.info? e).bind fun ie=>if t=u∧0<ie.size∧(ie.zero.map fun z=>z.cells.size)=some ie.size then(d7 s).bind fun s=>(d7 x).map fun x=>.app e ie.size ie.bytes s x else none
    | _=>none
   | _,_=>none
  | _=>none
 | _=>none
def ahY(n:Nat):Option Nat→Bool
 | some d=>Nat.blt d n
 | none=>true
def sV(n:Nat)(ops:Array Oper)(o:Oper):Option (ROp×Nat) :=
 if ahY n o.dst=true then(cRO P o).bind fun op=>match o.guard with
  | none=>let r:ROp:=⟨o.dst,op,none⟩;some (r,RX r.reads)
  | some (j,b)=>((ops[j]?).bind (·.dst)).map fun t=>let r:ROp:=⟨o.dst,op,some (t,b)⟩;(r,RX r.reads)
 else none
def atq(ops:Array Oper):Bool :=
 let bs:=Region.before ops
 let n:=ops.size
 (List.range n).all (fun i=>(ops.getD i default).after.toList.all fun e=>!Region.binds .any e||decide (e.on<i)) &&
 (List.range n).all (fun i=>(List.range n).all fun a=>!(bs.getD i 0).testBit a||(ops.getD i default).after.toList.any fun e=>Region.binds .any e&&(a == e.on||(bs.getD e.on 0).testBit a))
def KZ(ops:Array Oper):List Nat:=(List.range ops.size).map (fun i=>(Region.before ops).getD i 0)
def IQ(n:Nat)(ops:Array Oper)(draw:Bool):Option RC :=
 (ops.toList.mapM (sV P n ops)).bind fun vl=>if draw=true→(atq ops=true∧P.follows .mixedOrders=true)then some (.region (if draw=true then some (KZ ops)else none) vl)else none
def kY(n:Nat):Code→Option RC
 | .skip=>some .skip
 | .region _ ops draw=>some ((IQ P n ops draw).getD .bad)
 | .seq a b=>(kY n a).bind fun a=>(kY n b).map fun b=>.seq a b
 | .cond c a b=>(d7 c).bind fun c=>(kY n a).bind fun a=>(kY n b).map fun b=>.cond c a b
 | .block id c=>(kY n c).map (.block id)
 | .loop c=>(kY n c).map .loop
 | .exit id=>some (.exit id)
 | .ret=>some .ret
 | _=>some .bad
inductive RR where
 | tmp (t:Nat)
 | cell (t n:Nat) (agg:Bool)
def Iz:ResultVar→Option RR
 | .tmp t=>some (.tmp t)
 | .cell a t=>(TZ P t).map fun(d,i)=>if iq d then .cell a i.size true else .cell a 1 false
structure RF where
 code:RC
 res:List RR
def aZK(f:FuncId):Option RF:=(P.funcs[f]?).bind fun fn=>fn.body.bind fun c=>(kY P fn.ntmps c).bind fun rc=>(fn.results.toList.mapM (Iz P)).map fun rs=>⟨rc,rs⟩
end
end Go.RM
namespace Go.RM
open Go.VM (T2 mmI G3 CY eqS idx T)
structure S where
 h:Tr O
 c:Nat
 w:Nat
instance:Inhabited S:=⟨⟨.lf,0,0⟩⟩
def aLW:TypeDesc→TypeDesc→Bool
 | .int k,.int k'=>decide (k=k')
 | .string,.string=>true
 | .bool,.bool=>true
 | _,_=>false
def scV(v:Value):V:=.c (.sc v)
def bV(b:Bool):V:=.c (.sc (.bool b))
def iV(n:Int):V:=.c (.sc (.int .i64 n))
def i8:Value:=.slice none 0 0
def evE(Γ:Nat→V):Opd→V
 | .tmp t=>Γ t
 | .con x=>x
 | .fn f=>.c (.fn f [])
def look(Γ:Tr V)(t:Nat):V:=match Γ.get t with
 | some v=>v
 | none=>.junk
def ev(Γ:Tr V):Opd→V:=evE (look Γ)
def i3:V→Option (List X)
 | .c x=>some [x]
 | .agg xs=>some xs
 | _=>none
def mkV(g:Bool)(cs:List X):V :=
 bif g then .agg cs else match cs with
  | [x]=>.c x
  | _=>.junk
def isB:V→Option Bool
 | .c (.sc (.bool b))=>some b
 | _=>none
def isI:V→Option Int
 | .c (.sc (.int _ n))=>some n
 | _=>none
def i4:V→Option Int
 | .c (.sc (.int .i64 n))=>some n
 | _=>none
def isS:V→Option ByteArray
 | .c (.sc (.string s))=>some s
 | _=>none
def gd(b:Bool){α:Type}(x:Option α):Option α:=bif b then x else none
def cut(xs:List X)(off n:Nat):Option (List X) :=
 let r:=(xs.drop off).take n
 gd (Nat.beq r.length n) (some r)
def setAt(cur:List X)(off:Nat)(cs:List X):List X:=cur.take off++(cs++cur.drop (off+cs.length))
def fill(e:Opd→V):List X→List (Nat×Nat×Opd)→Option (List X)
 | cur,[]=>some cur
 | cur,p::ps=>(i3 (e p.2.2)).bind fun cs=>gd (Nat.beq cs.length p.2.1&&Nat.ble (p.1+p.2.1) cur.length) (fill e (setAt cur p.1 cs) ps)
def i7(n:Int):Option Nat:=match n with
 | .ofNat k=>some k
 | .negSucc _=>none
def axx:V→Option Bool
 | .c (.sc (.pointer none))=>some true
 | .c (.ptr ..)=>some false
 | .c (.pI _)=>some false
 | _=>none
def auW:V→Option Bool
 | .c (.sc (.map none))=>some true
 | .c (.mp _)=>some false
 | _=>none
def axY:V→Option Bool
 | .c (.sc (.slice none 0 0))=>some true
 | .c (.sl ..)=>some false
 | .c .es=>some false
 | .c (.im _ (_::_))=>some false
 | _=>none
def acW(k:Nat)(x:V):Option Bool:=match k with
 | 0=>axx x
 | 1=>auW x
 | _=>axY x
def aVW:V→Bool
 | .c (.ptr ..)=>true
 | .c (.pI _)=>true
 | _=>false
def imX:T→X
 | .sc v=>.sc v
 | .sl k rows=>.im k rows
def mmR(mx:Bool)(k:IntKind):Int→List V→Option Int
 | a,[]=>some a
 | a,.c (.sc (.int k' b))::r=>gd (decide (k'=k)) (mmR mx k (mmI mx a b) r)
 | _,_=>none
def aOz:V→Option X
 | .c x=>some x
 | _=>none
def bnd(e:Opd→V)(d:Nat):Option Opd→Option Nat
 | none=>some d
 | some x=>(i4 (e x)).bind i7
def d6(e:Opd→V):RO→Option V
 | .mv x=>some (e x)
 | .pick c a b=>(isB (e c)).map fun t=>bif t then e a else e b
 | .build z ps=>(fill e z ps).map .agg
 | .nilc x=>gd (aVW (e x)) (some (e x))
 | .fld off x=>match e x with
  | .c (.ptr n o)=>some (.c (.ptr n (o+off)))
  | .c (.pI cs)=>some (.c (.pI (cs.drop off)))
  | _=>none
 | .ixA k x i=>(isI (e i)).bind fun j=>(i7 j).bind fun j=>match e x with
  | .c (.sl n k' off len)=>gd (Nat.beq k k'&&Nat.blt j len) (some (.c (.ptr n (off+j*k))))
  | .c (.im k' rows)=>gd (Nat.beq k k') (rows[j]?.map fun row=>.c (.pI row))
  | _=>none
 | .bin op x y=>match e x,e y with
  | .c (.sc a),.c (.sc b)=>(T2 op a b).map scV
  | _,_=>none
 | .neq kd ne x y=>(acW kd (e x)).bind fun a=>(acW kd (e y)).bind fun b=>gd (a||b) (some (bV (xor (a&&b) ne)))
 | .un .not x=>(isB (e x)).map fun b=>bV (!b)
 | .un .neg x=>(i4 (e x)).map fun n=>iV (IntKind.i64.wrap (0-n))
 | .ext x i=>match e x with
  | .tup vs=>match vs[i]? with
   | some (.c x)=>some (.c x)
   | some (.agg xs)=>some (.agg xs)
   | _=>none
  | _=>none
 | .lenS x=>match e x with
  | .c (.sc (.slice none 0 0))=>some (iV 0)
  | .c .es=>some (iV 0)
  | .c (.sl _ _ _ len)=>some (iV (len:Int))
  | .c (.im _ rows)=>some (iV (rows.length:Int))
  | .c .ez=>some (iV 0)
  | _=>none
 | .mm mx args=>match args.map e with
  | .c (.sc (.int k a))::r=>(mmR mx k a r).map fun n=>scV (.int k n)
  | _=>none
 | .mkfn f caps=>((caps.map e).mapM aOz).map fun cs=>.c (.fn f cs)
 | .sub k x lo hi=>match e x with
  | .c (.sc (.slice none 0 0))=>(bnd e 0 lo).bind fun l=>(bnd e 0 hi).bind fun h=>gd (Nat.beq l 0&&Nat.beq h 0) (some (scV i8))
  | .c (.sl n k' off len)=>(bnd e 0 lo).bind fun l=>(bnd e len hi).bind fun h=>gd (Nat.beq k k'&&(Nat.ble l h&&Nat.ble h len)) (some (.c (.sl n k (off+l*k) (h-l))))
  | .c .es=>(bnd e 0 lo).bind fun l=>(bnd e 0 hi).bind fun h=>gd (Nat.beq l 0&&Nat.beq h 0) (some (.c .es))
  | .c .ez=>(bnd e 0 lo).bind fun l=>(bnd e 0 hi).bind fun h=>gd (Nat.beq l 0&&Nat.beq h 0) (some (.c .ez))
  | .c (.im k' rows)=>(bnd e 0 lo).bind fun l=>(bnd e rows.length hi).bind fun h=>gd (Nat.beq k k'&&(Nat.ble l h&&Nat.ble h rows.length)) (some (.c (.im k ((rows.drop l).take (h-l)))))
  | _=>none
 | _=>none
def X5(s:S)(n:Nat):Option (TypeId×List X):=match s.h.get n with
 | some (.cells e xs)=>some (e,xs)
 | _=>none
def aZV(s:S)(n:Nat):Option (TypeDesc×Bool×List (Value×V)):=match s.h.get n with
 | some (.map kd b es)=>some (kd,b,es)
 | _=>none
def arV(s:S)(n:Nat):Option (TypeDesc×List (Value×V)):=match s.h.get n with
 | some (.map kd _ es)=>some (kd,es)
 | some (.dmap kd es)=>some (kd,es)
 | _=>none
def getD(s:S)(n:Nat):Option (TypeDesc×List (Value×V)):=match s.h.get n with
 | some (.map kd false es)=>some (kd,es)
 | some (.dmap kd es)=>some (kd,es)
 | _=>none
def ayV(k:Value):List (Value×V)→List (Value×V)
 | []=>[]
 | p::r=>if Go.VM.keyB k p.1=true then r else p::ayV k r
def new(s:S)(o:O):Option S:=gd (s.h.get s.c).isNone (some {h:=s.h.set s.c o,c:=s.c+1,w:=Nat.lor s.w (bit s.c)})
def put(s:S)(n:Nat)(o:O):Option S:=some {s with h:=s.h.set n o,w:=Nat.lor s.w (bit n)}
def aGX(s:S)(k:Nat):V→Option (List X×Nat×Nat)
 | .c (.sc (.slice none 0 0))=>some ([],0,0)
 | .c .es=>some ([],0,0)
 | .c .ez=>some ([],0,0)
 | .c (.im k' rows)=>gd (Nat.beq k k') (some (rows.flatten.map imX,rows.length,0))
 | .c (.sl n k' off len)=>(X5 s n).bind fun p=>gd (Nat.beq k k') ((cut p.2 off (len*k)).map fun cs=>(cs,len,bit n))
 | _=>none
def Ox(bytes n:Nat):Bool:=Nat.ble (n*bytes) 140737488355328&&Nat.ble n 9223372036854775807
def aPq(kd:TypeDesc):V→Option Value
 | .c (.sc v)=>gd (Go.VM.keyOf kd v) (some v)
 | _=>none
def wX:V→Bool
 | .c _ | .agg _=>true
 | _=>false
def O2(ok:Bool)(z:V):Option V→V
 | none=>bif ok then .tup [z,bV false]else z
 | some v=>bif ok then .tup [v,bV true]else v
def gK(e:Opd→V)(s:S):RO→Option (V×S×Nat)
 | .load n g x=>match e x with
  | .c (.ptr m off)=>(X5 s m).bind fun p=>(cut p.2 off n).map fun cs=>(mkV g cs,s,bit m)
  | .c (.pI cs)=>gd (Nat.ble n cs.length) (some (mkV g ((cs.take n).map imX),s,0))
  | _=>none
 | .look kd z ok x i=>(aPq kd (e i)).bind fun key=>match e x with
  | .c (.sc (.map none))=>some (O2 ok z none,s,0)
  | .c (.mp m)=>(arV s m).bind fun p=>gd (aLW p.1 kd) (some (O2 ok z (G3 key p.2),s,bit m))
  | _=>none
 | .alloc t z=>(new s (.cells t z)).map fun s'=>(.c (.ptr s.c 0),s',bit s.c)
 | .box t x=>(i3 (e x)).bind fun cs=>(new s (.cells t cs)).map fun s'=>(.c (.ptr s.c 0),s',bit s.c)
 | .mksl t k bytes z l c=>(i4 (e l)).bind fun m=>(i7 m).bind fun m=>(i4 (e c)).bind fun mc=>(i7 mc).bind fun mc =>
   gd (Nat.ble m mc&&Ox bytes mc) ((new s (.cells t (List.replicate m z).flatten)).map fun s'=>(.c (.sl s.c k 0 m),s',bit s.c))
 | .bsl t k len z ps=>(fill e (List.replicate len z).flatten ps).bind fun cs=>(new s (.cells t cs)).map fun s'=>(.c (.sl s.c k 0 len),s',bit s.c)
 | .store n x v=>match e x with
  | .c (.ptr m off)=>(i3 (e v)).bind fun cs=>(X5 s m).bind fun p=>gd (Nat.beq cs.length n&&Nat.ble (off+n) p.2.length) ((put s m (.cells p.1 (setAt p.2 off cs))).map fun s'=>(.junk,s',bit m))
  | _=>none
 | .app t k bytes sl x=>(aGX s k (e x)).bind fun src=>match e sl with
  | .c (.sc (.slice none 0 0))=>bif Nat.beq src.2.1 0 then some (e sl,s,src.2.2)else gd (Ox bytes src.2.1) ((new s (.cells t src.1)).map fun s'=>(.c (.sl s.c k 0 src.2.1),s',Nat.lor src.2.2 (bit s.c)))
  | .c .es=>bif Nat.beq src.2.1 0 then some (e sl,s,src.2.2)else gd (Ox bytes src.2.1) ((new s (.cells t src.1)).map fun s'=>(.c (.sl s.c k 0 src.2.1),s',Nat.lor src.2.2 (bit s.c)))
  | .c .ez=>bif Nat.beq src.2.1 0 then some (e sl,s,src.2.2)else gd (Ox bytes src.2.1) ((new s (.cells t src.1)).map fun s'=>(.c (.sl s.c k 0 src.2.1),s',Nat.lor src.2.2 (bit s.c)))
  | .c (.sl n k' off len)=>(X5 s n).bind fun p=>gd (Nat.beq k k'&&(Nat.beq p.1 t&&Ox bytes (len+src.2.1))) ((cut p.2 off (len*k)).bind fun olds =>
    bif Nat.beq src.2.1 0 then some (e sl,s,Nat.lor src.2.2 (bit n))else
    (put s n .dead).bind fun s1=>(new s1 (.cells t (olds++src.1))).map fun s'=>(.c (.sl s1.c k 0 (len+src.2.1)),s',Nat.lor (Nat.lor src.2.2 (bit n)) (bit s1.c)))
  | _=>none
 | .mkmap kd=>(new s (.map kd false [])).map fun s'=>(.c (.mp s.c),s',bit s.c)
 | .mupd kd x i v=>(aPq kd (e i)).bind fun key=>match e x with
  | .c (.mp m)=>(aZV s m).bind fun p=>gd (aLW p.1 kd&&(!p.2.1&&wX (e v))) ((put s m (.map kd false (CY key (e v) p.2.2))).map fun s'=>(.junk,s',bit m))
  | _=>none
 | .mdel kd x i=>(aPq kd (e i)).bind fun key=>match e x with
  | .c (.mp m)=>(getD s m).bind fun p=>gd (aLW p.1 kd) ((put s m (.dmap kd (ayV key p.2))).map fun s'=>(.junk,s',bit m))
  | _=>none
 | _=>none
abbrev Out(α:Type):=Option (List α×Nat)
def one{α:Type}(x:α):Out α:=some ([x],0)
def DV{α β:Type}(f:α→Out β):List α→Nat→Out β
 | [],r=>some ([],r)
 | x::l,r=>match f x with
  | none=>none
  | some (ys,r1)=>match DV f l (Nat.lor r r1)with
   | none=>none
   | some (zs,r2)=>some (ys++zs,r2)
def xj{α β:Type}(x:Out α)(f:α→Out β):Out β:=match x with
 | none=>none
 | some (l,r)=>DV f l r
abbrev mz:=FuncId→List V→S→Out (V×S)
def opX(call:mz)(e:Opd→V)(s:S):RO→Out (V×S)
 | .call f args=>call f (args.map e) s
 | .callv x args=>match e x with
  | .c (.fn f caps)=>call f (args.map e++caps.map .c) s
  | _=>none
 | op=>match d6 e op with
  | some v=>one (v,s)
  | none=>match gK e s op with
   | some (v,s',r)=>some ([(v,s')],r)
   | none=>none
def H3:V:=.tup []
def putO(d:Option Nat)(x:V)(Γ:Tr V):Tr V:=match d with
 | some d=>Γ.set d x
 | none=>Γ
def iZ(Γ:Tr V):Option (Nat×Bool)→Option Bool
 | none=>some true
 | some (t,b)=>match ev Γ (.tmp t)with
  | .c (.sc (.bool c))=>some (!xor c b)
  | .tup []=>some false
  | _=>none
def xX(call:mz)(o:ROp)(Γ:Tr V)(s:S):Out (Tr V×S):=match iZ Γ o.guard with
 | none=>none
 | some false=>one (putO o.dst H3 Γ,s)
 | some true=>xj (opX call (ev Γ) s o.op) fun p=>one (putO o.dst p.1 Γ,p.2)
def Qx(call:mz):List (ROp×Nat)→Tr V→S→Out (Tr V×S)
 | [],Γ,s=>one (Γ,s)
 | o::os,Γ,s=>xj (xX call o.1 Γ s) fun p=>Qx call os p.1 p.2
structure Did where
 i:Nat
 tr:Nat
 tw:Nat
 r:Nat
 w:Nat
def zx:Option Nat→Nat
 | some d=>bit d
 | none=>0
def JX(b:Nat)(x y:Did):Bool :=
 Nat.testBit b x.i||(Nat.beq (Nat.land x.tw y.tr) 0&&(Nat.beq (Nat.land y.tw x.tr) 0&&(Nat.beq (Nat.land x.tw y.tw) 0&&(Nat.beq (Nat.land x.w y.r) 0&&(Nat.beq (Nat.land y.w x.r) 0&&Nat.beq (Nat.land x.w y.w) 0)))))
def D1(call:mz):List (ROp×Nat)→List Nat→Nat→List Did→Tr V→S→Nat→Out (Tr V×S)
 | [],_,_,_,Γ,s,r=>some ([(Γ,s)],r)
 | o::os,tab,i,ds,Γ,s,r=>match tab with
  | []=>none
  | b::tab=>match xX call o.1 Γ {s with w:=0} with
   | some ([(Γ',s')],r') =>
    let d:Did:=⟨i,o.2,zx o.1.dst,r',s'.w⟩
    bif ds.all (fun x=>JX b x d)then D1 call os tab (i+1) (ds++[d]) Γ' {s' with w:=Nat.lor s.w s'.w} (Nat.lor r r')else none
   | _=>none
inductive Ex where
 | normal
 | exit (id:Nat)
 | ret
def ofL{α:Type}:List α→Nat→Tr α→Tr α
 | [],_,t=>t
 | x::l,i,t=>ofL l (i+1) (t.set i x)
def NX(Γ:Tr V)(s:S):List RR→Option (List V×Nat)
 | []=>some ([],0)
 | .tmp t::rs=>let v:=ev Γ (.tmp t);gd (wX v) ((NX Γ s rs).map fun p=>(v::p.1,p.2))
 | .cell t n g::rs=>match ev Γ (.tmp t)with
  | .c (.ptr m off)=>(X5 s m).bind fun p=>(cut p.2 off n).bind fun cs=>let v:=mkV g cs;gd (wX v) ((NX Γ s rs).map fun p=>(v::p.1,Nat.lor (bit m) p.2))
  | _=>none
def U5:List V→V
 | [x]=>x
 | xs=>.tup xs
def adx(rs:List RR)(Γ:Tr V)(s:S):Out (V×S):=match NX Γ s rs with
 | none=>none
 | some (vs,r)=>some ([(U5 vs,s)],r)
def exec(orc:mz)(T:Tr RF):Nat→RC→Tr V→S→Out (Ex×Tr V×S)
 | 0,_,_,_=>none
 | n+1,c,Γ,s =>
  let call:mz:=fun f args s=>match T.get f with
   | none=>orc f args s
   | some rf=>xj (exec orc T n rf.code (ofL args 0 .lf) s) fun p=>match p.1 with
    | .normal | .ret=>adx rf.res p.2.1 p.2.2
    | .exit _=>none
  match c with
  | .skip=>one (.normal,Γ,s)
  | .region none ops=>xj (Qx call ops Γ s) fun p=>one (.normal,p.1,p.2)
  | .region (some tab) ops=>xj (D1 call ops tab 0 [] Γ s 0) fun p=>one (.normal,p.1,p.2)
  | .seq a b=>xj (exec orc T n a Γ s) fun p=>match p.1 with
   | .normal=>exec orc T n b p.2.1 p.2.2
   | _=>one p
  | .cond c a b=>match isB (ev Γ c)with
   | none=>none
   | some true=>exec orc T n a Γ s
   | some false=>exec orc T n b Γ s
  | .block id b=>xj (exec orc T n b Γ s) fun p=>match p.1 with
   | .exit id'=>bif Nat.beq id' id then one (.normal,p.2.1,p.2.2)else one p
   | _=>one p
  | .loop b=>xj (exec orc T n b Γ s) fun p=>match p.1 with
   | .normal=>exec orc T n (.loop b) p.2.1 p.2.2
   | _=>one p
  | .exit id=>one (.exit id,Γ,s)
  | .ret=>one (.ret,Γ,s)
  | .bad=>none
def oY(orc:mz)(T:Tr RF)(n:Nat):mz:=fun f args s=>match T.get f with
 | none=>orc f args s
 | some rf=>xj (exec orc T n rf.code (ofL args 0 .lf) s) fun p=>match p.1 with
  | .normal | .ret=>adx rf.res p.2.1 p.2.2
  | .exit _=>none
end Go.RM
namespace Go.RM
open Go.VM (Pt Fr iq j6 Uq PX G2 V0 yV yW aqV eqL K6 aEx mmI G3 CY eqS idx)
theorem f4{b:Bool}{α:Type}{x:Option α}{y:α}:gd b x=some y↔b=true∧x=some y:=by
 unfold gd;cases b<;>simp
theorem zK{a b:Nat}(h:Nat.beq a b=true):a=b:=Nat.eq_of_beq_eq_true h
theorem Nq{a b:Nat}(h:Nat.ble a b=true):a≤b:=Nat.le_of_ble_eq_true h
theorem aVJ{a b:Nat}(h:Nat.blt a b=true):a<b:=by unfold Nat.blt at h;exact Nq h
section
variable {P:Program} {φ:Ren} {Γ:Nat→V} {a:Act} {w:World}
def EnvR(φ:Ren)(a:Act)(Γ:Nat→V):Prop:=∀t,RepV φ (a.tmps.getD t undef) (Γ t)
theorem i2{v u:Value}(h:RepV φ v (.c (.sc u))):v=u:=by cases h;rfl
theorem H4{v:Value}(h:v.oneCell'=true):RepV φ v (.c (.sc v)):=RepX.sc v h
theorem aLx(b:Bool):RepV φ (.bool b) (bV b):=H4 rfl
theorem aKW(n:Int):RepV φ (.int .i64 n) (iV n):=H4 rfl
theorem aQX{x:V}{b:Bool}(h:isB x=some b):x = .c (.sc (.bool b)):=by
 unfold isB at h;split at h<;>simp at h;subst h;rfl
theorem aNx{x:V}{n:Int}(h:isI x=some n):∃k,x = .c (.sc (.int k n)):=by
 unfold isI at h;split at h<;>simp at h;subst h;exact⟨_,rfl⟩
theorem axZ{x:V}{n:Int}(h:i4 x=some n):x = .c (.sc (.int .i64 n)):=by
 unfold i4 at h;split at h<;>simp at h;subst h;rfl
theorem HZ{n:Int}{k:Nat}(h:i7 n=some k):n=(k:Int):=by
 unfold i7 at h;split at h<;>simp at h;subst h;rfl
theorem amx{v:Value}{x:V}{b:Bool}(hr:RepV φ v x)(h:isB x=some b):v = .bool b:=i2 (aQX h▸hr)
theorem aBZ{v:Value}{x:V}{n:Int}(hr:RepV φ v x)(h:isI x=some n):∃k,v = .int k n:=by
 obtain⟨k,e⟩:=aNx h;exact⟨k,i2 (e▸hr)⟩
theorem Pj{v:Value}{x:V}{n:Int}(hr:RepV φ v x)(h:i4 x=some n):v = .int .i64 n:=i2 (axZ h▸hr)
theorem RepX.one{v:Value}{x:X}(h:RepX φ v x):v.oneCell'=true:=by cases h<;>first | assumption | rfl | exact Go.VM.RepT.one ‹_›
theorem aCJ{v:Value}{t:Go.VM.T}(h:Go.VM.RepT φ.w0 φ.ok v t):RepX φ v (imX t):=by
 cases t with
 | sc u => cases h with | sc _ h => exact .sc _ h
 | sl k rows=>exact .im _ k rows h
theorem X8{v:Value}{cs:List Go.VM.T}(hx:RepV φ v (.c (.pI cs))):∃b off,Go.VM.At φ.w0 φ.ok b off cs∧v = .pointer (some ⟨b,off,none⟩):=by
 have hx':RepX φ v (.pI cs):=hx
 cases hx' with
 | pI b off _ h=>exact⟨b,off,h,rfl⟩
theorem At.drop{w:World}{ok:Nat→Prop}{b off:Nat}{cs:List Go.VM.T}(h:Go.VM.At w ok b off cs)(n:Nat):Go.VM.At w ok b (off+n) (cs.drop n) :=
 ⟨h.1,fun j x hx=>by
  rw[List.getElem?_drop]at hx
  obtain⟨v,h1,h2⟩:=h.2 (n+j) x hx
  exact⟨v,by rw[Nat.add_assoc];exact h1,h2⟩⟩
theorem UZ{v:Value}{k:Nat}{rows:List (List Go.VM.T)}(hx:RepV φ v (.c (.im k rows))) :
  (rows=[]∧∃a cap,v = .slice a 0 cap)∨∃b off cap,v = .slice (some ⟨b,off,none⟩) rows.length cap∧rows.length≤cap∧(∀row∈rows,row.length=k)∧∀(i:Nat) row,rows[i]? = some row→Go.VM.At φ.w0 φ.ok b (off+i*k) row:=by
 have hx':RepX φ v (.im k rows):=hx
 cases hx' with
 | im _ _ _ h =>
  cases h with
  | nil _ a cap=>exact .inl ⟨rfl,a,cap,rfl⟩
  | sl b off cap _ _ f hok hle hk hc hr=>exact .inr ⟨b,off,cap,rfl,hle,hk,fun i row hi=>⟨hok,fun j x hj=>⟨_,hc i row j x hi hj,hr i row j x hi hj⟩⟩⟩
theorem EZ{v:Value}{x:V}{cs:List X}(h:RepV φ v x)(hx:i3 x=some cs):Pt (RepX φ) v.cells.toList cs:=by
 cases x with
 | c y =>
  simp[i3]at hx;subst hx
  have h1:RepX φ v y:=h
  rw[Go.VM.cells_one h1.one]
  exact⟨rfl,fun j u z hu hz=>by
   cases j with
   | zero=>simp at hu hz;subst hu;subst hz;exact h1
   | succ j=>simp at hu⟩
 | agg ys =>
  simp[i3]at hx;subst hx
  obtain⟨cs',rfl,hp⟩:=h
  exact hp
 | tup _=>simp[i3]at hx
 | junk=>simp[i3]at hx
theorem aaY{v:Value}{c:X}(hc:adY v=some c):RepX φ v c:=by
 unfold adY at hc
 split at hc<;>first | (cases hc;exact .sc _ rfl) | (simp at hc)
theorem I1:∀(vs:List Value) (cs:List X),vs.mapM adY=some cs→Pt (RepX φ) vs cs
 | [],cs,h=>by simp at h;subst h;exact Go.VM.Pt.nil
 | v::vs,cs,h=>by
  simp only[List.mapM_cons,Option.bind_eq_bind,Option.pure_def]at h
  cases hv:adY v with
  | none=>simp[hv]at h
  | some c =>
   cases hr:vs.mapM adY with
   | none=>simp[hv,hr]at h
   | some r=>simp[hv,hr]at h;subst h;exact Go.VM.Pt.cons (aaY hv) (I1 vs r hr)
theorem D8{v:Value}{x:V}(hc:Mz v=some x):RepV φ v x:=by
 unfold Mz at hc
 split at hc
 ·rename_i cs
  cases hm:cs.toList.mapM adY with
  | none=>simp[hm]at hc
  | some r=>simp[hm]at hc;subst hc;exact⟨cs,rfl,I1 _ _ hm⟩
 ·cases hm:adY v with
  | none=>simp[hm]at hc
  | some r=>simp[hm]at hc;subst hc;exact aaY hm
theorem bY(s:EnvR φ a Γ){x:Operand}{y:Opd}(hc:d7 x=some y):RepV φ (a.eval x) (evE Γ y):=by
 cases x with
 | tmp t=>simp[d7]at hc;subst hc;exact s t
 | const v =>
  simp only[d7]at hc
  cases hv:Mz v with
  | none=>simp[hv]at hc
  | some z=>simp[hv]at hc;subst hc;exact D8 hv
 | func f=>simp[d7]at hc;subst hc;exact RepX.fn f [] [] rfl (fun j v x hv=>by simp at hv)
 | global g=>simp[d7]at hc
theorem KK(s:EnvR φ a Γ):∀(xs:List Operand) (ys:List Opd),O3 xs=some ys→Pt (RepV φ) (xs.map a.eval) (ys.map (evE Γ))
 | [],ys,hm=>by simp[O3]at hm;subst hm;exact Go.VM.Pt.nil
 | x::xs,ys,hm=>by
  simp only[O3,List.mapM_cons,Option.bind_eq_bind,Option.pure_def]at hm
  cases hx:d7 x with
  | none=>simp[hx]at hm
  | some y =>
   cases hr:xs.mapM d7 with
   | none=>simp[hx,hr]at hm
   | some r=>simp[hx,hr]at hm;subst hm;exact Go.VM.Pt.cons (bY s hx) (KK s xs r hr)
theorem aIX{xs cs:List X}{off n:Nat}(h:cut xs off n=some cs):cs=(xs.drop off).take n∧cs.length=n:=by
 unfold cut at h
 rw[f4]at h;obtain⟨h1,h2⟩:=h
 cases h2
 exact⟨rfl,zK h1⟩
theorem Gq{cur cs:List X}{off:Nat}(h:off+cs.length≤cur.length):(setAt cur off cs).length=cur.length:=by
 unfold setAt;simp;omega
theorem HK(off:Nat):∀(vs:List Value) (n:Nat) (cur:Array Value),off+n+vs.length≤cur.size →
  ((vs.zipIdx n).foldl (fun cs (x:Value×Nat)=>cs.setIfInBounds (off+x.2) x.1) cur).toList=cur.toList.take (off+n)++(vs++cur.toList.drop (off+n+vs.length))
 | [],n,cur,h=>by simp
 | v::vs,n,cur,h=>by
  simp only[List.zipIdx_cons,List.foldl_cons]
  have:=HK off vs (n+1) (cur.setIfInBounds (off+n) v) (by simp at h ⊢;omega)
  rw[this,Array.toList_setIfInBounds]
  simp only[List.length_cons]at h
  apply List.ext_getElem?
  intro j
  simp only[List.getElem?_append,lk,List.length_take,List.length_set,List.getElem?_set,List.getElem?_drop,List.length_cons,Array.length_toList]
  have m1:min (off+(n+1)) cur.size=off+n+1:=by omega
  have m2:min (off+n) cur.size=off+n:=by omega
  rw[m1,m2]
  by_cases h1:j<off+n
  ·have:j<off+n+1:=by omega
   have:j<off+(n+1):=by omega
   have : ¬off+n=j:=by omega
   simp[*]
  ·by_cases h2:j=off+n
   ·subst h2
    have:off+n<cur.size:=by omega
    simp[this]
   ·have e1 : ¬j<off+n+1:=by omega
    obtain⟨m,hm⟩ : ∃m,j-(off+n)=m+1:=⟨j-(off+n)-1,by omega⟩
    have e2:j-(off+n+1)=m:=by omega
    simp only[h1,e1,ck,hm,e2,List.getElem?_cons_succ]
    by_cases h3:m<vs.length
    ·simp[h3]
    ·have h3' : ¬m+1<vs.length+1:=by omega
     simp only[h3,ck,h3']
     have : ¬off+n=off+(n+1)+vs.length+(m-vs.length):=by omega
     simp only[this,ck]
     congr 1
     omega
theorem Pt.setAt{us vs:List Value}{cur cs:List X}{off:Nat}(hb:Pt (RepX φ) us cur)(hc:Pt (RepX φ) vs cs):Pt (RepX φ) (us.take off++(vs++us.drop (off+vs.length))) (setAt cur off cs):=by
 unfold RM.setAt
 have:=hc.1
 exact Go.VM.Pt.append (Go.VM.Pt.take hb off) (Go.VM.Pt.append hc (by rw[this];exact Go.VM.Pt.drop hb _))
theorem C0{e:Opd→V}{ρ:Operand→Value}(place:Nat→Option (Nat×Nat))(hev:∀x y,d7 x=some y→RepV φ (ρ x) (e y)) :
  ∀(parts:List (Nat×Operand)) (ps:List (Nat×Nat×Opd)) (cur:Array Value) (xs zs:List X),C2 place parts=some ps→Pt (RepX φ) cur.toList xs→fill e xs ps=some zs →
  ∃cells,Instr.fill place cur (parts.map fun p=>(p.1,ρ p.2))=some cells∧Pt (RepX φ) cells.toList zs
 | [],ps,cur,xs,zs,hps,hc,hf=>by
  simp[C2]at hps;subst hps
  simp[fill]at hf;subst hf
  exact⟨cur,rfl,hc⟩
 | p::parts,ps,cur,xs,zs,hps,hc,hf=>by
  simp only[C2,List.mapM_cons,Option.bind_eq_bind,Option.pure_def]at hps
  cases hpl:place p.1 with
  | none=>simp[hpl]at hps
  | some q =>
   cases hx:d7 p.2 with
   | none=>simp[hpl,hx]at hps
   | some y =>
    cases hr:parts.mapM (fun p=>(place p.1).bind fun q=>(d7 p.2).map fun x=>(q.1,q.2,x))with
    | none=>simp[hpl,hx,hr]at hps
    | some rest =>
     simp[hpl,hx,hr]at hps
     subst hps
     simp only[fill]at hf
     cases hcs:i3 (e y)with
     | none=>simp[hcs]at hf
     | some cs =>
      simp only[hcs,Option.bind_some]at hf
      rw[f4]at hf;obtain⟨hcond,hf⟩:=hf
      simp only[bw]at hcond
      have c1:=zK hcond.1
      have c2:=Nq hcond.2
      have hp:=EZ (hev _ _ hx) hcs
      have hl:(ρ p.2).cells.size=cs.length:=by have:=hp.1;simpa using this
      have hcl:cur.size=xs.length:=by have:=hc.1;simpa using this
      have hfold:=HK q.1 (ρ p.2).cells.toList 0 cur (by simp;omega)
      have OZ:=Pt.setAt (off:=q.1) hc hp
      simp only[Nat.add_zero]at hfold
      rw[←hfold]at OZ
      obtain⟨cells,h1,h2⟩:=C0 place hev parts rest _ _ zs hr OZ hf
      refine⟨cells,?_,h2⟩
      obtain⟨off,size⟩:=q
      simp only[lw,Instr.fill,hpl]
      simp only at c1 c2
      have e1 : ¬((ρ p.2).cells.size≠size):=by omega
      have e2 : ¬(off+(ρ p.2).cells.size > cur.size):=by omega
      simp only[e1,e2,decide_false,Bool.or_self,jw,ck]
      rw[←h1]
      congr 1
      rw[←Array.foldl_toList,Array.toList_zipIdx]
def Q1(P:Program)(φ:Ren)(w:World)(m:Sem Value)(r:V):Prop:=∃v,m.run P w = .ok v w∧RepV φ v r
def GivesN(P:Program)(φ:Ren)(w:World)(m:Sem Next)(r:V):Prop:=∃v,m.run P w = .ok (.value v) w∧RepV φ v r
theorem GivesN.of{m:Sem Value}{r:V}(hg:Q1 P φ w m r):GivesN P φ w (do pure (.value (←m))) r:=by
 obtain⟨v,hv,hr⟩:=hg
 exact⟨v,by simp[hv],hr⟩
theorem PJ{vs:List Value}{cs:List X}(hp:Pt (RepX φ) vs cs):RepV φ (.agg vs.toArray) (mkV true cs) :=
 ⟨vs.toArray,rfl,by simpa using hp⟩
theorem H5{v:Value}{cs:List X}(hp:Pt (RepX φ) [v] cs):RepV φ v (mkV false cs):=by
 match cs,hp with
 | [c],hp=>exact hp.2 0 v c rfl rfl
 | [],hp=>have:=hp.1;simp at this
 | _::_::_,hp=>have:=hp.1;simp at this
theorem w4{v:Value}{n off:Nat}(hx:RepV φ v (.c (.ptr n off))):∃b β lim,φ n=some (b,β,lim)∧v = .pointer (some ⟨b,β+off,none⟩):=by
 have hx':RepX φ v (.ptr n off):=hx
 cases hx' with
 | ptr _ _ b β lim h=>exact⟨b,β,lim,h,rfl⟩
theorem TX(mx:Bool)(k:IntKind):∀(vs:List Value) (xs:List V) (m r:Int),Pt (RepV φ) vs xs→mmR mx k m xs=some r →
  (vs.foldlM (if mx then Builtin.max2 else Builtin.min2) (.int k m)).run P w = .ok (.int k r) w
 | [],xs,m,r,hp,hr=>by
  have:xs=[]:=gk (by have:=hp.1;simpa using this.symm)
  subst this;simp[mmR]at hr;subst hr;simp
 | v::vs,xs,m,r,hp,hr=>by
  cases xs with
  | nil=>have:=hp.1;simp at this
  | cons x xs =>
   have h0:=hp.2 0 v x rfl rfl
   have ht:Pt (RepV φ) vs xs:=⟨by have:=hp.1;simpa using this,fun j u z hu hz=>hp.2 (j+1) u z (by simpa using hu) (by simpa using hz)⟩
   unfold mmR at hr
   split at hr
   ·simp_all
   ·rename_i b r' heq
    cases heq
    have hv:=i2 h0
    subst hv
    rw[f4]at hr;obtain⟨hkk,hr⟩:=hr
    have hkk:=of_decide_eq_true hkk
    subst hkk
    have ih:=TX mx _ vs xs _ r ht hr
    cases mx
    ·simp only[List.foldlM_cons,jw,ck]at ih ⊢
     simp only[Builtin.min2,Sem.run_bind,Sem.run_pure,Result.andThen_ok]
     rw[←ih]
     simp only[mmI,jw,ck]
     congr 3
     rw[Int.min_def];split<;>split<;>omega
    ·simp only[List.foldlM_cons,ik]at ih ⊢
     simp only[Builtin.max2,Sem.run_bind,Sem.run_pure,Result.andThen_ok]
     rw[←ih]
     simp only[mmI,ik]
     congr 3
     rw[Int.max_def];split<;>split<;>omega
   ·simp at hr
theorem aKX(s:EnvR φ a Γ){o:Oper}{c:Call}(hop:o.op = .call c){b:Builtin}(hcal:c.callee = .builtin b){ys:List Opd}(hys:O3 c.args.toList=some ys)(mx:Bool)(hb:b=if mx then .max else .min){r:V}
  (hq:d6 (evE Γ) (.mm mx ys)=some r):GivesN P φ w (execOp a.eval o) r:=by
 have hp:=KK s _ _ hys
 simp only[d6]at hq
 split at hq
 ·rename_i kk m rest heq
  rw[heq]at hp
  simp only[aw]at hq
  obtain⟨n,hn,rfl⟩:=hq
  cases hl:c.args.toList.map a.eval with
  | nil=>have:=hp.1;rw[hl]at this;simp at this
  | cons v vs =>
   rw[hl]at hp
   have h0:=i2 (hp.2 0 v _ rfl rfl)
   subst h0
   have ht:Pt (RepV φ) vs rest:=⟨by have:=hp.1;simpa using this,fun j u z hu hz=>hp.2 (j+1) u z (by simpa using hu) (by simpa using hz)⟩
   have hf:=TX (P:=P) (w:=w) mx kk vs rest m n ht hn
   have hl':(c.args.map a.eval).toList = .int kk m::vs:=by rw[Array.toList_map];exact hl
   refine⟨.int kk n,?_,H4 rfl⟩
   cases mx
   ·simp only[jw,ck]at hb hf
    subst hb
    simp[execOp,hop,resolve,hcal,invoke,builtin,Builtin.min_,hl,hf]
   ·simp only[ik]at hb hf
    subst hb
    simp[execOp,hop,resolve,hcal,invoke,builtin,Builtin.max_,hl,hf]
 ·simp at hq
theorem XV{t e:TypeId}(ht:P.underlying t=some (.slice e))(q q':Option Addr)(l c l' c':Nat)(h:q=none∨q'=none) :
  (Op.equal t (.slice q l c) (.slice q' l' c')).run P w = .ok (q.isNone&&q'.isNone) w:=by
 show(Op.equalIn (9999+1) t _ _).run P w=_
 rw[Op.equalIn]
 rcases h with rfl | rfl
 ·cases q'<;>simp[run_underlying ht]
 ·cases q<;>simp[run_underlying ht]
theorem agj{lo:Option Operand}{lo':Option Opd}(h:adz lo=some lo'):(lo=none∧lo'=none)∨∃l l',lo=some l∧lo'=some l'∧d7 l=some l':=by
 cases lo with
 | none=>simp[adz]at h;exact .inl ⟨rfl,h.symm⟩
 | some l =>
  cases hl:d7 l with
  | none=>simp[adz,hl]at h
  | some y=>simp[adz,hl]at h;exact .inr ⟨l,y,rfl,h.symm,hl⟩
theorem u5(s:EnvR φ a Γ){lo hi:Option Operand}{lo' hi':Option Opd}(hl:adz lo=some lo')(hh:adz hi=some hi'){l n:Nat}{len cap:Nat}(b1:bnd (evE Γ) 0 lo'=some l)(b2:bnd (evE Γ) len hi'=some n)
  (h1:l≤n) (h2:n≤len) (hc:len≤cap) (isS:Bool) :
  (Instr.sliceBounds isS len cap (lo.map a.eval) (hi.map a.eval) none).run P w = .ok (l,n,cap) w:=by
 have num:∀ {x:Operand} {x':Opd} {d m:Nat},d7 x=some x'→bnd (evE Γ) d (some x')=some m→a.eval x = .int .i64 (m:Int):=by
  intro x x' d m hx hb
  simp only[bnd,ak]at hb
  obtain⟨k,hk,hn⟩:=hb
  rw[←HZ hn]
  exact Pj (bY s hx) hk
 rcases agj hl with⟨rfl,rfl⟩ | ⟨x,x',rfl,rfl,hx⟩<;>rcases agj hh with⟨rfl,rfl⟩ | ⟨y,y',rfl,rfl,hy⟩
 ·simp only[bnd,bk]at b1 b2;subst b1;subst b2
  simp[Instr.sliceBounds]
 ·simp only[bnd,bk]at b1;subst b1
  have hv:=num hy b2
  simp[Instr.sliceBounds,hv,run_sliceBound,(by omega:(n:Int)≤(cap:Int))]
 ·simp only[bnd,bk]at b2;subst b2
  have hv:=num hx b1
  simp[Instr.sliceBounds,hv,run_sliceBound,(by omega:(l:Int)≤(len:Int))]
 ·have hv:=num hx b1
  have hv':=num hy b2
  simp[Instr.sliceBounds,hv,hv',run_sliceBound,(by omega:(l:Int)≤(n:Int)),(by omega:(n:Int)≤(cap:Int))]
end
end Go.RM
namespace Go.RM
open Go.VM (Pt Fr iq j6 Uq PX G2 V0 yV yW I2 eqL K6 aEx mmI G3 CY eqS idx)
section
variable {P:Program} {φ:Ren} {Γ:Nat→V} {a:Act} {w:World}
theorem a1x{v:Value}{x:V}{b:Bool}(hr:RepV φ v x)(h:acW 0 x=some b):∃q,v = .pointer q∧q.isNone=b:=by
 have h:axx x=some b:=h
 unfold axx at h
 split at h<;>simp only[bk,reduceCtorEq]at h<;>subst h
 ·exact⟨none,i2 hr,rfl⟩
 ·obtain⟨b,β,lim,_,rfl⟩:=w4 hr;exact⟨_,rfl,rfl⟩
 ·obtain⟨b,off,_,rfl⟩:=X8 hr;exact⟨_,rfl,rfl⟩
theorem a1q{v:Value}{x:V}{b:Bool}(hr:RepV φ v x)(h:acW 1 x=some b):∃q,v = .map q∧q.isNone=b:=by
 have h:auW x=some b:=h
 unfold auW at h
 split at h<;>simp only[bk,reduceCtorEq]at h<;>subst h
 ·exact⟨none,i2 hr,rfl⟩
 ·cases hr;exact⟨_,rfl,rfl⟩
theorem a0x{v:Value}{x:V}{b:Bool}(hr:RepV φ v x)(h:acW 2 x=some b):∃q l c,v = .slice q l c∧q.isNone=b:=by
 have h:axY x=some b:=h
 unfold axY at h
 split at h<;>simp only[bk,reduceCtorEq]at h<;>subst h
 ·exact⟨none,0,0,i2 hr,rfl⟩
 ·cases hr;exact⟨_,_,_,rfl,rfl⟩
 ·cases hr;exact⟨_,_,_,rfl,rfl⟩
 ·rcases UZ hr with⟨h,_⟩ | ⟨b,off,cap,rfl,_⟩
  ·simp at h
  ·exact⟨_,_,_,rfl,rfl⟩
theorem a2j{t:TypeId}{x y:Operand}{u v:Value}{b:Bool}{op:BinOp}{ne:Bool}(hop:(op = .eql∧ne=false)∨(op = .neq∧ne=true))(hu:(∃q,u = .pointer q)∨(∃q,u = .map q)∨∃q l c,u = .slice q l c)(he:(Op.equal t u v).run P w = .ok b w) :
  (do eqGuard op t x y u v;binOp op t u v:Sem Value).run P w = .ok (.bool (xor b ne)) w:=by
 have h1:(∀cs,u ≠ .agg cs) ∧ u ≠ .nilIface := by rcases hu with⟨q,rfl⟩ | ⟨q,rfl⟩ | ⟨q,l,c,rfl⟩<;>exact⟨by simp,by simp⟩
 have hg:=G2 (P:=P) (w:=w) (op:=op) (t:=t) (x:=x) (y:=y) (v:=v) h1.1 h1.2
 rcases hop with⟨rfl,rfl⟩ | ⟨rfl,rfl⟩
 ·simp only[Sem.run_bind,hg,Result.andThen_ok]
  rcases hu with⟨q,rfl⟩ | ⟨q,rfl⟩ | ⟨q,l,c,rfl⟩<;>(cases v<;>simp[binOp,he])
 ·simp only[Sem.run_bind,hg,Result.andThen_ok]
  rcases hu with⟨q,rfl⟩ | ⟨q,rfl⟩ | ⟨q,l,c,rfl⟩<;>(cases v<;>simp[binOp,he])
theorem U2{α:Type}{q q':Option α}(h:(q.isNone||q'.isNone)=true):q=none∨q'=none:=by
 cases q with
 | none=>exact .inl rfl
 | some _=>cases q' with
  | none=>exact .inr rfl
  | some _=>simp at h
theorem alX(s:EnvR φ a Γ){t e:TypeId}{ie:TypeInfo}(ht:P.underlying t=some (.slice e))(hie:P.info? e=some ie){x:Operand}{x':Opd}(hx:d7 x=some x')
  {lo hi:Option Operand} {lo' hi':Option Opd} (hl:adz lo=some lo') (hh:adz hi=some hi') {r:V} (hq:d6 (evE Γ) (.sub ie.size x' lo' hi')=some r) :
  Q1 P φ w (Instr.sliceAt t (a.eval x) (lo.map a.eval) (hi.map a.eval) none) r:=by
 have hxr:=bY s hx
 simp only[d6]at hq
 split at hq
 ·rename_i heq
  rw[heq]at hxr
  simp only[ak]at hq
  obtain⟨l,b1,n,b2,hq⟩:=hq
  rw[f4]at hq;obtain⟨hc,hq⟩:=hq
  simp only[bw]at hc
  have:=zK hc.1;have:=zK hc.2;subst l;subst n
  cases hq
  have hv:=i2 hxr
  have hb:=u5 (P:=P) (w:=w) s hl hh b1 b2 (kw 0) (kw 0) (kw 0) true
  rw[hv]
  exact⟨.slice none 0 0,by simp[Instr.sliceAt,run_underlying ht,Instr.slice,hb,sizeOf,typeInfo,hie],H4 rfl⟩
 ·rename_i n k' off len heq
  rw[heq]at hxr
  simp only[ak]at hq
  obtain⟨l,b1,m,b2,hq⟩:=hq
  rw[f4]at hq;obtain⟨hc,hq⟩:=hq
  simp only[bw]at hc
  have c1:=zK hc.1;have c2:=Nq hc.2.1;have c3:=Nq hc.2.2
  cases hq
  subst c1
  generalize hval:a.eval x=v at hxr
  have hxr':RepX φ v (.sl n ie.size off len):=hxr
  cases hxr' with
  | sl _ _ _ _ b β lim o cap hφ hlen ho hlim =>
   have hb:=u5 (P:=P) (w:=w) s hl hh b1 b2 c2 c3 hlen true
   refine⟨.slice (if cap=l then some ⟨b,o,none⟩else some ⟨b,o+l*ie.size,none⟩) (m-l) (cap-l),?_,?_⟩
   ·have:(if cap=l then some (⟨b,o,none⟩ : Addr)else some ⟨b,o+l*ie.size,none⟩)=(if cap=l then some (⟨b,o,none⟩ : Addr)else(some (⟨b,o,none⟩ : Addr)).map (·.add (l*ie.size))):=by
     simp only[ek,j6]
    rw[this]
    simp[Instr.sliceAt,run_underlying ht,Instr.slice,hb,sizeOf,typeInfo,hie]
   ·by_cases e1:cap=l
    ·subst e1
     simp only[ik]
     refine RepX.sl n ie.size _ _ b β lim o _ hφ (by omega) (fun h=>by omega) ?_
     have:cap-cap=0:=by omega
     rw[this];omega
    ·simp only[e1,ck]
     refine RepX.sl n ie.size _ _ b β lim (o+l*ie.size) _ hφ (by omega) (fun h=>?_) ?_
     ·rw[ho (by omega)];omega
     ·have:l*ie.size+(cap-l)*ie.size=cap*ie.size:=by rw[←Nat.add_mul];congr 1;omega
      omega
 ·rename_i heq
  rw[heq]at hxr
  simp only[ak]at hq
  obtain⟨l,b1,n,b2,hq⟩:=hq
  rw[f4]at hq;obtain⟨hc,hq⟩:=hq
  simp only[bw]at hc
  have:=zK hc.1;have:=zK hc.2;subst l;subst n
  cases hq
  generalize hval:a.eval x=v at hxr
  have hxr':RepX φ v .es:=hxr
  cases hxr' with
  | es q =>
   have hb:=u5 (P:=P) (w:=w) s hl hh b1 b2 (kw 0) (kw 0) (kw 0) true
   exact⟨.slice (some q) 0 0,by simp[Instr.sliceAt,run_underlying ht,Instr.slice,hb,sizeOf,typeInfo,hie],RepX.es q⟩
 ·rename_i heq
  rw[heq]at hxr
  simp only[ak]at hq
  obtain⟨l,b1,n,b2,hq⟩:=hq
  rw[f4]at hq;obtain⟨hc,hq⟩:=hq
  simp only[bw]at hc
  have:=zK hc.1;have:=zK hc.2;subst l;subst n
  cases hq
  generalize hval:a.eval x=v at hxr
  have hxr':RepX φ v .ez:=hxr
  cases hxr' with
  | ez q =>
   have hb:=u5 (P:=P) (w:=w) s hl hh b1 b2 (kw 0) (kw 0) (kw 0) true
   exact⟨.slice q 0 0,by simp[Instr.sliceAt,run_underlying ht,Instr.slice,hb,sizeOf,typeInfo,hie],RepX.ez q⟩
 ·rename_i k' rows heq
  rw[heq]at hxr
  simp only[ak]at hq
  obtain⟨l,b1,m,b2,hq⟩:=hq
  rw[f4]at hq;obtain⟨hc,hq⟩:=hq
  simp only[bw]at hc
  have c1:=zK hc.1;have c2:=Nq hc.2.1;have c3:=Nq hc.2.2
  cases hq
  subst c1
  generalize hval:a.eval x=v at hxr
  have hxr':RepX φ v (.im ie.size rows):=hxr
  cases hxr' with
  | im _ _ _ hrt =>
   cases hrt with
   | nil _ ad cap =>
    simp only[List.length_nil,Nat.le_zero]at c3
    simp only[List.length_nil]at b2
    subst c3
    have:=Nat.le_zero.1 c2;subst this
    have hb:=u5 (P:=P) (w:=w) s hl hh b1 b2 (kw 0) (kw 0) (Nat.zero_le cap) true
    refine⟨.slice ad 0 cap,by cases cap<;>cases ad<;>simp[Instr.sliceAt,run_underlying ht,Instr.slice,hb,sizeOf,typeInfo,hie,j6,Addr.add],RepX.im _ _ _ ?_⟩
    simp only[List.drop_nil,List.take_nil]
    exact Go.VM.RepT.nil _ _ _
   | sl b off cap _ _ f hok hle hk hcc hr =>
    have hb:=u5 (P:=P) (w:=w) s hl hh b1 b2 c2 c3 hle true
    have hlen:((rows.drop l).take (m-l)).length=m-l:=by simp;omega
    refine⟨.slice (if cap=l then some ⟨b,off,none⟩else some ⟨b,off+l*ie.size,none⟩) (m-l) (cap-l),?_,RepX.im _ _ _ ?_⟩
    ·have:(if cap=l then some (⟨b,off,none⟩ : Addr)else some ⟨b,off+l*ie.size,none⟩)=(if cap=l then some (⟨b,off,none⟩ : Addr)else(some (⟨b,off,none⟩ : Addr)).map (·.add (l*ie.size))):=by
      simp only[ek,j6]
     rw[this]
     simp[Instr.sliceAt,run_underlying ht,Instr.slice,hb,sizeOf,typeInfo,hie]
    ·by_cases e0:m-l=0
     ·rw[e0,List.take_zero]
      exact Go.VM.RepT.nil _ _ _
     ·have e1 : ¬cap=l:=by omega
      simp only[e1,ck]
      have e2:∀(i:Nat) row,((rows.drop l).take (m-l))[i]? = some row→rows[l+i]? = some row:=by
       intro i row hi
       rw[lk]at hi
       split at hi
       ·rw[List.getElem?_drop]at hi;exact hi
       ·simp at hi
      have e3:=Go.VM.RepT.sl (w:=φ.w0) (ok:=φ.ok) b (off+l*ie.size) (cap-l) ie.size ((rows.drop l).take (m-l)) (fun i j=>f (l+i) j) hok (by rw[hlen];omega)
       (fun row hrow=>hk row (List.mem_of_mem_drop (List.mem_of_mem_take hrow)))
       (fun i row j x hi hj=>by
        have:=hcc (l+i) row j x (e2 i row hi) hj
        rw[Nat.add_mul,←Nat.add_assoc]at this
        exact this)
       (fun i row j x hi hj=>hr (l+i) row j x (e2 i row hi) hj)
      rw[hlen]at e3
      exact e3
 ·simp at hq
theorem apj:∀(vs:List Value) (xs:List V) (cs:List X),Pt (RepV φ) vs xs→xs.mapM aOz=some cs→Pt (RepX φ) vs cs
 | [],xs,cs,hp,hm=>by
  have:xs=[]:=gk (by have:=hp.1;simpa using this.symm)
  subst this;simp at hm;subst hm;exact Go.VM.Pt.nil
 | v::vs,xs,cs,hp,hm=>by
  cases xs with
  | nil=>have:=hp.1;simp at this
  | cons x xs =>
   have h0:=hp.2 0 v x rfl rfl
   have ht:Pt (RepV φ) vs xs:=⟨by have:=hp.1;simpa using this,fun j u z hu hz=>hp.2 (j+1) u z (by simpa using hu) (by simpa using hz)⟩
   simp only[List.mapM_cons,Option.bind_eq_bind,Option.pure_def]at hm
   cases hx:aOz x with
   | none=>simp[hx]at hm
   | some c =>
    cases hr:xs.mapM aOz with
    | none=>simp[hx,hr]at hm
    | some r =>
     simp[hx,hr]at hm
     subst hm
     refine Go.VM.Pt.cons ?_ (apj vs xs r ht hr)
     cases x<;>simp[aOz]at hx
     subst hx;exact h0
theorem a0W(s:EnvR φ a Γ){o:Oper}{ro:RO}{r:V}{op:BinOp}{t yt:TypeId}{x y:Operand}(hop:o.op = .binOp op t x y yt)(hc:cRO P o=some ro)(hq:d6 (evE Γ) ro=some r):GivesN P φ w (execOp a.eval o) r:=by
 simp only[cRO,hop,ak]at hc
 obtain⟨d,hd,x',hx',y',hy',hc⟩:=hc
 have hxr:=bY s hx'
 have hyr:=bY s hy'
 have fin:∀ {b ne:Bool},(do eqGuard op t x y (a.eval x) (a.eval y);binOp op t (a.eval x) (a.eval y):Sem Value).run P w = .ok (.bool (xor b ne)) w→r=bV (xor b ne)→GivesN P φ w (execOp a.eval o) r:=by
  intro b ne hrun hr
  subst hr
  simp only[execOp,hop]
  exact GivesN.of ⟨_,hrun,aLx _⟩
 have bin:ro = .bin op x' y'→GivesN P φ w (execOp a.eval o) r:=by
  intro hvo
  subst hvo
  simp only[d6]at hq
  split at hq
  ·rename_i u v h1 h2
   simp only[aw]at hq
   obtain⟨q,hbq,rfl⟩:=hq
   have hu:=i2 (h1▸hxr)
   have hv:=i2 (h2▸hyr)
   obtain⟨f1,f2,f3⟩:=PX hbq
   have hgd:=G2 (P:=P) (w:=w) (op:=op) (t:=t) (x:=x) (y:=y) (u:=a.eval x) (v:=a.eval y) (by rw[hu];exact f1) (by rw[hu];exact f2)
   have hrun:=Uq (P:=P) (w:=w) (t:=t) hbq
   simp only[execOp,hop]
   refine GivesN.of ⟨q,?_,H4 f3⟩
   rw[hu,hv]at hgd ⊢
   simp[hgd,hrun]
  ·simp at hq
 have hneq:∀ {kd:Nat} {ne:Bool},(op = .eql∧ne=false)∨(op = .neq∧ne=true)→ro = .neq kd ne x' y' →
   (∀p q,acW kd (evE Γ x')=some p→acW kd (evE Γ y')=some q→(p||q)=true→((∃q,a.eval x = .pointer q)∨(∃q,a.eval x = .map q)∨∃q l c,a.eval x = .slice q l c)∧(Op.equal t (a.eval x) (a.eval y)).run P w = .ok (p&&q) w)→GivesN P φ w (execOp a.eval o) r:=by
  intro kd ne hop' hvo hk
  subst hvo
  simp only[d6,ak]at hq
  obtain⟨p,hp,q,hq2,hq⟩:=hq
  rw[f4]at hq;obtain⟨hpq,hq⟩:=hq
  obtain⟨h1,h3⟩:=hk p q hp hq2 hpq
  exact fin (a2j hop' h1 h3) (Option.some.inj hq).symm
 have hptr:∀ {e:TypeId} {ne:Bool},P.underlying t=some (.pointer e)→((op = .eql∧ne=false)∨(op = .neq∧ne=true))→ro = .neq 0 ne x' y'→GivesN P φ w (execOp a.eval o) r:=by
  intro e ne hd hop' hvo
  refine hneq hop' hvo (fun p q hp hq hpq=>?_)
  obtain⟨u,hu,rfl⟩:=a1x hxr hp
  obtain⟨v,hv,rfl⟩:=a1x hyr hq
  rw[hu,hv]
  refine⟨.inl ⟨_,rfl⟩,?_⟩
  rcases U2 hpq with rfl | rfl
  ·rw[(yV hd v).1];simp
  ·rw[(yV hd u).2];simp
 have hmap:∀ {k e:TypeId} {ne:Bool},P.underlying t=some (.map k e)→((op = .eql∧ne=false)∨(op = .neq∧ne=true))→ro = .neq 1 ne x' y'→GivesN P φ w (execOp a.eval o) r:=by
  intro k e ne hd hop' hvo
  refine hneq hop' hvo (fun p q hp hq hpq=>?_)
  obtain⟨u,hu,rfl⟩:=a1q hxr hp
  obtain⟨v,hv,rfl⟩:=a1q hyr hq
  rw[hu,hv]
  refine⟨.inr (.inl ⟨_,rfl⟩),?_⟩
  rcases U2 hpq with rfl | rfl
  ·rw[(yW hd v).1];simp
  ·rw[(yW hd u).2];simp
 have hsl:∀ {e:TypeId} {ne:Bool},P.underlying t=some (.slice e)→((op = .eql∧ne=false)∨(op = .neq∧ne=true))→ro = .neq 2 ne x' y'→GivesN P φ w (execOp a.eval o) r:=by
  intro e ne hd hop' hvo
  refine hneq hop' hvo (fun p q hp hq hpq=>?_)
  obtain⟨u,l,c,hu,rfl⟩:=a0x hxr hp
  obtain⟨v,l',c',hv,rfl⟩:=a0x hyr hq
  rw[hu,hv]
  exact⟨.inr (.inr ⟨_,_,_,rfl⟩),XV hd u v l c l' c' (U2 hpq)⟩
 cases d
 case int k=>cases op<;>(simp only[bk]at hc;exact bin hc.symm)
 case string=>cases op<;>(simp only[bk]at hc;exact bin hc.symm)
 case pointer e =>
  cases op<;>simp only[bk,reduceCtorEq]at hc
  ·exact hptr hd (.inl ⟨rfl,rfl⟩) hc.symm
  ·exact hptr hd (.inr ⟨rfl,rfl⟩) hc.symm
 case map k e =>
  cases op<;>simp only[bk,reduceCtorEq]at hc
  ·exact hmap hd (.inl ⟨rfl,rfl⟩) hc.symm
  ·exact hmap hd (.inr ⟨rfl,rfl⟩) hc.symm
 case slice e =>
  cases op<;>simp only[bk,reduceCtorEq]at hc
  ·exact hsl hd (.inl ⟨rfl,rfl⟩) hc.symm
  ·exact hsl hd (.inr ⟨rfl,rfl⟩) hc.symm
 all_goals (exfalso;cases op<;>simp only[reduceCtorEq]at hc)
theorem auY(s:EnvR φ a Γ){o:Oper}{ro:RO}{r:V}(hc:cRO P o=some ro)(hq:d6 (evE Γ) ro=some r):GivesN P φ w (execOp a.eval o) r:=by
 cases hop:o.op
 case move x =>
  simp only[cRO,hop,aw]at hc
  obtain⟨y,hy,rfl⟩:=hc
  cases hq
  exact⟨_,by simp[execOp,hop],bY s hy⟩
 case assign x =>
  simp only[cRO,hop,aw]at hc
  obtain⟨y,hy,rfl⟩:=hc
  cases hq
  exact⟨_,by simp[execOp,hop],bY s hy⟩
 case pick c x y =>
  simp only[cRO,hop,ak,aw]at hc
  obtain⟨c',hc',x',hx',y',hy',rfl⟩:=hc
  simp only[d6,aw]at hq
  obtain⟨t,ht,rfl⟩:=hq
  have hv:=amx (bY s hc') ht
  refine⟨if t then a.eval x else a.eval y,by simp[execOp,hop,hv,asBool],?_⟩
  cases t
  ·exact bY s hy'
  ·exact bY s hx'
 case nilCheck x =>
  simp only[cRO,hop,aw]at hc
  obtain⟨y,hy,rfl⟩:=hc
  simp only[d6]at hq
  rw[f4]at hq;obtain⟨hp,hq⟩:=hq
  cases hq
  have hr:=bY s hy
  unfold aVW at hp
  split at hp
  ·rename_i heq
   rw[heq]at hr
   obtain⟨b,β,lim,_,hv⟩:=w4 hr
   rw[heq]
   exact⟨a.eval x,by simp[execOp,hop,hv],hr⟩
  ·rename_i heq
   rw[heq]at hr
   obtain⟨b,off,_,hv⟩:=X8 hr
   rw[heq]
   exact⟨a.eval x,by simp[execOp,hop,hv],hr⟩
  ·simp at hp
 case fieldAddr st x f =>
  simp only[cRO,hop,ak]at hc
  obtain⟨d,hd,hc⟩:=hc
  cases d<;>simp only[reduceCtorEq]at hc
  simp only[ak]at hc
  obtain⟨fd,hf,fi,hfi,hc⟩:=hc
  split at hc
  ·simp at hc
  ·rename_i hz
   simp only[aw]at hc
   obtain⟨x',hx',rfl⟩:=hc
   have hr:=bY s hx'
   simp only[d6]at hq
   split at hq
   ·rename_i n off heq
    rw[heq]at hr
    cases hq
    obtain⟨b,β,lim,hφ,hv⟩:=w4 hr
    simp only[execOp,hop,hv]
    refine GivesN.of ⟨_,I2 hd hf hfi hz,?_⟩
    rw[Nat.add_assoc]
    exact RepX.ptr n _ b β lim hφ
   ·rename_i cs heq
    rw[heq]at hr
    cases hq
    obtain⟨b,off,hat,hv⟩:=X8 hr
    simp only[execOp,hop,hv]
    exact GivesN.of ⟨_,I2 hd hf hfi hz,RepX.pI _ _ _ (At.drop hat _)⟩
   ·simp at hq
 case field st x f=>simp[cRO,hop]at hc
 case indexAddr t x i =>
  simp only[cRO,hop,ak]at hc
  obtain⟨d,hd,hc⟩:=hc
  cases d<;>simp only[reduceCtorEq]at hc
  case slice e =>
   simp only[ak,aw]at hc
   obtain⟨ie,hie,x',hx',i',hi',rfl⟩:=hc
   simp only[d6,ak]at hq
   obtain⟨n,hn,j,hj,hq⟩:=hq
   split at hq
   ·rename_i m k' off len heq
    rw[f4]at hq;obtain⟨hcnd,hq⟩:=hq
    simp only[bw]at hcnd
    have e1:=zK hcnd.1;have e2:=aVJ hcnd.2
    subst e1
    cases hq
    obtain⟨kk,hv⟩:=aBZ (bY s hi') hn
    have hj:=HZ hj
    subst hj
    have hr:=bY s hx'
    rw[heq]at hr
    generalize hval:a.eval x=v at hr
    cases hr with
    | sl _ _ _ _ b β lim o' cap hφ hlen ho hlim =>
     have ho:=ho (by omega)
     subst ho
     simp only[execOp,hop,hv,hval]
     refine GivesN.of ⟨.pointer (some ⟨b,β+(off+j*ie.size),none⟩),?_,RepX.ptr m _ b β lim hφ⟩
     have hin:(0:Int)≤(j:Int)∧(j:Int)<(len:Int):=⟨by omega,by omega⟩
     simp[Instr.indexAt,run_underlying hd,asIntOf,hin,sizeOf,typeInfo,hie,j6,Nat.add_assoc]
     omega
   ·rename_i k' rows heq
    rw[f4]at hq;obtain⟨hcnd,hq⟩:=hq
    have e1:=zK hcnd
    subst e1
    simp only[aw]at hq
    obtain⟨row,hrow,rfl⟩:=hq
    obtain⟨kk,hv⟩:=aBZ (bY s hi') hn
    have hj:=HZ hj
    subst hj
    have hlt:=(cw.1 hrow).1
    rcases UZ (heq▸bY s hx')with⟨h0,_⟩ | ⟨b,off,cap,hval,hle,hk,hat⟩
    ·rw[h0]at hlt;simp at hlt
    ·simp only[execOp,hop,hv,hval]
     refine GivesN.of ⟨.pointer (some ⟨b,off+j*ie.size,none⟩),?_,RepX.pI b _ row (hat j row hrow)⟩
     have hin:(0:Int)≤(j:Int)∧(j:Int)<(rows.length:Int):=⟨by omega,by omega⟩
     simp[Instr.indexAt,run_underlying hd,asIntOf,hin,sizeOf,typeInfo,hie,j6]
     omega
   ·simp at hq
 case index t x i=>simp[cRO,hop]at hc
 case binOp op t x y yt=>exact a0W s hop hc hq
 case unOp op t x =>
  simp only[cRO,hop,aw]at hc
  obtain⟨x',hx',rfl⟩:=hc
  have hr:=bY s hx'
  cases op
  case not =>
   simp only[d6,aw]at hq
   obtain⟨b,hb,rfl⟩:=hq
   have hv:=amx hr hb
   simp only[execOp,hop,hv]
   exact GivesN.of ⟨.bool !b,by simp[Op.unary],aLx _⟩
  case neg =>
   simp only[d6,aw]at hq
   obtain⟨n,hn,rfl⟩:=hq
   have hv:=Pj hr hn
   simp only[execOp,hop,hv]
   exact GivesN.of ⟨_,by simp[Op.unary,Op.intArith],aKW _⟩
  all_goals simp[d6]at hq
 case convert src dst x=>simp[cRO,hop]at hc
 case extract x i =>
  simp only[cRO,hop,aw]at hc
  obtain⟨x',hx',rfl⟩:=hc
  simp only[d6]at hq
  split at hq
  ·rename_i vs heq
   obtain⟨us,hu,hp⟩:=(heq▸bY s hx':RepV φ (a.eval x) (.tup vs))
   have fin:∀x,vs[i]? = some x→(RepS φ=fun v x=>RepV φ v x∨RepS φ v x)∨True→∃v,(Instr.extract (.tuple us) i).run P w = .ok v w∧RepS φ v x:=by
    intro x hx _
    have hlt:i<us.size:=by have:=hp.1;have:=(cw.1 hx).1;simp at *;omega
    exact⟨us[i],by simp[Instr.extract,hlt],hp.2 i _ x (by simp[hlt]) hx⟩
   simp only[execOp,hop,hu]
   split at hq
   ·rename_i y hy
    cases hq
    obtain⟨v,h1,h2⟩:=fin _ hy (.inr trivial)
    exact GivesN.of ⟨v,h1,h2⟩
   ·rename_i y hy
    cases hq
    obtain⟨v,h1,h2⟩:=fin _ hy (.inr trivial)
    exact GivesN.of ⟨v,h1,h2⟩
   ·simp at hq
  ·simp at hq
 case makeFunc fn first caps =>
  cases fn with
  | func f =>
   simp only[cRO,hop]at hc
   split at hc
   ·rename_i hf
    simp only[aw]at hc
    obtain⟨ys,hys,rfl⟩:=hc
    simp only[d6,aw]at hq
    obtain⟨cs,hcs,rfl⟩:=hq
    have hp:=KK s _ _ hys
    have hcap:=apj _ _ _ hp hcs
    have hfe:first = #[]:=Array.eq_empty_of_size_eq_zero hf
    subst hfe
    simp only[execOp,hop]
    refine GivesN.of ⟨.func (.func f) #[] (caps.map a.eval),by simp[Instr.makeFunc],?_⟩
    have:=RepX.fn (φ:=φ) f _ cs hcap.1 hcap.2
    rw[←Array.toList_map]at this
    simpa only[RepV,RepS,Array.toArray_toList]using this
   ·simp at hc
  | _=>simp[cRO,hop]at hc
 case slice t x lo hi mx =>
  simp only[cRO,hop,ak]at hc
  obtain⟨d,hd,hc⟩:=hc
  cases d<;>simp only[reduceCtorEq]at hc
  simp only[ak]at hc
  obtain⟨ie,hie,x',hx',lo',hlo,hi',hhi,hc⟩:=hc
  simp only[execOp,hop]
  split at hc
  ·rename_i hmx
   cases hc
   have hmx:mx=none:=by cases mx<;>simp at hmx ⊢
   subst hmx
   exact GivesN.of (alX s hd hie hx' hlo hhi hq)
  ·simp at hc
 case build t parts =>
  simp only[cRO,hop,ak]at hc
  obtain⟨z,hz,d,hd,hc⟩:=hc
  simp only[RY,ak]at hz
  obtain⟨zv,⟨it,hit,hzv⟩,hzc⟩:=hz
  have hz0:Pt (RepX φ) zv.cells.toList z:=I1 _ _ hzc
  have key:∀(place:Nat→Option (Nat×Nat)) (ps:List (Nat×Nat×Opd)),C2 place parts.toList=some ps→d6 (evE Γ) (.build z ps)=some r →
    (∀cells,Instr.fill place zv.cells (parts.toList.map fun p=>(p.1,a.eval p.2))=some cells→P.built t (parts.map fun(i,x)=>(i,a.eval x)).toList=some cells)→GivesN P φ w (execOp a.eval o) r:=by
   intro place ps hps hq hb
   simp only[d6,aw]at hq
   obtain⟨cs,hcs,rfl⟩:=hq
   obtain⟨cells,h1,h2⟩:=C0 (e:=evE Γ) (ρ:=a.eval) place (fun x y hxy=>bY s hxy) parts.toList ps zv.cells z cs hps hz0 hcs
   simp only[execOp,hop]
   exact GivesN.of ⟨_,run_build w t _ cells (hb cells h1),⟨cells,rfl,h2⟩⟩
  have hmap:(parts.map fun(i,x)=>(i,a.eval x)).toList=parts.toList.map fun p=>(p.1,a.eval p.2):=by simp
  cases d<;>simp only[reduceCtorEq]at hc
  case struct fs =>
   simp only[ak,aw]at hc
   obtain⟨pl,hpl,ps,hps,rfl⟩:=hc
   refine key _ ps hps hq fun cells hcells=>?_
   rw[hmap]
   unfold Program.built
   simp only[hit,hd,hzv,hpl]
   exact hcells
  case array n e =>
   simp only[ak,aw]at hc
   obtain⟨ie,hie,ps,hps,rfl⟩:=hc
   refine key _ ps hps hq fun cells hcells=>?_
   rw[hmap]
   unfold Program.built
   simp only[hit,hd,hzv,hie]
   exact hcells
 case call c =>
  simp only[cRO,hop]at hc
  split at hc
  ·simp only[ak]at hc
   obtain⟨fn,hfn,hc⟩:=hc
   split at hc
   ·simp only[aw]at hc;obtain⟨_,_,rfl⟩:=hc;simp[d6]at hq
   ·simp at hc
  ·simp only[ak,aw]at hc
   obtain⟨_,_,_,_,rfl⟩:=hc
   simp[d6]at hq
  ·rename_i hcal
   split at hc
   ·rename_i t ht
    simp only[ak]at hc
    obtain⟨d,hd,hc⟩:=hc
    have e0:∀x,(Builtin.len_ c.argTypes o.type #[a.eval x])=Builtin.len_ #[t] o.type #[a.eval x]:=fun x=>by simp[Builtin.len_,ht]
    have fin:∀x n,c.args.toList=[x]→(Builtin.len_ #[t] o.type #[a.eval x]).run P w = .ok (.int .i64 n) w→r=iV n→GivesN P φ w (execOp a.eval o) r:=by
     intro x n hargs hrun hr
     subst hr
     have hargs':c.args = #[x]:=by rw[←Array.toArray_toList (xs:=c.args),hargs]
     refine⟨.int .i64 n,?_,aKW _⟩
     simp[execOp,hop,resolve,hcal,hargs',invoke,builtin,e0,hrun]
    cases d<;>simp only[reduceCtorEq]at hc
    case slice e =>
     split at hc
     ·rename_i x hargs
      simp only[aw]at hc
      obtain⟨x',hx',rfl⟩:=hc
      have hr:=bY s hx'
      simp only[d6]at hq
      split at hq
      ·rename_i heq
       rw[heq]at hr
       have hv:=i2 hr
       exact fin x 0 hargs (by rw[hv];simp[Builtin.len_,run_underlying hd,goInt]) (Option.some.inj hq).symm
      ·rename_i heq
       rw[heq]at hr
       generalize hval:a.eval x=v at hr
       cases hr with
       | es q=>exact fin x 0 hargs (by rw[hval];simp[Builtin.len_,run_underlying hd,goInt]) (Option.some.inj hq).symm
      ·rename_i n k off len heq
       rw[heq]at hr
       generalize hval:a.eval x=v at hr
       cases hr with
       | sl _ _ _ _ b β lim o' cap hφ hlen ho hlim=>exact fin x len hargs (by rw[hval];simp[Builtin.len_,run_underlying hd,goInt]) (Option.some.inj hq).symm
      ·rename_i k rows heq
       rw[heq]at hr
       rcases UZ hr with⟨h0,ad,cap,hval⟩ | ⟨b,off,cap,hval,_⟩
       ·subst h0
        exact fin x 0 hargs (by rw[hval];simp[Builtin.len_,run_underlying hd,goInt]) (Option.some.inj hq).symm
       ·exact fin x rows.length hargs (by rw[hval];simp[Builtin.len_,run_underlying hd,goInt]) (Option.some.inj hq).symm
      ·rename_i heq
       rw[heq]at hr
       generalize hval:a.eval x=v at hr
       cases hr with
       | ez q=>exact fin x 0 hargs (by rw[hval];simp[Builtin.len_,run_underlying hd,goInt]) (Option.some.inj hq).symm
      ·simp at hq
     ·simp at hc
   ·simp at hc
  ·split at hc
   ·simp only[ak]at hc
    obtain⟨d,hd,hc⟩:=hc
    cases d<;>simp only[reduceCtorEq]at hc
    simp only[ak]at hc
    obtain⟨_,_,hc⟩:=hc
    split at hc
    ·simp only[ak,aw]at hc
     obtain⟨_,_,_,_,rfl⟩:=hc
     simp[d6]at hq
    ·simp at hc
   ·simp at hc
  ·rename_i hcal
   simp only[aw]at hc
   obtain⟨ys,hys,rfl⟩:=hc
   exact aKX s hop hcal hys false (by simp) hq
  ·rename_i hcal
   simp only[aw]at hc
   obtain⟨ys,hys,rfl⟩:=hc
   exact aKX s hop hcal hys true (by simp) hq
  ·split at hc
   ·simp only[ak]at hc
    obtain⟨d,hd,hc⟩:=hc
    cases d<;>simp only[reduceCtorEq]at hc
    simp only[ak]at hc
    obtain⟨ie,_,hc⟩:=hc
    split at hc
    ·simp only[ak,aw]at hc
     obtain⟨_,_,_,_,rfl⟩:=hc
     simp[d6]at hq
    ·simp at hc
   ·simp at hc
  ·simp at hc
 case load t x =>
  simp only[cRO,hop,TZ,ak,aw]at hc
  obtain⟨⟨d,i⟩,_,x',hx',hc⟩:=hc
  simp only at hc
  split at hc<;>(cases hc;simp[d6]at hq)
 case alloc e =>
  simp only[cRO,hop,aw]at hc
  obtain⟨_,_,rfl⟩:=hc
  simp[d6]at hq
 case box e x =>
  simp only[cRO,hop,aw]at hc
  obtain⟨_,_,rfl⟩:=hc
  simp[d6]at hq
 case makeSlice t l c =>
  simp only[cRO,hop,ak]at hc
  obtain⟨d,hd,hc⟩:=hc
  cases d<;>simp only[reduceCtorEq]at hc
  simp only[ak]at hc
  obtain⟨_,_,_,_,hc⟩:=hc
  split at hc
  ·simp only[ak,aw]at hc
   obtain⟨_,_,_,_,rfl⟩:=hc
   simp[d6]at hq
  ·simp at hc
 case buildSlice t n ps =>
  simp only[cRO,hop,ak]at hc
  obtain⟨d,hd,hc⟩:=hc
  cases d<;>simp only[reduceCtorEq]at hc
  simp only[ak]at hc
  obtain⟨_,_,_,_,_,_,hc⟩:=hc
  split at hc
  ·cases hc;simp[d6]at hq
  ·simp at hc
 case store t x v =>
  simp only[cRO,hop,ak,aw]at hc
  obtain⟨_,_,_,_,_,_,rfl⟩:=hc
  simp[d6]at hq
 case makeMap t rs =>
  cases rs with
  | some _=>simp[cRO,hop]at hc
  | none =>
   simp only[cRO,hop,ak]at hc
   obtain⟨d,hd,hc⟩:=hc
   cases d<;>simp only[reduceCtorEq]at hc
   simp only[ak]at hc
   obtain⟨_,_,hc⟩:=hc
   split at hc
   ·cases hc;simp[d6]at hq
   ·simp at hc
 case lookup t x i ok =>
  simp only[cRO,hop,ak]at hc
  obtain⟨d,hd,hc⟩:=hc
  cases d<;>simp only[reduceCtorEq]at hc
  simp only[ak]at hc
  obtain⟨_,_,_,_,_,_,_,_,_,_,hc⟩:=hc
  cases hc;simp[d6]at hq
 case mapUpdate t x i v =>
  simp only[cRO,hop,ak]at hc
  obtain⟨d,hd,hc⟩:=hc
  cases d<;>simp only[reduceCtorEq]at hc
  simp only[ak]at hc
  obtain⟨_,_,_,_,_,_,_,_,hc⟩:=hc
  cases hc;simp[d6]at hq
 case insert t x i v=>simp[cRO,hop]at hc
 case range t x=>simp[cRO,hop]at hc
 case next it isS=>simp[cRO,hop]at hc
 case entry it=>simp[cRO,hop]at hc
 all_goals (simp only[cRO,hop,reduceCtorEq]at hc)
end
end Go.RM
namespace Go.RM
open Go.VM (Pt Fr)
def kx(h2:Hp)(s:S):Hp:=fun n=>bif s.w.testBit n then s.h.get n else h2 n
def Inv(g:Hp)(s:S):Prop:=∀n,s.w.testBit n=false→s.h.get n=g n
theorem AX(n m:Nat):(bit n).testBit m=decide (m=n):=by
 have:bit n=2 ^ n:=by unfold bit;exact Nat.one_shiftLeft n
 rw[this,Nat.testBit_two_pow]
 exact decide_eq_decide.2 ⟨fun h=>h.symm,fun h=>h.symm⟩
theorem p4(n:Nat):(bit n).testBit n=true:=by rw[AX];simp
theorem s6(a b n:Nat):(Nat.lor a b).testBit n=(a.testBit n||b.testBit n):=Nat.testBit_or a b n
theorem Q0{a b n:Nat}(h:a.testBit n=true):(Nat.lor a b).testBit n=true:=by rw[s6,h];rfl
theorem W6{a b n:Nat}(h:b.testBit n=true):(Nat.lor a b).testBit n=true:=by rw[s6,h];simp
def upd(h:Hp)(n:Nat)(o:O):Hp:=fun m=>if m=n then some o else h m
theorem rW(h:Hp)(n:Nat)(o:O):upd h n o n=some o:=by simp[upd]
theorem mQ{h:Hp}{n m:Nat}(o:O)(hne:m≠n):upd h n o m=h m:=by simp[upd,hne]
section
variable {g h2:Hp} {s s':S}
theorem wJ(hi:Inv g s){n:Nat}(h:h2 n=g n):kx h2 s n=s.h.get n:=by
 unfold kx
 cases e:s.w.testBit n with
 | true=>rfl
 | false=>rw[hi n e];exact h
theorem asz{n:Nat}{o:O}(h:put s n o=some s'):s' = {s with h:=s.h.set n o,w:=Nat.lor s.w (bit n)}:=by
 unfold put at h
 exact(Option.some.inj h).symm
theorem N6{o:O}(h:new s o=some s'):s' = {h:=s.h.set s.c o,c:=s.c+1,w:=Nat.lor s.w (bit s.c)}∧s.h.get s.c=none:=by
 unfold new at h
 rw[f4,Option.isNone_iff_eq_none]at h
 exact⟨(Option.some.inj h.2).symm,h.1⟩
theorem arJ{n:Nat}{o:O}{c:Nat}:kx h2 {h:=s.h.set n o,c:=c,w:=Nat.lor s.w (bit n)}=upd (kx h2 s) n o:=by
 funext m
 unfold kx upd
 simp only[s6,AX,Tr.get_set]
 by_cases e:m=n
 ·subst e;simp
 ·simp[e]
theorem aAj{n:Nat}{o:O}{c:Nat}(hi:Inv g s):Inv g {h:=s.h.set n o,c:=c,w:=Nat.lor s.w (bit n)}:=by
 intro m hm
 simp only[s6,AX,Bool.or_eq_false_iff,decide_eq_false_iff_not]at hm
 simp only[Tr.get_set,hm.2,ck]
 exact hi m hm.1
theorem N1{n:Nat}{o:O}(h:put s n o=some s'):kx h2 s'=upd (kx h2 s) n o:=by
 obtain rfl:=asz h;exact arJ
theorem I7{n:Nat}{o:O}(h:put s n o=some s')(hi:Inv g s):Inv g s':=by
 obtain rfl:=asz h;exact aAj hi
theorem abj{o:O}(h:new s o=some s'):kx h2 s'=upd (kx h2 s) s.c o:=by
 obtain⟨rfl,_⟩:=N6 h;exact arJ
theorem Bq{o:O}(h:new s o=some s')(hi:Inv g s):Inv g s':=by
 obtain⟨rfl,_⟩:=N6 h;exact aAj hi
end
section
variable {w0 w w':World} {φ φ':Ren} {h h':Hp}
theorem RepO.keep{n:Nat}{o:O}(hle:φ.le φ')(h:RepO φ w n o)(hb:∀b,o.live=true→blk φ n b→w'.heap[b]? = w.heap[b]?)
  (hm:∀m size seen b,o = .iter m size seen→blk φ m b→w'.heap[b]? = w.heap[b]?):RepO φ' w' n o:=by
 cases o with
 | cells e xs =>
  obtain⟨b,β,lim,arr,h1,h2,h3,h4,h5⟩:=h
  exact⟨b,β,lim,arr,hle.loc _ _ h1,(hb b rfl ⟨_,_,h1⟩).trans h2,h3,h4,fun j x hx=>let ⟨v,hv,hr⟩:=h5 j x hx;⟨v,hv,hr.mono hle⟩⟩
 | map kd r es =>
  obtain⟨b,es',clock,h1,h2,h3,h4,h5⟩:=h
  exact⟨b,es',clock,hle.loc _ _ h1,(hb b rfl ⟨_,_,h1⟩).trans h2,h3,h4,fun i e p he hp=>let ⟨g1,g2,g3,g4⟩:=h5 i e p he hp;⟨g1,g2,g3,g4.mono hle⟩⟩
 | iter m size seen =>
  obtain⟨b,bm,β,lim,last,es',h1,h2,h3,h4,h5⟩:=h
  exact⟨b,bm,β,lim,last,es',hle.loc _ _ h1,hle.loc _ _ h2,(hb b rfl ⟨_,_,h1⟩).trans h3,h4,(hm m size seen bm rfl ⟨_,_,h2⟩).trans h5⟩
 | itern =>
  obtain⟨b,h1,h2⟩:=h
  exact⟨b,hle.loc _ _ h1,(hb b rfl ⟨_,_,h1⟩).trans h2⟩
 | dead=>trivial
 | dmap kd es =>
  obtain⟨b,es',clock,h1,h2,h3,h5⟩:=h
  exact⟨b,es',clock,hle.loc _ _ h1,(hb b rfl ⟨_,_,h1⟩).trans h2,h3,fun i e p he hp=>let ⟨g1,g2,g4⟩:=h5 i e p he hp;⟨g1,g2,g4.mono hle⟩⟩
theorem Rel.turn(R:Rel w0 φ h w)(T:Nat→Prop)(hle:φ.le φ')(hsame:∀n,¬T n→h' n=h n)
  (hnew:∀n l,φ' n=some l→φ n=none→T n)
  (hfr:Fr w w' fun b=>∃n o,T n∧h n=some o∧o.live=true∧blk φ n b)
  (hrep:∀n o,T n→h' n=some o→RepO φ' w' n o)
  (hblk:∀n o b,T n→h' n=some o→o.live=true→blk φ' n b→w.heap.size≤b∨∃m o',T m∧h m=some o'∧o'.live=true∧blk φ m b)
  (hinj:∀n m o o' b,T n→T m→h' n=some o→h' m=some o'→o.live=true→o'.live=true→blk φ' n b→blk φ' m b→n=m)
  (hit:∀n m size seen,h' n=some (.iter m size seen)→T n∨T m→∃kd es,h' m=some (.map kd true es))
  (hkeep:∀n m size seen b,¬T n→h n=some (.iter m size seen)→T m→blk φ m b→w'.heap[b]? = w.heap[b]?)
  (hdom:∀n,T n→h' n=none→φ' n=none)
  (hlt:∀n b,T n→blk φ' n b→b<w'.heap.size) (hfz:φ'.fz=φ.fz:=by rfl):Rel w0 φ' h' w':=by
 have hφ:∀n b,blk φ' n b→¬T n→blk φ n b:=by
  intro n b ⟨β,lim,hb⟩ hT
  cases e:φ n with
  | none=>exact absurd (hnew n _ hb e) hT
  | some l=>have:=hle.loc _ _ e;rw[hb]at this;cases this;exact⟨β,lim,e⟩
 have hkb:∀n o b,¬T n→h n=some o→o.live=true→blk φ n b→w'.heap[b]? = w.heap[b]?:=by
  intro n o b hT ho hl hb
  refine hfr.block b (R.lt n b hb) ?_
  rintro⟨m,o',hTm,hm,hl',hbm⟩
  have:=R.inj n m o o' b ho hm hl hl' hb hbm
  subst this;exact hT hTm
 refine⟨fun n o ho=>?_,fun n m o o' b hn hm hl hl' hb hb'=>?_,fun n o b hn hl hb=>?_,fun n m size seen hn=>?_,fun n hn=>?_,fun n b hb=>?_,?_,hle.w0.trans R.w0e,fun b hb=>R.okl b (by rw[hle.ok]at hb;exact hb),fun D o hD=>?_⟩
 ·by_cases hT:T n
  ·exact hrep n o hT ho
  ·rw[hsame n hT]at ho
   refine RepO.keep hle (R.rep n o ho) (fun b hl hb=>hkb n o b hT ho hl hb) (fun m size seen b e hb=>?_)
   subst e
   by_cases hTm:T m
   ·exact hkeep n m size seen b hT ho hTm hb
   ·obtain⟨kd,es,hm⟩:=R.iters n m size seen ho
    exact hkb m _ b hTm hm rfl hb
 ·by_cases hT:T n<;>by_cases hT':T m
  ·exact hinj n m o o' b hT hT' hn hm hl hl' hb hb'
  ·exfalso
   have hb2:=hφ m b hb' hT'
   rw[hsame m hT']at hm
   rcases hblk n o b hT hn hl hb with hx | ⟨p,op,hTp,hp,hlp,hbp⟩
   ·have:=R.lt m b hb2;omega
   ·have:=R.inj m p o' op b hm hp hl' hlp hb2 hbp
    subst this;exact hT' hTp
  ·exfalso
   have hb2:=hφ n b hb hT
   rw[hsame n hT]at hn
   rcases hblk m o' b hT' hm hl' hb' with hx | ⟨p,op,hTp,hp,hlp,hbp⟩
   ·have:=R.lt n b hb2;omega
   ·have:=R.inj n p o op b hn hp hl hlp hb2 hbp
    subst this;exact hT hTp
  ·rw[hsame n hT]at hn;rw[hsame m hT']at hm
   exact R.inj n m o o' b hn hm hl hl' (hφ n b hb hT) (hφ m b hb' hT')
 ·by_cases hT:T n
  ·rcases hblk n o b hT hn hl hb with hx | ⟨p,op,_,hp,hlp,hbp⟩
   ·have:=R.fr.size;omega
   ·exact R.old p op b hp hlp hbp
  ·rw[hsame n hT]at hn
   exact R.old n o b hn hl (hφ n b hb hT)
 ·by_cases hT:T n
  ·exact hit n m size seen hn (.inl hT)
  ·by_cases hTm:T m
   ·exact hit n m size seen hn (.inr hTm)
   ·rw[hsame n hT]at hn
    rw[hsame m hTm]
    exact R.iters n m size seen hn
 ·by_cases hT:T n
  ·exact hdom n hT hn
  ·rw[hsame n hT]at hn
   have:=R.dom n hn
   cases e:φ' n with
   | none=>rfl
   | some l=>exact absurd (hnew n l e this) hT
 ·by_cases hT:T n
  ·exact hlt n b hT hb
  ·exact Nat.lt_of_lt_of_le (R.lt n b (hφ n b hb hT)) hfr.size
 ·refine⟨hfr.os.trans R.fr.os,hfr.tape.trans R.fr.tape,hfr.output.trans R.fr.output,Nat.le_trans R.fr.size hfr.size,fun b hb hn=>?_⟩
  rw[←R.fr.block b hb hn]
  refine hfr.block b (Nat.lt_of_lt_of_le hb R.fr.size) ?_
  rintro⟨m,o',_,hm,hl',hbm⟩
  have:=R.old m o' b hm hl' hbm
  omega
 ·rw[hfz]at hD
  obtain⟨h1,h2⟩:=R.fz D o hD
  have hlt:D<w.heap.size:=(jk.1 h1).1
  refine⟨(hfr.block D hlt ?_).trans h1,fun n p hn hl hb=>?_⟩
  ·rintro⟨m,o',_,hm,hl',hbm⟩
   exact h2 m o' hm hl' hbm
  ·by_cases hT:T n
   ·rcases hblk n p D hT hn hl hb with hx | ⟨m,op,_,hp,hlp,hbp⟩
    ·omega
    ·exact h2 m op hp hlp hbp
   ·rw[hsame n hT]at hn
    exact h2 n p hn hl (hφ n D hb hT)
def Ren.put(φ:Ren)(n:Nat)(l:Loc):Ren:={φ with loc:=fun m=>if m=n then some l else φ m}
theorem Ren.put_self(φ:Ren)(n:Nat)(l:Loc):φ.put n l n=some l:=by simp[Ren.put]
theorem Ren.le_put{φ:Ren}{n:Nat}(l:Loc)(h:φ n=none):φ.le (φ.put n l):=by
 refine⟨fun m k hm=>?_,rfl,rfl,fun _ _ h=>h⟩
 unfold Ren.put
 by_cases e:m=n
 ·subst e;rw[h]at hm;simp at hm
 ·simp[e,hm]
theorem Rel.new(R:Rel w0 φ h w){c:Nat}(hc:h c=none){o:O}{b β lim:Nat}(hb:w.heap.size≤b)(hb':b<w'.heap.size)(hfr:Fr w w' fun _=>False)(hni:∀m size seen,o = .iter m size seen→∃kd es,h m=some (.map kd true es))
  (hrep:∀φ',φ'=φ.put c (b,β,lim)→φ.le φ'→RepO φ' w' c o):Rel w0 (φ.put c (b,β,lim)) (upd h c o) w':=by
 have hle:=Ren.le_put (b,β,lim) (R.dom c hc)
 have hblk:∀b',blk (φ.put c (b,β,lim)) c b'→b'=b:=by
  rintro b' ⟨β',lim',h'⟩
  rw[Ren.put_self]at h'
  cases h';rfl
 refine R.turn (fun n=>n=c) hle (fun n hn=>mQ _ hn) (fun n l h1 h2=>?_) ⟨hfr.os,hfr.tape,hfr.output,hfr.size,fun b hb _=>hfr.block b hb id⟩ (fun n o' hn ho=>?_) (fun n o' b' hn ho _ hb'=>?_) (fun n m _ _ _ hn hm _ _ _ _ _ _=>hn.trans hm.symm) (fun n m size seen hn hT=>?_) (fun n m size seen b' hn hh hm hb'=>?_) (fun n hn hh=>?_) (fun n b' hn hh=>?_)
 ·by_cases e:n=c
  ·exact e
  ·simp only[Ren.put,e,ck]at h1;rw[h1]at h2;simp at h2
 ·subst hn;rw[rW]at ho;cases ho;exact hrep _ rfl hle
 ·subst hn;rw[hblk b' hb'];exact .inl hb
 ·by_cases e:n=c
  ·subst e
   rw[rW]at hn
   obtain⟨kd,es,hm⟩:=hni m size seen (Option.some.inj hn)
   exact⟨kd,es,by rw[mQ _ (fun e=>by subst e;rw[hc]at hm;simp at hm)];exact hm⟩
  ·rw[mQ _ e]at hn
   obtain⟨kd,es,hm⟩:=R.iters n m size seen hn
   exact⟨kd,es,by rw[mQ _ (fun e=>by subst e;rw[hc]at hm;simp at hm)];exact hm⟩
 ·subst hm
  obtain⟨kd,es,hm⟩:=R.iters n _ size seen hh
  rw[hc]at hm;simp at hm
 ·subst hn;rw[rW]at hh;simp at hh
 ·subst hn;rw[hblk b' hh];exact hb'
theorem Rel.put(R:Rel w0 φ h w){n:Nat}{o o':O}(hn:h n=some o)(hl:o.live=true)(hfr:Fr w w' fun b=>blk φ n b)(hrep:RepO φ w' n o')
  (hni:∀p m size seen,h p=some (.iter m size seen)→m=n→p≠n→(∃kd es,o' = .map kd true es)∧∀b,blk φ n b→w'.heap[b]? = w.heap[b]?)
  (hit:∀m size seen,o' = .iter m size seen→m≠n∧∃kd es,h m=some (.map kd true es)):Rel w0 φ (upd h n o') w':=by
 refine R.turn (fun m=>m=n) (Ren.le_refl φ) (fun m hm=>mQ _ hm) (fun m l h1 h2=>by rw[h1]at h2;simp at h2) ⟨hfr.os,hfr.tape,hfr.output,hfr.size,fun b hb hx=>hfr.block b hb fun hbn=>hx ⟨n,o,rfl,hn,hl,hbn⟩⟩ (fun m p hm ho=>?_) (fun m p b hm _ _ hb=>?_) (fun m p _ _ _ hm hp _ _ _ _ _ _=>hm.trans hp.symm) (fun p m size seen hp hT=>?_) (fun p m size seen b hp hh hm hb=>?_) (fun m hm hh=>?_) (fun m b hm hb=>?_)
 ·subst hm;rw[rW]at ho;cases ho;exact hrep
 ·subst hm;exact .inr ⟨m,o,rfl,hn,hl,hb⟩
 ·by_cases e:p=n
  ·subst e
   rw[rW]at hp
   obtain⟨h1,kd,es,h2⟩:=hit m size seen (Option.some.inj hp)
   exact⟨kd,es,by rw[mQ _ h1];exact h2⟩
  ·rw[mQ _ e]at hp
   by_cases e2:m=n
   ·obtain⟨⟨kd,es,h3⟩,_⟩:=hni p m size seen hp e2 e
    subst e2
    exact⟨kd,es,by rw[rW,h3]⟩
   ·rcases hT with hT | hT
    ·exact absurd hT e
    ·exact absurd hT e2
 ·subst hm
  exact(hni p m size seen hh rfl hp).2 b hb
 ·subst hm;rw[rW]at hh;simp at hh
 ·subst hm;exact Nat.lt_of_lt_of_le (R.lt m b hb) hfr.size
theorem Rel.move(R:Rel w0 φ h w){n c:Nat}{e:TypeId}{xs:List X}(hn:h n=some (.cells e xs))(hc:h c=none){o:O}{b β lim:Nat}(hb:w.heap.size≤b∨blk φ n b)(hb':b<w'.heap.size)(hfr:Fr w w' fun b=>blk φ n b)
  (hni:∀m size seen,o ≠ .iter m size seen) (hrep:∀φ',φ'=φ.put c (b,β,lim)→φ.le φ'→RepO φ' w' c o):Rel w0 (φ.put c (b,β,lim)) (upd (upd h n .dead) c o) w':=by
 have hle:=Ren.le_put (b,β,lim) (R.dom c hc)
 have hnc:n≠c:=fun e=>by subst e;rw[hc]at hn;simp at hn
 have hblk:∀b',blk (φ.put c (b,β,lim)) c b'→b'=b:=by
  rintro b' ⟨β',lim',h'⟩
  rw[Ren.put_self]at h'
  cases h';rfl
 have hmap:∀p m size seen,h p=some (.iter m size seen)→m≠n∧m≠c:=by
  intro p m size seen hp
  obtain⟨kd,es,hm⟩:=R.iters p m size seen hp
  refine⟨fun e=>?_,fun e=>?_⟩
  ·subst e;rw[hn]at hm;simp at hm
  ·subst e;rw[hc]at hm;simp at hm
 refine R.turn (fun m=>m=n∨m=c) hle (fun m hm=>?_) (fun m l h1 h2=>?_) ⟨hfr.os,hfr.tape,hfr.output,hfr.size,fun b hb hx=>hfr.block b hb fun hbn=>hx ⟨n,_,.inl rfl,hn,rfl,hbn⟩⟩ (fun m p hm ho=>?_) (fun m p b' hm ho hl hb2=>?_) (fun m p o1 o2 b' hm hp ho1 ho2 hl1 hl2 _ _=>?_) (fun p m size seen hp hT=>?_) (fun p m size seen b' hp hh hm hb2=>?_) (fun m hm hh=>?_) (fun m b' hm hb2=>?_)
 ·rw[not_or]at hm;rw[mQ _ hm.2,mQ _ hm.1]
 ·by_cases e:m=c
  ·exact .inr e
  ·simp only[Ren.put,e,ck]at h1;rw[h1]at h2;simp at h2
 ·by_cases e2:m=c
  ·subst e2;rw[rW]at ho;cases ho;exact hrep _ rfl hle
  ·have e1:=hm.resolve_right e2
   subst e1;rw[mQ _ e2,rW]at ho;cases ho;trivial
 ·by_cases e2:m=c
  ·subst e2
   rw[hblk b' hb2]
   rcases hb with hb | hb
   ·exact .inl hb
   ·exact .inr ⟨n,_,.inl rfl,hn,rfl,hb⟩
  ·have e1:=hm.resolve_right e2
   subst e1;rw[mQ _ e2,rW]at ho;cases ho;simp[O.live]at hl
 ·have key:∀m o1,(m=n∨m=c)→upd (upd h n .dead) c o m=some o1→o1.live=true→m=c:=by
   intro m o1 hm ho hl
   by_cases e2:m=c
   ·exact e2
   ·have e1:=hm.resolve_right e2
    subst e1;rw[mQ _ e2,rW]at ho;cases ho;simp[O.live]at hl
  exact(key m o1 hm ho1 hl1).trans (key p o2 hp ho2 hl2).symm
 ·have hp2:h p=some (.iter m size seen):=by
   by_cases e2:p=c
   ·subst e2;rw[rW]at hp;exact absurd (Option.some.inj hp) (hni m size seen)
   ·rw[mQ _ e2]at hp
    by_cases e1:p=n
    ·subst e1;rw[rW]at hp;simp at hp
    ·rw[mQ _ e1]at hp;exact hp
  obtain⟨h1,h2⟩:=hmap p m size seen hp2
  obtain⟨kd,es,hm⟩:=R.iters p m size seen hp2
  exact⟨kd,es,by rw[mQ _ h2,mQ _ h1];exact hm⟩
 ·obtain⟨h1,h2⟩:=hmap p m size seen hh
  rcases hm with hm | hm
  ·exact absurd hm h1
  ·exact absurd hm h2
 ·by_cases e2:m=c
  ·subst e2;rw[rW]at hh;simp at hh
  ·have e1:=hm.resolve_right e2
   subst e1;rw[mQ _ e2,rW]at hh;simp at hh
 ·by_cases e2:m=c
  ·subst e2;rw[hblk b' hb2];exact hb'
  ·have e1:=hm.resolve_right e2
   subst e1
   obtain⟨β',lim',h'⟩:=hb2
   simp only[Ren.put,e2,ck]at h'
   exact Nat.lt_of_lt_of_le (R.lt m b' ⟨β',lim',h'⟩) hfr.size
end
end Go.RM
namespace Go.RM
open Go.VM (Pt Fr iq j6 Lies o5 GV aSx)
open MapKept
section
variable {P:Program} {w0:World} {φ:Ren} {g h2:Hp} {s s':S} {Γ:Nat→V} {a:Act} {w:World} {h:Hp}
theorem N0{n:Nat}{p:TypeId×List X}(h:X5 s n=some p):s.h.get n=some (.cells p.1 p.2):=by
 unfold X5 at h;split at h
 ·cases h;assumption
 ·simp at h
theorem aLq{n:Nat}{p:TypeDesc×Bool×List (Value×V)}(h:aZV s n=some p):s.h.get n=some (.map p.1 p.2.1 p.2.2):=by
 unfold aZV at h;split at h
 ·cases h;assumption
 ·simp at h
theorem G9{z:Array Value}{zs:List X}(hp:Pt (RepX φ) z.toList zs):∀n,Pt (RepX φ) (madeCells z (n*z.size)).toList (List.replicate n zs).flatten
 | 0=>by simp[madeCells];exact Go.VM.Pt.nil
 | n+1=>by
  have ih:=G9 hp n
  have e:(madeCells z ((n+1)*z.size)).toList=(madeCells z (n*z.size)).toList++z.toList:=by
   apply List.ext_getElem?
   intro j
   simp only[madeCells,Array.toList_map,Array.toList_range,List.getElem?_map,List.getElem?_append,List.length_map,List.length_range]
   by_cases h1:j<n*z.size
   ·have h2:j<(n+1)*z.size:=by rw[Nat.add_mul];omega
    simp[h1,h2]
   ·by_cases h2:j<(n+1)*z.size
    ·have h3:j-n*z.size<z.size:=by rw[Nat.add_mul]at h2;omega
     have h4:j % z.size=j-n*z.size:=by
      have:j=z.size*n+(j-n*z.size):=by rw[Nat.mul_comm];omega
      conv=>lhs;rw[this]
      rw[Nat.mul_add_mod,Nat.mod_eq_of_lt h3]
     simp[h1,h2,h4,h3]
    ·have h3 : ¬j-n*z.size<z.size:=by rw[Nat.add_mul]at h2;omega
     simp[h1,h2,h3]
  rw[e,List.replicate_succ']
  simp only[List.flatten_append,List.flatten_cons,List.flatten_nil,List.append_nil]
  exact Go.VM.Pt.append ih hp
theorem NK{n off k:Nat}{e:TypeId}{xs cs:List X}{b β lim:Nat}(hr:RepO φ w n (.cells e xs))(hφ:φ n=some (b,β,lim))(hc:cut xs off k=some cs) :
  ∃vs,vs.length=k∧Lies w b (β+off) vs∧Pt (RepX φ) vs cs:=by
 obtain⟨b',β',lim',arr,h1,h2,h3,h4,h5⟩:=hr
 rw[hφ]at h1;cases h1
 obtain⟨rfl,hl⟩:=aIX hc
 simp only[List.length_take,List.length_drop]at hl
 have hlen:((arr.toList.drop (β+off)).take k).length=k:=by simp;omega
 refine⟨(arr.toList.drop (β+off)).take k,hlen,fun j v hv=>?_,⟨by rw[hlen];simp;omega,fun j v x hv hx=>?_⟩⟩
 ·rw[lk]at hv
  split at hv
  ·rw[List.getElem?_drop,Array.getElem?_toList]at hv
   simp[World.cell?,h2,hv]
  ·simp at hv
 ·rw[lk]at hv hx
  split at hv
  ·rename_i hj
   rw[if_pos hj,List.getElem?_drop]at hx
   rw[List.getElem?_drop,Array.getElem?_toList]at hv
   obtain⟨v',hv',hrep⟩:=h5 (off+j) x hx
   rw[←Nat.add_assoc,hv]at hv'
   cases hv';exact hrep
  ·simp at hv
theorem Pt.one_of{vs:List Value}{cs:List X}(hp:Pt (RepX φ) vs cs):∀u∈vs,u.oneCell'=true:=fun u hu=>by
 obtain⟨j,hj⟩:=List.getElem?_of_mem hu
 have hlt:j<cs.length:=by rw[←hp.1];exact(cw.1 hj).1
 exact(hp.2 j u cs[j] hj (dw hlt)).one
def MemR(P:Program)(w0:World)(φ:Ren)(h2 g:Hp)(w:World)(m:Sem Next)(x:V)(s':S):Prop :=
 ∃nx v w' φ',m.run P w = .ok nx w'∧(nx = .value v∨(nx = .skip∧v=undef))∧φ.le φ'∧Rel w0 φ' (kx h2 s') w'∧Inv g s'∧RepV φ' v x
theorem MemR.of{m:Sem Value}{v:Value}{w':World}{φ':Ren}{x:V}(hr:m.run P w = .ok v w')(hle:φ.le φ')(R:Rel w0 φ' (kx h2 s') w')(hi:Inv g s')(hv:RepV φ' v x) :
  MemR P w0 φ h2 g w (do pure (.value (←m))) x s':=⟨.value v,v,w',φ',by simp[hr],.inl rfl,hle,R,hi,hv⟩
theorem aHK(R:Rel w0 φ (kx h2 s) w)(hi:Inv g s)(he:EnvR φ a Γ){t:TypeId}{x:Operand}{y:Opd}{d:TypeDesc}{i:TypeInfo}(hd:P.underlying t=some d)(hti:P.info? t=some i)(hx:d7 x=some y)
  {n m off:Nat} {p:TypeId×List X} {cs:List X} (hn:n=if iq d then i.size else 1) (hy:evE Γ y = .c (.ptr m off)) (hg:X5 s m=some p) (hcut:cut p.2 off n=some cs) (hr:h2 m=g m) :
  MemR P w0 φ h2 g w (do pure (.value (←Instr.loadAt t (a.eval x)))) (mkV (iq d) cs) s:=by
 obtain⟨b,β,lim,hφ,hv⟩:=w4 (hy▸bY he hx)
 have hrep:=R.rep m _ ((wJ hi hr).trans (N0 hg))
 obtain⟨vs,hlen,hl,hp⟩:=NK hrep hφ hcut
 have hrun:=o5 (P:=P) hd hti hl
 cases hag:iq d with
 | true =>
  simp[hag]at hn
  exact MemR.of (by simp[Instr.loadAt,hv,Instr.sureAddr,hrun.1 hag (hlen.trans hn)]) (Ren.le_refl φ) R hi (PJ hp)
 | false =>
  simp[hag]at hn
  match vs,hlen.trans hn with
  | [v],_=>exact MemR.of (by simp[Instr.loadAt,hv,Instr.sureAddr,hrun.2 hag v rfl]) (Ren.le_refl φ) R hi (H5 hp)
theorem Z4(R:Rel w0 φ h w){b off:Nat}{cs:List Go.VM.T}(hat:Go.VM.At φ.w0 φ.ok b off cs){n:Nat}(hn:n≤cs.length) :
  ∃vs,vs.length=n∧Lies w b off vs∧Pt (RepX φ) vs ((cs.take n).map imX):=by
 have hb:w.heap[b]? = φ.w0.heap[b]?:=by rw[R.w0e];exact R.fr.block b (R.okl b hat.1) id
 have hv:∀(j:Nat) x,cs[j]? = some x→∃v,w.cell? ⟨b,off+j,none⟩=some v∧RepX φ v (imX x):=fun j x hx=>by
  obtain⟨v,h1,h2⟩:=hat.2 j x hx
  exact⟨v,(World.cell?_of_block hb).trans h1,aCJ h2⟩
 refine⟨(List.range n).map fun j=>(w.cell? ⟨b,off+j,none⟩).getD undef,by simp,fun j v hj=>?_,⟨by simp;omega,fun j v x hj hx=>?_⟩⟩
 ·simp only[List.getElem?_map,aw]at hj
  obtain⟨i,hi,rfl⟩:=hj
  have hlt:j<n:=by have:=(cw.1 hi).1;simpa using this
  rw[List.getElem?_range hlt]at hi
  cases hi
  obtain⟨v,h1,_⟩:=hv j cs[j] (dw (by omega))
  rw[h1];rfl
 ·simp only[List.getElem?_map,aw]at hj hx
  obtain⟨i,hi,rfl⟩:=hj
  have hlt:j<n:=by have:=(cw.1 hi).1;simpa using this
  rw[List.getElem?_range hlt]at hi
  cases hi
  obtain⟨t,ht,rfl⟩:=hx
  rw[lk,if_pos hlt]at ht
  obtain⟨v,h1,h2⟩:=hv j t ht
  rw[h1];exact h2
theorem aCK(R:Rel w0 φ (kx h2 s) w)(hi:Inv g s)(he:EnvR φ a Γ){t:TypeId}{x:Operand}{y:Opd}{d:TypeDesc}{i:TypeInfo}(hd:P.underlying t=some d)(hti:P.info? t=some i)(hx:d7 x=some y)
  {n:Nat} {cs:List Go.VM.T} (hn:n=if iq d then i.size else 1) (hy:evE Γ y = .c (.pI cs)) (hle:n≤cs.length) :
  MemR P w0 φ h2 g w (do pure (.value (←Instr.loadAt t (a.eval x)))) (mkV (iq d) ((cs.take n).map imX)) s:=by
 obtain⟨b,off,hat,hv⟩:=X8 (hy▸bY he hx)
 obtain⟨vs,hlen,hl,hp⟩:=Z4 R hat hle
 have hrun:=o5 (P:=P) hd hti hl
 cases hag:iq d with
 | true =>
  simp[hag]at hn
  exact MemR.of (by simp[Instr.loadAt,hv,Instr.sureAddr,hrun.1 hag (hlen.trans hn)]) (Ren.le_refl φ) R hi (PJ hp)
 | false =>
  simp[hag]at hn
  match vs,hlen.trans hn with
  | [v],_=>exact MemR.of (by simp[Instr.loadAt,hv,Instr.sureAddr,hrun.2 hag v rfl]) (Ren.le_refl φ) R hi (H5 hp)
theorem aVQ{W:World}{ok:Nat→Prop}{b off k:Nat}{rows:List (List Go.VM.T)}(hok:ok b)(hk:∀row∈rows,row.length=k)(hat:∀(i:Nat) row,rows[i]? = some row→Go.VM.At W ok b (off+i*k) row):Go.VM.At W ok b off rows.flatten :=
 ⟨hok,fun j x hx=>by
  have hlt:=(cw.1 hx).1
  have hk0:0<k:=by
   rcases Nat.eq_zero_or_pos k with h | h
   ·subst h
    have:rows.flatten=[]:=by
     rw[List.flatten_eq_nil_iff]
     intro l hl
     exact gk (hk l hl)
    rw[this]at hlt;simp at hlt
   ·exact h
  have hlen:rows.flatten.length=rows.length*k:=by
   rw[List.length_flatten]
   have:rows.map List.length=List.replicate rows.length k:=by
    rw[List.eq_replicate_iff]
    exact⟨by simp,fun b hb=>by obtain⟨l,hl,rfl⟩:=List.mem_map.1 hb;exact hk l hl⟩
   rw[this,List.sum_replicate_nat]
  have hi:j / k<rows.length:=by
   rw[Nat.div_lt_iff_lt_mul hk0];omega
  have hrow:rows[j / k]? = some rows[j / k]:=dw hi
  have hf:=Go.VM.flatten_get rows (j / k) rows[j / k] hk hrow
  have hj:j=j / k*k+j % k:=by rw[Nat.mul_comm];exact(Nat.div_add_mod j k).symm
  have hm:j % k<k:=Nat.mod_lt _ hk0
  have hx2:rows[j / k][j % k]? = some x:=by
   have:((rows.flatten.drop (j / k*k)).take k)[j % k]? = some x:=by
    rw[lk,if_pos hm,List.getElem?_drop,←hj];exact hx
   rw[hf]at this;exact this
  obtain⟨v,h1,h2⟩:=(hat (j / k) _ hrow).2 (j % k) x hx2
  exact⟨v,by rw[Nat.add_assoc,←hj]at h1;exact h1,h2⟩⟩
theorem V9(R:Rel w0 φ (kx h2 s) w)(hi:Inv g s){t:TypeId}{xs:List X}{arr:Array Value}{w':World}{b:Nat}(hn:new s (.cells t xs)=some s')(hr:h2 s.c=g s.c)
  (hb:w.heap.size≤b) (hw:w'.heap[b]? = some (.cells arr t (0,0))) (hfr:Fr w w' fun _=>False) (hl:xs.length≤arr.size) (hp:∀(j:Nat) x,xs[j]? = some x→∃v,arr[j]? = some v∧RepX φ v x) :
  φ.le (φ.put s.c (b,0,arr.size))∧Rel w0 (φ.put s.c (b,0,arr.size)) (kx h2 s') w'∧Inv g s':=by
 obtain⟨_,hnone⟩:=N6 hn
 have hc:kx h2 s s.c=none:=(wJ hi hr).trans hnone
 refine⟨Ren.le_put _ (R.dom _ hc),?_,Bq hn hi⟩
 rw[abj hn]
 exact R.new hc hb ((jk.1 hw).1) hfr (fun _ _ _ h=>by simp at h) (fun φ' e hle=>⟨b,0,arr.size,arr,by rw[e,Ren.put_self],hw,kw _,by omega,fun j x hx=>by
  obtain⟨v,h1,h2⟩:=hp j x hx
  exact⟨v,by rw[Nat.zero_add];exact h1,h2.mono hle⟩⟩)
theorem Vj{vs:List Value}{xs:List X}(hp:Pt (RepX φ) vs xs)(j:Nat)(x:X)(hx:xs[j]? = some x):∃v,vs[j]? = some v∧RepX φ v x:=by
 have hlt:j<vs.length:=by rw[hp.1];exact(cw.1 hx).1
 exact⟨vs[j],dw hlt,hp.2 j _ x (dw hlt) hx⟩
theorem N8(R:Rel w0 φ (kx h2 s) w)(hi:Inv g s){t:TypeId}{xs:List X}{arr:Array Value}(hn:new s (.cells t xs)=some s')(hr:h2 s.c=g s.c)(hp:Pt (RepX φ) arr.toList xs) :
  φ.le (φ.put s.c (w.heap.size,0,arr.size))∧Rel w0 (φ.put s.c (w.heap.size,0,arr.size)) (kx h2 s') (w.alloc (.cells arr t))∧Inv g s' :=
 V9 R hi hn hr (kw _) (heap_alloc_new w _) (Fr.alloc w _ _) (by have:=hp.1;simp at this;omega) (fun j x hx=>by
  obtain⟨v,h1,h2⟩:=Vj hp j x hx
  exact⟨v,by simpa using h1,h2⟩)
theorem aCx{c b lim:Nat}(off:Nat):RepV (φ.put c (b,0,lim)) (.pointer (some ⟨b,off,none⟩)) (.c (.ptr c off)):=by
 have:=RepX.ptr (φ:=φ.put c (b,0,lim)) c off b 0 lim (Ren.put_self _ _ _)
 rwa [Nat.zero_add]at this
theorem R6{e:TypeId}{z:List X}(hz:RY P e=some z):∃i zv,P.info? e=some i∧i.zero=some zv∧Pt (RepX φ) zv.cells.toList z:=by
 simp only[RY,ak]at hz
 obtain⟨zv,⟨i,hi,hzv⟩,hc⟩:=hz
 exact⟨i,zv,hi,hzv,I1 _ _ hc⟩
theorem Sj(R:Rel w0 φ (kx h2 s) w)(hi:Inv g s)(he:EnvR φ a Γ){t:TypeId}{i:TypeInfo}(hti:P.info? t=some i){x v:Operand}{x' v':Opd}(hx:d7 x=some x')(hv:d7 v=some v')
  {m off:Nat} {cs:List X} {p:TypeId×List X} (hy:evE Γ x' = .c (.ptr m off)) (hcs:i3 (evE Γ v')=some cs) (hg:X5 s m=some p) (hn:cs.length=i.size) (hfit:off+i.size≤p.2.length) (hput:put s m (.cells p.1 (setAt p.2 off cs))=some s') (hr:h2 m=g m) :
  ∃w',(Instr.storeAt t (a.eval x) (a.eval v)).run P w = .ok () w'∧Rel w0 φ (kx h2 s') w'∧Inv g s':=by
 have hp:=EZ (bY he hv) hcs
 have hvl:(a.eval v).cells.size=cs.length:=by have:=hp.1;simpa using this
 have hone:=Pt.one_of hp
 obtain⟨b,β,lim,hφ,hval⟩:=w4 (hy▸bY he hx)
 have dK:=(wJ hi hr).trans (N0 hg)
 obtain⟨b',β',lim',arr,h1,h2',h3,h4,h5⟩:=R.rep m _ dK
 rw[hφ]at h1;cases h1
 have hrun:=GV (P:=P) hti h2' (off:=β+off) (v:=a.eval v) (by omega) (by omega) hone
 have hgs:=setRow_heap w b arr ((arr.toList.take (β+off)++(a.eval v).cells.toList++arr.toList.drop (β+off+(a.eval v).cells.size)).toArray) p.1 (0,0) h2'
 refine⟨w.setRow b (arr.toList.take (β+off)++(a.eval v).cells.toList++arr.toList.drop (β+off+(a.eval v).cells.size)).toArray,by simp[Instr.storeAt,hval,Instr.sureAddr,hrun],?_,I7 hput hi⟩
 rw[N1 hput]
 refine R.put dK rfl (Go.VM.Fr.setRow w b _ _ ⟨β,lim,hφ⟩) ?_ (fun q m' size seen hq e _=>?_) (fun _ _ _ h=>by simp at h)
 ·refine⟨b,β,lim,_,hφ,hgs,?_,?_,fun j x hx=>?_⟩
  ·simp;omega
  ·rw[Gq (by omega)];omega
  ·have hj:j<p.2.length:=by have:=(cw.1 hx).1;rwa [Gq (by omega)]at this
   unfold setAt at hx
   simp only[List.getElem?_append,List.length_take,List.length_drop,lk,List.getElem?_drop]at hx
   simp only[List.getElem?_toArray,List.getElem?_append,ow,List.length_take,Array.length_toList,lk,List.getElem?_drop]
   have m1:min off p.2.length=off:=by omega
   have m2:min (β+off) arr.size=β+off:=by omega
   rw[m1]at hx
   rw[m2]
   by_cases c1:j<off
   ·have c1':β+j<β+off:=by omega
    have c1'':β+j<β+off+(a.eval v).cells.size:=by omega
    simp only[c1,ik]at hx
    simp only[c1',c1'',ik,Array.getElem?_toList]
    exact h5 j x hx
   ·have c1' : ¬β+j<β+off:=by omega
    simp only[c1,ck]at hx
    simp only[c1',ck]
    by_cases c2:j-off<cs.length
    ·have c2':β+j<β+off+(a.eval v).cells.size:=by omega
     have e1:β+j-(β+off)=j-off:=by omega
     simp only[c2,ik]at hx
     simp only[c2',ik,e1]
     exact Vj hp _ x hx
    ·have c2' : ¬β+j<β+off+(a.eval v).cells.size:=by omega
     simp only[c2,ck]at hx
     simp only[c2',ck,Array.getElem?_toList]
     have e1:off+cs.length+(j-off-cs.length)=j:=by omega
     have e2:β+off+(a.eval v).cells.size+(β+j-(β+off+(a.eval v).cells.size))=β+j:=by omega
     rw[e1]at hx
     rw[e2]
     exact h5 j x hx
 ·obtain⟨kd,es,hm⟩:=R.iters q m' size seen hq
  subst e
  rw[dK]at hm;simp at hm
theorem P2(w:World)(t ty e:TypeId)(i:TypeInfo)(ht:P.underlying t=some (.slice e))(hi:P.info? e=some i)(b off sLen sCap:Nat)(cur:Array Value)(hg:w.heap[b]? = some (.cells cur e (0,0)))
  (q:Addr) (m c:Nat) (news:List Value) (hl:news.length=m*i.size) (hnews:∀j u,news[j]? = some u→w.cell? (q.add j)=some u) (h1:∀u∈news,u.oneCell'=true)
  (hroom:sLen+m≤sCap) (hfit:off+sLen*i.size+news.length≤cur.size) :
  (Builtin.append_ #[t,t] ty #[.slice (some ⟨b,off,none⟩) sLen sCap,.slice (some q) m c]).run P w =
   .ok (.slice (some ⟨b,off,none⟩) (sLen+m) sCap) (w.setRow b (cur.toList.take (off+sLen*i.size)++news++cur.toList.drop (off+sLen*i.size+news.length)).toArray):=by
 have hf:=run_firstCells_some (P:=P) w i.size m q m c news hl hnews
 have hst:=run_storeCells_at P b (off+sLen*i.size) e news 0 cur w hg (by simpa using hfit) h1
 simp only[Nat.add_zero]at hst
 simp[Builtin.append_,run_underlying ht,sizeOf,typeInfo,hi,Builtin.lenOf,hroom,hf,Addr.add_lit,hst]
theorem Cz(w:World)(t ty e:TypeId)(i:TypeInfo)(ht:P.underlying t=some (.slice e))(hi:P.info? e=some i)(b:Option Addr)(n cap:Nat)(hnc:n≤cap)(q:Option Addr)(c:Nat)(hb:b=none→n=0∧cap=0) :
  (Builtin.append_ #[t,t] ty #[.slice b n cap,.slice q 0 c]).run P w = .ok (.slice b n cap) w:=by
 have hfc:∀w:World,(Builtin.firstCells i.size 0 (.slice q 0 c)).run P w = .ok #[] w:=by
  intro w;cases q<;>simp[Builtin.firstCells,loadCells,loadCellsFrom]
 cases b with
 | none =>
  obtain⟨rfl,rfl⟩:=hb rfl
  simp[Builtin.append_,run_underlying ht,sizeOf,typeInfo,hi,Builtin.lenOf,hfc]
 | some ad=>simp[Builtin.append_,run_underlying ht,sizeOf,typeInfo,hi,Builtin.lenOf,hfc,hnc,storeCells]
theorem V1(R:Rel w0 φ (kx h2 s) w)(hi:Inv g s){k:Nat}{v:Value}{x:V}{src:List X×Nat×Nat}(hx:RepV φ v x)(hs:aGX s k x=some src)(hr:∀n,src.2.2.testBit n=true→h2 n=g n) :
  ∃q c news,v = .slice q src.2.1 c∧news.length=src.2.1*k∧Pt (RepX φ) news src.1∧(src.2.1=0∨∃b off,q=some ⟨b,off,none⟩∧Lies w b off news):=by
 unfold aGX at hs
 split at hs
 ·cases hs
  exact⟨none,0,[],i2 hx,by simp,Go.VM.Pt.nil,.inl rfl⟩
 ·cases hs
  cases hx with
  | es ad=>exact⟨some ad,0,[],rfl,by simp,Go.VM.Pt.nil,.inl rfl⟩
 ·cases hs
  cases hx with
  | ez ad=>exact⟨ad,0,[],rfl,by simp,Go.VM.Pt.nil,.inl rfl⟩
 ·rename_i k' rows
  rw[f4]at hs
  obtain⟨hk,hs⟩:=hs
  cases hs
  have hk:=zK hk
  subst hk
  rcases UZ hx with⟨rfl,ad,cap,rfl⟩ | ⟨b,off,cap,rfl,hle,hkk,hat⟩
  ·exact⟨ad,cap,[],rfl,by simp,Go.VM.Pt.nil,.inl rfl⟩
  ·by_cases h0:rows=[]
   ·subst h0
    exact⟨_,cap,[],rfl,by simp,Go.VM.Pt.nil,.inl rfl⟩
   ·obtain⟨row,hrow⟩:=List.exists_mem_of_ne_nil rows h0
    obtain⟨i,hi0⟩:=List.getElem?_of_mem hrow
    have hall:=aVQ (hat i row hi0).1 hkk hat
    obtain⟨vs,hl,hlie,hp⟩:=Z4 R hall (kw _)
    rw[List.take_length]at hp
    refine⟨_,cap,vs,rfl,?_,hp,.inr ⟨b,off,rfl,hlie⟩⟩
    rw[hl,List.length_flatten]
    have:rows.map List.length=List.replicate rows.length k:=by
     rw[List.eq_replicate_iff]
     exact⟨by simp,fun b hb=>by obtain⟨l,hl,rfl⟩:=List.mem_map.1 hb;exact hkk l hl⟩
    rw[this,List.sum_replicate_nat]
 ·rename_i n k' off len
  simp only[ak]at hs
  obtain⟨p,hg,hs⟩:=hs
  rw[f4]at hs
  obtain⟨hk,hs⟩:=hs
  simp only[aw]at hs
  obtain⟨cs,hcut,rfl⟩:=hs
  have hk:=zK hk
  subst hk
  cases hx with
  | sl _ _ _ _ b β lim o cap hφ hlen ho hlim =>
   have hrep:=R.rep n _ ((wJ hi (hr n (p4 n))).trans (N0 hg))
   obtain⟨vs,hl,hlie,hp⟩:=NK hrep hφ hcut
   refine⟨_,cap,vs,rfl,hl,hp,?_⟩
   by_cases h0:len=0
   ·exact .inl h0
   ·right
    have:=ho (by omega)
    subst this
    exact⟨b,β+off,rfl,hlie⟩
 ·simp at hs
end
end Go.RM
namespace Go.RM
open Go.VM (Pt Fr j6 Lies)
section
variable {P:Program} {w0:World} {φ:Ren} {g h2:Hp} {s s':S} {Γ:Nat→V} {a:Act} {w:World}
theorem SJ{bytes n:Nat}(h:Ox bytes n=true):n*bytes≤140737488355328∧n≤9223372036854775807:=by
 unfold Ox at h
 simp only[bw]at h
 exact⟨Nq h.1,Nq h.2⟩
theorem Fr.drewAlloc(w:World)(o:Obj):Fr w (w.drew.alloc o) fun _=>False:=⟨rfl,rfl,rfl,by simp,fun b hb _=>heap_alloc_old w.drew _ hb⟩
theorem Z2(R:Rel w0 φ (kx h2 s) w)(hi:Inv g s)(he:EnvR φ a Γ){o:Oper}{c:Call}(hop:o.op = .call c)(hcal:c.callee = .builtin .append){t elem:TypeId}{ie:TypeInfo}{s0 x0:Operand}(hty:c.argTypes.toList=[t,t])(hargs:c.args.toList=[s0,x0])
  (ht:P.underlying t=some (.slice elem)) (hie:P.info? elem=some ie) (hsz:0<ie.size) (hz:(ie.zero.map fun z=>z.cells.size)=some ie.size) {sl x:Opd} (hs':d7 s0=some sl) (hx':d7 x0=some x)
  {v:V} {r:Nat} (hm:gK (evE Γ) s (.app elem ie.size ie.bytes sl x)=some (v,s',r)) (hr:∀n,r.testBit n=true→h2 n=g n):MemR P w0 φ h2 g w (execOp a.eval o) v s':=by
 obtain⟨z,hz1,hz2⟩ : ∃z,ie.zero=some z∧z.cells.size=ie.size:=by
  cases hzz:ie.zero with
  | none=>simp[hzz]at hz
  | some z=>simp[hzz]at hz;exact⟨z,rfl,hz⟩
 have hargs':c.args = #[s0,x0]:=by rw[←Array.toArray_toList (xs:=c.args),hargs]
 have htys:c.argTypes = #[t,t]:=by rw[←Array.toArray_toList (xs:=c.argTypes),hty]
 simp only[gK,ak]at hm
 obtain⟨src,hsrc,hm⟩:=hm
 have hrs:∀n,src.2.2.testBit n=true→h2 n=g n:=by
  intro n hn
  refine hr n ?_
  split at hm
  ·cases hb:Nat.beq src.2.1 0
   ·simp only[hb,cond_false]at hm
    rw[f4]at hm
    simp only[aw]at hm
    obtain⟨_,s1,_,hm⟩:=hm
    cases hm
    exact Q0 hn
   ·simp only[hb,cond_true]at hm;cases hm;exact hn
  ·cases hb:Nat.beq src.2.1 0
   ·simp only[hb,cond_false]at hm
    rw[f4]at hm
    simp only[aw]at hm
    obtain⟨_,s1,_,hm⟩:=hm
    cases hm
    exact Q0 hn
   ·simp only[hb,cond_true]at hm;cases hm;exact hn
  ·cases hb:Nat.beq src.2.1 0
   ·simp only[hb,cond_false]at hm
    rw[f4]at hm
    simp only[aw]at hm
    obtain⟨_,s1,_,hm⟩:=hm
    cases hm
    exact Q0 hn
   ·simp only[hb,cond_true]at hm;cases hm;exact hn
  ·simp only[ak]at hm
   obtain⟨p,hp,hm⟩:=hm
   rw[f4]at hm
   obtain⟨_,hm⟩:=hm
   simp only[ak]at hm
   obtain⟨olds,ho,hm⟩:=hm
   cases hb:Nat.beq src.2.1 0
   ·simp only[hb,cond_false,ak,aw]at hm
    obtain⟨s1,h1,s2,h2,hm⟩:=hm
    cases hm
    exact Q0 (Q0 hn)
   ·simp only[hb,cond_true]at hm;cases hm;exact Q0 hn
  ·simp at hm
 obtain⟨q,cc,news,hxv,hnl,hpn,hsrc0⟩:=V1 R hi (bY he hx') hsrc hrs
 have hone:=Pt.one_of hpn
 have hexec:∀u v' w',a.eval s0=u→(Builtin.append_ #[t,t] o.type #[u,.slice q src.2.1 cc]).run P w = .ok v' w'→(execOp a.eval o).run P w = .ok (.value v') w':=by
  intro u v' w' hu hr
  simp[execOp,hop,resolve,hcal,hargs',htys,invoke,builtin,hxv,hu,hr]
 have hsr:=bY he hs'
 have fresh:∀(u:Value) (s1:S) (b0:Option Addr) (n0 cap0:Nat),a.eval s0=u→u = .slice b0 n0 cap0→n0=0→(b0=none→cap0=0)→cap0<src.2.1→Ox ie.bytes src.2.1=true→new s (.cells elem src.1)=some s1→h2 s.c=g s.c →
   MemR P w0 φ h2 g w (execOp a.eval o) (.c (.sl s.c ie.size 0 src.2.1)) s1:=by
  intro u s1 b0 n0 cap0 hu hform hn0 hbn hcap hroom hnew hrc
  subst hform;subst hn0
  obtain⟨r1,r2⟩:=SJ hroom
  obtain⟨sb,soff,rfl,hlies⟩:=hsrc0.resolve_left (by omega)
  have hnews:∀j u,news[j]? = some u→w.cell? ((⟨sb,soff,none⟩ : Addr).add j)=some u:=fun j u hu=>by rw[j6];exact hlies j u hu
  have key:∃cap' zc,src.2.1≤cap'∧zc=(Builtin.zeroCells z.cells (cap' - src.2.1))∧(Builtin.append_ #[t,t] o.type #[.slice b0 0 cap0,.slice (some ⟨sb,soff,none⟩) src.2.1 cc]).run P w = .ok (.slice (some ⟨w.heap.size,0,none⟩) src.2.1 cap') (w.drew.alloc (.cells (news.toArray++zc) elem)):=by
   cases b0 with
   | none =>
    have:=hbn rfl
    subst this
    exact⟨_,_,grownCap_ge w src.2.1 0 elem,rfl,run_append_nil (P:=P) w t o.type elem ie z ht hie hz1 ⟨sb,soff,none⟩ src.2.1 cc news hnl hnews (by omega) (by omega) (by omega)⟩
   | some ad =>
    have hr:=run_append_grow (P:=P) w t o.type elem ie z ht hie hz1 ad 0 cap0 [] (by simp) (fun j u hu=>by simp at hu) ⟨sb,soff,none⟩ src.2.1 cc news hnl hnews (by omega) (by simp only[Nat.zero_add];omega) (growslice_fits (by omega) (by simpa using r1))
    simp only[Nat.zero_add,List.nil_append,Array.empty_append]at hr
    exact⟨_,_,grownCap_ge w src.2.1 cap0 elem,rfl,hr⟩
  obtain⟨cap',zc,hge,rfl,hrun⟩:=key
  have hsize:(news.toArray++Builtin.zeroCells z.cells (cap' - src.2.1)).size=cap'*ie.size:=by
   simp only[Array.size_append,List.size_toArray,size_zeroCells,hz2,hnl,←Nat.add_mul]
   congr 1;omega
  obtain⟨hle,R',hi'⟩:=V9 R hi (arr:=news.toArray++Builtin.zeroCells z.cells (cap' - src.2.1)) (w':=w.drew.alloc (.cells (news.toArray++Builtin.zeroCells z.cells (cap' - src.2.1)) elem)) (b:=w.heap.size) hnew hrc (kw _) (heap_alloc_new w.drew _) (Fr.drewAlloc w _)
   (by rw[hsize,←hpn.1,hnl];exact Nat.mul_le_mul_right _ hge) (fun j x hx=>by
    obtain⟨v,h1,h2⟩:=Vj hpn j x hx
    have hj:=(cw.1 h1).1
    exact⟨v,by rw[Array.getElem?_append_left (by simpa using hj)];simpa using h1,h2⟩)
  refine⟨_,_,_,_,hexec _ _ _ hu hrun,.inl rfl,hle,R',hi',?_⟩
  exact RepX.sl _ _ _ _ _ 0 _ 0 _ (Ren.put_self _ _ _) hge (fun _=>rfl) (by rw[hsize,Nat.zero_add];exact kw _)
 split at hm
 ·rename_i heq
  rw[heq]at hsr
  have hu:=i2 hsr
  cases hb:Nat.beq src.2.1 0
  ·simp only[hb,cond_false]at hm
   rw[f4]at hm
   obtain⟨hroom,hm⟩:=hm
   simp only[aw]at hm
   obtain⟨s1,hnew,hm⟩:=hm
   cases hm
   have hpos:0<src.2.1:=Nat.pos_of_ne_zero fun e=>by rw[e]at hb;simp at hb
   exact fresh _ s' none 0 0 hu rfl rfl (fun _=>rfl) hpos hroom hnew (hr _ (W6 (p4 _)))
  ·simp only[hb,cond_true]at hm
   cases hm
   have h0:=zK hb
   have hrun:=Cz (P:=P) w t o.type elem ie ht hie none 0 0 (kw 0) q cc (fun _=>⟨rfl,rfl⟩)
   rw[←h0]at hrun
   refine⟨_,_,w,φ,hexec _ _ _ hu (by rw[h0]at hrun ⊢;exact hrun),.inl rfl,Ren.le_refl φ,R,hi,?_⟩
   rw[heq];exact H4 rfl
 ·rename_i heq
  rw[heq]at hsr
  generalize hval:a.eval s0=u at hsr
  cases hsr with
  | es ad =>
   cases hb:Nat.beq src.2.1 0
   ·simp only[hb,cond_false]at hm
    rw[f4]at hm
    obtain⟨hroom,hm⟩:=hm
    simp only[aw]at hm
    obtain⟨s1,hnew,hm⟩:=hm
    cases hm
    have hpos:0<src.2.1:=Nat.pos_of_ne_zero fun e=>by rw[e]at hb;simp at hb
    exact fresh _ s' (some ad) 0 0 hval rfl rfl (fun h=>by simp at h) hpos hroom hnew (hr _ (W6 (p4 _)))
   ·simp only[hb,cond_true]at hm
    cases hm
    have h0:=zK hb
    have hrun:=Cz (P:=P) w t o.type elem ie ht hie (some ad) 0 0 (kw 0) q cc (fun h=>by simp at h)
    refine⟨_,_,w,φ,hexec _ _ _ hval (by rw[h0];exact hrun),.inl rfl,Ren.le_refl φ,R,hi,?_⟩
    rw[heq];exact RepX.es ad
 ·rename_i heq
  rw[heq]at hsr
  generalize hval:a.eval s0=u at hsr
  cases hsr with
  | ez ad =>
   cases hb:Nat.beq src.2.1 0
   ·simp only[hb,cond_false]at hm
    rw[f4]at hm
    obtain⟨hroom,hm⟩:=hm
    simp only[aw]at hm
    obtain⟨s1,hnew,hm⟩:=hm
    cases hm
    have hpos:0<src.2.1:=Nat.pos_of_ne_zero fun e=>by rw[e]at hb;simp at hb
    exact fresh _ s' ad 0 0 hval rfl rfl (fun _=>rfl) hpos hroom hnew (hr _ (W6 (p4 _)))
   ·simp only[hb,cond_true]at hm
    cases hm
    have h0:=zK hb
    have hrun:=Cz (P:=P) w t o.type elem ie ht hie ad 0 0 (kw 0) q cc (fun _=>⟨rfl,rfl⟩)
    refine⟨_,_,w,φ,hexec _ _ _ hval (by rw[h0];exact hrun),.inl rfl,Ren.le_refl φ,R,hi,?_⟩
    rw[heq];exact RepX.ez ad
 ·rename_i n k' off len heq
  rw[heq]at hsr
  simp only[ak]at hm
  obtain⟨p,hg,hm⟩:=hm
  rw[f4]at hm
  obtain⟨hcnd,hm⟩:=hm
  simp only[bw]at hcnd
  have hk:=zK hcnd.1
  have hte:=zK hcnd.2.1
  obtain⟨r1,r2⟩:=SJ hcnd.2.2
  subst hk
  simp only[ak]at hm
  obtain⟨olds,hcut,hm⟩:=hm
  generalize hval:a.eval s0=u at hsr
  have hsr':RepX φ u (.sl n ie.size off len):=hsr
  cases hsr' with
  | sl _ _ _ _ b β lim o' cap hφ hlen ho hlim =>
   cases hb:Nat.beq src.2.1 0
   ·simp only[hb,cond_false,ak,aw]at hm
    obtain⟨s1,hput,s2,hnew,hm⟩:=hm
    cases hm
    have hpos:0<src.2.1:=Nat.pos_of_ne_zero fun e=>by rw[e]at hb;simp at hb
    have hrn:h2 n=g n:=hr n (Q0 (W6 (p4 n)))
    have hrc:h2 s1.c=g s1.c:=hr _ (W6 (p4 _))
    have dK:=(wJ hi hrn).trans (N0 hg)
    have hrep:=R.rep n _ dK
    obtain⟨vs,hvl,hlie,hpo⟩:=NK hrep hφ hcut
    obtain⟨bb,ββ,ll,arr,g1,g2,g3,g4,g5⟩:=hrep
    rw[hφ]at g1;cases g1
    obtain⟨sb,soff,rfl,hlies⟩:=hsrc0.resolve_left (by omega)
    have hnews:∀j u,news[j]? = some u→w.cell? ((⟨sb,soff,none⟩ : Addr).add j)=some u:=fun j u hu=>by rw[j6];exact hlies j u hu
    have hi1:=I7 hput hi
    have hnone:kx h2 s1 s1.c=none:=(wJ hi1 hrc).trans (N6 hnew).2
    rw[N1 hput]at hnone
    have hcn:s1.c≠n:=fun e=>by rw[e,rW]at hnone;simp at hnone
    rw[mQ _ hcn]at hnone
    have hov:kx h2 s'=upd (upd (kx h2 s) n .dead) s1.c (.cells elem (olds++src.1)):=by rw[abj hnew,N1 hput]
    have hppt:Pt (RepX φ) (vs++news) (olds++src.1):=Go.VM.Pt.append hpo hpn
    have htot:(vs++news).length=(len+src.2.1)*ie.size:=by rw[ow,hvl,hnl,Nat.add_mul]
    subst hte
    by_cases hroom:len+src.2.1≤cap
    ·have hmul:(len+src.2.1)*ie.size≤cap*ie.size:=Nat.mul_le_mul_right _ hroom
     rw[Nat.add_mul]at hmul
     have hfit:o'+len*ie.size+news.length≤arr.size:=by omega
     have hrun:=P2 (P:=P) w t o.type p.1 ie ht hie b o' len cap arr g2 ⟨sb,soff,none⟩ src.2.1 cc news hnl hnews hone hroom hfit
     have hgs:=setRow_heap w b arr ((arr.toList.take (o'+len*ie.size)++news++arr.toList.drop (o'+len*ie.size+news.length)).toArray) p.1 (0,0) g2
     have R':=R.move (c:=s1.c) (o:=.cells p.1 (olds++src.1)) (b:=b) (β:=o') (lim:=lim) (w':=w.setRow b (arr.toList.take (o'+len*ie.size)++news++arr.toList.drop (o'+len*ie.size+news.length)).toArray) dK hnone (.inr ⟨β,lim,hφ⟩) ((jk.1 hgs).1) (Go.VM.Fr.setRow w b _ _ ⟨β,lim,hφ⟩) (fun _ _ _=>by simp) (fun φ' e hle=>by
      refine⟨b,o',lim,_,by rw[e,Ren.put_self],hgs,by simp;omega,?_,fun j x hx=>?_⟩
      ·rw[←hppt.1,htot,Nat.add_mul];omega
      ·obtain⟨v,h1,h2⟩:=Vj hppt j x hx
       refine⟨v,?_,h2.mono hle⟩
       have hjl:=(cw.1 h1).1
       rw[htot]at hjl
       rw[Nat.add_mul]at hjl
       simp only[List.getElem?_toArray,List.getElem?_append,ow,List.length_take,Array.length_toList,lk]
       have m1:min (o'+len*ie.size) arr.size=o'+len*ie.size:=by omega
       rw[m1]
       have c0:o'+j<o'+len*ie.size+news.length:=by omega
       simp only[c0,ik]
       rw[List.getElem?_append,hvl]at h1
       by_cases c1:j<len*ie.size
       ·have c1':o'+j<o'+len*ie.size:=by omega
        simp only[c1,ik]at h1
        simp only[c1',ik]
        have hl0:0<len:=Nat.pos_of_ne_zero fun e=>by rw[e]at c1;omega
        have:=hlie j v h1
        rw[←ho hl0]at this
        simp only[World.cell?,g2]at this
        simpa using this
       ·have c1' : ¬o'+j<o'+len*ie.size:=by omega
        simp only[c1,ck]at h1
        simp only[c1',ck]
        rw[←h1];congr 1;omega)
     rw[←hov]at R'
     refine⟨_,_,_,_,hexec _ _ _ hval hrun,.inl rfl,Ren.le_put _ (R.dom _ hnone),R',Bq hnew hi1,?_⟩
     exact RepX.sl _ _ _ _ _ o' _ o' _ (Ren.put_self _ _ _) hroom (fun _=>by omega) hlim
    ·have holds:∀j u,vs[j]? = some u→w.cell? ((⟨b,o',none⟩ : Addr).add j)=some u:=fun j u hu=>by
      rw[j6]
      have hl0:0<len:=Nat.pos_of_ne_zero fun e=>by
       have:=(cw.1 hu).1
       rw[hvl,e]at this;omega
      rw[ho hl0];exact hlie j u hu
     have hrun:=run_append_grow (P:=P) w t o.type p.1 ie z ht hie hz1 ⟨b,o',none⟩ len cap vs hvl holds ⟨sb,soff,none⟩ src.2.1 cc news hnl hnews (by omega) (by omega) (growslice_fits (by omega) r1)
     have hge:=grownCap_ge w (len+src.2.1) cap p.1
     have hsize:(vs.toArray++news.toArray++Builtin.zeroCells z.cells (grownCap w (len+src.2.1) cap p.1-(len+src.2.1))).size=grownCap w (len+src.2.1) cap p.1*ie.size:=by
      simp only[Array.size_append,List.size_toArray,size_zeroCells,hz2,hvl,hnl,←Nat.add_mul]
      congr 1;omega
     have R':=R.move (c:=s1.c) (o:=.cells p.1 (olds++src.1)) (b:=w.heap.size) (β:=0) (lim:=grownCap w (len+src.2.1) cap p.1*ie.size) (w':=w.drew.alloc (.cells (vs.toArray++news.toArray++Builtin.zeroCells z.cells (grownCap w (len+src.2.1) cap p.1-(len+src.2.1))) p.1)) dK hnone (.inl (kw _)) (by simp) (by
      have:=Fr.drewAlloc w (.cells (vs.toArray++news.toArray++Builtin.zeroCells z.cells (grownCap w (len+src.2.1) cap p.1-(len+src.2.1))) p.1)
      exact⟨this.os,this.tape,this.output,this.size,fun b hb _=>this.block b hb id⟩) (fun _ _ _=>by simp) (fun φ' e hle=>by
      refine⟨w.heap.size,0,_,_,by rw[e,Ren.put_self],heap_alloc_new w.drew _,by rw[hsize];exact kw _,?_,fun j x hx=>?_⟩
      ·rw[←hppt.1,htot,Nat.zero_add];exact Nat.mul_le_mul_right _ hge
      ·obtain⟨v,h1,h2⟩:=Vj hppt j x hx
       refine⟨v,?_,h2.mono hle⟩
       have hjl:=(cw.1 h1).1
       rw[Nat.zero_add,Array.getElem?_append_left (by simpa using hjl)]
       simpa using h1)
     rw[←hov]at R'
     refine⟨_,_,_,_,hexec _ _ _ hval hrun,.inl rfl,Ren.le_put _ (R.dom _ hnone),R',Bq hnew hi1,?_⟩
     exact RepX.sl _ _ _ _ _ 0 _ 0 _ (Ren.put_self _ _ _) hge (fun _=>rfl) (by rw[Nat.zero_add];exact kw _)
   ·simp only[hb,cond_true]at hm
    cases hm
    have h0:=zK hb
    have hrun:=Cz (P:=P) w t o.type elem ie ht hie (some ⟨b,o',none⟩) len cap hlen q cc (fun h=>by simp at h)
    refine⟨_,_,w,φ,hexec _ _ _ hval (by rw[h0];exact hrun),.inl rfl,Ren.le_refl φ,R,hi,?_⟩
    rw[heq];exact RepX.sl n ie.size off len b β lim o' cap hφ hlen ho hlim
 ·simp at hm
end
end Go.RM
namespace Go.RM
open Go.VM (Pt Fr keyB G3 CY jz E7)
open Go.ChangeMaps (setBlock)
open MapKept
section
variable {P:Program} {w0:World} {φ:Ren} {g h2:Hp} {s s':S} {Γ:Nat→V} {a:Act} {w:World}
theorem amQ{x y:TypeDesc}(h:aLW x y=true):x=y:=by
 unfold aLW at h
 split at h<;>first | rfl | (have:=of_decide_eq_true h;subst this;rfl) | simp at h
theorem V3{kd:TypeDesc}{x:V}{key:Value}(h:aPq kd x=some key):x = .c (.sc key)∧Go.VM.keyOf kd key=true:=by
 unfold aPq at h
 split at h
 ·rw[f4]at h
  obtain⟨h1,h2⟩:=h
  cases h2
  exact⟨rfl,h1⟩
 ·simp at h
theorem PW{x:V}{v:Value}(hp:wX x=true)(h:RepV φ v x):RepS φ v x:=by
 cases x with
 | c _=>exact h
 | agg _=>exact h
 | tup _=>simp[wX]at hp
 | junk=>simp[wX]at hp
theorem Yj{x:V}{v:Value}(h:RepS φ v x):RepV φ v x:=by
 cases x with
 | c _=>exact h
 | agg _=>exact h
 | tup _=>exact h.elim
 | junk=>trivial
theorem alQ{u u':Value}{y y':V}(h:RepS φ u y)(h':RepS φ u' y'):RepV φ (.tuple #[u,u']) (.tup [y,y']) :=
 ⟨#[u,u'],rfl,Go.VM.Pt.cons h (Go.VM.Pt.cons h' Go.VM.Pt.nil)⟩
theorem amq{v:Value}{n:Nat}(hx:RepV φ v (.c (.mp n))):∃b β lim,φ n=some (b,β,lim)∧v = .map (some b):=by
 have hx':RepX φ v (.mp n):=hx
 cases hx' with
 | mp _ b β lim h=>exact⟨b,β,lim,h,rfl⟩
theorem afq(R:Rel w0 φ (kx h2 s) w)(hi:Inv g s){m:Nat}{p:TypeDesc×List (Value×V)}(hg:arV s m=some p)(hr:h2 m=g m):∃b es' clock,φ m=some (b,0,0)∧w.heap[b]? = some (.map es' clock)∧es'.size=p.2.length ∧
  ∀(i:Nat) e q,es'[i]? = some e→p.2[i]? = some q→e.key=q.1∧Go.VM.keyOf p.1 q.1=true∧RepS φ e.val q.2:=by
 unfold arV at hg
 split at hg
 ·rename_i kd b0 es heq
  cases hg
  obtain⟨b,es',clock,g1,hh,_,hsz,hes⟩:=R.rep m _ ((wJ hi hr).trans heq)
  exact⟨b,es',clock,g1,hh,hsz,fun i e q h1 h2=>let ⟨a1,a2,_,a4⟩:=hes i e q h1 h2;⟨a1,a2,a4⟩⟩
 ·rename_i kd es heq
  cases hg
  exact R.rep m _ ((wJ hi hr).trans heq)
 ·simp at hg
theorem aTj{m:Nat}{p:TypeDesc×List (Value×V)}(hg:getD s m=some p):arV s m=some p∧∃o,s.h.get m=some o∧o.live=true∧∀kd es,o ≠ .map kd true es:=by
 unfold getD at hg
 unfold arV
 split at hg
 ·rename_i heq;rw[heq];cases hg;exact⟨rfl,_,rfl,rfl,fun _ _ h=>by simp at h⟩
 ·rename_i heq;rw[heq];cases hg;exact⟨rfl,_,rfl,rfl,fun _ _ h=>by simp at h⟩
 ·simp at hg
theorem aCW(R:Rel w0 φ (kx h2 s) w)(hi:Inv g s)(he:EnvR φ a Γ){o:Oper}{t k e:TypeId}{kd:TypeDesc}(ht:P.underlying t=some (.map k e))(hk:P.underlying k=some kd){i:TypeInfo}{zv:Value}{z:V}(hti:P.info? e=some i)(hz:i.zero=some zv)(hc:Mz zv=some z)
  {x j:Operand} {x' j':Opd} (hx:d7 x=some x') (hj:d7 j=some j') {ok:Bool} {v:V} {r:Nat} (hm:gK (evE Γ) s (.look kd z ok x' j')=some (v,s',r)) (hr:∀n,r.testBit n=true→h2 n=g n) :
  MemR P w0 φ h2 g w (do pure (.value (←Instr.lookup t (a.eval x) (a.eval j) ok))) v s':=by
 have hzs:RepS φ zv z:=by
  have hzr:RepV φ zv z:=D8 hc
  unfold Mz at hc
  split at hc
  ·obtain⟨_,_,rfl⟩:=aw.1 hc;exact hzr
  ·obtain⟨_,_,rfl⟩:=aw.1 hc;exact hzr
 have hzrun:∀w:World,(zeroValue e).run P w = .ok zv w:=fun w=>by simp[zeroValue,typeInfo,hti,hz]
 simp only[gK,ak]at hm
 obtain⟨key,hkey,hm⟩:=hm
 obtain⟨hkx,hkey⟩:=V3 hkey
 have hjv:=i2 (hkx▸bY he hj)
 rw[hjv]
 split at hm
 ·rename_i heq
  cases hm
  have hv:=i2 (heq▸bY he hx)
  rw[hv]
  cases ok
  ·refine MemR.of (v:=zv) (w':=w) (φ':=φ) ?_ (Ren.le_refl φ) R hi (Yj hzs)
   simp[Instr.lookup,run_underlying ht,run_checkKey hk (jz hkey),run_findKey hk (show Instr.findNow kd key [] 0=some none from rfl),hzrun,Result.andThen]
  ·refine MemR.of (v:=.tuple #[zv,.bool false]) (w':=w) (φ':=φ) ?_ (Ren.le_refl φ) R hi (alQ hzs (RepX.sc _ rfl))
   simp[Instr.lookup,run_underlying ht,run_checkKey hk (jz hkey),run_findKey hk (show Instr.findNow kd key [] 0=some none from rfl),hzrun,Result.andThen]
 ·rename_i m heq
  simp only[ak]at hm
  obtain⟨p,hg,hm⟩:=hm
  rw[f4]at hm
  obtain⟨hkd,hm⟩:=hm
  cases hm
  have hkd:=amQ hkd
  subst hkd
  obtain⟨b,β,lim,hφ,hv⟩:=amq (heq▸bY he hx)
  rw[hv]
  obtain⟨b',es',clock,g1,hh,hsz,hes⟩:=afq R hi hg (hr m (p4 m))
  rw[hφ]at g1;cases g1
  rcases E7 hkey es'.toList p.2 0 (by simpa using hsz) (fun j e p g1 g2=>by
    obtain⟨h1,h2,_⟩:=hes j e p (by simpa using g1) g2
    exact⟨h1,h2⟩)with⟨g1,g2,_⟩ | ⟨j,e',p',g1,g2,g3,g4,g5,_⟩
  ·rw[g1]
   cases ok
   ·refine MemR.of (v:=zv) (w':=w) (φ':=φ) ?_ (Ren.le_refl φ) R hi (Yj hzs)
    simp[Instr.lookup,run_underlying ht,MapKept.run_getObj_map hh,run_checkKey hk (jz hkey),run_findKey hk g2,hzrun,Result.andThen]
   ·refine MemR.of (v:=.tuple #[zv,.bool false]) (w':=w) (φ':=φ) ?_ (Ren.le_refl φ) R hi (alQ hzs (RepX.sc _ rfl))
    simp[Instr.lookup,run_underlying ht,MapKept.run_getObj_map hh,run_checkKey hk (jz hkey),run_findKey hk g2,hzrun,Result.andThen]
  ·rw[g3]
   obtain⟨_,_,hrep⟩:=hes j e' p' (by simpa using g1) g2
   cases ok
   ·refine MemR.of (v:=e'.val) (w':=w) (φ':=φ) ?_ (Ren.le_refl φ) R hi (Yj hrep)
    simp[Instr.lookup,run_underlying ht,MapKept.run_getObj_map hh,run_checkKey hk (jz hkey),run_findKey hk g4,Result.andThen]
   ·refine MemR.of (v:=.tuple #[e'.val,.bool true]) (w':=w) (φ':=φ) ?_ (Ren.le_refl φ) R hi (alQ hrep (RepX.sc _ rfl))
    simp[Instr.lookup,run_underlying ht,MapKept.run_getObj_map hh,run_checkKey hk (jz hkey),run_findKey hk g4,Result.andThen]
 ·simp at hm
theorem asX{kd:TypeDesc}{key:Value}(hk:Go.VM.keyOf kd key=true):∀(l:List MapEntry) (es:List (Value×V)) (i:Nat),l.length=es.length →
  (∀(j:Nat) e p,l[j]? = some e→es[j]? = some p→e.key=p.1∧Go.VM.keyOf kd p.1=true) →
  (Instr.findNow kd key l i=some none∧ayV key es=es) ∨
  ∃j e,l[j]? = some e∧Instr.findNow kd key l i=some (some (i+j,e.val))∧ayV key es=es.eraseIdx j
 | [],[],i,_,_=>.inl ⟨rfl,rfl⟩
 | [],_::_,i,hl,_=>by simp at hl
 | _::_,[],i,hl,_=>by simp at hl
 | e::l,p::es,i,hl,he=>by
  obtain⟨h1,h2⟩:=he 0 e p rfl rfl
  obtain⟨h3,h4⟩:=Go.VM.sameNow_keyB hk h2
  simp only[Instr.findNow,ayV,h1,h3]
  cases hb:keyB key p.1 with
  | true=>exact .inr ⟨0,e,rfl,by simp,by simp⟩
  | false =>
   simp only[jw,ck]
   rcases asX hk l es (i+1) (by simpa using hl) (fun j e' p' g1 g2 => he (j+1) e' p' (by simpa using g1) (by simpa using g2))with⟨g1,g2⟩ | ⟨j,e',g1,g2,g3⟩
   ·exact .inl ⟨g1,by rw[g2]⟩
   ·exact .inr ⟨j+1,e',by simpa using g1,by rw[g2];congr 3;omega,by rw[g3];rfl⟩
theorem aIx(R:Rel w0 φ (kx h2 s) w)(hi:Inv g s)(he:EnvR φ a Γ){t k e ty:TypeId}{kd:TypeDesc}(ht:P.underlying t=some (.map k e))(hk:P.underlying k=some kd){x j:Operand}{x' j':Opd}(hx:d7 x=some x')(hj:d7 j=some j')
  {v:V} {r:Nat} (hm:gK (evE Γ) s (.mdel kd x' j')=some (v,s',r)) (hr:∀n,r.testBit n=true→h2 n=g n) :
  ∃w',(Builtin.delete_ #[t] ty #[a.eval x,a.eval j]).run P w = .ok (.tuple #[]) w'∧Rel w0 φ (kx h2 s') w'∧Inv g s'∧v = .junk:=by
 simp only[gK,ak]at hm
 obtain⟨key,hkey,hm⟩:=hm
 obtain⟨hkx,hkey⟩:=V3 hkey
 have hjv:=i2 (hkx▸bY he hj)
 rw[hjv]
 split at hm
 ·rename_i m heq
  simp only[ak]at hm
  obtain⟨p,hg,hm⟩:=hm
  rw[f4]at hm
  obtain⟨hkd,hm⟩:=hm
  simp only[aw]at hm
  obtain⟨s1,hput,hm⟩:=hm
  cases hm
  have hkd:=amQ hkd
  subst hkd
  have hrm:h2 m=g m:=hr m (p4 m)
  obtain⟨hg',o0,ho0,hlive,hnr⟩:=aTj hg
  have dK:=(wJ hi hrm).trans ho0
  obtain⟨b,β,lim,hφ,hv⟩:=amq (heq▸bY he hx)
  rw[hv]
  obtain⟨b',es',clock,g1,hh,hsz,hes⟩:=afq R hi hg' hrm
  rw[hφ]at g1;cases g1
  have fin:∀(es2:Array MapEntry),(Builtin.delete_ #[t] ty #[.map (some b),key]).run P w = .ok (.tuple #[]) {w with heap:=w.heap.setIfInBounds b (.map es2 clock)} →
    es2.size=(ayV key p.2).length→(∀(i:Nat) e q,es2[i]? = some e→(ayV key p.2)[i]? = some q→e.key=q.1∧Go.VM.keyOf p.1 q.1=true∧RepS φ e.val q.2) →
    ∃w',(Builtin.delete_ #[t] ty #[.map (some b),key]).run P w = .ok (.tuple #[]) w'∧Rel w0 φ (kx h2 s') w'∧Inv g s'∧V.junk = .junk:=by
   intro es2 hrun hs2 he2
   refine⟨_,hrun,?_,I7 hput hi,rfl⟩
   rw[N1 hput]
   have hlt:=(jk.1 hh).1
   refine R.put dK hlive ⟨rfl,rfl,rfl,by simp,fun b' hb' hn=>?_⟩ ⟨b,es2,clock,hφ,by simp[Array.getElem?_setIfInBounds,hlt],hs2,he2⟩ (fun q m' size seen hq e _=>?_) (fun _ _ _ h=>by simp at h)
   ·have : ¬b=b':=fun e=>hn (e▸⟨_,_,hφ⟩)
    simp[Array.getElem?_setIfInBounds,this]
   ·obtain⟨kd',es'',hm'⟩:=R.iters q m' size seen hq
    subst e
    rw[dK]at hm'
    exact absurd (Option.some.inj hm') (hnr _ _)
  rcases asX hkey es'.toList p.2 0 (by simpa using hsz) (fun j e p g1 g2=>by
    obtain⟨h1,h2,_⟩:=hes j e p (by simpa using g1) g2
    exact⟨h1,h2⟩)with⟨g2,g3⟩ | ⟨j,e',g1,g2,g3⟩
  ·refine fin es' ?_ (by rw[g3];exact hsz) (by rw[g3];exact hes)
   simp[Builtin.delete_,run_underlying ht,MapKept.run_getObj_map hh,run_checkKey hk (jz hkey),run_findKey hk g2,MapKept.run_setObj_map _ hh,Result.andThen]
  ·have hj:es'[j]? = some e':=by simpa using g1
   have hjl:j<es'.size:=(jk.1 hj).1
   refine fin (es'.eraseIdxIfInBounds j) ?_ ?_ fun i e q q1 q2=>?_
   ·simp[Builtin.delete_,run_underlying ht,MapKept.run_getObj_map hh,run_checkKey hk (jz hkey),run_findKey hk g2,MapKept.run_setObj_map _ hh,Result.andThen]
   ·rw[g3,List.length_eraseIdx,if_pos (by omega)]
    simp[Array.eraseIdxIfInBounds,hjl]
    omega
   ·rw[g3,List.getElem?_eraseIdx]at q2
    simp only[Array.eraseIdxIfInBounds,hjl,dif_pos,Array.getElem?_eraseIdx]at q1
    split at q1
    ·rw[if_pos ‹_›]at q2;exact hes i e q q1 q2
    ·rw[if_neg ‹_›]at q2;exact hes (i+1) e q q1 q2
 ·simp at hm
theorem Pq(R:Rel w0 φ (kx h2 s) w)(hi:Inv g s)(he:EnvR φ a Γ){t k e:TypeId}{kd:TypeDesc}(ht:P.underlying t=some (.map k e))(hk:P.underlying k=some kd){x j u:Operand}{x' j' u':Opd}(hx:d7 x=some x')(hj:d7 j=some j')(hu:d7 u=some u')
  {v:V} {r:Nat} (hm:gK (evE Γ) s (.mupd kd x' j' u')=some (v,s',r)) (hr:∀n,r.testBit n=true→h2 n=g n) :
  ∃w',(Instr.mapUpdate t (a.eval x) (a.eval j) (a.eval u)).run P w = .ok () w'∧Rel w0 φ (kx h2 s') w'∧Inv g s'∧v = .junk:=by
 simp only[gK,ak]at hm
 obtain⟨key,hkey,hm⟩:=hm
 obtain⟨hkx,hkey⟩:=V3 hkey
 have hjv:=i2 (hkx▸bY he hj)
 rw[hjv]
 split at hm
 ·rename_i m heq
  simp only[ak]at hm
  obtain⟨p,hg,hm⟩:=hm
  rw[f4]at hm
  obtain⟨hcnd,hm⟩:=hm
  simp only[bw,Bool.not_eq_true']at hcnd
  obtain⟨hkd,hrng,hpl⟩:=hcnd
  simp only[aw]at hm
  obtain⟨s1,hput,hm⟩:=hm
  cases hm
  have hkd:=amQ hkd
  subst hkd
  have hrm:h2 m=g m:=hr m (p4 m)
  have dK:=(wJ hi hrm).trans (aLq hg)
  rw[hrng]at dK
  obtain⟨b,β,lim,hφ,hv⟩:=amq (heq▸bY he hx)
  have hxs:=PW hpl (bY he hu)
  rw[hv]
  obtain⟨b',es',clock,g1,hh,hcl,hsz,hes⟩:=R.rep m _ dK
  rw[hφ]at g1;cases g1
  have fin:∀(es2:Array MapEntry) (c2:Nat),(Instr.mapUpdate t (.map (some b)) key (a.eval u)).run P w = .ok () {w with heap:=w.heap.setIfInBounds b (.map es2 c2)} →
    c2=(CY key (evE Γ u') p.2.2).length→es2.size=(CY key (evE Γ u') p.2.2).length→(∀(i:Nat) e q,es2[i]? = some e→(CY key (evE Γ u') p.2.2)[i]? = some q→e.key=q.1∧Go.VM.keyOf p.1 q.1=true∧e.born=i∧RepS φ e.val q.2) →
    ∃w',(Instr.mapUpdate t (.map (some b)) key (a.eval u)).run P w = .ok () w'∧Rel w0 φ (kx h2 s') w'∧Inv g s'∧V.junk = .junk:=by
   intro es2 c2 hrun hc2 hs2 he2
   refine⟨_,hrun,?_,I7 hput hi,rfl⟩
   rw[N1 hput]
   have hlt:=(jk.1 hh).1
   refine R.put dK rfl ⟨rfl,rfl,rfl,by simp,fun b' hb' hn=>?_⟩ ⟨b,es2,c2,hφ,by simp[Array.getElem?_setIfInBounds,hlt],hc2,hs2,he2⟩ (fun q m' size seen hq e _=>?_) (fun _ _ _ h=>by simp at h)
   ·have : ¬b=b':=fun e=>hn (e▸⟨_,_,hφ⟩)
    simp[Array.getElem?_setIfInBounds,this]
   ·obtain⟨kd',es'',hm'⟩:=R.iters q m' size seen hq
    subst e
    rw[dK]at hm';simp at hm'
  rcases E7 hkey es'.toList p.2.2 0 (by simpa using hsz) (fun j e p g1 g2=>by
    obtain⟨h1,h2,_,_⟩:=hes j e p (by simpa using g1) g2
    exact⟨h1,h2⟩)with⟨g1,g2,g3⟩ | ⟨j,e',p',g1,g2,g3,g4,g5,g6⟩
  ·refine fin (es'.push ⟨key,a.eval u,clock⟩) (clock+1) ?_ (by rw[g3];simp[hcl]) (by rw[g3];simp[hsz]) fun i e q q1 q2=>?_
   ·simp[Instr.mapUpdate,run_underlying ht,MapKept.run_getObj_map hh,run_checkKey hk (jz hkey),run_findKey hk g2,MapKept.run_setObj_map _ hh,Result.andThen]
   ·rw[g3]at q2
    rw[Array.getElem?_push]at q1
    split at q1
    ·rename_i hi
     cases q1
     rw[List.getElem?_append_right (by omega)]at q2
     have:i-p.2.2.length=0:=by omega
     rw[this]at q2
     simp at q2
     subst q2
     exact⟨rfl,hkey,by rw[hcl];simp;omega,hxs⟩
    ·have hlt:i<es'.size:=(jk.1 q1).1
     rw[List.getElem?_append_left (by omega)]at q2
     exact hes i e q q1 q2
  ·have hj:es'[j]? = some e':=by simpa using g1
   refine fin (es'.modify j fun e'=>{e' with key:=key,val:=a.eval u}) clock ?_ (by rw[g6];simp[hcl]) (by rw[g6];simp[hsz]) fun i e q q1 q2=>?_
   ·simp[Instr.mapUpdate,run_underlying ht,MapKept.run_getObj_map hh,run_checkKey hk (jz hkey),run_findKey hk g4,hj,g5,run_keyThatStays (jz hkey),MapKept.run_setObj_map _ hh,Result.andThen]
   ·rw[g6]at q2
    rw[Array.getElem?_modify]at q1
    rw[List.getElem?_set]at q2
    by_cases eij:j=i
    ·subst eij
     simp only[ik,hj,ek,bk]at q1
     have hlt:j<p.2.2.length:=(cw.1 g2).1
     simp only[ik,hlt,bk]at q2
     subst q1;subst q2
     obtain⟨_,_,hb3,_⟩:=hes j e' _ hj g2
     exact⟨rfl,hkey,hb3,hxs⟩
    ·simp only[eij,ck]at q1 q2
     exact hes i e q q1 q2
 ·simp at hm
end
end Go.RM
namespace Go.RM
open Go.VM (Pt Fr iq j6)
open Go.ChangeMaps (setBlock)
section
variable {P:Program} {w0:World} {φ:Ren} {g h2:Hp} {s s':S} {Γ:Nat→V} {a:Act} {w:World}
set_option maxHeartbeats 2000000 in
theorem aGJ(R:Rel w0 φ (kx h2 s) w)(hi:Inv g s)(he:EnvR φ a Γ){o:Oper}{ro:RO}(hc:cRO P o=some ro){v:V}{r:Nat}(hm:gK (evE Γ) s ro=some (v,s',r))(hr:∀n,r.testBit n=true→h2 n=g n) :
  MemR P w0 φ h2 g w (execOp a.eval o) v s':=by
 cases hop:o.op
 case load t x =>
  simp only[cRO,hop,TZ,ak,aw]at hc
  obtain⟨⟨d,i⟩,⟨d',hd,i',hti,hee⟩,x',hx',hc⟩:=hc
  cases hee
  simp only at hc
  have key:∀n,n=(if iq d then i.size else 1)→gK (evE Γ) s (.load n (iq d) x')=some (v,s',r)→MemR P w0 φ h2 g w (execOp a.eval o) v s':=by
   intro n hn hm
   simp only[gK]at hm
   split at hm
   ·rename_i m off heq
    simp only[ak,aw]at hm
    obtain⟨p,hg,cs,hcut,hm⟩:=hm
    cases hm
    simp only[execOp,hop]
    exact aHK R hi he hd hti hx' hn heq hg hcut (hr m (p4 m))
   ·rename_i cs heq
    rw[f4]at hm
    obtain⟨hle,hm⟩:=hm
    cases hm
    simp only[execOp,hop]
    exact aCK R hi he hd hti hx' hn heq (Nq hle)
   ·simp at hm
  cases hg:iq d with
  | true=>simp only[hg,ik,bk]at hc;subst hc;exact key i.size (by simp[hg]) (by rw[hg];exact hm)
  | false=>simp only[hg,jw,ck,bk]at hc;subst hc;exact key 1 (by simp[hg]) (by rw[hg];exact hm)
 case alloc e =>
  simp only[cRO,hop,aw]at hc
  obtain⟨z,hz,rfl⟩:=hc
  simp only[gK,aw]at hm
  obtain⟨s1,hnew,hm⟩:=hm
  cases hm
  obtain⟨i,zv,hti,hzv,hp⟩:=R6 (φ:=φ) hz
  obtain⟨hle,R',hi'⟩:=N8 R hi (arr:=zv.cells) hnew (hr _ (p4 _)) hp
  simp only[execOp,hop]
  refine MemR.of (v:=.pointer (some ⟨w.heap.size,0,none⟩)) ?_ hle R' hi' (aCx 0)
  simp[Instr.alloc,zeroValue,typeInfo,hti,hzv,newVar,newRow]
 case box e x =>
  simp only[cRO,hop,aw]at hc
  obtain⟨x',hx',rfl⟩:=hc
  simp only[gK,ak,aw]at hm
  obtain⟨cs,hcs,s1,hnew,hm⟩:=hm
  cases hm
  obtain⟨hle,R',hi'⟩:=N8 R hi (arr:=(a.eval x).cells) hnew (hr _ (p4 _)) (EZ (bY he hx') hcs)
  simp only[execOp,hop]
  refine MemR.of (v:=.pointer (some ⟨w.heap.size,0,none⟩)) ?_ hle R' hi' (aCx 0)
  simp[Instr.box,newVar,newRow]
 case makeSlice t l c =>
  simp only[cRO,hop,ak]at hc
  obtain⟨d',hd',hc⟩:=hc
  cases d'<;>simp only[reduceCtorEq]at hc
  rename_i e
  simp only[ak]at hc
  obtain⟨ie,hie,z,hz,hc⟩:=hc
  split at hc
  ·rename_i hcond
   simp only[ak,aw]at hc
   obtain⟨l',hl',c',hc',rfl⟩:=hc
   simp only[gK,ak]at hm
   obtain⟨m,hm1,m',hm2,mc,hm3,mc',hm4,hm⟩:=hm
   rw[f4]at hm
   obtain⟨hcnd,hm⟩:=hm
   simp only[bw]at hcnd
   have hmc:=Nq hcnd.1
   obtain⟨r1,r2⟩:=SJ hcnd.2
   simp only[aw]at hm
   obtain⟨s1,hnew,hm⟩:=hm
   cases hm
   have e1:=Pj (bY he hl') hm1
   have e2:=Pj (bY he hc') hm3
   have:=HZ hm2;subst this
   have:=HZ hm4;subst this
   obtain⟨i,zv,hti,hzv,hp⟩:=R6 (φ:=φ) hz
   rw[hie]at hti;cases hti
   have hzl:zv.cells.size=ie.size:=by have:=hp.1;simp at this;omega
   have hrun:=run_make (P:=P) w t e ie zv hd' hie hzv .i64 .i64 m' mc' (by omega) (by omega) (by rw[Int.mul_comm];omega) (by omega)
   have hmade:=G9 hp mc'
   have hl1:(List.replicate m' z).flatten.length=m'*ie.size:=by
    rw[List.length_flatten,List.map_replicate,List.sum_replicate_nat,hcond.2]
   have hmul:m'*ie.size≤mc'*ie.size:=Nat.mul_le_mul_right _ hmc
   obtain⟨hle,R',hi'⟩:=V9 R hi (arr:=madeCells zv.cells (mc'*ie.size)) (w':=w.alloc (.cells (madeCells zv.cells (mc'*ie.size)) e)) hnew (hr _ (p4 _)) (kw _) (heap_alloc_new w _) (Fr.alloc w _ _) (by rw[hl1,size_madeCells];exact hmul) (fun j x hx=>by
    have hx2:(List.replicate mc' z).flatten[j]? = some x:=by
     have e:List.replicate mc' z=List.replicate m' z++List.replicate (mc' - m') z:=by rw[List.replicate_append_replicate];congr 1;omega
     rw[e,List.flatten_append,List.getElem?_append_left (by rw[hl1];have:=(cw.1 hx).1;rw[hl1]at this;exact this)]
     exact hx
    rw[hzl]at hmade
    obtain⟨v,h1,h2⟩:=Vj hmade j x hx2
    exact⟨v,by simpa using h1,h2⟩)
   simp only[execOp,hop,e1,e2]
   refine MemR.of hrun hle R' hi' ?_
   rw[Int.toNat_natCast,Int.toNat_natCast]
   exact RepX.sl (φ:=φ.put s.c (w.heap.size,0,(madeCells zv.cells (mc'*ie.size)).size)) s.c ie.size 0 m' w.heap.size 0 _ 0 mc' (Ren.put_self _ _ _) hmc (fun _=>rfl) (by rw[size_madeCells];omega)
  ·simp at hc
 case buildSlice t len parts =>
  simp only[cRO,hop,ak]at hc
  obtain⟨d',hd',hc⟩:=hc
  cases d'<;>simp only[reduceCtorEq]at hc
  rename_i e
  simp only[ak]at hc
  obtain⟨ie,hie,z,hz,ps,hps,hc⟩:=hc
  split at hc
  ·rename_i hcond
   cases hc
   simp only[gK,ak,aw]at hm
   obtain⟨cs,hfill,s1,hnew,hm⟩:=hm
   cases hm
   obtain⟨i,zv,hti,hzv,hp⟩:=R6 (φ:=φ) hz
   rw[hie]at hti;cases hti
   have hzl:zv.cells.size=ie.size:=by have:=hp.1;simp at this;omega
   have hmade:=G9 hp len
   rw[hzl]at hmade
   obtain⟨cells,h1,h2'⟩:=C0 (e:=evE Γ) (ρ:=a.eval) (fun j=>some (j*ie.size,ie.size)) (fun x y hxy=>bY he hxy) parts.toList ps (madeCells zv.cells (len*ie.size)) _ cs hps hmade hfill
   have hcl:cells.size=len*ie.size:=by
    have hfl:∀(ps:List (Nat×Nat×Opd)) (cur zs:List X),fill (evE Γ) cur ps=some zs→zs.length=cur.length:=by
     intro ps
     induction ps with
     | nil=>intro cur zs h;simp[fill]at h;rw[h]
     | cons p ps ih =>
      intro cur zs h
      simp only[fill,ak]at h
      obtain⟨cs,hcs,h⟩:=h
      rw[f4]at h
      obtain⟨h1,h⟩:=h
      simp only[bw]at h1
      have a1:=zK h1.1;have a2:=Nq h1.2
      rw[ih _ _ h,Gq (by omega)]
    have:=hfl _ _ _ hfill
    have h3:=h2'.1
    simp only[Array.length_toList]at h3
    rw[h3,this,List.length_flatten,List.map_replicate,List.sum_replicate_nat,hcond.2.2]
   have hmap:(parts.map fun(i,x)=>(i,a.eval x)).toList=parts.toList.map fun p=>(p.1,a.eval p.2):=by simp
   obtain⟨hle,R',hi'⟩:=N8 R hi (arr:=cells) hnew (hr _ (p4 _)) h2'
   have hs1 : ¬len*ie.size > 2 ^ 24:=by have:=hcond.2.1;omega
   simp only[execOp,hop]
   refine MemR.of (v:=.slice (some ⟨w.heap.size,0,none⟩) len len) ?_ hle R' hi' ?_
   ·by_cases hpos:len*ie.size=0
    ·have h1':Instr.fill (fun i=>some (i*ie.size,ie.size)) #[] (parts.toList.map fun p=>(p.1,a.eval p.2))=some cells:=by
      rw[←h1];congr 1;simp[madeCells,hpos]
     simp[Instr.buildSlice,run_underlying hd',sizeOf,typeInfo,hie,hpos,Array.range_zero',h1',newRow]
    ·have hh:Instr.fill (fun j=>some (j*ie.size,ie.size)) (madeCells zv.cells (len*ie.size)) (parts.map fun(i,x)=>(i,a.eval x)).toList=some cells:=by rw[hmap];exact h1
     exact run_buildSlice (P:=P) w t e len _ cells ie zv hd' hie hzv hs1 hpos hh
   ·exact RepX.sl (φ:=φ.put s.c (w.heap.size,0,cells.size)) s.c ie.size 0 len w.heap.size 0 _ 0 len (Ren.put_self _ _ _) (kw _) (fun _=>rfl) (by rw[hcl];omega)
  ·simp at hc
 case store t x v' =>
  simp only[cRO,hop,ak,aw]at hc
  obtain⟨i,hti,x',hx',u',hv',rfl⟩:=hc
  simp only[gK]at hm
  split at hm
  ·rename_i m off heq
   simp only[ak]at hm
   obtain⟨cs,hcs,p,hg,hm⟩:=hm
   rw[f4]at hm
   obtain⟨hcnd,hm⟩:=hm
   simp only[bw]at hcnd
   simp only[aw]at hm
   obtain⟨s1,hput,hm⟩:=hm
   cases hm
   obtain⟨w',hrun,R',hi'⟩:=Sj R hi he hti hx' hv' heq hcs hg (zK hcnd.1) (Nq hcnd.2) hput (hr m (p4 m))
   refine⟨.skip,undef,w',φ,?_,.inr ⟨rfl,rfl⟩,Ren.le_refl φ,R',hi',trivial⟩
   simp only[execOp,hop]
   simp[hrun]
  ·simp at hm
 case makeMap t rs =>
  cases rs with
  | some _=>simp[cRO,hop]at hc
  | none =>
   simp only[cRO,hop,ak]at hc
   obtain⟨d',hd',hc⟩:=hc
   cases d'<;>simp only[reduceCtorEq]at hc
   simp only[ak]at hc
   obtain⟨kd,hkd,hc⟩:=hc
   split at hc
   ·cases hc
    simp only[gK,aw]at hm
    obtain⟨s1,hnew,hm⟩:=hm
    cases hm
    have hcn:kx h2 s s.c=none:=(wJ hi (hr _ (p4 _))).trans (N6 hnew).2
    have R':=R.new (c:=s.c) hcn (o:=.map kd false []) (b:=w.heap.size) (β:=0) (lim:=0) (w':=w.alloc (.map #[] 0)) (kw _) (by simp) (Fr.alloc w _ _) (fun _ _ _ h=>by simp at h) (fun φ' e hle=>⟨w.heap.size,#[],0,by rw[e,Ren.put_self],heap_alloc_new w _,rfl,rfl,fun i e p he=>by simp at he⟩)
    rw[←abj hnew]at R'
    simp only[execOp,hop]
    refine MemR.of (v:=.map (some w.heap.size)) ?_ (Ren.le_put _ (R.dom _ hcn)) R' (Bq hnew hi) (RepX.mp _ _ _ _ (Ren.put_self _ _ _))
    simp[Instr.makeMap]
   ·simp at hc
 case lookup t x i ok =>
  simp only[cRO,hop,ak]at hc
  obtain⟨d',hd',hc⟩:=hc
  cases d'<;>simp only[reduceCtorEq]at hc
  simp only[ak]at hc
  obtain⟨kd,hkd,zv,⟨inf,hinf,hzv⟩,z,hz,x',hx',i',hi',hc⟩:=hc
  simp only[execOp,hop]
  cases hc
  exact aCW R hi he (o:=o) hd' hkd hinf hzv hz hx' hi' hm hr
 case mapUpdate t x i u =>
  simp only[cRO,hop,ak]at hc
  obtain⟨d',hd',hc⟩:=hc
  cases d'<;>simp only[reduceCtorEq]at hc
  simp only[ak]at hc
  obtain⟨kd,hkd,x',hx',i',hi',u',hu',hc⟩:=hc
  cases hc
  obtain⟨w',hrun,R',hi',rfl⟩:=Pq R hi he hd' hkd hx' hi' hu' hm hr
  refine⟨.skip,undef,w',φ,?_,.inr ⟨rfl,rfl⟩,Ren.le_refl φ,R',hi',trivial⟩
  simp only[execOp,hop,Sem.run_bind,hrun,Result.andThen]
  rfl
 case insert t x i u=>simp[cRO,hop]at hc
 case range t x=>simp[cRO,hop]at hc
 case entry it=>simp[cRO,hop]at hc
 case call c =>
  simp only[cRO,hop]at hc
  split at hc
  ·simp only[ak]at hc
   obtain⟨fn,_,hc⟩:=hc
   split at hc
   ·simp only[aw]at hc;obtain⟨_,_,rfl⟩:=hc;simp[gK]at hm
   ·simp at hc
  ·simp only[ak,aw]at hc
   obtain⟨_,_,_,_,rfl⟩:=hc
   simp[gK]at hm
  ·rename_i hcal
   split at hc
   ·rename_i t ht
    simp only[ak]at hc
    obtain⟨d',hd',hc⟩:=hc
    cases d'<;>simp only[reduceCtorEq]at hc
    all_goals
     split at hc
     ·simp only[aw]at hc;obtain⟨_,_,rfl⟩:=hc;simp[gK]at hm
     ·simp at hc
   ·simp at hc
  ·rename_i hcal
   split at hc
   ·rename_i t ht
    simp only[ak]at hc
    obtain⟨d',hd',hc⟩:=hc
    cases d'<;>simp only[reduceCtorEq]at hc
    simp only[ak]at hc
    obtain⟨kd,hkd,hc⟩:=hc
    split at hc
    ·rename_i x i hargs
     simp only[ak,aw]at hc
     obtain⟨x',hx',i',hi',rfl⟩:=hc
     obtain⟨w',hrun,R',hi',rfl⟩:=aIx (ty:=o.type) R hi he hd' hkd hx' hi' hm hr
     have hargs':c.args = #[x,i]:=by rw[←Array.toArray_toList (xs:=c.args),hargs]
     have e0:(Builtin.delete_ c.argTypes o.type #[a.eval x,a.eval i])=Builtin.delete_ #[t] o.type #[a.eval x,a.eval i]:=by simp[Builtin.delete_,ht]
     refine⟨.value (.tuple #[]),.tuple #[],w',φ,?_,.inl rfl,Ren.le_refl φ,R',hi',trivial⟩
     simp[execOp,hop,resolve,hcal,hargs',invoke,builtin,e0,hrun]
    ·simp at hc
   ·simp at hc
  ·simp only[aw]at hc;obtain⟨_,_,rfl⟩:=hc;simp[gK]at hm
  ·simp only[aw]at hc;obtain⟨_,_,rfl⟩:=hc;simp[gK]at hm
  ·rename_i hcal
   split at hc
   ·rename_i t u s0 x0 hty hargs
    simp only[ak]at hc
    obtain⟨d',ht,hc⟩:=hc
    cases d'<;>simp only[reduceCtorEq]at hc
    simp only[ak]at hc
    obtain⟨ie,hie,hc⟩:=hc
    split at hc
    ·rename_i hcond
     obtain⟨rfl,hsz,hz⟩:=hcond
     simp only[ak,aw]at hc
     obtain⟨sl,hs',x',hx',rfl⟩:=hc
     exact Z2 R hi he hop hcal hty hargs ht hie hsz hz hs' hx' hm hr
    ·simp at hc
   ·simp at hc
  ·simp at hc
 all_goals
  exfalso
  first
   | (simp only[cRO,hop,reduceCtorEq]at hc;done)
   | skip
 case move x=>simp only[cRO,hop,aw]at hc;obtain⟨_,_,rfl⟩:=hc;simp[gK]at hm
 case assign x=>simp only[cRO,hop,aw]at hc;obtain⟨_,_,rfl⟩:=hc;simp[gK]at hm
 case nilCheck x=>simp only[cRO,hop,aw]at hc;obtain⟨_,_,rfl⟩:=hc;simp[gK]at hm
 case unOp op t x=>simp only[cRO,hop,aw]at hc;obtain⟨_,_,rfl⟩:=hc;simp[gK]at hm
 case extract x i=>simp only[cRO,hop,aw]at hc;obtain⟨_,_,rfl⟩:=hc;simp[gK]at hm
 case pick c x y =>
  simp only[cRO,hop,ak,aw]at hc
  obtain⟨_,_,_,_,_,_,rfl⟩:=hc
  simp[gK]at hm
 case build t parts =>
  simp only[cRO,hop,ak]at hc
  obtain⟨_,_,d',_,hc⟩:=hc
  cases d'<;>simp only[reduceCtorEq]at hc
  all_goals
   simp only[ak,aw]at hc
   obtain⟨_,_,_,_,rfl⟩:=hc
   simp[gK]at hm
 case fieldAddr st x f =>
  simp only[cRO,hop,ak]at hc
  obtain⟨d',_,hc⟩:=hc
  cases d'<;>simp only[reduceCtorEq]at hc
  simp only[ak]at hc
  obtain⟨_,_,_,_,hc⟩:=hc
  split at hc
  ·simp at hc
  ·simp only[aw]at hc;obtain⟨_,_,rfl⟩:=hc;simp[gK]at hm
 case indexAddr t x i =>
  simp only[cRO,hop,ak]at hc
  obtain⟨d',_,hc⟩:=hc
  cases d'<;>simp only[reduceCtorEq]at hc
  all_goals
   simp only[ak,aw]at hc
   obtain⟨_,_,_,_,_,_,rfl⟩:=hc
   simp[gK]at hm
 case binOp op t x y yt =>
  simp only[cRO,hop,ak]at hc
  obtain⟨d',_,_,_,_,_,hc⟩:=hc
  split at hc<;>first | (cases hc;simp[gK]at hm;done) | (simp only[aw]at hc;obtain⟨_,_,rfl⟩:=hc;simp[gK]at hm;done) | simp at hc
 case makeFunc fn first caps =>
  cases fn with
  | func f =>
   simp only[cRO,hop]at hc
   split at hc
   ·simp only[aw]at hc;obtain⟨_,_,rfl⟩:=hc;simp[gK]at hm
   ·simp at hc
  | _=>simp[cRO,hop]at hc
 case slice t x lo hi mx =>
  simp only[cRO,hop,ak]at hc
  obtain⟨d',_,hc⟩:=hc
  cases d'<;>simp only[reduceCtorEq]at hc
  simp only[ak]at hc
  obtain⟨_,_,_,_,_,_,_,_,hc⟩:=hc
  split at hc<;>first | (cases hc;simp[gK]at hm;done) | simp at hc
end
end Go.RM
namespace Go.RM
open Go.VM (Pt Fr)
theorem aiZ{α β:Type}{f:α→Out β}:∀ {l:List α} {r0:Nat} {ys:List β} {r:Nat},DV f l r0=some (ys,r) →
  (∀n,r0.testBit n=true→r.testBit n=true)∧∀x∈l,∃zs q,f x=some (zs,q)∧(∀z∈zs,z∈ys)∧∀n,q.testBit n=true→r.testBit n=true
 | [],r0,ys,r,h=>by simp only[DV]at h;cases h;exact⟨fun _ h=>h,fun x hx=>by simp at hx⟩
 | x::l,r0,ys,r,h=>by
  simp only[DV]at h
  split at h
  ·simp at h
  ·rename_i zs q hf
   split at h
   ·simp at h
   ·rename_i us q2 he
    cases h
    obtain⟨h1,h2⟩:=aiZ he
    refine⟨fun n hn=>h1 n (Q0 hn),fun y hy=>?_⟩
    rcases mw.1 hy with rfl | hy
    ·exact⟨zs,q,hf,fun z hz=>nw.2 (.inl hz),fun n hn=>h1 n (W6 hn)⟩
    ·obtain⟨vs,q3,g1,g2,g3⟩:=h2 y hy
     exact⟨vs,q3,g1,fun z hz=>nw.2 (.inr (g2 z hz)),g3⟩
theorem C4{α β:Type}{x:Out α}{f:α→Out β}{ys:List β}{r:Nat}(h:xj x f=some (ys,r)) :
  ∃l r0,x=some (l,r0)∧(∀n,r0.testBit n=true→r.testBit n=true)∧∀a∈l,∃zs q,f a=some (zs,q)∧(∀z∈zs,z∈ys)∧∀n,q.testBit n=true→r.testBit n=true:=by
 unfold xj at h
 split at h
 ·simp at h
 ·rename_i l r0
  obtain⟨h1,h2⟩:=aiZ h
  exact⟨l,r0,rfl,h1,h2⟩
theorem agK{α β:Type}{f:α→Out β}{C:β→Prop}:∀ {l:List α} {r0:Nat} {ys:List β} {r:Nat},DV f l r0=some (ys,r)→(∀x∈l,∀zs q,f x=some (zs,q)→∀z∈zs,C z)→∀y∈ys,C y
 | [],r0,ys,r,h,_=>by simp only[DV]at h;cases h;simp
 | x::l,r0,ys,r,h,hC=>by
  simp only[DV]at h
  split at h
  ·simp at h
  ·rename_i zs q hf
   split at h
   ·simp at h
   ·rename_i us q2 he
    cases h
    intro y hy
    rcases nw.1 hy with hy | hy
    ·exact hC x List.mem_cons_self zs q hf y hy
    ·exact agK he (fun x' hx'=>hC x' (List.mem_cons_of_mem _ hx')) y hy
theorem Bz{α β:Type}{x:Out α}{f:α→Out β}{ys:List β}{r:Nat}{C:β→Prop}(h:xj x f=some (ys,r))(hC:∀l r0,x=some (l,r0)→∀a∈l,∀zs q,f a=some (zs,q)→∀z∈zs,C z):∀y∈ys,C y:=by
 unfold xj at h
 split at h
 ·simp at h
 ·rename_i l r0
  exact agK h (hC l r0 rfl)
section
variable {e e':Opd→V} {s:S}
theorem RK:∀(ps:List (Nat×Nat×Opd)) (cur:List X),(∀x∈ps.map (fun p=>p.2.2),e x=e' x)→fill e cur ps=fill e' cur ps
 | [],cur,_=>rfl
 | p::ps,cur,h=>by
  simp only[fill]
  rw[h p.2.2 (by simp)]
  cases i3 (e' p.2.2)with
  | none=>rfl
  | some cs=>simp only[Option.bind_some];rw[RK ps _ (fun x hx=>h x (by simp at hx ⊢;exact .inr hx))]
theorem L8{xs:List Opd}(h:∀x∈xs,e x=e' x):xs.map e=xs.map e':=List.map_congr_left h
theorem agW{o:Option Opd}{d:Nat}(h:∀x∈o.toList,e x=e' x):bnd e d o=bnd e' d o:=by
 cases o with
 | none=>rfl
 | some x=>simp only[bnd];rw[h x (by simp)]
theorem auX{ro:RO}(h:∀x∈ro.opds,e x=e' x):d6 e ro=d6 e' ro:=by
 cases ro<;>simp only[RO.opds,mw,List.not_mem_nil,or_false,forall_eq_or_imp,forall_eq,nw]at h<;>
  first
   | rfl
   | (simp only[d6,h];done)
   | skip
 case build z ps=>simp only[d6];rw[RK ps z h]
 case un op x=>cases op<;>simp only[d6,h]
 case mm mx args=>simp only[d6];rw[L8 h]
 case mkfn f caps=>simp only[d6];rw[L8 h]
 case sub k x lo hi =>
  obtain⟨h1,h2⟩:=h
  have a1:∀d,bnd e d lo=bnd e' d lo:=fun d=>agW fun x hx=>h2 x (.inl hx)
  have a2:∀d,bnd e d hi=bnd e' d hi:=fun d=>agW fun x hx=>h2 x (.inr hx)
  simp only[d6,h1,a1,a2]
theorem aGK{ro:RO}(h:∀x∈ro.opds,e x=e' x):gK e s ro=gK e' s ro:=by
 cases ro<;>simp only[RO.opds,mw,List.not_mem_nil,or_false,forall_eq_or_imp,forall_eq,nw]at h<;>
  first
   | rfl
   | (simp only[gK,h];done)
   | skip
 case bsl e0 k len z ps=>simp only[gK];rw[RK ps _ h]
theorem aCY{call:mz}{ro:RO}(h:∀x∈ro.opds,e x=e' x):opX call e s ro=opX call e' s ro:=by
 have hp:=auX h
 have hm:=aGK (s:=s) h
 cases ro<;>simp only[RO.opds,mw,List.not_mem_nil,or_false,forall_eq_or_imp,forall_eq,nw]at h<;>
  first
   | (simp only[opX,hp,hm];done)
   | skip
 case call f args=>simp only[opX];rw[L8 h]
 case callv x args=>simp only[opX,h.1];rw[L8 h.2]
end
section
variable {e:Opd→V} {s s':S} {g:Hp}
theorem aUq{ro:RO}{v:V}{r:Nat}(h:gK e s ro=some (v,s',r))(hi:Inv g s):Inv g s':=by
 cases ro<;>simp only[gK,reduceCtorEq]at h
 case load n agg x =>
  split at h
  ·simp only[ak,aw]at h
   obtain⟨_,_,_,_,h⟩:=h;cases h;exact hi
  ·rw[f4]at h;obtain⟨_,h⟩:=h;cases h;exact hi
  ·simp at h
 case look kd z ok x i =>
  simp only[ak]at h
  obtain⟨_,_,h⟩:=h
  split at h
  ·cases h;exact hi
  ·simp only[ak]at h
   obtain⟨_,_,h⟩:=h
   rw[f4]at h;obtain⟨_,h⟩:=h;cases h;exact hi
  ·simp at h
 case alloc t z =>
  simp only[aw]at h;obtain⟨_,hn,h⟩:=h;cases h;exact Bq hn hi
 case box t x =>
  simp only[ak,aw]at h;obtain⟨_,_,_,hn,h⟩:=h;cases h;exact Bq hn hi
 case mksl =>
  simp only[ak]at h
  obtain⟨_,_,_,_,_,_,_,_,h⟩:=h
  rw[f4]at h;obtain⟨_,h⟩:=h
  simp only[aw]at h;obtain⟨_,hn,h⟩:=h;cases h;exact Bq hn hi
 case bsl =>
  simp only[ak,aw]at h;obtain⟨_,_,_,hn,h⟩:=h;cases h;exact Bq hn hi
 case store n x v =>
  split at h
  ·simp only[ak]at h
   obtain⟨_,_,_,_,h⟩:=h
   rw[f4]at h;obtain⟨_,h⟩:=h
   simp only[aw]at h;obtain⟨_,hn,h⟩:=h;cases h;exact I7 hn hi
  ·simp at h
 case app t k bytes sl x =>
  simp only[ak]at h
  obtain⟨src,_,h⟩:=h
  split at h
  ·cases hb:Nat.beq src.2.1 0
   ·simp only[hb,cond_false]at h
    rw[f4]at h;obtain⟨_,h⟩:=h
    simp only[aw]at h;obtain⟨_,hn,h⟩:=h;cases h;exact Bq hn hi
   ·simp only[hb,cond_true]at h;cases h;exact hi
  ·cases hb:Nat.beq src.2.1 0
   ·simp only[hb,cond_false]at h
    rw[f4]at h;obtain⟨_,h⟩:=h
    simp only[aw]at h;obtain⟨_,hn,h⟩:=h;cases h;exact Bq hn hi
   ·simp only[hb,cond_true]at h;cases h;exact hi
  ·cases hb:Nat.beq src.2.1 0
   ·simp only[hb,cond_false]at h
    rw[f4]at h;obtain⟨_,h⟩:=h
    simp only[aw]at h;obtain⟨_,hn,h⟩:=h;cases h;exact Bq hn hi
   ·simp only[hb,cond_true]at h;cases h;exact hi
  ·simp only[ak]at h
   obtain⟨_,_,h⟩:=h
   rw[f4]at h;obtain⟨_,h⟩:=h
   simp only[ak]at h
   obtain⟨_,_,h⟩:=h
   cases hb:Nat.beq src.2.1 0
   ·simp only[hb,cond_false,ak,aw]at h
    obtain⟨_,hp,_,hn,h⟩:=h;cases h;exact Bq hn (I7 hp hi)
   ·simp only[hb,cond_true]at h;cases h;exact hi
  ·simp at h
 case mkmap kd =>
  simp only[aw]at h;obtain⟨_,hn,h⟩:=h;cases h;exact Bq hn hi
 case mupd kd x i v =>
  simp only[ak]at h
  obtain⟨_,_,h⟩:=h
  split at h
  ·simp only[ak]at h
   obtain⟨_,_,h⟩:=h
   rw[f4]at h;obtain⟨_,h⟩:=h
   simp only[aw]at h;obtain⟨_,hn,h⟩:=h;cases h;exact I7 hn hi
  ·simp at h
 case mdel kd x i =>
  simp only[ak]at h
  obtain⟨_,_,h⟩:=h
  split at h
  ·simp only[ak]at h
   obtain⟨_,_,h⟩:=h
   rw[f4]at h;obtain⟨_,h⟩:=h
   simp only[aw]at h;obtain⟨_,hn,h⟩:=h;cases h;exact I7 hn hi
  ·simp at h
def CQ(call:mz):Prop:=∀f args s outs r,call f args s=some (outs,r)→∀g,Inv g s→∀p∈outs,Inv g p.2
theorem aSj{call:mz}(hcall:CQ call){ro:RO}{outs:List (V×S)}{r:Nat}(h:opX call e s ro=some (outs,r))(hi:Inv g s):∀p∈outs,Inv g p.2:=by
 have rest:(match d6 e ro with
   | some v=>one (v,s)
   | none=>match gK e s ro with
    | some (v,s',r)=>some ([(v,s')],r)
    | none=>none)=some (outs,r)→∀p∈outs,Inv g p.2:=by
  intro h
  split at h
  ·cases h;simpa using hi
  ·split at h
   ·rename_i v s1 r1 hm
    cases h
    simpa using aUq hm hi
   ·simp at h
 cases ro
 case call f args=>exact hcall f _ s outs r h g hi
 case callv x args =>
  simp only[opX]at h
  split at h
  ·exact hcall _ _ s outs r h g hi
  ·simp at h
 all_goals exact rest h
theorem O9{call:mz}(hcall:CQ call){o:ROp}{Γ:Tr V}{outs:List (Tr V×S)}{r:Nat}(h:xX call o Γ s=some (outs,r))(hi:Inv g s):∀p∈outs,Inv g p.2:=by
 unfold xX at h
 split at h
 ·simp at h
 ·cases h;simpa using hi
 ·refine Bz h fun l r0 hx a ha zs q hz=>?_
  cases hz
  simpa using aSj hcall hx hi a ha
end
section
variable {P:Program} {w0:World} {φ:Ren} {g h2:Hp} {s s':S} {Γ:Nat→V} {a:Act} {w:World}
def JV(P:Program)(w0:World)(call:mz):Prop :=
 ∀ f args s outs r, call f args s = some (outs, r) → (∃ fn, P.funcs[f]? = some fn ∧ fn.body.isSome = true ∧ (fn.name == "runtime.NumGoroutine") = false) ∧
  ∀g h2 φ w vs,(∀n,r.testBit n=true→h2 n=g n)→Inv g s→Rel w0 φ (kx h2 s) w→Pt (RepV φ) vs args →
   Calls P f vs.toArray w fun e w'=>∃v,e = .returned v∧∃p∈outs,∃φ',φ.le φ'∧Rel w0 φ' (kx h2 p.2) w'∧RepV φ' v p.1
def RO.plainOp:RO→Bool
 | .call .. | .callv ..=>false
 | _=>true
theorem GK{call:mz}{e:Opd→V}{ro:RO}(h:ro.plainOp=true):opX call e s ro=(match d6 e ro with
   | some v=>one (v,s)
   | none=>match gK e s ro with
    | some (v,s',r)=>some ([(v,s')],r)
    | none=>none):=by
 cases ro<;>first | rfl | simp[RO.plainOp]at h
theorem aPj{o:Oper}{ro:RO}(hc:cRO P o=some ro):ro.plainOp=true ∨
  (∃c f fn ys,o.op = .call c∧c.callee = .value (.func f)∧P.funcs[f]? = some fn∧O3 c.args.toList=some ys∧ro = .call f ys) ∨
  (∃c x x' ys,o.op = .call c∧c.callee = .value x∧d7 x=some x'∧O3 c.args.toList=some ys∧ro = .callv x' ys):=by
 cases hop:o.op
 case call c =>
  simp only[cRO,hop]at hc
  split at hc
  ·rename_i f hcal
   simp only[ak]at hc
   obtain⟨fn,hfn,hc⟩:=hc
   split at hc
   ·simp only[aw]at hc
    obtain⟨ys,hys,rfl⟩:=hc
    exact .inr (.inl ⟨c,f,fn,ys,rfl,hcal,hfn,hys,rfl⟩)
   ·simp at hc
  ·rename_i x0 _ hcal
   simp only[ak,aw]at hc
   obtain⟨x',hx',ys,hys,rfl⟩:=hc
   exact .inr (.inr ⟨c,x0,x',ys,rfl,hcal,hx',hys,rfl⟩)
  ·split at hc
   ·simp only[ak]at hc
    obtain⟨d',hd',hc⟩:=hc
    cases d'<;>simp only[reduceCtorEq]at hc
    all_goals
     split at hc
     ·simp only[aw]at hc;obtain⟨_,_,rfl⟩:=hc;exact .inl rfl
     ·simp at hc
   ·simp at hc
  ·split at hc
   ·simp only[ak]at hc
    obtain⟨d',hd',hc⟩:=hc
    cases d'<;>simp only[reduceCtorEq]at hc
    simp only[ak]at hc
    obtain⟨_,_,hc⟩:=hc
    split at hc
    ·simp only[ak,aw]at hc
     obtain⟨_,_,_,_,rfl⟩:=hc
     exact .inl rfl
    ·simp at hc
   ·simp at hc
  ·simp only[aw]at hc;obtain⟨_,_,rfl⟩:=hc;exact .inl rfl
  ·simp only[aw]at hc;obtain⟨_,_,rfl⟩:=hc;exact .inl rfl
  ·split at hc
   ·simp only[ak]at hc
    obtain⟨d',ht,hc⟩:=hc
    cases d'<;>simp only[reduceCtorEq]at hc
    simp only[ak]at hc
    obtain⟨ie,hie,hc⟩:=hc
    split at hc
    ·simp only[ak,aw]at hc
     obtain⟨_,_,_,_,rfl⟩:=hc;exact .inl rfl
    ·simp at hc
   ·simp at hc
  ·simp at hc
 case next it isS=>simp[cRO,hop]at hc
 all_goals
  left
  first
   | (simp only[cRO,hop,reduceCtorEq]at hc;done)
   | (simp only[cRO,hop,aw]at hc;obtain⟨_,_,rfl⟩:=hc;rfl)
   | skip
 case load t x =>
  simp only[cRO,hop,ak]at hc
  obtain⟨⟨d',i⟩,_,x',_,hc⟩:=hc
  simp only at hc
  split at hc<;>(cases hc;rfl)
 case makeSlice t l c =>
  simp only[cRO,hop,ak]at hc
  obtain⟨d,hd,hc⟩:=hc
  cases d<;>simp only[reduceCtorEq]at hc
  simp only[ak]at hc
  obtain⟨_,_,_,_,hc⟩:=hc
  split at hc
  ·simp only[ak,aw]at hc
   obtain⟨_,_,_,_,rfl⟩:=hc
   rfl
  ·simp at hc
 case buildSlice t n ps =>
  simp only[cRO,hop,ak]at hc
  obtain⟨d,hd,hc⟩:=hc
  cases d<;>simp only[reduceCtorEq]at hc
  simp only[ak]at hc
  obtain⟨_,_,_,_,_,_,hc⟩:=hc
  split at hc
  ·cases hc;rfl
  ·simp at hc
 case store t x v =>
  simp only[cRO,hop,ak,aw]at hc
  obtain⟨_,_,_,_,_,_,rfl⟩:=hc
  rfl
 case makeMap t rs =>
  cases rs with
  | some _=>simp[cRO,hop]at hc
  | none =>
   simp only[cRO,hop,ak]at hc
   obtain⟨d,hd,hc⟩:=hc
   cases d<;>simp only[reduceCtorEq]at hc
   simp only[ak]at hc
   obtain⟨_,_,hc⟩:=hc
   split at hc
   ·cases hc;rfl
   ·simp at hc
 case lookup t x i ok =>
  simp only[cRO,hop,ak]at hc
  obtain⟨d,hd,hc⟩:=hc
  cases d<;>simp only[reduceCtorEq]at hc
  simp only[ak]at hc
  obtain⟨_,_,_,_,_,_,_,_,_,_,hc⟩:=hc
  cases hc;rfl
 case mapUpdate t x i v =>
  simp only[cRO,hop,ak]at hc
  obtain⟨d,hd,hc⟩:=hc
  cases d<;>simp only[reduceCtorEq]at hc
  simp only[ak]at hc
  obtain⟨_,_,_,_,_,_,_,_,hc⟩:=hc
  cases hc;rfl
 case pick c x y =>
  simp only[cRO,hop,ak,aw]at hc
  obtain⟨_,_,_,_,_,_,rfl⟩:=hc
  rfl
 case build t parts =>
  simp only[cRO,hop,ak]at hc
  obtain⟨_,_,d',_,hc⟩:=hc
  cases d'<;>simp only[reduceCtorEq]at hc
  all_goals
   simp only[ak,aw]at hc
   obtain⟨_,_,_,_,rfl⟩:=hc
   rfl
 case fieldAddr st x f =>
  simp only[cRO,hop,ak]at hc
  obtain⟨d',_,hc⟩:=hc
  cases d'<;>simp only[reduceCtorEq]at hc
  simp only[ak]at hc
  obtain⟨_,_,_,_,hc⟩:=hc
  split at hc
  ·simp at hc
  ·simp only[aw]at hc;obtain⟨_,_,rfl⟩:=hc;rfl
 case indexAddr t x i =>
  simp only[cRO,hop,ak]at hc
  obtain⟨d',_,hc⟩:=hc
  cases d'<;>simp only[reduceCtorEq]at hc
  all_goals
   simp only[ak,aw]at hc
   obtain⟨_,_,_,_,_,_,rfl⟩:=hc
   rfl
 case binOp op t x y yt =>
  simp only[cRO,hop,ak]at hc
  obtain⟨d',_,_,_,_,_,hc⟩:=hc
  split at hc<;>first | (cases hc;rfl) | (simp only[aw]at hc;obtain⟨_,_,rfl⟩:=hc;rfl) | (simp at hc;done)
 case makeFunc fn first caps =>
  cases fn with
  | func f =>
   simp only[cRO,hop]at hc
   split at hc
   ·simp only[aw]at hc;obtain⟨_,_,rfl⟩:=hc;rfl
   ·simp at hc
  | _=>simp[cRO,hop]at hc
 case slice t x lo hi mx =>
  simp only[cRO,hop,ak]at hc
  obtain⟨d',_,hc⟩:=hc
  cases d'<;>simp only[reduceCtorEq]at hc
  simp only[ak]at hc
  obtain⟨_,_,_,_,_,_,_,_,hc⟩:=hc
  split at hc<;>first | (cases hc;rfl) | (simp at hc;done)
def FW(fr:Option Nat):Fence:={fn:=fun _=>True,depth:=none,alive:=false,round:=fr}
theorem aRW{fr:Option Nat}{dn:Nat}{f:FuncId}{args:Array Value}{w:World}{R:Ending→World→Prop}(h:Calls P f args w R):CallsIn (FW fr) dn P f args w R:=(callsIn_wide (n:=dn)).2 h
theorem awZ{fr:Option Nat}{o:Oper}{ro:RO}(hc:cRO P o=some ro):Oper.semAt (FW fr).round a.eval o=execOp a.eval o:=Oper.semAt_eq _ _ _ fun c h=>by simp[cRO,h]at hc
theorem apJ{fr:Option Nat}{dn:Nat}{o:Oper}{ro:RO}(hc:cRO P o=some ro){v:Value}{w':World}(hrun:(execOp a.eval o).run P w = .ok (.value v) w'){next:Act→World→Prop}{Q:Exit→Act→World→Prop}(h:next (a.put o.dst v) w'):o.wpIn (FW fr) dn P a w next Q:=by
 refine⟨fun _ _=>trivial,?_⟩
 rw[awZ hc,hrun]
 exact h
theorem aTQ{fr:Option Nat}{dn:Nat}{o:Oper}{ro:RO}(hc:cRO P o=some ro){w':World}(hrun:(execOp a.eval o).run P w = .ok .skip w'){next:Act→World→Prop}{Q:Exit→Act→World→Prop}(h:next (a.put o.dst undef) w'):o.wpIn (FW fr) dn P a w next Q:=by
 refine⟨fun _ _=>trivial,?_⟩
 rw[awZ hc,hrun]
 exact h
theorem aMV{call:mz}(hcall:JV P w0 call)(R:Rel w0 φ (kx h2 s) w)(hi:Inv g s)(he:EnvR φ a Γ){o:Oper}{ro:RO}(hc:cRO P o=some ro){outs:List (V×S)}{r:Nat}(hx:opX call (evE Γ) s ro=some (outs,r))(hr:∀n,r.testBit n=true→h2 n=g n)
  {fr:Option Nat} {dn:Nat} {next:Act→World→Prop} {Q:Exit→Act→World→Prop} (hk:∀p∈outs,∀v φ' w',φ.le φ'→Rel w0 φ' (kx h2 p.2) w'→RepV φ' v p.1→next (a.put o.dst v) w'):o.wpIn (FW fr) dn P a w next Q:=by
 have enter:∀ {f:FuncId} {args:List V} {vs:List Value},call f args s=some (outs,r)→Pt (RepV φ) vs args→(execOp a.eval o).run P w = .ok (.enter f vs.toArray) w→o.wpIn (FW fr) dn P a w next Q:=by
  intro f args vs hcl hargs hrun
  refine⟨fun _ _=>trivial,?_⟩
  rw[awZ hc,hrun,Oper.uponIn_enter]
  refine⟨fun h=>by simp[FW]at h,?_⟩
  refine CallsIn.mono (aRW ((hcall f args s outs r hcl).2 g h2 φ w vs hr hi R hargs)) fun e w' hh=>?_
  obtain⟨v,rfl,p,hp,φ',hle,R',hrep⟩:=hh
  exact hk p hp v φ' w' hle R' hrep
 rcases aPj hc with hpl | ⟨c,f,fn,ys,hop,hcal,hfn,hys,rfl⟩ | ⟨c,x,x',ys,hop,hcal,hx',hys,rfl⟩
 ·rw[GK hpl]at hx
  split at hx
  ·rename_i v hp
   cases hx
   obtain⟨v',hrun,hrep⟩:=auY (P:=P) (w:=w) he hc hp
   refine apJ hc hrun ?_
   exact hk _ (ew.2 rfl) v' φ w (Ren.le_refl φ) R hrep
  ·split at hx
   ·rename_i v s1 r1 hm
    cases hx
    obtain⟨nx,v',w',φ',hrun,hnx,hle,R',hi',hrep⟩:=aGJ R hi he hc hm hr
    rcases hnx with rfl | ⟨rfl,rfl⟩
    ·refine apJ hc hrun ?_
     exact hk _ (ew.2 rfl) v' φ' w' hle R' hrep
    ·refine aTQ hc hrun ?_
     exact hk _ (ew.2 rfl) undef φ' w' hle R' hrep
   ·simp at hx
 ·obtain⟨fn',hfn',hb,hnm⟩:=(hcall _ _ _ _ _ hx).1
  have hnone : ¬fn'.body=none:=by intro hx;rw[hx]at hb;simp at hb
  have hnm' : ¬ fn'.name = "runtime.NumGoroutine" := by simpa using hnm
  refine enter (vs:=c.args.toList.map a.eval) hx (KK he _ _ hys) ?_
  simp[execOp,hop,resolve,hcal,Act.eval,Deferred.ofValue,invoke,callFunc,hfn',hnm',hnone]
  rw[←Array.toList_map,Array.toArray_toList]
 ·simp only[opX]at hx
  split at hx
  ·rename_i f caps heq
   obtain⟨fn,hfn,hb,hnm⟩:=(hcall _ _ _ _ _ hx).1
   have hr':=bY he hx'
   rw[heq]at hr'
   generalize hval:a.eval x=u at hr'
   have hr'':RepX φ u (.fn f caps):=hr'
   cases hr'' with
   | fn _ cs _ hcl hcp =>
    have hargs:Pt (RepV φ) (c.args.toList.map a.eval++cs) (ys.map (evE Γ)++caps.map .c):=by
     refine Go.VM.Pt.append (KK he _ _ hys) ⟨by simp[hcl],fun j v x hv hx=>?_⟩
     rw[List.getElem?_map,aw]at hx
     obtain⟨y,hy,rfl⟩:=hx
     exact hcp j v y hv hy
    refine enter hx hargs ?_
    have hnone : ¬fn.body=none:=by intro hx;rw[hx]at hb;simp at hb
    have hnm' : ¬ fn.name = "runtime.NumGoroutine" := by simpa using hnm
    simp only[execOp,hop,resolve,hcal,hval,Deferred.ofValue]
    simp[invoke,callFunc,hfn,hnm',hnone]
  ·simp at hx
end
end Go.RM
namespace Go.RM
open Go.VM (Pt Fr rest Zj)
def YK(E:Nat→V):Option (Nat×Bool)→Option Bool
 | none=>some true
 | some (t,b)=>match E t with
  | .c (.sc (.bool c))=>some (!xor c b)
  | .tup []=>some false
  | _=>none
theorem aPW(Γ:Tr V)(g:Option (Nat×Bool)):iZ Γ g=YK (look Γ) g:=by cases g<;>rfl
def acV(d:Option Nat)(x:V)(E:Nat→V):Nat→V:=fun t=>if d=some t then x else E t
theorem UX(d:Option Nat)(x:V)(Γ:Tr V):look (putO d x Γ)=acV d x (look Γ):=by
 funext t
 cases d with
 | none=>simp[putO,acV]
 | some d =>
  simp only[putO,acV,look,Tr.get_set]
  by_cases e:t=d
  ·subst e;simp
  ·have : ¬some d=some t:=fun h=>e (Option.some.inj h).symm
   simp[e,this]
theorem VQ:∀(l:List Nat) (t:Nat),(RX l).testBit t=true↔t∈l
 | [],t=>by simp[RX]
 | n::l,t=>by
  rw[RX,s6,AX,Bool.or_eq_true,VQ l t,decide_eq_true_eq,mw]
theorem U8(d:Option Nat)(t:Nat):(zx d).testBit t=true↔d=some t:=by
 cases d with
 | none=>simp[zx]
 | some d=>rw[zx,AX,decide_eq_true_eq];exact⟨fun h=>by rw[h],fun h=>(Option.some.inj h).symm⟩
structure OpC(P:Program)(n:Nat)(ops:Array Oper)(o:Oper)(ro:ROp)(m:Nat):Prop where
 dst:ro.dst=o.dst
 op:cRO P o=some ro.op
 lt:∀d,o.dst=some d→d<n
 mask:m=RX ro.reads
 guard:∀ {φ:Ren} {a:Act} {E:Nat→V},EnvR φ a E→∀b,YK E ro.guard=some b→Region.wanted o (yielded ops a.tmps)=b
theorem aaX{P:Program}{n:Nat}{ops:Array Oper}{o:Oper}{p:ROp×Nat}(hc:sV P n ops o=some p):OpC P n ops o p.1 p.2:=by
 unfold sV at hc
 by_cases hd:ahY n o.dst=true
 ·rw[if_pos hd]at hc
  have hd':∀d,o.dst=some d→d<n:=fun d he=>by rw[he]at hd;exact aVJ hd
  simp only[ak]at hc
  obtain⟨op,hop,hc⟩:=hc
  cases hg:o.guard with
  | none =>
   simp only[hg,bk]at hc
   subst hc
   exact⟨rfl,hop,hd',rfl,fun _ b hw=>by cases hw;simp[Region.wanted,hg]⟩
  | some jb =>
   obtain⟨j,b⟩:=jb
   simp only[hg,aw]at hc
   obtain⟨t,ht,rfl⟩:=hc
   refine⟨rfl,hop,hd',rfl,fun {φ a E} he b' hw=>?_⟩
   have hs:=he t
   simp only[YK]at hw
   split at hw
   ·rename_i c heq
    cases hw
    rw[heq]at hs
    have hv:=i2 hs
    have hlt:t<a.tmps.size:=by
     by_cases hlt:t<a.tmps.size
     ·exact hlt
     ·simp only[Array.getD,hlt,dif_neg,not_false_eq_true]at hv
      simp[undef]at hv
    have dK:a.tmps[t]? = some (.bool c):=by
     rw[Array.getElem?_eq_getElem hlt]
     simpa[Array.getD,hlt]using hv
    have hy:yielded ops a.tmps j=some c:=by simp[yielded,ht,dK]
    cases c<;>cases b<;>simp[Region.wanted,hg,hy]
   ·rename_i heq
    cases hw
    rw[heq]at hs
    obtain⟨vs,hv,hp⟩:=hs
    have hvs:vs = #[]:=by
     have:=hp.1
     simp at this
     exact this
    subst hvs
    have hy:yielded ops a.tmps j=none:=by
     simp only[yielded,ht]
     by_cases hlt:t<a.tmps.size
     ·have dK:a.tmps[t]? = some (.tuple #[]):=by
       rw[Array.getElem?_eq_getElem hlt]
       simpa[Array.getD,hlt]using hv
      simp[dK]
     ·simp[hlt]
    simp[Region.wanted,hg,hy]
   ·simp at hw
 ·rw[if_neg hd]at hc;simp at hc
section
variable {P:Program} {w0:World} {φ:Ren} {g h2:Hp} {s s':S} {a:Act} {w:World} {call:mz}
theorem EnvR.mono{φ':Ren}{E:Nat→V}(h:EnvR φ a E)(hle:φ.le φ'):EnvR φ' a E:=fun t=>(h t).mono hle
theorem EnvR.put{E:Nat→V}(h:EnvR φ a E){d:Option Nat}{v:Value}{x:V}(hx:RepV φ v x)(hd:∀t,d=some t→t<a.tmps.size):EnvR φ (a.put d v) (acV d x E):=by
 intro t
 cases d with
 | none=>simpa[Act.put,acV]using h t
 | some d =>
  rw[Go.VM.getD_put a d t v (hd d rfl)]
  unfold acV
  by_cases e:d=t
  ·subst e;simpa using hx
  ·have : ¬some d=some t:=fun h=>e (Option.some.inj h)
   simpa[e,this]using h t
theorem S4(a:Act)(d:Option Nat)(v:Value):(a.put d v).tmps.size=a.tmps.size∧(a.put d v).defers=a.defers:=by
 cases d<;>simp[Act.put]
theorem awV{o:ROp}{Γ:Tr V}{outs:List (Tr V×S)}{r:Nat}(h:xX call o Γ s=some (outs,r)):∀p∈outs,∃x,p.1=putO o.dst x Γ:=by
 unfold xX at h
 split at h
 ·simp at h
 ·cases h;intro p hp;rw[ew.1 hp];exact⟨_,rfl⟩
 ·exact Bz h fun l r0 _ q _ zs q' hf z hz=>by cases hf;rw[ew.1 hz];exact⟨_,rfl⟩
theorem G8(hcall:JV P w0 call)(R:Rel w0 φ (kx h2 s) w)(hi:Inv g s){E:Nat→V}(he:EnvR φ a E){n:Nat}{ops:Array Oper}{o:Oper}{ro:ROp}{m:Nat}(hc:OpC P n ops o ro m)
  {Γ:Tr V} (hag:∀t,m.testBit t=true→E t=look Γ t) {outs:List (Tr V×S)} {r:Nat} (hx:xX call ro Γ s=some (outs,r)) (hr:∀n,r.testBit n=true→h2 n=g n)
  {fr:Option Nat} {dn:Nat} {next:Act→World→Prop} {Q:Exit→Act→World→Prop} (hk:∀p∈outs,∀x v φ' w',p.1=putO ro.dst x Γ→φ.le φ'→Rel w0 φ' (kx h2 p.2) w'→RepV φ' v x→next (a.put o.dst v) w') :
  (Region.wanted o (yielded ops a.tmps)=true∧o.wpIn (FW fr) dn P a w next Q)∨(Region.wanted o (yielded ops a.tmps)=false∧next (a.put o.dst undef) w):=by
 have hg:YK E ro.guard=iZ Γ ro.guard:=by
  rw[aPW]
  cases hgd:ro.guard with
  | none=>rfl
  | some tb =>
   obtain⟨t,b⟩:=tb
   simp only[YK]
   rw[hag t (by rw[hc.mask,VQ];simp[ROp.reads,hgd])]
 have hops:∀x∈ro.op.opds,evE E x=ev Γ x:=by
  intro x hx
  cases x with
  | tmp t=>exact hag t (by rw[hc.mask,VQ];simp only[ROp.reads,L3,nw,List.mem_filterMap];exact .inl ⟨_,hx,rfl⟩)
  | con _=>rfl
  | fn _=>rfl
 unfold xX at hx
 split at hx
 ·simp at hx
 ·rename_i hw
  cases hx
  right
  refine⟨hc.guard he false (by rw[hg,hw]),hk _ (ew.2 rfl) H3 undef φ w rfl (Ren.le_refl φ) R ⟨#[],rfl,Go.VM.Pt.nil⟩⟩
 ·rename_i hw
  left
  refine⟨hc.guard he true (by rw[hg,hw]),?_⟩
  obtain⟨l,r0,hl,h1,h2'⟩:=C4 hx
  rw[←aCY (call:=call) (s:=s) hops]at hl
  refine aMV hcall R hi he hc.op hl (fun n hn=>hr n (h1 n hn)) fun p hp v φ' w' hle R' hrep=>?_
  obtain⟨zs,q,hz,hzs,_⟩:=h2' p hp
  cases hz
  exact hk _ (hzs _ (ew.2 rfl)) p.1 v φ' w' rfl hle R' hrep
def StR(ds:List Deferred)(w0:World)(n:Nat)(g h2:Hp)(φ0:Ren)(E:Nat→V)(s:S)(a:Act)(w:World):Prop :=
 ∃φ,φ0.le φ∧EnvR φ a E∧Rel w0 φ (kx h2 s) w∧Inv g s∧a.defers=ds∧n≤a.tmps.size
theorem aiz(hcall:JV P w0 call)(hinv:CQ call){fr:Option Nat}{dn:Nat}{ds:List Deferred}{n:Nat}{φ0:Ren}{ops:Array Oper}{Q:Exit→Act→World→Prop}:∀(l:List Oper) (vl:List (ROp×Nat)) (Γ:Tr V) (s:S) (a:Act) (w:World) (outs:List (Tr V×S)) (r:Nat),l.mapM (sV P n ops)=some vl →
  Qx call vl Γ s=some (outs,r)→(∀n,r.testBit n=true→h2 n=g n)→StR ds w0 n g h2 φ0 (look Γ) s a w→(∀p∈outs,∀a' w',StR ds w0 n g h2 φ0 (look p.1) p.2 a' w'→Q .normal a' w')→wpListIn (FW fr) dn P ops Q l a w
 | [],vl,Γ,s,a,w,outs,r,hm,hx,hr,st,hk=>by
  simp at hm;subst hm
  simp only[Qx]at hx
  cases hx
  exact hk _ (ew.2 rfl) _ _ st
 | o::l,vl,Γ,s,a,w,outs,r,hm,hx,hr,st,hk=>by
  simp only[List.mapM_cons,Option.bind_eq_bind,Option.pure_def]at hm
  cases hv:sV P n ops o with
  | none=>simp[hv]at hm
  | some vo =>
   cases hrr:l.mapM (sV P n ops)with
   | none=>simp[hv,hrr]at hm
   | some vr =>
    simp[hv,hrr]at hm
    subst hm
    obtain⟨φ,hle0,he,R,hi,hd,hs⟩:=st
    have hc:=aaX hv
    simp only[Qx]at hx
    obtain⟨l1,r1,hl1,hr1,hmem⟩:=C4 hx
    have hnext:∀p∈l1,∀x v φ' w',p.1=putO vo.1.dst x Γ→φ.le φ'→Rel w0 φ' (kx h2 p.2) w'→RepV φ' v x→wpListIn (FW fr) dn P ops Q l (a.put o.dst v) w':=by
     intro p hp x v φ' w' hpx hle R' hrep
     obtain⟨zs,q,hz,hzs,hq⟩:=hmem p hp
     refine aiz hcall hinv l vr p.1 p.2 _ w' zs q hrr hz (fun n hn=>hr n (hq n hn)) ?_ (fun p' hp'=>hk p' (hzs p' hp'))
     refine⟨φ',Ren.le_trans hle0 hle,?_,R',O9 hinv hl1 hi p hp,by rw[(S4 _ _ _).2];exact hd,by rw[(S4 _ _ _).1];exact hs⟩
     rw[hpx,UX,hc.dst]
     exact(he.mono hle).put hrep fun t ht=>Nat.lt_of_lt_of_le (hc.lt t ht) hs
    rcases G8 hcall R hi he hc (fun t _ => rfl) hl1 (fun n hn => hr n (hr1 n hn)) (next := wpListIn (FW fr) dn P ops Q l) (Q := Q) hnext with⟨hw,hh⟩ | ⟨hw,hh⟩
    ·simp only[wpListIn,hw,ik]
     exact hh
    ·simp only[wpListIn,hw,jw,ck]
     exact⟨fun _ _=>trivial,hh⟩
end
section
def I8(p:Nat→Bool):Nat→Option Nat
 | 0=>none
 | m+1=>bif p m then some m else I8 p m
theorem G4{p:Nat→Bool}:∀ {N m:Nat},I8 p N=some m→m<N∧p m=true∧∀j,m<j→j<N→p j=false
 | 0,m,h=>by simp[I8]at h
 | N+1,m,h=>by
  simp only[I8]at h
  cases hp:p N with
  | true=>simp only[hp,cond_true,bk]at h;subst h;exact⟨by omega,hp,fun j _ _=>by omega⟩
  | false =>
   simp only[hp,cond_false]at h
   obtain⟨h1,h2,h3⟩:=G4 h
   exact⟨by omega,h2,fun j hj hjN=>by
    by_cases e:j=N
    ·subst e;exact hp
    ·exact h3 j hj (by omega)⟩
theorem LW{p:Nat→Bool}:∀ {N:Nat},I8 p N=none→∀j,j<N→p j=false
 | 0,h,j,hj=>by omega
 | N+1,h,j,hj=>by
  simp only[I8]at h
  cases hp:p N with
  | true=>simp[hp]at h
  | false =>
   simp only[hp,cond_false]at h
   by_cases e:j=N
   ·subst e;exact hp
   ·exact LW h j (by omega)
theorem aMY{p:Nat→Bool}{N m:Nat}(h1:m<N)(h2:p m=true)(h3:∀j,m<j→j<N→p j=false):I8 p N=some m:=by
 cases h:I8 p N with
 | none=>have:=LW h m h1;rw[h2]at this;simp at this
 | some k =>
  obtain⟨k1,k2,k3⟩:=G4 h
  rcases Nat.lt_trichotomy m k with hl | hl | hl
  ·have:=h3 k hl k1;rw[k2]at this;simp at this
  ·rw[hl]
  ·have:=k3 m hl h1;rw[h2]at this;simp at this
theorem WK{p q:Nat→Bool}:∀ {N:Nat},(∀j,j<N→p j=q j)→I8 p N=I8 q N
 | 0,_=>rfl
 | N+1,h=>by simp only[I8];rw[h N (by omega),WK fun j hj=>h j (by omega)]
variable {β:Type} (f:Nat→Nat→β) (Wr:Nat→Nat→Bool) (N:Nat) (base:Nat→β)
def cur(L:Nat→Bool)(n:Nat):β:=match I8 (fun m=>L m&&Wr m n) N with
 | some m=>f (m+1) n
 | none=>base n
variable {f Wr N base}
theorem VV(hst:∀k n,k<N→Wr k n=false→f (k+1) n=f k n){n:Nat}:∀(d j:Nat),j+d≤N→(∀m,j≤m→m<j+d→Wr m n=false)→f (j+d) n=f j n
 | 0,j,_,_=>rfl
 | d+1,j,hN,h=>by
  rw[←Nat.add_assoc,hst (j+d) n (by omega) (h _ (by omega) (by omega)),VV hst d j (by omega) fun m h1 h2=>h m h1 (by omega)]
theorem apW(hst:∀k n,k<N→Wr k n=false→f (k+1) n=f k n){L:Nat→Bool}{i n:Nat}(hi:i<N)(hb:base n=f 0 n)(h1:∀j,j<i→Wr j n=true→L j=true)(h2:∀m,i<m→m<N→L m=true→Wr m n=false)(hL:L i=false) :
  cur f Wr N base L n=f i n:=by
 unfold cur
 split
 ·rename_i m hm
  obtain⟨k1,k2,k3⟩:=G4 hm
  simp only[bw]at k2
  have hmi:m<i:=by
   rcases Nat.lt_trichotomy m i with h | h | h
   ·exact h
   ·subst h;rw[hL]at k2;simp at k2
   ·have:=h2 m h k1 k2.1;rw[k2.2]at this;simp at this
  have:=VV (n:=n) hst (i-(m+1)) (m+1) (by omega) (fun j hj hj2=>by
   cases hw:Wr j n with
   | false=>rfl
   | true =>
    have h4:=h1 j (by omega) hw
    have h5:=k3 j (by omega) (by omega)
    rw[h4,hw]at h5;simp at h5)
  have e:m+1+(i-(m+1))=i:=by omega
  rw[e]at this
  exact this.symm
 ·rename_i hm
  have:=VV (n:=n) hst i 0 (by omega) (fun j _ hj2=>by
   cases hw:Wr j n with
   | false=>rfl
   | true =>
    have h4:=h1 j (by omega) hw
    have h5:=LW hm j (by omega)
    rw[h4,hw]at h5;simp at h5)
  rw[Nat.zero_add]at this
  rw[hb];exact this.symm
theorem aBV{L:Nat→Bool}{i n:Nat}(hi:i<N)(h2:∀m,i<m→m<N→L m=true→Wr i n=true→Wr m n=false)(hL:L i=false) :
  cur f Wr N base (fun j=>decide (j=i)||L j) n=if Wr i n=true then f (i+1) n else cur f Wr N base L n:=by
 unfold cur
 by_cases hw:Wr i n=true
 ·rw[if_pos hw]
  rw[aMY (m:=i) hi (by simp[hw]) (fun j hj hjN=>by
   have : ¬j=i:=by omega
   simp only[this,decide_false,Bool.false_or]
   cases hl:L j with
   | false=>rfl
   | true=>rw[h2 j hj hjN hl hw];rfl)]
 ·rw[if_neg hw]
  have hw:Wr i n=false:=by simpa using hw
  rw[WK (q:=fun m=>L m&&Wr m n) (fun j _=>by
   by_cases e:j=i
   ·subst e;simp[hw]
   ·simp[e])]
theorem aAZ(hst:∀k n,k<N→Wr k n=false→f (k+1) n=f k n){L:Nat→Bool}{n:Nat}(hL:∀j,j<N→L j=true):(cur f Wr N base L n=f N n∧∃m,m<N∧Wr m n=true)∨(cur f Wr N base L n=base n∧(∀m,m<N→Wr m n=false)∧f N n=f 0 n):=by
 unfold cur
 split
 ·rename_i m hm
  obtain⟨k1,k2,k3⟩:=G4 hm
  simp only[bw]at k2
  have:=VV (n:=n) hst (N-(m+1)) (m+1) (by omega) (fun j hj hj2=>by
   have h5:=k3 j (by omega) (by omega)
   rw[hL j (by omega)]at h5;simpa using h5)
  have e:m+1+(N-(m+1))=N:=by omega
  rw[e]at this
  exact .inl ⟨this.symm,m,k1,k2.2⟩
 ·rename_i hm
  have hn:∀j,j<N→Wr j n=false:=fun j hj=>by
   have h5:=LW hm j hj
   rw[hL j hj]at h5;simpa using h5
  have:=VV (n:=n) hst N 0 (by omega) (fun j _ hj2=>hn j (by omega))
  rw[Nat.zero_add]at this
  exact .inr ⟨rfl,hn,this⟩
end
end Go.RM
namespace Go.RM
open Go.VM (Pt Fr)
structure Tra(call:mz)(os:List (ROp×Nat))(tab:List Nat)(i0:Nat)(Γs:Nat→Tr V)(ss:Nat→S)(rs ws:Nat→Nat):Prop where
 step:∀(k:Nat) o,os[k]? = some o→∃t,xX call o.1 (Γs k) {ss k with w:=0}=some ([(Γs (k+1),t)],rs k)∧ss (k+1) = {t with w:=Nat.lor (ss k).w t.w}∧ws k=t.w
 apart:∀(j k:Nat) oj ok b,j<k→os[j]? = some oj→os[k]? = some ok→tab[k]? = some b→JX b ⟨i0+j,oj.2,zx oj.1.dst,rs j,ws j⟩ ⟨i0+k,ok.2,zx ok.1.dst,rs k,ws k⟩=true
 tabs:∀(k:Nat) o,os[k]? = some o→∃b,tab[k]? = some b
theorem VY{call:mz}:∀(os:List (ROp×Nat)) (tab:List Nat) (i:Nat) (ds:List Did) (Γ:Tr V) (s:S) (r0:Nat) (outs:List (Tr V×S)) (re:Nat),D1 call os tab i ds Γ s r0=some (outs,re) →
  ∃Γs ss rs ws,Γs 0=Γ∧ss 0=s∧outs=[(Γs os.length,ss os.length)]∧Tra call os tab i Γs ss rs ws∧(∀k,k<os.length→∀n,(rs k).testBit n=true→re.testBit n=true)∧(∀n,r0.testBit n=true→re.testBit n=true) ∧
   ∀(k:Nat) ok b,os[k]? = some ok→tab[k]? = some b→∀d∈ds,JX b d ⟨i+k,ok.2,zx ok.1.dst,rs k,ws k⟩=true
 | [],tab,i,ds,Γ,s,r0,outs,re,h=>by
  simp only[D1]at h
  cases h
  exact⟨fun _=>Γ,fun _=>s,fun _=>0,fun _=>0,rfl,rfl,rfl,⟨fun k o hk=>by simp at hk,fun j k oj ok b _ hj=>by simp at hj,fun k o hk=>by simp at hk⟩,fun k hk=>by simp at hk,fun n hn=>hn,fun k ok b hk=>by simp at hk⟩
 | o::os,tab,i,ds,Γ,s,r0,outs,re,h=>by
  cases tab with
  | nil=>simp[D1]at h
  | cons b tab =>
   simp only[D1]at h
   split at h
   ·rename_i Γ' s' r' hst
    cases hall:ds.all (fun x=>JX b x ⟨i,o.2,zx o.1.dst,r',s'.w⟩)with
    | false=>simp[hall]at h
    | true =>
     simp only[hall,cond_true]at h
     obtain⟨Γs,ss,rs,ws,e1,e2,e3,ht,hr,hr0,hd⟩:=VY os tab (i+1) _ Γ' _ _ outs re h
     refine⟨fun k => match k with | 0 => Γ | k+1 => Γs k,fun k => match k with | 0 => s | k+1 => ss k,fun k => match k with | 0 => r' | k+1 => rs k,fun k => match k with | 0 => s'.w | k+1 => ws k,rfl,rfl,?_,⟨?_,?_,?_⟩,?_,?_,?_⟩
     ·simpa using e3
     ·intro k o' hk
      cases k with
      | zero =>
       simp only[List.getElem?_cons_zero,bk]at hk
       subst hk
       exact⟨s',by show xX call o.1 Γ {s with w:=0}=some ([(Γs 0,s')],r');rw[e1];exact hst,by show ss 0 = {s' with w:=Nat.lor s.w s'.w};rw[e2],rfl⟩
      | succ k =>
       exact ht.step k o' (by simpa using hk)
     ·intro j k oj ok b' hjk hj hk hb
      cases k with
      | zero=>omega
      | succ k =>
       simp only[List.getElem?_cons_succ]at hk hb
       cases j with
       | zero =>
        simp only[List.getElem?_cons_zero,bk]at hj
        subst hj
        have:=hd k ok b' hk hb ⟨i,o.2,zx o.1.dst,r',s'.w⟩ (by simp)
        have e:i+(k+1)=i+1+k:=by omega
        rw[e]
        exact this
       | succ j =>
        simp only[List.getElem?_cons_succ]at hj
        have:=ht.apart j k oj ok b' (by omega) hj hk hb
        have e:i+(k+1)=i+1+k:=by omega
        have e':i+(j+1)=i+1+j:=by omega
        rw[e,e']
        exact this
     ·intro k o' hk
      cases k with
      | zero=>exact⟨b,rfl⟩
      | succ k=>simpa using ht.tabs k o' (by simpa using hk)
     ·intro k hk n hn
      cases k with
      | zero=>exact hr0 n (W6 hn)
      | succ k=>exact hr k (by simpa using hk) n hn
     ·intro n hn;exact hr0 n (Q0 hn)
     ·intro k ok b' hk hb d hdm
      cases k with
      | zero =>
       simp only[List.getElem?_cons_zero,bk]at hk hb
       subst hk;subst hb
       exact List.all_eq_true.1 hall d hdm
      | succ k =>
       simp only[List.getElem?_cons_succ]at hk hb
       have:=hd k ok b' hk hb d (nw.2 (.inl hdm))
       have e:i+(k+1)=i+1+k:=by omega
       rw[e]
       exact this
   ·simp at h
theorem O7{a b n:Nat}(h:Nat.beq (Nat.land a b) 0=true)(ha:a.testBit n=true)(hb:b.testBit n=true):False:=by
 have h0:=zK h
 have:(Nat.land a b).testBit n=true:=by
  show(a &&& b).testBit n=true
  rw[Nat.testBit_and,ha,hb];rfl
 rw[h0]at this;simp at this
structure OK(x y:Did):Prop where
 twr:∀n,x.tw.testBit n=true→y.tr.testBit n=true→False
 trw:∀n,y.tw.testBit n=true→x.tr.testBit n=true→False
 tww:∀n,x.tw.testBit n=true→y.tw.testBit n=true→False
 wr:∀n,x.w.testBit n=true→y.r.testBit n=true→False
 rw':∀n,y.w.testBit n=true→x.r.testBit n=true→False
 ww:∀n,x.w.testBit n=true→y.w.testBit n=true→False
theorem arq{b:Nat}{x y:Did}(h:JX b x y=true):b.testBit x.i=true∨OK x y:=by
 unfold JX at h
 simp only[Bool.or_eq_true,bw]at h
 rcases h with h | ⟨h1,h2,h3,h4,h5,h6⟩
 ·exact .inl h
 ·exact .inr ⟨fun n=>O7 h1,fun n=>O7 h2,fun n=>O7 h3,fun n=>O7 h4,fun n=>O7 h5,fun n=>O7 h6⟩
theorem aGq{p q:Nat→Bool}{i:Nat}(hp:∀j,p j=(q j && !decide (j=i)))(hi:q i=true):∀(l:List Nat),i∈l→(l.filter p).length<(l.filter q).length:=by
 have mono:∀(l:List Nat),(l.filter p).length≤(l.filter q).length:=by
  intro l
  induction l with
  | nil=>simp
  | cons z l ihz =>
   simp only[List.filter_cons,hp z]
   cases h1:q z<;>cases h2:decide (z=i)<;>simp[h1,h2]<;>omega
 intro l
 induction l with
 | nil=>intro h;simp at h
 | cons y l ihl =>
  intro hm
  by_cases e:y=i
  ·subst e
   have:=mono l
   simp only[List.filter_cons,hp y,hi]
   simp
   omega
  ·have:=ihl ((mw.1 hm).resolve_left fun h=>e h.symm)
   simp only[List.filter_cons,hp y]
   cases h1:q y<;>simp[h1,e]<;>omega
structure Tq(ops:Array Oper):Prop where
 edge:∀i,i<ops.size→∀e∈(ops.getD i default).after.toList,Region.binds .any e=true→e.on<i
 table:∀i,i<ops.size→∀a,a<ops.size→((Region.before ops).getD i 0).testBit a=true→∃e∈(ops.getD i default).after.toList,Region.binds .any e=true∧(a=e.on∨((Region.before ops).getD e.on 0).testBit a=true)
theorem axq{ops:Array Oper}(h:atq ops=true):Tq ops:=by
 simp only[atq,bw,decide_eq_true_eq,List.all_eq_true,List.mem_range,Bool.or_eq_true,Bool.not_eq_true',List.any_eq_true,beq_iff_eq]at h
 obtain⟨h2,h3⟩:=h
 refine⟨fun i hi e he hb=>?_,fun i hi a ha hb=>?_⟩
 ·rcases h2 i hi e he with h | h
  ·rw[hb]at h;simp at h
  ·exact h
 ·rcases h3 i hi a ha with h | h
  ·rw[hb]at h;simp at h
  ·obtain⟨e,he,h6,h7⟩:=h;exact⟨e,he,h6,h7⟩
section
variable {P:Program} {w0:World} {g h2:Hp} {a:Act} {w:World} {call:mz}
theorem Wx(hcall:JV P w0 call)(hinv:CQ call){fr:Option Nat}{dn:Nat}{ds:List Deferred}{n:Nat}{φ0:Ren}{ops:Array Oper}{vl:List (ROp×Nat)}(hm:ops.toList.mapM (sV P n ops)=some vl)(hok:Tq ops)
  {Γs:Nat→Tr V} {ss:Nat→S} {rs ws:Nat→Nat} (ht:Tra call vl (KZ ops) 0 Γs ss rs ws) (hr:∀k,k<vl.length→∀n,(rs k).testBit n=true→h2 n=g n) (hi:Inv g (ss 0)) {Q:Exit→Act→World→Prop}
  (hk:∀a' w',StR ds w0 n g h2 φ0 (look (Γs vl.length)) (ss vl.length) a' w'→Q .normal a' w') :
  ∀(fuel:Nat) (listed:Array Bool) (φ:Ren) (a:Act) (w:World),listed.size=ops.size→((List.range ops.size).filter fun i=>!listed.getD i false).length≤fuel →
   (∀j,j<ops.size→listed.getD j false=true→∀b,b<ops.size→((Region.before ops).getD j 0).testBit b=true→listed.getD b false=true) →
   φ0.le φ→EnvR φ a (cur (fun k t=>look (Γs k) t) (fun k t=>(zx ((vl.getD k default).1.dst)).testBit t) ops.size (look (Γs 0)) (fun j=>listed.getD j false)) →
   Rel w0 φ (cur (fun k n=>(ss k).h.get n) (fun k n=>(ws k).testBit n) ops.size (kx h2 (ss 0)) (fun j=>listed.getD j false)) w→a.defers=ds→n≤a.tmps.size→wpAnyIn (FW fr) dn P .any ops Q fuel listed a w:=by
 have hlen:vl.length=ops.size:=by
  have:∀(l:List Oper) (vl:List (ROp×Nat)),l.mapM (sV P n ops)=some vl→vl.length=l.length:=by
   intro l
   induction l with
   | nil=>intro vl h;simp at h;subst h;rfl
   | cons x l ih =>
    intro vl h
    simp only[List.mapM_cons,Option.bind_eq_bind,Option.pure_def]at h
    cases hx:sV P n ops x with
    | none=>simp[hx]at h
    | some y =>
     cases hr:l.mapM (sV P n ops)with
     | none=>simp[hx,hr]at h
     | some r=>simp[hx,hr]at h;subst h;simp[ih r hr]
  rw[this _ _ hm,Array.length_toList]
 have dK:∀i,i<ops.size→∃p,vl[i]? = some p∧OpC P n ops (ops.getD i default) p.1 p.2:=by
  intro i hi
  have:∀(l:List Oper) (vl:List (ROp×Nat)),l.mapM (sV P n ops)=some vl→∀(i:Nat) o,l[i]? = some o→∃vo,vl[i]? = some vo∧sV P n ops o=some vo:=by
   intro l
   induction l with
   | nil=>intro vl h i o hi;simp at hi
   | cons x l ih =>
    intro vl h i o hi
    simp only[List.mapM_cons,Option.bind_eq_bind,Option.pure_def]at h
    cases hx:sV P n ops x with
    | none=>simp[hx]at h
    | some y =>
     cases hr:l.mapM (sV P n ops)with
     | none=>simp[hx,hr]at h
     | some r =>
      simp[hx,hr]at h
      subst h
      cases i with
      | zero=>simp at hi;subst hi;exact⟨y,rfl,hx⟩
      | succ i=>simpa using ih r hr i o (by simpa using hi)
  obtain⟨p,h1,h2⟩:=this _ _ hm i (ops.getD i default) (by simp[Array.getD,hi])
  exact⟨p,h1,aaX h2⟩
 have htab:∀i,i<ops.size→(KZ ops)[i]? = some ((Region.before ops).getD i 0):=by
  intro i hi
  simp[KZ,hi]
 have hstW:∀k n,k<ops.size→(ws k).testBit n=false→(ss (k+1)).h.get n=(ss k).h.get n:=by
  intro k n hk hw
  obtain⟨p,hp,_⟩:=dK k hk
  obtain⟨t,h1,h2,h3⟩:=ht.step k p hp
  have:=O9 (g:=(ss k).h.get) hinv h1 (fun _ _=>rfl) _ (ew.2 rfl)
  rw[h2]
  exact this n (by rw[←h3];exact hw)
 have hstE:∀k t,k<ops.size→(zx ((vl.getD k default).1.dst)).testBit t=false→look (Γs (k+1)) t=look (Γs k) t:=by
  intro k t hk hw
  obtain⟨p,hp,_⟩:=dK k hk
  obtain⟨t',h1,h2,h3⟩:=ht.step k p hp
  obtain⟨x,hx⟩:=awV h1 _ (ew.2 rfl)
  simp only at hx
  rw[hx,UX]
  unfold acV
  have : ¬p.1.dst=some t:=fun e=>by
   have:=(U8 p.1.dst t).2 e
   simp only[List.getD,hp,Option.getD_some]at hw
   rw[this]at hw;simp at hw
  simp[this]
 have hpair:∀j k,j<k→k<ops.size→((Region.before ops).getD k 0).testBit j=true∨OK ⟨j,(vl.getD j default).2,zx (vl.getD j default).1.dst,rs j,ws j⟩ ⟨k,(vl.getD k default).2,zx (vl.getD k default).1.dst,rs k,ws k⟩:=by
  intro j k hjk hk
  obtain⟨pj,hj,_⟩:=dK j (by omega)
  obtain⟨pk,hkk,_⟩:=dK k hk
  have:=arq (ht.apart j k pj pk _ hjk hj hkk (htab k hk))
  simp only[List.getD,hj,hkk,Option.getD_some]
  simpa only[Nat.zero_add]using this
 have hwS:∀k,k≤ops.size→∀n,(ss k).w.testBit n=true↔(ss 0).w.testBit n=true∨∃m,m<k∧(ws m).testBit n=true:=by
  intro k
  induction k with
  | zero=>intro _ n;simp
  | succ k ih =>
   intro hk n
   obtain⟨p,hp,_⟩:=dK k (by omega)
   obtain⟨t,h1,h2,h3⟩:=ht.step k p hp
   rw[h2]
   simp only[s6,Bool.or_eq_true]
   rw[ih (by omega) n,←h3]
   constructor
   ·rintro ((h | ⟨m,hm,h⟩) | h)
    ·exact .inl h
    ·exact .inr ⟨m,by omega,h⟩
    ·exact .inr ⟨k,by omega,h⟩
   ·rintro (h | ⟨m,hm,h⟩)
    ·exact .inl (.inl h)
    ·by_cases e:m=k
     ·subst e;exact .inr h
     ·exact .inl (.inr ⟨m,by omega,h⟩)
 have ready_of:∀(listed:Array Bool) i,listed.size=ops.size→(i∈Region.ready .any ops listed↔i<ops.size∧listed.getD i false=false∧∀e∈(ops.getD i default).after.toList,Region.binds .any e=true→listed.getD e.on false=true):=by
  intro listed i hs
  simp only[Region.ready,List.mem_filter,List.mem_range,bw,Bool.not_eq_true']
  constructor
  ·rintro⟨h1,h2,h3⟩
   refine⟨h1,?_,fun e he hb=>?_⟩
   ·have:i<listed.size:=by omega
    simpa[Array.getD,this]using h2
   ·simp only[Array.getElem?_eq_getElem h1,ek,Option.getD_some,Array.all_eq_true']at h3
    have:=h3 e (by simpa[Array.getD,h1]using he)
    simpa[hb]using this
  ·rintro⟨h1,h2,h3⟩
   refine⟨h1,?_,?_⟩
   ·have:i<listed.size:=by omega
    simpa[Array.getD,this]using h2
   ·simp only[Array.getElem?_eq_getElem h1,ek,Option.getD_some,Array.all_eq_true']
    intro e he
    by_cases hb:Region.binds .any e=true
    ·have:=h3 e (by simpa[Array.getD,h1]using he) hb
     simp[this]
    ·simp[hb]
 have done_of:∀(listed:Array Bool),listed.size=ops.size→Region.ready .any ops listed=[]→∀j,j<ops.size→listed.getD j false=true:=by
  intro listed hs hr j
  induction j using Nat.strongRecOn with
  | _ j ih =>
   intro hj
   cases hb:listed.getD j false with
   | true=>rfl
   | false =>
    exfalso
    have hready:j∈Region.ready .any ops listed:=by
     rw[ready_of _ _ hs]
     refine⟨hj,hb,fun e he hbe=>?_⟩
     have hlt:=hok.edge j hj e he hbe
     exact ih e.on hlt (by omega)
    rw[hr]at hready
    simp at hready
 have fin:∀(listed:Array Bool) (φ:Ren) (a:Act) (w:World),(∀j,j<ops.size→listed.getD j false=true)→φ0.le φ→EnvR φ a (cur (fun k t=>look (Γs k) t) (fun k t=>(zx ((vl.getD k default).1.dst)).testBit t) ops.size (look (Γs 0)) (fun j=>listed.getD j false)) →
   Rel w0 φ (cur (fun k n=>(ss k).h.get n) (fun k n=>(ws k).testBit n) ops.size (kx h2 (ss 0)) (fun j=>listed.getD j false)) w→a.defers=ds→n≤a.tmps.size→Q .normal a w:=by
  intro listed φ a w hall hle he R hd hs
  refine hk a w ⟨φ,hle,?_,?_,?_,hd,hs⟩
  ·have:cur (fun k t=>look (Γs k) t) (fun k t=>(zx ((vl.getD k default).1.dst)).testBit t) ops.size (look (Γs 0)) (fun j=>listed.getD j false)=look (Γs vl.length):=by
    funext t
    rw[hlen]
    rcases aAZ (f := fun k t => look (Γs k) t) (Wr := fun k t => (zx ((vl.getD k default).1.dst)).testBit t) (base := look (Γs 0)) (L := fun j => listed.getD j false) (n := t) hstE hall with⟨h,_⟩ | ⟨h,_,h2⟩
    ·exact h
    ·rw[h];exact h2.symm
   rw[←this];exact he
  ·have:cur (fun k n=>(ss k).h.get n) (fun k n=>(ws k).testBit n) ops.size (kx h2 (ss 0)) (fun j=>listed.getD j false)=kx h2 (ss vl.length):=by
    funext n
    rw[hlen]
    rcases aAZ (f := fun k n => (ss k).h.get n) (Wr := fun k n => (ws k).testBit n) (base := kx h2 (ss 0)) (L := fun j => listed.getD j false) (n := n) hstW hall with⟨h,m,hm,hw⟩ | ⟨h,hno,h2'⟩
    ·rw[h]
     unfold kx
     rw[(hwS ops.size (kw _) n).2 (.inr ⟨m,hm,hw⟩)]
     rfl
    ·rw[h]
     unfold kx
     have e:(ss ops.size).w.testBit n=(ss 0).w.testBit n:=by
      rw[Bool.eq_iff_iff,hwS ops.size (kw _) n]
      constructor
      ·rintro (h | ⟨m,hm,h⟩)
       ·exact h
       ·rw[hno m hm]at h;simp at h
      ·exact .inl
     rw[e]
     rw[h2']
   rw[←this];exact R
  ·rw[hlen]
   intro n hn
   have hno:∀m,m<ops.size→(ws m).testBit n=false:=fun m hm=>by
    cases h:(ws m).testBit n with
    | false=>rfl
    | true=>rw[(hwS ops.size (kw _) n).2 (.inr ⟨m,hm,h⟩)]at hn;simp at hn
   have h0:(ss 0).w.testBit n=false:=by
    cases h:(ss 0).w.testBit n with
    | false=>rfl
    | true=>rw[(hwS ops.size (kw _) n).2 (.inl h)]at hn;simp at hn
   have:=VV (f:=fun k n=>(ss k).h.get n) (n:=n) hstW ops.size 0 (by omega) (fun j _ hj=>hno j (by omega))
   rw[Nat.zero_add]at this
   rw[this];exact hi n h0
 intro fuel
 induction fuel with
 | zero =>
  intro listed φ a w hs hf hcl hle he R hd hsz
  have hall:∀j,j<ops.size→listed.getD j false=true:=by
   intro j hj
   have hnil:=gk (Nat.le_zero.1 hf)
   rw[List.filter_eq_nil_iff]at hnil
   have:=hnil j (List.mem_range.2 hj)
   simpa using this
  refine⟨?_,fin listed φ a w hall hle he R hd hsz⟩
  cases hrd:Region.ready .any ops listed with
  | nil=>rfl
  | cons i r =>
   exfalso
   have hi:i∈Region.ready .any ops listed:=by rw[hrd];simp
   rw[ready_of _ _ hs]at hi
   have:=hall i hi.1
   rw[hi.2.1]at this;simp at this
 | succ fuel ih =>
  intro listed φ a w hs hf hcl hle he R hd hsz
  refine⟨fun hrd=>fin listed φ a w (done_of listed hs hrd) hle he R hd hsz,fun i hi=>?_⟩
  rw[ready_of _ _ hs]at hi
  obtain⟨hil,hiu,hie⟩:=hi
  have htest:∀b,b<ops.size→((Region.before ops).getD i 0).testBit b=true→listed.getD b false=true:=by
   intro b hb ht
   obtain⟨e,he,hbe,hor⟩:=hok.table i hil b hb ht
   have hlist:=hie e he hbe
   have hon:e.on<ops.size:=by have:=hok.edge i hil e he hbe;omega
   rcases hor with rfl | hor
   ·exact hlist
   ·exact hcl e.on hon hlist b hb hor
  obtain⟨p,hp,hc⟩:=dK i hil
  have hpD:vl.getD i default=p:=by simp[List.getD,hp]
  obtain⟨t,hst,hs2,hws⟩:=ht.step i p hp
  have before:∀j,j<i→(listed.getD j false=true)∨OK ⟨j,(vl.getD j default).2,zx (vl.getD j default).1.dst,rs j,ws j⟩ ⟨i,p.2,zx p.1.dst,rs i,ws i⟩:=by
   intro j hj
   rcases hpair j i hj hil with h | h
   ·exact .inl (htest j (by omega) h)
   ·rw[hpD]at h;exact .inr h
  have behind:∀m,i<m→m<ops.size→listed.getD m false=true→OK ⟨i,p.2,zx p.1.dst,rs i,ws i⟩ ⟨m,(vl.getD m default).2,zx (vl.getD m default).1.dst,rs m,ws m⟩:=by
   intro m hm hml hlm
   rcases hpair i m hm hml with h | h
   ·have:=hcl m hml hlm i hil h
    rw[hiu]at this;simp at this
   ·rw[hpD]at h;exact h
  have hag:∀q,p.2.testBit q=true→cur (fun k t=>look (Γs k) t) (fun k t=>(zx ((vl.getD k default).1.dst)).testBit t) ops.size (look (Γs 0)) (fun j=>listed.getD j false) q=look (Γs i) q:=by
   intro q hq
   refine apW (f:=fun k t=>look (Γs k) t) (Wr:=fun k t=>(zx ((vl.getD k default).1.dst)).testBit t) hstE hil rfl (fun j hj hw=>?_) (fun m hm hml hlm=>?_) hiu
   ·rcases before j hj with h | h
    ·exact h
    ·exact(h.twr q hw hq).elim
   ·cases hw:(zx ((vl.getD m default).1.dst)).testBit q with
    | false=>rfl
    | true=>exact((behind m hm hml hlm).trw q hw hq).elim
  have hread:∀n,(rs i).testBit n=true→cur (fun k n=>(ss k).h.get n) (fun k n=>(ws k).testBit n) ops.size (kx h2 (ss 0)) (fun j=>listed.getD j false) n=(ss i).h.get n:=by
   intro n hn
   refine apW (f:=fun k n=>(ss k).h.get n) (Wr:=fun k n=>(ws k).testBit n) hstW hil ?_ (fun j hj hw=>?_) (fun m hm hml hlm=>?_) hiu
   ·exact wJ hi (hr i (by omega) n hn)
   ·rcases before j hj with h | h
    ·exact h
    ·exact(h.wr n hw hn).elim
   ·cases hw:(ws m).testBit n with
    | false=>rfl
    | true=>exact((behind m hm hml hlm).rw' n hw hn).elim
  have hlist':(fun j=>(listed.setIfInBounds i true).getD j false)=fun j=>decide (j=i)||listed.getD j false:=by
   funext j
   simp only[Array.getD_eq_getD_getElem?,Array.getElem?_setIfInBounds]
   by_cases e:i=j
   ·subst e
    have:i<listed.size:=by omega
    simp[this]
   ·have e' : ¬j=i:=fun x=>e x.symm
    simp[e,e']
  have hov0:∀(H:Hp) (s:S),kx H {s with w:=0}=H:=by
   intro H s;funext n;simp[kx]
  have next:∀x v φ' w',Γs (i+1)=putO p.1.dst x (Γs i)→φ.le φ'→Rel w0 φ' (kx (cur (fun k n=>(ss k).h.get n) (fun k n=>(ws k).testBit n) ops.size (kx h2 (ss 0)) (fun j=>listed.getD j false)) t) w'→RepV φ' v x →
    wpAnyIn (FW fr) dn P .any ops Q fuel (listed.setIfInBounds i true) (a.put (ops.getD i default).dst v) w':=by
   intro x v φ' w' hx hle' R' hrep
   refine ih _ φ' _ w' (by simpa using hs) ?_ ?_ (Ren.le_trans hle hle') ?_ ?_ (by rw[(S4 _ _ _).2];exact hd) (by rw[(S4 _ _ _).1];exact hsz)
   ·have hsub:∀j,(!(listed.setIfInBounds i true).getD j false)=((!listed.getD j false) && !decide (j=i)):=by
     intro j
     have:=congrFun hlist' j
     rw[this]
     cases decide (j=i)<;>cases listed.getD j false<;>rfl
    exact Nat.le_of_lt_succ (Nat.lt_of_lt_of_le (aGq hsub (by rw[hiu];rfl) _ (List.mem_range.2 hil)) hf)
   ·intro j hj hl b hb htb
    have hl':=congrFun hlist' j
    have hb':=congrFun hlist' b
    rw[hl']at hl
    rw[hb']
    simp only[Bool.or_eq_true,decide_eq_true_eq]at hl ⊢
    rcases hl with rfl | hl
    ·exact .inr (htest b hb htb)
    ·exact .inr (hcl j hj hl b hb htb)
   ·rw[hlist']
    have:cur (fun k t=>look (Γs k) t) (fun k t=>(zx ((vl.getD k default).1.dst)).testBit t) ops.size (look (Γs 0)) (fun j=>decide (j=i)||listed.getD j false)=acV (ops.getD i default).dst x (cur (fun k t=>look (Γs k) t) (fun k t=>(zx ((vl.getD k default).1.dst)).testBit t) ops.size (look (Γs 0)) (fun j=>listed.getD j false)):=by
     funext q
     rw[aBV hil (fun m hm hml hlm hw=>by
      cases hw2:(zx ((vl.getD m default).1.dst)).testBit q with
      | false=>rfl
      | true=>rw[hpD]at hw;exact((behind m hm hml hlm).tww q hw hw2).elim) hiu]
     rw[hpD]
     unfold acV
     rw[←hc.dst]
     by_cases e:p.1.dst=some q
     ·rw[if_pos ((U8 _ _).2 e),if_pos e,hx,UX]
      simp[acV,e]
     ·have e' : ¬(zx p.1.dst).testBit q=true:=fun h=>e ((U8 _ _).1 h)
      rw[if_neg e',if_neg e]
    rw[this]
    exact(he.mono hle').put hrep fun q hq=>Nat.lt_of_lt_of_le (hc.lt q hq) hsz
   ·rw[hlist']
    have:cur (fun k n=>(ss k).h.get n) (fun k n=>(ws k).testBit n) ops.size (kx h2 (ss 0)) (fun j=>decide (j=i)||listed.getD j false)=kx (cur (fun k n=>(ss k).h.get n) (fun k n=>(ws k).testBit n) ops.size (kx h2 (ss 0)) (fun j=>listed.getD j false)) t:=by
     funext q
     rw[aBV hil (fun m hm hml hlm hw=>by
      cases hw2:(ws m).testBit q with
      | false=>rfl
      | true=>exact((behind m hm hml hlm).ww q hw hw2).elim) hiu]
     unfold kx
     rw[hs2,hws]
     cases t.w.testBit q<;>simp
    rw[this];exact R'
  have hoi:ops[i]? = some (ops.getD i default):=by simp[Array.getD,hil]
  unfold wpOpIn
  rw[hoi]
  simp only
  have R0:Rel w0 φ (kx (cur (fun k n=>(ss k).h.get n) (fun k n=>(ws k).testBit n) ops.size (kx h2 (ss 0)) (fun j=>listed.getD j false)) {ss i with w:=0}) w:=by rw[hov0];exact R
  rcases G8 (g:=(ss i).h.get) hcall R0 (fun _ _=>rfl) he hc hag hst hread (next:=wpAnyIn (FW fr) dn P .any ops Q fuel (listed.setIfInBounds i true)) (Q:=Q) (fun q hq x v φ' w' hpx hle' R' hrep=>by
    rw[ew.1 hq]at hpx R'
    exact next x v φ' w' hpx hle' R' hrep)with⟨hw,hh⟩ | ⟨hw,hh⟩
  ·simp only[hw,ik]
   exact hh
  ·simp only[hw,jw,ck]
   exact⟨fun _ _=>trivial,hh⟩
end
end Go.RM
namespace Go.RM
open Go.VM (Pt Fr iq o5)
def XM:Exit→Ex→Prop
 | .normal,.normal=>True
 | .exit i,.exit j=>i=j
 | .ret,.ret=>True
 | _,_=>False
def TOk (P : Program) (T : Tr RF) : Prop := ∀ f rf, T.get f = some rf → ∃ fn c, P.funcs[f]? = some fn ∧ fn.body = some c ∧ kY P fn.ntmps c = some rf.code ∧ fn.results.toList.mapM (Iz P) = some rf.res ∧ (fn.name == "runtime.NumGoroutine") = false
section
variable {P:Program} {w0:World} {φ:Ren} {g h2:Hp} {s:S} {Γ:Tr V} {a:Act} {w:World} {call:mz}
theorem A9{n:Nat}{ops:Array Oper}{draw:Bool}:(IQ P n ops draw).getD .bad = .bad∨∃d vl,(IQ P n ops draw).getD .bad = .region d vl:=by
 unfold IQ
 cases ops.toList.mapM (sV P n ops)with
 | none=>exact .inl rfl
 | some vl =>
  simp only[Option.bind_some]
  split
  ·exact .inr ⟨_,_,rfl⟩
  ·exact .inl rfl
theorem MX{n:Nat}{ops:Array Oper}{draw:Bool}{c:RC}(h:(IQ P n ops draw).getD .bad=c):c = .bad∨∃d vl,c = .region d vl:=by
 rw[←h];exact A9
theorem E2{n:Nat}{c:Code}{d:Option (List Nat)}{vl:List (ROp×Nat)}(hc:kY P n c=some (.region d vl)) :
  ∃id ops draw,c = .region id ops draw∧ops.toList.mapM (sV P n ops)=some vl∧(d=none→draw=false)∧(∀bs,d=some bs→draw=true∧bs=KZ ops∧atq ops=true∧P.follows .mixedOrders=true):=by
 cases c<;>simp only[kY,ak,aw,bk,reduceCtorEq,and_false,exists_false]at hc
 rename_i id ops draw
 unfold IQ at hc
 cases hm:ops.toList.mapM (sV P n ops)with
 | none=>rw[hm]at hc;simp at hc
 | some vl' =>
  rw[hm]at hc
  simp only[Option.bind_some]at hc
  split at hc
  ·rename_i hd
   simp only[Option.getD_some,RC.region.injEq]at hc
   obtain⟨h1,rfl⟩:=hc
   refine⟨id,ops,draw,rfl,hm,fun h=>?_,fun bs hbs=>?_⟩
   ·subst h
    cases draw with
    | false=>rfl
    | true=>simp at h1
   ·subst hbs
    cases draw with
    | false=>simp at h1
    | true =>
     simp only[ik,bk]at h1
     exact⟨rfl,h1.symm,hd rfl⟩
  ·simp at hc
theorem arX(hcall:JV P w0 call)(hinv:CQ call){fr:Option Nat}{dn:Nat}{ds:List Deferred}{n:Nat}{φ0:Ren}{ops:Array Oper}{vl:List (ROp×Nat)}(hm:ops.toList.mapM (sV P n ops)=some vl)(hok:atq ops=true)(hf:P.follows .mixedOrders=true){id:Nat}
  {outs:List (Tr V×S)} {r:Nat} (hx:D1 call vl (KZ ops) 0 [] Γ s 0=some (outs,r)) (hr:∀n,r.testBit n=true→h2 n=g n) (st:StR ds w0 n g h2 φ0 (look Γ) s a w) {Q:Exit→Act→World→Prop}
  (hk:∀p∈outs,∀a' w',StR ds w0 n g h2 φ0 (look p.1) p.2 a' w'→Q .normal a' w'):(Code.region id ops true).wpIn (FW fr) dn P Q a w:=by
 obtain⟨Γs,ss,rs,ws,e1,e2,e3,ht,hrr,_,_⟩:=VY vl (KZ ops) 0 [] Γ s 0 outs r hx
 obtain⟨φ,hle,he,R,hi,hd,hs⟩:=st
 have hnone:∀j,(Array.replicate ops.size false).getD j false=false:=by
  intro j
  by_cases hj:j<ops.size<;>simp[Array.getD,hj]
 have hc0:∀ {β:Type} (f:Nat→Nat→β) (Wr:Nat→Nat→Bool) (base:Nat→β),cur f Wr ops.size base (fun j=>(Array.replicate ops.size false).getD j false)=base:=by
  intro β f Wr base
  funext q
  unfold cur
  have:I8 (fun m=>(Array.replicate ops.size false).getD m false&&Wr m q) ops.size=none:=by
   cases h:I8 (fun m=>(Array.replicate ops.size false).getD m false&&Wr m q) ops.size with
   | none=>rfl
   | some m=>obtain⟨_,h2,_⟩:=G4 h;rw[hnone m]at h2;simp at h2
  rw[this]
 refine wpIn_region_any hf (Wx (Q:=Q) hcall hinv hm (axq hok) ht (fun k hk n hn=>hr n (hrr k hk n hn)) (by rw[e2];exact hi) (fun a' w' st'=>hk _ (by rw[e3];exact ew.2 rfl) a' w' st') ops.size _ φ a _ (by simp) ?_ ?_ hle ?_ ?_ hd hs)
 ·refine Nat.le_trans (List.length_filter_le _ _) (by simp)
 ·intro j hj hl;rw[hnone j]at hl;simp at hl
 ·rw[hc0,e1];exact he
 ·rw[hc0,e2]
  exact R.turn (fun _ => False) (Ren.le_refl φ) (fun _ _ => rfl) (fun n l h1 h2 => by rw[h1]at h2;simp at h2) (Fr.drew w _) (fun _ _ h => h.elim) (fun _ _ _ h => h.elim) (fun _ _ _ _ _ h => h.elim) (fun _ _ _ _ _ h => by rcases h with h | h<;>exact h.elim) (fun _ _ _ _ _ _ _ h => h.elim) (fun _ h => h.elim) (fun _ _ h => h.elim)
theorem abx{E:Nat→V}(he:EnvR φ a (look Γ))(R:Rel w0 φ (kx h2 s) w)(hi:Inv g s){rv:ResultVar}{vr:RR}(hc:Iz P rv=some vr){x:V}{r:Nat}(hr:∀n,r.testBit n=true→h2 n=g n){xs:List V}{vrs:List RR}(hx:NX Γ s (vr::vrs)=some (x::xs,r)) :
  ∃v,Sem.run P (match rv with | .tmp t => (pure (a.tmps.getD t undef):Sem Value) | .cell p t => (do loadVar t (←asAddr (a.tmps.getD p undef)))) w = .ok v w ∧ RepS φ v x ∧ ∃r',NX Γ s vrs=some (xs,r') ∧ ∀n,r'.testBit n=true → h2 n=g n := by
 cases rv with
 | tmp t =>
  simp only[Iz,bk]at hc
  subst hc
  simp only[NX]at hx
  rw[f4]at hx
  obtain⟨hp,hx⟩:=hx
  simp only[aw]at hx
  obtain⟨⟨xs',r'⟩,h1,h2'⟩:=hx
  cases h2'
  exact⟨_,rfl,PW hp (he t),_,h1,hr⟩
 | cell p t =>
  simp only[Iz,TZ,aw,ak]at hc
  obtain⟨⟨d,i⟩,⟨d',hd,i',hti,hee⟩,hc⟩:=hc
  cases hee
  have key:∀n,n=(if iq d then i.size else 1)→NX Γ s (.cell p n (iq d)::vrs)=some (x::xs,r) →
    ∃v,Sem.run P (do loadVar t (←asAddr (a.tmps.getD p undef))) w = .ok v w∧RepS φ v x∧∃r',NX Γ s vrs=some (xs,r')∧∀n,r'.testBit n=true→h2 n=g n:=by
   intro n hn hx
   simp only[NX]at hx
   split at hx
   ·rename_i m off heq
    simp only[ak]at hx
    obtain⟨q,hg,cs,hcut,hx⟩:=hx
    rw[f4]at hx
    obtain⟨hp,hx⟩:=hx
    simp only[aw]at hx
    obtain⟨⟨xs',r'⟩,h1,h2'⟩:=hx
    cases h2'
    have hs0:=he p
    have hl:look Γ p = .c (.ptr m off):=heq
    rw[hl]at hs0
    obtain⟨b,β,lim,hφ,hv⟩:=w4 hs0
    have hrep:=R.rep m _ ((wJ hi (hr m (Q0 (p4 m)))).trans (N0 hg))
    obtain⟨vs,hlen,hlie,hpt⟩:=NK hrep hφ hcut
    have hrun:=o5 (P:=P) hd hti hlie
    refine⟨if iq d then .agg vs.toArray else vs.headD undef,?_,?_,r',h1,fun n hn=>hr n (W6 hn)⟩
    ·cases hag:iq d with
     | true =>
      simp[hag]at hn
      simp only[hv,asAddr,Sem.run_bind,Sem.run_pure,Result.andThen_ok,ik];exact hrun.1 hag (hlen.trans hn)
     | false =>
      simp[hag]at hn
      match vs,hlen.trans hn with
      | [v],_ =>
       simp only[hv,asAddr,Sem.run_bind,Sem.run_pure,Result.andThen_ok,jw,ck];exact hrun.2 hag v rfl
    ·cases hag:iq d with
     | true =>
      rw[hag]at hp
      exact PW hp (PJ hpt)
     | false =>
      simp[hag]at hn
      match vs,hlen.trans hn with
      | [v],_ =>
       rw[hag]at hp
       exact PW hp (H5 hpt)
   ·simp at hx
  cases hg:iq d with
  | true=>simp only[hg,ik]at hc;subst hc;exact key i.size (by simp[hg]) (by rw[hg];exact hx)
  | false=>simp only[hg,jw,ck]at hc;subst hc;exact key 1 (by simp[hg]) (by rw[hg];exact hx)
theorem aUW{vr:RR}{vrs:List RR}{xs:List V}{r:Nat}(hx:NX Γ s (vr::vrs)=some (xs,r)):∃x xs',xs=x::xs':=by
 cases vr with
 | tmp t =>
  simp only[NX]at hx
  rw[f4]at hx
  obtain⟨_,hx⟩:=hx
  simp only[aw]at hx
  obtain⟨_,_,h⟩:=hx
  cases h;exact⟨_,_,rfl⟩
 | cell t n g =>
  simp only[NX]at hx
  split at hx
  ·simp only[ak]at hx
   obtain⟨_,_,_,_,hx⟩:=hx
   rw[f4]at hx
   obtain⟨_,hx⟩:=hx
   simp only[aw]at hx
   obtain⟨_,_,h⟩:=hx
   cases h;exact⟨_,_,rfl⟩
  ·simp at hx
theorem N7(he:EnvR φ a (look Γ))(R:Rel w0 φ (kx h2 s) w)(hi:Inv g s):∀(rs:List ResultVar) (vrs:List RR) (xs:List V) (r:Nat),rs.mapM (Iz P)=some vrs→NX Γ s vrs=some (xs,r)→(∀n,r.testBit n=true→h2 n=g n) →
  ∃vs,Sem.run P (rs.mapM fun rv => (match rv with | .tmp t => (pure (a.tmps.getD t undef):Sem Value) | .cell p t => (do loadVar t (←asAddr (a.tmps.getD p undef))))) w = .ok vs w ∧ Pt (RepS φ) vs xs
 | [],vrs,xs,r,hm,hx,hr=>by
  simp at hm;subst hm
  simp only[NX]at hx;cases hx
  exact⟨[],by simp,Go.VM.Pt.nil⟩
 | rv::rs,vrs,xs,r,hm,hx,hr=>by
  simp only[List.mapM_cons,Option.bind_eq_bind,Option.pure_def]at hm
  cases hrv:Iz P rv with
  | none=>simp[hrv]at hm
  | some vr =>
   cases hrs:rs.mapM (Iz P)with
   | none=>simp[hrv,hrs]at hm
   | some vrs' =>
    simp[hrv,hrs]at hm
    subst hm
    obtain⟨x,xs',rfl⟩:=aUW hx
    obtain⟨v,hv,hrep,r',h1,h2'⟩:=abx (E:=look Γ) (P:=P) he R hi hrv hr hx
    obtain⟨vs,hvs,hreps⟩:=N7 he R hi rs vrs' xs' r' hrs h1 h2'
    refine⟨v::vs,?_,Go.VM.Pt.cons hrep hreps⟩
    rw[List.mapM_cons,Sem.run_bind,hv,Result.andThen_ok,Sem.run_bind,hvs]
    rfl
theorem OJ(he:EnvR φ a (look Γ))(R:Rel w0 φ (kx h2 s) w)(hi:Inv g s){fn:Func}{vrs:List RR}{outs:List (V×S)}{r:Nat}(hm:fn.results.toList.mapM (Iz P)=some vrs)(hx:adx vrs Γ s=some (outs,r))(hr:∀n,r.testBit n=true→h2 n=g n) :
  ∃v,(results fn a.tmps).run P w = .ok v w∧∃p∈outs,p.2=s∧RepV φ v p.1:=by
 unfold adx at hx
 split at hx
 ·simp at hx
 ·rename_i xs r' hl
  cases hx
  obtain⟨vs,hvs,hp⟩:=N7 (P:=P) he R hi fn.results.toList vrs xs r hm hl hr
  have hrun:(results fn a.tmps).run P w = .ok (if h:vs.toArray.size=1 then vs.toArray[0]else .tuple vs.toArray) w:=by
   unfold results
   rw[←Array.toArray_toList (xs:=fn.results),List.mapM_toArray]
   simp only[Sem.run_bind,Sem.run_map]
   exact(congrArg (fun r:Result (List Value)=>((r.andThen fun a w'=>Result.ok a.toArray w').andThen fun a w'=>Sem.run P (pure (if h:a.size=1 then a[0]else Value.tuple a)) w')) hvs).trans rfl
  refine⟨_,hrun,_,ew.2 rfl,rfl,?_⟩
  match vs,xs,hp with
  | [],[],hp=>exact⟨#[],by simp,Go.VM.Pt.nil⟩
  | [v],[x],hp =>
   simp only[U5]
   simpa using Yj (hp.2 0 v x rfl rfl)
  | v::v'::vs,x::x'::xs,hp =>
   simp only[U5]
   exact⟨(v::v'::vs).toArray,by simp,hp⟩
  | [],_::_,hp=>have:=hp.1;simp at this
  | [_],[],hp=>have:=hp.1;simp at this
  | [_],_::_::_,hp=>have:=hp.1;simp at this
  | _::_::_,[],hp=>have:=hp.1;simp at this
  | _::_::_,[_],hp=>have:=hp.1;simp at this
theorem asq{vrs:List RR}{outs:List (V×S)}{r:Nat}(hx:adx vrs Γ s=some (outs,r)):∀p∈outs,p.2=s:=by
 unfold adx at hx
 split at hx
 ·simp at hx
 ·cases hx;intro p hp;rw[ew.1 hp]
theorem aBq{α:Type}:∀(xs:List α) (i:Nat) (t:Tr α) (m:Nat),(ofL xs i t).get m=if i≤m then(match xs[m-i]? with | some x => some x | none => t.get m)else t.get m
 | [],i,t,m=>by simp[ofL]
 | x::xs,i,t,m=>by
  simp only[ofL]
  rw[aBq xs (i+1) _ m,Tr.get_set]
  by_cases h1:i+1≤m
  ·have h2:i≤m:=by omega
   have h3 : ¬m=i:=by omega
   obtain⟨d,hd⟩ : ∃d,m-i=d+1:=⟨m-i-1,by omega⟩
   have h4:m-(i+1)=d:=by omega
   simp[h1,h2,h3,hd,h4]
  ·by_cases h2:m=i
   ·subst h2
    have h3 : ¬m+1≤m:=by omega
    simp[h3]
   ·have h3 : ¬i≤m:=by omega
    simp[h1,h2,h3]
theorem aGQ{α:Type}(xs:List α)(m:Nat):(ofL xs 0 .lf).get m=xs[m]?:=by
 rw[aBq]
 simp only[Nat.zero_le,ik,Nat.sub_zero,Tr.get]
 cases xs[m]?<;>rfl
end
section
variable {P:Program} {w0:World} {orc:mz} {T:Tr RF}
theorem GW(orc:mz)(T:Tr RF)(n:Nat)(rc:RC)(Γ:Tr V)(s:S):exec orc T (n+1) rc Γ s=match rc with
 | .skip=>one (.normal,Γ,s)
 | .region none ops=>xj (Qx (oY orc T n) ops Γ s) fun p=>one (.normal,p.1,p.2)
 | .region (some tab) ops=>xj (D1 (oY orc T n) ops tab 0 [] Γ s 0) fun p=>one (.normal,p.1,p.2)
 | .seq a b=>xj (exec orc T n a Γ s) fun p=>match p.1 with
  | .normal=>exec orc T n b p.2.1 p.2.2
  | _=>one p
 | .cond c a b=>match isB (ev Γ c)with
  | none=>none
  | some true=>exec orc T n a Γ s
  | some false=>exec orc T n b Γ s
 | .block id b=>xj (exec orc T n b Γ s) fun p=>match p.1 with
  | .exit id'=>bif Nat.beq id' id then one (.normal,p.2.1,p.2.2)else one p
  | _=>one p
 | .loop b=>xj (exec orc T n b Γ s) fun p=>match p.1 with
  | .normal=>exec orc T n (.loop b) p.2.1 p.2.2
  | _=>one p
 | .exit id=>one (.exit id,Γ,s)
 | .ret=>one (.ret,Γ,s)
 | .bad=>none:=by cases rc<;>rfl
theorem W9{P:Program}{fr:Option Nat}{dn:Nat}{c:Code}{Q Q':Exit→Act→World→Prop}(hq:∀e a w,Q e a w→Q' e a w):∀(m:Nat) (a:Act) (w:World),Code.roundsIn (FW fr) dn P c Q m a w→Code.roundsIn (FW fr) dn P c Q' m a w
 | 0,_,_,h=>h
 | m+1,a,w,h=>by
  rw[roundsIn_succ]at h ⊢
  refine wpIn_mono h fun e a' w' hh=>?_
  cases e with
  | normal=>exact W9 hq m a' w' hh
  | _=>exact hq _ _ _ hh
def aNz(P:Program)(w0:World)(orc:mz)(T:Tr RF)(n:Nat):Prop :=
 ∀rc Γ s outs r,exec orc T n rc Γ s=some (outs,r)→(∀g,Inv g s→∀p∈outs,Inv g p.2.2) ∧
  ∀nt c,kY P nt c=some rc→∀fr dn ds g h2 φ0 a w,(∀n,r.testBit n=true→h2 n=g n)→StR ds w0 nt g h2 φ0 (look Γ) s a w →
   c.wpIn (FW fr) dn P (fun e a' w'=>∃p∈outs,XM e p.1∧StR ds w0 nt g h2 φ0 (look p.2.1) p.2.2 a' w') a w ∧
   ∀b,c = .loop b→Code.roundsIn (FW fr) dn P b (fun e a' w'=>∃p∈outs,XM e p.1∧StR ds w0 nt g h2 φ0 (look p.2.1) p.2.2 a' w') n a w
theorem Uj(hT:TOk P T)(ho:JV P w0 orc)(hoi:CQ orc){n:Nat}(hE:aNz P w0 orc T n):JV P w0 (oY orc T n)∧CQ (oY orc T n):=by
 refine⟨fun f args s outs r hx=>?_,fun f args s outs r hx g hi p hp=>?_⟩
 ·unfold oY at hx
  split at hx
  ·exact ho f args s outs r hx
  ·rename_i rf dK
   obtain⟨fn,c,hfn,hb,hc,hres,hnm⟩:=hT f rf dK
   refine⟨⟨fn,hfn,by rw[hb];rfl,hnm⟩,fun g h2 φ w vs hr hi R hargs=>?_⟩
   obtain⟨l,r0,hl,hr0,hmem⟩:=C4 hx
   have hwp:=(hE rf.code (ofL args 0 .lf) s l r0 hl).2 fn.ntmps c hc none 0 [] g h2 φ {tmps:=vs.toArray++Array.replicate (fn.ntmps-vs.toArray.size) undef,defers:=[]} w (fun n hn=>hr n (hr0 n hn)) (by
    refine⟨φ,Ren.le_refl φ,fun t=>?_,R,hi,rfl,by simp;omega⟩
    unfold look
    rw[aGQ]
    cases hx:args[t]? with
    | none=>trivial
    | some x =>
     have hlt:t<vs.length:=by rw[hargs.1];exact(cw.1 hx).1
     have dK:(vs.toArray++Array.replicate (fn.ntmps-vs.toArray.size) undef).getD t undef=vs[t]:=by
      simp[Array.getD,hlt]
      intro hh;omega
     rw[dK]
     exact hargs.2 t _ x (dw hlt) hx)
   refine calls_of_wp hfn hb (wp_mono ((wpIn_wide (n:=0)).1 hwp.1) fun e a' w' hq=>?_)
   obtain⟨p,hp,hxm,φ',hle,he,R',hi',hd,_⟩:=hq
   obtain⟨zs,q,hz,hzs,hq⟩:=hmem p hp
   have fin:(p.1 = .normal∨p.1 = .ret)→a'.defers=[]∧∃v,(results fn a'.tmps).run P w' = .ok v w'∧∃v',Ending.returned v = .returned v'∧∃p∈outs,∃φ',φ.le φ'∧Rel w0 φ' (kx h2 p.2) w'∧RepV φ' v' p.1:=by
    intro hpe
    have hz':adx rf.res p.2.1 p.2.2=some (zs,q) := by rcases hpe with h | h<;>(rw[h]at hz;exact hz)
    obtain⟨v,hv,p2,hp2,hs2,hrep⟩:=OJ (P:=P) he R' hi' hres hz' (fun n hn=>hr n (hq n hn))
    exact⟨hd,v,hv,v,rfl,p2,hzs p2 hp2,φ',hle,by rw[hs2];exact R',hrep⟩
   cases e with
   | normal=>exact fin (.inl (by revert hxm;cases p.1<;>simp[XM]))
   | ret=>exact fin (.inr (by revert hxm;cases p.1<;>simp[XM]))
   | exit id =>
    exfalso
    revert hxm hz
    cases p.1<;>simp[XM]
   | goto _=>exact hxm.elim
   | panic _=>exact hxm.elim
   | outgrown=>exact hxm.elim
 ·unfold oY at hx
  split at hx
  ·exact hoi f args s outs r hx g hi p hp
  ·rename_i rf dK
   refine Bz (C:=fun p=>Inv g p.2) hx (fun l r0 hl a ha zs q hz z hzm=>?_) p hp
   have h1:=(hE rf.code (ofL args 0 .lf) s l r0 hl).1 g hi a ha
   split at hz
   ·rw[asq hz z hzm];exact h1
   ·rw[asq hz z hzm];exact h1
   ·simp at hz
theorem aoX{call:mz}(hinv:CQ call){g:Hp}:∀(vl:List (ROp×Nat)) (Γ:Tr V) (s:S) (outs:List (Tr V×S)) (r:Nat),Qx call vl Γ s=some (outs,r)→Inv g s→∀p∈outs,Inv g p.2
 | [],Γ,s,outs,r,h,hi=>by simp only[Qx]at h;cases h;intro p hp;rw[ew.1 hp];exact hi
 | o::os,Γ,s,outs,r,h,hi=>by
  simp only[Qx]at h
  exact Bz (C:=fun p=>Inv g p.2) h fun l r0 hl a ha zs q hz z hzm=>aoX hinv os a.1 a.2 zs q hz (O9 hinv hl hi a ha) z hzm
theorem aEW{call:mz}(hinv:CQ call){g:Hp}{vl:List (ROp×Nat)}{tab:List Nat}{Γ:Tr V}{s:S}{outs:List (Tr V×S)}{r:Nat}(h:D1 call vl tab 0 [] Γ s 0=some (outs,r))(hi:Inv g s):∀p∈outs,Inv g p.2:=by
 obtain⟨Γs,ss,rs,ws,e1,e2,e3,ht,_,_,_⟩:=VY vl tab 0 [] Γ s 0 outs r h
 have key:∀k,k≤vl.length→Inv g (ss k):=by
  intro k
  induction k with
  | zero=>intro _;rw[e2];exact hi
  | succ k ih =>
   intro hk n hn
   obtain⟨t,h1,h2,h3⟩:=ht.step k vl[k] (dw (by omega))
   have hi1:=O9 (g:=(ss k).h.get) hinv h1 (fun _ _=>rfl) _ (ew.2 rfl)
   rw[h2]at hn ⊢
   simp only[s6,Bool.or_eq_false_iff]at hn
   rw[hi1 n hn.2]
   exact ih (by omega) n hn.1
 intro p hp
 rw[e3]at hp
 rw[ew.1 hp]
 exact key _ (kw _)
theorem aBX(hT:TOk P T)(ho:JV P w0 orc)(hoi:CQ orc):∀n,aNz P w0 orc T n
 | 0=>fun rc Γ s outs r h=>by simp[exec]at h
 | n+1=>by
  have ih:=aBX hT ho hoi n
  obtain⟨hcall,hinv⟩:=Uj hT ho hoi ih
  intro rc Γ s outs r hx
  rw[GW]at hx
  cases rc with
  | skip =>
   cases hx
   refine⟨fun g hi p hp=>by rw[ew.1 hp];exact hi,fun nt c hc fr dn ds g h2 φ0 a w hr st=>?_⟩
   cases c<;>simp only[kY,ak,aw,bk,reduceCtorEq,and_false,exists_false]at hc
   ·exact⟨wpIn_skip ⟨_,ew.2 rfl,trivial,st⟩,fun b h=>by simp at h⟩
   ·rcases MX hc with h | ⟨_,_,h⟩<;>simp at h
  | ret =>
   cases hx
   refine⟨fun g hi p hp=>by rw[ew.1 hp];exact hi,fun nt c hc fr dn ds g h2 φ0 a w hr st=>?_⟩
   cases c<;>simp only[kY,ak,aw,bk,reduceCtorEq,and_false,exists_false]at hc
   ·rcases MX hc with h | ⟨_,_,h⟩<;>simp at h
   ·exact⟨wpIn_ret ⟨_,ew.2 rfl,trivial,st⟩,fun b h=>by simp at h⟩
  | exit id =>
   cases hx
   refine⟨fun g hi p hp=>by rw[ew.1 hp];exact hi,fun nt c hc fr dn ds g h2 φ0 a w hr st=>?_⟩
   cases c<;>simp only[kY,ak,aw,bk,reduceCtorEq,and_false,exists_false,RC.exit.injEq]at hc
   ·rcases MX hc with h | ⟨_,_,h⟩<;>simp at h
   ·subst hc;exact⟨wpIn_exit ⟨_,ew.2 rfl,rfl,st⟩,fun b h=>by simp at h⟩
  | bad=>simp at hx
  | region d ops =>
   cases d with
   | none =>
    obtain⟨l,r0,hl,hr0,hmem⟩:=C4 hx
    have hin:∀p∈l,((Ex.normal,p.1,p.2):Ex×Tr V×S)∈outs:=fun p hp=>by
     obtain⟨zs,q,hz,hzs,_⟩:=hmem p hp
     cases hz;exact hzs _ (ew.2 rfl)
    refine⟨fun g hi=>?_,fun nt c hc fr dn ds g h2 φ0 a w hr st=>?_⟩
    ·exact Bz (C:=fun p=>Inv g p.2.2) hx fun l' r' hl' b hb zs q hz z hzm=>by
      cases hz;rw[ew.1 hzm]
      exact aoX hinv ops Γ s l' r' hl' hi b hb
    ·obtain⟨id,ops',dr,rfl,hm,hd,_⟩:=E2 hc
     obtain rfl:=hd rfl
     refine⟨wpIn_region_list (aiz (φ0:=φ0) (ops:=ops') hcall hinv ops'.toList ops Γ s a w l r0 hm hl (fun n hn=>hr n (hr0 n hn)) st fun p hp a' w' st'=>⟨_,hin p hp,trivial,st'⟩),fun b h=>by simp at h⟩
   | some tab =>
    obtain⟨l,r0,hl,hr0,hmem⟩:=C4 hx
    have hin:∀p∈l,((Ex.normal,p.1,p.2):Ex×Tr V×S)∈outs:=fun p hp=>by
     obtain⟨zs,q,hz,hzs,_⟩:=hmem p hp
     cases hz;exact hzs _ (ew.2 rfl)
    refine⟨fun g hi=>?_,fun nt c hc fr dn ds g h2 φ0 a w hr st=>?_⟩
    ·exact Bz (C:=fun p=>Inv g p.2.2) hx fun l' r' hl' b hb zs q hz z hzm=>by
      cases hz;rw[ew.1 hzm]
      exact aEW hinv hl' hi b hb
    ·obtain⟨id,ops',dr,rfl,hm,_,hd⟩:=E2 hc
     obtain⟨rfl,rfl,hoo,hmx⟩:=hd tab rfl
     exact⟨arX hcall hinv hm hoo hmx hl (fun n hn=>hr n (hr0 n hn)) st fun p hp a' w' st'=>⟨_,hin p hp,trivial,st'⟩,fun b h=>by simp at h⟩
  | seq x y =>
   obtain⟨l,r0,hl,hr0,hmem⟩:=C4 hx
   have hi1:=ih x Γ s l r0 hl
   refine⟨fun g hi=>?_,fun nt c hc fr dn ds g h2 φ0 a w hr st=>?_⟩
   ·refine Bz (C:=fun p=>Inv g p.2.2) hx fun l' r' hl' b hb zs q hz z hzm=>?_
    have h1:=(ih x Γ s l' r' hl').1 g hi b hb
    split at hz
    ·exact(ih y _ _ zs q hz).1 g h1 z hzm
    ·cases hz;rw[ew.1 hzm];exact h1
   ·cases c<;>simp only[kY,ak,aw,bk,reduceCtorEq,and_false,exists_false,RC.seq.injEq]at hc
    ·rcases MX hc with h | ⟨_,_,h⟩<;>simp at h
    ·obtain⟨x',hx',y',hy',rfl,rfl⟩:=hc
     refine⟨wpIn_seq (wpIn_mono (hi1.2 nt _ hx' fr dn ds g h2 φ0 a w (fun n hn=>hr n (hr0 n hn)) st).1 fun e a' w' hq=>?_),fun b h=>by simp at h⟩
     obtain⟨p,hp,hxm,st'⟩:=hq
     obtain⟨zs,q,hz,hzs,hq⟩:=hmem p hp
     cases e with
     | normal =>
      have hpe:p.1 = .normal:=by revert hxm;cases p.1<;>simp[XM]
      rw[hpe]at hz
      exact wpIn_mono ((ih y' p.2.1 p.2.2 zs q hz).2 nt _ hy' fr dn ds g h2 φ0 a' w' (fun n hn=>hr n (hq n hn)) st').1 fun e2 a2 w2 ⟨p2,hp2,hx2,st2⟩=>⟨p2,hzs p2 hp2,hx2,st2⟩
     | exit id =>
      have hz:one p=some (zs,q):=by revert hz hxm;cases p.1<;>first | exact fun h _=>h | simp[XM]
      cases hz
      exact⟨p,hzs p (ew.2 rfl),hxm,st'⟩
     | ret =>
      have hz:one p=some (zs,q):=by revert hz hxm;cases p.1<;>first | exact fun h _=>h | simp[XM]
      cases hz
      exact⟨p,hzs p (ew.2 rfl),hxm,st'⟩
     | goto _=>exact hxm.elim
     | panic _=>exact hxm.elim
     | outgrown=>exact hxm.elim
  | cond q x y =>
   simp only at hx
   cases hb:isB (ev Γ q)with
   | none=>rw[hb]at hx;simp at hx
   | some t =>
    have hsel:exec orc T n (if t=true then x else y) Γ s=some (outs,r):=by
     rw[hb]at hx
     cases t<;>simpa using hx
    have hi1:=ih _ Γ s outs r hsel
    refine⟨hi1.1,fun nt c hc fr dn ds g h2 φ0 a w hr st=>?_⟩
    cases c<;>simp only[kY,ak,aw,bk,reduceCtorEq,and_false,exists_false,RC.cond.injEq]at hc
    ·rcases MX hc with h | ⟨_,_,h⟩<;>simp at h
    ·obtain⟨c',hc',x',hx',y',hy',rfl,rfl,rfl⟩:=hc
     have hv:=(fun(st:StR ds w0 nt g h2 φ0 (look Γ) s a w)=>let ⟨φ,_,he,_⟩:=st;amx (bY he hc') hb) st
     refine⟨wpIn_cond_split hv (fun ht=>?_) (fun ht=>?_),fun b h=>by simp at h⟩
     ·subst ht
      exact(hi1.2 nt _ (by simpa using hx') fr dn ds g h2 φ0 a w hr st).1
     ·subst ht
      exact(hi1.2 nt _ (by simpa using hy') fr dn ds g h2 φ0 a w hr st).1
  | block id b =>
   obtain⟨l,r0,hl,hr0,hmem⟩:=C4 hx
   have hi1:=ih b Γ s l r0 hl
   refine⟨fun g hi=>?_,fun nt c hc fr dn ds g h2 φ0 a w hr st=>?_⟩
   ·refine Bz (C:=fun p=>Inv g p.2.2) hx fun l' r' hl' b' hb zs q hz z hzm=>?_
    have h1:=(ih b Γ s l' r' hl').1 g hi b' hb
    split at hz
    ·rename_i id' _
     cases hbq:Nat.beq id' id with
     | true=>rw[hbq]at hz;cases hz;rw[ew.1 hzm];exact h1
     | false=>rw[hbq]at hz;cases hz;rw[ew.1 hzm];exact h1
    ·cases hz;rw[ew.1 hzm];exact h1
   ·cases c<;>simp only[kY,ak,aw,bk,reduceCtorEq,and_false,exists_false,RC.block.injEq]at hc
    ·rcases MX hc with h | ⟨_,_,h⟩<;>simp at h
    ·rename_i id0 cb
     obtain⟨b',hb',hid,hbe⟩:=hc
     subst hbe
     rw[hid]
     refine⟨wpIn_block (wpIn_mono (hi1.2 nt _ hb' fr dn ds g h2 φ0 a w (fun n hn=>hr n (hr0 n hn)) st).1 fun e a' w' hq=>?_),fun b h=>by simp at h⟩
     obtain⟨p,hp,hxm,st'⟩:=hq
     obtain⟨zs,q,hz,hzs,hq⟩:=hmem p hp
     cases e with
     | normal =>
      have hz:one p=some (zs,q):=by revert hz hxm;cases p.1<;>first | exact fun h _=>h | simp[XM]
      cases hz
      exact⟨p,hzs p (ew.2 rfl),hxm,st'⟩
     | ret =>
      have hz:one p=some (zs,q):=by revert hz hxm;cases p.1<;>first | exact fun h _=>h | simp[XM]
      cases hz
      exact⟨p,hzs p (ew.2 rfl),hxm,st'⟩
     | exit id' =>
      have hpe:p.1 = .exit id':=by revert hxm;cases p.1<;>simp[XM];exact fun h=>h.symm
      rw[hpe]at hz
      simp only[Exit.inBlock]
      by_cases e:id'=id
      ·subst e
       have hz:one (Ex.normal,p.2.1,p.2.2)=some (zs,q):=by simpa using hz
       cases hz
       rw[if_pos rfl]
       exact⟨_,hzs _ (ew.2 rfl),trivial,st'⟩
      ·have hbq:Nat.beq id' id=false:=by
        cases h:Nat.beq id' id with
        | false=>rfl
        | true=>exact absurd (zK h) e
       simp only[hbq,cond_false]at hz
       cases hz
       rw[if_neg e]
       exact⟨_,hzs _ (ew.2 rfl),by rw[hpe];rfl,st'⟩
     | goto _=>exact hxm.elim
     | panic _=>exact hxm.elim
     | outgrown=>exact hxm.elim
  | loop b =>
   obtain⟨l,r0,hl,hr0,hmem⟩:=C4 hx
   have hi1:=ih b Γ s l r0 hl
   refine⟨fun g hi=>?_,fun nt c hc fr dn ds g h2 φ0 a w hr st=>?_⟩
   ·refine Bz (C:=fun p=>Inv g p.2.2) hx fun l' r' hl' b' hb zs q hz z hzm=>?_
    have h1:=(ih b Γ s l' r' hl').1 g hi b' hb
    split at hz
    ·exact(ih (.loop b) _ _ zs q hz).1 g h1 z hzm
    ·cases hz;rw[ew.1 hzm];exact h1
   ·have hc':=hc
    cases c<;>simp only[kY,ak,aw,bk,reduceCtorEq,and_false,exists_false,RC.loop.injEq]at hc
    ·rcases MX hc with h | ⟨_,_,h⟩<;>simp at h
    ·rename_i cb
     obtain⟨b',hb',hbe⟩:=hc
     have hbe:=hbe.symm
     subst hbe
     have key:Code.roundsIn (FW fr) dn P cb (fun e a' w'=>∃p∈outs,XM e p.1∧StR ds w0 nt g h2 φ0 (look p.2.1) p.2.2 a' w') (n+1) a w:=by
      rw[roundsIn_succ]
      refine wpIn_mono (hi1.2 nt _ hb' fr dn ds g h2 φ0 a w (fun n hn=>hr n (hr0 n hn)) st).1 fun e a' w' hq=>?_
      obtain⟨p,hp,hxm,st'⟩:=hq
      obtain⟨zs,q,hz,hzs,hq⟩:=hmem p hp
      cases e with
      | normal =>
       have hpe:p.1 = .normal:=by revert hxm;cases p.1<;>simp[XM]
       rw[hpe]at hz
       exact W9 (fun e2 a2 w2 ⟨p2,hp2,hx2,st2⟩=>⟨p2,hzs p2 hp2,hx2,st2⟩) n a' w' (((ih (.loop b) p.2.1 p.2.2 zs q hz).2 nt _ hc' fr dn ds g h2 φ0 a' w' (fun n hn=>hr n (hq n hn)) st').2 cb rfl)
      | exit id =>
       have hz:one p=some (zs,q):=by revert hz hxm;cases p.1<;>first | exact fun h _=>h | simp[XM]
       cases hz
       exact⟨p,hzs p (ew.2 rfl),hxm,st'⟩
      | ret =>
       have hz:one p=some (zs,q):=by revert hz hxm;cases p.1<;>first | exact fun h _=>h | simp[XM]
       cases hz
       exact⟨p,hzs p (ew.2 rfl),hxm,st'⟩
      | goto _=>exact hxm.elim
      | panic _=>exact hxm.elim
      | outgrown=>exact hxm.elim
     exact⟨wpIn_loop_rounds (n+1) key,fun b'' h=>by cases h;exact key⟩
end
end Go.RM
namespace Go.RM
open Go.VM (Pt Fr T RepT RepC Fun noHeap xz Jq qY Oid Lies)
def toX:Go.VM.C→Option X
 | .imm t=>some (imX t)
 | .nilS=>some (.sc i8)
 | .nilM=>some (.sc (.map none))
 | _=>none
def toV:Go.VM.V→Option V
 | .c x=>(toX x).map .c
 | .agg cs=>(cs.mapM toX).map .agg
 | _=>none
theorem aBK{w:World}{ok:Nat→Prop}{B:Oid→Value}{φ:Ren}(hw:φ.w0=w)(hk:φ.ok=ok){v:Value}{c:Go.VM.C}{x:X}(h:RepC w ok B v c)(hx:toX c=some x):RepX φ v x:=by
 subst hw;subst hk
 cases h<;>simp only[toX,bk,reduceCtorEq]at hx
 ·subst hx;exact aCJ ‹_›
 ·subst hx;exact .sc _ rfl
 ·subst hx;exact .sc _ rfl
theorem aqZ{w:World}{ok:Nat→Prop}{B:Oid→Value}{φ:Ren}(hw:φ.w0=w)(hk:φ.ok=ok):∀(vs:List Value) (cs:List Go.VM.C) (xs:List X),Pt (RepC w ok B) vs cs→cs.mapM toX=some xs→Pt (RepX φ) vs xs
 | [],cs,xs,hp,hx=>by
  have:cs=[]:=gk (by have:=hp.1;simpa using this.symm)
  subst this
  simp at hx;subst hx;exact Go.VM.Pt.nil
 | v::vs,cs,xs,hp,hx=>by
  cases cs with
  | nil=>have:=hp.1;simp at this
  | cons c cs =>
   simp only[List.mapM_cons,Option.bind_eq_bind,Option.pure_def]at hx
   cases h1:toX c with
   | none=>simp[h1]at hx
   | some x =>
    cases h2:cs.mapM toX with
    | none=>simp[h1,h2]at hx
    | some r =>
     simp[h1,h2]at hx
     subst hx
     have ht:Pt (RepC w ok B) vs cs:=⟨by have:=hp.1;simpa using this,fun j u z hu hz=>hp.2 (j+1) u z (by simpa using hu) (by simpa using hz)⟩
     exact Go.VM.Pt.cons (aBK hw hk (hp.2 0 v c rfl rfl) h1) (aqZ hw hk vs cs r ht h2)
theorem aUZ{w:World}{ok:Nat→Prop}{B:Oid→Value}{φ:Ren}(hw:φ.w0=w)(hk:φ.ok=ok){v:Value}{c:Go.VM.V}{x:V}(h:Go.VM.RepV w ok B v c)(hx:toV c=some x):RepV φ v x:=by
 cases c with
 | c y =>
  simp only[toV,aw]at hx
  obtain⟨z,hz,rfl⟩:=hx
  exact aBK (B:=B) hw hk h hz
 | agg cs =>
  simp only[toV,aw]at hx
  obtain⟨z,hz,rfl⟩:=hx
  obtain⟨us,rfl,hp⟩:=h
  exact⟨us,rfl,aqZ hw hk _ _ _ hp hz⟩
 | tup _=>simp[toV]at hx
 | junk=>simp[toV]at hx
theorem arW{w:World}{ok:Nat→Prop}{B:Oid→Value}{φ:Ren}(hw:φ.w0=w)(hk:φ.ok=ok):∀(vs:List Value) (cs:List Go.VM.V) (xs:List V),Pt (Go.VM.RepV w ok B) vs cs→cs.mapM toV=some xs→Pt (RepV φ) vs xs
 | [],cs,xs,hp,hx=>by
  have:cs=[]:=gk (by have:=hp.1;simpa using this.symm)
  subst this
  simp at hx;subst hx;exact Go.VM.Pt.nil
 | v::vs,cs,xs,hp,hx=>by
  cases cs with
  | nil=>have:=hp.1;simp at this
  | cons c cs =>
   simp only[List.mapM_cons,Option.bind_eq_bind,Option.pure_def]at hx
   cases h1:toV c with
   | none=>simp[h1]at hx
   | some x =>
    cases h2:cs.mapM toV with
    | none=>simp[h1,h2]at hx
    | some r =>
     simp[h1,h2]at hx
     subst hx
     have ht:Pt (Go.VM.RepV w ok B) vs cs:=⟨by have:=hp.1;simpa using this,fun j u z hu hz=>hp.2 (j+1) u z (by simpa using hu) (by simpa using hz)⟩
     exact Go.VM.Pt.cons (aUZ hw hk (hp.2 0 v c rfl rfl) h1) (arW hw hk vs cs r ht h2)
inductive TreeX(h:Hp)(fresh:Bool):X→T→Prop
 | sc (v:Value):TreeX h fresh (.sc v) (.sc v)
 | nil (k:Nat):TreeX h fresh (.sc i8) (.sl k [])
 | es (k:Nat):TreeX h fresh .es (.sl k [])
 | ez (k:Nat):TreeX h fresh .ez (.sl k [])
 | im (k:Nat) (rows:List (List T)):fresh=false→TreeX h fresh (.im k rows) (.sl k rows)
 | im0 (k k':Nat):TreeX h fresh (.im k []) (.sl k' [])
 | sl0 (n k off k':Nat):TreeX h fresh (.sl n k off 0) (.sl k' [])
 | sl (n k off:Nat) (rows:List (List T)) (e:TypeId) (cs xs:List X):h n=some (.cells e cs)→cut cs off (rows.length*k)=some xs→(∀row∈rows,row.length=k)→xs.length=rows.flatten.length →
   (∀(j:Nat) x t,xs[j]? = some x→rows.flatten[j]? = some t→TreeX h fresh x t)→TreeX h fresh (.sl n k off rows.length) (.sl k rows)
def Xx(h:Hp)(fresh:Bool):V→Go.VM.V→Prop
 | .c x,.c (.imm t)=>TreeX h fresh x t
 | .agg xs,.agg cs=>Pt (fun x c=>∃t,c = .imm t∧TreeX h fresh x t) xs cs
 | _,_=>False
def aNQ(h:Hp)(fresh:Bool):V→Go.VM.V→Prop
 | .tup xs,.tup ys=>Pt (Xx h fresh) xs ys
 | x,y=>Xx h fresh x y
section
variable {w0 w:World} {φ:Ren} {h:Hp} {fresh:Bool} {B:Oid→Value}
theorem agx(R:Rel w0 φ h w){v:Value}{x:X}{t:T}(hx:RepX φ v x)(ht:TreeX h fresh x t):RepT w (Jq fresh w0.heap.size φ.ok w B noHeap) v t:=by
 induction ht generalizing v with
 | sc u => cases hx with | sc _ h => exact .sc _ h
 | nil k=>cases hx;exact .nil _ _ _
 | es k=>cases hx;exact .nil _ _ _
 | ez k=>cases hx;exact .nil _ _ _
 | im k rows hf =>
  cases hx with
  | im _ _ _ hrt =>
   rw[R.w0e]at hrt
   exact hrt.mono (fun b hb=>R.fr.block b (R.okl b hb) id) fun b hb=>⟨⟨Nat.lt_of_lt_of_le (R.okl b hb) R.fr.size,fun _=>hb,fun o ob ho=>by simp[noHeap]at ho⟩,fun h=>by rw[hf]at h;simp at h⟩
 | im0 k k' =>
  rcases UZ (φ := φ) hx with⟨_,a,cap,rfl⟩ | ⟨b,off,cap,rfl,_⟩
  ·exact .nil _ _ _
  ·exact .nil _ _ _
 | sl0 n k off k' =>
  cases hx with
  | sl=>exact .nil _ _ _
 | sl n k off rows e cs xs hn hcut hk hl _ ih =>
  cases hx with
  | sl _ _ _ _ b β lim o cap hφ hlen ho hlim =>
   by_cases h0:rows=[]
   ·subst h0;exact .nil _ _ _
   ·have hpos:0<rows.length:=List.length_pos_iff.2 h0
    have ho:=ho hpos
    subst ho
    obtain⟨vs,hvl,hlie,hp⟩:=NK (R.rep n _ hn) hφ hcut
    have hb:w0.heap.size≤b:=R.old n _ b hn rfl ⟨_,_,hφ⟩
    have dK:∀(i:Nat) row (j:Nat) x,rows[i]? = some row→row[j]? = some x→rows.flatten[i*k+j]? = some x:=by
     intro i row j x hi hj
     have hrl:=hk row (fk hi)
     have hjl:j<k:=by rw[←hrl];exact(cw.1 hj).1
     have hf:=Go.VM.flatten_get rows i row hk hi
     have:((rows.flatten.drop (i*k)).take k)[j]? = some x:=by rw[hf];exact hj
     simpa[lk,hjl,List.getElem?_drop]using this
    have hval:∀(i:Nat) row (j:Nat) x,rows[i]? = some row→row[j]? = some x→∃u,vs[i*k+j]? = some u∧RepT w (Jq fresh w0.heap.size φ.ok w B noHeap) u x:=by
     intro i row j x hi hj
     have hx:=dK i row j x hi hj
     have hlt:i*k+j<xs.length:=by rw[hl];exact(cw.1 hx).1
     have hlt':i*k+j<vs.length:=by rw[hp.1];exact hlt
     exact⟨vs[i*k+j],dw hlt',ih _ _ _ (dw hlt) hx (hp.2 _ _ _ (dw hlt') (dw hlt))⟩
    refine .sl b (β+off) cap k rows (fun i j=>vs.getD (i*k+j) undef) ⟨⟨R.lt n b ⟨_,_,hφ⟩,fun hlt=>by omega,fun o ob ho=>by simp[noHeap]at ho⟩,fun _=>hb⟩ hlen hk ?_ ?_
    ·intro i row j x hi hj
     obtain⟨u,hu,_⟩:=hval i row j x hi hj
     have:=hlie _ u hu
     simp only[List.getD,hu,Option.getD_some]
     rw[Nat.add_assoc];exact this
    ·intro i row j x hi hj
     obtain⟨u,hu,hr⟩:=hval i row j x hi hj
     simp only[List.getD,hu,Option.getD_some]
     exact hr
theorem Wj(R:Rel w0 φ h w){v:Value}{x:V}{y:Go.VM.V}(hx:RepS φ v x)(ht:Xx h fresh x y):Go.VM.RepS w (Jq fresh w0.heap.size φ.ok w B noHeap) B v y:=by
 unfold Xx at ht
 split at ht
 ·exact RepC.imm _ _ (agx R hx ht)
 ·obtain⟨cs,rfl,hp⟩:=hx
  refine⟨cs,rfl,hp.1.trans ht.1,fun j u c hu hc=>?_⟩
  have hlt:j<cs.toList.length:=(cw.1 hu).1
  have hlt':j<_:=hp.1▸hlt
  obtain⟨t,rfl,hx⟩:=ht.2 j _ c (dw hlt') hc
  exact RepC.imm _ _ (agx R (hp.2 j u _ hu (dw hlt')) hx)
 ·exact ht.elim
theorem aDx(R:Rel w0 φ h w){v:Value}{x:V}{y:Go.VM.V}(hx:RepV φ v x)(ht:aNQ h fresh x y):Go.VM.RepV w (Jq fresh w0.heap.size φ.ok w B noHeap) B v y:=by
 unfold aNQ at ht
 split at ht
 ·obtain⟨vs,rfl,hp⟩:=hx
  refine⟨vs,rfl,hp.1.trans ht.1,fun j u c hu hc=>?_⟩
  have hlt:j<vs.toList.length:=(cw.1 hu).1
  have hlt':j<_:=hp.1▸hlt
  exact Wj R (hp.2 j u _ hu (dw hlt')) (ht.2 j _ c (dw hlt') hc)
 ·cases x with
  | c _ =>
   cases y with
   | c _=>exact Wj R (x:=.c _) (y:=.c _) hx ht
   | _=>simp[Xx]at ht
  | agg _ =>
   cases y with
   | agg _=>exact Wj R (x:=.agg _) (y:=.agg _) hx ht
   | _=>simp[Xx]at ht
  | tup _=>simp[Xx]at ht
  | junk=>simp[Xx]at ht
end
def PK:List (Nat×RF)→Tr RF
 | []=>.lf
 | p::r=>(PK r).set p.1 p.2
theorem XX:∀ {l:List (Nat×RF)} {f:Nat} {rf:RF},(PK l).get f=some rf→(f,rf)∈l
 | [],f,rf,h=>by simp[PK,Tr.get]at h
 | p::l,f,rf,h=>by
  simp only[PK,Tr.get_set]at h
  by_cases e:f=p.1
  ·rw[if_pos e]at h
   cases h
   rw[e];exact List.mem_cons_self
  ·rw[if_neg e]at h
   exact List.mem_cons_of_mem _ (XX h)
def awX(P:Program)(f:FuncId):Bool:=match P.funcs[f]? with
 | some fn => !(fn.name == "runtime.NumGoroutine")
 | none=>false
theorem aXz{P:Program}{l:List (Nat×RF)}(h:∀p∈l,aZK P p.1=some p.2∧awX P p.1=true):TOk P (PK l):=by
 intro f rf hf
 obtain⟨h1,h2⟩:=h _ (XX hf)
 simp only[aZK,ak,aw]at h1
 obtain⟨fn,hfn,c,hc,rc,hrc,rs,hrs,rfl⟩:=h1
 refine⟨fn,c,hfn,hc,hrc,hrs,?_⟩
 simp only[awX,hfn,Bool.not_eq_true']at h2
 exact h2
def s0:S:=⟨.lf,0,0⟩
def ajX:mz:=fun _ _ _=>none
theorem aPY(P:Program)(w0:World):JV P w0 ajX:=fun _ _ _ _ _ h=>by simp[ajX]at h
theorem aEY:CQ ajX:=fun _ _ _ _ _ h=>by simp[ajX]at h
theorem ayZ{P:Program}{orc:mz}{T:Tr RF}(hT:TOk P T)(ho:∀w0,JV P w0 orc)(hoi:CQ orc){f:FuncId}{vs:List Go.VM.V}{us:List V}(hus:vs.mapM toV=some us){fresh:Bool}{r:Go.VM.V}
  {n:Nat} {outs:List (V×S)} {rr:Nat} (hx:oY orc T n f us s0=some (outs,rr)) (hr:∀p∈outs,aNQ p.2.h.get fresh p.1 r):Fun P f fresh [] vs noHeap r noHeap:=by
 intro w ok B args hlt hbl hp hobjs
 obtain⟨hcall,hinv⟩:=Uj hT (ho w) hoi (aBX hT (ho w) hoi n)
 let φ:Ren:=⟨fun _=>none,w,ok,fun _=>none⟩
 have R:Rel w φ (kx (fun _=>none) s0) w:=by
  have hn:∀m,kx (fun _=>none) s0 m=none:=fun m=>by simp[kx,s0]
  exact⟨fun m o h=>by rw[hn]at h;simp at h,fun m _ o _ _ h=>by rw[hn]at h;simp at h,fun m o _ h=>by rw[hn]at h;simp at h,fun m _ _ _ h=>by rw[hn]at h;simp at h,fun _ _=>rfl,fun m b ⟨_,_,h⟩=>by simp[φ]at h,Fr.refl _ _,rfl,hlt,fun D o h=>by simp[φ]at h⟩
 refine((hcall f us s0 outs rr hx).2 (fun _=>none) (fun _=>none) φ w args (fun _ _=>rfl) (fun m _=>rfl) R (arW rfl rfl _ _ _ hp hus)).mono fun e w' hh=>?_
 obtain⟨v,rfl,p,hpm,φ',hle,R',hrep⟩:=hh
 have hov:kx (fun _=>none) p.2=p.2.h.get:=by
  funext m
  unfold kx
  cases hb:p.2.w.testBit m with
  | true=>rfl
  | false=>exact(hinv f us s0 outs rr hx (fun _=>none) (fun _ _=>rfl) p hpm m hb).symm
 rw[hov]at R'
 have hok:φ'.ok=ok:=hle.ok
 refine⟨v,B,rfl,⟨R'.fr.os,R'.fr.tape,R'.fr.output,R'.fr.size,fun b hb _=>R'.fr.block b hb id⟩,?_,⟨fun o ob h=>by simp[noHeap]at h,fun o o' ob ob' b h=>by simp[noHeap]at h⟩,fun o ob b h=>by simp[noHeap]at h,fun o h=>by simp at h⟩
 have:=aDx (B:=B) (fresh:=fresh) R' hrep (hr p hpm)
 rw[hok]at this
 exact this
end Go.RM
namespace Go.RM
def Up{α:Type}(f f':Option α):Prop:=∀x,f=some x→f'=some x
theorem Up.refl{α:Type}(f:Option α):Up f f:=fun _ h=>h
theorem Up.trans{α:Type}{f f' f'':Option α}(h:Up f f')(h':Up f' f''):Up f f'':=fun x hx=>h' x (h x hx)
theorem TK{α β:Type}{f f':α→Out β}:∀(l:List α) (r:Nat),(∀a∈l,Up (f a) (f' a))→Up (DV f l r) (DV f' l r)
 | [],r,_=>fun x h=>h
 | a::l,r,h=>fun x hx=>by
  simp only[DV]at hx ⊢
  split at hx
  ·simp at hx
  ·rename_i ys r1 hf
   rw[h a List.mem_cons_self _ hf]
   split at hx
   ·simp at hx
   ·rename_i zs r2 he
    rw[TK l _ (fun b hb=>h b (List.mem_cons_of_mem _ hb)) _ he]
    exact hx
theorem B8{α β:Type}{x x':Out α}{f f':α→Out β}(hx:Up x x')(h:∀a,Up (f a) (f' a)):Up (xj x f) (xj x' f'):=by
 intro y hy
 unfold xj at hy ⊢
 split at hy
 ·simp at hy
 ·rename_i l r
  rw[hx _ rfl]
  exact TK l r (fun a _=>h a) y hy
def Vz(call call':mz):Prop:=∀f args s,Up (call f args s) (call' f args s)
theorem aOX{call call':mz}(h:Vz call call')(e:Opd→V)(s:S)(ro:RO):Up (opX call e s ro) (opX call' e s ro):=by
 intro x hx
 cases ro
 case call f args=>exact h _ _ _ x hx
 case callv y args =>
  simp only[opX]at hx ⊢
  split at hx
  ·exact h _ _ _ x hx
  ·simp at hx
 all_goals exact hx
theorem OW{call call':mz}(h:Vz call call')(o:ROp)(Γ:Tr V)(s:S):Up (xX call o Γ s) (xX call' o Γ s):=by
 intro x hx
 unfold xX at hx ⊢
 split at hx
 ·simp at hx
 ·exact hx
 ·exact B8 (aOX h _ _ _) (fun a=>Up.refl _) x hx
theorem Uz{call call':mz}(h:Vz call call'):∀(os:List (ROp×Nat)) (Γ:Tr V) (s:S),Up (Qx call os Γ s) (Qx call' os Γ s)
 | [],_,_=>Up.refl _
 | o::os,Γ,s=>by
  intro x hx
  simp only[Qx]at hx ⊢
  exact B8 (OW h _ _ _) (fun a=>Uz h os a.1 a.2) x hx
theorem T5{call call':mz}(h:Vz call call'):∀(os:List (ROp×Nat)) (tab:List Nat) (i:Nat) (ds:List Did) (Γ:Tr V) (s:S) (r:Nat),Up (D1 call os tab i ds Γ s r) (D1 call' os tab i ds Γ s r)
 | [],_,_,_,_,_,_=>Up.refl _
 | o::os,[],i,ds,Γ,s,r=>by intro x hx;simp[D1]at hx
 | o::os,b::tab,i,ds,Γ,s,r=>by
  intro x hx
  simp only[D1]at hx ⊢
  split at hx
  ·rename_i Γ' s' r' hst
   rw[OW h _ _ _ _ hst]
   simp only
   cases hall:ds.all (fun x=>JX b x ⟨i,o.2,zx o.1.dst,r',s'.w⟩)with
   | false=>simp[hall]at hx
   | true =>
    simp only[hall,cond_true]at hx ⊢
    exact T5 h os tab _ _ _ _ _ x hx
  ·simp at hx
theorem EW(orc:mz)(T:Tr RF):∀(n:Nat) (c:RC) (Γ:Tr V) (s:S),Up (exec orc T n c Γ s) (exec orc T (n+1) c Γ s)
 | 0,_,_,_=>fun x h=>by simp[exec]at h
 | n+1,c,Γ,s=>by
  have hc:Vz (oY orc T n) (oY orc T (n+1)):=by
   intro f args s x hx
   unfold oY at hx ⊢
   split at hx
   ·exact hx
   ·exact B8 (EW orc T n _ _ _) (fun a=>Up.refl _) x hx
  intro x hx
  rw[GW]at hx ⊢
  cases c with
  | skip=>exact hx
  | ret=>exact hx
  | exit _=>exact hx
  | bad=>exact hx
  | region d ops =>
   cases d with
   | none=>exact B8 (Uz hc _ _ _) (fun a=>Up.refl _) x hx
   | some tab=>exact B8 (T5 hc _ _ _ _ _ _ _) (fun a=>Up.refl _) x hx
  | seq a b =>
   refine B8 (EW orc T n a Γ s) (fun p=>?_) x hx
   intro y hy
   split at hy
   ·exact EW orc T n b _ _ y hy
   ·exact hy
  | cond q a b =>
   simp only at hx ⊢
   split at hx
   ·simp at hx
   ·rename_i hb
    exact EW orc T n a _ _ x hx
   ·rename_i hb
    exact EW orc T n b _ _ x hx
  | block id b=>exact B8 (EW orc T n b Γ s) (fun a=>Up.refl _) x hx
  | loop b =>
   refine B8 (EW orc T n b Γ s) (fun p=>?_) x hx
   intro y hy
   split at hy
   ·exact EW orc T n (.loop b) _ _ y hy
   ·exact hy
theorem B3(orc:mz)(T:Tr RF)(n:Nat):Vz (oY orc T n) (oY orc T (n+1)):=by
 intro f args s x hx
 unfold oY at hx ⊢
 split at hx
 ·exact hx
 ·exact B8 (EW orc T n _ _ _) (fun a=>Up.refl _) x hx
def Mono{α:Type}(g:Nat→Out α):Prop:=∀n,Up (g n) (g (n+1))
theorem Mono.le{α:Type}{g:Nat→Out α}(h:Mono g){n m:Nat}(hnm:n≤m):Up (g n) (g m):=by
 obtain⟨d,rfl⟩:=Nat.le.dest hnm
 clear hnm
 induction d with
 | zero=>exact Up.refl _
 | succ d ih=>exact ih.trans (h (n+d))
theorem Mono.exec(orc:mz)(T:Tr RF)(c:RC)(Γ:Tr V)(s:S):Mono fun n=>exec orc T n c Γ s:=fun n=>EW orc T n c Γ s
theorem Mono.call(orc:mz)(T:Tr RF)(f:FuncId)(args:List V)(s:S):Mono fun n=>oY orc T n f args s:=fun n=>B3 orc T n f args s
theorem Mono.const{α:Type}(x:Out α):Mono fun _=>x:=fun _=>Up.refl _
theorem Mono.bind{α β:Type}{g:Nat→Out α}{f:Nat→α→Out β}(h:Mono g)(h':∀a,Mono fun n=>f n a):Mono fun n=>xj (g n) (f n):=fun n=>B8 (h n) fun a=>h' a n
def Ev{α:Type}(g:Nat→Out α)(F:Nat→Prop)(D:Prop)(Q:α→Prop):Prop :=
 ∃n outs r,g n=some (outs,r)∧(∀p∈outs,Q p)∧(∀k,r.testBit k=true→F k)∧(D→∃p,outs=[p])
theorem Ev.mono{α:Type}{g:Nat→Out α}{F F':Nat→Prop}{D D':Prop}{Q Q':α→Prop}(h:Ev g F D Q)(hF:∀k,F k→F' k)(hD:D'→D)(hQ:∀p,Q p→Q' p):Ev g F' D' Q':=by
 obtain⟨n,outs,r,h1,h2,h3,h4⟩:=h
 exact⟨n,outs,r,h1,fun p hp=>hQ p (h2 p hp),fun k hk=>hF k (h3 k hk),fun d=>h4 (hD d)⟩
theorem Ev.congr{α:Type}{g g':Nat→Out α}{F:Nat→Prop}{D:Prop}{Q:α→Prop}(h:Ev g F D Q)(e:∀n,g' n=g n):Ev g' F D Q:=by
 obtain⟨n,outs,r,h1,h2⟩:=h
 exact⟨n,outs,r,(e n).trans h1,h2⟩
theorem Ev.shift{α:Type}{g:Nat→Out α}{F:Nat→Prop}{D:Prop}{Q:α→Prop}(h:Ev (fun n=>g (n+1)) F D Q):Ev g F D Q:=by
 obtain⟨n,outs,r,h1,h2⟩:=h
 exact⟨n+1,outs,r,h1,h2⟩
theorem Ev.one{α:Type}{x:α}{F:Nat→Prop}{D:Prop}{Q:α→Prop}(h:Q x):Ev (fun _=>one x) F D Q :=
 ⟨0,[x],0,rfl,fun p hp=>by rw[ew.1 hp];exact h,fun k hk=>by simp at hk,fun _=>⟨x,rfl⟩⟩
theorem Ev.some{α:Type}{x:α}{r:Nat}{F:Nat→Prop}{D:Prop}{Q:α→Prop}(h:Q x)(hr:∀k,r.testBit k=true→F k):Ev (fun _=>some ([x],r)) F D Q :=
 ⟨0,[x],r,rfl,fun p hp=>by rw[ew.1 hp];exact h,hr,fun _=>⟨x,rfl⟩⟩
theorem anq{α β:Type}{f:Nat→α→Out β}(hm:∀a,Mono fun n=>f n a){F:Nat→Prop}{D:Prop}{Q:β→Prop}:∀(l:List α) (r0:Nat),(∀k,r0.testBit k=true→F k)→(∀a∈l,Ev (fun n=>f n a) F D Q)→(D→∃p,l=[p]) →
  ∃n outs r,DV (f n) l r0=Option.some (outs,r)∧(∀p∈outs,Q p)∧(∀k,r.testBit k=true→F k)∧(D→∃p,outs=[p])
 | [],r0,h0,_,hD=>⟨0,[],r0,rfl,by simp,h0,fun d=>by obtain⟨p,hp⟩:=hD d;simp at hp⟩
 | a::l,r0,h0,h,hD=>by
  obtain⟨n1,o1,r1,e1,q1,f1,d1⟩:=h a List.mem_cons_self
  have hD':D→l=[]:=fun d=>by obtain⟨p,hp⟩:=hD d;cases hp;rfl
  have h1:∀k,(Nat.lor r0 r1).testBit k=true→F k:=fun k hk=>by
   rw[s6,Bool.or_eq_true]at hk
   exact hk.elim (h0 k) (f1 k)
  by_cases hl:l=[]
  ·subst hl
   refine⟨n1,o1,Nat.lor r0 r1,?_,q1,h1,d1⟩
   simp[DV,e1]
  ·obtain⟨n2,o2,r2,e2,q2,f2,_⟩:=anq (D:=False) hm l (Nat.lor r0 r1) h1 (fun b hb=>(h b (List.mem_cons_of_mem _ hb)).mono (fun _ h=>h) (fun h=>h.elim) (fun _ h=>h)) (fun h=>h.elim)
   refine⟨max n1 n2,o1++o2,r2,?_,fun p hp=>(nw.1 hp).elim (q1 p) (q2 p),f2,fun d=>absurd (hD' d) hl⟩
   simp only[DV]
   rw[(hm a).le (Nat.le_max_left n1 n2) _ e1]
   simp only
   have:Up (DV (f n2) l (Nat.lor r0 r1)) (DV (f (max n1 n2)) l (Nat.lor r0 r1)):=TK l _ fun b _=>(hm b).le (Nat.le_max_right n1 n2)
   rw[this _ e2]
theorem Ev.bind{α β:Type}{g:Nat→Out α}{f:Nat→α→Out β}(hg:Mono g)(hm:∀a,Mono fun n=>f n a){F:Nat→Prop}{D:Prop}{Q:β→Prop}(h:Ev g F D fun a=>Ev (fun n=>f n a) F D Q):Ev (fun n=>xj (g n) (f n)) F D Q:=by
 obtain⟨n1,l,r0,e1,q1,f1,d1⟩:=h
 obtain⟨n2,outs,r,e2,q2,f2,d2⟩:=anq hm l r0 f1 q1 d1
 refine⟨max n1 n2,outs,r,?_,q2,f2,d2⟩
 show xj (g (max n1 n2)) (f (max n1 n2))=_
 rw[hg.le (Nat.le_max_left n1 n2) _ e1]
 simp only[xj]
 have:Up (DV (f n2) l r0) (DV (f (max n1 n2)) l r0):=TK l _ fun b _=>(hm b).le (Nat.le_max_right n1 n2)
 exact this _ e2
section
variable (orc:mz) (T:Tr RF)
def Wp(c:RC)(Γ:Tr V)(s:S)(F:Nat→Prop)(D:Prop)(Q:Ex→Tr V→S→Prop):Prop:=Ev (fun n=>exec orc T n c Γ s) F D fun p=>Q p.1 p.2.1 p.2.2
def Cp(f:FuncId)(args:List V)(s:S)(F:Nat→Prop)(D:Prop)(Q:V→S→Prop):Prop:=Ev (fun n=>oY orc T n f args s) F D fun p=>Q p.1 p.2
def Op(ro:RO)(e:Opd→V)(s:S)(F:Nat→Prop)(D:Prop)(Q:V→S→Prop):Prop:=Ev (fun n=>opX (oY orc T n) e s ro) F D fun p=>Q p.1 p.2
def Sq(os:List (ROp×Nat))(Γ:Tr V)(s:S)(F:Nat→Prop)(D:Prop)(Q:Tr V→S→Prop):Prop:=Ev (fun n=>Qx (oY orc T n) os Γ s) F D fun p=>Q p.1 p.2
end
section
variable {orc:mz} {T:Tr RF} {Γ:Tr V} {s:S} {F:Nat→Prop} {D:Prop} {Q:Ex→Tr V→S→Prop}
theorem Wp.mono{c:RC}{F':Nat→Prop}{D':Prop}{Q':Ex→Tr V→S→Prop}(h:Wp orc T c Γ s F D Q)(hF:∀k,F k→F' k)(hD:D'→D)(hQ:∀e Γ s,Q e Γ s→Q' e Γ s):Wp orc T c Γ s F' D' Q':=Ev.mono h hF hD fun p=>hQ _ _ _
theorem Cp.mono{f:FuncId}{args:List V}{F':Nat→Prop}{D':Prop}{Q Q':V→S→Prop}(h:Cp orc T f args s F D Q)(hF:∀k,F k→F' k)(hD:D'→D)(hQ:∀v s,Q v s→Q' v s):Cp orc T f args s F' D' Q':=Ev.mono h hF hD fun p=>hQ _ _
theorem aRZ(h:Q .normal Γ s):Wp orc T .skip Γ s F D Q:=Ev.shift (Ev.one (x:=(Ex.normal,Γ,s)) h)
theorem ayK(h:Q .ret Γ s):Wp orc T .ret Γ s F D Q:=Ev.shift (Ev.one (x:=(Ex.ret,Γ,s)) h)
def j1(k:Tr V→S→Prop)(Q:Ex→Tr V→S→Prop):Ex→Tr V→S→Prop
 | .normal,Γ,s=>k Γ s
 | e,Γ,s=>Q e Γ s
theorem MW{a b:RC}(h:Wp orc T a Γ s F D (j1 (fun Γ s=>Wp orc T b Γ s F D Q) Q)):Wp orc T (.seq a b) Γ s F D Q:=by
 refine Ev.shift (Ev.congr (Ev.bind (g:=fun n=>exec orc T n a Γ s) (f:=fun n (p:Ex×Tr V×S)=>match p.1 with
   | .normal=>exec orc T n b p.2.1 p.2.2
   | _=>one p) (Mono.exec orc T a Γ s) (fun p=>?_) (Ev.mono h (fun _ h=>h) (fun h=>h) fun p hp=>?_)) fun n=>GW orc T n (.seq a b) Γ s)
 ·obtain⟨e,Γ',s'⟩:=p
  cases e
  ·exact Mono.exec orc T b Γ' s'
  ·exact Mono.const _
  ·exact Mono.const _
 ·obtain⟨e,Γ',s'⟩:=p
  cases e
  ·exact hp
  ·exact Ev.one hp
  ·exact Ev.one hp
theorem alJ{q:Opd}{a b:RC}{t:Bool}(hb:isB (ev Γ q)=some t)(h:Wp orc T (bif t then a else b) Γ s F D Q):Wp orc T (.cond q a b) Γ s F D Q:=by
 refine Ev.shift (Ev.congr h fun n=>?_)
 rw[GW]
 simp only[hb]
 cases t<;>rfl
theorem aFV{os:List (ROp×Nat)}(h:Sq orc T os Γ s F D fun Γ s=>Q .normal Γ s):Wp orc T (.region none os) Γ s F D Q:=by
 refine Ev.shift (Ev.congr (Ev.bind (g:=fun n=>Qx (oY orc T n) os Γ s) (f:=fun _ (p:Tr V×S)=>one (Ex.normal,p.1,p.2)) (fun n=>Uz (B3 orc T n) _ _ _) (fun p=>Mono.const _) (Ev.mono h (fun _ h=>h) (fun h=>h) fun p hp=>Ev.one hp)) fun n=>GW orc T n (.region none os) Γ s)
theorem aYZ{Q:Tr V→S→Prop}(h:Q Γ s):Sq orc T [] Γ s F D Q:=Ev.one (x:=(Γ,s)) h
theorem aTW{o:ROp}{m:Nat}{os:List (ROp×Nat)}{Q:Tr V→S→Prop}(hw:iZ Γ o.guard=some true)(h:Op orc T o.op (ev Γ) s F D fun v s'=>Sq orc T os (putO o.dst v Γ) s' F D Q):Sq orc T ((o,m)::os) Γ s F D Q:=by
 have h1:Ev (fun n=>xX (oY orc T n) o Γ s) F D fun p=>Sq orc T os p.1 p.2 F D Q:=by
  refine Ev.congr (Ev.bind (g:=fun n=>opX (oY orc T n) (ev Γ) s o.op) (f:=fun _ (p:V×S)=>one (putO o.dst p.1 Γ,p.2)) (fun n=>aOX (B3 orc T n) _ _ _) (fun p=>Mono.const _) (Ev.mono h (fun _ h=>h) (fun h=>h) fun p hp=>Ev.one hp)) fun n=>?_
  simp only[xX,hw]
 refine Ev.congr (Ev.bind (g:=fun n=>xX (oY orc T n) o Γ s) (f:=fun n (p:Tr V×S)=>Qx (oY orc T n) os p.1 p.2) (fun n=>OW (B3 orc T n) _ _ _) (fun p n=>Uz (B3 orc T n) _ _ _) (Ev.mono h1 (fun _ h=>h) (fun h=>h) fun p hp=>hp)) fun n=>rfl
theorem aTY{o:ROp}{m:Nat}{os:List (ROp×Nat)}{Q:Tr V→S→Prop}(hw:iZ Γ o.guard=some false)(h:Sq orc T os (putO o.dst H3 Γ) s F D Q):Sq orc T ((o,m)::os) Γ s F D Q:=by
 have h1:Ev (fun n=>xX (oY orc T n) o Γ s) F D fun p=>Sq orc T os p.1 p.2 F D Q:=by
  refine Ev.congr (Ev.one (x:=(putO o.dst H3 Γ,s)) h) fun n=>?_
  simp only[xX,hw]
 refine Ev.congr (Ev.bind (g:=fun n=>xX (oY orc T n) o Γ s) (f:=fun n (p:Tr V×S)=>Qx (oY orc T n) os p.1 p.2) (fun n=>OW (B3 orc T n) _ _ _) (fun p n=>Uz (B3 orc T n) _ _ _) (Ev.mono h1 (fun _ h=>h) (fun h=>h) fun p hp=>hp)) fun n=>rfl
theorem aUj{ro:RO}{e:Opd→V}{Q:V→S→Prop}{v:V}(hp:d6 e ro=some v)(h:Q v s):Op orc T ro e s F D Q:=by
 have hpl:ro.plainOp=true:=by cases ro<;>first | rfl | simp[d6]at hp
 refine Ev.congr (Ev.one (x:=(v,s)) h) fun n=>?_
 rw[GK hpl,hp]
theorem aYV{ro:RO}{e:Opd→V}{Q:V→S→Prop}{v:V}{s':S}{r:Nat}(hn:d6 e ro=none)(hp:gK e s ro=some (v,s',r))(hr:∀k,r.testBit k=true→F k)(h:Q v s'):Op orc T ro e s F D Q:=by
 have hpl:ro.plainOp=true:=by cases ro<;>first | rfl | simp[gK]at hp
 refine Ev.congr (Ev.some (x:=(v,s')) h hr) fun n=>?_
 rw[GK hpl,hn,hp]
theorem aIY{x:Opd}{f:FuncId}{caps:List X}{as:List Opd}{e:Opd→V}{Q:V→S→Prop}(hx:e x = .c (.fn f caps))(h:Cp orc T f (as.map e++caps.map .c) s F D Q):Op orc T (.callv x as) e s F D Q:=by
 refine Ev.congr h fun n=>?_
 simp only[opX,hx]
theorem aCq{f:FuncId}{args:List V}{rf:RF}{Q:V→S→Prop}(hf:T.get f=some rf)
  (h:Wp orc T rf.code (ofL args 0 .lf) s F D fun e Γ s=>(e = .normal∨e = .ret)∧∃vs r,NX Γ s rf.res=some (vs,r)∧(∀k,r.testBit k=true→F k)∧Q (U5 vs) s):Cp orc T f args s F D Q:=by
 refine Ev.congr (Ev.bind (g:=fun n=>exec orc T n rf.code (ofL args 0 .lf) s) (f:=fun _ (p:Ex×Tr V×S)=>match p.1 with
   | .normal | .ret=>adx rf.res p.2.1 p.2.2
   | .exit _=>none) (Mono.exec orc T _ _ _) (fun p=>Mono.const _) (Ev.mono h (fun _ h=>h) (fun h=>h) fun p hp=>?_)) fun n=>?_
 ·obtain⟨he,vs,r,h1,h2,h3⟩:=hp
  have:(fun _:Nat=>(match p.1 with
   | .normal | .ret=>adx rf.res p.2.1 p.2.2
   | .exit _=>none:Out (V×S)))=fun _=>some ([(U5 vs,p.2.2)],r):=by
   funext _
   rcases he with he | he<;>simp only[he,adx,h1]
  rw[this]
  exact Ev.some h3 h2
 ·simp only[oY,hf]
  all_goals exact congrArg _ (funext fun p=>by cases p.1<;>rfl)
end
end Go.RM
