/- The raw machine, in parts: a walk that is reckoned, eK an explicit memory. -/
import Derived.Test.YtinhkpcgdfppkaaVm2
import Derived.Lib.Bytealg
import Derived.Laws.Externs
import Derived.KernelRfl
import Derived.MapFrom
import Derived.Maps.RangeRun
import Derived.RangeFuncLeaves
import Derived.RangeFuncCalls
import Derived.LoopNIn
import Derived.OrdersIn
import Derived.TacticsIn
import Derived.RangeFuncNested
namespace Go.RM
open Go.VM (Pt Fr T RepT At)
inductive X where
  | sc (v:Value)
  | ptr (n off:Nat)
  | sl (n k off len:Nat)
  | es
  | mp (n:Nat)
  | fn (f:FuncId) (caps:List X)
  | im (k:Nat) (rows:List (List T))
  | pI (cells:List T)
  | ez
  deriving Inhabited
inductive V where
  | c (x:X)
  | agg (xs:List X)
  | tup (vs:List V)
  | junk
  deriving Inhabited
inductive O where
  | cells (e:TypeId) (xs:List X)
  | map (kd:TypeDesc) (rng:Bool) (es:List (Value×V))
  | iter (m:Nat) (size:Nat) (seen:List Nat)
  | itern
  | dmap (kd:TypeDesc) (es:List (Value×V))
  | wmap (sh:List TypeDesc) (es:List (List Value×V))
  | dead
  deriving Inhabited
inductive Tr(α:Type) where
  | lf
  | nd (v:Option α) (l r:Tr α)
def Tr.get{α:Type}:Tr α→Nat→Option α
  | .lf,_=>none
  | .nd v l r,n=>match n with
    | 0=>v
    | n+1=>bif Nat.beq (n % 2) 0 then l.get (n / 2)else r.get (n / 2)
def Tr.one{α:Type}:Nat→Nat→α→Tr α
  | 0,_,_=>.lf
  | f+1,n,x=>match n with
    | 0=>.nd (some x) .lf .lf
    | n+1=>bif Nat.beq (n % 2) 0 then .nd none (Tr.one f (n / 2) x) .lf else .nd none .lf (Tr.one f (n / 2) x)
def Tr.set{α:Type}:Tr α→Nat→α→Tr α
  | .lf,n,x=>Tr.one (Nat.log2 n+2) n x
  | .nd v l r,n,x=>match n with
    | 0=>.nd (some x) l r
    | n+1=>bif Nat.beq (n % 2) 0 then .nd v (l.set (n / 2) x) r else .nd v l (r.set (n / 2) x)
theorem Tr.get_one{α:Type}(x:α):∀(f n m:Nat),n<2 ^ f-1→(Tr.one f n x).get m=if m=n then some x else none:=by
  intro f
  induction f with
  | zero=>intro n m h;omega
  | succ f ih =>
    intro n m h
    cases n with
    | zero =>
      simp only[Tr.one,Tr.get]
      cases m with
      | zero=>rfl
      | succ m =>
        simp only[Nat.add_eq_zero_iff,Nat.one_ne_zero,and_false,sk]
        cases Nat.beq (m % 2) 0<;>rfl
    | succ n =>
      have h2:n / 2<2 ^ f-1:=by have:2 ^ (f+1)=2*2 ^ f:=by rw[Nat.pow_succ];omega
                                omega
      simp only[Tr.one]
      by_cases e:n % 2=0
      ·have:Nat.beq (n % 2) 0=true:=by rw[e];rfl
       simp only[this,cond_true,Tr.get]
       cases m with
       | zero=>simp
       | succ m =>
         simp only
         by_cases e2:m % 2=0
         ·have:Nat.beq (m % 2) 0=true:=by rw[e2];rfl
          simp only[this,cond_true,ih _ _ h2]
          have:(m / 2=n / 2)↔(m+1=n+1):=by omega
          simp only[this]
         ·have:Nat.beq (m % 2) 0=false := by cases hb:Nat.beq (m % 2) 0 with | true => exact absurd (Nat.eq_of_beq_eq_true hb) e2 | false => rfl
          simp only[this,cond_false,Tr.get]
          have : ¬(m+1=n+1):=by omega
          simp only[this,sk]
      ·have:Nat.beq (n % 2) 0=false := by cases hb:Nat.beq (n % 2) 0 with | true => exact absurd (Nat.eq_of_beq_eq_true hb) e | false => rfl
       simp only[this,cond_false,Tr.get]
       cases m with
       | zero=>simp
       | succ m =>
         simp only
         by_cases e2:m % 2=0
         ·have:Nat.beq (m % 2) 0=true:=by rw[e2];rfl
          simp only[this,cond_true,Tr.get]
          have : ¬(m+1=n+1):=by omega
          simp only[this,sk]
         ·have:Nat.beq (m % 2) 0=false := by cases hb:Nat.beq (m % 2) 0 with | true => exact absurd (Nat.eq_of_beq_eq_true hb) e2 | false => rfl
          simp only[this,cond_false,ih _ _ h2]
          have:(m / 2=n / 2)↔(m+1=n+1):=by omega
          simp only[this]
theorem Tr.log_lt(n:Nat):n<2 ^ (Nat.log2 n+2)-1:=by
  have h1:n<2 ^ (Nat.log2 n+1):=Nat.lt_log2_self
  have h2:2 ^ (Nat.log2 n+2)=2*2 ^ (Nat.log2 n+1):=by rw[Nat.pow_succ];omega
  omega
theorem Tr.get_set{α:Type}(x:α):∀(t:Tr α) (n m:Nat),(t.set n x).get m=if m=n then some x else t.get m:=by
  intro t
  induction t with
  | lf=>intro n m;simp only[Tr.set,Tr.get_one x _ n m (Tr.log_lt n),Tr.get]
  | nd v l r ihl ihr =>
    intro n m
    cases n with
    | zero =>
      simp only[Tr.set,Tr.get]
      cases m with
      | zero=>rfl
      | succ m=>simp
    | succ n =>
      simp only[Tr.set]
      by_cases e:n % 2=0
      ·have:Nat.beq (n % 2) 0=true:=by rw[e];rfl
       simp only[this,cond_true,Tr.get]
       cases m with
       | zero=>simp
       | succ m =>
         simp only
         by_cases e2:m % 2=0
         ·have:Nat.beq (m % 2) 0=true:=by rw[e2];rfl
          simp only[this,cond_true,ihl _ _]
          have:(m / 2=n / 2)↔(m+1=n+1):=by omega
          simp only[this]
         ·have:Nat.beq (m % 2) 0=false := by cases hb:Nat.beq (m % 2) 0 with | true => exact absurd (Nat.eq_of_beq_eq_true hb) e2 | false => rfl
          simp only[this,cond_false]
          have : ¬(m+1=n+1):=by omega
          simp only[this,sk]
      ·have:Nat.beq (n % 2) 0=false := by cases hb:Nat.beq (n % 2) 0 with | true => exact absurd (Nat.eq_of_beq_eq_true hb) e | false => rfl
       simp only[this,cond_false,Tr.get]
       cases m with
       | zero=>simp
       | succ m =>
         simp only
         by_cases e2:m % 2=0
         ·have:Nat.beq (m % 2) 0=true:=by rw[e2];rfl
          simp only[this,cond_true]
          have : ¬(m+1=n+1):=by omega
          simp only[this,sk]
         ·have:Nat.beq (m % 2) 0=false := by cases hb:Nat.beq (m % 2) 0 with | true => exact absurd (Nat.eq_of_beq_eq_true hb) e2 | false => rfl
          simp only[this,cond_false,ihr _ _]
          have:(m / 2=n / 2)↔(m+1=n+1):=by omega
          simp only[this]
abbrev Hp:=Nat→Option O
abbrev Loc:=Nat×Nat×Nat
structure Ren where
  loc:Nat→Option Loc
  w0:World
  ok:Nat→Prop
  fz:Nat→Option Obj
instance:CoeFun Ren (fun _=>Nat→Option Loc):=⟨Ren.loc⟩
structure Ren.le(φ ψ:Ren):Prop where
  loc:∀n l,φ n=some l→ψ n=some l
  w0:ψ.w0=φ.w0
  ok:ψ.ok=φ.ok
  fz:∀D o,φ.fz D=some o→ψ.fz D=some o
theorem Ren.le_refl(φ:Ren):φ.le φ:=⟨fun _ _ h=>h,rfl,rfl,fun _ _ h=>h⟩
theorem Ren.le_trans{φ ψ χ:Ren}(h:φ.le ψ)(h':ψ.le χ):φ.le χ:=⟨fun n l hn=>h'.loc n l (h.loc n l hn),h'.w0.trans h.w0,h'.ok.trans h.ok,fun D o hD=>h'.fz D o (h.fz D o hD)⟩
inductive RepX(φ:Ren):Value→X→Prop
  | sc (v:Value):v.oneCell'=true→RepX φ v (.sc v)
  | ptr (n off b β lim:Nat):φ n=some (b,β,lim)→RepX φ (.pointer (some ⟨b,β+off,none⟩)) (.ptr n off)
  | sl (n k off len b β lim o cap:Nat):φ n=some (b,β,lim)→len≤cap→(0<len→o=β+off)→o+cap*k≤lim→RepX φ (.slice (some ⟨b,o,none⟩) len cap) (.sl n k off len)
  | es (a:Addr):RepX φ (.slice (some a) 0 0) .es
  | mp (n b β lim:Nat):φ n=some (b,β,lim)→RepX φ (.map (some b)) (.mp n)
  | fn (f:FuncId) (cs:List Value) (caps:List X):cs.length=caps.length→(∀(j:Nat) v x,cs[j]? = some v→caps[j]? = some x→RepX φ v x)→RepX φ (.func (.func f) #[] cs.toArray) (.fn f caps)
  | im (v:Value) (k:Nat) (rows:List (List T)):RepT φ.w0 φ.ok v (.sl k rows)→RepX φ v (.im k rows)
  | pI (b off:Nat) (cells:List T):At φ.w0 φ.ok b off cells→RepX φ (.pointer (some ⟨b,off,none⟩)) (.pI cells)
  | ez (a:Option Addr):RepX φ (.slice a 0 0) .ez
def RepS(φ:Ren):Value→V→Prop
  | v,.c x=>RepX φ v x
  | v,.agg xs=>∃cs,v = .agg cs∧Pt (RepX φ) cs.toList xs
  | _,.tup _=>False
  | _,.junk=>True
def RepV(φ:Ren):Value→V→Prop
  | v,.tup xs=>∃vs,v = .tuple vs∧Pt (RepS φ) vs.toList xs
  | v,x=>RepS φ v x
theorem RepX.mono{φ ψ:Ren}(hle:φ.le ψ){v:Value}{x:X}(h:RepX φ v x):RepX ψ v x:=by
  induction h with
  | sc v h=>exact .sc v h
  | ptr n off b β lim h=>exact .ptr n off b β lim (hle.loc _ _ h)
  | sl n k off len b β lim o cap h h1 h2 h3=>exact .sl n k off len b β lim o cap (hle.loc _ _ h) h1 h2 h3
  | es a=>exact .es a
  | mp n b β lim h=>exact .mp n b β lim (hle.loc _ _ h)
  | fn f cs caps hl _ ih=>exact .fn f cs caps hl ih
  | im v k rows h=>exact .im v k rows (by rw[hle.w0,hle.ok];exact h)
  | pI b off cells h=>exact .pI b off cells (by rw[hle.w0,hle.ok];exact h)
  | ez a=>exact .ez a
theorem RepS.mono{φ ψ:Ren}(hle:φ.le ψ){v:Value}{x:V}(h:RepS φ v x):RepS ψ v x:=by
  cases x with
  | c x=>exact RepX.mono hle h
  | agg xs=>obtain⟨cs,h1,h2⟩:=h;exact⟨cs,h1,h2.1,fun j v x hv hx=>(h2.2 j v x hv hx).mono hle⟩
  | tup xs=>exact h.elim
  | junk=>trivial
theorem RepV.mono{φ ψ:Ren}(hle:φ.le ψ){v:Value}{x:V}(h:RepV φ v x):RepV ψ v x:=by
  cases x with
  | c x=>exact RepS.mono (x:=.c x) hle h
  | agg xs=>exact RepS.mono (x:=.agg xs) hle h
  | tup xs=>obtain⟨cs,h1,h2⟩:=h;exact⟨cs,h1,h2.1,fun j v x hv hx=>(h2.2 j v x hv hx).mono hle⟩
  | junk=>trivial
def RepO(φ:Ren)(w:World)(n:Nat):O→Prop
  | .cells e xs=>∃b β lim arr,φ n=some (b,β,lim)∧w.heap[b]? = some (.cells arr e (0,0))∧lim≤arr.size∧β+xs.length≤lim ∧
      ∀(j:Nat) x,xs[j]? = some x→∃v,arr[β+j]? = some v∧RepX φ v x
  | .map kd _ es=>∃b es' clock,φ n=some (b,0,0)∧w.heap[b]? = some (.map es' clock)∧clock=es.length∧es'.size=es.length ∧
      ∀(i:Nat) e p,es'[i]? = some e→es[i]? = some p→e.key=p.1∧Go.VM.keyOf kd p.1=true∧e.born=i∧RepS φ e.val p.2
  | .iter m size seen=>∃b bm β lim last es',φ n=some (b,0,0)∧φ m=some (bm,β,lim)∧w.heap[b]? = some (.mapIter (some bm) size seen.toArray last)∧last=size ∧
      w.heap[bm]? = some (.map es' size)
  | .itern=>∃b,φ n=some (b,0,0)∧w.heap[b]? = some (.mapIter none 0 #[] 0)
  | .dmap kd es=>∃b es' clock,φ n=some (b,0,0)∧w.heap[b]? = some (.map es' clock)∧es'.size=es.length ∧
      ∀(i:Nat) e p,es'[i]? = some e→es[i]? = some p→e.key=p.1∧Go.VM.keyOf kd p.1=true∧RepS φ e.val p.2
  | .wmap sh es=>∃b es' clock,φ n=some (b,0,0)∧w.heap[b]? = some (.map es' clock)∧es'.size=es.length ∧
      ∀(i:Nat) e p,es'[i]? = some e→es[i]? = some p→e.key = .agg p.1.toArray∧Go.VM.fits sh p.1=true∧RepS φ e.val p.2
  | .dead=>True
def O.live:O→Bool
  | .dead=>false
  | _=>true
def blk(φ:Ren)(n b:Nat):Prop:=∃β lim,φ n=some (b,β,lim)
structure Rel(w0:World)(φ:Ren)(h:Hp)(w:World):Prop where
  rep:∀n o,h n=some o→RepO φ w n o
  inj:∀n m o o' b,h n=some o→h m=some o'→o.live=true→o'.live=true→blk φ n b→blk φ m b→n=m
  old:∀n o b,h n=some o→o.live=true→blk φ n b→w0.heap.size≤b
  iters:∀n m size seen,h n=some (.iter m size seen)→∃kd es,h m=some (.map kd true es)
  dom:∀n,h n=none→φ n=none
  lt:∀n b,blk φ n b→b<w.heap.size
  fr:Fr w0 w fun _=>False
  w0e:φ.w0=w0
  okl:∀b,φ.ok b→b<w0.heap.size
  fz:∀D o,φ.fz D=some o→w.heap[D]? = some o∧∀n p,h n=some p→p.live=true→¬blk φ n D
end Go.RM
namespace Go.RM
open Go.VM (aMX c6)
inductive Opd where
 | tmp (t:Nat)
 | con (x:V)
 | fn (f:FuncId)
 deriving Inhabited
inductive RO where
 | mv (x:Opd)
 | pick (c a b:Opd)
 | build (zero:List X) (parts:List (Nat×Nat×Opd))
 | load (n:Nat) (agg:Bool) (x:Opd)
 | nilc (x:Opd)
 | fld (off:Nat) (x:Opd)
 | field (off n:Nat) (agg:Bool) (x:Opd)
 | ixA (k:Nat) (x i:Opd)
 | ixAA (n k:Nat) (x i:Opd)
 | ixR (n k:Nat) (agg:Bool) (x i:Opd)
 | ixS (x i:Opd)
 | bin (op:BinOp) (x y:Opd)
 | beq (ne:Bool) (x y:Opd)
 | neq (kind:Nat) (ne:Bool) (x y:Opd)
 | aeq (ne:Bool) (t:TypeId) (sh:List TypeDesc) (x y:Opd)
 | un (op:UnOp) (x:Opd)
 | cvi (k:IntKind) (x:Opd)
 | cvs (x:Opd)
 | ext (x:Opd) (i:Nat)
 | lenS (x:Opd)
 | lenT (x:Opd)
 | lenM (x:Opd)
 | mm (max:Bool) (args:List Opd)
 | mkfn (f:FuncId) (caps:List Opd)
 | sub (k:Nat) (x:Opd) (lo hi:Option Opd)
 | sub0 (x:Opd) (lo hi mx:Opd)
 | subS (x:Opd) (lo hi:Option Opd)
 | call (f:FuncId) (args:List Opd)
 | callv (x:Opd) (args:List Opd)
 | alloc (e:TypeId) (zero:List X)
 | box (e:TypeId) (x:Opd)
 | mksl (e:TypeId) (k bytes:Nat) (zero:List X) (len cap:Opd)
 | bsl (e:TypeId) (k:Nat) (len:Nat) (zero:List X) (parts:List (Nat×Nat×Opd))
 | store (n:Nat) (x v:Opd)
 | app (e:TypeId) (k bytes:Nat) (s x:Opd)
 | mkmap (kd:TypeDesc)
 | look (kd:TypeDesc) (zero:V) (ok:Bool) (x i:Opd)
 | mupd (kd:TypeDesc) (x i v:Opd)
 | mdel (kd:TypeDesc) (x i:Opd)
 | wmk (sh:List TypeDesc)
 | wlook (sh:List TypeDesc) (zero:V) (ok:Bool) (x i:Opd)
 | wupd (sh:List TypeDesc) (x i v:Opd)
 | rng (x:Opd)
 | nxt (x:Opd)
 | ent (x:Opd)
 | idxb (x c:Opd)
 | copy (k:Nat) (x y:Opd)
 deriving Inhabited
structure ROp where
 dst:Option Nat
 op:RO
 guard:Option (Nat×Bool)
instance:Inhabited ROp:=⟨⟨none,.mv (.tmp 0),none⟩⟩
inductive RC where
 | skip
 | region (draw:Option (List Nat)) (ops:List (ROp×Nat))
 | seq (a b:RC)
 | cond (c:Opd) (thn els:RC)
 | block (id:Nat) (body:RC)
 | loop (body:RC)
 | exit (id:Nat)
 | ret
 | bad
 deriving Inhabited
def RO.opds:RO→List Opd
 | .lenM x | .mv x | .load _ _ x | .nilc x | .fld _ x | .field _ _ _ x | .un _ x | .cvi _ x | .cvs x | .ext x _ | .lenS x | .lenT x | .box _ x | .rng x | .nxt x | .ent x=>[x]
 | .pick c a b=>[c,a,b]
 | .build _ ps | .bsl _ _ _ _ ps=>ps.map fun p=>p.2.2
 | .ixA _ x i | .ixAA _ _ x i | .ixR _ _ _ x i | .ixS x i | .bin _ x i | .beq _ x i | .neq _ _ x i | .aeq _ _ _ x i | .mksl _ _ _ _ x i | .store _ x i | .app _ _ _ x i | .look _ _ _ x i | .idxb x i | .copy _ x i | .mdel _ x i | .wlook _ _ _ x i=>[x,i]
 | .mupd _ x i v | .wupd _ x i v=>[x,i,v]
 | .mm _ args | .mkfn _ args | .call _ args=>args
 | .callv x args=>x::args
 | .sub _ x lo hi | .subS x lo hi=>x::(lo.toList++hi.toList)
 | .sub0 x lo hi mx=>[x,lo,hi,mx]
 | .alloc .. | .mkmap _ | .wmk _=>[]
def G0(xs:List Opd):List Nat:=xs.filterMap fun | .tmp t=>some t | _=>none
def ROp.reads(o:ROp):List Nat := G0 o.op.opds ++ (match o.guard with | some (t,_) => [t] | none => [])
def bit(n:Nat):Nat:=Nat.shiftLeft 1 n
def K3:List Nat→Nat
 | []=>0
 | n::r=>Nat.lor (bit n) (K3 r)
def WZ:Value→Option X
 | .bool b=>some (.sc (.bool b))
 | .int k n=>some (.sc (.int k n))
 | .string s=>some (.sc (.string s))
 | .pointer none=>some (.sc (.pointer none))
 | .nilFunc=>some (.sc .nilFunc)
 | .slice none 0 0=>some (.sc (.slice none 0 0))
 | .map none=>some (.sc (.map none))
 | _=>none
def DK:Value→Option V
 | .agg cs=>(cs.toList.mapM WZ).map .agg
 | v=>(WZ v).map .c
def bX:Operand→Option Opd
 | .tmp t=>some (.tmp t)
 | .const v=>(DK v).map .con
 | .func f=>some (.fn f)
 | .global _=>none
section
variable (P:Program)
def K6(t:TypeId):Option (List X):=((P.info? t).bind (·.zero)).bind fun z=>z.cells.toList.mapM WZ
def Hq(t:TypeId):Option (TypeDesc×TypeInfo):=(P.underlying t).bind fun d=>(P.info? t).map fun i=>(d,i)
def u6(pl:Nat→Option (Nat×Nat))(parts:List (Nat×Operand)):Option (List (Nat×Nat×Opd)) :=
 parts.mapM fun p=>(pl p.1).bind fun q=>(bX p.2).map fun x=>(q.1,q.2,x)
def I2(xs:List Operand):Option (List Opd):=xs.mapM bX
def Lz:Option Operand→Option (Option Opd)
 | none=>some none
 | some l=>(bX l).map some
def axq(t:TypeId):Option (List TypeDesc) :=
 if P.eqGuardType P.depth t=false then(P.info? t).bind fun i=>(P.underlying t).bind fun
  | .struct _=>Go.VM.eqTy P 100 t i.size
  | _=>none
 else none
def JQ:TypeDesc→Bool
 | .int _ | .string | .bool=>true
 | _=>false
def asY (n : Nat) (f : Field) : Bool := f.name != "_" && (match P.underlying f.type with
 | some d=>JQ d
 | none=>false)&&decide (f.offset<n)
def BY(k:TypeId):Option (List TypeDesc):=match P.underlying k with
 | some (.struct fs)=>(axq P k).bind fun sh=>if fs.toList.all (asY P sh.length)=true then some sh else none
 | some (.array m e)=>(P.underlying e).bind fun d=>if P.eqGuardType P.depth k=false∧JQ d=true∧(P.info? e).map (·.size)=some 1 then(Go.VM.eqTy P 100 e 1).map fun she=>(List.replicate m she).flatten else none
 | _=>none
def cRO(o:Oper):Option RO :=
 match o.op with
 | .move x | .assign x=>(bX x).map .mv
 | .pick c a b=>(bX c).bind fun c=>(bX a).bind fun a=>(bX b).map fun b=>.pick c a b
 | .build t parts=>(K6 P t).bind fun z=>(P.underlying t).bind fun
   | .struct fs=>(fs.toList.mapM fun f=>(P.info? f.type).map fun i=>(f.offset,i.size)).bind fun pl=>(u6 (pl.toArray[·]?) parts.toList).map fun ps=>.build z ps
   | .array _ e=>(P.info? e).bind fun i=>(u6 (fun j=>some (j*i.size,i.size)) parts.toList).map fun ps=>.build z ps
   | _=>none
 | .load t x=>(Hq P t).bind fun(d,i)=>(bX x).bind fun x=>if c6 d then some (.load i.size true x)else some (.load 1 false x)
 | .nilCheck x=>(bX x).map .nilc
 | .fieldAddr s x f=>(P.underlying s).bind fun
   | .struct fs=>(fs[f]?).bind fun fd=>(P.info? fd.type).bind fun fi=>if fi.size=0 then none else(bX x).map fun x=>.fld fd.offset x
   | _=>none
 | .field s x f=>(P.underlying s).bind fun
   | .struct fs=>(fs[f]?).bind fun fd=>(Hq P fd.type).bind fun(d,i)=>(bX x).map fun x=>if c6 d then .field fd.offset i.size true x else .field fd.offset 1 false x
   | _=>none
 | .indexAddr t x i=>(P.underlying t).bind fun
   | .slice e=>(P.info? e).bind fun ie=>(bX x).bind fun x=>(bX i).map fun i=>.ixA ie.size x i
   | .array n e=>(P.info? e).bind fun ie=>(bX x).bind fun x=>(bX i).map fun i=>.ixAA n ie.size x i
   | _=>none
 | .index t x i=>(P.underlying t).bind fun
   | .string=>(bX x).bind fun x=>(bX i).map fun i=>.ixS x i
   | .array n e=>(Hq P e).bind fun(d,ie)=>(bX x).bind fun x=>(bX i).map fun i=>if c6 d then .ixR n ie.size true x i else .ixR n ie.size false x i
   | _=>none
 | .binOp op t x y _=>(P.underlying t).bind fun d=>(bX x).bind fun x=>(bX y).bind fun y =>
   match d,op with
   | .pointer _,.eql=>some (.neq 0 false x y)
   | .pointer _,.neq=>some (.neq 0 true x y)
   | .map _ _,.eql=>some (.neq 1 false x y)
   | .map _ _,.neq=>some (.neq 1 true x y)
   | .slice _,.eql=>some (.neq 2 false x y)
   | .slice _,.neq=>some (.neq 2 true x y)
   | .struct _,.eql=>(axq P t).map fun sh=>.aeq false t sh x y
   | .struct _,.neq=>(axq P t).map fun sh=>.aeq true t sh x y
   | .int _,op=>some (.bin op x y)
   | .string,op=>some (.bin op x y)
   | .bool,.eql=>some (.beq false x y)
   | .bool,.neq=>some (.beq true x y)
   | _,_=>none
 | .unOp op _ x=>(bX x).map fun x=>.un op x
 | .convert src dst x=>(P.underlying src).bind fun _=>(P.underlying dst).bind fun
   | .int k=>(bX x).map fun x=>.cvi k x
   | .string=>(bX x).map fun x=>.cvs x
   | _=>none
 | .extract x i=>(bX x).map fun x=>.ext x i
 | .makeFunc (.func f) first caps=>if first.size=0 then(I2 caps.toList).map fun cs=>.mkfn f cs else none
 | .slice t x lo hi mx=>(P.underlying t).bind fun
   | .slice e=>(P.info? e).bind fun ie=>(bX x).bind fun x=>(Lz lo).bind fun lo=>(Lz hi).bind fun hi=>(Lz mx).bind fun mx=>match lo,hi,mx with
    | lo,hi,none=>some (.sub ie.size x lo hi)
    | some lo,some hi,some mx=>some (.sub0 x lo hi mx)
    | _,_,_=>none
   | .string=>if mx.isSome then none else(bX x).bind fun x=>(Lz lo).bind fun lo=>(Lz hi).map fun hi=>.subS x lo hi
   | _=>none
 | .alloc e=>(K6 P e).map fun z=>.alloc e z
 | .box e x=>(bX x).map fun x=>.box e x
 | .makeSlice t l c=>(P.underlying t).bind fun
   | .slice e=>(P.info? e).bind fun ie=>(K6 P e).bind fun z=>if 0<ie.size∧z.length=ie.size then(bX l).bind fun l=>(bX c).map fun c=>.mksl e ie.size ie.bytes z l c else none
   | _=>none
 | .buildSlice t len parts=>(P.underlying t).bind fun
   | .slice e=>(P.info? e).bind fun ie=>(K6 P e).bind fun z=>(u6 (fun j=>some (j*ie.size,ie.size)) parts.toList).bind fun ps =>
     if 0<ie.size∧len*ie.size≤16777216∧z.length=ie.size then some (.bsl e ie.size len z ps)else none
   | _=>none
 | .makeMap t none=>(P.underlying t).bind fun
   | .map k _=>(P.underlying k).bind fun kd=>if aMX kd=true then some (.mkmap kd)else(BY P k).map .wmk
   | _=>none
 | .lookup t x i ok=>(P.underlying t).bind fun
   | .map k e => (P.underlying k).bind fun kd => ((P.info? e).bind (·.zero)).bind fun z => (DK z).bind fun z => (bX x).bind fun x => (bX i).bind fun i => match BY P k with | some sh => some (.wlook sh z ok x i) | none => some (.look kd z ok x i)
   | _=>none
 | .mapUpdate t x i v | .insert t x i v=>(P.underlying t).bind fun
   | .map k _ => (P.underlying k).bind fun kd => (bX x).bind fun x => (bX i).bind fun i => (bX v).bind fun v => match BY P k with | some sh => some (.wupd sh x i v) | none => some (.mupd kd x i v)
   | _=>none
 | .store t x v=>(P.info? t).bind fun i=>(bX x).bind fun x=>(bX v).map fun v=>.store i.size x v
 | .range t x=>(P.underlying t).bind fun
   | .map _ _=>(bX x).map fun x=>.rng x
   | _=>none
 | .next it false=>(bX it).map fun x=>.nxt x
 | .entry it=>(bX it).map fun x=>.ent x
 | .call c =>
  match c.callee with
  | .value (.func f) => (P.funcs[f]?).bind fun fn => if fn.body.isSome && !(fn.name == "runtime.NumGoroutine") then (I2 c.args.toList).map fun as => .call f as else
    if fn.body.isNone && (fn.name == "internal/bytealg.IndexByteString" && (Extern.findNext fn).isNone) then (match c.args.toList with | [x, i] => (bX x).bind fun x => (bX i).map fun i => .idxb x i | _ => none) else none
  | .value x=>(bX x).bind fun x=>(I2 c.args.toList).map fun as=>.callv x as
  | .builtin .len=>match c.argTypes[0]? with
   | some t=>(P.underlying t).bind fun
    | .slice _ => match c.args.toList with | [x] => (bX x).map .lenS | _ => none
    | .map _ _ => match c.args.toList with | [x] => (bX x).map .lenM | _ => none
    | .string => match c.args.toList with | [x] => (bX x).map .lenT | _ => none
    | _=>none
   | none=>none
  | .builtin .delete=>match c.argTypes[0]? with
   | some t=>(P.underlying t).bind fun
    | .map k _ => (P.underlying k).bind fun kd => match c.args.toList with | [x,i] => (bX x).bind fun x => (bX i).map fun i => .mdel kd x i | _ => none
    | _=>none
   | none=>none
  | .builtin .copy=>match c.argTypes.toList,c.args.toList with
   | [t,u],[x,y]=>(P.underlying t).bind fun
    | .slice e=>(P.info? e).bind fun ie=>if t=u∧0<ie.size then(bX x).bind fun x=>(bX y).map fun y=>.copy ie.size x y else none
    | _=>none
   | _,_=>none
  | .builtin .min=>(I2 c.args.toList).map (.mm false)
  | .builtin .max=>(I2 c.args.toList).map (.mm true)
  | .builtin .append=>match c.argTypes.toList,c.args.toList with
   | [t,u],[s,x]=>(P.underlying t).bind fun
    | .slice e=>(P.info? e).bind fun ie=>if t=u∧0<ie.size∧(ie.zero.map fun z=>z.cells.size)=some ie.size then(bX s).bind fun s=>(bX x).map fun x=>.app e ie.size ie.bytes s x else none
    | _=>none
   | _,_=>none
  | _=>none
 | _=>none
def ZW(n:Nat):Option Nat→Bool
 | some d=>Nat.blt d n
 | none=>true
def kq(n:Nat)(ops:Array Oper)(o:Oper):Option (ROp×Nat) :=
 if ZW n o.dst=true then(cRO P o).bind fun op=>match o.guard with
  | none=>let r:ROp:=⟨o.dst,op,none⟩;some (r,K3 r.reads)
  | some (j,b)=>((ops[j]?).bind (·.dst)).map fun t=>let r:ROp:=⟨o.dst,op,some (t,b)⟩;(r,K3 r.reads)
 else none
def ajx(ops:Array Oper):Bool :=
 let bs:=Region.before ops
 let n:=ops.size
 (List.range n).all (fun i=>(ops.getD i default).after.toList.all fun e=>!Region.binds .any e||decide (e.on<i)) &&
 (List.range n).all (fun i=>(List.range n).all fun a=>!(bs.getD i 0).testBit a||(ops.getD i default).after.toList.any fun e=>Region.binds .any e&&(a == e.on||(bs.getD e.on 0).testBit a))
def BZ(ops:Array Oper):List Nat:=(List.range ops.size).map (fun i=>(Region.before ops).getD i 0)
def AW(n:Nat)(ops:Array Oper)(draw:Bool):Option RC :=
 (ops.toList.mapM (kq P n ops)).bind fun vl=>if draw=true→(ajx ops=true∧P.follows .mixedOrders=true)then some (.region (if draw=true then some (BZ ops)else none) vl)else none
def gV(n:Nat):Code→Option RC
 | .skip=>some .skip
 | .region _ ops draw=>some ((AW P n ops draw).getD .bad)
 | .seq a b=>(gV n a).bind fun a=>(gV n b).map fun b=>.seq a b
 | .cond c a b=>(bX c).bind fun c=>(gV n a).bind fun a=>(gV n b).map fun b=>.cond c a b
 | .block id c=>(gV n c).map (.block id)
 | .loop c=>(gV n c).map .loop
 | .exit id=>some (.exit id)
 | .ret=>some .ret
 | _=>some .bad
inductive RR where
 | tmp (t:Nat)
 | cell (t n:Nat) (agg:Bool)
def Cx:ResultVar→Option RR
 | .tmp t=>some (.tmp t)
 | .cell a t=>(Hq P t).map fun(d,i)=>if c6 d then .cell a i.size true else .cell a 1 false
structure RF where
 code:RC
 res:List RR
def FQ(f:FuncId):Option RF:=(P.funcs[f]?).bind fun fn=>fn.body.bind fun c=>(gV P fn.ntmps c).bind fun rc=>(fn.results.toList.mapM (Cx P)).map fun rs=>⟨rc,rs⟩
end
end Go.RM
namespace Go.RM
open Go.VM (zZ mmI getK putK eqS idx T)
structure S where
 h:Tr O
 c:Nat
 w:Nat
instance:Inhabited S:=⟨⟨.lf,0,0⟩⟩
def SQ:TypeDesc→TypeDesc→Bool
 | .int k,.int k'=>decide (k=k')
 | .string,.string=>true
 | .bool,.bool=>true
 | _,_=>false
def scV(v:Value):V:=.c (.sc v)
def bV(b:Bool):V:=.c (.sc (.bool b))
def iV(n:Int):V:=.c (.sc (.int .i64 n))
def cW:Value:=.slice none 0 0
def evE(Γ:Nat→V):Opd→V
 | .tmp t=>Γ t
 | .con x=>x
 | .fn f=>.c (.fn f [])
def look(Γ:Tr V)(t:Nat):V:=match Γ.get t with
 | some v=>v
 | none=>.junk
def ev(Γ:Tr V):Opd→V:=evE (look Γ)
def c5:V→Option (List X)
 | .c x=>some [x]
 | .agg xs=>some xs
 | _=>none
def mkV(g:Bool)(cs:List X):V :=
 bif g then .agg cs else match cs with
  | [x]=>.c x
  | _=>.junk
def isB:V→Option Bool
 | .c (.sc (.bool b))=>some b
 | _=>none
def isI:V→Option Int
 | .c (.sc (.int _ n))=>some n
 | _=>none
def iz:V→Option Int
 | .c (.sc (.int .i64 n))=>some n
 | _=>none
def isS:V→Option ByteArray
 | .c (.sc (.string s))=>some s
 | _=>none
def gd(b:Bool){α:Type}(x:Option α):Option α:=bif b then x else none
def cut(xs:List X)(off n:Nat):Option (List X) :=
 let r:=(xs.drop off).take n
 gd (Nat.beq r.length n) (some r)
def setAt(cur:List X)(off:Nat)(cs:List X):List X:=cur.take off++(cs++cur.drop (off+cs.length))
def fill(e:Opd→V):List X→List (Nat×Nat×Opd)→Option (List X)
 | cur,[]=>some cur
 | cur,p::ps=>(c5 (e p.2.2)).bind fun cs=>gd (Nat.beq cs.length p.2.1&&Nat.ble (p.1+p.2.1) cur.length) (fill e (setAt cur p.1 cs) ps)
def DJ(n:Int):Option Nat:=match n with
 | .ofNat k=>some k
 | .negSucc _=>none
def aoX:V→Option Bool
 | .c (.sc (.pointer none))=>some true
 | .c (.ptr ..)=>some false
 | .c (.pI _)=>some false
 | _=>none
def apW:V→Option Bool
 | .c (.sc (.map none))=>some true
 | .c (.mp _)=>some false
 | _=>none
def amX:V→Option Bool
 | .c (.sc (.slice none 0 0))=>some true
 | .c (.sl ..)=>some false
 | .c .es=>some false
 | .c (.im _ (_::_))=>some false
 | _=>none
def V6(k:Nat)(x:V):Option Bool:=match k with
 | 0=>aoX x
 | 1=>apW x
 | _=>amX x
def kZ:V→Bool
 | .c (.ptr ..)=>true
 | .c (.pI _)=>true
 | _=>false
def imX:T→X
 | .sc v=>.sc v
 | .sl k rows=>.im k rows
def aeW:List X→List X→Option Bool
 | [],[]=>some true
 | .sc a::r,.sc b::s=>(eqS a b).bind fun x=>(aeW r s).map (x && ·)
 | _,_=>none
def alj:List TypeDesc→List X→Bool
 | [],[]=>true
 | kd::r,.sc v::cs=>Go.VM.keyOf kd v&&alj r cs
 | _,_=>false
def mmR(mx:Bool)(k:IntKind):Int→List V→Option Int
 | a,[]=>some a
 | a,.c (.sc (.int k' b))::r=>gd (decide (k'=k)) (mmR mx k (mmI mx a b) r)
 | _,_=>none
def aEZ:V→Option X
 | .c x=>some x
 | _=>none
def bnd(e:Opd→V)(d:Nat):Option Opd→Option Nat
 | none=>some d
 | some x=>(iz (e x)).bind DJ
def bj(e:Opd→V):RO→Option V
 | .mv x=>some (e x)
 | .pick c a b=>(isB (e c)).map fun t=>bif t then e a else e b
 | .build z ps=>(fill e z ps).map .agg
 | .nilc x=>gd (kZ (e x)) (some (e x))
 | .fld off x=>match e x with
  | .c (.ptr n o)=>some (.c (.ptr n (o+off)))
  | .c (.pI cs)=>some (.c (.pI (cs.drop off)))
  | _=>none
 | .field off n g x=>match e x with
  | .agg cs=>(cut cs off n).map (mkV g)
  | _=>none
 | .ixA k x i=>(isI (e i)).bind fun j=>(DJ j).bind fun j=>match e x with
  | .c (.sl n k' off len)=>gd (Nat.beq k k'&&Nat.blt j len) (some (.c (.ptr n (off+j*k))))
  | .c (.im k' rows)=>gd (Nat.beq k k') (rows[j]?.map fun row=>.c (.pI row))
  | _=>none
 | .ixAA m k x i=>(isI (e i)).bind fun j=>(DJ j).bind fun j=>match e x with
  | .c (.ptr n off)=>gd (Nat.blt j m) (some (.c (.ptr n (off+j*k))))
  | _=>none
 | .ixR m k g x i=>(iz (e i)).bind fun j=>(DJ j).bind fun j=>match e x with
  | .agg cs=>gd (Nat.blt j m&&(g||Nat.beq k 1)) ((cut cs (j*k) k).map (mkV g))
  | _=>none
 | .ixS x i=>(isS (e x)).bind fun s=>(isI (e i)).bind fun n=>(idx s.data.toList n).map fun b=>scV (.int .u8 (b.toNat:Int))
 | .idxb x c=>(isS (e x)).bind fun s=>match e c with
  | .c (.sc (.int .u8 n))=>some (iV (Go.Lib.indexByte s.data.toList n.toNat.toUInt8))
  | _=>none
 | .bin op x y=>match e x,e y with
  | .c (.sc a),.c (.sc b)=>(zZ op a b).map scV
  | _,_=>none
 | .beq ne x y=>(isB (e x)).bind fun a=>(isB (e y)).map fun b=>bV (xor (decide (a=b)) ne)
 | .neq kd ne x y=>(V6 kd (e x)).bind fun a=>(V6 kd (e y)).bind fun b=>gd (a||b) (some (bV (xor (a&&b) ne)))
 | .aeq ne _ sh x y=>match e x,e y with
  | .agg cs,.agg ds=>gd (alj sh cs) ((aeW cs ds).map fun b=>bV (xor b ne))
  | _,_=>none
 | .un .not x=>(isB (e x)).map fun b=>bV (!b)
 | .un .neg x=>(iz (e x)).map fun n=>iV (IntKind.i64.wrap (0-n))
 | .cvi k x=>(isI (e x)).map fun n=>scV (.int k (k.wrap n))
 | .cvs x=>(isS (e x)).map fun _=>e x
 | .ext x i=>match e x with
  | .tup vs=>match vs[i]? with
   | some (.c x)=>some (.c x)
   | some (.agg xs)=>some (.agg xs)
   | _=>none
  | _=>none
 | .lenS x=>match e x with
  | .c (.sc (.slice none 0 0))=>some (iV 0)
  | .c .es=>some (iV 0)
  | .c (.sl _ _ _ len)=>some (iV (len:Int))
  | .c (.im _ rows)=>some (iV (rows.length:Int))
  | .c .ez=>some (iV 0)
  | _=>none
 | .lenT x=>(isS (e x)).map fun s=>iV (s.size:Int)
 | .mm mx args=>match args.map e with
  | .c (.sc (.int k a))::r=>(mmR mx k a r).map fun n=>scV (.int k n)
  | _=>none
 | .mkfn f caps=>((caps.map e).mapM aEZ).map fun cs=>.c (.fn f cs)
 | .sub k x lo hi=>match e x with
  | .c (.sc (.slice none 0 0))=>(bnd e 0 lo).bind fun l=>(bnd e 0 hi).bind fun h=>gd (Nat.beq l 0&&Nat.beq h 0) (some (scV cW))
  | .c (.sl n k' off len)=>(bnd e 0 lo).bind fun l=>(bnd e len hi).bind fun h=>gd (Nat.beq k k'&&(Nat.ble l h&&Nat.ble h len)) (some (.c (.sl n k (off+l*k) (h-l))))
  | .c .es=>(bnd e 0 lo).bind fun l=>(bnd e 0 hi).bind fun h=>gd (Nat.beq l 0&&Nat.beq h 0) (some (.c .es))
  | .c .ez=>(bnd e 0 lo).bind fun l=>(bnd e 0 hi).bind fun h=>gd (Nat.beq l 0&&Nat.beq h 0) (some (.c .ez))
  | .c (.im k' rows)=>(bnd e 0 lo).bind fun l=>(bnd e rows.length hi).bind fun h=>gd (Nat.beq k k'&&(Nat.ble l h&&Nat.ble h rows.length)) (some (.c (.im k ((rows.drop l).take (h-l)))))
  | _=>none
 | .sub0 x lo hi mx=>(iz (e lo)).bind fun l=>(iz (e hi)).bind fun h=>(iz (e mx)).bind fun m=>gd (decide (l=0)&&(decide (h=0)&&decide (m=0))) (match e x with
  | .c (.sc (.slice none 0 0))=>some (scV cW)
  | .c (.sl ..)=>some (.c .es)
  | .c .es=>some (.c .es)
  | .c .ez=>some (.c .ez)
  | .c (.im ..)=>some (.c .ez)
  | _=>none)
 | .subS x lo hi=>(isS (e x)).bind fun s=>(bnd e 0 lo).bind fun l=>(bnd e s.size hi).bind fun h=>gd (Nat.ble l h&&Nat.ble h s.size) (some (scV (.string (s.extract l h))))
 | _=>none
def Kx(s:S)(n:Nat):Option (TypeId×List X):=match s.h.get n with
 | some (.cells e xs)=>some (e,xs)
 | _=>none
def akq(s:S)(n:Nat):Option (TypeDesc×Bool×List (Value×V)):=match s.h.get n with
 | some (.map kd b es)=>some (kd,b,es)
 | _=>none
def I4(s:S)(n:Nat):Option (TypeDesc×List (Value×V)):=match s.h.get n with
 | some (.map kd _ es)=>some (kd,es)
 | some (.dmap kd es)=>some (kd,es)
 | _=>none
def getD(s:S)(n:Nat):Option (TypeDesc×List (Value×V)):=match s.h.get n with
 | some (.map kd false es)=>some (kd,es)
 | some (.dmap kd es)=>some (kd,es)
 | _=>none
def aAK(s:S)(n:Nat):Option (List TypeDesc×List (List Value×V)):=match s.h.get n with
 | some (.wmap sh es)=>some (sh,es)
 | _=>none
def aTX(s:S)(n:Nat):Option Nat:=match akq s n with
 | some p=>some p.2.2.length
 | none=>(aAK s n).map (·.2.length)
def akX(k:Value):List (Value×V)→List (Value×V)
 | []=>[]
 | p::r=>if Go.VM.keyB k p.1=true then r else p::akX k r
def amQ:List TypeDesc→List TypeDesc→Bool
 | [],[]=>true
 | a::r,b::s=>SQ a b&&amQ r s
 | _,_=>false
def scL:List X→Option (List Value)
 | []=>some []
 | .sc v::r=>(scL r).map (v :: ·)
 | _=>none
def aMx(sh:List TypeDesc):V→Option (List Value)
 | .agg xs=>(scL xs).bind fun vs=>gd (Go.VM.fits sh vs) (some vs)
 | _=>none
def eqW(a b:List Value):Bool:=match Go.VM.eqL a b with
 | some t=>t
 | none=>false
def aiz{β:Type}(k:List Value):List (List Value×β)→Option β
 | []=>none
 | p::r=>bif eqW k p.1 then some p.2 else aiz k r
def S0{β:Type}(k:List Value)(v:β):List (List Value×β)→List (List Value×β)
 | []=>[(k,v)]
 | p::r=>bif eqW k p.1 then(k,v)::r else p::S0 k v r
def new(s:S)(o:O):Option S:=gd (s.h.get s.c).isNone (some {h:=s.h.set s.c o,c:=s.c+1,w:=Nat.lor s.w (bit s.c)})
def put(s:S)(n:Nat)(o:O):Option S:=some {s with h:=s.h.set n o,w:=Nat.lor s.w (bit n)}
def avj(s:S)(k:Nat):V→Option (List X×Nat×Nat)
 | .c (.sc (.slice none 0 0))=>some ([],0,0)
 | .c .es=>some ([],0,0)
 | .c .ez=>some ([],0,0)
 | .c (.im k' rows)=>gd (Nat.beq k k') (some (rows.flatten.map imX,rows.length,0))
 | .c (.sl n k' off len)=>(Kx s n).bind fun p=>gd (Nat.beq k k') ((cut p.2 off (len*k)).map fun cs=>(cs,len,bit n))
 | _=>none
def rY(bytes n:Nat):Bool:=Nat.ble (n*bytes) 140737488355328&&Nat.ble n 9223372036854775807
def D8(kd:TypeDesc):V→Option Value
 | .c (.sc v)=>gd (Go.VM.keyOf kd v) (some v)
 | _=>none
def kK:V→Bool
 | .c _ | .agg _=>true
 | _=>false
def FX(ok:Bool)(z:V):Option V→V
 | none=>bif ok then .tup [z,bV false]else z
 | some v=>bif ok then .tup [v,bV true]else v
def fX(e:Opd→V)(s:S):RO→Option (V×S×Nat)
 | .load n g x=>match e x with
  | .c (.ptr m off)=>(Kx s m).bind fun p=>(cut p.2 off n).map fun cs=>(mkV g cs,s,bit m)
  | .c (.pI cs)=>gd (Nat.ble n cs.length) (some (mkV g ((cs.take n).map imX),s,0))
  | _=>none
 | .lenM x=>match e x with
  | .c (.sc (.map none))=>some (iV 0,s,0)
  | .c (.mp m)=>(aTX s m).map fun(n:Nat)=>(iV (n:Int),s,bit m)
  | _=>none
 | .look kd z ok x i=>(D8 kd (e i)).bind fun key=>match e x with
  | .c (.sc (.map none))=>some (FX ok z none,s,0)
  | .c (.mp m)=>(I4 s m).bind fun p=>gd (SQ p.1 kd) (some (FX ok z (getK key p.2),s,bit m))
  | _=>none
 | .alloc t z=>(new s (.cells t z)).map fun s'=>(.c (.ptr s.c 0),s',bit s.c)
 | .box t x=>(c5 (e x)).bind fun cs=>(new s (.cells t cs)).map fun s'=>(.c (.ptr s.c 0),s',bit s.c)
 | .mksl t k bytes z l c=>(iz (e l)).bind fun m=>(DJ m).bind fun m=>(iz (e c)).bind fun mc=>(DJ mc).bind fun mc =>
   gd (Nat.ble m mc&&rY bytes mc) ((new s (.cells t (List.replicate m z).flatten)).map fun s'=>(.c (.sl s.c k 0 m),s',bit s.c))
 | .bsl t k len z ps=>(fill e (List.replicate len z).flatten ps).bind fun cs=>(new s (.cells t cs)).map fun s'=>(.c (.sl s.c k 0 len),s',bit s.c)
 | .store n x v=>match e x with
  | .c (.ptr m off)=>(c5 (e v)).bind fun cs=>(Kx s m).bind fun p=>gd (Nat.beq cs.length n&&Nat.ble (off+n) p.2.length) ((put s m (.cells p.1 (setAt p.2 off cs))).map fun s'=>(.junk,s',bit m))
  | _=>none
 | .app t k bytes sl x=>(avj s k (e x)).bind fun src=>match e sl with
  | .c (.sc (.slice none 0 0))=>bif Nat.beq src.2.1 0 then some (e sl,s,src.2.2)else gd (rY bytes src.2.1) ((new s (.cells t src.1)).map fun s'=>(.c (.sl s.c k 0 src.2.1),s',Nat.lor src.2.2 (bit s.c)))
  | .c .es=>bif Nat.beq src.2.1 0 then some (e sl,s,src.2.2)else gd (rY bytes src.2.1) ((new s (.cells t src.1)).map fun s'=>(.c (.sl s.c k 0 src.2.1),s',Nat.lor src.2.2 (bit s.c)))
  | .c .ez=>bif Nat.beq src.2.1 0 then some (e sl,s,src.2.2)else gd (rY bytes src.2.1) ((new s (.cells t src.1)).map fun s'=>(.c (.sl s.c k 0 src.2.1),s',Nat.lor src.2.2 (bit s.c)))
  | .c (.sl n k' off len)=>(Kx s n).bind fun p=>gd (Nat.beq k k'&&(Nat.beq p.1 t&&rY bytes (len+src.2.1))) ((cut p.2 off (len*k)).bind fun olds =>
    bif Nat.beq src.2.1 0 then some (e sl,s,Nat.lor src.2.2 (bit n))else
    (put s n .dead).bind fun s1=>(new s1 (.cells t (olds++src.1))).map fun s'=>(.c (.sl s1.c k 0 (len+src.2.1)),s',Nat.lor (Nat.lor src.2.2 (bit n)) (bit s1.c)))
  | _=>none
 | .copy k x y=>match e x with
  | .c (.sl m k' off len)=>(avj s k (e y)).bind fun src=>bif Nat.beq (Nat.min src.2.1 len) 0 then some (iV 0,s,src.2.2)else(Kx s m).bind fun p=>gd (Nat.beq k k'&&Nat.ble (off+Nat.min src.2.1 len*k) p.2.length) ((put s m (.cells p.1 (setAt p.2 off (src.1.take (Nat.min src.2.1 len*k))))).map fun s'=>(iV ((Nat.min src.2.1 len:Nat):Int),s',Nat.lor src.2.2 (bit m)))
  | _=>none
 | .mkmap kd=>(new s (.map kd false [])).map fun s'=>(.c (.mp s.c),s',bit s.c)
 | .mupd kd x i v=>(D8 kd (e i)).bind fun key=>match e x with
  | .c (.mp m)=>(akq s m).bind fun p=>gd (SQ p.1 kd&&(!p.2.1&&kK (e v))) ((put s m (.map kd false (putK key (e v) p.2.2))).map fun s'=>(.junk,s',bit m))
  | _=>none
 | .mdel kd x i=>(D8 kd (e i)).bind fun key=>match e x with
  | .c (.mp m)=>(getD s m).bind fun p=>gd (SQ p.1 kd) ((put s m (.dmap kd (akX key p.2))).map fun s'=>(.junk,s',bit m))
  | _=>none
 | .wmk sh=>(new s (.wmap sh [])).map fun s'=>(.c (.mp s.c),s',bit s.c)
 | .wlook sh z ok x i=>(aMx sh (e i)).bind fun key=>match e x with
  | .c (.sc (.map none))=>some (FX ok z none,s,0)
  | .c (.mp m)=>(aAK s m).bind fun p=>gd (amQ p.1 sh) (some (FX ok z (aiz key p.2),s,bit m))
  | _=>none
 | .wupd sh x i v=>(aMx sh (e i)).bind fun key=>match e x with
  | .c (.mp m)=>(aAK s m).bind fun p=>gd (amQ p.1 sh&&kK (e v)) ((put s m (.wmap sh (S0 key (e v) p.2))).map fun s'=>(.junk,s',bit m))
  | _=>none
 | .rng x=>match e x with
  | .c (.sc (.map none))=>(new s .itern).map fun s'=>(.c (.ptr s.c 0),s',bit s.c)
  | .c (.mp m)=>(akq s m).bind fun p=>(put s m (.map p.1 true p.2.2)).bind fun s1=>(new s1 (.iter m p.2.2.length [])).map fun s'=>(.c (.ptr s1.c 0),s',Nat.lor (bit m) (bit s1.c))
  | _=>none
 | .ent x=>match e x with
  | .c (.ptr d 0)=>match s.h.get d with
   | some (.iter m size seen)=>match s.h.get m with
    | some (.map _ _ es)=>gd (Nat.beq es.length size) (seen.getLast?.bind fun i=>(es[i]?).map fun p=>(.tup [scV p.1,p.2],s,Nat.lor (bit d) (bit m)))
    | _=>none
   | _=>none
  | _=>none
 | _=>none
abbrev Out(α:Type):=Option (List α×Nat)
def one{α:Type}(x:α):Out α:=some ([x],0)
def wV{α β:Type}(f:α→Out β):List α→Nat→Out β
 | [],r=>some ([],r)
 | x::l,r=>match f x with
  | none=>none
  | some (ys,r1)=>match wV f l (Nat.lor r r1)with
   | none=>none
   | some (zs,r2)=>some (ys++zs,r2)
def o8{α β:Type}(x:Out α)(f:α→Out β):Out β:=match x with
 | none=>none
 | some (l,r)=>wV f l r
def NQ(s:S)(d m size:Nat)(seen:List Nat)(es:List (Value×V)):List Nat→Option (List (V×S))
 | []=>some []
 | i::r=>bif seen.contains i then NQ s d m size seen es r else
   match es[i]? with
   | none=>none
   | some p=>(put s d (.iter m size (seen++[i]))).bind fun s'=>(NQ s d m size seen es r).map fun l=>(.tup [bV true,scV p.1,p.2],s')::l
def aoV(s:S):V→Out (V×S)
 | .c (.ptr d 0)=>match s.h.get d with
  | some .itern=>some ([(.tup [bV false],s)],bit d)
  | some (.iter m size seen)=>match s.h.get m with
   | some (.map _ _ es)=>bif Nat.beq es.length size then
     match NQ s d m size seen es (List.range size)with
     | none=>none
     | some []=>some ([(.tup [bV false],s)],Nat.lor (bit d) (bit m))
     | some l=>some (l,Nat.lor (bit d) (bit m))
    else none
   | _=>none
  | _=>none
 | _=>none
abbrev cK:=FuncId→List V→S→Out (V×S)
def opX(call:cK)(e:Opd→V)(s:S):RO→Out (V×S)
 | .call f args=>call f (args.map e) s
 | .callv x args=>match e x with
  | .c (.fn f caps)=>call f (args.map e++caps.map .c) s
  | _=>none
 | .nxt x=>aoV s (e x)
 | op=>match bj e op with
  | some v=>one (v,s)
  | none=>match fX e s op with
   | some (v,s',r)=>some ([(v,s')],r)
   | none=>none
def B1:V:=.tup []
def putO(d:Option Nat)(x:V)(Γ:Tr V):Tr V:=match d with
 | some d=>Γ.set d x
 | none=>Γ
def bK(Γ:Tr V):Option (Nat×Bool)→Option Bool
 | none=>some true
 | some (t,b)=>match ev Γ (.tmp t)with
  | .c (.sc (.bool c))=>some (!xor c b)
  | .tup []=>some false
  | _=>none
def oY(call:cK)(o:ROp)(Γ:Tr V)(s:S):Out (Tr V×S):=match bK Γ o.guard with
 | none=>none
 | some false=>one (putO o.dst B1 Γ,s)
 | some true=>o8 (opX call (ev Γ) s o.op) fun p=>one (putO o.dst p.1 Γ,p.2)
def J7(call:cK):List (ROp×Nat)→Tr V→S→Out (Tr V×S)
 | [],Γ,s=>one (Γ,s)
 | o::os,Γ,s=>o8 (oY call o.1 Γ s) fun p=>J7 call os p.1 p.2
structure Did where
 i:Nat
 tr:Nat
 tw:Nat
 r:Nat
 w:Nat
def qY:Option Nat→Nat
 | some d=>bit d
 | none=>0
def DY(b:Nat)(x y:Did):Bool :=
 Nat.testBit b x.i||(Nat.beq (Nat.land x.tw y.tr) 0&&(Nat.beq (Nat.land y.tw x.tr) 0&&(Nat.beq (Nat.land x.tw y.tw) 0&&(Nat.beq (Nat.land x.w y.r) 0&&(Nat.beq (Nat.land y.w x.r) 0&&Nat.beq (Nat.land x.w y.w) 0)))))
def wY(call:cK):List (ROp×Nat)→List Nat→Nat→List Did→Tr V→S→Nat→Out (Tr V×S)
 | [],_,_,_,Γ,s,r=>some ([(Γ,s)],r)
 | o::os,tab,i,ds,Γ,s,r=>match tab with
  | []=>none
  | b::tab=>match oY call o.1 Γ {s with w:=0} with
   | some ([(Γ',s')],r') =>
    let d:Did:=⟨i,o.2,qY o.1.dst,r',s'.w⟩
    bif ds.all (fun x=>DY b x d)then wY call os tab (i+1) (ds++[d]) Γ' {s' with w:=Nat.lor s.w s'.w} (Nat.lor r r')else none
   | _=>none
inductive Ex where
 | normal
 | exit (id:Nat)
 | ret
def ofL{α:Type}:List α→Nat→Tr α→Tr α
 | [],_,t=>t
 | x::l,i,t=>ofL l (i+1) (t.set i x)
def HJ(Γ:Tr V)(s:S):List RR→Option (List V×Nat)
 | []=>some ([],0)
 | .tmp t::rs=>let v:=ev Γ (.tmp t);gd (kK v) ((HJ Γ s rs).map fun p=>(v::p.1,p.2))
 | .cell t n g::rs=>match ev Γ (.tmp t)with
  | .c (.ptr m off)=>(Kx s m).bind fun p=>(cut p.2 off n).bind fun cs=>let v:=mkV g cs;gd (kK v) ((HJ Γ s rs).map fun p=>(v::p.1,Nat.lor (bit m) p.2))
  | _=>none
def QK:List V→V
 | [x]=>x
 | xs=>.tup xs
def Xx(rs:List RR)(Γ:Tr V)(s:S):Out (V×S):=match HJ Γ s rs with
 | none=>none
 | some (vs,r)=>some ([(QK vs,s)],r)
def exec(orc:cK)(T:Tr RF):Nat→RC→Tr V→S→Out (Ex×Tr V×S)
 | 0,_,_,_=>none
 | n+1,c,Γ,s =>
  let call:cK:=fun f args s=>match T.get f with
   | none=>orc f args s
   | some rf=>o8 (exec orc T n rf.code (ofL args 0 .lf) s) fun p=>match p.1 with
    | .normal | .ret=>Xx rf.res p.2.1 p.2.2
    | .exit _=>none
  match c with
  | .skip=>one (.normal,Γ,s)
  | .region none ops=>o8 (J7 call ops Γ s) fun p=>one (.normal,p.1,p.2)
  | .region (some tab) ops=>o8 (wY call ops tab 0 [] Γ s 0) fun p=>one (.normal,p.1,p.2)
  | .seq a b=>o8 (exec orc T n a Γ s) fun p=>match p.1 with
   | .normal=>exec orc T n b p.2.1 p.2.2
   | _=>one p
  | .cond c a b=>match isB (ev Γ c)with
   | none=>none
   | some true=>exec orc T n a Γ s
   | some false=>exec orc T n b Γ s
  | .block id b=>o8 (exec orc T n b Γ s) fun p=>match p.1 with
   | .exit id'=>bif Nat.beq id' id then one (.normal,p.2.1,p.2.2)else one p
   | _=>one p
  | .loop b=>o8 (exec orc T n b Γ s) fun p=>match p.1 with
   | .normal=>exec orc T n (.loop b) p.2.1 p.2.2
   | _=>one p
  | .exit id=>one (.exit id,Γ,s)
  | .ret=>one (.ret,Γ,s)
  | .bad=>none
def jZ(orc:cK)(T:Tr RF)(n:Nat):cK:=fun f args s=>match T.get f with
 | none=>orc f args s
 | some rf=>o8 (exec orc T n rf.code (ofL args 0 .lf) s) fun p=>match p.1 with
  | .normal | .ret=>Xx rf.res p.2.1 p.2.2
  | .exit _=>none
end Go.RM
namespace Go.RM
open Go.VM (Pt Fr c6 gX N3 J3 A8 JV qx qq U5 eqL fits QJ mmI getK putK eqS idx)
theorem b9{b:Bool}{α:Type}{x:Option α}{y:α}:gd b x=some y↔b=true∧x=some y:=by
  unfold gd;cases b<;>simp
theorem oz{a b:Nat}(h:Nat.beq a b=true):a=b:=Nat.eq_of_beq_eq_true h
theorem Dx{a b:Nat}(h:Nat.ble a b=true):a≤b:=Nat.le_of_ble_eq_true h
theorem aqV{a b:Nat}(h:Nat.blt a b=true):a<b:=by unfold Nat.blt at h;exact Dx h
section
variable {P:Program} {φ:Ren} {Γ:Nat→V} {a:Act} {w:World}
def EnvR(φ:Ren)(a:Act)(Γ:Nat→V):Prop:=∀t,RepV φ (a.tmps.getD t undef) (Γ t)
theorem d0{v u:Value}(h:RepV φ v (.c (.sc u))):v=u:=by cases h;rfl
theorem wX{v:Value}(h:v.oneCell'=true):RepV φ v (.c (.sc v)):=RepX.sc v h
theorem aAY(b:Bool):RepV φ (.bool b) (bV b):=wX rfl
theorem akY(n:Int):RepV φ (.int .i64 n) (iV n):=wX rfl
theorem aEK{x:V}{b:Bool}(h:isB x=some b):x = .c (.sc (.bool b)):=by
  unfold isB at h;split at h<;>simp at h;subst h;rfl
theorem aBY{x:V}{n:Int}(h:isI x=some n):∃k,x = .c (.sc (.int k n)):=by
  unfold isI at h;split at h<;>simp at h;subst h;exact⟨_,rfl⟩
theorem anZ{x:V}{n:Int}(h:iz x=some n):x = .c (.sc (.int .i64 n)):=by
  unfold iz at h;split at h<;>simp at h;subst h;rfl
theorem aDq{x:V}{s:ByteArray}(h:isS x=some s):x = .c (.sc (.string s)):=by
  unfold isS at h;split at h<;>simp at h;subst h;rfl
theorem u4{n:Int}{k:Nat}(h:DJ n=some k):n=(k:Int):=by
  unfold DJ at h;split at h<;>simp at h;subst h;rfl
theorem NW{v:Value}{x:V}{b:Bool}(hr:RepV φ v x)(h:isB x=some b):v = .bool b:=d0 (aEK h▸hr)
theorem N5{v:Value}{x:V}{n:Int}(hr:RepV φ v x)(h:isI x=some n):∃k,v = .int k n:=by
  obtain⟨k,e⟩:=aBY h;exact⟨k,d0 (e▸hr)⟩
theorem vz{v:Value}{x:V}{n:Int}(hr:RepV φ v x)(h:iz x=some n):v = .int .i64 n:=d0 (anZ h▸hr)
theorem Nq{v:Value}{x:V}{s:ByteArray}(hr:RepV φ v x)(h:isS x=some s):v = .string s:=d0 (aDq h▸hr)
theorem RepX.one{v:Value}{x:X}(h:RepX φ v x):v.oneCell'=true:=by cases h<;>first | assumption | rfl | exact Go.VM.RepT.one ‹_›
theorem arW{v:Value}{t:Go.VM.T}(h:Go.VM.RepT φ.w0 φ.ok v t):RepX φ v (imX t):=by
  cases t with
  | sc u => cases h with | sc _ h => exact .sc _ h
  | sl k rows=>exact .im _ k rows h
theorem Rx{v:Value}{cs:List Go.VM.T}(hx:RepV φ v (.c (.pI cs))):∃b off,Go.VM.At φ.w0 φ.ok b off cs∧v = .pointer (some ⟨b,off,none⟩):=by
  have hx':RepX φ v (.pI cs):=hx
  cases hx' with
  | pI b off _ h=>exact⟨b,off,h,rfl⟩
theorem At.drop{w:World}{ok:Nat→Prop}{b off:Nat}{cs:List Go.VM.T}(h:Go.VM.At w ok b off cs)(n:Nat):Go.VM.At w ok b (off+n) (cs.drop n) :=
  ⟨h.1,fun j x hx=>by
    rw[List.getElem?_drop]at hx
    obtain⟨v,h1,h2⟩:=h.2 (n+j) x hx
    exact⟨v,by rw[Nat.add_assoc];exact h1,h2⟩⟩
theorem I7{v:Value}{k:Nat}{rows:List (List Go.VM.T)}(hx:RepV φ v (.c (.im k rows))) :
    (rows=[]∧∃a cap,v = .slice a 0 cap)∨∃b off cap,v = .slice (some ⟨b,off,none⟩) rows.length cap∧rows.length≤cap∧(∀row∈rows,row.length=k)∧∀(i:Nat) row,rows[i]? = some row→Go.VM.At φ.w0 φ.ok b (off+i*k) row:=by
  have hx':RepX φ v (.im k rows):=hx
  cases hx' with
  | im _ _ _ h =>
    cases h with
    | nil _ a cap=>exact .inl ⟨rfl,a,cap,rfl⟩
    | sl b off cap _ _ f hok hle hk hc hr=>exact .inr ⟨b,off,cap,rfl,hle,hk,fun i row hi=>⟨hok,fun j x hj=>⟨_,hc i row j x hi hj,hr i row j x hi hj⟩⟩⟩
theorem xV{v:Value}{x:V}{cs:List X}(h:RepV φ v x)(hx:c5 x=some cs):Pt (RepX φ) v.cells.toList cs:=by
  cases x with
  | c y =>
    simp[c5]at hx;subst hx
    have h1:RepX φ v y:=h
    rw[Go.VM.cells_one h1.one]
    exact⟨rfl,fun j u z hu hz=>by
      cases j with
      | zero=>simp at hu hz;subst hu;subst hz;exact h1
      | succ j=>simp at hu⟩
  | agg ys =>
    simp[c5]at hx;subst hx
    obtain⟨cs',rfl,hp⟩:=h
    exact hp
  | tup _=>simp[c5]at hx
  | junk=>simp[c5]at hx
theorem VQ{v:Value}{c:X}(hc:WZ v=some c):RepX φ v c:=by
  unfold WZ at hc
  split at hc<;>first | (cases hc;exact .sc _ rfl) | (simp at hc)
theorem C8:∀(vs:List Value) (cs:List X),vs.mapM WZ=some cs→Pt (RepX φ) vs cs
  | [],cs,h=>by simp at h;subst h;exact Go.VM.Pt.nil
  | v::vs,cs,h=>by
    simp only[List.mapM_cons,Option.bind_eq_bind,Option.pure_def]at h
    cases hv:WZ v with
    | none=>simp[hv]at h
    | some c =>
      cases hr:vs.mapM WZ with
      | none=>simp[hv,hr]at h
      | some r=>simp[hv,hr]at h;subst h;exact Go.VM.Pt.cons (VQ hv) (C8 vs r hr)
theorem u5{v:Value}{x:V}(hc:DK v=some x):RepV φ v x:=by
  unfold DK at hc
  split at hc
  ·rename_i cs
   cases hm:cs.toList.mapM WZ with
   | none=>simp[hm]at hc
   | some r=>simp[hm]at hc;subst hc;exact⟨cs,rfl,C8 _ _ hm⟩
  ·cases hm:WZ v with
   | none=>simp[hm]at hc
   | some r=>simp[hm]at hc;subst hc;exact VQ hm
theorem aX(s:EnvR φ a Γ){x:Operand}{y:Opd}(hc:bX x=some y):RepV φ (a.eval x) (evE Γ y):=by
  cases x with
  | tmp t=>simp[bX]at hc;subst hc;exact s t
  | const v =>
    simp only[bX]at hc
    cases hv:DK v with
    | none=>simp[hv]at hc
    | some z=>simp[hv]at hc;subst hc;exact u5 hv
  | func f=>simp[bX]at hc;subst hc;exact RepX.fn f [] [] rfl (fun j v x hv=>by simp at hv)
  | global g=>simp[bX]at hc
theorem E2(s:EnvR φ a Γ):∀(xs:List Operand) (ys:List Opd),I2 xs=some ys→Pt (RepV φ) (xs.map a.eval) (ys.map (evE Γ))
  | [],ys,hm=>by simp[I2]at hm;subst hm;exact Go.VM.Pt.nil
  | x::xs,ys,hm=>by
    simp only[I2,List.mapM_cons,Option.bind_eq_bind,Option.pure_def]at hm
    cases hx:bX x with
    | none=>simp[hx]at hm
    | some y =>
      cases hr:xs.mapM bX with
      | none=>simp[hx,hr]at hm
      | some r=>simp[hx,hr]at hm;subst hm;exact Go.VM.Pt.cons (aX s hx) (E2 s xs r hr)
theorem aiJ{xs cs:List X}{off n:Nat}(h:cut xs off n=some cs):cs=(xs.drop off).take n∧cs.length=n:=by
  unfold cut at h
  rw[b9]at h;obtain⟨h1,h2⟩:=h
  cases h2
  exact⟨rfl,oz h1⟩
theorem tq{cur cs:List X}{off:Nat}(h:off+cs.length≤cur.length):(setAt cur off cs).length=cur.length:=by
  unfold setAt;simp;omega
theorem Cz(off:Nat):∀(vs:List Value) (n:Nat) (cur:Array Value),off+n+vs.length≤cur.size →
    ((vs.zipIdx n).foldl (fun cs (x:Value×Nat)=>cs.setIfInBounds (off+x.2) x.1) cur).toList=cur.toList.take (off+n)++(vs++cur.toList.drop (off+n+vs.length))
  | [],n,cur,h=>by simp
  | v::vs,n,cur,h=>by
    simp only[List.zipIdx_cons,List.foldl_cons]
    have:=Cz off vs (n+1) (cur.setIfInBounds (off+n) v) (by simp at h ⊢;omega)
    rw[this,Array.toList_setIfInBounds]
    simp only[uw]at h
    apply List.ext_getElem?
    intro j
    simp only[List.getElem?_append,zw,List.length_take,List.length_set,kw,List.getElem?_drop,uw,Array.length_toList]
    have m1:min (off+(n+1)) cur.size=off+n+1:=by omega
    have m2:min (off+n) cur.size=off+n:=by omega
    rw[m1,m2]
    by_cases h1:j<off+n
    ·have:j<off+n+1:=by omega
     have:j<off+(n+1):=by omega
     have : ¬off+n=j:=by omega
     simp[*]
    ·by_cases h2:j=off+n
     ·subst h2
      have:off+n<cur.size:=by omega
      simp[this]
     ·have e1 : ¬j<off+n+1:=by omega
      obtain⟨m,hm⟩ : ∃m,j-(off+n)=m+1:=⟨j-(off+n)-1,by omega⟩
      have e2:j-(off+n+1)=m:=by omega
      simp only[h1,e1,sk,hm,e2,List.getElem?_cons_succ]
      by_cases h3:m<vs.length
      ·simp[h3]
      ·have h3' : ¬m+1<vs.length+1:=by omega
       simp only[h3,sk,h3']
       have : ¬off+n=off+(n+1)+vs.length+(m-vs.length):=by omega
       simp only[this,sk]
       congr 1
       omega
theorem Pt.setAt{us vs:List Value}{cur cs:List X}{off:Nat}(hb:Pt (RepX φ) us cur)(hc:Pt (RepX φ) vs cs):Pt (RepX φ) (us.take off++(vs++us.drop (off+vs.length))) (setAt cur off cs):=by
  unfold RM.setAt
  have:=hc.1
  exact Go.VM.Pt.append (Go.VM.Pt.take hb off) (Go.VM.Pt.append hc (by rw[this];exact Go.VM.Pt.drop hb _))
theorem u9{e:Opd→V}{ρ:Operand→Value}(place:Nat→Option (Nat×Nat))(hev:∀x y,bX x=some y→RepV φ (ρ x) (e y)) :
    ∀(parts:List (Nat×Operand)) (ps:List (Nat×Nat×Opd)) (cur:Array Value) (xs zs:List X),u6 place parts=some ps→Pt (RepX φ) cur.toList xs→fill e xs ps=some zs →
    ∃cells,Instr.fill place cur (parts.map fun p=>(p.1,ρ p.2))=some cells∧Pt (RepX φ) cells.toList zs
  | [],ps,cur,xs,zs,hps,hc,hf=>by
    simp[u6]at hps;subst hps
    simp[fill]at hf;subst hf
    exact⟨cur,rfl,hc⟩
  | p::parts,ps,cur,xs,zs,hps,hc,hf=>by
    simp only[u6,List.mapM_cons,Option.bind_eq_bind,Option.pure_def]at hps
    cases hpl:place p.1 with
    | none=>simp[hpl]at hps
    | some q =>
      cases hx:bX p.2 with
      | none=>simp[hpl,hx]at hps
      | some y =>
        cases hr:parts.mapM (fun p=>(place p.1).bind fun q=>(bX p.2).map fun x=>(q.1,q.2,x))with
        | none=>simp[hpl,hx,hr]at hps
        | some rest =>
          simp[hpl,hx,hr]at hps
          subst hps
          simp only[fill]at hf
          cases hcs:c5 (e y)with
          | none=>simp[hcs]at hf
          | some cs =>
            simp only[hcs,dk]at hf
            rw[b9]at hf;obtain⟨hcond,hf⟩:=hf
            simp only[gk]at hcond
            have c1:=oz hcond.1
            have c2:=Dx hcond.2
            have hp:=xV (hev _ _ hx) hcs
            have hl:(ρ p.2).cells.size=cs.length:=by have:=hp.1;simpa using this
            have hcl:cur.size=xs.length:=by have:=hc.1;simpa using this
            have hfold:=Cz q.1 (ρ p.2).cells.toList 0 cur (by simp;omega)
            have Hx:=Pt.setAt (off:=q.1) hc hp
            simp only[Nat.add_zero]at hfold
            rw[←hfold]at Hx
            obtain⟨cells,h1,h2⟩:=u9 place hev parts rest _ _ zs hr Hx hf
            refine⟨cells,?_,h2⟩
            obtain⟨off,size⟩:=q
            simp only[qk,Instr.fill,hpl]
            simp only at c1 c2
            have e1 : ¬((ρ p.2).cells.size≠size):=by omega
            have e2 : ¬(off+(ρ p.2).cells.size > cur.size):=by omega
            simp only[e1,e2,decide_false,Bool.or_self,rk,sk]
            rw[←h1]
            congr 1
            rw[←Array.foldl_toList,Array.toList_zipIdx]
def Fx(P:Program)(φ:Ren)(w:World)(m:Sem Value)(r:V):Prop:=∃v,m.run P w = .ok v w∧RepV φ v r
def GivesN(P:Program)(φ:Ren)(w:World)(m:Sem Next)(r:V):Prop:=∃v,m.run P w = .ok (.value v) w∧RepV φ v r
theorem GivesN.of{m:Sem Value}{r:V}(hg:Fx P φ w m r):GivesN P φ w (do pure (.value (←m))) r:=by
  obtain⟨v,hv,hr⟩:=hg
  exact⟨v,by simp[hv],hr⟩
theorem JY{vs:List Value}{cs:List X}(hp:Pt (RepX φ) vs cs):RepV φ (.agg vs.toArray) (mkV true cs) :=
  ⟨vs.toArray,rfl,by simpa using hp⟩
theorem zz{v:Value}{cs:List X}(hp:Pt (RepX φ) [v] cs):RepV φ v (mkV false cs):=by
  match cs,hp with
  | [c],hp=>exact hp.2 0 v c rfl rfl
  | [],hp=>have:=hp.1;simp at this
  | _::_::_,hp=>have:=hp.1;simp at this
theorem m9{v:Value}{n off:Nat}(hx:RepV φ v (.c (.ptr n off))):∃b β lim,φ n=some (b,β,lim)∧v = .pointer (some ⟨b,β+off,none⟩):=by
  have hx':RepX φ v (.ptr n off):=hx
  cases hx' with
  | ptr _ _ b β lim h=>exact⟨b,β,lim,h,rfl⟩
theorem IQ{v:Value}{xs:List X}(hx:RepV φ v (.agg xs)):∃cs,v = .agg cs∧Pt (RepX φ) cs.toList xs:=hx
theorem BJ{t:TypeId}{d:TypeDesc}{i:TypeInfo}(hd:P.underlying t=some d)(hi:P.info? t=some i){cs:Array Value}{off:Nat}{xs zs:List X}
    (hp:Pt (RepX φ) cs.toList xs) {n:Nat} (hn:n=if c6 d then i.size else 1) (hz:cut xs off n=some zs) :
    Fx P φ w (part t cs off) (mkV (c6 d) zs):=by
  have hrun:=U5 (P:=P) (w:=w) hd hi cs off
  obtain⟨rfl,hl⟩:=aiJ hz
  have hp':=Go.VM.Pt.take (Go.VM.Pt.drop hp off) n
  cases hg:c6 d with
  | true =>
    simp[hg]at hn
    refine⟨_,hrun.1 hg,⟨_,rfl,?_⟩⟩
    have e:(cs.extract off (off+i.size)).toList=(cs.toList.drop off).take n:=by
      rw[Array.toList_extract];subst hn;simp[List.extract_eq_take_drop]
    rw[e];exact hp'
  | false =>
    simp[hg]at hn
    subst hn
    have hlen:off<cs.size:=by have:=hp.1;simp at this hl;omega
    refine⟨_,hrun.2 hg cs[off] (by simp[hlen]),?_⟩
    have e:(cs.toList.drop off).take 1=[cs[off]]:=by
      rw[List.drop_eq_getElem_cons (by simpa using hlen)];simp
    rw[e]at hp'
    exact zz hp'
theorem Oq(mx:Bool)(k:IntKind):∀(vs:List Value) (xs:List V) (m r:Int),Pt (RepV φ) vs xs→mmR mx k m xs=some r →
    (vs.foldlM (if mx then Builtin.max2 else Builtin.min2) (.int k m)).run P w = .ok (.int k r) w
  | [],xs,m,r,hp,hr=>by
    have:xs=[]:=fk (by have:=hp.1;simpa using this.symm)
    subst this;simp[mmR]at hr;subst hr;simp
  | v::vs,xs,m,r,hp,hr=>by
    cases xs with
    | nil=>have:=hp.1;simp at this
    | cons x xs =>
      have h0:=hp.2 0 v x rfl rfl
      have ht:Pt (RepV φ) vs xs:=⟨by have:=hp.1;simpa using this,fun j u z hu hz=>hp.2 (j+1) u z (by simpa using hu) (by simpa using hz)⟩
      unfold mmR at hr
      split at hr
      ·simp_all
      ·rename_i b r' heq
       cases heq
       have hv:=d0 h0
       subst hv
       rw[b9]at hr;obtain⟨hkk,hr⟩:=hr
       have hkk:=of_decide_eq_true hkk
       subst hkk
       have ih:=Oq mx _ vs xs _ r ht hr
       cases mx
       ·simp only[List.foldlM_cons,rk,sk]at ih ⊢
        simp only[Builtin.min2,Sem.run_bind,Sem.run_pure,Result.andThen_ok]
        rw[←ih]
        simp only[mmI,rk,sk]
        congr 3
        rw[Int.min_def];split<;>split<;>omega
       ·simp only[List.foldlM_cons,if_true]at ih ⊢
        simp only[Builtin.max2,Sem.run_bind,Sem.run_pure,Result.andThen_ok]
        rw[←ih]
        simp only[mmI,if_true]
        congr 3
        rw[Int.max_def];split<;>split<;>omega
      ·simp at hr
theorem aHx(s:EnvR φ a Γ){o:Oper}{c:Call}(hop:o.op = .call c){b:Builtin}(hcal:c.callee = .builtin b){ys:List Opd}(hys:I2 c.args.toList=some ys)(mx:Bool)(hb:b=if mx then .max else .min){r:V}
    (hq:bj (evE Γ) (.mm mx ys)=some r):GivesN P φ w (execOp a.eval o) r:=by
  have hp:=E2 s _ _ hys
  simp only[bj]at hq
  split at hq
  ·rename_i kk m rest heq
   rw[heq]at hp
   simp only[aw]at hq
   obtain⟨n,hn,rfl⟩:=hq
   cases hl:c.args.toList.map a.eval with
   | nil=>have:=hp.1;rw[hl]at this;simp at this
   | cons v vs =>
     rw[hl]at hp
     have h0:=d0 (hp.2 0 v _ rfl rfl)
     subst h0
     have ht:Pt (RepV φ) vs rest:=⟨by have:=hp.1;simpa using this,fun j u z hu hz=>hp.2 (j+1) u z (by simpa using hu) (by simpa using hz)⟩
     have hf:=Oq (P:=P) (w:=w) mx kk vs rest m n ht hn
     have hl':(c.args.map a.eval).toList = .int kk m::vs:=by rw[Array.toList_map];exact hl
     refine⟨.int kk n,?_,wX rfl⟩
     cases mx
     ·simp only[rk,sk]at hb hf
      subst hb
      simp[execOp,hop,resolve,hcal,invoke,builtin,Builtin.min_,hl,hf]
     ·simp only[if_true]at hb hf
      subst hb
      simp[execOp,hop,resolve,hcal,invoke,builtin,Builtin.max_,hl,hf]
  ·simp at hq
theorem U2:∀(vs us:List Value) (xs ys:List X) (b:Bool),Pt (RepX φ) vs xs→Pt (RepX φ) us ys→aeW xs ys=some b→eqL vs us=some b
  | [],us,xs,ys,b,hp,hq,hb=>by
    have:xs=[]:=fk (by have:=hp.1;simpa using this.symm)
    subst this
    cases ys with
    | nil=>have:us=[]:=fk (by have:=hq.1;simpa using this)
           subst this;simpa[aeW,eqL]using hb
    | cons _ _=>simp[aeW]at hb
  | v::vs,us,xs,ys,b,hp,hq,hb=>by
    cases xs with
    | nil=>have:=hp.1;simp at this
    | cons x xs =>
      cases ys with
      | nil=>cases x<;>simp[aeW]at hb
      | cons y ys =>
        cases us with
        | nil=>have:=hq.1;simp at this
        | cons u us =>
          have h0:=hp.2 0 v x rfl rfl
          have h1:=hq.2 0 u y rfl rfl
          have ht:Pt (RepX φ) vs xs:=⟨by have:=hp.1;simpa using this,fun j u z hu hz=>hp.2 (j+1) u z (by simpa using hu) (by simpa using hz)⟩
          have ht':Pt (RepX φ) us ys:=⟨by have:=hq.1;simpa using this,fun j u z hu hz=>hq.2 (j+1) u z (by simpa using hu) (by simpa using hz)⟩
          cases x<;>cases y<;>simp only[aeW,reduceCtorEq]at hb
          cases h0;cases h1
          simp only[ak,aw]at hb
          obtain⟨c,he,d,hr,rfl⟩:=hb
          have ih:=U2 vs us xs ys d ht ht' hr
          simp[eqL,he,ih]
theorem NZ:∀(vs:List Value) (xs:List X) (sh:List TypeDesc),Pt (RepX φ) vs xs→alj sh xs=true→fits sh vs=true
  | [],xs,sh,hp,hf=>by
    have:xs=[]:=fk (by have:=hp.1;simpa using this.symm)
    subst this
    cases sh with
    | nil=>rfl
    | cons _ _=>simp[alj]at hf
  | v::vs,xs,sh,hp,hf=>by
    cases xs with
    | nil=>have:=hp.1;simp at this
    | cons x xs =>
      have h0:=hp.2 0 v x rfl rfl
      have ht:Pt (RepX φ) vs xs:=⟨by have:=hp.1;simpa using this,fun j u z hu hz=>hp.2 (j+1) u z (by simpa using hu) (by simpa using hz)⟩
      cases sh with
      | nil=>simp[alj]at hf
      | cons kd sh =>
        cases x<;>simp only[alj,rk,gk]at hf
        cases h0
        simp[fits,hf.1,NZ vs _ _ ht hf.2]
theorem eqOk_of{t:TypeId}{sh:List TypeDesc}(h:axq P t=some sh):QJ P t sh:=by
  unfold axq at h
  split at h
  ·rename_i hg
   simp only[ak]at h
   obtain⟨i,hi,d,hd,h⟩:=h
   cases d<;>simp only[reduceCtorEq]at h
   exact Go.VM.eqOk_of hd hg h
  ·simp at h
theorem P1{sh:List TypeDesc}{t:TypeId}{x y:Operand}{u v:Value}{cs ds:List X}{b:Bool}{op:BinOp}{ne:Bool}(hop:(op = .eql∧ne=false)∨(op = .neq∧ne=true))(he:QJ P t sh)(hu:RepV φ u (.agg cs))(hv:RepV φ v (.agg ds))
    (hl:alj sh cs=true) (hb:aeW cs ds=some b) :
    (do eqGuard op t x y u v;binOp op t u v:Sem Value).run P w = .ok (.bool (xor b ne)) w:=by
  obtain⟨us,rfl,hp⟩:=hu
  obtain⟨vs,rfl,hq⟩:=hv
  have hL:=U2 _ _ _ _ _ hp hq hb
  have hrun:=he.2 us.toList vs.toList b w hL (NZ _ _ _ hp hl)
  simp only[Ck]at hrun
  have hg:(eqGuard op t x y (.agg us) (.agg vs)).run P w = .ok () w:=by
    rcases hop with⟨rfl,rfl⟩ | ⟨rfl,rfl⟩<;>simp[eqGuard,he.1]
  rcases hop with⟨rfl,rfl⟩ | ⟨rfl,rfl⟩
  ·simp only[Sem.run_bind,hg,Result.andThen_ok,binOp,hrun,Sem.run_pure];simp
  ·simp only[Sem.run_bind,hg,Result.andThen_ok,binOp,hrun,Sem.run_pure];cases b<;>rfl
theorem Q4{t e:TypeId}(ht:P.underlying t=some (.slice e))(q q':Option Addr)(l c l' c':Nat)(h:q=none∨q'=none) :
    (Op.equal t (.slice q l c) (.slice q' l' c')).run P w = .ok (q.isNone&&q'.isNone) w:=by
  show(Op.equalIn (9999+1) t _ _).run P w=_
  rw[Op.equalIn]
  rcases h with rfl | rfl
  ·cases q'<;>simp[run_underlying ht]
  ·cases q<;>simp[run_underlying ht]
theorem A4{lo:Option Operand}{lo':Option Opd}(h:Lz lo=some lo'):(lo=none∧lo'=none)∨∃l l',lo=some l∧lo'=some l'∧bX l=some l':=by
  cases lo with
  | none=>simp[Lz]at h;exact .inl ⟨rfl,h.symm⟩
  | some l =>
    cases hl:bX l with
    | none=>simp[Lz,hl]at h
    | some y=>simp[Lz,hl]at h;exact .inr ⟨l,y,rfl,h.symm,hl⟩
theorem m5(s:EnvR φ a Γ){lo hi:Option Operand}{lo' hi':Option Opd}(hl:Lz lo=some lo')(hh:Lz hi=some hi'){l n:Nat}{len cap:Nat}(b1:bnd (evE Γ) 0 lo'=some l)(b2:bnd (evE Γ) len hi'=some n)
    (h1:l≤n) (h2:n≤len) (hc:len≤cap) (isS:Bool) :
    (Instr.sliceBounds isS len cap (lo.map a.eval) (hi.map a.eval) none).run P w = .ok (l,n,cap) w:=by
  have num:∀ {x:Operand} {x':Opd} {d m:Nat},bX x=some x'→bnd (evE Γ) d (some x')=some m→a.eval x = .int .i64 (m:Int):=by
    intro x x' d m hx hb
    simp only[bnd,ak]at hb
    obtain⟨k,hk,hn⟩:=hb
    rw[←u4 hn]
    exact vz (aX s hx) hk
  rcases A4 hl with⟨rfl,rfl⟩ | ⟨x,x',rfl,rfl,hx⟩<;>rcases A4 hh with⟨rfl,rfl⟩ | ⟨y,y',rfl,rfl,hy⟩
  ·simp only[bnd,ek]at b1 b2;subst b1;subst b2
   simp[Instr.sliceBounds]
  ·simp only[bnd,ek]at b1;subst b1
   have hv:=num hy b2
   simp[Instr.sliceBounds,hv,run_sliceBound,(by omega:(n:Int)≤(cap:Int))]
  ·simp only[bnd,ek]at b2;subst b2
   have hv:=num hx b1
   simp[Instr.sliceBounds,hv,run_sliceBound,(by omega:(l:Int)≤(len:Int))]
  ·have hv:=num hx b1
   have hv':=num hy b2
   simp[Instr.sliceBounds,hv,hv',run_sliceBound,(by omega:(l:Int)≤(n:Int)),(by omega:(n:Int)≤(cap:Int))]
end
end Go.RM
namespace Go.RM
open Go.VM (Pt Fr c6 gX N3 J3 A8 JV qx qq Dz eqL fits QJ mmI getK putK eqS idx)
section
variable {P:Program} {φ:Ren} {Γ:Nat→V} {a:Act} {w:World}
theorem aTx{v:Value}{x:V}{b:Bool}(hr:RepV φ v x)(h:V6 0 x=some b):∃q,v = .pointer q∧q.isNone=b:=by
 have h:aoX x=some b:=h
 unfold aoX at h
 split at h<;>simp only[ek,reduceCtorEq]at h<;>subst h
 ·exact⟨none,d0 hr,rfl⟩
 ·obtain⟨b,β,lim,_,rfl⟩:=m9 hr;exact⟨_,rfl,rfl⟩
 ·obtain⟨b,off,_,rfl⟩:=Rx hr;exact⟨_,rfl,rfl⟩
theorem aUq{v:Value}{x:V}{b:Bool}(hr:RepV φ v x)(h:V6 1 x=some b):∃q,v = .map q∧q.isNone=b:=by
 have h:apW x=some b:=h
 unfold apW at h
 split at h<;>simp only[ek,reduceCtorEq]at h<;>subst h
 ·exact⟨none,d0 hr,rfl⟩
 ·cases hr;exact⟨_,rfl,rfl⟩
theorem aTQ{v:Value}{x:V}{b:Bool}(hr:RepV φ v x)(h:V6 2 x=some b):∃q l c,v = .slice q l c∧q.isNone=b:=by
 have h:amX x=some b:=h
 unfold amX at h
 split at h<;>simp only[ek,reduceCtorEq]at h<;>subst h
 ·exact⟨none,0,0,d0 hr,rfl⟩
 ·cases hr;exact⟨_,_,_,rfl,rfl⟩
 ·cases hr;exact⟨_,_,_,rfl,rfl⟩
 ·rcases I7 hr with⟨h,_⟩ | ⟨b,off,cap,rfl,_⟩
  ·simp at h
  ·exact⟨_,_,_,rfl,rfl⟩
theorem aVZ{t:TypeId}{x y:Operand}{u v:Value}{b:Bool}{op:BinOp}{ne:Bool}(hop:(op = .eql∧ne=false)∨(op = .neq∧ne=true))(hu:(∃q,u = .pointer q)∨(∃q,u = .map q)∨∃q l c,u = .slice q l c)(he:(Op.equal t u v).run P w = .ok b w) :
  (do eqGuard op t x y u v;binOp op t u v:Sem Value).run P w = .ok (.bool (xor b ne)) w:=by
 have h1:(∀cs,u ≠ .agg cs) ∧ u ≠ .nilIface := by rcases hu with⟨q,rfl⟩ | ⟨q,rfl⟩ | ⟨q,l,c,rfl⟩<;>exact⟨by simp,by simp⟩
 have hg:=A8 (P:=P) (w:=w) (op:=op) (t:=t) (x:=x) (y:=y) (v:=v) h1.1 h1.2
 rcases hop with⟨rfl,rfl⟩ | ⟨rfl,rfl⟩
 ·simp only[Sem.run_bind,hg,Result.andThen_ok]
  rcases hu with⟨q,rfl⟩ | ⟨q,rfl⟩ | ⟨q,l,c,rfl⟩<;>(cases v<;>simp[binOp,he])
 ·simp only[Sem.run_bind,hg,Result.andThen_ok]
  rcases hu with⟨q,rfl⟩ | ⟨q,rfl⟩ | ⟨q,l,c,rfl⟩<;>(cases v<;>simp[binOp,he])
theorem PW{α:Type}{q q':Option α}(h:(q.isNone||q'.isNone)=true):q=none∨q'=none:=by
 cases q with
 | none=>exact .inl rfl
 | some _=>cases q' with
  | none=>exact .inr rfl
  | some _=>simp at h
theorem adx(s:EnvR φ a Γ){t e:TypeId}{ie:TypeInfo}(ht:P.underlying t=some (.slice e))(hie:P.info? e=some ie){x:Operand}{x':Opd}(hx:bX x=some x')
  {lo hi:Option Operand} {lo' hi':Option Opd} (hl:Lz lo=some lo') (hh:Lz hi=some hi') {r:V} (hq:bj (evE Γ) (.sub ie.size x' lo' hi')=some r) :
  Fx P φ w (Instr.sliceAt t (a.eval x) (lo.map a.eval) (hi.map a.eval) none) r:=by
 have hxr:=aX s hx
 simp only[bj]at hq
 split at hq
 ·rename_i heq
  rw[heq]at hxr
  simp only[ak]at hq
  obtain⟨l,b1,n,b2,hq⟩:=hq
  rw[b9]at hq;obtain⟨hc,hq⟩:=hq
  simp only[gk]at hc
  have:=oz hc.1;have:=oz hc.2;subst l;subst n
  cases hq
  have hv:=d0 hxr
  have hb:=m5 (P:=P) (w:=w) s hl hh b1 b2 (mw 0) (mw 0) (mw 0) true
  rw[hv]
  exact⟨.slice none 0 0,by simp[Instr.sliceAt,run_underlying ht,Instr.slice,hb,sizeOf,typeInfo,hie],wX rfl⟩
 ·rename_i n k' off len heq
  rw[heq]at hxr
  simp only[ak]at hq
  obtain⟨l,b1,m,b2,hq⟩:=hq
  rw[b9]at hq;obtain⟨hc,hq⟩:=hq
  simp only[gk]at hc
  have c1:=oz hc.1;have c2:=Dx hc.2.1;have c3:=Dx hc.2.2
  cases hq
  subst c1
  generalize hval:a.eval x=v at hxr
  have hxr':RepX φ v (.sl n ie.size off len):=hxr
  cases hxr' with
  | sl _ _ _ _ b β lim o cap hφ hlen ho hlim =>
   have hb:=m5 (P:=P) (w:=w) s hl hh b1 b2 c2 c3 hlen true
   refine⟨.slice (if cap=l then some ⟨b,o,none⟩else some ⟨b,o+l*ie.size,none⟩) (m-l) (cap-l),?_,?_⟩
   ·have:(if cap=l then some (⟨b,o,none⟩ : Addr)else some ⟨b,o+l*ie.size,none⟩)=(if cap=l then some (⟨b,o,none⟩ : Addr)else(some (⟨b,o,none⟩ : Addr)).map (·.add (l*ie.size))):=by
     simp only[qw,gX]
    rw[this]
    simp[Instr.sliceAt,run_underlying ht,Instr.slice,hb,sizeOf,typeInfo,hie]
   ·by_cases e1:cap=l
    ·subst e1
     simp only[if_true]
     refine RepX.sl n ie.size _ _ b β lim o _ hφ (by omega) (fun h=>by omega) ?_
     have:cap-cap=0:=by omega
     rw[this];omega
    ·simp only[e1,sk]
     refine RepX.sl n ie.size _ _ b β lim (o+l*ie.size) _ hφ (by omega) (fun h=>?_) ?_
     ·rw[ho (by omega)];omega
     ·have:l*ie.size+(cap-l)*ie.size=cap*ie.size:=by rw[←Nat.add_mul];congr 1;omega
      omega
 ·rename_i heq
  rw[heq]at hxr
  simp only[ak]at hq
  obtain⟨l,b1,n,b2,hq⟩:=hq
  rw[b9]at hq;obtain⟨hc,hq⟩:=hq
  simp only[gk]at hc
  have:=oz hc.1;have:=oz hc.2;subst l;subst n
  cases hq
  generalize hval:a.eval x=v at hxr
  have hxr':RepX φ v .es:=hxr
  cases hxr' with
  | es q =>
   have hb:=m5 (P:=P) (w:=w) s hl hh b1 b2 (mw 0) (mw 0) (mw 0) true
   exact⟨.slice (some q) 0 0,by simp[Instr.sliceAt,run_underlying ht,Instr.slice,hb,sizeOf,typeInfo,hie],RepX.es q⟩
 ·rename_i heq
  rw[heq]at hxr
  simp only[ak]at hq
  obtain⟨l,b1,n,b2,hq⟩:=hq
  rw[b9]at hq;obtain⟨hc,hq⟩:=hq
  simp only[gk]at hc
  have:=oz hc.1;have:=oz hc.2;subst l;subst n
  cases hq
  generalize hval:a.eval x=v at hxr
  have hxr':RepX φ v .ez:=hxr
  cases hxr' with
  | ez q =>
   have hb:=m5 (P:=P) (w:=w) s hl hh b1 b2 (mw 0) (mw 0) (mw 0) true
   exact⟨.slice q 0 0,by simp[Instr.sliceAt,run_underlying ht,Instr.slice,hb,sizeOf,typeInfo,hie],RepX.ez q⟩
 ·rename_i k' rows heq
  rw[heq]at hxr
  simp only[ak]at hq
  obtain⟨l,b1,m,b2,hq⟩:=hq
  rw[b9]at hq;obtain⟨hc,hq⟩:=hq
  simp only[gk]at hc
  have c1:=oz hc.1;have c2:=Dx hc.2.1;have c3:=Dx hc.2.2
  cases hq
  subst c1
  generalize hval:a.eval x=v at hxr
  have hxr':RepX φ v (.im ie.size rows):=hxr
  cases hxr' with
  | im _ _ _ hrt =>
   cases hrt with
   | nil _ ad cap =>
    simp only[List.length_nil,Nat.le_zero]at c3
    simp only[List.length_nil]at b2
    subst c3
    have:=Nat.le_zero.1 c2;subst this
    have hb:=m5 (P:=P) (w:=w) s hl hh b1 b2 (mw 0) (mw 0) (Nat.zero_le cap) true
    refine⟨.slice ad 0 cap,by cases cap<;>cases ad<;>simp[Instr.sliceAt,run_underlying ht,Instr.slice,hb,sizeOf,typeInfo,hie,gX,Addr.add],RepX.im _ _ _ ?_⟩
    simp only[List.drop_nil,List.take_nil]
    exact Go.VM.RepT.nil _ _ _
   | sl b off cap _ _ f hok hle hk hcc hr =>
    have hb:=m5 (P:=P) (w:=w) s hl hh b1 b2 c2 c3 hle true
    have hlen:((rows.drop l).take (m-l)).length=m-l:=by simp;omega
    refine⟨.slice (if cap=l then some ⟨b,off,none⟩else some ⟨b,off+l*ie.size,none⟩) (m-l) (cap-l),?_,RepX.im _ _ _ ?_⟩
    ·have:(if cap=l then some (⟨b,off,none⟩ : Addr)else some ⟨b,off+l*ie.size,none⟩)=(if cap=l then some (⟨b,off,none⟩ : Addr)else(some (⟨b,off,none⟩ : Addr)).map (·.add (l*ie.size))):=by
      simp only[qw,gX]
     rw[this]
     simp[Instr.sliceAt,run_underlying ht,Instr.slice,hb,sizeOf,typeInfo,hie]
    ·by_cases e0:m-l=0
     ·rw[e0,List.take_zero]
      exact Go.VM.RepT.nil _ _ _
     ·have e1 : ¬cap=l:=by omega
      simp only[e1,sk]
      have e2:∀(i:Nat) row,((rows.drop l).take (m-l))[i]? = some row→rows[l+i]? = some row:=by
       intro i row hi
       rw[zw]at hi
       split at hi
       ·rw[List.getElem?_drop]at hi;exact hi
       ·simp at hi
      have e3:=Go.VM.RepT.sl (w:=φ.w0) (ok:=φ.ok) b (off+l*ie.size) (cap-l) ie.size ((rows.drop l).take (m-l)) (fun i j=>f (l+i) j) hok (by rw[hlen];omega)
       (fun row hrow=>hk row (List.mem_of_mem_drop (List.mem_of_mem_take hrow)))
       (fun i row j x hi hj=>by
        have:=hcc (l+i) row j x (e2 i row hi) hj
        rw[Nat.add_mul,←Nat.add_assoc]at this
        exact this)
       (fun i row j x hi hj=>hr (l+i) row j x (e2 i row hi) hj)
      rw[hlen]at e3
      exact e3
 ·simp at hq
theorem LX(s:EnvR φ a Γ){t:TypeId}(ht:P.underlying t=some .string){x:Operand}{x':Opd}(hx:bX x=some x')
  {lo hi:Option Operand} {lo' hi':Option Opd} (hl:Lz lo=some lo') (hh:Lz hi=some hi') {r:V} (hq:bj (evE Γ) (.subS x' lo' hi')=some r) :
  Fx P φ w (Instr.sliceAt t (a.eval x) (lo.map a.eval) (hi.map a.eval) none) r:=by
 simp only[bj,ak]at hq
 obtain⟨str,hs,l,b1,n,b2,hq⟩:=hq
 rw[b9]at hq;obtain⟨hc,hq⟩:=hq
 simp only[gk]at hc
 cases hq
 have hval:=Nq (aX s hx) hs
 rw[hval]
 have hb:=m5 (P:=P) (w:=w) s hl hh b1 b2 (Dx hc.1) (Dx hc.2) (mw _) false
 exact⟨.string (str.extract l n),by simp[Instr.sliceAt,run_underlying ht,Instr.slice,hb],wX rfl⟩
theorem aBx(s:EnvR φ a Γ){t e:TypeId}{ie:TypeInfo}(ht:P.underlying t=some (.slice e))(hie:P.info? e=some ie){x lo hi mx:Operand}{x' lo' hi' mx':Opd}(hx:bX x=some x')
  (hl:bX lo=some lo') (hh:bX hi=some hi') (hm:bX mx=some mx') {r:V} (hq:bj (evE Γ) (.sub0 x' lo' hi' mx')=some r) :
  Fx P φ w (Instr.sliceAt t (a.eval x) (some (a.eval lo)) (some (a.eval hi)) (some (a.eval mx))) r:=by
 have hxr:=aX s hx
 simp only[bj,ak]at hq
 obtain⟨l,h1,h,h2,m,h3,hq⟩:=hq
 rw[b9]at hq;obtain⟨hc,hq⟩:=hq
 simp only[gk,Dk]at hc
 obtain⟨rfl,rfl,rfl⟩:=hc
 have e1:=vz (aX s hl) h1
 have e2:=vz (aX s hh) h2
 have e3:=vz (aX s hm) h3
 rw[e1,e2,e3]
 have hb:∀len cap,(Instr.sliceBounds true len cap (some (.int .i64 0)) (some (.int .i64 0)) (some (.int .i64 0))).run P w = .ok (0,0,0) w:=by
  intro len cap
  simp[Instr.sliceBounds,run_sliceBound]
 split at hq
 ·rename_i heq
  rw[heq]at hxr
  cases hq
  rw[d0 hxr]
  exact⟨.slice none 0 0,by simp[Instr.sliceAt,run_underlying ht,Instr.slice,hb,sizeOf,typeInfo,hie],wX rfl⟩
 ·rename_i heq
  rw[heq]at hxr
  cases hq
  generalize hval:a.eval x=v at hxr
  cases hxr with
  | sl _ _ _ _ b β lim o cap hφ hlen ho hlim =>
   exact⟨.slice (some ⟨b,o,none⟩) 0 0,by simp[Instr.sliceAt,run_underlying ht,Instr.slice,hb,sizeOf,typeInfo,hie],RepX.es _⟩
 ·rename_i heq
  rw[heq]at hxr
  cases hq
  generalize hval:a.eval x=v at hxr
  cases hxr with
  | es q=>exact⟨.slice (some q) 0 0,by simp[Instr.sliceAt,run_underlying ht,Instr.slice,hb,sizeOf,typeInfo,hie],RepX.es _⟩
 ·rename_i heq
  rw[heq]at hxr
  cases hq
  generalize hval:a.eval x=v at hxr
  cases hxr with
  | ez q=>exact⟨.slice q 0 0,by simp[Instr.sliceAt,run_underlying ht,Instr.slice,hb,sizeOf,typeInfo,hie],RepX.ez _⟩
 ·rename_i heq
  rw[heq]at hxr
  cases hq
  generalize hval:a.eval x=v at hxr
  rcases I7 hxr with⟨_,q,cap,rfl⟩ | ⟨b,off,cap,rfl,_⟩
  ·exact⟨.slice q 0 0,by simp[Instr.sliceAt,run_underlying ht,Instr.slice,hb,sizeOf,typeInfo,hie],RepX.ez _⟩
  ·exact⟨.slice (some ⟨b,off,none⟩) 0 0,by simp[Instr.sliceAt,run_underlying ht,Instr.slice,hb,sizeOf,typeInfo,hie],RepX.ez _⟩
 ·simp at hq
theorem afX:∀(vs:List Value) (xs:List V) (cs:List X),Pt (RepV φ) vs xs→xs.mapM aEZ=some cs→Pt (RepX φ) vs cs
 | [],xs,cs,hp,hm=>by
  have:xs=[]:=fk (by have:=hp.1;simpa using this.symm)
  subst this;simp at hm;subst hm;exact Go.VM.Pt.nil
 | v::vs,xs,cs,hp,hm=>by
  cases xs with
  | nil=>have:=hp.1;simp at this
  | cons x xs =>
   have h0:=hp.2 0 v x rfl rfl
   have ht:Pt (RepV φ) vs xs:=⟨by have:=hp.1;simpa using this,fun j u z hu hz=>hp.2 (j+1) u z (by simpa using hu) (by simpa using hz)⟩
   simp only[List.mapM_cons,Option.bind_eq_bind,Option.pure_def]at hm
   cases hx:aEZ x with
   | none=>simp[hx]at hm
   | some c =>
    cases hr:xs.mapM aEZ with
    | none=>simp[hx,hr]at hm
    | some r =>
     simp[hx,hr]at hm
     subst hm
     refine Go.VM.Pt.cons ?_ (afX vs xs r ht hr)
     cases x<;>simp[aEZ]at hx
     subst hx;exact h0
theorem aTV(s:EnvR φ a Γ){o:Oper}{ro:RO}{r:V}{op:BinOp}{t yt:TypeId}{x y:Operand}(hop:o.op = .binOp op t x y yt)(hc:cRO P o=some ro)(hq:bj (evE Γ) ro=some r):GivesN P φ w (execOp a.eval o) r:=by
 simp only[cRO,hop,ak]at hc
 obtain⟨d,hd,x',hx',y',hy',hc⟩:=hc
 have hxr:=aX s hx'
 have hyr:=aX s hy'
 have fin:∀ {b ne:Bool},(do eqGuard op t x y (a.eval x) (a.eval y);binOp op t (a.eval x) (a.eval y):Sem Value).run P w = .ok (.bool (xor b ne)) w→r=bV (xor b ne)→GivesN P φ w (execOp a.eval o) r:=by
  intro b ne hrun hr
  subst hr
  simp only[execOp,hop]
  exact GivesN.of ⟨_,hrun,aAY _⟩
 have bin:ro = .bin op x' y'→GivesN P φ w (execOp a.eval o) r:=by
  intro hvo
  subst hvo
  simp only[bj]at hq
  split at hq
  ·rename_i u v h1 h2
   simp only[aw]at hq
   obtain⟨q,hbq,rfl⟩:=hq
   have hu:=d0 (h1▸hxr)
   have hv:=d0 (h2▸hyr)
   obtain⟨f1,f2,f3⟩:=J3 hbq
   have hgd:=A8 (P:=P) (w:=w) (op:=op) (t:=t) (x:=x) (y:=y) (u:=a.eval x) (v:=a.eval y) (by rw[hu];exact f1) (by rw[hu];exact f2)
   have hrun:=N3 (P:=P) (w:=w) (t:=t) hbq
   simp only[execOp,hop]
   refine GivesN.of ⟨q,?_,wX f3⟩
   rw[hu,hv]at hgd ⊢
   simp[hgd,hrun]
  ·simp at hq
 have hneq:∀ {kd:Nat} {ne:Bool},(op = .eql∧ne=false)∨(op = .neq∧ne=true)→ro = .neq kd ne x' y' →
   (∀p q,V6 kd (evE Γ x')=some p→V6 kd (evE Γ y')=some q→(p||q)=true→((∃q,a.eval x = .pointer q)∨(∃q,a.eval x = .map q)∨∃q l c,a.eval x = .slice q l c)∧(Op.equal t (a.eval x) (a.eval y)).run P w = .ok (p&&q) w)→GivesN P φ w (execOp a.eval o) r:=by
  intro kd ne hop' hvo hk
  subst hvo
  simp only[bj,ak]at hq
  obtain⟨p,hp,q,hq2,hq⟩:=hq
  rw[b9]at hq;obtain⟨hpq,hq⟩:=hq
  obtain⟨h1,h3⟩:=hk p q hp hq2 hpq
  exact fin (aVZ hop' h1 h3) (Option.some.inj hq).symm
 have hptr:∀ {e:TypeId} {ne:Bool},P.underlying t=some (.pointer e)→((op = .eql∧ne=false)∨(op = .neq∧ne=true))→ro = .neq 0 ne x' y'→GivesN P φ w (execOp a.eval o) r:=by
  intro e ne hd hop' hvo
  refine hneq hop' hvo (fun p q hp hq hpq=>?_)
  obtain⟨u,hu,rfl⟩:=aTx hxr hp
  obtain⟨v,hv,rfl⟩:=aTx hyr hq
  rw[hu,hv]
  refine⟨.inl ⟨_,rfl⟩,?_⟩
  rcases PW hpq with rfl | rfl
  ·rw[(qx hd v).1];simp
  ·rw[(qx hd u).2];simp
 have hmap:∀ {k e:TypeId} {ne:Bool},P.underlying t=some (.map k e)→((op = .eql∧ne=false)∨(op = .neq∧ne=true))→ro = .neq 1 ne x' y'→GivesN P φ w (execOp a.eval o) r:=by
  intro k e ne hd hop' hvo
  refine hneq hop' hvo (fun p q hp hq hpq=>?_)
  obtain⟨u,hu,rfl⟩:=aUq hxr hp
  obtain⟨v,hv,rfl⟩:=aUq hyr hq
  rw[hu,hv]
  refine⟨.inr (.inl ⟨_,rfl⟩),?_⟩
  rcases PW hpq with rfl | rfl
  ·rw[(qq hd v).1];simp
  ·rw[(qq hd u).2];simp
 have hsl:∀ {e:TypeId} {ne:Bool},P.underlying t=some (.slice e)→((op = .eql∧ne=false)∨(op = .neq∧ne=true))→ro = .neq 2 ne x' y'→GivesN P φ w (execOp a.eval o) r:=by
  intro e ne hd hop' hvo
  refine hneq hop' hvo (fun p q hp hq hpq=>?_)
  obtain⟨u,l,c,hu,rfl⟩:=aTQ hxr hp
  obtain⟨v,l',c',hv,rfl⟩:=aTQ hyr hq
  rw[hu,hv]
  exact⟨.inr (.inr ⟨_,_,_,rfl⟩),Q4 hd u v l c l' c' (PW hpq)⟩
 have hagg:∀ {ne:Bool} {sh:List TypeDesc},axq P t=some sh→((op = .eql∧ne=false)∨(op = .neq∧ne=true))→ro = .aeq ne t sh x' y'→GivesN P φ w (execOp a.eval o) r:=by
  intro ne sh hsh hop' hvo
  subst hvo
  simp only[bj]at hq
  split at hq
  ·rename_i cs ds h1 h2
   rw[b9]at hq;obtain⟨hl,hq⟩:=hq
   simp only[aw]at hq
   obtain⟨b,hb,rfl⟩:=hq
   exact fin (P1 hop' (eqOk_of hsh) (h1▸hxr) (h2▸hyr) hl hb) rfl
  ·simp at hq
 have hbool:∀ {ne:Bool},P.underlying t=some .bool→((op = .eql∧ne=false)∨(op = .neq∧ne=true))→ro = .beq ne x' y'→GivesN P φ w (execOp a.eval o) r:=by
  intro ne hd hop' hvo
  subst hvo
  simp only[bj,ak,aw]at hq
  obtain⟨c,h1,d,h2,hr⟩:=hq
  have hu:=NW hxr h1
  have hv:=NW hyr h2
  refine fin (b:=decide (c=d)) (ne:=ne) ?_ hr.symm
  rw[hu,hv]
  have:=JV (P:=P) (w:=w) (x:=x) (y:=y) (c:=c) (d:=d) hd hop'
  exact this.trans (by cases decide (c=d)<;>cases ne<;>rfl)
 cases d
 case int k=>cases op<;>(simp only[ek]at hc;exact bin hc.symm)
 case string=>cases op<;>(simp only[ek]at hc;exact bin hc.symm)
 case bool =>
  cases op<;>simp only[ek,reduceCtorEq]at hc
  ·exact hbool hd (.inl ⟨rfl,rfl⟩) hc.symm
  ·exact hbool hd (.inr ⟨rfl,rfl⟩) hc.symm
 case pointer e =>
  cases op<;>simp only[ek,reduceCtorEq]at hc
  ·exact hptr hd (.inl ⟨rfl,rfl⟩) hc.symm
  ·exact hptr hd (.inr ⟨rfl,rfl⟩) hc.symm
 case map k e =>
  cases op<;>simp only[ek,reduceCtorEq]at hc
  ·exact hmap hd (.inl ⟨rfl,rfl⟩) hc.symm
  ·exact hmap hd (.inr ⟨rfl,rfl⟩) hc.symm
 case slice e =>
  cases op<;>simp only[ek,reduceCtorEq]at hc
  ·exact hsl hd (.inl ⟨rfl,rfl⟩) hc.symm
  ·exact hsl hd (.inr ⟨rfl,rfl⟩) hc.symm
 case struct fs =>
  cases op<;>simp only[aw,reduceCtorEq]at hc
  ·obtain⟨sh,hsh,hc⟩:=hc;exact hagg hsh (.inl ⟨rfl,rfl⟩) hc.symm
  ·obtain⟨sh,hsh,hc⟩:=hc;exact hagg hsh (.inr ⟨rfl,rfl⟩) hc.symm
 all_goals (exfalso;cases op<;>simp only[reduceCtorEq]at hc)
theorem aMK {fn : Func} (h : fn.name = "internal/bytealg.IndexByteString") : Extern.find fn = some Extern.BytealgIndexByte.indexByte := by
 unfold Extern.find
 simp only[h]
 kernel_rfl
theorem anJ(s:EnvR φ a Γ){o:Oper}{ro:RO}{r:V}(hc:cRO P o=some ro)(hq:bj (evE Γ) ro=some r):GivesN P φ w (execOp a.eval o) r:=by
 cases hop:o.op
 case move x =>
  simp only[cRO,hop,aw]at hc
  obtain⟨y,hy,rfl⟩:=hc
  cases hq
  exact⟨_,by simp[execOp,hop],aX s hy⟩
 case assign x =>
  simp only[cRO,hop,aw]at hc
  obtain⟨y,hy,rfl⟩:=hc
  cases hq
  exact⟨_,by simp[execOp,hop],aX s hy⟩
 case pick c x y =>
  simp only[cRO,hop,ak,aw]at hc
  obtain⟨c',hc',x',hx',y',hy',rfl⟩:=hc
  simp only[bj,aw]at hq
  obtain⟨t,ht,rfl⟩:=hq
  have hv:=NW (aX s hc') ht
  refine⟨if t then a.eval x else a.eval y,by simp[execOp,hop,hv,asBool],?_⟩
  cases t
  ·exact aX s hy'
  ·exact aX s hx'
 case nilCheck x =>
  simp only[cRO,hop,aw]at hc
  obtain⟨y,hy,rfl⟩:=hc
  simp only[bj]at hq
  rw[b9]at hq;obtain⟨hp,hq⟩:=hq
  cases hq
  have hr:=aX s hy
  unfold kZ at hp
  split at hp
  ·rename_i heq
   rw[heq]at hr
   obtain⟨b,β,lim,_,hv⟩:=m9 hr
   rw[heq]
   exact⟨a.eval x,by simp[execOp,hop,hv],hr⟩
  ·rename_i heq
   rw[heq]at hr
   obtain⟨b,off,_,hv⟩:=Rx hr
   rw[heq]
   exact⟨a.eval x,by simp[execOp,hop,hv],hr⟩
  ·simp at hp
 case fieldAddr st x f =>
  simp only[cRO,hop,ak]at hc
  obtain⟨d,hd,hc⟩:=hc
  cases d<;>simp only[reduceCtorEq]at hc
  simp only[ak]at hc
  obtain⟨fd,hf,fi,hfi,hc⟩:=hc
  split at hc
  ·simp at hc
  ·rename_i hz
   simp only[aw]at hc
   obtain⟨x',hx',rfl⟩:=hc
   have hr:=aX s hx'
   simp only[bj]at hq
   split at hq
   ·rename_i n off heq
    rw[heq]at hr
    cases hq
    obtain⟨b,β,lim,hφ,hv⟩:=m9 hr
    simp only[execOp,hop,hv]
    refine GivesN.of ⟨_,Dz hd hf hfi hz,?_⟩
    rw[Nat.add_assoc]
    exact RepX.ptr n _ b β lim hφ
   ·rename_i cs heq
    rw[heq]at hr
    cases hq
    obtain⟨b,off,hat,hv⟩:=Rx hr
    simp only[execOp,hop,hv]
    exact GivesN.of ⟨_,Dz hd hf hfi hz,RepX.pI _ _ _ (At.drop hat _)⟩
   ·simp at hq
 case field st x f =>
  simp only[cRO,hop,ak]at hc
  obtain⟨d,hd,hc⟩:=hc
  cases d<;>simp only[reduceCtorEq]at hc
  simp only[ak,Hq,aw]at hc
  obtain⟨fd,hf,⟨d,i⟩,⟨d',hd',i',hi',he⟩,x',hx',hc⟩:=hc
  cases he
  have key:∀n,n=(if c6 d then i.size else 1)→bj (evE Γ) (.field fd.offset n (c6 d) x')=some r→GivesN P φ w (execOp a.eval o) r:=by
   intro n hn hq
   simp only[bj]at hq
   split at hq
   ·rename_i cs heq
    simp only[aw]at hq
    obtain⟨zs,hz,rfl⟩:=hq
    obtain⟨us,hu,hp⟩:=IQ (heq▸aX s hx')
    obtain⟨v,hrun,hrep⟩:=BJ (P:=P) (w:=w) hd' hi' hp hn hz
    simp only[execOp,hop,hu]
    exact GivesN.of ⟨v,by simp[Instr.field,run_underlying hd,hf,asAgg,hrun],hrep⟩
   ·simp at hq
  cases hg:c6 d with
  | true=>simp only[hg,if_true]at hc;subst hc;exact key i.size (by simp[hg]) (by rw[hg];exact hq)
  | false=>simp only[hg,rk,sk]at hc;subst hc;exact key 1 (by simp[hg]) (by rw[hg];exact hq)
 case indexAddr t x i =>
  simp only[cRO,hop,ak]at hc
  obtain⟨d,hd,hc⟩:=hc
  cases d<;>simp only[reduceCtorEq]at hc
  case slice e =>
   simp only[ak,aw]at hc
   obtain⟨ie,hie,x',hx',i',hi',rfl⟩:=hc
   simp only[bj,ak]at hq
   obtain⟨n,hn,j,hj,hq⟩:=hq
   split at hq
   ·rename_i m k' off len heq
    rw[b9]at hq;obtain⟨hcnd,hq⟩:=hq
    simp only[gk]at hcnd
    have e1:=oz hcnd.1;have e2:=aqV hcnd.2
    subst e1
    cases hq
    obtain⟨kk,hv⟩:=N5 (aX s hi') hn
    have hj:=u4 hj
    subst hj
    have hr:=aX s hx'
    rw[heq]at hr
    generalize hval:a.eval x=v at hr
    cases hr with
    | sl _ _ _ _ b β lim o' cap hφ hlen ho hlim =>
     have ho:=ho (by omega)
     subst ho
     simp only[execOp,hop,hv,hval]
     refine GivesN.of ⟨.pointer (some ⟨b,β+(off+j*ie.size),none⟩),?_,RepX.ptr m _ b β lim hφ⟩
     have hin:(0:Int)≤(j:Int)∧(j:Int)<(len:Int):=⟨by omega,by omega⟩
     simp[Instr.indexAt,run_underlying hd,asIntOf,hin,sizeOf,typeInfo,hie,gX,Nat.add_assoc]
     omega
   ·rename_i k' rows heq
    rw[b9]at hq;obtain⟨hcnd,hq⟩:=hq
    have e1:=oz hcnd
    subst e1
    simp only[aw]at hq
    obtain⟨row,hrow,rfl⟩:=hq
    obtain⟨kk,hv⟩:=N5 (aX s hi') hn
    have hj:=u4 hj
    subst hj
    have hlt:=(bw.1 hrow).1
    rcases I7 (heq▸aX s hx')with⟨h0,_⟩ | ⟨b,off,cap,hval,hle,hk,hat⟩
    ·rw[h0]at hlt;simp at hlt
    ·simp only[execOp,hop,hv,hval]
     refine GivesN.of ⟨.pointer (some ⟨b,off+j*ie.size,none⟩),?_,RepX.pI b _ row (hat j row hrow)⟩
     have hin:(0:Int)≤(j:Int)∧(j:Int)<(rows.length:Int):=⟨by omega,by omega⟩
     simp[Instr.indexAt,run_underlying hd,asIntOf,hin,sizeOf,typeInfo,hie,gX]
     omega
   ·simp at hq
  case array n e =>
   simp only[ak,aw]at hc
   obtain⟨ie,hie,x',hx',i',hi',rfl⟩:=hc
   simp only[bj,ak]at hq
   obtain⟨nn,hn,j,hj,hq⟩:=hq
   split at hq
   ·rename_i m off heq
    rw[b9]at hq;obtain⟨hcnd,hq⟩:=hq
    have e2:=aqV hcnd
    cases hq
    obtain⟨kk,hv⟩:=N5 (aX s hi') hn
    have hj:=u4 hj
    subst hj
    obtain⟨b,β,lim,hφ,hval⟩:=m9 (heq▸aX s hx')
    simp only[execOp,hop,hv,hval]
    refine GivesN.of ⟨.pointer (some ⟨b,β+(off+j*ie.size),none⟩),?_,RepX.ptr m _ b β lim hφ⟩
    have hin:(0:Int)≤(j:Int)∧(j:Int)<(n:Int):=⟨by omega,by omega⟩
    simp[Instr.indexAt,Instr.sureAddr,run_underlying hd,asIntOf,hin,sizeOf,typeInfo,hie,gX,Nat.add_assoc]
    omega
   ·simp at hq
 case index t x i =>
  simp only[cRO,hop,ak]at hc
  obtain⟨d,hd,hc⟩:=hc
  cases d<;>simp only[reduceCtorEq]at hc
  case string =>
   simp only[ak,aw]at hc
   obtain⟨x',hx',i',hi',rfl⟩:=hc
   simp only[bj,ak,aw]at hq
   obtain⟨str,hs,n,hn,b,hb,rfl⟩:=hq
   obtain⟨kk,hv⟩:=N5 (aX s hi') hn
   have hs:=Nq (aX s hx') hs
   unfold idx at hb
   split at hb
   ·rename_i h0
    have hb':str[n.toNat]? = some b:=by
     have hlt:n.toNat<str.data.size:=by have:=(bw.1 hb).1;simpa using this
     have e:=(bw.1 hb).2
     have hlt':n.toNat<str.size:=hlt
     rw[getElem?_pos str n.toNat hlt']
     congr 1
    refine⟨.int .u8 b.toNat,?_,wX rfl⟩
    simp[execOp,hop,Instr.index,run_underlying hd,hv,hs,asIntOf,h0,hb']
   ·simp at hb
  case array n e =>
   simp only[ak,Hq,aw]at hc
   obtain⟨⟨d,ie⟩,⟨d',hd',ie',hie',he⟩,x',hx',i',hi',hc⟩:=hc
   cases he
   have key:bj (evE Γ) (.ixR n ie.size (c6 d) x' i')=some r→GivesN P φ w (execOp a.eval o) r:=by
    intro hq
    simp only[bj,ak]at hq
    obtain⟨nn,hn,j,hj,hq⟩:=hq
    split at hq
    ·rename_i cs heq
     rw[b9]at hq;obtain⟨hcnd,hq⟩:=hq
     simp only[gk,Bw]at hcnd
     have e2:=aqV hcnd.1
     simp only[aw]at hq
     obtain⟨zs,hz,rfl⟩:=hq
     have hv:=vz (aX s hi') hn
     have hj:=u4 hj
     subst hj
     obtain⟨us,hu,hp⟩:=IQ (heq▸aX s hx')
     have hin:(0:Int)≤(j:Int)∧(j:Int)<(n:Int):=⟨by omega,by omega⟩
     simp only[execOp,hop,hu,hv]
     refine GivesN.of ?_
     have hsz:ie.size=if c6 d then ie.size else 1:=by
      rcases hcnd.2 with hg | hg
      ·simp[hg]
      ·have:=oz hg;rw[this];simp
     obtain⟨v,hrun,hrep⟩:=BJ (P:=P) (w:=w) hd' hie' hp (n:=ie.size) (off:=j*ie.size) hsz hz
     exact⟨v,by simp[Instr.index,run_underlying hd,asIntOf,hin,sizeOf,typeInfo,hie',hrun];intro h;omega,hrep⟩
    ·simp at hq
   cases hg:c6 d with
   | true=>simp only[hg,if_true]at hc;subst hc;exact key (by rw[hg];exact hq)
   | false=>simp only[hg,rk,sk]at hc;subst hc;exact key (by rw[hg];exact hq)
 case binOp op t x y yt=>exact aTV s hop hc hq
 case unOp op t x =>
  simp only[cRO,hop,aw]at hc
  obtain⟨x',hx',rfl⟩:=hc
  have hr:=aX s hx'
  cases op
  case not =>
   simp only[bj,aw]at hq
   obtain⟨b,hb,rfl⟩:=hq
   have hv:=NW hr hb
   simp only[execOp,hop,hv]
   exact GivesN.of ⟨.bool !b,by simp[Op.unary],aAY _⟩
  case neg =>
   simp only[bj,aw]at hq
   obtain⟨n,hn,rfl⟩:=hq
   have hv:=vz hr hn
   simp only[execOp,hop,hv]
   exact GivesN.of ⟨_,by simp[Op.unary,Op.intArith],akY _⟩
  all_goals simp[bj]at hq
 case convert src dst x =>
  simp only[cRO,hop,ak]at hc
  obtain⟨d,hd,d',hd',hc⟩:=hc
  cases d'<;>simp only[reduceCtorEq]at hc
  case int k =>
   simp only[aw]at hc
   obtain⟨x',hx',rfl⟩:=hc
   simp only[bj,aw]at hq
   obtain⟨n,hn,rfl⟩:=hq
   obtain⟨k',hv⟩:=N5 (aX s hx') hn
   simp only[execOp,hop,hv]
   refine GivesN.of ⟨.int k (k.wrap n),?_,wX rfl⟩
   simp only[convert,Sem.run_bind,run_underlying hd,run_underlying hd',Result.andThen_ok,Conv.intToInt]
   rfl
  case string =>
   simp only[aw]at hc
   obtain⟨x',hx',rfl⟩:=hc
   simp only[bj,aw]at hq
   obtain⟨str,hn,rfl⟩:=hq
   have hr:=aX s hx'
   have hv:=Nq hr hn
   simp only[execOp,hop]
   refine GivesN.of ⟨a.eval x,?_,hr⟩
   rw[hv]
   simp only[convert,Sem.run_bind,run_underlying hd,run_underlying hd',Result.andThen_ok]
   rfl
 case extract x i =>
  simp only[cRO,hop,aw]at hc
  obtain⟨x',hx',rfl⟩:=hc
  simp only[bj]at hq
  split at hq
  ·rename_i vs heq
   obtain⟨us,hu,hp⟩:=(heq▸aX s hx':RepV φ (a.eval x) (.tup vs))
   have fin:∀x,vs[i]? = some x→(RepS φ=fun v x=>RepV φ v x∨RepS φ v x)∨True→∃v,(Instr.extract (.tuple us) i).run P w = .ok v w∧RepS φ v x:=by
    intro x hx _
    have hlt:i<us.size:=by have:=hp.1;have:=(bw.1 hx).1;simp at *;omega
    exact⟨us[i],by simp[Instr.extract,hlt],hp.2 i _ x (by simp[hlt]) hx⟩
   simp only[execOp,hop,hu]
   split at hq
   ·rename_i y hy
    cases hq
    obtain⟨v,h1,h2⟩:=fin _ hy (.inr trivial)
    exact GivesN.of ⟨v,h1,h2⟩
   ·rename_i y hy
    cases hq
    obtain⟨v,h1,h2⟩:=fin _ hy (.inr trivial)
    exact GivesN.of ⟨v,h1,h2⟩
   ·simp at hq
  ·simp at hq
 case makeFunc fn first caps =>
  cases fn with
  | func f =>
   simp only[cRO,hop]at hc
   split at hc
   ·rename_i hf
    simp only[aw]at hc
    obtain⟨ys,hys,rfl⟩:=hc
    simp only[bj,aw]at hq
    obtain⟨cs,hcs,rfl⟩:=hq
    have hp:=E2 s _ _ hys
    have hcap:=afX _ _ _ hp hcs
    have hfe:first = #[]:=Array.eq_empty_of_size_eq_zero hf
    subst hfe
    simp only[execOp,hop]
    refine GivesN.of ⟨.func (.func f) #[] (caps.map a.eval),by simp[Instr.makeFunc],?_⟩
    have:=RepX.fn (φ:=φ) f _ cs hcap.1 hcap.2
    rw[←Array.toList_map]at this
    simpa only[RepV,RepS,Ck]using this
   ·simp at hc
  | _=>simp[cRO,hop]at hc
 case slice t x lo hi mx =>
  simp only[cRO,hop,ak]at hc
  obtain⟨d,hd,hc⟩:=hc
  cases d<;>simp only[reduceCtorEq]at hc
  case slice e =>
   simp only[ak]at hc
   obtain⟨ie,hie,x',hx',lo',hlo,hi',hhi,mx',hmx,hc⟩:=hc
   simp only[execOp,hop]
   split at hc
   ·cases hc
    rcases A4 hmx with⟨rfl,_⟩ | ⟨_,_,_,h,_⟩
    ·exact GivesN.of (adx s hd hie hx' hlo hhi hq)
    ·simp at h
   ·cases hc
    rcases A4 hmx with⟨_,h⟩ | ⟨m,_,rfl,h,hm⟩
    ·simp at h
    ·cases h
     rcases A4 hlo with⟨_,h⟩ | ⟨l,_,rfl,h,hl⟩
     ·simp at h
     ·cases h
      rcases A4 hhi with⟨_,h⟩ | ⟨h',_,rfl,h,hh⟩
      ·simp at h
      ·cases h
       exact GivesN.of (aBx s hd hie hx' hl hh hm hq)
   ·simp at hc
  case string =>
   split at hc
   ·simp at hc
   ·rename_i hmx
    have hmx:mx=none:=by cases mx<;>simp at hmx ⊢
    subst hmx
    simp only[ak,aw]at hc
    obtain⟨x',hx',lo',hlo,hi',hhi,rfl⟩:=hc
    simp only[execOp,hop]
    exact GivesN.of (LX s hd hx' hlo hhi hq)
 case build t parts =>
  simp only[cRO,hop,ak]at hc
  obtain⟨z,hz,d,hd,hc⟩:=hc
  simp only[K6,ak]at hz
  obtain⟨zv,⟨it,hit,hzv⟩,hzc⟩:=hz
  have hz0:Pt (RepX φ) zv.cells.toList z:=C8 _ _ hzc
  have key:∀(place:Nat→Option (Nat×Nat)) (ps:List (Nat×Nat×Opd)),u6 place parts.toList=some ps→bj (evE Γ) (.build z ps)=some r →
    (∀cells,Instr.fill place zv.cells (parts.toList.map fun p=>(p.1,a.eval p.2))=some cells→P.built t (parts.map fun(i,x)=>(i,a.eval x)).toList=some cells)→GivesN P φ w (execOp a.eval o) r:=by
   intro place ps hps hq hb
   simp only[bj,aw]at hq
   obtain⟨cs,hcs,rfl⟩:=hq
   obtain⟨cells,h1,h2⟩:=u9 (e:=evE Γ) (ρ:=a.eval) place (fun x y hxy=>aX s hxy) parts.toList ps zv.cells z cs hps hz0 hcs
   simp only[execOp,hop]
   exact GivesN.of ⟨_,run_build w t _ cells (hb cells h1),⟨cells,rfl,h2⟩⟩
  have hmap:(parts.map fun(i,x)=>(i,a.eval x)).toList=parts.toList.map fun p=>(p.1,a.eval p.2):=by simp
  cases d<;>simp only[reduceCtorEq]at hc
  case struct fs =>
   simp only[ak,aw]at hc
   obtain⟨pl,hpl,ps,hps,rfl⟩:=hc
   refine key _ ps hps hq fun cells hcells=>?_
   rw[hmap]
   unfold Program.built
   simp only[hit,hd,hzv,hpl]
   exact hcells
  case array n e =>
   simp only[ak,aw]at hc
   obtain⟨ie,hie,ps,hps,rfl⟩:=hc
   refine key _ ps hps hq fun cells hcells=>?_
   rw[hmap]
   unfold Program.built
   simp only[hit,hd,hzv,hie]
   exact hcells
 case call c =>
  simp only[cRO,hop]at hc
  split at hc
  ·simp only[ak]at hc
   obtain⟨fn,hfn,hc⟩:=hc
   split at hc
   ·simp only[aw]at hc;obtain⟨_,_,rfl⟩:=hc;simp[bj]at hq
   ·split at hc
    ·rename_i f hcal _ hnm
     split at hc
     ·rename_i x i hargs
      simp only[ak,aw]at hc
      obtain⟨x',hx',i',hi',rfl⟩:=hc
      simp only[bj,ak]at hq
      obtain⟨str,hs,hq⟩:=hq
      split at hq
      ·rename_i n heq
       cases hq
       have hs:=Nq (aX s hx') hs
       have hi:=d0 (heq▸aX s hi')
       simp only[gk,beq_iff_eq,Option.isNone_iff_eq_none]at hnm
       obtain⟨n1,n2,n3⟩:=hnm
       have hargs':c.args = #[x,i]:=by rw[←Ck (xs:=c.args),hargs]
       refine⟨.int .i64 (Go.Lib.indexByte str.data.toList n.toNat.toUInt8),?_,akY _⟩
       have hrun:=run_callFunc_extern (P:=P) hfn (by rw[n2];decide) (by rw[n1];rfl) n3 (aMK n2) #[.string str,.int .u8 n] w
       rw[Go.Lib.run_indexByteString]at hrun
       simp only[Result.andThen]at hrun
       have hev:(c.args.map a.eval) = #[.string str,.int .u8 n]:=by rw[hargs'];simp[hs,hi]
       have e:(execOp a.eval o).run P w=(callFunc f (c.args.map a.eval)).run P w:=by simp[execOp,hop,resolve,hcal,Act.eval,Deferred.ofValue,invoke]
       rw[e,hev,hrun]
      ·simp at hq
     ·simp at hc
    ·simp at hc
  ·simp only[ak,aw]at hc
   obtain⟨_,_,_,_,rfl⟩:=hc
   simp[bj]at hq
  ·rename_i hcal
   split at hc
   ·rename_i t ht
    simp only[ak]at hc
    obtain⟨d,hd,hc⟩:=hc
    have e0:∀x,(Builtin.len_ c.argTypes o.type #[a.eval x])=Builtin.len_ #[t] o.type #[a.eval x]:=fun x=>by simp[Builtin.len_,ht]
    have fin:∀x n,c.args.toList=[x]→(Builtin.len_ #[t] o.type #[a.eval x]).run P w = .ok (.int .i64 n) w→r=iV n→GivesN P φ w (execOp a.eval o) r:=by
     intro x n hargs hrun hr
     subst hr
     have hargs':c.args = #[x]:=by rw[←Ck (xs:=c.args),hargs]
     refine⟨.int .i64 n,?_,akY _⟩
     simp[execOp,hop,resolve,hcal,hargs',invoke,builtin,e0,hrun]
    cases d<;>simp only[reduceCtorEq]at hc
    case slice e =>
     split at hc
     ·rename_i x hargs
      simp only[aw]at hc
      obtain⟨x',hx',rfl⟩:=hc
      have hr:=aX s hx'
      simp only[bj]at hq
      split at hq
      ·rename_i heq
       rw[heq]at hr
       have hv:=d0 hr
       exact fin x 0 hargs (by rw[hv];simp[Builtin.len_,run_underlying hd,goInt]) (Option.some.inj hq).symm
      ·rename_i heq
       rw[heq]at hr
       generalize hval:a.eval x=v at hr
       cases hr with
       | es q=>exact fin x 0 hargs (by rw[hval];simp[Builtin.len_,run_underlying hd,goInt]) (Option.some.inj hq).symm
      ·rename_i n k off len heq
       rw[heq]at hr
       generalize hval:a.eval x=v at hr
       cases hr with
       | sl _ _ _ _ b β lim o' cap hφ hlen ho hlim=>exact fin x len hargs (by rw[hval];simp[Builtin.len_,run_underlying hd,goInt]) (Option.some.inj hq).symm
      ·rename_i k rows heq
       rw[heq]at hr
       rcases I7 hr with⟨h0,ad,cap,hval⟩ | ⟨b,off,cap,hval,_⟩
       ·subst h0
        exact fin x 0 hargs (by rw[hval];simp[Builtin.len_,run_underlying hd,goInt]) (Option.some.inj hq).symm
       ·exact fin x rows.length hargs (by rw[hval];simp[Builtin.len_,run_underlying hd,goInt]) (Option.some.inj hq).symm
      ·rename_i heq
       rw[heq]at hr
       generalize hval:a.eval x=v at hr
       cases hr with
       | ez q=>exact fin x 0 hargs (by rw[hval];simp[Builtin.len_,run_underlying hd,goInt]) (Option.some.inj hq).symm
      ·simp at hq
     ·simp at hc
    case map =>
     split at hc
     ·simp only[aw]at hc
      obtain⟨x',hx',rfl⟩:=hc
      simp[bj]at hq
     ·simp at hc
    case string =>
     split at hc
     ·rename_i x hargs
      simp only[aw]at hc
      obtain⟨x',hx',rfl⟩:=hc
      simp only[bj,aw]at hq
      obtain⟨str,hv,hr⟩:=hq
      have hval:=Nq (aX s hx') hv
      exact fin x _ hargs (by rw[hval];simp[Builtin.len_,run_underlying hd,goInt]) hr.symm
     ·simp at hc
   ·simp at hc
  ·split at hc
   ·simp only[ak]at hc
    obtain⟨d,hd,hc⟩:=hc
    cases d<;>simp only[reduceCtorEq]at hc
    simp only[ak]at hc
    obtain⟨_,_,hc⟩:=hc
    split at hc
    ·simp only[ak,aw]at hc
     obtain⟨_,_,_,_,rfl⟩:=hc
     simp[bj]at hq
    ·simp at hc
   ·simp at hc
  ·split at hc
   ·simp only[ak]at hc
    obtain⟨d,hd,hc⟩:=hc
    cases d<;>simp only[reduceCtorEq]at hc
    simp only[ak]at hc
    obtain⟨ie,_,hc⟩:=hc
    split at hc
    ·simp only[ak,aw]at hc
     obtain⟨_,_,_,_,rfl⟩:=hc
     simp[bj]at hq
    ·simp at hc
   ·simp at hc
  ·rename_i hcal
   simp only[aw]at hc
   obtain⟨ys,hys,rfl⟩:=hc
   exact aHx s hop hcal hys false (by simp) hq
  ·rename_i hcal
   simp only[aw]at hc
   obtain⟨ys,hys,rfl⟩:=hc
   exact aHx s hop hcal hys true (by simp) hq
  ·split at hc
   ·simp only[ak]at hc
    obtain⟨d,hd,hc⟩:=hc
    cases d<;>simp only[reduceCtorEq]at hc
    simp only[ak]at hc
    obtain⟨ie,_,hc⟩:=hc
    split at hc
    ·simp only[ak,aw]at hc
     obtain⟨_,_,_,_,rfl⟩:=hc
     simp[bj]at hq
    ·simp at hc
   ·simp at hc
  ·simp at hc
 case load t x =>
  simp only[cRO,hop,Hq,ak,aw]at hc
  obtain⟨⟨d,i⟩,_,x',hx',hc⟩:=hc
  simp only at hc
  split at hc<;>(cases hc;simp[bj]at hq)
 case alloc e =>
  simp only[cRO,hop,aw]at hc
  obtain⟨_,_,rfl⟩:=hc
  simp[bj]at hq
 case box e x =>
  simp only[cRO,hop,aw]at hc
  obtain⟨_,_,rfl⟩:=hc
  simp[bj]at hq
 case makeSlice t l c =>
  simp only[cRO,hop,ak]at hc
  obtain⟨d,hd,hc⟩:=hc
  cases d<;>simp only[reduceCtorEq]at hc
  simp only[ak]at hc
  obtain⟨_,_,_,_,hc⟩:=hc
  split at hc
  ·simp only[ak,aw]at hc
   obtain⟨_,_,_,_,rfl⟩:=hc
   simp[bj]at hq
  ·simp at hc
 case buildSlice t n ps =>
  simp only[cRO,hop,ak]at hc
  obtain⟨d,hd,hc⟩:=hc
  cases d<;>simp only[reduceCtorEq]at hc
  simp only[ak]at hc
  obtain⟨_,_,_,_,_,_,hc⟩:=hc
  split at hc
  ·cases hc;simp[bj]at hq
  ·simp at hc
 case store t x v =>
  simp only[cRO,hop,ak,aw]at hc
  obtain⟨_,_,_,_,_,_,rfl⟩:=hc
  simp[bj]at hq
 case makeMap t rs =>
  cases rs with
  | some _=>simp[cRO,hop]at hc
  | none =>
   simp only[cRO,hop,ak]at hc
   obtain⟨d,hd,hc⟩:=hc
   cases d<;>simp only[reduceCtorEq]at hc
   simp only[ak]at hc
   obtain⟨_,_,hc⟩:=hc
   split at hc
   ·cases hc;simp[bj]at hq
   ·obtain⟨_,_,rfl⟩:=aw.1 hc;simp[bj]at hq
 case lookup t x i ok =>
  simp only[cRO,hop,ak]at hc
  obtain⟨d,hd,hc⟩:=hc
  cases d<;>simp only[reduceCtorEq]at hc
  simp only[ak]at hc
  obtain⟨_,_,_,_,_,_,_,_,_,_,hc⟩:=hc
  split at hc<;>(cases hc;simp[bj]at hq)
 case mapUpdate t x i v =>
  simp only[cRO,hop,ak]at hc
  obtain⟨d,hd,hc⟩:=hc
  cases d<;>simp only[reduceCtorEq]at hc
  simp only[ak]at hc
  obtain⟨_,_,_,_,_,_,_,_,hc⟩:=hc
  split at hc<;>(cases hc;simp[bj]at hq)
 case insert t x i v =>
  simp only[cRO,hop,ak]at hc
  obtain⟨d,hd,hc⟩:=hc
  cases d<;>simp only[reduceCtorEq]at hc
  simp only[ak]at hc
  obtain⟨_,_,_,_,_,_,_,_,hc⟩:=hc
  split at hc<;>(cases hc;simp[bj]at hq)
 case range t x =>
  simp only[cRO,hop,ak]at hc
  obtain⟨d,hd,hc⟩:=hc
  cases d<;>simp only[reduceCtorEq]at hc
  simp only[aw]at hc
  obtain⟨_,_,rfl⟩:=hc
  simp[bj]at hq
 case next it isS =>
  cases isS with
  | true=>simp[cRO,hop]at hc
  | false =>
   simp only[cRO,hop,aw]at hc
   obtain⟨_,_,rfl⟩:=hc
   simp[bj]at hq
 case entry it =>
  simp only[cRO,hop,aw]at hc
  obtain⟨_,_,rfl⟩:=hc
  simp[bj]at hq
 all_goals (simp only[cRO,hop,reduceCtorEq]at hc)
end
end Go.RM
namespace Go.RM
open Go.VM (Pt Fr)
def eK(h2:Hp)(s:S):Hp:=fun n=>bif s.w.testBit n then s.h.get n else h2 n
def Inv(g:Hp)(s:S):Prop:=∀n,s.w.testBit n=false→s.h.get n=g n
theorem yY(n m:Nat):(bit n).testBit m=decide (m=n):=by
 have:bit n=2 ^ n:=by unfold bit;exact Nat.one_shiftLeft n
 rw[this,Nat.testBit_two_pow]
 exact decide_eq_decide.2 ⟨fun h=>h.symm,fun h=>h.symm⟩
theorem eJ(n:Nat):(bit n).testBit n=true:=by rw[yY];simp
theorem ij(a b n:Nat):(Nat.lor a b).testBit n=(a.testBit n||b.testBit n):=Nat.testBit_or a b n
theorem DX{a b n:Nat}(h:a.testBit n=true):(Nat.lor a b).testBit n=true:=by rw[ij,h];rfl
theorem G6{a b n:Nat}(h:b.testBit n=true):(Nat.lor a b).testBit n=true:=by rw[ij,h];simp
def upd(h:Hp)(n:Nat)(o:O):Hp:=fun m=>if m=n then some o else h m
theorem jq(h:Hp)(n:Nat)(o:O):upd h n o n=some o:=by simp[upd]
theorem iZ{h:Hp}{n m:Nat}(o:O)(hne:m≠n):upd h n o m=h m:=by simp[upd,hne]
section
variable {g h2:Hp} {s s':S}
theorem f7(hi:Inv g s){n:Nat}(h:h2 n=g n):eK h2 s n=s.h.get n:=by
 unfold eK
 cases e:s.w.testBit n with
 | true=>rfl
 | false=>rw[hi n e];exact h
theorem afZ{n:Nat}{o:O}(h:put s n o=some s'):s' = {s with h:=s.h.set n o,w:=Nat.lor s.w (bit n)}:=by
 unfold put at h
 exact(Option.some.inj h).symm
theorem yW{o:O}(h:new s o=some s'):s' = {h:=s.h.set s.c o,c:=s.c+1,w:=Nat.lor s.w (bit s.c)}∧s.h.get s.c=none:=by
 unfold new at h
 rw[b9,Option.isNone_iff_eq_none]at h
 exact⟨(Option.some.inj h.2).symm,h.1⟩
theorem aeZ{n:Nat}{o:O}{c:Nat}:eK h2 {h:=s.h.set n o,c:=c,w:=Nat.lor s.w (bit n)}=upd (eK h2 s) n o:=by
 funext m
 unfold eK upd
 simp only[ij,yY,Tr.get_set]
 by_cases e:m=n
 ·subst e;simp
 ·simp[e]
theorem asX{n:Nat}{o:O}{c:Nat}(hi:Inv g s):Inv g {h:=s.h.set n o,c:=c,w:=Nat.lor s.w (bit n)}:=by
 intro m hm
 simp only[ij,yY,Bool.or_eq_false_iff,decide_eq_false_iff_not]at hm
 simp only[Tr.get_set,hm.2,sk]
 exact hi m hm.1
theorem tK{n:Nat}{o:O}(h:put s n o=some s'):eK h2 s'=upd (eK h2 s) n o:=by
 obtain rfl:=afZ h;exact aeZ
theorem oX{n:Nat}{o:O}(h:put s n o=some s')(hi:Inv g s):Inv g s':=by
 obtain rfl:=afZ h;exact asX hi
theorem FV{o:O}(h:new s o=some s'):eK h2 s'=upd (eK h2 s) s.c o:=by
 obtain⟨rfl,_⟩:=yW h;exact aeZ
theorem mZ{o:O}(h:new s o=some s')(hi:Inv g s):Inv g s':=by
 obtain⟨rfl,_⟩:=yW h;exact asX hi
end
section
variable {w0 w w':World} {φ φ':Ren} {h h':Hp}
theorem RepO.keep{n:Nat}{o:O}(hle:φ.le φ')(h:RepO φ w n o)(hb:∀b,o.live=true→blk φ n b→w'.heap[b]? = w.heap[b]?)
  (hm:∀m size seen b,o = .iter m size seen→blk φ m b→w'.heap[b]? = w.heap[b]?):RepO φ' w' n o:=by
 cases o with
 | cells e xs =>
  obtain⟨b,β,lim,arr,h1,h2,h3,h4,h5⟩:=h
  exact⟨b,β,lim,arr,hle.loc _ _ h1,(hb b rfl ⟨_,_,h1⟩).trans h2,h3,h4,fun j x hx=>let ⟨v,hv,hr⟩:=h5 j x hx;⟨v,hv,hr.mono hle⟩⟩
 | map kd r es =>
  obtain⟨b,es',clock,h1,h2,h3,h4,h5⟩:=h
  exact⟨b,es',clock,hle.loc _ _ h1,(hb b rfl ⟨_,_,h1⟩).trans h2,h3,h4,fun i e p he hp=>let ⟨g1,g2,g3,g4⟩:=h5 i e p he hp;⟨g1,g2,g3,g4.mono hle⟩⟩
 | iter m size seen =>
  obtain⟨b,bm,β,lim,last,es',h1,h2,h3,h4,h5⟩:=h
  exact⟨b,bm,β,lim,last,es',hle.loc _ _ h1,hle.loc _ _ h2,(hb b rfl ⟨_,_,h1⟩).trans h3,h4,(hm m size seen bm rfl ⟨_,_,h2⟩).trans h5⟩
 | itern =>
  obtain⟨b,h1,h2⟩:=h
  exact⟨b,hle.loc _ _ h1,(hb b rfl ⟨_,_,h1⟩).trans h2⟩
 | dead=>trivial
 | dmap kd es =>
  obtain⟨b,es',clock,h1,h2,h3,h5⟩:=h
  exact⟨b,es',clock,hle.loc _ _ h1,(hb b rfl ⟨_,_,h1⟩).trans h2,h3,fun i e p he hp=>let ⟨g1,g2,g4⟩:=h5 i e p he hp;⟨g1,g2,g4.mono hle⟩⟩
 | wmap sh es =>
  obtain⟨b,es',clock,h1,h2,h3,h5⟩:=h
  exact⟨b,es',clock,hle.loc _ _ h1,(hb b rfl ⟨_,_,h1⟩).trans h2,h3,fun i e p he hp=>let ⟨g1,g2,g4⟩:=h5 i e p he hp;⟨g1,g2,g4.mono hle⟩⟩
theorem Rel.turn(R:Rel w0 φ h w)(T:Nat→Prop)(hle:φ.le φ')(hsame:∀n,¬T n→h' n=h n)
  (hnew:∀n l,φ' n=some l→φ n=none→T n)
  (hfr:Fr w w' fun b=>∃n o,T n∧h n=some o∧o.live=true∧blk φ n b)
  (hrep:∀n o,T n→h' n=some o→RepO φ' w' n o)
  (hblk:∀n o b,T n→h' n=some o→o.live=true→blk φ' n b→w.heap.size≤b∨∃m o',T m∧h m=some o'∧o'.live=true∧blk φ m b)
  (hinj:∀n m o o' b,T n→T m→h' n=some o→h' m=some o'→o.live=true→o'.live=true→blk φ' n b→blk φ' m b→n=m)
  (hit:∀n m size seen,h' n=some (.iter m size seen)→T n∨T m→∃kd es,h' m=some (.map kd true es))
  (hkeep:∀n m size seen b,¬T n→h n=some (.iter m size seen)→T m→blk φ m b→w'.heap[b]? = w.heap[b]?)
  (hdom:∀n,T n→h' n=none→φ' n=none)
  (hlt:∀n b,T n→blk φ' n b→b<w'.heap.size) (hfz:φ'.fz=φ.fz:=by rfl):Rel w0 φ' h' w':=by
 have hφ:∀n b,blk φ' n b→¬T n→blk φ n b:=by
  intro n b ⟨β,lim,hb⟩ hT
  cases e:φ n with
  | none=>exact absurd (hnew n _ hb e) hT
  | some l=>have:=hle.loc _ _ e;rw[hb]at this;cases this;exact⟨β,lim,e⟩
 have hkb:∀n o b,¬T n→h n=some o→o.live=true→blk φ n b→w'.heap[b]? = w.heap[b]?:=by
  intro n o b hT ho hl hb
  refine hfr.block b (R.lt n b hb) ?_
  rintro⟨m,o',hTm,hm,hl',hbm⟩
  have:=R.inj n m o o' b ho hm hl hl' hb hbm
  subst this;exact hT hTm
 refine⟨fun n o ho=>?_,fun n m o o' b hn hm hl hl' hb hb'=>?_,fun n o b hn hl hb=>?_,fun n m size seen hn=>?_,fun n hn=>?_,fun n b hb=>?_,?_,hle.w0.trans R.w0e,fun b hb=>R.okl b (by rw[hle.ok]at hb;exact hb),fun D o hD=>?_⟩
 ·by_cases hT:T n
  ·exact hrep n o hT ho
  ·rw[hsame n hT]at ho
   refine RepO.keep hle (R.rep n o ho) (fun b hl hb=>hkb n o b hT ho hl hb) (fun m size seen b e hb=>?_)
   subst e
   by_cases hTm:T m
   ·exact hkeep n m size seen b hT ho hTm hb
   ·obtain⟨kd,es,hm⟩:=R.iters n m size seen ho
    exact hkb m _ b hTm hm rfl hb
 ·by_cases hT:T n<;>by_cases hT':T m
  ·exact hinj n m o o' b hT hT' hn hm hl hl' hb hb'
  ·exfalso
   have hb2:=hφ m b hb' hT'
   rw[hsame m hT']at hm
   rcases hblk n o b hT hn hl hb with hx | ⟨p,op,hTp,hp,hlp,hbp⟩
   ·have:=R.lt m b hb2;omega
   ·have:=R.inj m p o' op b hm hp hl' hlp hb2 hbp
    subst this;exact hT' hTp
  ·exfalso
   have hb2:=hφ n b hb hT
   rw[hsame n hT]at hn
   rcases hblk m o' b hT' hm hl' hb' with hx | ⟨p,op,hTp,hp,hlp,hbp⟩
   ·have:=R.lt n b hb2;omega
   ·have:=R.inj n p o op b hn hp hl hlp hb2 hbp
    subst this;exact hT hTp
  ·rw[hsame n hT]at hn;rw[hsame m hT']at hm
   exact R.inj n m o o' b hn hm hl hl' (hφ n b hb hT) (hφ m b hb' hT')
 ·by_cases hT:T n
  ·rcases hblk n o b hT hn hl hb with hx | ⟨p,op,_,hp,hlp,hbp⟩
   ·have:=R.fr.size;omega
   ·exact R.old p op b hp hlp hbp
  ·rw[hsame n hT]at hn
   exact R.old n o b hn hl (hφ n b hb hT)
 ·by_cases hT:T n
  ·exact hit n m size seen hn (.inl hT)
  ·by_cases hTm:T m
   ·exact hit n m size seen hn (.inr hTm)
   ·rw[hsame n hT]at hn
    rw[hsame m hTm]
    exact R.iters n m size seen hn
 ·by_cases hT:T n
  ·exact hdom n hT hn
  ·rw[hsame n hT]at hn
   have:=R.dom n hn
   cases e:φ' n with
   | none=>rfl
   | some l=>exact absurd (hnew n l e this) hT
 ·by_cases hT:T n
  ·exact hlt n b hT hb
  ·exact Nat.lt_of_lt_of_le (R.lt n b (hφ n b hb hT)) hfr.size
 ·refine⟨hfr.os.trans R.fr.os,hfr.tape.trans R.fr.tape,hfr.output.trans R.fr.output,Nat.le_trans R.fr.size hfr.size,fun b hb hn=>?_⟩
  rw[←R.fr.block b hb hn]
  refine hfr.block b (Nat.lt_of_lt_of_le hb R.fr.size) ?_
  rintro⟨m,o',_,hm,hl',hbm⟩
  have:=R.old m o' b hm hl' hbm
  omega
 ·rw[hfz]at hD
  obtain⟨h1,h2⟩:=R.fz D o hD
  have hlt:D<w.heap.size:=(pw.1 h1).1
  refine⟨(hfr.block D hlt ?_).trans h1,fun n p hn hl hb=>?_⟩
  ·rintro⟨m,o',_,hm,hl',hbm⟩
   exact h2 m o' hm hl' hbm
  ·by_cases hT:T n
   ·rcases hblk n p D hT hn hl hb with hx | ⟨m,op,_,hp,hlp,hbp⟩
    ·omega
    ·exact h2 m op hp hlp hbp
   ·rw[hsame n hT]at hn
    exact h2 n p hn hl (hφ n D hb hT)
def Ren.put(φ:Ren)(n:Nat)(l:Loc):Ren:={φ with loc:=fun m=>if m=n then some l else φ m}
theorem Ren.put_self(φ:Ren)(n:Nat)(l:Loc):φ.put n l n=some l:=by simp[Ren.put]
theorem Ren.le_put{φ:Ren}{n:Nat}(l:Loc)(h:φ n=none):φ.le (φ.put n l):=by
 refine⟨fun m k hm=>?_,rfl,rfl,fun _ _ h=>h⟩
 unfold Ren.put
 by_cases e:m=n
 ·subst e;rw[h]at hm;simp at hm
 ·simp[e,hm]
theorem Rel.new(R:Rel w0 φ h w){c:Nat}(hc:h c=none){o:O}{b β lim:Nat}(hb:w.heap.size≤b)(hb':b<w'.heap.size)(hfr:Fr w w' fun _=>False)(hni:∀m size seen,o = .iter m size seen→∃kd es,h m=some (.map kd true es))
  (hrep:∀φ',φ'=φ.put c (b,β,lim)→φ.le φ'→RepO φ' w' c o):Rel w0 (φ.put c (b,β,lim)) (upd h c o) w':=by
 have hle:=Ren.le_put (b,β,lim) (R.dom c hc)
 have hblk:∀b',blk (φ.put c (b,β,lim)) c b'→b'=b:=by
  rintro b' ⟨β',lim',h'⟩
  rw[Ren.put_self]at h'
  cases h';rfl
 refine R.turn (fun n=>n=c) hle (fun n hn=>iZ _ hn) (fun n l h1 h2=>?_) ⟨hfr.os,hfr.tape,hfr.output,hfr.size,fun b hb _=>hfr.block b hb id⟩ (fun n o' hn ho=>?_) (fun n o' b' hn ho _ hb'=>?_) (fun n m _ _ _ hn hm _ _ _ _ _ _=>hn.trans hm.symm) (fun n m size seen hn hT=>?_) (fun n m size seen b' hn hh hm hb'=>?_) (fun n hn hh=>?_) (fun n b' hn hh=>?_)
 ·by_cases e:n=c
  ·exact e
  ·simp only[Ren.put,e,sk]at h1;rw[h1]at h2;simp at h2
 ·subst hn;rw[jq]at ho;cases ho;exact hrep _ rfl hle
 ·subst hn;rw[hblk b' hb'];exact .inl hb
 ·by_cases e:n=c
  ·subst e
   rw[jq]at hn
   obtain⟨kd,es,hm⟩:=hni m size seen (Option.some.inj hn)
   exact⟨kd,es,by rw[iZ _ (fun e=>by subst e;rw[hc]at hm;simp at hm)];exact hm⟩
  ·rw[iZ _ e]at hn
   obtain⟨kd,es,hm⟩:=R.iters n m size seen hn
   exact⟨kd,es,by rw[iZ _ (fun e=>by subst e;rw[hc]at hm;simp at hm)];exact hm⟩
 ·subst hm
  obtain⟨kd,es,hm⟩:=R.iters n _ size seen hh
  rw[hc]at hm;simp at hm
 ·subst hn;rw[jq]at hh;simp at hh
 ·subst hn;rw[hblk b' hh];exact hb'
theorem Rel.put(R:Rel w0 φ h w){n:Nat}{o o':O}(hn:h n=some o)(hl:o.live=true)(hfr:Fr w w' fun b=>blk φ n b)(hrep:RepO φ w' n o')
  (hni:∀p m size seen,h p=some (.iter m size seen)→m=n→p≠n→(∃kd es,o' = .map kd true es)∧∀b,blk φ n b→w'.heap[b]? = w.heap[b]?)
  (hit:∀m size seen,o' = .iter m size seen→m≠n∧∃kd es,h m=some (.map kd true es)):Rel w0 φ (upd h n o') w':=by
 refine R.turn (fun m=>m=n) (Ren.le_refl φ) (fun m hm=>iZ _ hm) (fun m l h1 h2=>by rw[h1]at h2;simp at h2) ⟨hfr.os,hfr.tape,hfr.output,hfr.size,fun b hb hx=>hfr.block b hb fun hbn=>hx ⟨n,o,rfl,hn,hl,hbn⟩⟩ (fun m p hm ho=>?_) (fun m p b hm _ _ hb=>?_) (fun m p _ _ _ hm hp _ _ _ _ _ _=>hm.trans hp.symm) (fun p m size seen hp hT=>?_) (fun p m size seen b hp hh hm hb=>?_) (fun m hm hh=>?_) (fun m b hm hb=>?_)
 ·subst hm;rw[jq]at ho;cases ho;exact hrep
 ·subst hm;exact .inr ⟨m,o,rfl,hn,hl,hb⟩
 ·by_cases e:p=n
  ·subst e
   rw[jq]at hp
   obtain⟨h1,kd,es,h2⟩:=hit m size seen (Option.some.inj hp)
   exact⟨kd,es,by rw[iZ _ h1];exact h2⟩
  ·rw[iZ _ e]at hp
   by_cases e2:m=n
   ·obtain⟨⟨kd,es,h3⟩,_⟩:=hni p m size seen hp e2 e
    subst e2
    exact⟨kd,es,by rw[jq,h3]⟩
   ·rcases hT with hT | hT
    ·exact absurd hT e
    ·exact absurd hT e2
 ·subst hm
  exact(hni p m size seen hh rfl hp).2 b hb
 ·subst hm;rw[jq]at hh;simp at hh
 ·subst hm;exact Nat.lt_of_lt_of_le (R.lt m b hb) hfr.size
theorem Rel.move(R:Rel w0 φ h w){n c:Nat}{e:TypeId}{xs:List X}(hn:h n=some (.cells e xs))(hc:h c=none){o:O}{b β lim:Nat}(hb:w.heap.size≤b∨blk φ n b)(hb':b<w'.heap.size)(hfr:Fr w w' fun b=>blk φ n b)
  (hni:∀m size seen,o ≠ .iter m size seen) (hrep:∀φ',φ'=φ.put c (b,β,lim)→φ.le φ'→RepO φ' w' c o):Rel w0 (φ.put c (b,β,lim)) (upd (upd h n .dead) c o) w':=by
 have hle:=Ren.le_put (b,β,lim) (R.dom c hc)
 have hnc:n≠c:=fun e=>by subst e;rw[hc]at hn;simp at hn
 have hblk:∀b',blk (φ.put c (b,β,lim)) c b'→b'=b:=by
  rintro b' ⟨β',lim',h'⟩
  rw[Ren.put_self]at h'
  cases h';rfl
 have hmap:∀p m size seen,h p=some (.iter m size seen)→m≠n∧m≠c:=by
  intro p m size seen hp
  obtain⟨kd,es,hm⟩:=R.iters p m size seen hp
  refine⟨fun e=>?_,fun e=>?_⟩
  ·subst e;rw[hn]at hm;simp at hm
  ·subst e;rw[hc]at hm;simp at hm
 refine R.turn (fun m=>m=n∨m=c) hle (fun m hm=>?_) (fun m l h1 h2=>?_) ⟨hfr.os,hfr.tape,hfr.output,hfr.size,fun b hb hx=>hfr.block b hb fun hbn=>hx ⟨n,_,.inl rfl,hn,rfl,hbn⟩⟩ (fun m p hm ho=>?_) (fun m p b' hm ho hl hb2=>?_) (fun m p o1 o2 b' hm hp ho1 ho2 hl1 hl2 _ _=>?_) (fun p m size seen hp hT=>?_) (fun p m size seen b' hp hh hm hb2=>?_) (fun m hm hh=>?_) (fun m b' hm hb2=>?_)
 ·rw[not_or]at hm;rw[iZ _ hm.2,iZ _ hm.1]
 ·by_cases e:m=c
  ·exact .inr e
  ·simp only[Ren.put,e,sk]at h1;rw[h1]at h2;simp at h2
 ·by_cases e2:m=c
  ·subst e2;rw[jq]at ho;cases ho;exact hrep _ rfl hle
  ·have e1:=hm.resolve_right e2
   subst e1;rw[iZ _ e2,jq]at ho;cases ho;trivial
 ·by_cases e2:m=c
  ·subst e2
   rw[hblk b' hb2]
   rcases hb with hb | hb
   ·exact .inl hb
   ·exact .inr ⟨n,_,.inl rfl,hn,rfl,hb⟩
  ·have e1:=hm.resolve_right e2
   subst e1;rw[iZ _ e2,jq]at ho;cases ho;simp[O.live]at hl
 ·have key:∀m o1,(m=n∨m=c)→upd (upd h n .dead) c o m=some o1→o1.live=true→m=c:=by
   intro m o1 hm ho hl
   by_cases e2:m=c
   ·exact e2
   ·have e1:=hm.resolve_right e2
    subst e1;rw[iZ _ e2,jq]at ho;cases ho;simp[O.live]at hl
  exact(key m o1 hm ho1 hl1).trans (key p o2 hp ho2 hl2).symm
 ·have hp2:h p=some (.iter m size seen):=by
   by_cases e2:p=c
   ·subst e2;rw[jq]at hp;exact absurd (Option.some.inj hp) (hni m size seen)
   ·rw[iZ _ e2]at hp
    by_cases e1:p=n
    ·subst e1;rw[jq]at hp;simp at hp
    ·rw[iZ _ e1]at hp;exact hp
  obtain⟨h1,h2⟩:=hmap p m size seen hp2
  obtain⟨kd,es,hm⟩:=R.iters p m size seen hp2
  exact⟨kd,es,by rw[iZ _ h2,iZ _ h1];exact hm⟩
 ·obtain⟨h1,h2⟩:=hmap p m size seen hh
  rcases hm with hm | hm
  ·exact absurd hm h1
  ·exact absurd hm h2
 ·by_cases e2:m=c
  ·subst e2;rw[jq]at hh;simp at hh
  ·have e1:=hm.resolve_right e2
   subst e1;rw[iZ _ e2,jq]at hh;simp at hh
 ·by_cases e2:m=c
  ·subst e2;rw[hblk b' hb2];exact hb'
  ·have e1:=hm.resolve_right e2
   subst e1
   obtain⟨β',lim',h'⟩:=hb2
   simp only[Ren.put,e2,sk]at h'
   exact Nat.lt_of_lt_of_le (R.lt m b' ⟨β',lim',h'⟩) hfr.size
end
end Go.RM
namespace Go.RM
open Go.VM (Pt Fr c6 gX Lies jK Aj aMX)
open MapKept
section
variable {P:Program} {w0:World} {φ:Ren} {g h2:Hp} {s s':S} {Γ:Nat→V} {a:Act} {w:World} {h:Hp}
theorem Fj{n:Nat}{p:TypeId×List X}(h:Kx s n=some p):s.h.get n=some (.cells p.1 p.2):=by
 unfold Kx at h;split at h
 ·cases h;assumption
 ·simp at h
theorem U4{n:Nat}{p:TypeDesc×Bool×List (Value×V)}(h:akq s n=some p):s.h.get n=some (.map p.1 p.2.1 p.2.2):=by
 unfold akq at h;split at h
 ·cases h;assumption
 ·simp at h
theorem A6{z:Array Value}{zs:List X}(hp:Pt (RepX φ) z.toList zs):∀n,Pt (RepX φ) (madeCells z (n*z.size)).toList (List.replicate n zs).flatten
 | 0=>by simp[madeCells];exact Go.VM.Pt.nil
 | n+1=>by
  have ih:=A6 hp n
  have e:(madeCells z ((n+1)*z.size)).toList=(madeCells z (n*z.size)).toList++z.toList:=by
   apply List.ext_getElem?
   intro j
   simp only[madeCells,Array.toList_map,Array.toList_range,jw,List.getElem?_append,ew,List.length_range]
   by_cases h1:j<n*z.size
   ·have h2:j<(n+1)*z.size:=by rw[Nat.add_mul];omega
    simp[h1,h2]
   ·by_cases h2:j<(n+1)*z.size
    ·have h3:j-n*z.size<z.size:=by rw[Nat.add_mul]at h2;omega
     have h4:j % z.size=j-n*z.size:=by
      have:j=z.size*n+(j-n*z.size):=by rw[Nat.mul_comm];omega
      conv=>lhs;rw[this]
      rw[Nat.mul_add_mod,Nat.mod_eq_of_lt h3]
     simp[h1,h2,h4,h3]
    ·have h3 : ¬j-n*z.size<z.size:=by rw[Nat.add_mul]at h2;omega
     simp[h1,h2,h3]
  rw[e,List.replicate_succ']
  simp only[List.flatten_append,yk,List.flatten_nil,vk]
  exact Go.VM.Pt.append ih hp
theorem I0{n off k:Nat}{e:TypeId}{xs cs:List X}{b β lim:Nat}(hr:RepO φ w n (.cells e xs))(hφ:φ n=some (b,β,lim))(hc:cut xs off k=some cs) :
  ∃vs,vs.length=k∧Lies w b (β+off) vs∧Pt (RepX φ) vs cs:=by
 obtain⟨b',β',lim',arr,h1,h2,h3,h4,h5⟩:=hr
 rw[hφ]at h1;cases h1
 obtain⟨rfl,hl⟩:=aiJ hc
 simp only[List.length_take,List.length_drop]at hl
 have hlen:((arr.toList.drop (β+off)).take k).length=k:=by simp;omega
 refine⟨(arr.toList.drop (β+off)).take k,hlen,fun j v hv=>?_,⟨by rw[hlen];simp;omega,fun j v x hv hx=>?_⟩⟩
 ·rw[zw]at hv
  split at hv
  ·rw[List.getElem?_drop,Array.getElem?_toList]at hv
   simp[World.cell?,h2,hv]
  ·simp at hv
 ·rw[zw]at hv hx
  split at hv
  ·rename_i hj
   rw[if_pos hj,List.getElem?_drop]at hx
   rw[List.getElem?_drop,Array.getElem?_toList]at hv
   obtain⟨v',hv',hrep⟩:=h5 (off+j) x hx
   rw[←Nat.add_assoc,hv]at hv'
   cases hv';exact hrep
  ·simp at hv
theorem Pt.one_of{vs:List Value}{cs:List X}(hp:Pt (RepX φ) vs cs):∀u∈vs,u.oneCell'=true:=fun u hu=>by
 obtain⟨j,hj⟩:=List.getElem?_of_mem hu
 have hlt:j<cs.length:=by rw[←hp.1];exact(bw.1 hj).1
 exact(hp.2 j u cs[j] hj (cw hlt)).one
def MemR(P:Program)(w0:World)(φ:Ren)(h2 g:Hp)(w:World)(m:Sem Next)(x:V)(s':S):Prop :=
 ∃nx v w' φ',m.run P w = .ok nx w'∧(nx = .value v∨(nx = .skip∧v=undef))∧φ.le φ'∧Rel w0 φ' (eK h2 s') w'∧Inv g s'∧RepV φ' v x
theorem MemR.of{m:Sem Value}{v:Value}{w':World}{φ':Ren}{x:V}(hr:m.run P w = .ok v w')(hle:φ.le φ')(R:Rel w0 φ' (eK h2 s') w')(hi:Inv g s')(hv:RepV φ' v x) :
  MemR P w0 φ h2 g w (do pure (.value (←m))) x s':=⟨.value v,v,w',φ',by simp[hr],.inl rfl,hle,R,hi,hv⟩
theorem axj(R:Rel w0 φ (eK h2 s) w)(hi:Inv g s)(he:EnvR φ a Γ){t:TypeId}{x:Operand}{y:Opd}{d:TypeDesc}{i:TypeInfo}(hd:P.underlying t=some d)(hti:P.info? t=some i)(hx:bX x=some y)
  {n m off:Nat} {p:TypeId×List X} {cs:List X} (hn:n=if c6 d then i.size else 1) (hy:evE Γ y = .c (.ptr m off)) (hg:Kx s m=some p) (hcut:cut p.2 off n=some cs) (hr:h2 m=g m) :
  MemR P w0 φ h2 g w (do pure (.value (←Instr.loadAt t (a.eval x)))) (mkV (c6 d) cs) s:=by
 obtain⟨b,β,lim,hφ,hv⟩:=m9 (hy▸aX he hx)
 have hrep:=R.rep m _ ((f7 hi hr).trans (Fj hg))
 obtain⟨vs,hlen,hl,hp⟩:=I0 hrep hφ hcut
 have hrun:=jK (P:=P) hd hti hl
 cases hag:c6 d with
 | true =>
  simp[hag]at hn
  exact MemR.of (by simp[Instr.loadAt,hv,Instr.sureAddr,hrun.1 hag (hlen.trans hn)]) (Ren.le_refl φ) R hi (JY hp)
 | false =>
  simp[hag]at hn
  match vs,hlen.trans hn with
  | [v],_=>exact MemR.of (by simp[Instr.loadAt,hv,Instr.sureAddr,hrun.2 hag v rfl]) (Ren.le_refl φ) R hi (zz hp)
theorem R8(R:Rel w0 φ h w){b off:Nat}{cs:List Go.VM.T}(hat:Go.VM.At φ.w0 φ.ok b off cs){n:Nat}(hn:n≤cs.length) :
  ∃vs,vs.length=n∧Lies w b off vs∧Pt (RepX φ) vs ((cs.take n).map imX):=by
 have hb:w.heap[b]? = φ.w0.heap[b]?:=by rw[R.w0e];exact R.fr.block b (R.okl b hat.1) id
 have hv:∀(j:Nat) x,cs[j]? = some x→∃v,w.cell? ⟨b,off+j,none⟩=some v∧RepX φ v (imX x):=fun j x hx=>by
  obtain⟨v,h1,h2⟩:=hat.2 j x hx
  exact⟨v,(World.cell?_of_block hb).trans h1,arW h2⟩
 refine⟨(List.range n).map fun j=>(w.cell? ⟨b,off+j,none⟩).getD undef,by simp,fun j v hj=>?_,⟨by simp;omega,fun j v x hj hx=>?_⟩⟩
 ·simp only[jw,aw]at hj
  obtain⟨i,hi,rfl⟩:=hj
  have hlt:j<n:=by have:=(bw.1 hi).1;simpa using this
  rw[List.getElem?_range hlt]at hi
  cases hi
  obtain⟨v,h1,_⟩:=hv j cs[j] (cw (by omega))
  rw[h1];rfl
 ·simp only[jw,aw]at hj hx
  obtain⟨i,hi,rfl⟩:=hj
  have hlt:j<n:=by have:=(bw.1 hi).1;simpa using this
  rw[List.getElem?_range hlt]at hi
  cases hi
  obtain⟨t,ht,rfl⟩:=hx
  rw[zw,if_pos hlt]at ht
  obtain⟨v,h1,h2⟩:=hv j t ht
  rw[h1];exact h2
theorem auZ(R:Rel w0 φ (eK h2 s) w)(hi:Inv g s)(he:EnvR φ a Γ){t:TypeId}{x:Operand}{y:Opd}{d:TypeDesc}{i:TypeInfo}(hd:P.underlying t=some d)(hti:P.info? t=some i)(hx:bX x=some y)
  {n:Nat} {cs:List Go.VM.T} (hn:n=if c6 d then i.size else 1) (hy:evE Γ y = .c (.pI cs)) (hle:n≤cs.length) :
  MemR P w0 φ h2 g w (do pure (.value (←Instr.loadAt t (a.eval x)))) (mkV (c6 d) ((cs.take n).map imX)) s:=by
 obtain⟨b,off,hat,hv⟩:=Rx (hy▸aX he hx)
 obtain⟨vs,hlen,hl,hp⟩:=R8 R hat hle
 have hrun:=jK (P:=P) hd hti hl
 cases hag:c6 d with
 | true =>
  simp[hag]at hn
  exact MemR.of (by simp[Instr.loadAt,hv,Instr.sureAddr,hrun.1 hag (hlen.trans hn)]) (Ren.le_refl φ) R hi (JY hp)
 | false =>
  simp[hag]at hn
  match vs,hlen.trans hn with
  | [v],_=>exact MemR.of (by simp[Instr.loadAt,hv,Instr.sureAddr,hrun.2 hag v rfl]) (Ren.le_refl φ) R hi (zz hp)
theorem aMQ{W:World}{ok:Nat→Prop}{b off k:Nat}{rows:List (List Go.VM.T)}(hok:ok b)(hk:∀row∈rows,row.length=k)(hat:∀(i:Nat) row,rows[i]? = some row→Go.VM.At W ok b (off+i*k) row):Go.VM.At W ok b off rows.flatten :=
 ⟨hok,fun j x hx=>by
  have hlt:=(bw.1 hx).1
  have hk0:0<k:=by
   rcases Nat.eq_zero_or_pos k with h | h
   ·subst h
    have:rows.flatten=[]:=by
     rw[List.flatten_eq_nil_iff]
     intro l hl
     exact fk (hk l hl)
    rw[this]at hlt;simp at hlt
   ·exact h
  have hlen:rows.flatten.length=rows.length*k:=by
   rw[List.length_flatten]
   have:rows.map List.length=List.replicate rows.length k:=by
    rw[List.eq_replicate_iff]
    exact⟨by simp,fun b hb=>by obtain⟨l,hl,rfl⟩:=yw.1 hb;exact hk l hl⟩
   rw[this,List.sum_replicate_nat]
  have hi:j / k<rows.length:=by
   rw[Nat.div_lt_iff_lt_mul hk0];omega
  have hrow:rows[j / k]? = some rows[j / k]:=cw hi
  have hf:=Go.VM.flatten_get rows (j / k) rows[j / k] hk hrow
  have hj:j=j / k*k+j % k:=by rw[Nat.mul_comm];exact(Nat.div_add_mod j k).symm
  have hm:j % k<k:=Nat.mod_lt _ hk0
  have hx2:rows[j / k][j % k]? = some x:=by
   have:((rows.flatten.drop (j / k*k)).take k)[j % k]? = some x:=by
    rw[zw,if_pos hm,List.getElem?_drop,←hj];exact hx
   rw[hf]at this;exact this
  obtain⟨v,h1,h2⟩:=(hat (j / k) _ hrow).2 (j % k) x hx2
  exact⟨v,by rw[Nat.add_assoc,←hj]at h1;exact h1,h2⟩⟩
theorem O7(R:Rel w0 φ (eK h2 s) w)(hi:Inv g s){t:TypeId}{xs:List X}{arr:Array Value}{w':World}{b:Nat}(hn:new s (.cells t xs)=some s')(hr:h2 s.c=g s.c)
  (hb:w.heap.size≤b) (hw:w'.heap[b]? = some (.cells arr t (0,0))) (hfr:Fr w w' fun _=>False) (hl:xs.length≤arr.size) (hp:∀(j:Nat) x,xs[j]? = some x→∃v,arr[j]? = some v∧RepX φ v x) :
  φ.le (φ.put s.c (b,0,arr.size))∧Rel w0 (φ.put s.c (b,0,arr.size)) (eK h2 s') w'∧Inv g s':=by
 obtain⟨_,hnone⟩:=yW hn
 have hc:eK h2 s s.c=none:=(f7 hi hr).trans hnone
 refine⟨Ren.le_put _ (R.dom _ hc),?_,mZ hn hi⟩
 rw[FV hn]
 exact R.new hc hb ((pw.1 hw).1) hfr (fun _ _ _ h=>by simp at h) (fun φ' e hle=>⟨b,0,arr.size,arr,by rw[e,Ren.put_self],hw,mw _,by omega,fun j x hx=>by
  obtain⟨v,h1,h2⟩:=hp j x hx
  exact⟨v,by rw[Nat.zero_add];exact h1,h2.mono hle⟩⟩)
theorem LW{vs:List Value}{xs:List X}(hp:Pt (RepX φ) vs xs)(j:Nat)(x:X)(hx:xs[j]? = some x):∃v,vs[j]? = some v∧RepX φ v x:=by
 have hlt:j<vs.length:=by rw[hp.1];exact(bw.1 hx).1
 exact⟨vs[j],cw hlt,hp.2 j _ x (cw hlt) hx⟩
theorem H7(R:Rel w0 φ (eK h2 s) w)(hi:Inv g s){t:TypeId}{xs:List X}{arr:Array Value}(hn:new s (.cells t xs)=some s')(hr:h2 s.c=g s.c)(hp:Pt (RepX φ) arr.toList xs) :
  φ.le (φ.put s.c (w.heap.size,0,arr.size))∧Rel w0 (φ.put s.c (w.heap.size,0,arr.size)) (eK h2 s') (w.alloc (.cells arr t))∧Inv g s' :=
 O7 R hi hn hr (mw _) (heap_alloc_new w _) (Fr.alloc w _ _) (by have:=hp.1;simp at this;omega) (fun j x hx=>by
  obtain⟨v,h1,h2⟩:=LW hp j x hx
  exact⟨v,by simpa using h1,h2⟩)
theorem Rq{c b lim:Nat}(off:Nat):RepV (φ.put c (b,0,lim)) (.pointer (some ⟨b,off,none⟩)) (.c (.ptr c off)):=by
 have:=RepX.ptr (φ:=φ.put c (b,0,lim)) c off b 0 lim (Ren.put_self _ _ _)
 rwa [Nat.zero_add]at this
theorem LJ{e:TypeId}{z:List X}(hz:K6 P e=some z):∃i zv,P.info? e=some i∧i.zero=some zv∧Pt (RepX φ) zv.cells.toList z:=by
 simp only[K6,ak]at hz
 obtain⟨zv,⟨i,hi,hzv⟩,hc⟩:=hz
 exact⟨i,zv,hi,hzv,C8 _ _ hc⟩
theorem L6(R:Rel w0 φ (eK h2 s) w)(hi:Inv g s)(he:EnvR φ a Γ){t:TypeId}{i:TypeInfo}(hti:P.info? t=some i){x v:Operand}{x' v':Opd}(hx:bX x=some x')(hv:bX v=some v')
  {m off:Nat} {cs:List X} {p:TypeId×List X} (hy:evE Γ x' = .c (.ptr m off)) (hcs:c5 (evE Γ v')=some cs) (hg:Kx s m=some p) (hn:cs.length=i.size) (hfit:off+i.size≤p.2.length) (hput:put s m (.cells p.1 (setAt p.2 off cs))=some s') (hr:h2 m=g m) :
  ∃w',(Instr.storeAt t (a.eval x) (a.eval v)).run P w = .ok () w'∧Rel w0 φ (eK h2 s') w'∧Inv g s':=by
 have hp:=xV (aX he hv) hcs
 have hvl:(a.eval v).cells.size=cs.length:=by have:=hp.1;simpa using this
 have hone:=Pt.one_of hp
 obtain⟨b,β,lim,hφ,hval⟩:=m9 (hy▸aX he hx)
 have bY:=(f7 hi hr).trans (Fj hg)
 obtain⟨b',β',lim',arr,h1,h2',h3,h4,h5⟩:=R.rep m _ bY
 rw[hφ]at h1;cases h1
 have hrun:=Aj (P:=P) hti h2' (off:=β+off) (v:=a.eval v) (by omega) (by omega) hone
 have hgs:=setRow_heap w b arr ((arr.toList.take (β+off)++(a.eval v).cells.toList++arr.toList.drop (β+off+(a.eval v).cells.size)).toArray) p.1 (0,0) h2'
 refine⟨w.setRow b (arr.toList.take (β+off)++(a.eval v).cells.toList++arr.toList.drop (β+off+(a.eval v).cells.size)).toArray,by simp[Instr.storeAt,hval,Instr.sureAddr,hrun],?_,oX hput hi⟩
 rw[tK hput]
 refine R.put bY rfl (Go.VM.Fr.setRow w b _ _ ⟨β,lim,hφ⟩) ?_ (fun q m' size seen hq e _=>?_) (fun _ _ _ h=>by simp at h)
 ·refine⟨b,β,lim,_,hφ,hgs,?_,?_,fun j x hx=>?_⟩
  ·simp;omega
  ·rw[tq (by omega)];omega
  ·have hj:j<p.2.length:=by have:=(bw.1 hx).1;rwa [tq (by omega)]at this
   unfold setAt at hx
   simp only[List.getElem?_append,List.length_take,List.length_drop,zw,List.getElem?_drop]at hx
   simp only[List.getElem?_toArray,List.getElem?_append,dw,List.length_take,Array.length_toList,zw,List.getElem?_drop]
   have m1:min off p.2.length=off:=by omega
   have m2:min (β+off) arr.size=β+off:=by omega
   rw[m1]at hx
   rw[m2]
   by_cases c1:j<off
   ·have c1':β+j<β+off:=by omega
    have c1'':β+j<β+off+(a.eval v).cells.size:=by omega
    simp only[c1,if_true]at hx
    simp only[c1',c1'',if_true,Array.getElem?_toList]
    exact h5 j x hx
   ·have c1' : ¬β+j<β+off:=by omega
    simp only[c1,sk]at hx
    simp only[c1',sk]
    by_cases c2:j-off<cs.length
    ·have c2':β+j<β+off+(a.eval v).cells.size:=by omega
     have e1:β+j-(β+off)=j-off:=by omega
     simp only[c2,if_true]at hx
     simp only[c2',if_true,e1]
     exact LW hp _ x hx
    ·have c2' : ¬β+j<β+off+(a.eval v).cells.size:=by omega
     simp only[c2,sk]at hx
     simp only[c2',sk,Array.getElem?_toList]
     have e1:off+cs.length+(j-off-cs.length)=j:=by omega
     have e2:β+off+(a.eval v).cells.size+(β+j-(β+off+(a.eval v).cells.size))=β+j:=by omega
     rw[e1]at hx
     rw[e2]
     exact h5 j x hx
 ·obtain⟨kd,es,hm⟩:=R.iters q m' size seen hq
  subst e
  rw[bY]at hm;simp at hm
theorem J8(w:World)(t ty e:TypeId)(i:TypeInfo)(ht:P.underlying t=some (.slice e))(hi:P.info? e=some i)(b off sLen sCap:Nat)(cur:Array Value)(hg:w.heap[b]? = some (.cells cur e (0,0)))
  (q:Addr) (m c:Nat) (news:List Value) (hl:news.length=m*i.size) (hnews:∀j u,news[j]? = some u→w.cell? (q.add j)=some u) (h1:∀u∈news,u.oneCell'=true)
  (hroom:sLen+m≤sCap) (hfit:off+sLen*i.size+news.length≤cur.size) :
  (Builtin.append_ #[t,t] ty #[.slice (some ⟨b,off,none⟩) sLen sCap,.slice (some q) m c]).run P w =
   .ok (.slice (some ⟨b,off,none⟩) (sLen+m) sCap) (w.setRow b (cur.toList.take (off+sLen*i.size)++news++cur.toList.drop (off+sLen*i.size+news.length)).toArray):=by
 have hf:=run_firstCells_some (P:=P) w i.size m q m c news hl hnews
 have hst:=run_storeCells_at P b (off+sLen*i.size) e news 0 cur w hg (by simpa using hfit) h1
 simp only[Nat.add_zero]at hst
 simp[Builtin.append_,run_underlying ht,sizeOf,typeInfo,hi,Builtin.lenOf,hroom,hf,Addr.add_lit,hst]
theorem u0(w:World)(t ty e:TypeId)(i:TypeInfo)(ht:P.underlying t=some (.slice e))(hi:P.info? e=some i)(b:Option Addr)(n cap:Nat)(hnc:n≤cap)(q:Option Addr)(c:Nat)(hb:b=none→n=0∧cap=0) :
  (Builtin.append_ #[t,t] ty #[.slice b n cap,.slice q 0 c]).run P w = .ok (.slice b n cap) w:=by
 have hfc:∀w:World,(Builtin.firstCells i.size 0 (.slice q 0 c)).run P w = .ok #[] w:=by
  intro w;cases q<;>simp[Builtin.firstCells,loadCells,loadCellsFrom]
 cases b with
 | none =>
  obtain⟨rfl,rfl⟩:=hb rfl
  simp[Builtin.append_,run_underlying ht,sizeOf,typeInfo,hi,Builtin.lenOf,hfc]
 | some ad=>simp[Builtin.append_,run_underlying ht,sizeOf,typeInfo,hi,Builtin.lenOf,hfc,hnc,storeCells]
theorem FJ(R:Rel w0 φ (eK h2 s) w)(hi:Inv g s){k:Nat}{v:Value}{x:V}{src:List X×Nat×Nat}(hx:RepV φ v x)(hs:avj s k x=some src)(hr:∀n,src.2.2.testBit n=true→h2 n=g n) :
  ∃q c news,v = .slice q src.2.1 c∧news.length=src.2.1*k∧Pt (RepX φ) news src.1∧(src.2.1=0∨∃b off,q=some ⟨b,off,none⟩∧Lies w b off news):=by
 unfold avj at hs
 split at hs
 ·cases hs
  exact⟨none,0,[],d0 hx,by simp,Go.VM.Pt.nil,.inl rfl⟩
 ·cases hs
  cases hx with
  | es ad=>exact⟨some ad,0,[],rfl,by simp,Go.VM.Pt.nil,.inl rfl⟩
 ·cases hs
  cases hx with
  | ez ad=>exact⟨ad,0,[],rfl,by simp,Go.VM.Pt.nil,.inl rfl⟩
 ·rename_i k' rows
  rw[b9]at hs
  obtain⟨hk,hs⟩:=hs
  cases hs
  have hk:=oz hk
  subst hk
  rcases I7 hx with⟨rfl,ad,cap,rfl⟩ | ⟨b,off,cap,rfl,hle,hkk,hat⟩
  ·exact⟨ad,cap,[],rfl,by simp,Go.VM.Pt.nil,.inl rfl⟩
  ·by_cases h0:rows=[]
   ·subst h0
    exact⟨_,cap,[],rfl,by simp,Go.VM.Pt.nil,.inl rfl⟩
   ·obtain⟨row,hrow⟩:=List.exists_mem_of_ne_nil rows h0
    obtain⟨i,hi0⟩:=List.getElem?_of_mem hrow
    have hall:=aMQ (hat i row hi0).1 hkk hat
    obtain⟨vs,hl,hlie,hp⟩:=R8 R hall (mw _)
    rw[List.take_length]at hp
    refine⟨_,cap,vs,rfl,?_,hp,.inr ⟨b,off,rfl,hlie⟩⟩
    rw[hl,List.length_flatten]
    have:rows.map List.length=List.replicate rows.length k:=by
     rw[List.eq_replicate_iff]
     exact⟨by simp,fun b hb=>by obtain⟨l,hl,rfl⟩:=yw.1 hb;exact hkk l hl⟩
    rw[this,List.sum_replicate_nat]
 ·rename_i n k' off len
  simp only[ak]at hs
  obtain⟨p,hg,hs⟩:=hs
  rw[b9]at hs
  obtain⟨hk,hs⟩:=hs
  simp only[aw]at hs
  obtain⟨cs,hcut,rfl⟩:=hs
  have hk:=oz hk
  subst hk
  cases hx with
  | sl _ _ _ _ b β lim o cap hφ hlen ho hlim =>
   have hrep:=R.rep n _ ((f7 hi (hr n (eJ n))).trans (Fj hg))
   obtain⟨vs,hl,hlie,hp⟩:=I0 hrep hφ hcut
   refine⟨_,cap,vs,rfl,hl,hp,?_⟩
   by_cases h0:len=0
   ·exact .inl h0
   ·right
    have:=ho (by omega)
    subst this
    exact⟨b,β+off,rfl,hlie⟩
 ·simp at hs
theorem aRJ(R:Rel w0 φ (eK h2 s) w){m off:Nat}{p:TypeId×List X}{cs:List X}{vs:List Value}(bY:eK h2 s m=some (.cells p.1 p.2)){b β lim:Nat}(hφ:φ m=some (b,β,lim))(hp:Pt (RepX φ) vs cs)(hfit:off+cs.length≤p.2.length)(hput:put s m (.cells p.1 (setAt p.2 off cs))=some s') :
  ∃arr:Array Value,w.heap[b]? = some (.cells arr p.1 (0,0))∧β+p.2.length≤arr.size∧Rel w0 φ (eK h2 s') (w.setRow b (arr.toList.take (β+off)++vs++arr.toList.drop (β+off+vs.length)).toArray):=by
 have hvl:vs.length=cs.length:=hp.1
 obtain⟨b',β',lim',arr,h1,h2',h3,h4,h5⟩:=R.rep m _ bY
 rw[hφ]at h1;cases h1
 refine⟨arr,h2',by omega,?_⟩
 have hgs:=setRow_heap w b arr ((arr.toList.take (β+off)++vs++arr.toList.drop (β+off+vs.length)).toArray) p.1 (0,0) h2'
 rw[tK hput]
 refine R.put bY rfl (Go.VM.Fr.setRow w b _ _ ⟨β,lim,hφ⟩) ?_ (fun q m' size seen hq e _=>?_) (fun _ _ _ h=>by simp at h)
 ·refine⟨b,β,lim,_,hφ,hgs,?_,?_,fun j x hx=>?_⟩
  ·simp;omega
  ·rw[tq (by omega)];omega
  ·have hj:j<p.2.length:=by have:=(bw.1 hx).1;rwa [tq (by omega)]at this
   unfold setAt at hx
   simp only[List.getElem?_append,List.length_take,List.length_drop,zw,List.getElem?_drop]at hx
   simp only[List.getElem?_toArray,List.getElem?_append,dw,List.length_take,Array.length_toList,zw,List.getElem?_drop]
   have m1:min off p.2.length=off:=by omega
   have m2:min (β+off) arr.size=β+off:=by omega
   rw[m1]at hx
   rw[m2]
   by_cases c1:j<off
   ·have c1':β+j<β+off:=by omega
    have c1'':β+j<β+off+vs.length:=by omega
    simp only[c1,if_true]at hx
    simp only[c1',c1'',if_true,Array.getElem?_toList]
    exact h5 j x hx
   ·have c1' : ¬β+j<β+off:=by omega
    simp only[c1,sk]at hx
    simp only[c1',sk]
    by_cases c2:j-off<cs.length
    ·have c2':β+j<β+off+vs.length:=by omega
     have e1:β+j-(β+off)=j-off:=by omega
     simp only[c2,if_true]at hx
     simp only[c2',if_true,e1]
     exact LW hp _ x hx
    ·have c2' : ¬β+j<β+off+vs.length:=by omega
     have e1:off+cs.length+(j-off-cs.length)=j:=by omega
     simp only[c2,sk]at hx
     simp only[c2',sk,Array.getElem?_toList]
     have e2:β+off+vs.length+(β+j-(β+off+vs.length))=β+j:=by omega
     rw[e2]
     rw[e1]at hx
     exact h5 j x hx
 ·obtain⟨kd,es,hm⟩:=R.iters q m' size seen hq
  subst e
  rw[bY]at hm;simp at hm
theorem awX(R:Rel w0 φ (eK h2 s) w)(hi:Inv g s)(he:EnvR φ a Γ){t ty elem:TypeId}{ie:TypeInfo}{x0 y0:Operand}(ht:P.underlying t=some (.slice elem))(hie:P.info? elem=some ie){x y:Opd}(hx:bX x0=some x)(hy:bX y0=some y)
  {v:V} {r:Nat} (hm:fX (evE Γ) s (.copy ie.size x y)=some (v,s',r)) (hr:∀n,r.testBit n=true→h2 n=g n) :
  ∃(n:Int) (w':World),(Builtin.copy_ #[t,t] ty #[a.eval x0,a.eval y0]).run P w = .ok (.int .i64 n) w'∧v=iV n∧Rel w0 φ (eK h2 s') w'∧Inv g s':=by
 simp only[fX]at hm
 split at hm
 ·rename_i m k' off len heq
  simp only[ak]at hm
  obtain⟨src,hsrc,hm⟩:=hm
  have hxv:=aX he hx
  rw[heq]at hxv
  generalize a.eval x0=ux at hxv ⊢
  cases hb:Nat.beq (Nat.min src.2.1 len) 0
  ·simp only[hb,cond_false,ak]at hm
   obtain⟨p,hg,hm⟩:=hm
   rw[b9]at hm
   obtain⟨hk,hm⟩:=hm
   simp only[aw]at hm
   obtain⟨s1,hput,hm⟩:=hm
   cases hm
   have hrs:∀n,src.2.2.testBit n=true→h2 n=g n:=fun n hn=>hr n (DX hn)
   have hrm:h2 m=g m:=hr m (G6 (eJ m))
   obtain⟨q,cc,news,hyv,hnl,hpn,hsrc0⟩:=FJ R hi (aX he hy) hsrc hrs
   have hne:Nat.min src.2.1 len≠0:=fun e=>by rw[e]at hb;simp at hb
   have hmin:Nat.min src.2.1 len≤src.2.1∧Nat.min src.2.1 len≤len:=⟨Nat.min_le_left _ _,Nat.min_le_right _ _⟩
   generalize hN:Nat.min src.2.1 len=N at *
   rcases hsrc0 with h0 | ⟨b2,off2,rfl,hlie⟩
   ·omega
   simp only[gk]at hk
   have hkk:=oz hk.1
   subst hkk
   have hfit:=Nat.le_of_ble_eq_true hk.2
   cases hxv with
   | sl _ _ _ _ b β lim o cap hφ hlen ho hlim =>
    have hoo:=ho (by omega)
    subst hoo
    have bY:=(f7 hi hrm).trans (Fj hg)
    have hmul:N*ie.size≤src.2.1*ie.size:=Nat.mul_le_mul_right _ hmin.1
    have hpt:Pt (RepX φ) (news.take (N*ie.size)) (src.1.take (N*ie.size)):=Go.VM.Pt.take hpn _
    have hl1:(news.take (N*ie.size)).length=N*ie.size:=by rw[List.length_take];omega
    have hl2:(src.1.take (N*ie.size)).length=N*ie.size:=by rw[←hpt.1];exact hl1
    obtain⟨arr,hh,hsz,R'⟩:=aRJ R bY hφ hpt (by rw[hl2];exact hfit) hput
    have hf:=run_firstCells_some (P:=P) (w:=w) ie.size N ⟨b2,off2,none⟩ src.2.1 cc (news.take (N*ie.size)) hl1 (fun j u hu=>by
     have:=(hlie.take (N*ie.size)) j u hu
     simpa[Addr.add_lit]using this)
    have hst:=run_storeCells_at P b (β+off) p.1 (news.take (N*ie.size)) 0 arr w hh (by rw[hl1];omega) (Pt.one_of hpt)
    simp only[Nat.add_zero]at hst
    refine⟨(N:Nat),_,?_,rfl,R',oX hput hi⟩
    rw[hyv]
    simp[Builtin.copy_,run_underlying ht,sizeOf,typeInfo,hie,Builtin.lenOf,hN,hf,hst,goInt]
  ·simp only[hb,cond_true]at hm
   cases hm
   have h0:Nat.min src.2.1 len=0:=oz hb
   obtain⟨q,cc,news,hyv,hnl,hpn,hsrc0⟩:=FJ R hi (aX he hy) hsrc hr
   have hfc:∀w:World,(Builtin.firstCells ie.size 0 (.slice q src.2.1 cc)).run P w = .ok #[] w:=by
    intro w;cases q<;>simp[Builtin.firstCells,loadCells,loadCellsFrom]
   cases hxv with
   | sl _ _ _ _ b β lim o cap hφ hlen ho hlim =>
    refine⟨0,w,?_,rfl,R,hi⟩
    rw[hyv]
    simp[Builtin.copy_,run_underlying ht,sizeOf,typeInfo,hie,Builtin.lenOf,h0,hfc,goInt,storeCells]
 ·simp at hm
end
end Go.RM
namespace Go.RM
open Go.VM (Pt Fr gX Lies)
section
variable {P:Program} {w0:World} {φ:Ren} {g h2:Hp} {s s':S} {Γ:Nat→V} {a:Act} {w:World}
theorem L3{bytes n:Nat}(h:rY bytes n=true):n*bytes≤140737488355328∧n≤9223372036854775807:=by
 unfold rY at h
 simp only[gk]at h
 exact⟨Dx h.1,Dx h.2⟩
theorem Fr.drewAlloc(w:World)(o:Obj):Fr w (w.drew.alloc o) fun _=>False:=⟨rfl,rfl,rfl,by simp,fun b hb _=>heap_alloc_old w.drew _ hb⟩
theorem U7(R:Rel w0 φ (eK h2 s) w)(hi:Inv g s)(he:EnvR φ a Γ){o:Oper}{c:Call}(hop:o.op = .call c)(hcal:c.callee = .builtin .append){t elem:TypeId}{ie:TypeInfo}{s0 x0:Operand}(hty:c.argTypes.toList=[t,t])(hargs:c.args.toList=[s0,x0])
  (ht:P.underlying t=some (.slice elem)) (hie:P.info? elem=some ie) (hsz:0<ie.size) (hz:(ie.zero.map fun z=>z.cells.size)=some ie.size) {sl x:Opd} (hs':bX s0=some sl) (hx':bX x0=some x)
  {v:V} {r:Nat} (hm:fX (evE Γ) s (.app elem ie.size ie.bytes sl x)=some (v,s',r)) (hr:∀n,r.testBit n=true→h2 n=g n):MemR P w0 φ h2 g w (execOp a.eval o) v s':=by
 obtain⟨z,hz1,hz2⟩ : ∃z,ie.zero=some z∧z.cells.size=ie.size:=by
  cases hzz:ie.zero with
  | none=>simp[hzz]at hz
  | some z=>simp[hzz]at hz;exact⟨z,rfl,hz⟩
 have hargs':c.args = #[s0,x0]:=by rw[←Ck (xs:=c.args),hargs]
 have htys:c.argTypes = #[t,t]:=by rw[←Ck (xs:=c.argTypes),hty]
 simp only[fX,ak]at hm
 obtain⟨src,hsrc,hm⟩:=hm
 have hrs:∀n,src.2.2.testBit n=true→h2 n=g n:=by
  intro n hn
  refine hr n ?_
  split at hm
  ·cases hb:Nat.beq src.2.1 0
   ·simp only[hb,cond_false]at hm
    rw[b9]at hm
    simp only[aw]at hm
    obtain⟨_,s1,_,hm⟩:=hm
    cases hm
    exact DX hn
   ·simp only[hb,cond_true]at hm;cases hm;exact hn
  ·cases hb:Nat.beq src.2.1 0
   ·simp only[hb,cond_false]at hm
    rw[b9]at hm
    simp only[aw]at hm
    obtain⟨_,s1,_,hm⟩:=hm
    cases hm
    exact DX hn
   ·simp only[hb,cond_true]at hm;cases hm;exact hn
  ·cases hb:Nat.beq src.2.1 0
   ·simp only[hb,cond_false]at hm
    rw[b9]at hm
    simp only[aw]at hm
    obtain⟨_,s1,_,hm⟩:=hm
    cases hm
    exact DX hn
   ·simp only[hb,cond_true]at hm;cases hm;exact hn
  ·simp only[ak]at hm
   obtain⟨p,hp,hm⟩:=hm
   rw[b9]at hm
   obtain⟨_,hm⟩:=hm
   simp only[ak]at hm
   obtain⟨olds,ho,hm⟩:=hm
   cases hb:Nat.beq src.2.1 0
   ·simp only[hb,cond_false,ak,aw]at hm
    obtain⟨s1,h1,s2,h2,hm⟩:=hm
    cases hm
    exact DX (DX hn)
   ·simp only[hb,cond_true]at hm;cases hm;exact DX hn
  ·simp at hm
 obtain⟨q,cc,news,hxv,hnl,hpn,hsrc0⟩:=FJ R hi (aX he hx') hsrc hrs
 have hone:=Pt.one_of hpn
 have hexec:∀u v' w',a.eval s0=u→(Builtin.append_ #[t,t] o.type #[u,.slice q src.2.1 cc]).run P w = .ok v' w'→(execOp a.eval o).run P w = .ok (.value v') w':=by
  intro u v' w' hu hr
  simp[execOp,hop,resolve,hcal,hargs',htys,invoke,builtin,hxv,hu,hr]
 have hsr:=aX he hs'
 have fresh:∀(u:Value) (s1:S) (b0:Option Addr) (n0 cap0:Nat),a.eval s0=u→u = .slice b0 n0 cap0→n0=0→(b0=none→cap0=0)→cap0<src.2.1→rY ie.bytes src.2.1=true→new s (.cells elem src.1)=some s1→h2 s.c=g s.c →
   MemR P w0 φ h2 g w (execOp a.eval o) (.c (.sl s.c ie.size 0 src.2.1)) s1:=by
  intro u s1 b0 n0 cap0 hu hform hn0 hbn hcap hroom hnew hrc
  subst hform;subst hn0
  obtain⟨r1,r2⟩:=L3 hroom
  obtain⟨sb,soff,rfl,hlies⟩:=hsrc0.resolve_left (by omega)
  have hnews:∀j u,news[j]? = some u→w.cell? ((⟨sb,soff,none⟩ : Addr).add j)=some u:=fun j u hu=>by rw[gX];exact hlies j u hu
  have key:∃cap' zc,src.2.1≤cap'∧zc=(Builtin.zeroCells z.cells (cap' - src.2.1))∧(Builtin.append_ #[t,t] o.type #[.slice b0 0 cap0,.slice (some ⟨sb,soff,none⟩) src.2.1 cc]).run P w = .ok (.slice (some ⟨w.heap.size,0,none⟩) src.2.1 cap') (w.drew.alloc (.cells (news.toArray++zc) elem)):=by
   cases b0 with
   | none =>
    have:=hbn rfl
    subst this
    exact⟨_,_,grownCap_ge w src.2.1 0 elem,rfl,run_append_nil (P:=P) w t o.type elem ie z ht hie hz1 ⟨sb,soff,none⟩ src.2.1 cc news hnl hnews (by omega) (by omega) (by omega)⟩
   | some ad =>
    have hr:=run_append_grow (P:=P) w t o.type elem ie z ht hie hz1 ad 0 cap0 [] (by simp) (fun j u hu=>by simp at hu) ⟨sb,soff,none⟩ src.2.1 cc news hnl hnews (by omega) (by simp only[Nat.zero_add];omega) (growslice_fits (by omega) (by simpa using r1))
    simp only[Nat.zero_add,List.nil_append,Array.empty_append]at hr
    exact⟨_,_,grownCap_ge w src.2.1 cap0 elem,rfl,hr⟩
  obtain⟨cap',zc,hge,rfl,hrun⟩:=key
  have hsize:(news.toArray++Builtin.zeroCells z.cells (cap' - src.2.1)).size=cap'*ie.size:=by
   simp only[Array.size_append,List.size_toArray,size_zeroCells,hz2,hnl,←Nat.add_mul]
   congr 1;omega
  obtain⟨hle,R',hi'⟩:=O7 R hi (arr:=news.toArray++Builtin.zeroCells z.cells (cap' - src.2.1)) (w':=w.drew.alloc (.cells (news.toArray++Builtin.zeroCells z.cells (cap' - src.2.1)) elem)) (b:=w.heap.size) hnew hrc (mw _) (heap_alloc_new w.drew _) (Fr.drewAlloc w _)
   (by rw[hsize,←hpn.1,hnl];exact Nat.mul_le_mul_right _ hge) (fun j x hx=>by
    obtain⟨v,h1,h2⟩:=LW hpn j x hx
    have hj:=(bw.1 h1).1
    exact⟨v,by rw[Array.getElem?_append_left (by simpa using hj)];simpa using h1,h2⟩)
  refine⟨_,_,_,_,hexec _ _ _ hu hrun,.inl rfl,hle,R',hi',?_⟩
  exact RepX.sl _ _ _ _ _ 0 _ 0 _ (Ren.put_self _ _ _) hge (fun _=>rfl) (by rw[hsize,Nat.zero_add];exact mw _)
 split at hm
 ·rename_i heq
  rw[heq]at hsr
  have hu:=d0 hsr
  cases hb:Nat.beq src.2.1 0
  ·simp only[hb,cond_false]at hm
   rw[b9]at hm
   obtain⟨hroom,hm⟩:=hm
   simp only[aw]at hm
   obtain⟨s1,hnew,hm⟩:=hm
   cases hm
   have hpos:0<src.2.1:=Nat.pos_of_ne_zero fun e=>by rw[e]at hb;simp at hb
   exact fresh _ s' none 0 0 hu rfl rfl (fun _=>rfl) hpos hroom hnew (hr _ (G6 (eJ _)))
  ·simp only[hb,cond_true]at hm
   cases hm
   have h0:=oz hb
   have hrun:=u0 (P:=P) w t o.type elem ie ht hie none 0 0 (mw 0) q cc (fun _=>⟨rfl,rfl⟩)
   rw[←h0]at hrun
   refine⟨_,_,w,φ,hexec _ _ _ hu (by rw[h0]at hrun ⊢;exact hrun),.inl rfl,Ren.le_refl φ,R,hi,?_⟩
   rw[heq];exact wX rfl
 ·rename_i heq
  rw[heq]at hsr
  generalize hval:a.eval s0=u at hsr
  cases hsr with
  | es ad =>
   cases hb:Nat.beq src.2.1 0
   ·simp only[hb,cond_false]at hm
    rw[b9]at hm
    obtain⟨hroom,hm⟩:=hm
    simp only[aw]at hm
    obtain⟨s1,hnew,hm⟩:=hm
    cases hm
    have hpos:0<src.2.1:=Nat.pos_of_ne_zero fun e=>by rw[e]at hb;simp at hb
    exact fresh _ s' (some ad) 0 0 hval rfl rfl (fun h=>by simp at h) hpos hroom hnew (hr _ (G6 (eJ _)))
   ·simp only[hb,cond_true]at hm
    cases hm
    have h0:=oz hb
    have hrun:=u0 (P:=P) w t o.type elem ie ht hie (some ad) 0 0 (mw 0) q cc (fun h=>by simp at h)
    refine⟨_,_,w,φ,hexec _ _ _ hval (by rw[h0];exact hrun),.inl rfl,Ren.le_refl φ,R,hi,?_⟩
    rw[heq];exact RepX.es ad
 ·rename_i heq
  rw[heq]at hsr
  generalize hval:a.eval s0=u at hsr
  cases hsr with
  | ez ad =>
   cases hb:Nat.beq src.2.1 0
   ·simp only[hb,cond_false]at hm
    rw[b9]at hm
    obtain⟨hroom,hm⟩:=hm
    simp only[aw]at hm
    obtain⟨s1,hnew,hm⟩:=hm
    cases hm
    have hpos:0<src.2.1:=Nat.pos_of_ne_zero fun e=>by rw[e]at hb;simp at hb
    exact fresh _ s' ad 0 0 hval rfl rfl (fun _=>rfl) hpos hroom hnew (hr _ (G6 (eJ _)))
   ·simp only[hb,cond_true]at hm
    cases hm
    have h0:=oz hb
    have hrun:=u0 (P:=P) w t o.type elem ie ht hie ad 0 0 (mw 0) q cc (fun _=>⟨rfl,rfl⟩)
    refine⟨_,_,w,φ,hexec _ _ _ hval (by rw[h0];exact hrun),.inl rfl,Ren.le_refl φ,R,hi,?_⟩
    rw[heq];exact RepX.ez ad
 ·rename_i n k' off len heq
  rw[heq]at hsr
  simp only[ak]at hm
  obtain⟨p,hg,hm⟩:=hm
  rw[b9]at hm
  obtain⟨hcnd,hm⟩:=hm
  simp only[gk]at hcnd
  have hk:=oz hcnd.1
  have hte:=oz hcnd.2.1
  obtain⟨r1,r2⟩:=L3 hcnd.2.2
  subst hk
  simp only[ak]at hm
  obtain⟨olds,hcut,hm⟩:=hm
  generalize hval:a.eval s0=u at hsr
  have hsr':RepX φ u (.sl n ie.size off len):=hsr
  cases hsr' with
  | sl _ _ _ _ b β lim o' cap hφ hlen ho hlim =>
   cases hb:Nat.beq src.2.1 0
   ·simp only[hb,cond_false,ak,aw]at hm
    obtain⟨s1,hput,s2,hnew,hm⟩:=hm
    cases hm
    have hpos:0<src.2.1:=Nat.pos_of_ne_zero fun e=>by rw[e]at hb;simp at hb
    have hrn:h2 n=g n:=hr n (DX (G6 (eJ n)))
    have hrc:h2 s1.c=g s1.c:=hr _ (G6 (eJ _))
    have bY:=(f7 hi hrn).trans (Fj hg)
    have hrep:=R.rep n _ bY
    obtain⟨vs,hvl,hlie,hpo⟩:=I0 hrep hφ hcut
    obtain⟨bb,ββ,ll,arr,g1,g2,g3,g4,g5⟩:=hrep
    rw[hφ]at g1;cases g1
    obtain⟨sb,soff,rfl,hlies⟩:=hsrc0.resolve_left (by omega)
    have hnews:∀j u,news[j]? = some u→w.cell? ((⟨sb,soff,none⟩ : Addr).add j)=some u:=fun j u hu=>by rw[gX];exact hlies j u hu
    have hi1:=oX hput hi
    have hnone:eK h2 s1 s1.c=none:=(f7 hi1 hrc).trans (yW hnew).2
    rw[tK hput]at hnone
    have hcn:s1.c≠n:=fun e=>by rw[e,jq]at hnone;simp at hnone
    rw[iZ _ hcn]at hnone
    have hov:eK h2 s'=upd (upd (eK h2 s) n .dead) s1.c (.cells elem (olds++src.1)):=by rw[FV hnew,tK hput]
    have hppt:Pt (RepX φ) (vs++news) (olds++src.1):=Go.VM.Pt.append hpo hpn
    have htot:(vs++news).length=(len+src.2.1)*ie.size:=by rw[dw,hvl,hnl,Nat.add_mul]
    subst hte
    by_cases hroom:len+src.2.1≤cap
    ·have hmul:(len+src.2.1)*ie.size≤cap*ie.size:=Nat.mul_le_mul_right _ hroom
     rw[Nat.add_mul]at hmul
     have hfit:o'+len*ie.size+news.length≤arr.size:=by omega
     have hrun:=J8 (P:=P) w t o.type p.1 ie ht hie b o' len cap arr g2 ⟨sb,soff,none⟩ src.2.1 cc news hnl hnews hone hroom hfit
     have hgs:=setRow_heap w b arr ((arr.toList.take (o'+len*ie.size)++news++arr.toList.drop (o'+len*ie.size+news.length)).toArray) p.1 (0,0) g2
     have R':=R.move (c:=s1.c) (o:=.cells p.1 (olds++src.1)) (b:=b) (β:=o') (lim:=lim) (w':=w.setRow b (arr.toList.take (o'+len*ie.size)++news++arr.toList.drop (o'+len*ie.size+news.length)).toArray) bY hnone (.inr ⟨β,lim,hφ⟩) ((pw.1 hgs).1) (Go.VM.Fr.setRow w b _ _ ⟨β,lim,hφ⟩) (fun _ _ _=>by simp) (fun φ' e hle=>by
      refine⟨b,o',lim,_,by rw[e,Ren.put_self],hgs,by simp;omega,?_,fun j x hx=>?_⟩
      ·rw[←hppt.1,htot,Nat.add_mul];omega
      ·obtain⟨v,h1,h2⟩:=LW hppt j x hx
       refine⟨v,?_,h2.mono hle⟩
       have hjl:=(bw.1 h1).1
       rw[htot]at hjl
       rw[Nat.add_mul]at hjl
       simp only[List.getElem?_toArray,List.getElem?_append,dw,List.length_take,Array.length_toList,zw]
       have m1:min (o'+len*ie.size) arr.size=o'+len*ie.size:=by omega
       rw[m1]
       have c0:o'+j<o'+len*ie.size+news.length:=by omega
       simp only[c0,if_true]
       rw[List.getElem?_append,hvl]at h1
       by_cases c1:j<len*ie.size
       ·have c1':o'+j<o'+len*ie.size:=by omega
        simp only[c1,if_true]at h1
        simp only[c1',if_true]
        have hl0:0<len:=Nat.pos_of_ne_zero fun e=>by rw[e]at c1;omega
        have:=hlie j v h1
        rw[←ho hl0]at this
        simp only[World.cell?,g2]at this
        simpa using this
       ·have c1' : ¬o'+j<o'+len*ie.size:=by omega
        simp only[c1,sk]at h1
        simp only[c1',sk]
        rw[←h1];congr 1;omega)
     rw[←hov]at R'
     refine⟨_,_,_,_,hexec _ _ _ hval hrun,.inl rfl,Ren.le_put _ (R.dom _ hnone),R',mZ hnew hi1,?_⟩
     exact RepX.sl _ _ _ _ _ o' _ o' _ (Ren.put_self _ _ _) hroom (fun _=>by omega) hlim
    ·have holds:∀j u,vs[j]? = some u→w.cell? ((⟨b,o',none⟩ : Addr).add j)=some u:=fun j u hu=>by
      rw[gX]
      have hl0:0<len:=Nat.pos_of_ne_zero fun e=>by
       have:=(bw.1 hu).1
       rw[hvl,e]at this;omega
      rw[ho hl0];exact hlie j u hu
     have hrun:=run_append_grow (P:=P) w t o.type p.1 ie z ht hie hz1 ⟨b,o',none⟩ len cap vs hvl holds ⟨sb,soff,none⟩ src.2.1 cc news hnl hnews (by omega) (by omega) (growslice_fits (by omega) r1)
     have hge:=grownCap_ge w (len+src.2.1) cap p.1
     have hsize:(vs.toArray++news.toArray++Builtin.zeroCells z.cells (grownCap w (len+src.2.1) cap p.1-(len+src.2.1))).size=grownCap w (len+src.2.1) cap p.1*ie.size:=by
      simp only[Array.size_append,List.size_toArray,size_zeroCells,hz2,hvl,hnl,←Nat.add_mul]
      congr 1;omega
     have R':=R.move (c:=s1.c) (o:=.cells p.1 (olds++src.1)) (b:=w.heap.size) (β:=0) (lim:=grownCap w (len+src.2.1) cap p.1*ie.size) (w':=w.drew.alloc (.cells (vs.toArray++news.toArray++Builtin.zeroCells z.cells (grownCap w (len+src.2.1) cap p.1-(len+src.2.1))) p.1)) bY hnone (.inl (mw _)) (by simp) (by
      have:=Fr.drewAlloc w (.cells (vs.toArray++news.toArray++Builtin.zeroCells z.cells (grownCap w (len+src.2.1) cap p.1-(len+src.2.1))) p.1)
      exact⟨this.os,this.tape,this.output,this.size,fun b hb _=>this.block b hb id⟩) (fun _ _ _=>by simp) (fun φ' e hle=>by
      refine⟨w.heap.size,0,_,_,by rw[e,Ren.put_self],heap_alloc_new w.drew _,by rw[hsize];exact mw _,?_,fun j x hx=>?_⟩
      ·rw[←hppt.1,htot,Nat.zero_add];exact Nat.mul_le_mul_right _ hge
      ·obtain⟨v,h1,h2⟩:=LW hppt j x hx
       refine⟨v,?_,h2.mono hle⟩
       have hjl:=(bw.1 h1).1
       rw[Nat.zero_add,Array.getElem?_append_left (by simpa using hjl)]
       simpa using h1)
     rw[←hov]at R'
     refine⟨_,_,_,_,hexec _ _ _ hval hrun,.inl rfl,Ren.le_put _ (R.dom _ hnone),R',mZ hnew hi1,?_⟩
     exact RepX.sl _ _ _ _ _ 0 _ 0 _ (Ren.put_self _ _ _) hge (fun _=>rfl) (by rw[Nat.zero_add];exact mw _)
   ·simp only[hb,cond_true]at hm
    cases hm
    have h0:=oz hb
    have hrun:=u0 (P:=P) w t o.type elem ie ht hie (some ⟨b,o',none⟩) len cap hlen q cc (fun h=>by simp at h)
    refine⟨_,_,w,φ,hexec _ _ _ hval (by rw[h0];exact hrun),.inl rfl,Ren.le_refl φ,R,hi,?_⟩
    rw[heq];exact RepX.sl n ie.size off len b β lim o' cap hφ hlen ho hlim
 ·simp at hm
end
end Go.RM
namespace Go.RM
open Go.VM (Pt Fr keyB getK putK keyOf_is yZ)
open Go.ChangeMaps (setBlock)
open MapKept
section
variable {P:Program} {w0:World} {φ:Ren} {g h2:Hp} {s s':S} {Γ:Nat→V} {a:Act} {w:World}
theorem Q8{x y:TypeDesc}(h:SQ x y=true):x=y:=by
 unfold SQ at h
 split at h<;>first | rfl | (have:=of_decide_eq_true h;subst this;rfl) | simp at h
theorem O6{kd:TypeDesc}{x:V}{key:Value}(h:D8 kd x=some key):x = .c (.sc key)∧Go.VM.keyOf kd key=true:=by
 unfold D8 at h
 split at h
 ·rw[b9]at h
  obtain⟨h1,h2⟩:=h
  cases h2
  exact⟨rfl,h1⟩
 ·simp at h
theorem F3{x:V}{v:Value}(hp:kK x=true)(h:RepV φ v x):RepS φ v x:=by
 cases x with
 | c _=>exact h
 | agg _=>exact h
 | tup _=>simp[kK]at hp
 | junk=>simp[kK]at hp
theorem G2{x:V}{v:Value}(h:RepS φ v x):RepV φ v x:=by
 cases x with
 | c _=>exact h
 | agg _=>exact h
 | tup _=>exact h.elim
 | junk=>trivial
theorem Gj{u u':Value}{y y':V}(h:RepS φ u y)(h':RepS φ u' y'):RepV φ (.tuple #[u,u']) (.tup [y,y']) :=
 ⟨#[u,u'],rfl,Go.VM.Pt.cons h (Go.VM.Pt.cons h' Go.VM.Pt.nil)⟩
theorem azQ{u u' u'':Value}{y y' y'':V}(h:RepS φ u y)(h':RepS φ u' y')(h'':RepS φ u'' y''):RepV φ (.tuple #[u,u',u'']) (.tup [y,y',y'']) :=
 ⟨#[u,u',u''],rfl,Go.VM.Pt.cons h (Go.VM.Pt.cons h' (Go.VM.Pt.cons h'' Go.VM.Pt.nil))⟩
theorem FK{v:Value}{n:Nat}(hx:RepV φ v (.c (.mp n))):∃b β lim,φ n=some (b,β,lim)∧v = .map (some b):=by
 have hx':RepX φ v (.mp n):=hx
 cases hx' with
 | mp _ b β lim h=>exact⟨b,β,lim,h,rfl⟩
theorem Y0(R:Rel w0 φ (eK h2 s) w)(hi:Inv g s){m:Nat}{p:TypeDesc×List (Value×V)}(hg:I4 s m=some p)(hr:h2 m=g m):∃b es' clock,φ m=some (b,0,0)∧w.heap[b]? = some (.map es' clock)∧es'.size=p.2.length ∧
  ∀(i:Nat) e q,es'[i]? = some e→p.2[i]? = some q→e.key=q.1∧Go.VM.keyOf p.1 q.1=true∧RepS φ e.val q.2:=by
 unfold I4 at hg
 split at hg
 ·rename_i kd b0 es heq
  cases hg
  obtain⟨b,es',clock,g1,hh,_,hsz,hes⟩:=R.rep m _ ((f7 hi hr).trans heq)
  exact⟨b,es',clock,g1,hh,hsz,fun i e q h1 h2=>let ⟨a1,a2,_,a4⟩:=hes i e q h1 h2;⟨a1,a2,a4⟩⟩
 ·rename_i kd es heq
  cases hg
  exact R.rep m _ ((f7 hi hr).trans heq)
 ·simp at hg
theorem aLY{m:Nat}{p:TypeDesc×List (Value×V)}(hg:getD s m=some p):I4 s m=some p∧∃o,s.h.get m=some o∧o.live=true∧∀kd es,o ≠ .map kd true es:=by
 unfold getD at hg
 unfold I4
 split at hg
 ·rename_i heq;rw[heq];cases hg;exact⟨rfl,_,rfl,rfl,fun _ _ h=>by simp at h⟩
 ·rename_i heq;rw[heq];cases hg;exact⟨rfl,_,rfl,rfl,fun _ _ h=>by simp at h⟩
 ·simp at hg
theorem ayx(R:Rel w0 φ (eK h2 s) w)(hi:Inv g s)(he:EnvR φ a Γ){o:Oper}{t k e:TypeId}{kd:TypeDesc}(ht:P.underlying t=some (.map k e))(hk:P.underlying k=some kd){i:TypeInfo}{zv:Value}{z:V}(hti:P.info? e=some i)(hz:i.zero=some zv)(hc:DK zv=some z)
  {x j:Operand} {x' j':Opd} (hx:bX x=some x') (hj:bX j=some j') {ok:Bool} {v:V} {r:Nat} (hm:fX (evE Γ) s (.look kd z ok x' j')=some (v,s',r)) (hr:∀n,r.testBit n=true→h2 n=g n) :
  MemR P w0 φ h2 g w (do pure (.value (←Instr.lookup t (a.eval x) (a.eval j) ok))) v s':=by
 have hzs:RepS φ zv z:=by
  have hzr:RepV φ zv z:=u5 hc
  unfold DK at hc
  split at hc
  ·obtain⟨_,_,rfl⟩:=aw.1 hc;exact hzr
  ·obtain⟨_,_,rfl⟩:=aw.1 hc;exact hzr
 have hzrun:∀w:World,(zeroValue e).run P w = .ok zv w:=fun w=>by simp[zeroValue,typeInfo,hti,hz]
 simp only[fX,ak]at hm
 obtain⟨key,hkey,hm⟩:=hm
 obtain⟨hkx,hkey⟩:=O6 hkey
 have hjv:=d0 (hkx▸aX he hj)
 rw[hjv]
 split at hm
 ·rename_i heq
  cases hm
  have hv:=d0 (heq▸aX he hx)
  rw[hv]
  cases ok
  ·refine MemR.of (v:=zv) (w':=w) (φ':=φ) ?_ (Ren.le_refl φ) R hi (G2 hzs)
   simp[Instr.lookup,run_underlying ht,run_checkKey hk (keyOf_is hkey),run_findKey hk (show Instr.findNow kd key [] 0=some none from rfl),hzrun,Result.andThen]
  ·refine MemR.of (v:=.tuple #[zv,.bool false]) (w':=w) (φ':=φ) ?_ (Ren.le_refl φ) R hi (Gj hzs (RepX.sc _ rfl))
   simp[Instr.lookup,run_underlying ht,run_checkKey hk (keyOf_is hkey),run_findKey hk (show Instr.findNow kd key [] 0=some none from rfl),hzrun,Result.andThen]
 ·rename_i m heq
  simp only[ak]at hm
  obtain⟨p,hg,hm⟩:=hm
  rw[b9]at hm
  obtain⟨hkd,hm⟩:=hm
  cases hm
  have hkd:=Q8 hkd
  subst hkd
  obtain⟨b,β,lim,hφ,hv⟩:=FK (heq▸aX he hx)
  rw[hv]
  obtain⟨b',es',clock,g1,hh,hsz,hes⟩:=Y0 R hi hg (hr m (eJ m))
  rw[hφ]at g1;cases g1
  rcases yZ hkey es'.toList p.2 0 (by simpa using hsz) (fun j e p g1 g2=>by
    obtain⟨h1,h2,_⟩:=hes j e p (by simpa using g1) g2
    exact⟨h1,h2⟩)with⟨g1,g2,_⟩ | ⟨j,e',p',g1,g2,g3,g4,g5,_⟩
  ·rw[g1]
   cases ok
   ·refine MemR.of (v:=zv) (w':=w) (φ':=φ) ?_ (Ren.le_refl φ) R hi (G2 hzs)
    simp[Instr.lookup,run_underlying ht,MapKept.run_getObj_map hh,run_checkKey hk (keyOf_is hkey),run_findKey hk g2,hzrun,Result.andThen]
   ·refine MemR.of (v:=.tuple #[zv,.bool false]) (w':=w) (φ':=φ) ?_ (Ren.le_refl φ) R hi (Gj hzs (RepX.sc _ rfl))
    simp[Instr.lookup,run_underlying ht,MapKept.run_getObj_map hh,run_checkKey hk (keyOf_is hkey),run_findKey hk g2,hzrun,Result.andThen]
  ·rw[g3]
   obtain⟨_,_,hrep⟩:=hes j e' p' (by simpa using g1) g2
   cases ok
   ·refine MemR.of (v:=e'.val) (w':=w) (φ':=φ) ?_ (Ren.le_refl φ) R hi (G2 hrep)
    simp[Instr.lookup,run_underlying ht,MapKept.run_getObj_map hh,run_checkKey hk (keyOf_is hkey),run_findKey hk g4,Result.andThen]
   ·refine MemR.of (v:=.tuple #[e'.val,.bool true]) (w':=w) (φ':=φ) ?_ (Ren.le_refl φ) R hi (Gj hrep (RepX.sc _ rfl))
    simp[Instr.lookup,run_underlying ht,MapKept.run_getObj_map hh,run_checkKey hk (keyOf_is hkey),run_findKey hk g4,Result.andThen]
 ·simp at hm
theorem adZ{kd:TypeDesc}{key:Value}(hk:Go.VM.keyOf kd key=true):∀(l:List MapEntry) (es:List (Value×V)) (i:Nat),l.length=es.length →
  (∀(j:Nat) e p,l[j]? = some e→es[j]? = some p→e.key=p.1∧Go.VM.keyOf kd p.1=true) →
  (Instr.findNow kd key l i=some none∧akX key es=es) ∨
  ∃j e,l[j]? = some e∧Instr.findNow kd key l i=some (some (i+j,e.val))∧akX key es=es.eraseIdx j
 | [],[],i,_,_=>.inl ⟨rfl,rfl⟩
 | [],_::_,i,hl,_=>by simp at hl
 | _::_,[],i,hl,_=>by simp at hl
 | e::l,p::es,i,hl,he=>by
  obtain⟨h1,h2⟩:=he 0 e p rfl rfl
  obtain⟨h3,h4⟩:=Go.VM.sameNow_keyB hk h2
  simp only[Instr.findNow,akX,h1,h3]
  cases hb:keyB key p.1 with
  | true=>exact .inr ⟨0,e,rfl,by simp,by simp⟩
  | false =>
   simp only[rk,sk]
   rcases adZ hk l es (i+1) (by simpa using hl) (fun j e' p' g1 g2 => he (j+1) e' p' (by simpa using g1) (by simpa using g2))with⟨g1,g2⟩ | ⟨j,e',g1,g2,g3⟩
   ·exact .inl ⟨g1,by rw[g2]⟩
   ·exact .inr ⟨j+1,e',by simpa using g1,by rw[g2];congr 3;omega,by rw[g3];rfl⟩
theorem azW(R:Rel w0 φ (eK h2 s) w)(hi:Inv g s)(he:EnvR φ a Γ){t k e ty:TypeId}{kd:TypeDesc}(ht:P.underlying t=some (.map k e))(hk:P.underlying k=some kd){x j:Operand}{x' j':Opd}(hx:bX x=some x')(hj:bX j=some j')
  {v:V} {r:Nat} (hm:fX (evE Γ) s (.mdel kd x' j')=some (v,s',r)) (hr:∀n,r.testBit n=true→h2 n=g n) :
  ∃w',(Builtin.delete_ #[t] ty #[a.eval x,a.eval j]).run P w = .ok (.tuple #[]) w'∧Rel w0 φ (eK h2 s') w'∧Inv g s'∧v = .junk:=by
 simp only[fX,ak]at hm
 obtain⟨key,hkey,hm⟩:=hm
 obtain⟨hkx,hkey⟩:=O6 hkey
 have hjv:=d0 (hkx▸aX he hj)
 rw[hjv]
 split at hm
 ·rename_i m heq
  simp only[ak]at hm
  obtain⟨p,hg,hm⟩:=hm
  rw[b9]at hm
  obtain⟨hkd,hm⟩:=hm
  simp only[aw]at hm
  obtain⟨s1,hput,hm⟩:=hm
  cases hm
  have hkd:=Q8 hkd
  subst hkd
  have hrm:h2 m=g m:=hr m (eJ m)
  obtain⟨hg',o0,ho0,hlive,hnr⟩:=aLY hg
  have bY:=(f7 hi hrm).trans ho0
  obtain⟨b,β,lim,hφ,hv⟩:=FK (heq▸aX he hx)
  rw[hv]
  obtain⟨b',es',clock,g1,hh,hsz,hes⟩:=Y0 R hi hg' hrm
  rw[hφ]at g1;cases g1
  have fin:∀(es2:Array MapEntry),(Builtin.delete_ #[t] ty #[.map (some b),key]).run P w = .ok (.tuple #[]) {w with heap:=w.heap.setIfInBounds b (.map es2 clock)} →
    es2.size=(akX key p.2).length→(∀(i:Nat) e q,es2[i]? = some e→(akX key p.2)[i]? = some q→e.key=q.1∧Go.VM.keyOf p.1 q.1=true∧RepS φ e.val q.2) →
    ∃w',(Builtin.delete_ #[t] ty #[.map (some b),key]).run P w = .ok (.tuple #[]) w'∧Rel w0 φ (eK h2 s') w'∧Inv g s'∧V.junk = .junk:=by
   intro es2 hrun hs2 he2
   refine⟨_,hrun,?_,oX hput hi,rfl⟩
   rw[tK hput]
   have hlt:=(pw.1 hh).1
   refine R.put bY hlive ⟨rfl,rfl,rfl,by simp,fun b' hb' hn=>?_⟩ ⟨b,es2,clock,hφ,by simp[Array.getElem?_setIfInBounds,hlt],hs2,he2⟩ (fun q m' size seen hq e _=>?_) (fun _ _ _ h=>by simp at h)
   ·have : ¬b=b':=fun e=>hn (e▸⟨_,_,hφ⟩)
    simp[Array.getElem?_setIfInBounds,this]
   ·obtain⟨kd',es'',hm'⟩:=R.iters q m' size seen hq
    subst e
    rw[bY]at hm'
    exact absurd (Option.some.inj hm') (hnr _ _)
  rcases adZ hkey es'.toList p.2 0 (by simpa using hsz) (fun j e p g1 g2=>by
    obtain⟨h1,h2,_⟩:=hes j e p (by simpa using g1) g2
    exact⟨h1,h2⟩)with⟨g2,g3⟩ | ⟨j,e',g1,g2,g3⟩
  ·refine fin es' ?_ (by rw[g3];exact hsz) (by rw[g3];exact hes)
   simp[Builtin.delete_,run_underlying ht,MapKept.run_getObj_map hh,run_checkKey hk (keyOf_is hkey),run_findKey hk g2,MapKept.run_setObj_map _ hh,Result.andThen]
  ·have hj:es'[j]? = some e':=by simpa using g1
   have hjl:j<es'.size:=(pw.1 hj).1
   refine fin (es'.eraseIdxIfInBounds j) ?_ ?_ fun i e q q1 q2=>?_
   ·simp[Builtin.delete_,run_underlying ht,MapKept.run_getObj_map hh,run_checkKey hk (keyOf_is hkey),run_findKey hk g2,MapKept.run_setObj_map _ hh,Result.andThen]
   ·rw[g3,List.length_eraseIdx,if_pos (by omega)]
    simp[Array.eraseIdxIfInBounds,hjl]
    omega
   ·rw[g3,List.getElem?_eraseIdx]at q2
    simp only[Array.eraseIdxIfInBounds,hjl,dif_pos,Array.getElem?_eraseIdx]at q1
    split at q1
    ·rw[if_pos ‹_›]at q2;exact hes i e q q1 q2
    ·rw[if_neg ‹_›]at q2;exact hes (i+1) e q q1 q2
 ·simp at hm
theorem U8{m:Nat}{p:List TypeDesc×List (List Value×V)}(hg:aAK s m=some p):s.h.get m=some (.wmap p.1 p.2):=by
 unfold aAK at hg
 split at hg
 ·rename_i heq;cases hg;exact heq
 ·simp at hg
theorem awZ(R:Rel w0 φ (eK h2 s) w)(hi:Inv g s)(he:EnvR φ a Γ){t k e ty:TypeId}(ht:P.underlying t=some (.map k e)){x:Operand}{x':Opd}(hx:bX x=some x'){v:V}{r:Nat}(hm:fX (evE Γ) s (.lenM x')=some (v,s',r))(hr:∀n,r.testBit n=true→h2 n=g n) :
  ∃n:Int,(Builtin.len_ #[t] ty #[a.eval x]).run P w = .ok (.int .i64 n) w∧v=iV n∧s'=s:=by
 simp only[fX]at hm
 split at hm
 ·rename_i heq
  cases hm
  have hv:=d0 (heq▸aX he hx)
  exact⟨0,by rw[hv];simp[Builtin.len_,run_underlying ht,goInt],rfl,rfl⟩
 ·rename_i m heq
  simp only[aw]at hm
  obtain⟨q,hg,hm⟩:=hm
  cases hm
  obtain⟨b,β,lim,hφ,hv⟩:=FK (heq▸aX he hx)
  have:∃es' clock,w.heap[b]? = some (.map es' clock)∧es'.size=q:=by
   unfold aTX at hg
   split at hg
   ·rename_i p hp;cases hg
    obtain⟨b',es',clock,g1,hh,hcl,hsz,hes⟩:=R.rep m _ ((f7 hi (hr m (eJ m))).trans (U4 hp))
    rw[hφ]at g1;cases g1
    exact⟨es',clock,hh,hsz⟩
   ·obtain⟨p,hp,rfl⟩:=aw.1 hg
    obtain⟨b',es',clock,g1,hh,hsz,hes⟩:=R.rep m _ ((f7 hi (hr m (eJ m))).trans (U8 hp))
    rw[hφ]at g1;cases g1
    exact⟨es',clock,hh,hsz⟩
  obtain⟨es',clock,hh,hsz⟩:=this
  exact⟨q,by rw[hv];simp[Builtin.len_,run_underlying ht,MapKept.run_getObj_map hh,goInt,hsz,Result.andThen],rfl,rfl⟩
 ·simp at hm
theorem Qq(w w1:World)(hw:w1=w∨w1=w.drew)(b:Nat)(o:Obj):Fr w (setBlock w1 b o) fun b'=>b'=b:=by
 rcases hw with rfl | rfl
 ·exact⟨rfl,rfl,rfl,by simp[setBlock],fun b' _ hn=>by simp[setBlock,Array.getElem?_setIfInBounds,Ne.symm hn]⟩
 ·exact⟨rfl,rfl,rfl,by simp[setBlock],fun b' _ hn=>by simp[setBlock,Array.getElem?_setIfInBounds,Ne.symm hn];rfl⟩
theorem abj(w w1:World)(hw:w1=w∨w1=w.drew){b:Nat}{o0:Obj}(hb:w.heap[b]? = some o0)(o:Obj):(setBlock w1 b o).heap[b]? = some o:=by
 have hlt:=(pw.1 hb).1
 rcases hw with rfl | rfl
 ·simp[setBlock,Array.getElem?_setIfInBounds,hlt]
 ·simp[setBlock,Array.getElem?_setIfInBounds,hlt]
theorem EJ(R:Rel w0 φ (eK h2 s) w)(hi:Inv g s)(he:EnvR φ a Γ){t k e:TypeId}{kd:TypeDesc}(ht:P.underlying t=some (.map k e))(hk:P.underlying k=some kd){x j u:Operand}{x' j' u':Opd}(hx:bX x=some x')(hj:bX j=some j')(hu:bX u=some u')
  {v:V} {r:Nat} (hm:fX (evE Γ) s (.mupd kd x' j' u')=some (v,s',r)) (hr:∀n,r.testBit n=true→h2 n=g n) :
  ∃w',(Instr.mapUpdate t (a.eval x) (a.eval j) (a.eval u)).run P w = .ok () w'∧Rel w0 φ (eK h2 s') w'∧Inv g s'∧v = .junk:=by
 simp only[fX,ak]at hm
 obtain⟨key,hkey,hm⟩:=hm
 obtain⟨hkx,hkey⟩:=O6 hkey
 have hjv:=d0 (hkx▸aX he hj)
 rw[hjv]
 split at hm
 ·rename_i m heq
  simp only[ak]at hm
  obtain⟨p,hg,hm⟩:=hm
  rw[b9]at hm
  obtain⟨hcnd,hm⟩:=hm
  simp only[gk,Cw]at hcnd
  obtain⟨hkd,hrng,hpl⟩:=hcnd
  simp only[aw]at hm
  obtain⟨s1,hput,hm⟩:=hm
  cases hm
  have hkd:=Q8 hkd
  subst hkd
  have hrm:h2 m=g m:=hr m (eJ m)
  have bY:=(f7 hi hrm).trans (U4 hg)
  rw[hrng]at bY
  obtain⟨b,β,lim,hφ,hv⟩:=FK (heq▸aX he hx)
  have hxs:=F3 hpl (aX he hu)
  rw[hv]
  obtain⟨b',es',clock,g1,hh,hcl,hsz,hes⟩:=R.rep m _ bY
  rw[hφ]at g1;cases g1
  have fin:∀(es2:Array MapEntry) (c2:Nat),(Instr.mapUpdate t (.map (some b)) key (a.eval u)).run P w = .ok () {w with heap:=w.heap.setIfInBounds b (.map es2 c2)} →
    c2=(putK key (evE Γ u') p.2.2).length→es2.size=(putK key (evE Γ u') p.2.2).length→(∀(i:Nat) e q,es2[i]? = some e→(putK key (evE Γ u') p.2.2)[i]? = some q→e.key=q.1∧Go.VM.keyOf p.1 q.1=true∧e.born=i∧RepS φ e.val q.2) →
    ∃w',(Instr.mapUpdate t (.map (some b)) key (a.eval u)).run P w = .ok () w'∧Rel w0 φ (eK h2 s') w'∧Inv g s'∧V.junk = .junk:=by
   intro es2 c2 hrun hc2 hs2 he2
   refine⟨_,hrun,?_,oX hput hi,rfl⟩
   rw[tK hput]
   have hlt:=(pw.1 hh).1
   refine R.put bY rfl ⟨rfl,rfl,rfl,by simp,fun b' hb' hn=>?_⟩ ⟨b,es2,c2,hφ,by simp[Array.getElem?_setIfInBounds,hlt],hc2,hs2,he2⟩ (fun q m' size seen hq e _=>?_) (fun _ _ _ h=>by simp at h)
   ·have : ¬b=b':=fun e=>hn (e▸⟨_,_,hφ⟩)
    simp[Array.getElem?_setIfInBounds,this]
   ·obtain⟨kd',es'',hm'⟩:=R.iters q m' size seen hq
    subst e
    rw[bY]at hm';simp at hm'
  rcases yZ hkey es'.toList p.2.2 0 (by simpa using hsz) (fun j e p g1 g2=>by
    obtain⟨h1,h2,_,_⟩:=hes j e p (by simpa using g1) g2
    exact⟨h1,h2⟩)with⟨g1,g2,g3⟩ | ⟨j,e',p',g1,g2,g3,g4,g5,g6⟩
  ·refine fin (es'.push ⟨key,a.eval u,clock⟩) (clock+1) ?_ (by rw[g3];simp[hcl]) (by rw[g3];simp[hsz]) fun i e q q1 q2=>?_
   ·simp[Instr.mapUpdate,run_underlying ht,MapKept.run_getObj_map hh,run_checkKey hk (keyOf_is hkey),run_findKey hk g2,MapKept.run_setObj_map _ hh,Result.andThen]
   ·rw[g3]at q2
    rw[Array.getElem?_push]at q1
    split at q1
    ·rename_i hi
     cases q1
     rw[List.getElem?_append_right (by omega)]at q2
     have:i-p.2.2.length=0:=by omega
     rw[this]at q2
     simp at q2
     subst q2
     exact⟨rfl,hkey,by rw[hcl];simp;omega,hxs⟩
    ·have hlt:i<es'.size:=(pw.1 q1).1
     rw[lw (by omega)]at q2
     exact hes i e q q1 q2
  ·have hj:es'[j]? = some e':=by simpa using g1
   refine fin (es'.modify j fun e'=>{e' with key:=key,val:=a.eval u}) clock ?_ (by rw[g6];simp[hcl]) (by rw[g6];simp[hsz]) fun i e q q1 q2=>?_
   ·simp[Instr.mapUpdate,run_underlying ht,MapKept.run_getObj_map hh,run_checkKey hk (keyOf_is hkey),run_findKey hk g4,hj,g5,run_keyThatStays (keyOf_is hkey),MapKept.run_setObj_map _ hh,Result.andThen]
   ·rw[g6]at q2
    rw[Array.getElem?_modify]at q1
    rw[kw]at q2
    by_cases eij:j=i
    ·subst eij
     simp only[if_true,hj,qw,ek]at q1
     have hlt:j<p.2.2.length:=(bw.1 g2).1
     simp only[if_true,hlt,ek]at q2
     subst q1;subst q2
     obtain⟨_,_,hb3,_⟩:=hes j e' _ hj g2
     exact⟨rfl,hkey,hb3,hxs⟩
    ·simp only[eij,sk]at q1 q2
     exact hes i e q q1 q2
 ·simp at hm
theorem aAV(R:Rel w0 φ (eK h2 s) w)(hi:Inv g s)(he:EnvR φ a Γ){t k e:TypeId}(ht:P.underlying t=some (.map k e)){x:Operand}{x':Opd}(hx:bX x=some x'){v:V}{r:Nat}(hm:fX (evE Γ) s (.rng x')=some (v,s',r))(hr:∀n,r.testBit n=true→h2 n=g n) :
  MemR P w0 φ h2 g w (do pure (.value (←Instr.range t (a.eval x)))) v s':=by
 simp only[fX]at hm
 split at hm
 ·rename_i heq
  simp only[aw]at hm
  obtain⟨s1,hnew,hm⟩:=hm
  cases hm
  have hv:=d0 (heq▸aX he hx)
  have hc:eK h2 s s.c=none:=(f7 hi (hr _ (eJ _))).trans (yW hnew).2
  have R':=R.new (c:=s.c) hc (o:=.itern) (b:=w.heap.size) (β:=0) (lim:=0) (w':=w.alloc (.mapIter none 0 #[] 0)) (mw _) (by simp) (Fr.alloc w _ _) (fun _ _ _ h=>by simp at h) (fun φ' e hle=>⟨w.heap.size,by rw[e,Ren.put_self],heap_alloc_new w _⟩)
  rw[←FV hnew]at R'
  rw[hv]
  exact MemR.of (run_range_nilMap w t k e ht) (Ren.le_put _ (R.dom _ hc)) R' (mZ hnew hi) (Rq 0)
 ·rename_i m heq
  simp only[ak,aw]at hm
  obtain⟨p,hg,s1,hput,s2,hnew,hm⟩:=hm
  cases hm
  have hrm:h2 m=g m:=hr m (DX (eJ m))
  have hrc:h2 s1.c=g s1.c:=hr _ (G6 (eJ _))
  have bY:=(f7 hi hrm).trans (U4 hg)
  obtain⟨b,β,lim,hφ,hv⟩:=FK (heq▸aX he hx)
  have hrep:=R.rep m _ bY
  obtain⟨b',es',clock,g1,hh,hcl,hsz,hes⟩:=hrep
  rw[hφ]at g1;cases g1
  have R1:Rel w0 φ (eK h2 s1) w:=by
   rw[tK hput]
   refine R.put bY rfl (Fr.refl _ _) ⟨b,es',clock,hφ,hh,hcl,hsz,hes⟩ (fun q m' size seen hq e _=>⟨⟨_,_,rfl⟩,fun _ _=>rfl⟩) (fun _ _ _ h=>by simp at h)
  have hi1:=oX hput hi
  have hc:eK h2 s1 s1.c=none:=(f7 hi1 hrc).trans (yW hnew).2
  have hm1:eK h2 s1 m=some (.map p.1 true p.2.2):=by rw[tK hput,jq]
  have hlt:=(pw.1 hh).1
  have R':=R1.new (c:=s1.c) hc (o:=.iter m p.2.2.length []) (b:=w.heap.size) (β:=0) (lim:=0) (w':=w.alloc (.mapIter (some b) clock #[] clock)) (mw _) (by simp) (Fr.alloc w _ _) (fun m' size seen h=>by cases h;exact⟨_,_,hm1⟩)
   (fun φ' e hle=>⟨w.heap.size,b,0,0,clock,es',by rw[e,Ren.put_self],hle.loc _ _ hφ,by rw[heap_alloc_new w _,hcl],hcl,by rw[heap_alloc_old w _ hlt,hh,hcl]⟩)
  rw[←FV hnew]at R'
  rw[hv]
  exact MemR.of (run_range_map w t k e b es' clock ht hh) (Ren.le_put _ (R1.dom _ hc)) R' (mZ hnew hi1) (Rq 0)
 ·simp at hm
theorem aPV{v:Value}{d b:Nat}(hx:RepV φ v (.c (.ptr d 0)))(hφ:φ d=some (b,0,0)):v = .pointer (some ⟨b,0,none⟩):=by
 obtain⟨b',β,lim,h1,h2⟩:=m9 hx
 rw[hφ]at h1;cases h1
 exact h2
theorem anX{es':Array MapEntry}(h:∀(i:Nat) e,es'[i]? = some e→e.born=i):(es'.toList.map (·.born)).Nodup:=by
 have:es'.toList.map (·.born)=List.range es'.size:=by
  apply List.ext_getElem?
  intro i
  rw[jw]
  by_cases hi:i<es'.size
  ·rw[List.getElem?_range hi,Array.getElem?_toList,Array.getElem?_eq_getElem hi]
   simp[h i es'[i] (Array.getElem?_eq_getElem hi)]
  ·rw[vw (by simp;omega),vw (by simp;omega)];rfl
 rw[this];exact List.nodup_range
theorem aFX(R:Rel w0 φ (eK h2 s) w)(hi:Inv g s)(he:EnvR φ a Γ){x:Operand}{x':Opd}(hx:bX x=some x'){v:V}{r:Nat}(hm:fX (evE Γ) s (.ent x')=some (v,s',r))(hr:∀n,r.testBit n=true→h2 n=g n) :
  MemR P w0 φ h2 g w (do pure (.value (←Instr.entry (a.eval x)))) v s':=by
 simp only[fX]at hm
 split at hm
 ·rename_i d heq
  split at hm
  ·rename_i m size seen hd
   split at hm
   ·rename_i kd rg es hme
    rw[b9]at hm
    obtain⟨hlen,hm⟩:=hm
    simp only[ak,aw]at hm
    obtain⟨i,hlast,p,hp,hm⟩:=hm
    cases hm
    have hd':=(f7 hi (hr d (DX (eJ d)))).trans hd
    have hm':=(f7 hi (hr m (G6 (eJ m)))).trans hme
    obtain⟨b,bm,β,lim,last,es0,f1,f2,f3,f4,f5⟩:=R.rep d _ hd'
    obtain⟨b',es',clock,g1,hh,hcl,hsz,hes⟩:=R.rep m _ hm'
    rw[f2]at g1;cases g1
    rw[hh]at f5;cases f5
    subst f4
    have hv:=aPV (heq▸aX he hx) f1
    rw[hv]
    obtain⟨seen0,hs0⟩ : ∃seen0,seen=seen0++[i]:=by
     obtain⟨l,hl⟩:=List.getLast?_eq_some_iff.1 hlast
     exact⟨l,hl⟩
    have hlt:i<es.length:=(bw.1 hp).1
    have hei:es0[i]? = some es0[i]:=Array.getElem?_eq_getElem (by omega)
    obtain⟨k1,k2,k3,k4⟩:=hes i _ p hei hp
    have hrun:=run_entry_at (P:=P) w b bm last seen0.toArray es0 last es0[i] (by rw[f3,hs0,k3];simp) (by rw[hh]) (by simp) (anX (fun i e h=>by
     have hlt2:i<es.length:=by have:=(pw.1 h).1;omega
     exact(hes i e es[i] h (cw hlt2)).2.2.1))
    rw[k1]at hrun
    refine MemR.of hrun (Ren.le_refl φ) R hi (Gj (RepX.sc _ ?_) k4)
    cases kd<;>cases hpk:p.1<;>simp[hpk,Go.VM.keyOf]at k2<;>rfl
   ·simp at hm
  ·simp at hm
 ·simp at hm
end
end Go.RM
namespace Go.RM
open Go.VM (Pt Fr QJ fits eqL eqS)
open MapKept
section
variable {P:Program} {w0:World} {φ:Ren} {g h2:Hp} {s s':S} {Γ:Nat→V} {a:Act} {w:World}
theorem aDW{a b:Value}(h:eqS a b=some true):a=b:=by
 unfold eqS at h
 split at h
 ·split at h
  ·rename_i hk;subst hk;simp at h;rw[h]
  ·simp at h
 ·simp at h;rw[h]
 ·simp at h;rw[h]
 ·simp at h
theorem ahj:∀ {xs ys:List Value},eqL xs ys=some true→xs=ys
 | [],[],_=>rfl
 | [],_::_,h=>by simp[eqL]at h
 | _::_,[],h=>by simp[eqL]at h
 | x::xs,y::ys,h=>by
  simp only[eqL,ak,aw]at h
  obtain⟨b,h1,c,h2,h3⟩:=h
  simp only[gk]at h3
  rw[h3.1]at h1;rw[h3.2]at h2
  rw[aDW h1,ahj h2]
theorem aHj{kd:TypeDesc}{a b:Value}(ha:Go.VM.keyOf kd a=true)(hb:Go.VM.keyOf kd b=true):∃t,eqS a b=some t:=by
 cases kd<;>cases a<;>simp only[Go.VM.keyOf,rk,Dk]at ha<;>cases b<;>simp only[Go.VM.keyOf,rk,Dk]at hb
 ·exact⟨_,rfl⟩
 ·subst ha;subst hb;exact⟨_,by simp[eqS];rfl⟩
 ·exact⟨_,rfl⟩
theorem afj:∀ {sh:List TypeDesc} {xs ys:List Value},fits sh xs=true→fits sh ys=true→∃t,eqL xs ys=some t
 | [],[],[],_,_=>⟨true,rfl⟩
 | [],_::_,_,h,_=>by simp[fits]at h
 | [],[],_::_,_,h=>by simp[fits]at h
 | _::_,[],_,h,_=>by simp[fits]at h
 | _::_,_::_,[],_,h=>by simp[fits]at h
 | kd::sh,x::xs,y::ys,h,h'=>by
  simp only[fits,gk]at h h'
  obtain⟨t,ht⟩:=aHj h.1 h'.1
  obtain⟨u,hu⟩:=afj h.2 h'.2
  exact⟨t&&u,by simp[eqL,ht,hu]⟩
theorem Z8:∀ {sh:List TypeDesc} {xs:List Value},fits sh xs=true→∀n,((xs.zip xs).all fun p=>Instr.sameBits n p.1 p.2)=true
 | [],[],_,_=>rfl
 | [],_::_,h,_=>by simp[fits]at h
 | _::_,[],h,_=>by simp[fits]at h
 | kd::sh,x::xs,h,n=>by
  simp only[fits,gk]at h
  simp only[List.zip_cons_cons,List.all_cons,gk]
  exact⟨sameBits_self (Go.VM.keyOf_is h.1) n,Z8 h.2 n⟩
theorem ayK{sh:List TypeDesc}{xs:List Value}(h:fits sh xs=true):(Instr.keyThatStays (.agg xs.toArray) (.agg xs.toArray)).run P w = .ok (.agg xs.toArray) w:=by
 have:Instr.sameBits 10000 (.agg xs.toArray) (.agg xs.toArray)=true:=by
  show((xs.toArray.size == xs.toArray.size)&&_)=true
  simp only[beq_self_eq_true,Bool.true_and]
  exact Z8 h _
 simp[Instr.keyThatStays,this]
theorem G3{t:TypeId}{d:TypeDesc}(hd:P.underlying t=some d)(hs:JQ d=true){xs:List Value}{off:Nat}(ho:off<xs.length):(part t xs.toArray off).run P w = .ok xs[off] w:=by
 have hag:(isAgg t).run P w = .ok false w:=by
  unfold isAgg
  cases d<;>simp[JQ]at hs<;>simp[run_underlying hd]
 simp[part,hag,ho]
theorem EX{t:TypeId}{d:TypeDesc}(hd:P.underlying t=some d)(hs:JQ d=true)(em:Bool)(n:Nat)(v:Value):(Instr.checkKey em (n+1) t v).run P w = .ok () w:=by
 unfold Instr.checkKey
 simp only[Sem.run_bind,run_underlying hd,Result.andThen]
 cases d<;>simp[JQ]at hs<;>simp
theorem C3{k:TypeId}{sh:List TypeDesc}(h:BY P k=some sh){xs:List Value}(hf:fits sh xs=true)(em:Bool):(Instr.checkKey em 10000 k (.agg xs.toArray)).run P w = .ok () w:=by
 have hlen:=Go.VM.fits_len hf
 unfold BY at h
 split at h
 ·rename_i fs hu
  obtain⟨sh',hsh,h⟩:=ak.1 h
  split at h
  ·rename_i hall
   cases h
   rw[show(10000:Nat)=9998+1+1 from rfl,Instr.checkKey]
   simp only[Sem.run_bind,run_underlying hu,Result.andThen_ok]
   rw[←Array.forIn_toList]
   rw[hlen]at hall
   generalize fs.toList=L at hall
   induction L with
   | nil=>simp
   | cons f L ih =>
    simp only[List.all_cons,gk]at hall
    obtain⟨hf1,hL⟩:=hall
    unfold asY at hf1
    simp only[gk,bne_iff_ne,ne_eq,Dk]at hf1
    obtain⟨⟨hn,hd⟩,ho⟩:=hf1
    split at hd
    ·rename_i d hud
     simp only[List.forIn_cons,Sem.run_bind,hn,ne_eq,not_false_eq_true,if_true,Result.andThen_ok,G3 hud hd ho,EX hud hd,Sem.run_pure]
     exact ih hL
    ·simp at hd
  ·simp at h
 ·rename_i m e hu
  obtain⟨d,hd,h⟩:=ak.1 h
  split at h
  ·rename_i hc
   obtain⟨_,hs,hsz⟩:=hc
   obtain⟨i,hi,hi1⟩:=aw.1 hsz
   obtain⟨she,hshe,rfl⟩:=aw.1 h
   have hl1:=Go.VM.eqTy_len _ _ _ _ hshe
   have hm:xs.length=m:=by rw[←hlen,List.length_flatten,List.map_replicate,List.sum_replicate_nat,hl1,Nat.mul_one]
   rw[show(10000:Nat)=9998+1+1 from rfl,Instr.checkKey]
   simp only[Sem.run_bind,run_underlying hu,Result.andThen_ok]
   simp only[Std.Legacy.Range.forIn_eq_forIn_range',Std.Legacy.Range.size,Nat.sub_zero,Nat.add_one_sub_one,Nat.div_one]
   have each:∀j∈List.range' 0 m,j<xs.length:=fun j hj=>by rw[List.mem_range']at hj;obtain⟨i,h1,h2⟩:=hj;omega
   generalize List.range' 0 m=is at each
   induction is with
   | nil=>simp
   | cons j is ih =>
    have hj:=each j (by simp)
    have hsz':(sizeOf e).run P w = .ok 1 w:=by simp[sizeOf,typeInfo,hi,hi1]
    simp only[List.forIn_cons,Sem.run_bind,hsz',Result.andThen_ok,Nat.mul_one,G3 hd hs hj,EX hd hs,Sem.run_pure]
    exact ih (fun y hy=>each y (by simp[hy]))
  ·simp at h
 ·simp at h
theorem Y5{k:TypeId}{sh:List TypeDesc}(h:BY P k=some sh):QJ P k sh:=by
 unfold BY at h
 split at h
 ·obtain⟨sh',hsh,h⟩:=ak.1 h
  split at h
  ·cases h;exact eqOk_of hsh
  ·simp at h
 ·rename_i m e hu
  obtain⟨d,hd,h⟩:=ak.1 h
  split at h
  ·rename_i hc
   obtain⟨she,hshe,rfl⟩:=aw.1 h
   exact Go.VM.eqOk_arr hu hc.1 hc.2.2 hshe rfl
  ·simp at h
 ·simp at h
theorem Fz{k:TypeId}{sh:List TypeDesc}(h:BY P k=some sh)(x:Value)(es:List MapEntry):(Instr.findKey k x es).run P w=(Instr.findAsking k x es).run P w:=by
 refine run_findKey_eq w ?_ x es
 unfold BY at h
 split at h
 ·rename_i hu;rw[hu]
 ·rename_i hu;rw[hu]
 ·simp at h
theorem Lq{k:TypeId}{sh:List TypeDesc}(he:QJ P k sh){key:List Value}(hk:fits sh key=true):∀(l:List MapEntry) (es:List (List Value×V)) (i:Nat),l.length=es.length →
  (∀(j:Nat) e p,l[j]? = some e→es[j]? = some p→e.key = .agg p.1.toArray∧fits sh p.1=true) →
  (aiz key es=none∧(Instr.findAsking k (.agg key.toArray) l i).run P w = .ok none w∧(∀v,S0 key v es=es++[(key,v)])) ∨
  ∃j e p,l[j]? = some e∧es[j]? = some p∧aiz key es=some p.2∧(Instr.findAsking k (.agg key.toArray) l i).run P w = .ok (some (i+j,e.val)) w∧p.1=key∧(∀v,S0 key v es=es.set j (key,v))
 | [],[],i,_,_=>.inl ⟨rfl,by simp[Instr.findAsking],fun _=>rfl⟩
 | [],_::_,i,hl,_=>by simp at hl
 | _::_,[],i,hl,_=>by simp at hl
 | e::l,p::es,i,hl,hes=>by
  obtain⟨h1,h2⟩:=hes 0 e p rfl rfl
  obtain⟨t,ht⟩:=afj hk h2
  have hrun:=he.2 key p.1 t w ht hk
  simp only[Instr.findAsking,aiz,S0,eqW,ht,h1]
  cases t with
  | true=>exact .inr ⟨0,e,p,rfl,rfl,by simp,by simp[hrun,Result.andThen],(ahj ht).symm,by simp⟩
  | false =>
   rcases Lq he hk l es (i+1) (by simpa using hl) (fun j e' p' g1 g2 => hes (j+1) e' p' (by simpa using g1) (by simpa using g2))with⟨g1,g2,g3⟩ | ⟨j,e',p',g1,g2,g3,g4,g5,g6⟩
   ·exact .inl ⟨by simpa using g1,by simp[hrun,Result.andThen,g2],fun v=>by simp[g3]⟩
   ·exact .inr ⟨j+1,e',p',by simpa using g1,by simpa using g2,by simpa using g3,by simp[hrun,Result.andThen,g4];omega,g5,fun v=>by simp[g6]⟩
theorem abx:∀ {x y:List TypeDesc},amQ x y=true→x=y
 | [],[],_=>rfl
 | [],_::_,h=>by simp[amQ]at h
 | _::_,[],h=>by simp[amQ]at h
 | a::x,b::y,h=>by
  simp only[amQ,gk]at h
  rw[Q8 h.1,abx h.2]
theorem asV:∀ {xs:List X} {ks:List Value} {vs:List Value},scL xs=some ks→Pt (RepX φ) vs xs→vs=ks
 | [],ks,vs,h,hp=>by
  simp only[scL]at h;cases h
  exact fk (by have:=hp.1;simpa using this)
 | x::xs,ks,vs,h,hp=>by
  cases vs with
  | nil=>have:=hp.1;simp at this
  | cons v vs =>
   cases x<;>simp only[scL,reduceCtorEq]at h
   obtain⟨r,hr,rfl⟩:=aw.1 h
   have h0:=hp.2 0 v _ rfl rfl
   cases h0
   have h1:=asV (vs:=vs) hr ⟨by have:=hp.1;simpa using this,fun j u z hu hz=>hp.2 (j+1) u z (by simpa using hu) (by simpa using hz)⟩
   rw[h1]
theorem Yx{sh:List TypeDesc}{x:V}{key:List Value}{v:Value}(h:aMx sh x=some key)(hx:RepV φ v x):v = .agg key.toArray∧fits sh key=true:=by
 unfold aMx at h
 split at h
 ·obtain⟨vs,h1,h2⟩:=ak.1 h
  rw[b9]at h2
  obtain⟨h2,h3⟩:=h2
  cases h3
  obtain⟨cs,rfl,hp⟩:=hx
  have:=asV h1 hp
  rw[←this]
  exact⟨by simp,by rw[this];exact h2⟩
 ·simp at h
theorem aoq(R:Rel w0 φ (eK h2 s) w)(hi:Inv g s)(he:EnvR φ a Γ){o:Oper}{t k e:TypeId}{sh:List TypeDesc}(ht:P.underlying t=some (.map k e))(hk:BY P k=some sh){i:TypeInfo}{zv:Value}{z:V}(hti:P.info? e=some i)(hz:i.zero=some zv)(hc:DK zv=some z)
  {x j:Operand} {x' j':Opd} (hx:bX x=some x') (hj:bX j=some j') {ok:Bool} {v:V} {r:Nat} (hm:fX (evE Γ) s (.wlook sh z ok x' j')=some (v,s',r)) (hr:∀n,r.testBit n=true→h2 n=g n) :
  MemR P w0 φ h2 g w (do pure (.value (←Instr.lookup t (a.eval x) (a.eval j) ok))) v s':=by
 have hzs:RepS φ zv z:=by
  have hzr:RepV φ zv z:=u5 hc
  unfold DK at hc
  split at hc
  ·obtain⟨_,_,rfl⟩:=aw.1 hc;exact hzr
  ·obtain⟨_,_,rfl⟩:=aw.1 hc;exact hzr
 have hzrun:∀w:World,(zeroValue e).run P w = .ok zv w:=fun w=>by simp[zeroValue,typeInfo,hti,hz]
 simp only[fX,ak]at hm
 obtain⟨key,hkey,hm⟩:=hm
 obtain⟨hjv,hkey⟩:=Yx hkey (aX he hj)
 rw[hjv]
 have hck:∀em,(Instr.checkKey em 10000 k (.agg key.toArray)).run P w = .ok () w:=C3 hk hkey
 split at hm
 ·rename_i heq
  cases hm
  have hv:=d0 (heq▸aX he hx)
  rw[hv]
  have hfa:(Instr.findKey k (.agg key.toArray) []).run P w = .ok none w:=by rw[Fz hk];simp[Instr.findAsking]
  cases ok
  ·refine MemR.of (v:=zv) (w':=w) (φ':=φ) ?_ (Ren.le_refl φ) R hi (G2 hzs)
   simp[Instr.lookup,run_underlying ht,hck,hfa,hzrun,Result.andThen]
  ·refine MemR.of (v:=.tuple #[zv,.bool false]) (w':=w) (φ':=φ) ?_ (Ren.le_refl φ) R hi (Gj hzs (RepX.sc _ rfl))
   simp[Instr.lookup,run_underlying ht,hck,hfa,hzrun,Result.andThen]
 ·rename_i m heq
  simp only[ak]at hm
  obtain⟨p,hg,hm⟩:=hm
  rw[b9]at hm
  obtain⟨hkd,hm⟩:=hm
  cases hm
  have hkd:=abx hkd
  subst hkd
  obtain⟨b,β,lim,hφ,hv⟩:=FK (heq▸aX he hx)
  rw[hv]
  obtain⟨b',es',clock,g1,hh,hsz,hes⟩:=R.rep m _ ((f7 hi (hr m (eJ m))).trans (U8 hg))
  rw[hφ]at g1;cases g1
  rcases Lq (w:=w) (Y5 hk) hkey es'.toList p.2 0 (by simpa using hsz) (fun j e p g1 g2=>by
    obtain⟨h1,h2,_⟩:=hes j e p (by simpa using g1) g2
    exact⟨h1,h2⟩)with⟨g1,g2,_⟩ | ⟨j,e',p',g1,g2,g3,g4,g5,_⟩
  ·rw[g1]
   rw[←Fz hk]at g2
   cases ok
   ·refine MemR.of (v:=zv) (w':=w) (φ':=φ) ?_ (Ren.le_refl φ) R hi (G2 hzs)
    simp[Instr.lookup,run_underlying ht,MapKept.run_getObj_map hh,hck,g2,hzrun,Result.andThen]
   ·refine MemR.of (v:=.tuple #[zv,.bool false]) (w':=w) (φ':=φ) ?_ (Ren.le_refl φ) R hi (Gj hzs (RepX.sc _ rfl))
    simp[Instr.lookup,run_underlying ht,MapKept.run_getObj_map hh,hck,g2,hzrun,Result.andThen]
  ·rw[g3]
   rw[←Fz hk]at g4
   obtain⟨_,_,hrep⟩:=hes j e' p' (by simpa using g1) g2
   cases ok
   ·refine MemR.of (v:=e'.val) (w':=w) (φ':=φ) ?_ (Ren.le_refl φ) R hi (G2 hrep)
    simp[Instr.lookup,run_underlying ht,MapKept.run_getObj_map hh,hck,g4,Result.andThen]
   ·refine MemR.of (v:=.tuple #[e'.val,.bool true]) (w':=w) (φ':=φ) ?_ (Ren.le_refl φ) R hi (Gj hrep (RepX.sc _ rfl))
    simp[Instr.lookup,run_underlying ht,MapKept.run_getObj_map hh,hck,g4,Result.andThen]
 ·simp at hm
theorem Yq(R:Rel w0 φ (eK h2 s) w)(hi:Inv g s)(he:EnvR φ a Γ){t k e:TypeId}{sh:List TypeDesc}(ht:P.underlying t=some (.map k e))(hk:BY P k=some sh){x j u:Operand}{x' j' u':Opd}(hx:bX x=some x')(hj:bX j=some j')(hu:bX u=some u')
  {v:V} {r:Nat} (hm:fX (evE Γ) s (.wupd sh x' j' u')=some (v,s',r)) (hr:∀n,r.testBit n=true→h2 n=g n) :
  ∃w',(Instr.mapUpdate t (a.eval x) (a.eval j) (a.eval u)).run P w = .ok () w'∧Rel w0 φ (eK h2 s') w'∧Inv g s'∧v = .junk:=by
 simp only[fX,ak]at hm
 obtain⟨key,hkey,hm⟩:=hm
 obtain⟨hjv,hkey⟩:=Yx hkey (aX he hj)
 rw[hjv]
 have hck:∀em,(Instr.checkKey em 10000 k (.agg key.toArray)).run P w = .ok () w:=C3 hk hkey
 split at hm
 ·rename_i m heq
  simp only[ak]at hm
  obtain⟨p,hg,hm⟩:=hm
  rw[b9]at hm
  obtain⟨hcnd,hm⟩:=hm
  simp only[gk]at hcnd
  obtain⟨hkd,hpl⟩:=hcnd
  simp only[aw]at hm
  obtain⟨s1,hput,hm⟩:=hm
  cases hm
  have hkd:=abx hkd
  subst hkd
  have hrm:h2 m=g m:=hr m (eJ m)
  have bY:=(f7 hi hrm).trans (U8 hg)
  obtain⟨b,β,lim,hφ,hv⟩:=FK (heq▸aX he hx)
  have hxs:=F3 hpl (aX he hu)
  rw[hv]
  obtain⟨b',es',clock,g1,hh,hsz,hes⟩:=R.rep m _ bY
  rw[hφ]at g1;cases g1
  have fin:∀(es2:Array MapEntry) (c2:Nat),(Instr.mapUpdate t (.map (some b)) (.agg key.toArray) (a.eval u)).run P w = .ok () {w with heap:=w.heap.setIfInBounds b (.map es2 c2)} →
    es2.size=(S0 key (evE Γ u') p.2).length→(∀(i:Nat) e q,es2[i]? = some e→(S0 key (evE Γ u') p.2)[i]? = some q→e.key = .agg q.1.toArray∧fits p.1 q.1=true∧RepS φ e.val q.2) →
    ∃w',(Instr.mapUpdate t (.map (some b)) (.agg key.toArray) (a.eval u)).run P w = .ok () w'∧Rel w0 φ (eK h2 s') w'∧Inv g s'∧V.junk = .junk:=by
   intro es2 c2 hrun hs2 he2
   refine⟨_,hrun,?_,oX hput hi,rfl⟩
   rw[tK hput]
   have hlt:=(pw.1 hh).1
   refine R.put bY rfl ⟨rfl,rfl,rfl,by simp,fun b' hb' hn=>?_⟩ ⟨b,es2,c2,hφ,by simp[Array.getElem?_setIfInBounds,hlt],hs2,he2⟩ (fun q m' size seen hq e _=>?_) (fun _ _ _ h=>by simp at h)
   ·have : ¬b=b':=fun e=>hn (e▸⟨_,_,hφ⟩)
    simp[Array.getElem?_setIfInBounds,this]
   ·obtain⟨kd',es'',hm'⟩:=R.iters q m' size seen hq
    subst e
    rw[bY]at hm';simp at hm'
  rcases Lq (w:=w) (Y5 hk) hkey es'.toList p.2 0 (by simpa using hsz) (fun j e p g1 g2=>by
    obtain⟨h1,h2,_⟩:=hes j e p (by simpa using g1) g2
    exact⟨h1,h2⟩)with⟨g1,g2,g3⟩ | ⟨j,e',p',g1,g2,g3,g4,g5,g6⟩
  ·rw[←Fz hk]at g2
   refine fin (es'.push ⟨.agg key.toArray,a.eval u,clock⟩) (clock+1) ?_ (by rw[g3];simp[hsz]) fun i e q q1 q2=>?_
   ·simp[Instr.mapUpdate,run_underlying ht,MapKept.run_getObj_map hh,hck,g2,MapKept.run_setObj_map _ hh,Result.andThen]
   ·rw[g3]at q2
    rw[Array.getElem?_push]at q1
    split at q1
    ·rename_i hi
     cases q1
     rw[List.getElem?_append_right (by omega)]at q2
     have:i-p.2.length=0:=by omega
     rw[this]at q2
     simp at q2
     subst q2
     exact⟨rfl,hkey,hxs⟩
    ·have hlt:i<es'.size:=(pw.1 q1).1
     rw[lw (by omega)]at q2
     exact hes i e q q1 q2
  ·have hj:es'[j]? = some e':=by simpa using g1
   rw[←Fz hk]at g4
   have hek:e'.key = .agg key.toArray:=by rw[←g5];exact(hes j e' p' hj g2).1
   refine fin (es'.modify j fun e'=>{e' with key:=.agg key.toArray,val:=a.eval u}) clock ?_ (by rw[g6];simp[hsz]) fun i e q q1 q2=>?_
   ·simp[Instr.mapUpdate,run_underlying ht,MapKept.run_getObj_map hh,hck,g4,hj,hek,ayK hkey,MapKept.run_setObj_map _ hh,Result.andThen]
   ·rw[g6]at q2
    rw[Array.getElem?_modify]at q1
    rw[kw]at q2
    by_cases eij:j=i
    ·subst eij
     simp only[if_true,hj,qw,ek]at q1
     have hlt:j<p.2.length:=(bw.1 g2).1
     simp only[if_true,hlt,ek]at q2
     subst q1;subst q2
     exact⟨rfl,hkey,hxs⟩
    ·simp only[eij,sk]at q1 q2
     exact hes i e q q1 q2
 ·simp at hm
end
end Go.RM
namespace Go.RM
open Go.VM (Pt Fr c6 gX)
open Go.ChangeMaps (setBlock)
section
variable {P:Program} {w0:World} {φ:Ren} {g h2:Hp} {s s':S} {Γ:Nat→V} {a:Act} {w:World}
theorem Vz{d m size:Nat}{seen:List Nat}{es:List (Value×V)}:∀ {l:List Nat} {L:List (V×S)},NQ s d m size seen es l=some L→∀i∈l,seen.contains i=false →
  ∃p s',es[i]? = some p∧put s d (.iter m size (seen++[i]))=some s'∧(.tup [bV true,scV p.1,p.2],s')∈L
 | [],L,_,i,hi,_=>by simp at hi
 | j::l,L,h,i,hi,hs=>by
  simp only[NQ]at h
  cases hj:seen.contains j with
  | true =>
   simp only[hj,cond_true]at h
   rcases List.mem_cons.1 hi with rfl | hi
   ·rw[hj]at hs;simp at hs
   ·exact Vz h i hi hs
  | false =>
   simp only[hj,cond_false]at h
   cases hp:es[j]? with
   | none=>simp[hp]at h
   | some p =>
    simp only[hp,ak,aw]at h
    obtain⟨s1,hput,L1,hL,rfl⟩:=h
    rcases List.mem_cons.1 hi with rfl | hi
    ·exact⟨p,s1,hp,hput,zk⟩
    ·obtain⟨p',s2,q1,q2,q3⟩:=Vz hL i hi hs
     exact⟨p',s2,q1,q2,Aw _ q3⟩
theorem akW{d m size:Nat}{seen:List Nat}{es:List (Value×V)}:∀ {l:List Nat},(∀i∈l,seen.contains i=true)→NQ s d m size seen es l=some []
 | [],_=>rfl
 | j::l,h=>by
  simp only[NQ,h j zk,cond_true]
  exact akW fun i hi=>h i (Aw _ hi)
theorem aBJ(R:Rel w0 φ (eK h2 s) w)(hi:Inv g s)(he:EnvR φ a Γ){x:Operand}{x':Opd}(hx:bX x=some x'){outs:List (V×S)}{r:Nat}(hm:aoV s (evE Γ x')=some (outs,r))(hr:∀n,r.testBit n=true→h2 n=g n)(ty:TypeId) :
  ∃v w',(Instr.next (a.eval x) false ty).run P w = .ok v w'∧∃p∈outs,Rel w0 φ (eK h2 p.2) w'∧Inv g p.2∧RepV φ v p.1:=by
 have hover:RepV φ (.tuple #[.bool false]) (.tup [bV false]):=⟨#[.bool false],rfl,Go.VM.Pt.cons (RepX.sc _ rfl) Go.VM.Pt.nil⟩
 unfold aoV at hm
 split at hm
 ·rename_i d heq
  split at hm
  ·rename_i hd
   cases hm
   obtain⟨b,f1,f2⟩:=R.rep d _ ((f7 hi (hr d (eJ d))).trans hd)
   have hv:=aPV (heq▸aX he hx) f1
   rw[hv]
   refine⟨_,w,?_,_,fw.2 rfl,R,hi,hover⟩
   simp only[Instr.next,getObj,Sem.run_bind,Sem.run,f2,Result.andThen]
   rfl
  ·rename_i m size seen hd
   split at hm
   ·rename_i kd rg es hme
    cases hlen:Nat.beq es.length size with
    | false=>simp[hlen]at hm
    | true =>
     simp only[hlen,cond_true]at hm
     have hlen:=oz hlen
     cases hL:NQ s d m size seen es (List.range size)with
     | none=>simp[hL]at hm
     | some L =>
      have hrr:r=Nat.lor (bit d) (bit m):=by
       rw[hL]at hm
       cases L<;>(cases hm;rfl)
      subst hrr
      have hd':=(f7 hi (hr d (DX (eJ d)))).trans hd
      have hm':=(f7 hi (hr m (G6 (eJ m)))).trans hme
      obtain⟨b,bm,β,lim,last,es0,f1,f2,f3,f4,f5⟩:=R.rep d _ hd'
      obtain⟨b',es',clock,g1,hh,hcl,hsz,hes⟩:=R.rep m _ hm'
      rw[f2]at g1;cases g1
      rw[hh]at f5;cases f5
      subst f4
      have hborn:∀(i:Nat) e,es0[i]? = some e→e.born=i:=fun i e h=>by
       have hlt2:i<es.length:=by have:=(pw.1 h).1;omega
       exact(hes i e es[i] h (cw hlt2)).2.2.1
      have hv:=aPV (heq▸aX he hx) f1
      rw[hv]
      have hold:∀x∈es0.toList,x.born<last:=fun e h=>by
       obtain⟨i,hi⟩:=List.getElem?_of_mem h
       rw[Array.getElem?_toList]at hi
       have:=(pw.1 hi).1
       rw[hborn i e hi];omega
      rcases run_next_at (P := P) w ty b bm last last seen.toArray es0 last f3 hh hold (mw _)with⟨h0,hrun⟩ | ⟨e,hmem,w1,hw1,hrun⟩
      ·have hall:∀i∈List.range last,seen.contains i=true:=by
        intro i hil
        have hil:=List.mem_range.1 hil
        have hi0:i<es0.size:=by omega
        have bY:es0[i]? = some es0[i]:=Array.getElem?_eq_getElem hi0
        have hb:=hborn i _ bY
        have hemp:leftOf es0 seen.toArray = #[]:=Array.eq_empty_of_size_eq_zero h0
        unfold leftOf at hemp
        rw[Array.filter_eq_empty_iff]at hemp
        have:=hemp es0[i] (by simp)
        rw[hb]at this
        simpa using this
       have:=akW (s:=s) (d:=d) (m:=m) (size:=last) (es:=es) hall
       rw[hL]at this
       cases this
       rw[hL]at hm
       cases hm
       exact⟨_,w,hrun,_,fw.2 rfl,R,hi,hover⟩
      ·unfold leftOf at hmem
       rw[Array.toList_filter,List.mem_filter]at hmem
       obtain⟨hme0,hns⟩:=hmem
       obtain⟨i,hi0⟩:=List.getElem?_of_mem hme0
       rw[Array.getElem?_toList]at hi0
       have hil:=(pw.1 hi0).1
       have hb:=hborn i e hi0
       obtain⟨p,s1,hp,hput,hin⟩:=Vz hL i (List.mem_range.2 (by omega)) (by rw[hb]at hns;simpa using hns)
       have houts:outs=L:=by
        rw[hL]at hm
        cases L with
        | nil=>simp at hin
        | cons _ _=>cases hm;rfl
       obtain⟨k1,k2,k3,k4⟩:=hes i e p hi0 hp
       have hkey:p.1.oneCell'=true:=by cases kd<;>cases hpk:p.1<;>simp[hpk,Go.VM.keyOf]at k2<;>rfl
       refine⟨_,_,hrun,_,houts▸hin,?_,oX hput hi,?_⟩
       ·rw[tK hput]
        have hmd:m≠d:=fun e=>by rw[e,hd']at hm';simp at hm'
        refine R.put hd' rfl ?_ ⟨b,bm,0,0,last,es0,f1,f2,?_,rfl,?_⟩ (fun q m' size' seen' hq e _=>?_) (fun m' size' seen' h=>?_)
        ·have:=Qq w w1 hw1 b (.mapIter (some bm) last (seen.toArray.push e.born) last)
         exact⟨this.os,this.tape,this.output,this.size,fun b' hb' hn=>this.block b' hb' fun e=>hn (e▸⟨_,_,f1⟩)⟩
        ·rw[abj w w1 hw1 f3,hb];simp
        ·have hne : ¬bm=b:=fun e=>by rw[e,f3]at hh;simp at hh
         rw[(Qq w w1 hw1 b (.mapIter (some bm) last (seen.toArray.push e.born) last)).block bm ((pw.1 hh).1) hne]
         exact hh
        ·obtain⟨kd',es'',hm''⟩:=R.iters q m' size' seen' hq
         subst e
         rw[hd']at hm'';simp at hm''
        ·cases h
         obtain⟨kd',es'',hm''⟩:=R.iters d m last seen hd'
         exact⟨hmd,kd',es'',hm''⟩
       ·rw[k1]
        exact azQ (RepX.sc _ rfl) (RepX.sc _ hkey) k4
   ·simp at hm
  ·simp at hm
 ·simp at hm
set_option maxHeartbeats 2000000 in
theorem awJ(R:Rel w0 φ (eK h2 s) w)(hi:Inv g s)(he:EnvR φ a Γ){o:Oper}{ro:RO}(hc:cRO P o=some ro){v:V}{r:Nat}(hm:fX (evE Γ) s ro=some (v,s',r))(hr:∀n,r.testBit n=true→h2 n=g n) :
  MemR P w0 φ h2 g w (execOp a.eval o) v s':=by
 cases hop:o.op
 case load t x =>
  simp only[cRO,hop,Hq,ak,aw]at hc
  obtain⟨⟨d,i⟩,⟨d',hd,i',hti,hee⟩,x',hx',hc⟩:=hc
  cases hee
  simp only at hc
  have key:∀n,n=(if c6 d then i.size else 1)→fX (evE Γ) s (.load n (c6 d) x')=some (v,s',r)→MemR P w0 φ h2 g w (execOp a.eval o) v s':=by
   intro n hn hm
   simp only[fX]at hm
   split at hm
   ·rename_i m off heq
    simp only[ak,aw]at hm
    obtain⟨p,hg,cs,hcut,hm⟩:=hm
    cases hm
    simp only[execOp,hop]
    exact axj R hi he hd hti hx' hn heq hg hcut (hr m (eJ m))
   ·rename_i cs heq
    rw[b9]at hm
    obtain⟨hle,hm⟩:=hm
    cases hm
    simp only[execOp,hop]
    exact auZ R hi he hd hti hx' hn heq (Dx hle)
   ·simp at hm
  cases hg:c6 d with
  | true=>simp only[hg,if_true,ek]at hc;subst hc;exact key i.size (by simp[hg]) (by rw[hg];exact hm)
  | false=>simp only[hg,rk,sk,ek]at hc;subst hc;exact key 1 (by simp[hg]) (by rw[hg];exact hm)
 case alloc e =>
  simp only[cRO,hop,aw]at hc
  obtain⟨z,hz,rfl⟩:=hc
  simp only[fX,aw]at hm
  obtain⟨s1,hnew,hm⟩:=hm
  cases hm
  obtain⟨i,zv,hti,hzv,hp⟩:=LJ (φ:=φ) hz
  obtain⟨hle,R',hi'⟩:=H7 R hi (arr:=zv.cells) hnew (hr _ (eJ _)) hp
  simp only[execOp,hop]
  refine MemR.of (v:=.pointer (some ⟨w.heap.size,0,none⟩)) ?_ hle R' hi' (Rq 0)
  simp[Instr.alloc,zeroValue,typeInfo,hti,hzv,newVar,newRow]
 case box e x =>
  simp only[cRO,hop,aw]at hc
  obtain⟨x',hx',rfl⟩:=hc
  simp only[fX,ak,aw]at hm
  obtain⟨cs,hcs,s1,hnew,hm⟩:=hm
  cases hm
  obtain⟨hle,R',hi'⟩:=H7 R hi (arr:=(a.eval x).cells) hnew (hr _ (eJ _)) (xV (aX he hx') hcs)
  simp only[execOp,hop]
  refine MemR.of (v:=.pointer (some ⟨w.heap.size,0,none⟩)) ?_ hle R' hi' (Rq 0)
  simp[Instr.box,newVar,newRow]
 case makeSlice t l c =>
  simp only[cRO,hop,ak]at hc
  obtain⟨d',hd',hc⟩:=hc
  cases d'<;>simp only[reduceCtorEq]at hc
  rename_i e
  simp only[ak]at hc
  obtain⟨ie,hie,z,hz,hc⟩:=hc
  split at hc
  ·rename_i hcond
   simp only[ak,aw]at hc
   obtain⟨l',hl',c',hc',rfl⟩:=hc
   simp only[fX,ak]at hm
   obtain⟨m,hm1,m',hm2,mc,hm3,mc',hm4,hm⟩:=hm
   rw[b9]at hm
   obtain⟨hcnd,hm⟩:=hm
   simp only[gk]at hcnd
   have hmc:=Dx hcnd.1
   obtain⟨r1,r2⟩:=L3 hcnd.2
   simp only[aw]at hm
   obtain⟨s1,hnew,hm⟩:=hm
   cases hm
   have e1:=vz (aX he hl') hm1
   have e2:=vz (aX he hc') hm3
   have:=u4 hm2;subst this
   have:=u4 hm4;subst this
   obtain⟨i,zv,hti,hzv,hp⟩:=LJ (φ:=φ) hz
   rw[hie]at hti;cases hti
   have hzl:zv.cells.size=ie.size:=by have:=hp.1;simp at this;omega
   have hrun:=run_make (P:=P) w t e ie zv hd' hie hzv .i64 .i64 m' mc' (by omega) (by omega) (by rw[Int.mul_comm];omega) (by omega)
   have hmade:=A6 hp mc'
   have hl1:(List.replicate m' z).flatten.length=m'*ie.size:=by
    rw[List.length_flatten,List.map_replicate,List.sum_replicate_nat,hcond.2]
   have hmul:m'*ie.size≤mc'*ie.size:=Nat.mul_le_mul_right _ hmc
   obtain⟨hle,R',hi'⟩:=O7 R hi (arr:=madeCells zv.cells (mc'*ie.size)) (w':=w.alloc (.cells (madeCells zv.cells (mc'*ie.size)) e)) hnew (hr _ (eJ _)) (mw _) (heap_alloc_new w _) (Fr.alloc w _ _) (by rw[hl1,size_madeCells];exact hmul) (fun j x hx=>by
    have hx2:(List.replicate mc' z).flatten[j]? = some x:=by
     have e:List.replicate mc' z=List.replicate m' z++List.replicate (mc' - m') z:=by rw[List.replicate_append_replicate];congr 1;omega
     rw[e,List.flatten_append,lw (by rw[hl1];have:=(bw.1 hx).1;rw[hl1]at this;exact this)]
     exact hx
    rw[hzl]at hmade
    obtain⟨v,h1,h2⟩:=LW hmade j x hx2
    exact⟨v,by simpa using h1,h2⟩)
   simp only[execOp,hop,e1,e2]
   refine MemR.of hrun hle R' hi' ?_
   rw[Int.toNat_natCast,Int.toNat_natCast]
   exact RepX.sl (φ:=φ.put s.c (w.heap.size,0,(madeCells zv.cells (mc'*ie.size)).size)) s.c ie.size 0 m' w.heap.size 0 _ 0 mc' (Ren.put_self _ _ _) hmc (fun _=>rfl) (by rw[size_madeCells];omega)
  ·simp at hc
 case buildSlice t len parts =>
  simp only[cRO,hop,ak]at hc
  obtain⟨d',hd',hc⟩:=hc
  cases d'<;>simp only[reduceCtorEq]at hc
  rename_i e
  simp only[ak]at hc
  obtain⟨ie,hie,z,hz,ps,hps,hc⟩:=hc
  split at hc
  ·rename_i hcond
   cases hc
   simp only[fX,ak,aw]at hm
   obtain⟨cs,hfill,s1,hnew,hm⟩:=hm
   cases hm
   obtain⟨i,zv,hti,hzv,hp⟩:=LJ (φ:=φ) hz
   rw[hie]at hti;cases hti
   have hzl:zv.cells.size=ie.size:=by have:=hp.1;simp at this;omega
   have hmade:=A6 hp len
   rw[hzl]at hmade
   obtain⟨cells,h1,h2'⟩:=u9 (e:=evE Γ) (ρ:=a.eval) (fun j=>some (j*ie.size,ie.size)) (fun x y hxy=>aX he hxy) parts.toList ps (madeCells zv.cells (len*ie.size)) _ cs hps hmade hfill
   have hcl:cells.size=len*ie.size:=by
    have hfl:∀(ps:List (Nat×Nat×Opd)) (cur zs:List X),fill (evE Γ) cur ps=some zs→zs.length=cur.length:=by
     intro ps
     induction ps with
     | nil=>intro cur zs h;simp[fill]at h;rw[h]
     | cons p ps ih =>
      intro cur zs h
      simp only[fill,ak]at h
      obtain⟨cs,hcs,h⟩:=h
      rw[b9]at h
      obtain⟨h1,h⟩:=h
      simp only[gk]at h1
      have a1:=oz h1.1;have a2:=Dx h1.2
      rw[ih _ _ h,tq (by omega)]
    have:=hfl _ _ _ hfill
    have h3:=h2'.1
    simp only[Array.length_toList]at h3
    rw[h3,this,List.length_flatten,List.map_replicate,List.sum_replicate_nat,hcond.2.2]
   have hmap:(parts.map fun(i,x)=>(i,a.eval x)).toList=parts.toList.map fun p=>(p.1,a.eval p.2):=by simp
   obtain⟨hle,R',hi'⟩:=H7 R hi (arr:=cells) hnew (hr _ (eJ _)) h2'
   have hs1 : ¬len*ie.size > 2 ^ 24:=by have:=hcond.2.1;omega
   simp only[execOp,hop]
   refine MemR.of (v:=.slice (some ⟨w.heap.size,0,none⟩) len len) ?_ hle R' hi' ?_
   ·by_cases hpos:len*ie.size=0
    ·have h1':Instr.fill (fun i=>some (i*ie.size,ie.size)) #[] (parts.toList.map fun p=>(p.1,a.eval p.2))=some cells:=by
      rw[←h1];congr 1;simp[madeCells,hpos]
     simp[Instr.buildSlice,run_underlying hd',sizeOf,typeInfo,hie,hpos,Array.range_zero',h1',newRow]
    ·have hh:Instr.fill (fun j=>some (j*ie.size,ie.size)) (madeCells zv.cells (len*ie.size)) (parts.map fun(i,x)=>(i,a.eval x)).toList=some cells:=by rw[hmap];exact h1
     exact run_buildSlice (P:=P) w t e len _ cells ie zv hd' hie hzv hs1 hpos hh
   ·exact RepX.sl (φ:=φ.put s.c (w.heap.size,0,cells.size)) s.c ie.size 0 len w.heap.size 0 _ 0 len (Ren.put_self _ _ _) (mw _) (fun _=>rfl) (by rw[hcl];omega)
  ·simp at hc
 case store t x v' =>
  simp only[cRO,hop,ak,aw]at hc
  obtain⟨i,hti,x',hx',u',hv',rfl⟩:=hc
  simp only[fX]at hm
  split at hm
  ·rename_i m off heq
   simp only[ak]at hm
   obtain⟨cs,hcs,p,hg,hm⟩:=hm
   rw[b9]at hm
   obtain⟨hcnd,hm⟩:=hm
   simp only[gk]at hcnd
   simp only[aw]at hm
   obtain⟨s1,hput,hm⟩:=hm
   cases hm
   obtain⟨w',hrun,R',hi'⟩:=L6 R hi he hti hx' hv' heq hcs hg (oz hcnd.1) (Dx hcnd.2) hput (hr m (eJ m))
   refine⟨.skip,undef,w',φ,?_,.inr ⟨rfl,rfl⟩,Ren.le_refl φ,R',hi',trivial⟩
   simp only[execOp,hop]
   simp[hrun]
  ·simp at hm
 case makeMap t rs =>
  cases rs with
  | some _=>simp[cRO,hop]at hc
  | none =>
   simp only[cRO,hop,ak]at hc
   obtain⟨d',hd',hc⟩:=hc
   cases d'<;>simp only[reduceCtorEq]at hc
   simp only[ak]at hc
   obtain⟨kd,hkd,hc⟩:=hc
   split at hc
   ·cases hc
    simp only[fX,aw]at hm
    obtain⟨s1,hnew,hm⟩:=hm
    cases hm
    have hcn:eK h2 s s.c=none:=(f7 hi (hr _ (eJ _))).trans (yW hnew).2
    have R':=R.new (c:=s.c) hcn (o:=.map kd false []) (b:=w.heap.size) (β:=0) (lim:=0) (w':=w.alloc (.map #[] 0)) (mw _) (by simp) (Fr.alloc w _ _) (fun _ _ _ h=>by simp at h) (fun φ' e hle=>⟨w.heap.size,#[],0,by rw[e,Ren.put_self],heap_alloc_new w _,rfl,rfl,fun i e p he=>by simp at he⟩)
    rw[←FV hnew]at R'
    simp only[execOp,hop]
    refine MemR.of (v:=.map (some w.heap.size)) ?_ (Ren.le_put _ (R.dom _ hcn)) R' (mZ hnew hi) (RepX.mp _ _ _ _ (Ren.put_self _ _ _))
    simp[Instr.makeMap]
   ·obtain⟨sh,hsh,rfl⟩:=aw.1 hc
    simp only[fX,aw]at hm
    obtain⟨s1,hnew,hm⟩:=hm
    cases hm
    have hcn:eK h2 s s.c=none:=(f7 hi (hr _ (eJ _))).trans (yW hnew).2
    have R':=R.new (c:=s.c) hcn (o:=.wmap sh []) (b:=w.heap.size) (β:=0) (lim:=0) (w':=w.alloc (.map #[] 0)) (mw _) (by simp) (Fr.alloc w _ _) (fun _ _ _ h=>by simp at h) (fun φ' e hle=>⟨w.heap.size,#[],0,by rw[e,Ren.put_self],heap_alloc_new w _,rfl,fun i e p he=>by simp at he⟩)
    rw[←FV hnew]at R'
    simp only[execOp,hop]
    refine MemR.of (v:=.map (some w.heap.size)) ?_ (Ren.le_put _ (R.dom _ hcn)) R' (mZ hnew hi) (RepX.mp _ _ _ _ (Ren.put_self _ _ _))
    simp[Instr.makeMap]
 case lookup t x i ok =>
  simp only[cRO,hop,ak]at hc
  obtain⟨d',hd',hc⟩:=hc
  cases d'<;>simp only[reduceCtorEq]at hc
  simp only[ak]at hc
  obtain⟨kd,hkd,zv,⟨inf,hinf,hzv⟩,z,hz,x',hx',i',hi',hc⟩:=hc
  simp only[execOp,hop]
  split at hc
  ·rename_i sh hsh
   cases hc
   exact aoq R hi he (o:=o) hd' hsh hinf hzv hz hx' hi' hm hr
  ·cases hc
   exact ayx R hi he (o:=o) hd' hkd hinf hzv hz hx' hi' hm hr
 case mapUpdate t x i u =>
  simp only[cRO,hop,ak]at hc
  obtain⟨d',hd',hc⟩:=hc
  cases d'<;>simp only[reduceCtorEq]at hc
  simp only[ak]at hc
  obtain⟨kd,hkd,x',hx',i',hi',u',hu',hc⟩:=hc
  split at hc
  ·rename_i sh hsh
   cases hc
   obtain⟨w',hrun,R',hi',rfl⟩:=Yq R hi he hd' hsh hx' hi' hu' hm hr
   refine⟨.skip,undef,w',φ,?_,.inr ⟨rfl,rfl⟩,Ren.le_refl φ,R',hi',trivial⟩
   simp only[execOp,hop,Sem.run_bind,hrun,Result.andThen]
   rfl
  ·cases hc
   obtain⟨w',hrun,R',hi',rfl⟩:=EJ R hi he hd' hkd hx' hi' hu' hm hr
   refine⟨.skip,undef,w',φ,?_,.inr ⟨rfl,rfl⟩,Ren.le_refl φ,R',hi',trivial⟩
   simp only[execOp,hop,Sem.run_bind,hrun,Result.andThen]
   rfl
 case insert t x i u =>
  simp only[cRO,hop,ak]at hc
  obtain⟨d',hd',hc⟩:=hc
  cases d'<;>simp only[reduceCtorEq]at hc
  simp only[ak]at hc
  obtain⟨kd,hkd,x',hx',i',hi',u',hu',hc⟩:=hc
  split at hc
  ·rename_i sh hsh
   cases hc
   obtain⟨w',hrun,R',hi',rfl⟩:=Yq R hi he hd' hsh hx' hi' hu' hm hr
   refine⟨.skip,undef,w',φ,?_,.inr ⟨rfl,rfl⟩,Ren.le_refl φ,R',hi',trivial⟩
   simp only[execOp,hop,Sem.run_bind,hrun,Result.andThen]
   rfl
  ·cases hc
   obtain⟨w',hrun,R',hi',rfl⟩:=EJ R hi he hd' hkd hx' hi' hu' hm hr
   refine⟨.skip,undef,w',φ,?_,.inr ⟨rfl,rfl⟩,Ren.le_refl φ,R',hi',trivial⟩
   simp only[execOp,hop,Sem.run_bind,hrun,Result.andThen]
   rfl
 case range t x =>
  simp only[cRO,hop,ak]at hc
  obtain⟨d',hd',hc⟩:=hc
  cases d'<;>simp only[reduceCtorEq]at hc
  simp only[aw]at hc
  obtain⟨x',hx',rfl⟩:=hc
  simp only[execOp,hop]
  exact aAV R hi he hd' hx' hm hr
 case entry it =>
  simp only[cRO,hop,aw]at hc
  obtain⟨x',hx',rfl⟩:=hc
  simp only[execOp,hop]
  exact aFX R hi he hx' hm hr
 case call c =>
  simp only[cRO,hop]at hc
  split at hc
  ·simp only[ak]at hc
   obtain⟨fn,_,hc⟩:=hc
   split at hc
   ·simp only[aw]at hc;obtain⟨_,_,rfl⟩:=hc;simp[fX]at hm
   ·split at hc
    ·split at hc
     ·simp only[ak,aw]at hc
      obtain⟨_,_,_,_,rfl⟩:=hc;simp[fX]at hm
     ·simp at hc
    ·simp at hc
  ·simp only[ak,aw]at hc
   obtain⟨_,_,_,_,rfl⟩:=hc
   simp[fX]at hm
  ·rename_i hcal
   split at hc
   ·rename_i t ht
    simp only[ak]at hc
    obtain⟨d',hd',hc⟩:=hc
    cases d'<;>simp only[reduceCtorEq]at hc
    case map k e =>
     split at hc
     ·rename_i x hargs
      simp only[aw]at hc
      obtain⟨x',hx',rfl⟩:=hc
      obtain⟨n,hrun,rfl,rfl⟩:=awZ (ty:=o.type) R hi he hd' hx' hm hr
      have hargs':c.args = #[x]:=by rw[←Ck (xs:=c.args),hargs]
      have e0:(Builtin.len_ c.argTypes o.type #[a.eval x])=Builtin.len_ #[t] o.type #[a.eval x]:=by simp[Builtin.len_,ht]
      refine⟨.value (.int .i64 n),.int .i64 n,w,φ,?_,.inl rfl,Ren.le_refl φ,R,hi,akY _⟩
      simp[execOp,hop,resolve,hcal,hargs',invoke,builtin,e0,hrun]
     ·simp at hc
    all_goals
     split at hc
     ·simp only[aw]at hc;obtain⟨_,_,rfl⟩:=hc;simp[fX]at hm
     ·simp at hc
   ·simp at hc
  ·rename_i hcal
   split at hc
   ·rename_i t ht
    simp only[ak]at hc
    obtain⟨d',hd',hc⟩:=hc
    cases d'<;>simp only[reduceCtorEq]at hc
    simp only[ak]at hc
    obtain⟨kd,hkd,hc⟩:=hc
    split at hc
    ·rename_i x i hargs
     simp only[ak,aw]at hc
     obtain⟨x',hx',i',hi',rfl⟩:=hc
     obtain⟨w',hrun,R',hi',rfl⟩:=azW (ty:=o.type) R hi he hd' hkd hx' hi' hm hr
     have hargs':c.args = #[x,i]:=by rw[←Ck (xs:=c.args),hargs]
     have e0:(Builtin.delete_ c.argTypes o.type #[a.eval x,a.eval i])=Builtin.delete_ #[t] o.type #[a.eval x,a.eval i]:=by simp[Builtin.delete_,ht]
     refine⟨.value (.tuple #[]),.tuple #[],w',φ,?_,.inl rfl,Ren.le_refl φ,R',hi',trivial⟩
     simp[execOp,hop,resolve,hcal,hargs',invoke,builtin,e0,hrun]
    ·simp at hc
   ·simp at hc
  ·rename_i hcal
   split at hc
   ·rename_i t u x0 y0 hty hargs
    simp only[ak]at hc
    obtain⟨d',ht,hc⟩:=hc
    cases d'<;>simp only[reduceCtorEq]at hc
    simp only[ak]at hc
    obtain⟨ie,hie,hc⟩:=hc
    split at hc
    ·rename_i hcond
     obtain⟨rfl,hsz⟩:=hcond
     simp only[ak,aw]at hc
     obtain⟨x',hx',y',hy',rfl⟩:=hc
     obtain⟨n,w',hrun,rfl,R',hi'⟩:=awX (ty:=o.type) R hi he ht hie hx' hy' hm hr
     have hargs':c.args = #[x0,y0]:=by rw[←Ck (xs:=c.args),hargs]
     have htys:c.argTypes = #[t,t]:=by rw[←Ck (xs:=c.argTypes),hty]
     refine⟨.value (.int .i64 n),.int .i64 n,w',φ,?_,.inl rfl,Ren.le_refl φ,R',hi',akY _⟩
     simp[execOp,hop,resolve,hcal,hargs',htys,invoke,builtin,hrun]
    ·simp at hc
   ·simp at hc
  ·simp only[aw]at hc;obtain⟨_,_,rfl⟩:=hc;simp[fX]at hm
  ·simp only[aw]at hc;obtain⟨_,_,rfl⟩:=hc;simp[fX]at hm
  ·rename_i hcal
   split at hc
   ·rename_i t u s0 x0 hty hargs
    simp only[ak]at hc
    obtain⟨d',ht,hc⟩:=hc
    cases d'<;>simp only[reduceCtorEq]at hc
    simp only[ak]at hc
    obtain⟨ie,hie,hc⟩:=hc
    split at hc
    ·rename_i hcond
     obtain⟨rfl,hsz,hz⟩:=hcond
     simp only[ak,aw]at hc
     obtain⟨sl,hs',x',hx',rfl⟩:=hc
     exact U7 R hi he hop hcal hty hargs ht hie hsz hz hs' hx' hm hr
    ·simp at hc
   ·simp at hc
  ·simp at hc
 all_goals
  exfalso
  first
   | (simp only[cRO,hop,reduceCtorEq]at hc;done)
   | skip
 case move x=>simp only[cRO,hop,aw]at hc;obtain⟨_,_,rfl⟩:=hc;simp[fX]at hm
 case assign x=>simp only[cRO,hop,aw]at hc;obtain⟨_,_,rfl⟩:=hc;simp[fX]at hm
 case nilCheck x=>simp only[cRO,hop,aw]at hc;obtain⟨_,_,rfl⟩:=hc;simp[fX]at hm
 case unOp op t x=>simp only[cRO,hop,aw]at hc;obtain⟨_,_,rfl⟩:=hc;simp[fX]at hm
 case extract x i=>simp only[cRO,hop,aw]at hc;obtain⟨_,_,rfl⟩:=hc;simp[fX]at hm
 case pick c x y =>
  simp only[cRO,hop,ak,aw]at hc
  obtain⟨_,_,_,_,_,_,rfl⟩:=hc
  simp[fX]at hm
 case build t parts =>
  simp only[cRO,hop,ak]at hc
  obtain⟨_,_,d',_,hc⟩:=hc
  cases d'<;>simp only[reduceCtorEq]at hc
  all_goals
   simp only[ak,aw]at hc
   obtain⟨_,_,_,_,rfl⟩:=hc
   simp[fX]at hm
 case fieldAddr st x f =>
  simp only[cRO,hop,ak]at hc
  obtain⟨d',_,hc⟩:=hc
  cases d'<;>simp only[reduceCtorEq]at hc
  simp only[ak]at hc
  obtain⟨_,_,_,_,hc⟩:=hc
  split at hc
  ·simp at hc
  ·simp only[aw]at hc;obtain⟨_,_,rfl⟩:=hc;simp[fX]at hm
 case field st x f =>
  simp only[cRO,hop,ak]at hc
  obtain⟨d',_,hc⟩:=hc
  cases d'<;>simp only[reduceCtorEq]at hc
  simp only[ak,aw]at hc
  obtain⟨_,_,⟨d',i⟩,_,x',_,hc⟩:=hc
  split at hc<;>(subst hc;simp[fX]at hm)
 case indexAddr t x i =>
  simp only[cRO,hop,ak]at hc
  obtain⟨d',_,hc⟩:=hc
  cases d'<;>simp only[reduceCtorEq]at hc
  all_goals
   simp only[ak,aw]at hc
   obtain⟨_,_,_,_,_,_,rfl⟩:=hc
   simp[fX]at hm
 case index t x i =>
  simp only[cRO,hop,ak]at hc
  obtain⟨d',_,hc⟩:=hc
  cases d'<;>simp only[reduceCtorEq]at hc
  case string =>
   simp only[ak,aw]at hc
   obtain⟨_,_,_,_,rfl⟩:=hc
   simp[fX]at hm
  case array n e =>
   simp only[ak,aw]at hc
   obtain⟨⟨d',ie⟩,_,_,_,_,_,hc⟩:=hc
   split at hc<;>(subst hc;simp[fX]at hm)
 case binOp op t x y yt =>
  simp only[cRO,hop,ak]at hc
  obtain⟨d',_,_,_,_,_,hc⟩:=hc
  split at hc<;>first | (cases hc;simp[fX]at hm;done) | (simp only[aw]at hc;obtain⟨_,_,rfl⟩:=hc;simp[fX]at hm;done) | simp at hc
 case convert src dst x =>
  simp only[cRO,hop,ak]at hc
  obtain⟨_,_,d',_,hc⟩:=hc
  cases d'<;>simp only[reduceCtorEq]at hc
  all_goals
   simp only[aw]at hc
   obtain⟨_,_,rfl⟩:=hc
   simp[fX]at hm
 case makeFunc fn first caps =>
  cases fn with
  | func f =>
   simp only[cRO,hop]at hc
   split at hc
   ·simp only[aw]at hc;obtain⟨_,_,rfl⟩:=hc;simp[fX]at hm
   ·simp at hc
  | _=>simp[cRO,hop]at hc
 case slice t x lo hi mx =>
  simp only[cRO,hop,ak]at hc
  obtain⟨d',_,hc⟩:=hc
  cases d'<;>simp only[reduceCtorEq]at hc
  case slice e =>
   simp only[ak]at hc
   obtain⟨_,_,_,_,_,_,_,_,_,_,hc⟩:=hc
   split at hc<;>first | (cases hc;simp[fX]at hm;done) | simp at hc
  case string =>
   split at hc
   ·simp at hc
   ·simp only[ak,aw]at hc
    obtain⟨_,_,_,_,_,_,rfl⟩:=hc
    simp[fX]at hm
 case next it isS =>
  cases isS with
  | true=>simp[cRO,hop]at hc
  | false =>
   simp only[cRO,hop,aw]at hc
   obtain⟨_,_,rfl⟩:=hc
   simp[fX]at hm
end
end Go.RM
namespace Go.RM
open Go.VM (Pt Fr)
theorem Yj{α β:Type}{f:α→Out β}:∀ {l:List α} {r0:Nat} {ys:List β} {r:Nat},wV f l r0=some (ys,r) →
  (∀n,r0.testBit n=true→r.testBit n=true)∧∀x∈l,∃zs q,f x=some (zs,q)∧(∀z∈zs,z∈ys)∧∀n,q.testBit n=true→r.testBit n=true
 | [],r0,ys,r,h=>by simp only[wV]at h;cases h;exact⟨fun _ h=>h,fun x hx=>by simp at hx⟩
 | x::l,r0,ys,r,h=>by
  simp only[wV]at h
  split at h
  ·simp at h
  ·rename_i zs q hf
   split at h
   ·simp at h
   ·rename_i us q2 he
    cases h
    obtain⟨h1,h2⟩:=Yj he
    refine⟨fun n hn=>h1 n (DX hn),fun y hy=>?_⟩
    rcases List.mem_cons.1 hy with rfl | hy
    ·exact⟨zs,q,hf,fun z hz=>ow.2 (.inl hz),fun n hn=>h1 n (G6 hn)⟩
    ·obtain⟨vs,q3,g1,g2,g3⟩:=h2 y hy
     exact⟨vs,q3,g1,fun z hz=>ow.2 (.inr (g2 z hz)),g3⟩
theorem vJ{α β:Type}{x:Out α}{f:α→Out β}{ys:List β}{r:Nat}(h:o8 x f=some (ys,r)) :
  ∃l r0,x=some (l,r0)∧(∀n,r0.testBit n=true→r.testBit n=true)∧∀a∈l,∃zs q,f a=some (zs,q)∧(∀z∈zs,z∈ys)∧∀n,q.testBit n=true→r.testBit n=true:=by
 unfold o8 at h
 split at h
 ·simp at h
 ·rename_i l r0
  obtain⟨h1,h2⟩:=Yj h
  exact⟨l,r0,rfl,h1,h2⟩
theorem Z1{α β:Type}{f:α→Out β}{C:β→Prop}:∀ {l:List α} {r0:Nat} {ys:List β} {r:Nat},wV f l r0=some (ys,r)→(∀x∈l,∀zs q,f x=some (zs,q)→∀z∈zs,C z)→∀y∈ys,C y
 | [],r0,ys,r,h,_=>by simp only[wV]at h;cases h;simp
 | x::l,r0,ys,r,h,hC=>by
  simp only[wV]at h
  split at h
  ·simp at h
  ·rename_i zs q hf
   split at h
   ·simp at h
   ·rename_i us q2 he
    cases h
    intro y hy
    rcases ow.1 hy with hy | hy
    ·exact hC x zk zs q hf y hy
    ·exact Z1 he (fun x' hx'=>hC x' (Aw _ hx')) y hy
theorem sK{α β:Type}{x:Out α}{f:α→Out β}{ys:List β}{r:Nat}{C:β→Prop}(h:o8 x f=some (ys,r))(hC:∀l r0,x=some (l,r0)→∀a∈l,∀zs q,f a=some (zs,q)→∀z∈zs,C z):∀y∈ys,C y:=by
 unfold o8 at h
 split at h
 ·simp at h
 ·rename_i l r0
  exact Z1 h (hC l r0 rfl)
section
variable {e e':Opd→V} {s:S}
theorem LZ:∀(ps:List (Nat×Nat×Opd)) (cur:List X),(∀x∈ps.map (fun p=>p.2.2),e x=e' x)→fill e cur ps=fill e' cur ps
 | [],cur,_=>rfl
 | p::ps,cur,h=>by
  simp only[fill]
  rw[h p.2.2 (by simp)]
  cases c5 (e' p.2.2)with
  | none=>rfl
  | some cs=>simp only[dk];rw[LZ ps _ (fun x hx=>h x (by simp at hx ⊢;exact .inr hx))]
theorem F2{xs:List Opd}(h:∀x∈xs,e x=e' x):xs.map e=xs.map e':=List.map_congr_left h
theorem JJ{o:Option Opd}{d:Nat}(h:∀x∈o.toList,e x=e' x):bnd e d o=bnd e' d o:=by
 cases o with
 | none=>rfl
 | some x=>simp only[bnd];rw[h x (by simp)]
theorem anj{ro:RO}(h:∀x∈ro.opds,e x=e' x):bj e ro=bj e' ro:=by
 cases ro<;>simp only[RO.opds,List.mem_cons,List.not_mem_nil,or_false,forall_eq_or_imp,forall_eq,ow]at h<;>
  first
   | rfl
   | (simp only[bj,h];done)
   | skip
 case build z ps=>simp only[bj];rw[LZ ps z h]
 case un op x=>cases op<;>simp only[bj,h]
 case mm mx args=>simp only[bj];rw[F2 h]
 case mkfn f caps=>simp only[bj];rw[F2 h]
 case sub k x lo hi =>
  obtain⟨h1,h2⟩:=h
  have a1:∀d,bnd e d lo=bnd e' d lo:=fun d=>JJ fun x hx=>h2 x (.inl hx)
  have a2:∀d,bnd e d hi=bnd e' d hi:=fun d=>JJ fun x hx=>h2 x (.inr hx)
  simp only[bj,h1,a1,a2]
 case subS x lo hi =>
  obtain⟨h1,h2⟩:=h
  have a1:∀d,bnd e d lo=bnd e' d lo:=fun d=>JJ fun x hx=>h2 x (.inl hx)
  have a2:∀d,bnd e d hi=bnd e' d hi:=fun d=>JJ fun x hx=>h2 x (.inr hx)
  simp only[bj,h1,a1,a2]
theorem awx{ro:RO}(h:∀x∈ro.opds,e x=e' x):fX e s ro=fX e' s ro:=by
 cases ro<;>simp only[RO.opds,List.mem_cons,List.not_mem_nil,or_false,forall_eq_or_imp,forall_eq,ow]at h<;>
  first
   | rfl
   | (simp only[fX,h];done)
   | skip
 case bsl e0 k len z ps=>simp only[fX];rw[LZ ps _ h]
theorem azz{call:cK}{ro:RO}(h:∀x∈ro.opds,e x=e' x):opX call e s ro=opX call e' s ro:=by
 have hp:=anj h
 have hm:=awx (s:=s) h
 cases ro<;>simp only[RO.opds,List.mem_cons,List.not_mem_nil,or_false,forall_eq_or_imp,forall_eq,ow]at h<;>
  first
   | (simp only[opX,hp,hm];done)
   | skip
 case call f args=>simp only[opX];rw[F2 h]
 case callv x args=>simp only[opX,h.1];rw[F2 h.2]
 case nxt x=>simp only[opX,h]
end
section
variable {e:Opd→V} {s s':S} {g:Hp}
theorem aKj{ro:RO}{v:V}{r:Nat}(h:fX e s ro=some (v,s',r))(hi:Inv g s):Inv g s':=by
 cases ro<;>simp only[fX,reduceCtorEq]at h
 case load n agg x =>
  split at h
  ·simp only[ak,aw]at h
   obtain⟨_,_,_,_,h⟩:=h;cases h;exact hi
  ·rw[b9]at h;obtain⟨_,h⟩:=h;cases h;exact hi
  ·simp at h
 case lenM x =>
  split at h
  ·cases h;exact hi
  ·simp only[aw]at h;obtain⟨_,_,h⟩:=h;cases h;exact hi
  ·simp at h
 case look kd z ok x i =>
  simp only[ak]at h
  obtain⟨_,_,h⟩:=h
  split at h
  ·cases h;exact hi
  ·simp only[ak]at h
   obtain⟨_,_,h⟩:=h
   rw[b9]at h;obtain⟨_,h⟩:=h;cases h;exact hi
  ·simp at h
 case alloc t z =>
  simp only[aw]at h;obtain⟨_,hn,h⟩:=h;cases h;exact mZ hn hi
 case box t x =>
  simp only[ak,aw]at h;obtain⟨_,_,_,hn,h⟩:=h;cases h;exact mZ hn hi
 case mksl =>
  simp only[ak]at h
  obtain⟨_,_,_,_,_,_,_,_,h⟩:=h
  rw[b9]at h;obtain⟨_,h⟩:=h
  simp only[aw]at h;obtain⟨_,hn,h⟩:=h;cases h;exact mZ hn hi
 case bsl =>
  simp only[ak,aw]at h;obtain⟨_,_,_,hn,h⟩:=h;cases h;exact mZ hn hi
 case store n x v =>
  split at h
  ·simp only[ak]at h
   obtain⟨_,_,_,_,h⟩:=h
   rw[b9]at h;obtain⟨_,h⟩:=h
   simp only[aw]at h;obtain⟨_,hn,h⟩:=h;cases h;exact oX hn hi
  ·simp at h
 case app t k bytes sl x =>
  simp only[ak]at h
  obtain⟨src,_,h⟩:=h
  split at h
  ·cases hb:Nat.beq src.2.1 0
   ·simp only[hb,cond_false]at h
    rw[b9]at h;obtain⟨_,h⟩:=h
    simp only[aw]at h;obtain⟨_,hn,h⟩:=h;cases h;exact mZ hn hi
   ·simp only[hb,cond_true]at h;cases h;exact hi
  ·cases hb:Nat.beq src.2.1 0
   ·simp only[hb,cond_false]at h
    rw[b9]at h;obtain⟨_,h⟩:=h
    simp only[aw]at h;obtain⟨_,hn,h⟩:=h;cases h;exact mZ hn hi
   ·simp only[hb,cond_true]at h;cases h;exact hi
  ·cases hb:Nat.beq src.2.1 0
   ·simp only[hb,cond_false]at h
    rw[b9]at h;obtain⟨_,h⟩:=h
    simp only[aw]at h;obtain⟨_,hn,h⟩:=h;cases h;exact mZ hn hi
   ·simp only[hb,cond_true]at h;cases h;exact hi
  ·simp only[ak]at h
   obtain⟨_,_,h⟩:=h
   rw[b9]at h;obtain⟨_,h⟩:=h
   simp only[ak]at h
   obtain⟨_,_,h⟩:=h
   cases hb:Nat.beq src.2.1 0
   ·simp only[hb,cond_false,ak,aw]at h
    obtain⟨_,hp,_,hn,h⟩:=h;cases h;exact mZ hn (oX hp hi)
   ·simp only[hb,cond_true]at h;cases h;exact hi
  ·simp at h
 case copy k x y =>
  split at h
  ·rename_i m k' off len _
   simp only[ak]at h
   obtain⟨src,_,h⟩:=h
   cases hb:Nat.beq (Nat.min src.2.1 len) 0
   ·simp only[hb,cond_false,ak]at h
    obtain⟨_,_,h⟩:=h
    rw[b9]at h;obtain⟨_,h⟩:=h
    simp only[aw]at h;obtain⟨_,hn,h⟩:=h;cases h;exact oX hn hi
   ·simp only[hb,cond_true]at h;cases h;exact hi
  ·simp at h
 case mkmap kd =>
  simp only[aw]at h;obtain⟨_,hn,h⟩:=h;cases h;exact mZ hn hi
 case mupd kd x i v =>
  simp only[ak]at h
  obtain⟨_,_,h⟩:=h
  split at h
  ·simp only[ak]at h
   obtain⟨_,_,h⟩:=h
   rw[b9]at h;obtain⟨_,h⟩:=h
   simp only[aw]at h;obtain⟨_,hn,h⟩:=h;cases h;exact oX hn hi
  ·simp at h
 case mdel kd x i =>
  simp only[ak]at h
  obtain⟨_,_,h⟩:=h
  split at h
  ·simp only[ak]at h
   obtain⟨_,_,h⟩:=h
   rw[b9]at h;obtain⟨_,h⟩:=h
   simp only[aw]at h;obtain⟨_,hn,h⟩:=h;cases h;exact oX hn hi
  ·simp at h
 case wmk sh =>
  simp only[aw]at h;obtain⟨_,hn,h⟩:=h;cases h;exact mZ hn hi
 case wlook sh z ok x i =>
  simp only[ak]at h
  obtain⟨_,_,h⟩:=h
  split at h
  ·cases h;exact hi
  ·simp only[ak]at h
   obtain⟨_,_,h⟩:=h
   rw[b9]at h;obtain⟨_,h⟩:=h;cases h;exact hi
  ·simp at h
 case wupd sh x i v =>
  simp only[ak]at h
  obtain⟨_,_,h⟩:=h
  split at h
  ·simp only[ak]at h
   obtain⟨_,_,h⟩:=h
   rw[b9]at h;obtain⟨_,h⟩:=h
   simp only[aw]at h;obtain⟨_,hn,h⟩:=h;cases h;exact oX hn hi
  ·simp at h
 case rng x =>
  split at h
  ·simp only[aw]at h;obtain⟨_,hn,h⟩:=h;cases h;exact mZ hn hi
  ·simp only[ak,aw]at h
   obtain⟨_,_,_,hp,_,hn,h⟩:=h;cases h;exact mZ hn (oX hp hi)
  ·simp at h
 case ent x =>
  split at h
  ·split at h
   ·split at h
    ·rw[b9]at h;obtain⟨_,h⟩:=h
     simp only[ak,aw]at h
     obtain⟨_,_,_,_,h⟩:=h;cases h;exact hi
    ·simp at h
   ·simp at h
  ·simp at h
theorem R3{d m size:Nat}{seen:List Nat}{es:List (Value×V)}(hi:Inv g s):∀ {l:List Nat} {L:List (V×S)},NQ s d m size seen es l=some L→∀p∈L,Inv g p.2
 | [],L,h=>by simp only[NQ]at h;cases h;simp
 | i::l,L,h=>by
  simp only[NQ]at h
  cases hj:seen.contains i with
  | true=>simp only[hj,cond_true]at h;exact R3 hi h
  | false =>
   simp only[hj,cond_false]at h
   split at h
   ·simp at h
   ·simp only[ak,aw]at h
    obtain⟨s1,hput,L1,hL,rfl⟩:=h
    intro p hp
    rcases List.mem_cons.1 hp with rfl | hp
    ·exact oX hput hi
    ·exact R3 hi hL p hp
theorem aCJ{x:V}{outs:List (V×S)}{r:Nat}(h:aoV s x=some (outs,r))(hi:Inv g s):∀p∈outs,Inv g p.2:=by
 unfold aoV at h
 split at h
 ·split at h
  ·cases h;simpa using hi
  ·split at h
   ·rename_i m size seen _ _ _ _ es _
    cases hlen:Nat.beq es.length size with
    | false=>simp[hlen]at h
    | true =>
     simp only[hlen,cond_true]at h
     split at h
     ·simp at h
     ·cases h;simpa using hi
     ·rename_i L hL
      cases h
      exact R3 hi hL
   ·simp at h
  ·simp at h
 ·simp at h
def sW(call:cK):Prop:=∀f args s outs r,call f args s=some (outs,r)→∀g,Inv g s→∀p∈outs,Inv g p.2
theorem aJV{call:cK}(hcall:sW call){ro:RO}{outs:List (V×S)}{r:Nat}(h:opX call e s ro=some (outs,r))(hi:Inv g s):∀p∈outs,Inv g p.2:=by
 have rest:(match bj e ro with
   | some v=>one (v,s)
   | none=>match fX e s ro with
    | some (v,s',r)=>some ([(v,s')],r)
    | none=>none)=some (outs,r)→∀p∈outs,Inv g p.2:=by
  intro h
  split at h
  ·cases h;simpa using hi
  ·split at h
   ·rename_i v s1 r1 hm
    cases h
    simpa using aKj hm hi
   ·simp at h
 cases ro
 case call f args=>exact hcall f _ s outs r h g hi
 case callv x args =>
  simp only[opX]at h
  split at h
  ·exact hcall _ _ s outs r h g hi
  ·simp at h
 case nxt x=>exact aCJ h hi
 all_goals exact rest h
theorem Jq{call:cK}(hcall:sW call){o:ROp}{Γ:Tr V}{outs:List (Tr V×S)}{r:Nat}(h:oY call o Γ s=some (outs,r))(hi:Inv g s):∀p∈outs,Inv g p.2:=by
 unfold oY at h
 split at h
 ·simp at h
 ·cases h;simpa using hi
 ·refine sK h fun l r0 hx a ha zs q hz=>?_
  cases hz
  simpa using aJV hcall hx hi a ha
end
section
variable {P:Program} {w0:World} {φ:Ren} {g h2:Hp} {s s':S} {Γ:Nat→V} {a:Act} {w:World}
def A5(P:Program)(w0:World)(call:cK):Prop :=
 ∀ f args s outs r, call f args s = some (outs, r) → (∃ fn, P.funcs[f]? = some fn ∧ fn.body.isSome = true ∧ (fn.name == "runtime.NumGoroutine") = false) ∧
  ∀g h2 φ w vs,(∀n,r.testBit n=true→h2 n=g n)→Inv g s→Rel w0 φ (eK h2 s) w→Pt (RepV φ) vs args →
   Calls P f vs.toArray w fun e w'=>∃v,e = .returned v∧∃p∈outs,∃φ',φ.le φ'∧Rel w0 φ' (eK h2 p.2) w'∧RepV φ' v p.1
def RO.plainOp:RO→Bool
 | .call .. | .callv .. | .nxt _=>false
 | _=>true
theorem FY{call:cK}{e:Opd→V}{ro:RO}(h:ro.plainOp=true):opX call e s ro=(match bj e ro with
   | some v=>one (v,s)
   | none=>match fX e s ro with
    | some (v,s',r)=>some ([(v,s')],r)
    | none=>none):=by
 cases ro<;>first | rfl | simp[RO.plainOp]at h
theorem aHY{o:Oper}{ro:RO}(hc:cRO P o=some ro):ro.plainOp=true ∨
  (∃c f fn ys,o.op = .call c∧c.callee = .value (.func f)∧P.funcs[f]? = some fn∧I2 c.args.toList=some ys∧ro = .call f ys) ∨
  (∃c x x' ys,o.op = .call c∧c.callee = .value x∧bX x=some x'∧I2 c.args.toList=some ys∧ro = .callv x' ys) ∨
  (∃it x',o.op = .next it false∧bX it=some x'∧ro = .nxt x'):=by
 cases hop:o.op
 case call c =>
  simp only[cRO,hop]at hc
  split at hc
  ·rename_i f hcal
   simp only[ak]at hc
   obtain⟨fn,hfn,hc⟩:=hc
   split at hc
   ·simp only[aw]at hc
    obtain⟨ys,hys,rfl⟩:=hc
    exact .inr (.inl ⟨c,f,fn,ys,rfl,hcal,hfn,hys,rfl⟩)
   ·split at hc
    ·split at hc
     ·simp only[ak,aw]at hc
      obtain⟨_,_,_,_,rfl⟩:=hc;exact .inl rfl
     ·simp at hc
    ·simp at hc
  ·rename_i x0 _ hcal
   simp only[ak,aw]at hc
   obtain⟨x',hx',ys,hys,rfl⟩:=hc
   exact .inr (.inr (.inl ⟨c,x0,x',ys,rfl,hcal,hx',hys,rfl⟩))
  ·split at hc
   ·simp only[ak]at hc
    obtain⟨d',hd',hc⟩:=hc
    cases d'<;>simp only[reduceCtorEq]at hc
    all_goals
     split at hc
     ·simp only[aw]at hc;obtain⟨_,_,rfl⟩:=hc;exact .inl rfl
     ·simp at hc
   ·simp at hc
  ·split at hc
   ·simp only[ak]at hc
    obtain⟨d',hd',hc⟩:=hc
    cases d'<;>simp only[reduceCtorEq]at hc
    simp only[ak]at hc
    obtain⟨_,_,hc⟩:=hc
    split at hc
    ·simp only[ak,aw]at hc
     obtain⟨_,_,_,_,rfl⟩:=hc
     exact .inl rfl
    ·simp at hc
   ·simp at hc
  ·split at hc
   ·simp only[ak]at hc
    obtain⟨d',ht,hc⟩:=hc
    cases d'<;>simp only[reduceCtorEq]at hc
    simp only[ak]at hc
    obtain⟨ie,hie,hc⟩:=hc
    split at hc
    ·simp only[ak,aw]at hc
     obtain⟨_,_,_,_,rfl⟩:=hc;exact .inl rfl
    ·simp at hc
   ·simp at hc
  ·simp only[aw]at hc;obtain⟨_,_,rfl⟩:=hc;exact .inl rfl
  ·simp only[aw]at hc;obtain⟨_,_,rfl⟩:=hc;exact .inl rfl
  ·split at hc
   ·simp only[ak]at hc
    obtain⟨d',ht,hc⟩:=hc
    cases d'<;>simp only[reduceCtorEq]at hc
    simp only[ak]at hc
    obtain⟨ie,hie,hc⟩:=hc
    split at hc
    ·simp only[ak,aw]at hc
     obtain⟨_,_,_,_,rfl⟩:=hc;exact .inl rfl
    ·simp at hc
   ·simp at hc
  ·simp at hc
 case next it isS =>
  cases isS with
  | true=>simp[cRO,hop]at hc
  | false =>
   simp only[cRO,hop,aw]at hc
   obtain⟨x',hx',rfl⟩:=hc
   exact .inr (.inr (.inr ⟨it,x',rfl,hx',rfl⟩))
 all_goals
  left
  first
   | (simp only[cRO,hop,reduceCtorEq]at hc;done)
   | (simp only[cRO,hop,aw]at hc;obtain⟨_,_,rfl⟩:=hc;rfl)
   | skip
 case load t x =>
  simp only[cRO,hop,ak]at hc
  obtain⟨⟨d',i⟩,_,x',_,hc⟩:=hc
  simp only at hc
  split at hc<;>(cases hc;rfl)
 case makeSlice t l c =>
  simp only[cRO,hop,ak]at hc
  obtain⟨d,hd,hc⟩:=hc
  cases d<;>simp only[reduceCtorEq]at hc
  simp only[ak]at hc
  obtain⟨_,_,_,_,hc⟩:=hc
  split at hc
  ·simp only[ak,aw]at hc
   obtain⟨_,_,_,_,rfl⟩:=hc
   rfl
  ·simp at hc
 case buildSlice t n ps =>
  simp only[cRO,hop,ak]at hc
  obtain⟨d,hd,hc⟩:=hc
  cases d<;>simp only[reduceCtorEq]at hc
  simp only[ak]at hc
  obtain⟨_,_,_,_,_,_,hc⟩:=hc
  split at hc
  ·cases hc;rfl
  ·simp at hc
 case store t x v =>
  simp only[cRO,hop,ak,aw]at hc
  obtain⟨_,_,_,_,_,_,rfl⟩:=hc
  rfl
 case makeMap t rs =>
  cases rs with
  | some _=>simp[cRO,hop]at hc
  | none =>
   simp only[cRO,hop,ak]at hc
   obtain⟨d,hd,hc⟩:=hc
   cases d<;>simp only[reduceCtorEq]at hc
   simp only[ak]at hc
   obtain⟨_,_,hc⟩:=hc
   split at hc
   ·cases hc;rfl
   ·obtain⟨_,_,rfl⟩:=aw.1 hc;rfl
 case lookup t x i ok =>
  simp only[cRO,hop,ak]at hc
  obtain⟨d,hd,hc⟩:=hc
  cases d<;>simp only[reduceCtorEq]at hc
  simp only[ak]at hc
  obtain⟨_,_,_,_,_,_,_,_,_,_,hc⟩:=hc
  split at hc<;>(cases hc;rfl)
 case mapUpdate t x i v =>
  simp only[cRO,hop,ak]at hc
  obtain⟨d,hd,hc⟩:=hc
  cases d<;>simp only[reduceCtorEq]at hc
  simp only[ak]at hc
  obtain⟨_,_,_,_,_,_,_,_,hc⟩:=hc
  split at hc<;>(cases hc;rfl)
 case insert t x i v =>
  simp only[cRO,hop,ak]at hc
  obtain⟨d,hd,hc⟩:=hc
  cases d<;>simp only[reduceCtorEq]at hc
  simp only[ak]at hc
  obtain⟨_,_,_,_,_,_,_,_,hc⟩:=hc
  split at hc<;>(cases hc;rfl)
 case range t x =>
  simp only[cRO,hop,ak]at hc
  obtain⟨d,hd,hc⟩:=hc
  cases d<;>simp only[reduceCtorEq]at hc
  simp only[aw]at hc
  obtain⟨_,_,rfl⟩:=hc
  rfl
 case pick c x y =>
  simp only[cRO,hop,ak,aw]at hc
  obtain⟨_,_,_,_,_,_,rfl⟩:=hc
  rfl
 case build t parts =>
  simp only[cRO,hop,ak]at hc
  obtain⟨_,_,d',_,hc⟩:=hc
  cases d'<;>simp only[reduceCtorEq]at hc
  all_goals
   simp only[ak,aw]at hc
   obtain⟨_,_,_,_,rfl⟩:=hc
   rfl
 case fieldAddr st x f =>
  simp only[cRO,hop,ak]at hc
  obtain⟨d',_,hc⟩:=hc
  cases d'<;>simp only[reduceCtorEq]at hc
  simp only[ak]at hc
  obtain⟨_,_,_,_,hc⟩:=hc
  split at hc
  ·simp at hc
  ·simp only[aw]at hc;obtain⟨_,_,rfl⟩:=hc;rfl
 case field st x f =>
  simp only[cRO,hop,ak]at hc
  obtain⟨d',_,hc⟩:=hc
  cases d'<;>simp only[reduceCtorEq]at hc
  simp only[ak,aw]at hc
  obtain⟨_,_,⟨d',i⟩,_,x',_,hc⟩:=hc
  split at hc<;>(subst hc;rfl)
 case indexAddr t x i =>
  simp only[cRO,hop,ak]at hc
  obtain⟨d',_,hc⟩:=hc
  cases d'<;>simp only[reduceCtorEq]at hc
  all_goals
   simp only[ak,aw]at hc
   obtain⟨_,_,_,_,_,_,rfl⟩:=hc
   rfl
 case index t x i =>
  simp only[cRO,hop,ak]at hc
  obtain⟨d',_,hc⟩:=hc
  cases d'<;>simp only[reduceCtorEq]at hc
  case string =>
   simp only[ak,aw]at hc
   obtain⟨_,_,_,_,rfl⟩:=hc
   rfl
  case array n e =>
   simp only[ak,aw]at hc
   obtain⟨⟨d',ie⟩,_,_,_,_,_,hc⟩:=hc
   split at hc<;>(subst hc;rfl)
 case binOp op t x y yt =>
  simp only[cRO,hop,ak]at hc
  obtain⟨d',_,_,_,_,_,hc⟩:=hc
  split at hc<;>first | (cases hc;rfl) | (simp only[aw]at hc;obtain⟨_,_,rfl⟩:=hc;rfl) | (simp at hc;done)
 case convert src dst x =>
  simp only[cRO,hop,ak]at hc
  obtain⟨_,_,d',_,hc⟩:=hc
  cases d'<;>simp only[reduceCtorEq]at hc
  all_goals
   simp only[aw]at hc
   obtain⟨_,_,rfl⟩:=hc
   rfl
 case makeFunc fn first caps =>
  cases fn with
  | func f =>
   simp only[cRO,hop]at hc
   split at hc
   ·simp only[aw]at hc;obtain⟨_,_,rfl⟩:=hc;rfl
   ·simp at hc
  | _=>simp[cRO,hop]at hc
 case slice t x lo hi mx =>
  simp only[cRO,hop,ak]at hc
  obtain⟨d',_,hc⟩:=hc
  cases d'<;>simp only[reduceCtorEq]at hc
  case slice e =>
   simp only[ak]at hc
   obtain⟨_,_,_,_,_,_,_,_,_,_,hc⟩:=hc
   split at hc<;>first | (cases hc;rfl) | (simp at hc;done)
  case string =>
   split at hc
   ·simp at hc
   ·simp only[ak,aw]at hc
    obtain⟨_,_,_,_,_,_,rfl⟩:=hc
    rfl
def FW(fr:Option Nat):Fence:={fn:=fun _=>True,depth:=none,alive:=false,round:=fr}
theorem aLQ{fr:Option Nat}{dn:Nat}{f:FuncId}{args:Array Value}{w:World}{R:Ending→World→Prop}(h:Calls P f args w R):CallsIn (FW fr) dn P f args w R:=(callsIn_wide (n:=dn)).2 h
theorem anq{fr:Option Nat}{o:Oper}{ro:RO}(hc:cRO P o=some ro):Oper.semAt (FW fr).round a.eval o=execOp a.eval o:=Oper.semAt_eq _ _ _ fun c h=>by simp[cRO,h]at hc
theorem Wj{fr:Option Nat}{dn:Nat}{o:Oper}{ro:RO}(hc:cRO P o=some ro){v:Value}{w':World}(hrun:(execOp a.eval o).run P w = .ok (.value v) w'){next:Act→World→Prop}{Q:Exit→Act→World→Prop}(h:next (a.put o.dst v) w'):o.wpIn (FW fr) dn P a w next Q:=by
 refine⟨fun _ _=>trivial,?_⟩
 rw[anq hc,hrun]
 exact h
theorem aOq{fr:Option Nat}{dn:Nat}{o:Oper}{ro:RO}(hc:cRO P o=some ro){w':World}(hrun:(execOp a.eval o).run P w = .ok .skip w'){next:Act→World→Prop}{Q:Exit→Act→World→Prop}(h:next (a.put o.dst undef) w'):o.wpIn (FW fr) dn P a w next Q:=by
 refine⟨fun _ _=>trivial,?_⟩
 rw[anq hc,hrun]
 exact h
theorem aEJ{call:cK}(hcall:A5 P w0 call)(R:Rel w0 φ (eK h2 s) w)(hi:Inv g s)(he:EnvR φ a Γ){o:Oper}{ro:RO}(hc:cRO P o=some ro){outs:List (V×S)}{r:Nat}(hx:opX call (evE Γ) s ro=some (outs,r))(hr:∀n,r.testBit n=true→h2 n=g n)
  {fr:Option Nat} {dn:Nat} {next:Act→World→Prop} {Q:Exit→Act→World→Prop} (hk:∀p∈outs,∀v φ' w',φ.le φ'→Rel w0 φ' (eK h2 p.2) w'→RepV φ' v p.1→next (a.put o.dst v) w'):o.wpIn (FW fr) dn P a w next Q:=by
 have enter:∀ {f:FuncId} {args:List V} {vs:List Value},call f args s=some (outs,r)→Pt (RepV φ) vs args→(execOp a.eval o).run P w = .ok (.enter f vs.toArray) w→o.wpIn (FW fr) dn P a w next Q:=by
  intro f args vs hcl hargs hrun
  refine⟨fun _ _=>trivial,?_⟩
  rw[anq hc,hrun,Oper.uponIn_enter]
  refine⟨fun h=>by simp[FW]at h,?_⟩
  refine CallsIn.mono (aLQ ((hcall f args s outs r hcl).2 g h2 φ w vs hr hi R hargs)) fun e w' hh=>?_
  obtain⟨v,rfl,p,hp,φ',hle,R',hrep⟩:=hh
  exact hk p hp v φ' w' hle R' hrep
 rcases aHY hc with hpl | ⟨c,f,fn,ys,hop,hcal,hfn,hys,rfl⟩ | ⟨c,x,x',ys,hop,hcal,hx',hys,rfl⟩ | ⟨it,x',hop,hx',rfl⟩
 ·rw[FY hpl]at hx
  split at hx
  ·rename_i v hp
   cases hx
   obtain⟨v',hrun,hrep⟩:=anJ (P:=P) (w:=w) he hc hp
   refine Wj hc hrun ?_
   exact hk _ (fw.2 rfl) v' φ w (Ren.le_refl φ) R hrep
  ·split at hx
   ·rename_i v s1 r1 hm
    cases hx
    obtain⟨nx,v',w',φ',hrun,hnx,hle,R',hi',hrep⟩:=awJ R hi he hc hm hr
    rcases hnx with rfl | ⟨rfl,rfl⟩
    ·refine Wj hc hrun ?_
     exact hk _ (fw.2 rfl) v' φ' w' hle R' hrep
    ·refine aOq hc hrun ?_
     exact hk _ (fw.2 rfl) undef φ' w' hle R' hrep
   ·simp at hx
 ·obtain⟨fn',hfn',hb,hnm⟩:=(hcall _ _ _ _ _ hx).1
  have hnone : ¬fn'.body=none:=by intro hx;rw[hx]at hb;simp at hb
  have hnm' : ¬ fn'.name = "runtime.NumGoroutine" := by simpa using hnm
  refine enter (vs:=c.args.toList.map a.eval) hx (E2 he _ _ hys) ?_
  simp[execOp,hop,resolve,hcal,Act.eval,Deferred.ofValue,invoke,callFunc,hfn',hnm',hnone]
  rw[←Array.toList_map,Ck]
 ·simp only[opX]at hx
  split at hx
  ·rename_i f caps heq
   obtain⟨fn,hfn,hb,hnm⟩:=(hcall _ _ _ _ _ hx).1
   have hr':=aX he hx'
   rw[heq]at hr'
   generalize hval:a.eval x=u at hr'
   have hr'':RepX φ u (.fn f caps):=hr'
   cases hr'' with
   | fn _ cs _ hcl hcp =>
    have hargs:Pt (RepV φ) (c.args.toList.map a.eval++cs) (ys.map (evE Γ)++caps.map .c):=by
     refine Go.VM.Pt.append (E2 he _ _ hys) ⟨by simp[hcl],fun j v x hv hx=>?_⟩
     rw[jw,aw]at hx
     obtain⟨y,hy,rfl⟩:=hx
     exact hcp j v y hv hy
    refine enter hx hargs ?_
    have hnone : ¬fn.body=none:=by intro hx;rw[hx]at hb;simp at hb
    have hnm' : ¬ fn.name = "runtime.NumGoroutine" := by simpa using hnm
    simp only[execOp,hop,resolve,hcal,hval,Deferred.ofValue]
    simp[invoke,callFunc,hfn,hnm',hnone]
  ·simp at hx
 ·obtain⟨v,w',hrun,p,hp,R',hi',hrep⟩:=aBJ (P:=P) R hi he hx' hx hr o.type
  have:(execOp a.eval o).run P w = .ok (.value v) w':=by simp[execOp,hop,hrun]
  refine Wj hc this ?_
  exact hk p hp v φ w' (Ren.le_refl φ) R' hrep
end
end Go.RM
namespace Go.RM
open Go.VM (Pt Fr rest Uj)
def RK(E:Nat→V):Option (Nat×Bool)→Option Bool
 | none=>some true
 | some (t,b)=>match E t with
  | .c (.sc (.bool c))=>some (!xor c b)
  | .tup []=>some false
  | _=>none
theorem aCK(Γ:Tr V)(g:Option (Nat×Bool)):bK Γ g=RK (look Γ) g:=by cases g<;>rfl
def T1(d:Option Nat)(x:V)(E:Nat→V):Nat→V:=fun t=>if d=some t then x else E t
theorem MV(d:Option Nat)(x:V)(Γ:Tr V):look (putO d x Γ)=T1 d x (look Γ):=by
 funext t
 cases d with
 | none=>simp[putO,T1]
 | some d =>
  simp only[putO,T1,look,Tr.get_set]
  by_cases e:t=d
  ·subst e;simp
  ·have : ¬some d=some t:=fun h=>e (Option.some.inj h).symm
   simp[e,this]
theorem O5:∀(l:List Nat) (t:Nat),(K3 l).testBit t=true↔t∈l
 | [],t=>by simp[K3]
 | n::l,t=>by
  rw[K3,ij,yY,Bw,O5 l t,Dk,List.mem_cons]
theorem O9(d:Option Nat)(t:Nat):(qY d).testBit t=true↔d=some t:=by
 cases d with
 | none=>simp[qY]
 | some d=>rw[qY,yY,Dk];exact⟨fun h=>by rw[h],fun h=>(Option.some.inj h).symm⟩
structure OpC(P:Program)(n:Nat)(ops:Array Oper)(o:Oper)(ro:ROp)(m:Nat):Prop where
 dst:ro.dst=o.dst
 op:cRO P o=some ro.op
 lt:∀d,o.dst=some d→d<n
 mask:m=K3 ro.reads
 guard:∀ {φ:Ren} {a:Act} {E:Nat→V},EnvR φ a E→∀b,RK E ro.guard=some b→Region.wanted o (yielded ops a.tmps)=b
theorem R4{P:Program}{n:Nat}{ops:Array Oper}{o:Oper}{p:ROp×Nat}(hc:kq P n ops o=some p):OpC P n ops o p.1 p.2:=by
 unfold kq at hc
 by_cases hd:ZW n o.dst=true
 ·rw[if_pos hd]at hc
  have hd':∀d,o.dst=some d→d<n:=fun d he=>by rw[he]at hd;exact aqV hd
  simp only[ak]at hc
  obtain⟨op,hop,hc⟩:=hc
  cases hg:o.guard with
  | none =>
   simp only[hg,ek]at hc
   subst hc
   exact⟨rfl,hop,hd',rfl,fun _ b hw=>by cases hw;simp[Region.wanted,hg]⟩
  | some jb =>
   obtain⟨j,b⟩:=jb
   simp only[hg,aw]at hc
   obtain⟨t,ht,rfl⟩:=hc
   refine⟨rfl,hop,hd',rfl,fun {φ a E} he b' hw=>?_⟩
   have hs:=he t
   simp only[RK]at hw
   split at hw
   ·rename_i c heq
    cases hw
    rw[heq]at hs
    have hv:=d0 hs
    have hlt:t<a.tmps.size:=by
     by_cases hlt:t<a.tmps.size
     ·exact hlt
     ·simp only[Array.getD,hlt,dif_neg,not_false_eq_true]at hv
      simp[undef]at hv
    have bY:a.tmps[t]? = some (.bool c):=by
     rw[Array.getElem?_eq_getElem hlt]
     simpa[Array.getD,hlt]using hv
    have hy:yielded ops a.tmps j=some c:=by simp[yielded,ht,bY]
    cases c<;>cases b<;>simp[Region.wanted,hg,hy]
   ·rename_i heq
    cases hw
    rw[heq]at hs
    obtain⟨vs,hv,hp⟩:=hs
    have hvs:vs = #[]:=by
     have:=hp.1
     simp at this
     exact this
    subst hvs
    have hy:yielded ops a.tmps j=none:=by
     simp only[yielded,ht]
     by_cases hlt:t<a.tmps.size
     ·have bY:a.tmps[t]? = some (.tuple #[]):=by
       rw[Array.getElem?_eq_getElem hlt]
       simpa[Array.getD,hlt]using hv
      simp[bY]
     ·simp[hlt]
    simp[Region.wanted,hg,hy]
   ·simp at hw
 ·rw[if_neg hd]at hc;simp at hc
section
variable {P:Program} {w0:World} {φ:Ren} {g h2:Hp} {s s':S} {a:Act} {w:World} {call:cK}
theorem EnvR.mono{φ':Ren}{E:Nat→V}(h:EnvR φ a E)(hle:φ.le φ'):EnvR φ' a E:=fun t=>(h t).mono hle
theorem EnvR.put{E:Nat→V}(h:EnvR φ a E){d:Option Nat}{v:Value}{x:V}(hx:RepV φ v x)(hd:∀t,d=some t→t<a.tmps.size):EnvR φ (a.put d v) (T1 d x E):=by
 intro t
 cases d with
 | none=>simpa[Act.put,T1]using h t
 | some d =>
  rw[Go.VM.getD_put a d t v (hd d rfl)]
  unfold T1
  by_cases e:d=t
  ·subst e;simpa using hx
  ·have : ¬some d=some t:=fun h=>e (Option.some.inj h)
   simpa[e,this]using h t
theorem M7(a:Act)(d:Option Nat)(v:Value):(a.put d v).tmps.size=a.tmps.size∧(a.put d v).defers=a.defers:=by
 cases d<;>simp[Act.put]
theorem apZ{o:ROp}{Γ:Tr V}{outs:List (Tr V×S)}{r:Nat}(h:oY call o Γ s=some (outs,r)):∀p∈outs,∃x,p.1=putO o.dst x Γ:=by
 unfold oY at h
 split at h
 ·simp at h
 ·cases h;intro p hp;rw[fw.1 hp];exact⟨_,rfl⟩
 ·exact sK h fun l r0 _ q _ zs q' hf z hz=>by cases hf;rw[fw.1 hz];exact⟨_,rfl⟩
theorem B8(hcall:A5 P w0 call)(R:Rel w0 φ (eK h2 s) w)(hi:Inv g s){E:Nat→V}(he:EnvR φ a E){n:Nat}{ops:Array Oper}{o:Oper}{ro:ROp}{m:Nat}(hc:OpC P n ops o ro m)
  {Γ:Tr V} (hag:∀t,m.testBit t=true→E t=look Γ t) {outs:List (Tr V×S)} {r:Nat} (hx:oY call ro Γ s=some (outs,r)) (hr:∀n,r.testBit n=true→h2 n=g n)
  {fr:Option Nat} {dn:Nat} {next:Act→World→Prop} {Q:Exit→Act→World→Prop} (hk:∀p∈outs,∀x v φ' w',p.1=putO ro.dst x Γ→φ.le φ'→Rel w0 φ' (eK h2 p.2) w'→RepV φ' v x→next (a.put o.dst v) w') :
  (Region.wanted o (yielded ops a.tmps)=true∧o.wpIn (FW fr) dn P a w next Q)∨(Region.wanted o (yielded ops a.tmps)=false∧next (a.put o.dst undef) w):=by
 have hg:RK E ro.guard=bK Γ ro.guard:=by
  rw[aCK]
  cases hgd:ro.guard with
  | none=>rfl
  | some tb =>
   obtain⟨t,b⟩:=tb
   simp only[RK]
   rw[hag t (by rw[hc.mask,O5];simp[ROp.reads,hgd])]
 have hops:∀x∈ro.op.opds,evE E x=ev Γ x:=by
  intro x hx
  cases x with
  | tmp t=>exact hag t (by rw[hc.mask,O5];simp only[ROp.reads,G0,ow,List.mem_filterMap];exact .inl ⟨_,hx,rfl⟩)
  | con _=>rfl
  | fn _=>rfl
 unfold oY at hx
 split at hx
 ·simp at hx
 ·rename_i hw
  cases hx
  right
  refine⟨hc.guard he false (by rw[hg,hw]),hk _ (fw.2 rfl) B1 undef φ w rfl (Ren.le_refl φ) R ⟨#[],rfl,Go.VM.Pt.nil⟩⟩
 ·rename_i hw
  left
  refine⟨hc.guard he true (by rw[hg,hw]),?_⟩
  obtain⟨l,r0,hl,h1,h2'⟩:=vJ hx
  rw[←azz (call:=call) (s:=s) hops]at hl
  refine aEJ hcall R hi he hc.op hl (fun n hn=>hr n (h1 n hn)) fun p hp v φ' w' hle R' hrep=>?_
  obtain⟨zs,q,hz,hzs,_⟩:=h2' p hp
  cases hz
  exact hk _ (hzs _ (fw.2 rfl)) p.1 v φ' w' rfl hle R' hrep
def StR(ds:List Deferred)(w0:World)(n:Nat)(g h2:Hp)(φ0:Ren)(E:Nat→V)(s:S)(a:Act)(w:World):Prop :=
 ∃φ,φ0.le φ∧EnvR φ a E∧Rel w0 φ (eK h2 s) w∧Inv g s∧a.defers=ds∧n≤a.tmps.size
theorem X8(hcall:A5 P w0 call)(hinv:sW call){fr:Option Nat}{dn:Nat}{ds:List Deferred}{n:Nat}{φ0:Ren}{ops:Array Oper}{Q:Exit→Act→World→Prop}:∀(l:List Oper) (vl:List (ROp×Nat)) (Γ:Tr V) (s:S) (a:Act) (w:World) (outs:List (Tr V×S)) (r:Nat),l.mapM (kq P n ops)=some vl →
  J7 call vl Γ s=some (outs,r)→(∀n,r.testBit n=true→h2 n=g n)→StR ds w0 n g h2 φ0 (look Γ) s a w→(∀p∈outs,∀a' w',StR ds w0 n g h2 φ0 (look p.1) p.2 a' w'→Q .normal a' w')→wpListIn (FW fr) dn P ops Q l a w
 | [],vl,Γ,s,a,w,outs,r,hm,hx,hr,st,hk=>by
  simp at hm;subst hm
  simp only[J7]at hx
  cases hx
  exact hk _ (fw.2 rfl) _ _ st
 | o::l,vl,Γ,s,a,w,outs,r,hm,hx,hr,st,hk=>by
  simp only[List.mapM_cons,Option.bind_eq_bind,Option.pure_def]at hm
  cases hv:kq P n ops o with
  | none=>simp[hv]at hm
  | some vo =>
   cases hrr:l.mapM (kq P n ops)with
   | none=>simp[hv,hrr]at hm
   | some vr =>
    simp[hv,hrr]at hm
    subst hm
    obtain⟨φ,hle0,he,R,hi,hd,hs⟩:=st
    have hc:=R4 hv
    simp only[J7]at hx
    obtain⟨l1,r1,hl1,hr1,hmem⟩:=vJ hx
    have hnext:∀p∈l1,∀x v φ' w',p.1=putO vo.1.dst x Γ→φ.le φ'→Rel w0 φ' (eK h2 p.2) w'→RepV φ' v x→wpListIn (FW fr) dn P ops Q l (a.put o.dst v) w':=by
     intro p hp x v φ' w' hpx hle R' hrep
     obtain⟨zs,q,hz,hzs,hq⟩:=hmem p hp
     refine X8 hcall hinv l vr p.1 p.2 _ w' zs q hrr hz (fun n hn=>hr n (hq n hn)) ?_ (fun p' hp'=>hk p' (hzs p' hp'))
     refine⟨φ',Ren.le_trans hle0 hle,?_,R',Jq hinv hl1 hi p hp,by rw[(M7 _ _ _).2];exact hd,by rw[(M7 _ _ _).1];exact hs⟩
     rw[hpx,MV,hc.dst]
     exact(he.mono hle).put hrep fun t ht=>Nat.lt_of_lt_of_le (hc.lt t ht) hs
    rcases B8 hcall R hi he hc (fun t _ => rfl) hl1 (fun n hn => hr n (hr1 n hn)) (next := wpListIn (FW fr) dn P ops Q l) (Q := Q) hnext with⟨hw,hh⟩ | ⟨hw,hh⟩
    ·simp only[wpListIn,hw,if_true]
     exact hh
    ·simp only[wpListIn,hw,rk,sk]
     exact⟨fun _ _=>trivial,hh⟩
end
section
def C4(p:Nat→Bool):Nat→Option Nat
 | 0=>none
 | m+1=>bif p m then some m else C4 p m
theorem B6{p:Nat→Bool}:∀ {N m:Nat},C4 p N=some m→m<N∧p m=true∧∀j,m<j→j<N→p j=false
 | 0,m,h=>by simp[C4]at h
 | N+1,m,h=>by
  simp only[C4]at h
  cases hp:p N with
  | true=>simp only[hp,cond_true,ek]at h;subst h;exact⟨by omega,hp,fun j _ _=>by omega⟩
  | false =>
   simp only[hp,cond_false]at h
   obtain⟨h1,h2,h3⟩:=B6 h
   exact⟨by omega,h2,fun j hj hjN=>by
    by_cases e:j=N
    ·subst e;exact hp
    ·exact h3 j hj (by omega)⟩
theorem Gz{p:Nat→Bool}:∀ {N:Nat},C4 p N=none→∀j,j<N→p j=false
 | 0,h,j,hj=>by omega
 | N+1,h,j,hj=>by
  simp only[C4]at h
  cases hp:p N with
  | true=>simp[hp]at h
  | false =>
   simp only[hp,cond_false]at h
   by_cases e:j=N
   ·subst e;exact hp
   ·exact Gz h j (by omega)
theorem aAX{p:Nat→Bool}{N m:Nat}(h1:m<N)(h2:p m=true)(h3:∀j,m<j→j<N→p j=false):C4 p N=some m:=by
 cases h:C4 p N with
 | none=>have:=Gz h m h1;rw[h2]at this;simp at this
 | some k =>
  obtain⟨k1,k2,k3⟩:=B6 h
  rcases Nat.lt_trichotomy m k with hl | hl | hl
  ·have:=h3 k hl k1;rw[k2]at this;simp at this
  ·rw[hl]
  ·have:=k3 m hl h1;rw[h2]at this;simp at this
theorem Qx{p q:Nat→Bool}:∀ {N:Nat},(∀j,j<N→p j=q j)→C4 p N=C4 q N
 | 0,_=>rfl
 | N+1,h=>by simp only[C4];rw[h N (by omega),Qx fun j hj=>h j (by omega)]
variable {β:Type} (f:Nat→Nat→β) (Wr:Nat→Nat→Bool) (N:Nat) (base:Nat→β)
def cur(L:Nat→Bool)(n:Nat):β:=match C4 (fun m=>L m&&Wr m n) N with
 | some m=>f (m+1) n
 | none=>base n
variable {f Wr N base}
theorem O0(hst:∀k n,k<N→Wr k n=false→f (k+1) n=f k n){n:Nat}:∀(d j:Nat),j+d≤N→(∀m,j≤m→m<j+d→Wr m n=false)→f (j+d) n=f j n
 | 0,j,_,_=>rfl
 | d+1,j,hN,h=>by
  rw[←Nat.add_assoc,hst (j+d) n (by omega) (h _ (by omega) (by omega)),O0 hst d j (by omega) fun m h1 h2=>h m h1 (by omega)]
theorem aiK(hst:∀k n,k<N→Wr k n=false→f (k+1) n=f k n){L:Nat→Bool}{i n:Nat}(hi:i<N)(hb:base n=f 0 n)(h1:∀j,j<i→Wr j n=true→L j=true)(h2:∀m,i<m→m<N→L m=true→Wr m n=false)(hL:L i=false) :
  cur f Wr N base L n=f i n:=by
 unfold cur
 split
 ·rename_i m hm
  obtain⟨k1,k2,k3⟩:=B6 hm
  simp only[gk]at k2
  have hmi:m<i:=by
   rcases Nat.lt_trichotomy m i with h | h | h
   ·exact h
   ·subst h;rw[hL]at k2;simp at k2
   ·have:=h2 m h k1 k2.1;rw[k2.2]at this;simp at this
  have:=O0 (n:=n) hst (i-(m+1)) (m+1) (by omega) (fun j hj hj2=>by
   cases hw:Wr j n with
   | false=>rfl
   | true =>
    have h4:=h1 j (by omega) hw
    have h5:=k3 j (by omega) (by omega)
    rw[h4,hw]at h5;simp at h5)
  have e:m+1+(i-(m+1))=i:=by omega
  rw[e]at this
  exact this.symm
 ·rename_i hm
  have:=O0 (n:=n) hst i 0 (by omega) (fun j _ hj2=>by
   cases hw:Wr j n with
   | false=>rfl
   | true =>
    have h4:=h1 j (by omega) hw
    have h5:=Gz hm j (by omega)
    rw[h4,hw]at h5;simp at h5)
  rw[Nat.zero_add]at this
  rw[hb];exact this.symm
theorem aqX{L:Nat→Bool}{i n:Nat}(hi:i<N)(h2:∀m,i<m→m<N→L m=true→Wr i n=true→Wr m n=false)(hL:L i=false) :
  cur f Wr N base (fun j=>decide (j=i)||L j) n=if Wr i n=true then f (i+1) n else cur f Wr N base L n:=by
 unfold cur
 by_cases hw:Wr i n=true
 ·rw[if_pos hw]
  rw[aAX (m:=i) hi (by simp[hw]) (fun j hj hjN=>by
   have : ¬j=i:=by omega
   simp only[this,decide_false,Bool.false_or]
   cases hl:L j with
   | false=>rfl
   | true=>rw[h2 j hj hjN hl hw];rfl)]
 ·rw[if_neg hw]
  have hw:Wr i n=false:=by simpa using hw
  rw[Qx (q:=fun m=>L m&&Wr m n) (fun j _=>by
   by_cases e:j=i
   ·subst e;simp[hw]
   ·simp[e])]
theorem arX(hst:∀k n,k<N→Wr k n=false→f (k+1) n=f k n){L:Nat→Bool}{n:Nat}(hL:∀j,j<N→L j=true):(cur f Wr N base L n=f N n∧∃m,m<N∧Wr m n=true)∨(cur f Wr N base L n=base n∧(∀m,m<N→Wr m n=false)∧f N n=f 0 n):=by
 unfold cur
 split
 ·rename_i m hm
  obtain⟨k1,k2,k3⟩:=B6 hm
  simp only[gk]at k2
  have:=O0 (n:=n) hst (N-(m+1)) (m+1) (by omega) (fun j hj hj2=>by
   have h5:=k3 j (by omega) (by omega)
   rw[hL j (by omega)]at h5;simpa using h5)
  have e:m+1+(N-(m+1))=N:=by omega
  rw[e]at this
  exact .inl ⟨this.symm,m,k1,k2.2⟩
 ·rename_i hm
  have hn:∀j,j<N→Wr j n=false:=fun j hj=>by
   have h5:=Gz hm j hj
   rw[hL j hj]at h5;simpa using h5
  have:=O0 (n:=n) hst N 0 (by omega) (fun j _ hj2=>hn j (by omega))
  rw[Nat.zero_add]at this
  exact .inr ⟨rfl,hn,this⟩
end
end Go.RM
