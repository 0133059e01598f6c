/- The value machine, in parts: what a stretch of code comes to, eK value trees. -/
import Derived.WalkKit
import Derived.MapKept
import Derived.MapFrom
import Derived.Great.BuildSlice
import Derived.LoopN
import Derived.Orders
import Derived.Laws.StructEq
import Derived.ProofKit
import Derived.OpenShut
import Derived.ChangeArms
import Derived.DataReads
import Derived.Carry
import Derived.SizedLaws
import Derived.ChangeCalls
import Derived.ChangeKeysEq
import Derived.KernelRfl
namespace Go
theorem ak.{u_1,u_2} : ∀ {α : Type u_1} {b : α} {α_1 : Type u_2} {x : Option α_1} {f : α_1 → Option α}, x.bind f = Option.some b ↔ ∃ (a : α_1), x = Option.some a ∧ f a = Option.some b := @Option.bind_eq_some_iff
theorem aw.{u_1,u_2} : ∀ {α : Type u_1} {b : α} {α_1 : Type u_2} {x : Option α_1} {f : α_1 → α}, Option.map f x = Option.some b ↔ ∃ (a : α_1), x = Option.some a ∧ f a = b := @Option.map_eq_some_iff
theorem bk : ∀ {a b : Prop}, a → b → a ∧ b := @And.intro
theorem bw.{u_1} : ∀ {α : Type u_1} {i : Nat} {a : α} {l : List α}, l[i]? = Option.some a ↔ ∃ (h : i < l.length), l[i] = a := @List.getElem?_eq_some_iff
theorem cw.{u_1} : ∀ {α : Type u_1} {l : List α} {i : Nat} (h : i < l.length), l[i]? = Option.some l[i] := @List.getElem?_eq_getElem
theorem dk.{u_1,u_2} : ∀ {α : Type u_1} {β : Type u_2} (a : α) (f : α → Option β), (Option.some a).bind f = f a := @Option.bind_some
theorem dw.{u_1} : ∀ {α : Type u_1} {as bs : List α}, (as ++ bs).length = as.length + bs.length := @List.length_append
theorem ek.{u_1} : ∀ {α : Type u_1} (val val_1 : α), (Option.some val = Option.some val_1) = (val = val_1) := @Option.some.injEq
theorem ew.{u_1,u_2} : ∀ {α : Type u_1} {β : Type u_2} {as : List α} (f : α → β), (List.map f as).length = as.length := @List.length_map
theorem fk.{u_1} : ∀ {α : Type u_1} {l : List α}, l.length = 0 → l = [] := @List.eq_nil_of_length_eq_zero
theorem fw.{u_1} : ∀ {α : Type u_1} {a b : α}, a ∈ [b] ↔ a = b := @List.mem_singleton
theorem gk : ∀ (a b : Bool), ((a && b) = Bool.true) = (a = Bool.true ∧ b = Bool.true) := @Bool.and_eq_true
theorem gw : (!Bool.false) = Bool.true := @Bool.not_false
theorem ik : ∀ (x : Bool), (x ^^ Bool.false) = x := @Bool.xor_false
theorem iw : (!Bool.true) = Bool.false := @Bool.not_true
theorem jk : ∀ (x : Bool), (x ^^ Bool.true) = !x := @Bool.xor_true
theorem jw.{u_1,u_2} : ∀ {α : Type u_1} {β : Type u_2} {f : α → β} {l : List α} {i : Nat}, (List.map f l)[i]? = Option.map f l[i]? := @List.getElem?_map
theorem kw.{u_1} : ∀ {α : Type u_1} {l : List α} {i j : Nat} {a : α}, (l.set i a)[j]? = if i = j then if i < l.length then Option.some a else Option.none else l[j]? := @List.getElem?_set
theorem lw.{u_1} : ∀ {α : Type u_1} {l₁ l₂ : List α} {i : Nat}, i < l₁.length → (l₁ ++ l₂)[i]? = l₁[i]? := @List.getElem?_append_left
theorem mw : ∀ (n : Nat), n ≤ n := @Nat.le_refl
theorem nw.{u_1} : ∀ {α : Type u_1} {l : List α} {i : Nat} {a : α}, l[i]? = Option.some a → a ∈ l := @List.mem_of_getElem?
theorem ow.{u_1} : ∀ {α : Type u_1} {a : α} {s t : List α}, a ∈ s ++ t ↔ a ∈ s ∨ a ∈ t := @List.mem_append
theorem pw.{u_1} : ∀ {α : Type u_1} {i : Nat} {b : α} {xs : Array α}, xs[i]? = Option.some b ↔ ∃ (h : i < xs.size), xs[i] = b := @Array.getElem?_eq_some_iff
theorem qk.{u_1,u_2} : ∀ {α : Type u_1} {β : Type u_2} {f : α → β} {a : α} {l : List α}, List.map f (a :: l) = f a :: List.map f l := @List.map_cons
theorem qw.{u_1,u_2} : ∀ {α : Type u_1} {β : Type u_2} (a : α) (f : α → β), Option.map f (Option.some a) = Option.some (f a) := @Option.map_some
theorem rk : (Bool.false = Bool.true) = False := @Bool.false_eq_true
theorem sk.{u_1} : ∀ {α : Sort u_1} {x : Decidable False} (t e : α), (if False then t else e) = e := @if_false
theorem uk.{u_1} : ∀ {α : Type u_1} (as bs cs : List α), as ++ bs ++ cs = as ++ (bs ++ cs) := @List.append_assoc
theorem uw.{u_1} : ∀ {α : Type u_1} {a : α} {as : List α}, (a :: as).length = as.length + 1 := @List.length_cons
theorem vk.{u_1} : ∀ {α : Type u_1} (as : List α), as ++ [] = as := @List.append_nil
theorem vw.{u_1} : ∀ {α : Type u_1} {l : List α} {i : Nat}, l.length ≤ i → l[i]? = Option.none := @List.getElem?_eq_none
theorem xw : ∀ {p : Prop} [inst : Decidable p], ¬p → Decidable.decide p = Bool.false := @decide_eq_false
theorem yk.{u_1} : ∀ {α : Type u_1} {l : List α} {L : List (List α)}, (l :: L).flatten = l ++ L.flatten := @List.flatten_cons
theorem yw.{u_1,u_2} : ∀ {α : Type u_1} {β : Type u_2} {b : β} {f : α → β} {l : List α}, b ∈ List.map f l ↔ ∃ (a : α), a ∈ l ∧ f a = b := @List.mem_map
theorem zk.{u_1} : ∀ {α : Type u_1} {a : α} {l : List α}, a ∈ a :: l := @List.mem_cons_self
theorem zw.{u_1} : ∀ {α : Type u_1} {l : List α} {i j : Nat}, (List.take i l)[j]? = if j < i then l[j]? else Option.none := @List.getElem?_take
theorem Ak.{u_1,u_2} : ∀ {α : Type u_1} {β : Type u_2} {f : α → List β} {b : β} {l : List α}, b ∈ List.flatMap f l ↔ ∃ (a : α), a ∈ l ∧ b ∈ f a := @List.mem_flatMap
theorem Aw.{u_1} : ∀ {α : Type u_1} (y : α) {a : α} {l : List α}, a ∈ l → a ∈ y :: l := @List.mem_cons_of_mem
theorem Bw : ∀ (a b : Bool), ((a || b) = Bool.true) = (a = Bool.true ∨ b = Bool.true) := @Bool.or_eq_true
theorem Ck.{u_1} : ∀ {α : Type u_1} {xs : Array α}, xs.toList.toArray = xs := @Array.toArray_toList
theorem Cw : ∀ (b : Bool), ((!b) = Bool.true) = (b = Bool.false) := @Bool.not_eq_true'
theorem Dk : ∀ {p : Prop} [inst : Decidable p], (Decidable.decide p = Bool.true) = p := @decide_eq_true_eq
end Go
namespace Go.VM
inductive T where
 | sc (v:Value)
 | sl (k:Nat) (rows:List (List T))
 deriving Inhabited
abbrev Oid:=Nat×Nat
inductive Cap where
 | ptr (o:Oid)
 | imm (t:T)
inductive C where
 | imm (t:T)
 | nilS
 | nilM
 | slO (o:Oid)
 | ptrO (o:Oid) (off:Nat)
 | elO (o:Oid) (k:Nat) (i:Nat) (off:Nat)
 | mapO (o:Oid)
 | ptrI (cells:List T)
 | fn (f:FuncId) (caps:List Cap)
 | junk
inductive V where
 | c (x:C)
 | agg (cs:List C)
 | tup (vs:List V)
 | junk
inductive MT where
 | one (t:T)
 | row (ts:List T)
def MT.v:MT→V
 | .one t=>.c (.imm t)
 | .row ts=>.agg (ts.map .imm)
inductive Ob where
 | arr (e:TypeId) (k:Nat) (rows:List (List T))
 | box (cs:List C)
 | map (kd:TypeDesc) (es:List (Value×MT))
 | mapC (kd:TypeDesc) (es:List (Value×C))
 | arrC (e:TypeId) (k:Nat) (rows:List (List C))
 | fam (G:(Nat×Nat)→Option Ob)
abbrev Env:=Nat→V
abbrev Heap:=Oid→Option Ob
def Env.put(Γ:Env)(t:Nat)(x:V):Env:=fun u=>if u=t then x else Γ u
def Heap.put(h:Heap)(o:Oid)(ob:Ob):Heap:=fun p=>if p=o then some ob else h p
def Heap.drop(h:Heap)(o:Oid):Heap:=fun p=>if p=o then none else h p
def aTK:Env:=fun _=>.junk
def noHeap:Heap:=fun _=>none
def bJ:List (Nat×V)→Env
 | []=>aTK
 | (t,x)::r=>(bJ r).put t x
def Cap.refs:Cap→List Oid
 | .ptr o=>[o]
 | .imm _=>[]
def C.refs:C→List Oid
 | .slO o | .ptrO o _ | .elO o _ _ _ | .mapO o=>[o]
 | .fn _ caps=>caps.flatMap Cap.refs
 | _=>[]
def V.refs:V→List Oid
 | .c x=>x.refs
 | .agg cs=>cs.flatMap C.refs
 | .tup vs=>vs.flatMap fun | .c x=>x.refs | .agg cs=>cs.flatMap C.refs | _=>[]
 | .junk=>[]
def Ob.refs:Ob→List Oid
 | .box cs=>cs.flatMap C.refs
 | .arr ..=>[]
 | .map ..=>[]
 | .mapC _ es=>es.flatMap fun p=>p.2.refs
 | .arrC _ _ rows=>rows.flatten.flatMap C.refs
 | .fam _=>[]
def o6(o:Oid):Bool:=Nat.ble 1000000 o.1||(Nat.ble 950 o.1&&Nat.ble o.1 998)
abbrev jV:Ob→Option (Oid→Option Ob)
 | .fam G=>some G
 | _=>none
def zK(G:Oid→Option Ob)(o:Oid):Option Ob:=match G o with
 | some ob=>bif (jV ob).isNone&&ob.refs.all o6 then some ob else none
 | none=>none
def aeX(G:Oid→Option Ob)(o:Oid):Oid→Option Ob:=fun p=>if p=o then none else G p
def aZ:List (Oid×Ob)→Heap
 | []=>noHeap
 | (o,ob)::r=>match jV ob with
  | some G=>fun p=>bif o6 p then zK G p else aZ r p
  | none=>(aZ r).put o ob
theorem MT.refs(x:MT):x.v.refs=[]:=by
 cases x with
 | one t=>rfl
 | row ts =>
  simp only[MT.v,V.refs]
  induction ts with
  | nil=>rfl
  | cons t r ih=>simp only[qk,List.flatMap_cons,C.refs,ih,vk]
def Pt{α β:Type}(R:α→β→Prop)(cs:List α)(xs:List β):Prop :=
 cs.length=xs.length∧∀(j:Nat) v x,cs[j]? = some v→xs[j]? = some x→R v x
def gz:Value→Option Nat
 | .slice (some a) _ _=>some a.block
 | .pointer (some a)=>some a.block
 | .map r=>r
 | _=>none
def keyOf(kd:TypeDesc)(v:Value):Bool :=
 match kd,v with
 | .int k,.int k' _=>decide (k=k')
 | .string,.string _=>true
 | .bool,.bool _=>true
 | _,_=>false
section
variable (w:World) (ok:Nat→Prop) (B:Oid→Value)
inductive RepT:Value→T→Prop
 | sc (v:Value) (h:v.oneCell'=true):RepT v (.sc v)
 | nil (k:Nat) (a:Option Addr) (cap:Nat):RepT (.slice a 0 cap) (.sl k [])
 | sl (b off cap k:Nat) (rows:List (List T)) (f:Nat→Nat→Value) (hok:ok b) (hle:rows.length≤cap) (hk:∀row∈rows,row.length=k)
   (hc:∀(i:Nat) row (j:Nat) x,rows[i]? = some row→row[j]? = some x→w.cell? ⟨b,off+i*k+j,none⟩=some (f i j))
   (hr:∀(i:Nat) row (j:Nat) x,rows[i]? = some row→row[j]? = some x→RepT (f i j) x) :
   RepT (.slice (some ⟨b,off,none⟩) rows.length cap) (.sl k rows)
def At(b off:Nat)(cells:List T):Prop :=
 ok b∧∀(j:Nat) x,cells[j]? = some x→∃v,w.cell? ⟨b,off+j,none⟩=some v∧RepT w ok v x
inductive RepCap:Value→Cap→Prop
 | ptr (o:Oid) (b:Nat):B o = .pointer (some ⟨b,0,none⟩)→RepCap (.pointer (some ⟨b,0,none⟩)) (.ptr o)
 | imm (v:Value) (t:T):RepT w ok v t→RepCap v (.imm t)
inductive RepC:Value→C→Prop
 | imm (v:Value) (t:T):RepT w ok v t→RepC v (.imm t)
 | nilS:RepC (.slice none 0 0) .nilS
 | nilM:RepC (.map none) .nilM
 | slO (o:Oid) (a:Option Addr) (len cap:Nat):B o = .slice a len cap→RepC (.slice a len cap) (.slO o)
 | ptrO (o:Oid) (off b:Nat):B o = .pointer (some ⟨b,0,none⟩)→RepC (.pointer (some ⟨b,off,none⟩)) (.ptrO o off)
 | elO (o:Oid) (k i off b len cap:Nat):B o = .slice (some ⟨b,0,none⟩) len cap→RepC (.pointer (some ⟨b,i*k+off,none⟩)) (.elO o k i off)
 | mapO (o:Oid) (r:Nat):B o = .map (some r)→RepC (.map (some r)) (.mapO o)
 | ptrI (b off:Nat) (cells:List T):At w ok b off cells→RepC (.pointer (some ⟨b,off,none⟩)) (.ptrI cells)
 | fn (f:FuncId) (cs:List Value) (caps:List Cap):Pt (RepCap w ok B) cs caps→RepC (.func (.func f) #[] cs.toArray) (.fn f caps)
 | junk (v:Value) (h:v.oneCell'=true):RepC v .junk
def RepS:Value→V→Prop
 | v,.c x=>RepC w ok B v x
 | v,.agg xs=>∃cs,v = .agg cs∧Pt (RepC w ok B) cs.toList xs
 | _,.tup _=>False
 | _,.junk=>True
def RepV:Value→V→Prop
 | v,.tup xs=>∃vs,v = .tuple vs∧Pt (RepS w ok B) vs.toList xs
 | v,x=>RepS w ok B v x
def ObR(v:Value):Ob→Prop
 | .arr e k rows=>0<k∧(∀row∈rows,row.length=k)∧∃cs,w.ownsRow 0 e k v rows.length cs∧Pt (RepT w ok) cs rows.flatten
 | .box cs=>∃b c t,v = .pointer (some ⟨b,0,none⟩)∧w.heap[b]? = some (.cells c t (0,0))∧Pt (RepC w ok B) c.toList cs
 | .map kd es=>∃b es' clock,v = .map (some b)∧w.heap[b]? = some (.map es' clock)∧clock=es.length∧es'.size=es.length ∧
   ∀(i:Nat) e p,es'[i]? = some e→es[i]? = some p→e.key=p.1∧keyOf kd p.1=true∧e.born=i∧RepS w ok B e.val p.2.v
 | .mapC kd es=>∃b es' clock,v = .map (some b)∧w.heap[b]? = some (.map es' clock)∧clock=es.length∧es'.size=es.length ∧
   ∀(i:Nat) e p,es'[i]? = some e→es[i]? = some p→e.key=p.1∧keyOf kd p.1=true∧e.born=i∧RepC w ok B e.val p.2
 | .arrC e k rows=>0<k∧(∀row∈rows,row.length=k)∧∃cs,w.ownsRow 0 e k v rows.length cs∧Pt (RepC w ok B) cs rows.flatten
 | .fam _=>False
structure Objs(h:Heap):Prop where
 rep:∀o ob,h o=some ob→ObR w ok B (B o) ob
 apart:∀o o' ob ob' b,h o=some ob→h o'=some ob'→gz (B o)=some b→gz (B o')=some b→o=o'
end
section mono
variable {w w':World} {ok ok':Nat→Prop} {B B':Oid→Value}
theorem Pt.mono{α β:Type}{R R':α→β→Prop}{cs:List α}{xs:List β}(h:Pt R cs xs)(hr:∀(j:Nat) v x,xs[j]? = some x→R v x→R' v x):Pt R' cs xs :=
 ⟨h.1,fun j v x hv hx=>hr j v x hx (h.2 j v x hv hx)⟩
theorem RepT.mono{v:Value}{t:T}(h:RepT w ok v t)(hb:∀b,ok b→w'.heap[b]? = w.heap[b]?)(ho:∀b,ok b→ok' b):RepT w' ok' v t:=by
 induction h with
 | sc v h=>exact .sc v h
 | nil k a cap=>exact .nil k a cap
 | sl b off cap k rows f hok hle hk hc hr ih =>
  exact .sl b off cap k rows f (ho b hok) hle hk (fun i row j x hi hj=>(World.cell?_of_block (hb b hok)).trans (hc i row j x hi hj)) (fun i row j x hi hj=>ih i row j x hi hj)
theorem At.mono{b off:Nat}{cells:List T}(h:At w ok b off cells)(hb:∀b,ok b→w'.heap[b]? = w.heap[b]?)(ho:∀b,ok b→ok' b):At w' ok' b off cells :=
 ⟨ho b h.1,fun j x hx=>let ⟨v,hv,hr⟩:=h.2 j x hx;⟨v,(World.cell?_of_block (hb b h.1)).trans hv,hr.mono hb ho⟩⟩
theorem RepCap.mono{v:Value}{x:Cap}(h:RepCap w ok B v x)(hb:∀b,ok b→w'.heap[b]? = w.heap[b]?)(ho:∀b,ok b→ok' b)(hB:∀o∈x.refs,B' o=B o):RepCap w' ok' B' v x:=by
 cases h with
 | ptr o b h=>exact .ptr o b ((hB o (by simp[Cap.refs])).trans h)
 | imm v t h=>exact .imm v t (h.mono hb ho)
theorem d8{α β:Type}{l:List α}{f:α→List β}{j:Nat}{x:α}(h:l[j]? = some x){o:β}(ho:o∈f x):o∈l.flatMap f :=
 Ak.2 ⟨x,nw h,ho⟩
theorem RepC.mono{v:Value}{x:C}(h:RepC w ok B v x)(hb:∀b,ok b→w'.heap[b]? = w.heap[b]?)(ho:∀b,ok b→ok' b)(hB:∀o∈x.refs,B' o=B o):RepC w' ok' B' v x:=by
 cases h with
 | imm v t h=>exact .imm v t (h.mono hb ho)
 | nilS=>exact .nilS
 | nilM=>exact .nilM
 | slO o a len cap h=>exact .slO o a len cap ((hB o (by simp[C.refs])).trans h)
 | ptrO o off b h=>exact .ptrO o off b ((hB o (by simp[C.refs])).trans h)
 | elO o k i off b len cap h=>exact .elO o k i off b len cap ((hB o (by simp[C.refs])).trans h)
 | mapO o r h=>exact .mapO o r ((hB o (by simp[C.refs])).trans h)
 | ptrI b off cells h=>exact .ptrI b off cells (h.mono hb ho)
 | fn f cs caps h=>exact .fn f cs caps (h.mono fun j v x hx hr=>hr.mono hb ho fun o hm=>hB o (by simp only[C.refs];exact d8 hx hm))
 | junk v h=>exact .junk v h
theorem RepS.mono{v:Value}{x:V}(h:RepS w ok B v x)(hb:∀b,ok b→w'.heap[b]? = w.heap[b]?)(ho:∀b,ok b→ok' b)(hB:∀o∈x.refs,B' o=B o):RepS w' ok' B' v x:=by
 cases x with
 | c x=>exact RepC.mono h hb ho hB
 | agg xs =>
  obtain⟨cs,rfl,hp⟩:=h
  exact⟨cs,rfl,hp.mono fun j v x hx hr=>hr.mono hb ho fun o hm=>hB o (by simp only[V.refs];exact d8 hx hm)⟩
 | tup xs=>exact h.elim
 | junk=>trivial
theorem RepV.mono{v:Value}{x:V}(h:RepV w ok B v x)(hb:∀b,ok b→w'.heap[b]? = w.heap[b]?)(ho:∀b,ok b→ok' b)(hB:∀o∈x.refs,B' o=B o):RepV w' ok' B' v x:=by
 cases x with
 | c x=>exact RepC.mono h hb ho hB
 | agg xs=>exact RepS.mono (x:=.agg xs) h hb ho hB
 | junk=>trivial
 | tup xs =>
  obtain⟨vs,rfl,hp⟩:=h
  refine⟨vs,rfl,hp.mono fun j v x hx hr=>hr.mono hb ho fun o hm=>hB o ?_⟩
  simp only[V.refs]
  refine d8 hx ?_
  cases x<;>simp_all[V.refs]
  simp_all[RepS]
theorem RepT.one{v:Value}{t:T}(h:RepT w ok v t):v.oneCell'=true:=by
 cases h<;>first | assumption | rfl
theorem RepC.one{v:Value}{x:C}(h:RepC w ok B v x):v.oneCell'=true:=by
 cases h<;>first | assumption | rfl | exact RepT.one ‹_›
theorem ObR.mono{v:Value}{x:Ob}(h:ObR w ok B v x)(hb:∀b,ok b→w'.heap[b]? = w.heap[b]?)(ho:∀b,ok b→ok' b)(hB:∀o∈x.refs,B' o=B o)
  (hv:∀b,gz v=some b→w'.heap[b]? = w.heap[b]?):ObR w' ok' B' v x:=by
 cases x with
 | arr e k rows =>
  obtain⟨h0,hk,cs,hown,hp⟩:=h
  refine⟨h0,hk,cs,?_,hp.mono fun j v x hx hr=>hr.mono hb ho⟩
  obtain⟨hl,hc⟩:=hown
  refine⟨hl,?_⟩
  rcases hc with⟨rfl,hn⟩ | ⟨g,cap,cur,rfl,hg,hh,hr⟩
  ·exact .inl ⟨rfl,hn⟩
  ·exact .inr ⟨g,cap,cur,rfl,hg,(hv g rfl).trans hh,hr⟩
 | box cs =>
  obtain⟨b,c,t,rfl,hh,hp⟩:=h
  exact⟨b,c,t,rfl,(hv b rfl).trans hh,hp.mono fun j v x hx hr=>hr.mono hb ho fun o hm=>hB o (by simp only[Ob.refs];exact d8 hx hm)⟩
 | map kd es =>
  obtain⟨b,es',clock,rfl,hh,hc,hs,he⟩:=h
  refine⟨b,es',clock,rfl,(hv b rfl).trans hh,hc,hs,fun i e p hi hp=>?_⟩
  obtain⟨h1,h2,h3,h4⟩:=he i e p hi hp
  exact⟨h1,h2,h3,h4.mono hb ho fun o hm=>by rw[MT.refs]at hm;simp at hm⟩
 | mapC kd es =>
  obtain⟨b,es',clock,rfl,hh,hc,hs,he⟩:=h
  refine⟨b,es',clock,rfl,(hv b rfl).trans hh,hc,hs,fun i e p hi hp=>?_⟩
  obtain⟨h1,h2,h3,h4⟩:=he i e p hi hp
  exact⟨h1,h2,h3,h4.mono hb ho fun o hm=>hB o (by simp only[Ob.refs];exact d8 (f:=fun p:Value×C=>p.2.refs) hp hm)⟩
 | arrC e k rows =>
  obtain⟨h0,hk,cs,hown,hp⟩:=h
  refine⟨h0,hk,cs,?_,hp.mono fun j v x hx hr=>hr.mono hb ho fun o hm=>hB o (by simp only[Ob.refs];exact d8 hx hm)⟩
  obtain⟨hl,hc⟩:=hown
  refine⟨hl,?_⟩
  rcases hc with⟨rfl,hn⟩ | ⟨g,cap,cur,rfl,hg,hh,hr⟩
  ·exact .inl ⟨rfl,hn⟩
  ·exact .inr ⟨g,cap,cur,rfl,hg,(hv g rfl).trans hh,hr⟩
 | fam G=>exact h.elim
theorem ObR.lt{v:Value}{x:Ob}(h:ObR w ok B v x){b:Nat}(hb:gz v=some b):b<w.heap.size:=by
 cases x with
 | arr e k rows =>
  obtain⟨_,_,cs,hown,_⟩:=h
  rcases hown.2 with⟨rfl,_⟩ | ⟨g,cap,cur,rfl,_,hh,_⟩
  ·simp[gz]at hb
  ·simp[gz]at hb;subst hb;exact(pw.1 hh).1
 | box cs =>
  obtain⟨g,c,t,rfl,hh,_⟩:=h
  simp[gz]at hb;subst hb;exact(pw.1 hh).1
 | map kd es =>
  obtain⟨g,es',clock,rfl,hh,_⟩:=h
  simp[gz]at hb;subst hb;exact(pw.1 hh).1
 | mapC kd es =>
  obtain⟨g,es',clock,rfl,hh,_⟩:=h
  simp[gz]at hb;subst hb;exact(pw.1 hh).1
 | arrC e k rows =>
  obtain⟨_,_,cs,hown,_⟩:=h
  rcases hown.2 with⟨rfl,_⟩ | ⟨g,cap,cur,rfl,_,hh,_⟩
  ·simp[gz]at hb
  ·simp[gz]at hb;subst hb;exact(pw.1 hh).1
 | fam G=>exact h.elim
end mono
end Go.VM
namespace Go.VM
structure Ctx where
  w0:World
  ok0:Nat→Prop
  par:Oid→Nat→Prop
  B0:Oid→Value
  pin:Oid→Prop
  ntmps:Nat
def mK(n0:Nat)(ok0:Nat→Prop)(w:World)(B:Oid→Value)(h:Heap)(b:Nat):Prop :=
  b<w.heap.size∧(b<n0→ok0 b)∧∀o ob,h o=some ob→gz (B o)≠some b
structure Fr(w0 w:World)(mine:Nat→Prop):Prop where
  os:w.os=w0.os
  tape:w.tape=w0.tape
  output:w.output=w0.output
  size:w0.heap.size≤w.heap.size
  block:∀b,b<w0.heap.size→¬mine b→w.heap[b]? = w0.heap[b]?
theorem Fr.refl(w:World)(m:Nat→Prop):Fr w w m:=⟨rfl,rfl,rfl,mw _,fun _ _ _=>rfl⟩
theorem Fr.trans{w0 w w':World}{m m':Nat→Prop}(h:Fr w0 w m)(h':Fr w w' m')(hm:∀b,b<w0.heap.size→m' b→m b):Fr w0 w' m :=
  ⟨h'.os.trans h.os,h'.tape.trans h.tape,h'.output.trans h.output,Nat.le_trans h.size h'.size,
   fun b hb hn=>(h'.block b (Nat.lt_of_lt_of_le hb h.size) (fun x=>hn (hm b hb x))).trans (h.block b hb hn)⟩
def Ctx.mine(K:Ctx)(b:Nat):Prop:=∃o,K.par o b
structure StB(K:Ctx)(B:Oid→Value)(Γ:Env)(h:Heap)(a:Act)(w:World):Prop where
  slots:∀t,RepV w (mK K.w0.heap.size K.ok0 w B h) B (a.tmps.getD t undef) (Γ t)
  objs:Objs w (mK K.w0.heap.size K.ok0 w B h) B h
  defers:a.defers=[]
  size:a.tmps.size=K.ntmps
  fr:Fr K.w0 w K.mine
  own:∀o ob b,h o=some ob→gz (B o)=some b→b<K.w0.heap.size→K.mine b
  pin:∀o,K.pin o→1000≤o.1∧B o=K.B0 o
def St(K:Ctx)(Γ:Env)(h:Heap)(a:Act)(w:World):Prop:=∃B,StB K B Γ h a w
section
variable {K:Ctx} {B B':Oid→Value} {Γ Γ':Env} {h h':Heap} {a:Act} {w w':World}
theorem StB.grow(s:StB K B Γ h a w)(hf:Fr w w' fun _=>False):StB K B Γ h a w':=by
  have hb:∀b,b<w.heap.size→w'.heap[b]? = w.heap[b]?:=fun b hb=>hf.block b hb id
  have hk:∀b,mK K.w0.heap.size K.ok0 w B h b→w'.heap[b]? = w.heap[b]?:=fun b hb'=>hb b hb'.1
  have hok:∀b,mK K.w0.heap.size K.ok0 w B h b→mK K.w0.heap.size K.ok0 w' B h b:=fun b hb'=>⟨Nat.lt_of_lt_of_le hb'.1 hf.size,hb'.2⟩
  exact⟨fun t=>(s.slots t).mono hk hok fun _ _=>rfl,
    ⟨fun o ob ho=>(s.objs.rep o ob ho).mono hk hok (fun _ _=>rfl) fun b hb'=>hb b ((s.objs.rep o ob ho).lt hb'),s.objs.apart⟩,
    s.defers,s.size,s.fr.trans hf (fun _ _ h=>h.elim),s.own,s.pin⟩
theorem Fr.drew(w:World)(m:Nat→Prop):Fr w w.drew m:=⟨rfl,rfl,rfl,mw _,fun _ _ _=>rfl⟩
theorem Fr.alloc(w:World)(o:Obj)(m:Nat→Prop):Fr w (w.alloc o) m :=
  ⟨rfl,rfl,rfl,by simp,fun b hb _=>heap_alloc_old w o hb⟩
theorem getD_put(a:Act)(d t:Nat)(v:Value)(hd:d<a.tmps.size) :
    (a.put (some d) v).tmps.getD t undef=if d=t then v else a.tmps.getD t undef:=by
  simp only[Act.put,Array.getD_eq_getD_getElem?]
  by_cases h:d=t
  ·subst h;simp[hd]
  ·simp[h]
theorem StB.put(s:StB K B Γ h a w){v:Value}{x:V}{d:Nat}(hx:RepV w (mK K.w0.heap.size K.ok0 w B h) B v x)(hd:d<K.ntmps) :
    StB K B (Γ.put d x) h (a.put (some d) v) w:=by
  refine⟨fun t=>?_,s.objs,s.defers,by simpa[Act.put]using s.size,s.fr,s.own,s.pin⟩
  rw[getD_put a d t v (by rw[s.size];exact hd)]
  by_cases e:d=t
  ·subst e;simpa[Env.put]using hx
  ·simpa[Env.put,e,Ne.symm e]using s.slots t
theorem StB.weaken(s:StB K B Γ h a w)(hΓ:∀t,Γ' t = .junk∨Γ' t=Γ t)(hh:∀o ob,h' o=some ob→h o=some ob) :
    StB K B Γ' h' a w:=by
  have hok:∀b,mK K.w0.heap.size K.ok0 w B h b→mK K.w0.heap.size K.ok0 w B h' b:=fun b hb=>⟨hb.1,hb.2.1,fun o ob ho=>hb.2.2 o ob (hh o ob ho)⟩
  refine⟨fun t=>?_,⟨fun o ob ho=>(s.objs.rep o ob (hh o ob ho)).mono (fun _ _=>rfl) hok (fun _ _=>rfl) fun _ _=>rfl,fun o o' ob ob' b ho ho'=>s.objs.apart o o' ob ob' b (hh o ob ho) (hh o' ob' ho')⟩,
    s.defers,s.size,s.fr,fun o ob b ho=>s.own o ob b (hh o ob ho),s.pin⟩
  rcases hΓ t with e | e
  ·rw[e];trivial
  ·rw[e];exact(s.slots t).mono (fun _ _=>rfl) hok fun _ _=>rfl
theorem StB.set(s:StB K B Γ h a w)(o d:Oid)(ob:Ob)(v:Value)
    (hfr:Fr w w' fun b=>gz (B o)=some b∧(h o).isSome)
    (hv:∀b,gz v=some b→b<w'.heap.size∧((gz (B o)=some b∧(h o).isSome)∨w.heap.size≤b))
    (hΓ:∀t,d∈(Γ t).refs→v=B d)
    (hh:∀p ob',h' p=some ob'→p≠d→p≠o∧h p=some ob'∧(d∈ob'.refs→v=B d))
    (hpin:K.pin d→v=B d)
    (hob:h' d=some ob)
    (hr:∀B',(∀p,p≠d→B' p=B p)→B' d=v→(∀b,mK K.w0.heap.size K.ok0 w B h b→mK K.w0.heap.size K.ok0 w' B' h' b)→ObR w' (mK K.w0.heap.size K.ok0 w' B' h') B' v ob) :
    ∃B',B' d=v∧(∀p,p≠d→B' p=B p)∧(∀b,mK K.w0.heap.size K.ok0 w B h b→mK K.w0.heap.size K.ok0 w' B' h' b∧w'.heap[b]? = w.heap[b]?)∧StB K B' Γ h' a w':=by
  let B':Oid→Value:=fun p=>if p=d then v else B p
  have hB:∀p,p≠d→B' p=B p:=fun p hp=>by simp[B',hp]
  have hBo:B' d=v:=by simp[B']
  have hk:∀b,mK K.w0.heap.size K.ok0 w B h b→w'.heap[b]? = w.heap[b]?:=fun b hb=>hfr.block b hb.1 fun hx=>by
    cases ho:h o with
    | none=>simp[ho]at hx
    | some ob0=>exact hb.2.2 o ob0 ho hx.1
  have hok:∀b,mK K.w0.heap.size K.ok0 w B h b→mK K.w0.heap.size K.ok0 w' B' h' b:=by
    intro b hb
    refine⟨Nat.lt_of_lt_of_le hb.1 hfr.size,hb.2.1,fun p ob' hp hbp=>?_⟩
    by_cases e:p=d
    ·subst e
     rw[hBo]at hbp
     rcases(hv b hbp).2 with hx | hx
     ·cases ho:h o with
      | none=>simp[ho]at hx
      | some ob0=>exact hb.2.2 o ob0 ho hx.1
     ·have:=hb.1;omega
    ·rw[hB p e]at hbp
     exact hb.2.2 p ob' (hh p ob' hp e).2.1 hbp
  have cross:∀p ob' b,h' p=some ob'→p≠d→gz v=some b→gz (B p)=some b→False:=by
    intro p ob' b hp e hvb hpb
    obtain⟨hne,h0,_⟩:=hh p ob' hp e
    rcases(hv b hvb).2 with hx | hx
    ·cases ho:h o with
     | none=>simp[ho]at hx
     | some ob3=>exact hne (s.objs.apart p o _ ob3 b h0 ho hpb hx.1)
    ·have:=(s.objs.rep p _ h0).lt hpb;omega
  refine⟨B',hBo,hB,fun b hb=>⟨hok b hb,hk b hb⟩,⟨fun t=>?_,⟨fun p ob' hp=>?_,?_⟩,s.defers,s.size,s.fr.trans hfr ?_,?_,?_⟩⟩
  ·refine(s.slots t).mono hk hok fun p hp=>?_
   by_cases ep:p=d
   ·subst ep;rw[hBo,hΓ t hp]
   ·exact hB p ep
  ·by_cases e:p=d
   ·subst e
    rw[hob]at hp
    cases hp
    rw[hBo]
    exact hr B' hB hBo hok
   ·obtain⟨hne,h0,hx⟩:=hh p ob' hp e
    rw[hB p e]
    refine(s.objs.rep p _ h0).mono hk hok (fun q hq=>?_) fun b hb=>?_
    ·by_cases eq:q=d
     ·subst eq;rw[hBo,hx hq]
     ·exact hB q eq
    ·refine hfr.block b ((s.objs.rep p _ h0).lt hb) fun hx=>hne ?_
     cases ho:h o with
     | none=>simp[ho]at hx
     | some ob1=>exact s.objs.apart p o _ ob1 b h0 ho hb hx.1
  ·intro p p' ob1 ob2 b hp hp' hb hb'
   by_cases e:p=d
   ·by_cases e':p'=d
    ·rw[e,e']
    ·subst e
     rw[hBo]at hb
     rw[hB p' e']at hb'
     exact(cross p' ob2 b hp' e' hb hb').elim
   ·by_cases e':p'=d
    ·subst e'
     rw[hBo]at hb'
     rw[hB p e]at hb
     exact(cross p ob1 b hp e hb' hb).elim
    ·rw[hB p e]at hb
     rw[hB p' e']at hb'
     exact s.objs.apart p p' ob1 ob2 b (hh p ob1 hp e).2.1 (hh p' ob2 hp' e').2.1 hb hb'
  ·intro b hb hx
   cases ho:h o with
   | none=>simp[ho]at hx
   | some ob0=>exact s.own o ob0 b ho hx.1 hb
  ·intro p ob' b hp hb hlt
   by_cases e:p=d
   ·subst e
    rw[hBo]at hb
    rcases(hv b hb).2 with hx | hx
    ·cases ho:h o with
     | none=>simp[ho]at hx
     | some ob0=>exact s.own o ob0 b ho hx.1 hlt
    ·have:=s.fr.size;omega
   ·rw[hB p e]at hb
    exact s.own p ob' b (hh p ob' hp e).2.1 hb hlt
  ·intro p hp
   obtain⟨h1,h2⟩:=s.pin p hp
   refine⟨h1,?_⟩
   by_cases e:p=d
   ·subst e;rw[hBo,hpin hp];exact h2
   ·rw[hB p e];exact h2
end
end Go.VM
namespace Go.VM
inductive Opd where
  | tmp (t:Nat)
  | con (x:V)
  | fn (f:FuncId)
inductive VO where
  | mv (x:Opd)
  | pick (c a b:Opd)
  | build (zero:List C) (parts:List (Nat×Nat×Opd))
  | load (n:Nat) (agg:Bool) (x:Opd)
  | nilc (x:Opd)
  | fld (off:Nat) (x:Opd)
  | field (off n:Nat) (agg:Bool) (x:Opd)
  | ixA (k:Nat) (x i:Opd)
  | ixAA (n k:Nat) (x i:Opd)
  | ixR (n k:Nat) (agg:Bool) (x i:Opd)
  | ixS (x i:Opd)
  | bin (op:BinOp) (x y:Opd)
  | beq (ne:Bool) (x y:Opd)
  | peq (ne:Bool) (x y:Opd)
  | meq (ne:Bool) (x y:Opd)
  | aeq (ne:Bool) (t:TypeId) (x y:Opd)
  | un (op:UnOp) (x:Opd)
  | cvi (k:IntKind) (x:Opd)
  | cvs (x:Opd)
  | ext (x:Opd) (i:Nat)
  | lenS (x:Opd)
  | lenT (x:Opd)
  | mm (max:Bool) (args:List Opd)
  | mkfn (f:FuncId) (caps:List Opd)
  | sub (k:Nat) (x:Opd) (lo hi:Option Opd)
  | subS (x:Opd) (lo hi:Option Opd)
  | call (f:FuncId) (args:List Opd)
  | callv (x:Opd) (args:List Opd)
  | alloc (e:TypeId) (zero:List C)
  | box (e:TypeId) (x:Opd)
  | mksl (e:TypeId) (k bytes:Nat) (zero:List C) (len cap:Opd)
  | bsl (e:TypeId) (k:Nat) (len:Nat) (zero:List C) (parts:List (Nat×Nat×Opd))
  | store (n:Nat) (x v:Opd)
  | app (e:TypeId) (k bytes:Nat) (s x:Opd)
  | copy (e:TypeId) (k:Nat) (s x:Opd)
  | mkmap (kd:TypeDesc)
  | look (kd:TypeDesc) (zero:V) (ok:Bool) (x i:Opd)
  | lenM (x:Opd)
  | mupd (kd:TypeDesc) (x i v:Opd)
structure VOp where
  dst:Option Nat
  op:VO
  guard:Option (Nat×Bool)
instance:Inhabited VOp:=⟨⟨none,.mv (.tmp 0),none⟩⟩
inductive VC where
  | skip
  | region (draw:Option (List Nat)) (ops:List VOp)
  | seq (a b:VC)
  | cond (c:Opd) (thn els:VC)
  | block (id:Nat) (body:VC)
  | loop (body:VC)
  | exit (id:Nat)
  | ret
  | bad
def VO.opds:VO→List Opd
  | .lenM x | .mv x | .load _ _ x | .nilc x | .fld _ x | .field _ _ _ x | .un _ x | .cvi _ x | .cvs x | .ext x _ | .lenS x | .lenT x | .box _ x=>[x]
  | .pick c a b=>[c,a,b]
  | .build _ ps | .bsl _ _ _ _ ps=>ps.map fun p=>p.2.2
  | .ixA _ x i | .ixAA _ _ x i | .ixR _ _ _ x i | .ixS x i | .bin _ x i | .beq _ x i | .peq _ x i | .meq _ x i | .aeq _ _ x i | .mksl _ _ _ _ x i | .store _ x i | .app _ _ _ x i | .copy _ _ x i | .look _ _ _ x i=>[x,i]
  | .mupd _ x i v=>[x,i,v]
  | .mm _ args | .mkfn _ args | .call _ args=>args
  | .callv x args=>x::args
  | .sub _ x lo hi | .subS x lo hi=>x::(lo.toList++hi.toList)
  | .alloc .. | .mkmap _=>[]
def Opd.plain:Opd→Bool
  | .con x=>x.refs.isEmpty
  | _=>true
def VO.plain:VO→Bool
  | .build z ps=>(z.all fun c=>c.refs.isEmpty)&&ps.all fun p=>p.2.2.plain
  | .alloc _ z=>z.all fun c=>c.refs.isEmpty
  | .look _ z _ x i=>z.refs.isEmpty&&x.plain&&i.plain
  | op=>op.opds.all Opd.plain
def pK:VO→Bool
  | .alloc .. | .box .. | .mksl .. | .bsl .. | .store .. | .app .. | .mkmap _ | .mupd ..=>true
  | _=>false
def B7:VO→Bool
  | .alloc .. | .box .. | .mksl .. | .bsl .. | .app .. | .mkmap _=>true
  | _=>false
def G0(xs:List Opd):List Nat:=xs.filterMap fun | .tmp t=>some t | _=>none
def VOp.reads(o:VOp):List Nat := G0 o.op.opds ++ (match o.guard with | some (t,_) => [t] | none => [])
def cls:VO→Nat
  | .load .. | .ixA .. | .lenS _ | .call .. | .callv .. | .look .. | .lenM _=>1
  | .alloc .. | .box .. | .mksl .. | .bsl .. | .mkmap _=>2
  | .mupd .. | .store .. | .app .. | .copy ..=>3
  | _=>0
def rW(x y:VOp):Bool:=!(pK x.op&&B7 y.op)||(x.dst.getD 999 != y.dst.getD 999)
abbrev J9:=List Oid×List Oid
def anK:VO→Bool
  | .store .. | .mupd .. | .app ..=>true
  | _=>false
def W6:VO→Bool
  | .load .. | .ixA .. | .lenS _ | .look .. | .lenM _=>true
  | _=>false
def aEX(a b:Oid):Bool:=Nat.beq a.1 b.1&&Nat.beq a.2 b.2
def aFY:List Oid→List Oid→Bool
  | [],_=>true
  | o::r,l=>l.all (fun p=>!(aEX o p))&&aFY r l
def amW(x y:VOp)(fx fy:Option J9):Bool :=
  (match x.dst with | some d => !(y.reads.contains d)&&y.dst != some d | none => true) &&
  (match y.dst with | some d => !(x.reads.contains d) | none => true) &&
  (cls x.op == 0||cls y.op == 0||(decide (cls x.op≤2)&&decide (cls y.op≤2)) ||
   (match fx,fy with
    | some fx,some fy=>(anK x.op&&W6 y.op&&aFY fx.2 fy.1)||(W6 x.op&&anK y.op&&aFY fy.2 fx.1)
    | _,_=>false)) &&
  x.op.plain&&y.op.plain &&
  (cls x.op != 2||x.dst.isSome)&&(cls y.op != 2||y.dst.isSome)
def MJ(ops:Array Oper)(vl:List VOp):Bool :=
  let bs:=Region.before ops
  let n:=ops.size
  (decide (vl.length=n)) &&
  (List.range n).all (fun i=>(ops.getD i default).after.toList.all fun e=>!Region.binds .any e||decide (e.on<i)) &&
  (List.range n).all (fun i=>(List.range n).all fun a=>!(bs.getD i 0).testBit a||(ops.getD i default).after.toList.any fun e=>Region.binds .any e&&(a == e.on||(bs.getD e.on 0).testBit a)) &&
  vl.all fun o=>o.op.plain
def M3(bs:List Nat)(vl:List VOp)(fs:List (Option J9)):Bool :=
  let n:=vl.length
  (List.range n).all (fun i=>(List.range i).all fun a=>((bs.getD i 0).testBit a||amW (vl.getD a default) (vl.getD i default) (fs.getD a none) (fs.getD i none))&&rW (vl.getD a default) (vl.getD i default)&&rW (vl.getD i default) (vl.getD a default))
def K4:Value→Option C
  | .bool b=>some (.imm (.sc (.bool b)))
  | .int k n=>some (.imm (.sc (.int k n)))
  | .string s=>some (.imm (.sc (.string s)))
  | .pointer none=>some (.imm (.sc (.pointer none)))
  | .nilFunc=>some (.imm (.sc .nilFunc))
  | .slice none 0 0=>some .nilS
  | .map none=>some .nilM
  | _=>none
def DK:Value→Option V
  | .agg cs=>(cs.toList.mapM K4).map .agg
  | v=>(K4 v).map .c
def bX:Operand→Option Opd
  | .tmp t=>some (.tmp t)
  | .const v=>(DK v).map .con
  | .func f=>some (.fn f)
  | .global _=>none
def aMX:TypeDesc→Bool
  | .int _ | .string | .bool=>true
  | _=>false
def c6:TypeDesc→Bool
  | .struct _ | .array _ _=>true
  | _=>false
section
variable (P:Program)
def Iq(t:TypeId):Option (List C):=((P.info? t).bind (·.zero)).bind fun z=>z.cells.toList.mapM K4
def Hq(t:TypeId):Option (TypeDesc×TypeInfo):=(P.underlying t).bind fun d=>(P.info? t).map fun i=>(d,i)
def u6(pl:Nat→Option (Nat×Nat))(parts:List (Nat×Operand)):Option (List (Nat×Nat×Opd)) :=
  parts.mapM fun p=>(pl p.1).bind fun q=>(bX p.2).map fun x=>(q.1,q.2,x)
def cOp(o:Oper):Option VO :=
  match o.op with
  | .move x | .assign x=>(bX x).map .mv
  | .pick c a b=>(bX c).bind fun c=>(bX a).bind fun a=>(bX b).map fun b=>.pick c a b
  | .build t parts=>(Iq P t).bind fun z=>(P.underlying t).bind fun
      | .struct fs=>(fs.toList.mapM fun f=>(P.info? f.type).map fun i=>(f.offset,i.size)).bind fun pl=>(u6 (pl.toArray[·]?) parts.toList).map fun ps=>.build z ps
      | .array _ e=>(P.info? e).bind fun i=>(u6 (fun j=>some (j*i.size,i.size)) parts.toList).map fun ps=>.build z ps
      | _=>none
  | .load t x=>(Hq P t).bind fun(d,i)=>(bX x).bind fun x=>if c6 d then some (.load i.size true x)else some (.load 1 false x)
  | .nilCheck x=>(bX x).map .nilc
  | .fieldAddr s x f=>(P.underlying s).bind fun
      | .struct fs=>(fs[f]?).bind fun fd=>(P.info? fd.type).bind fun fi=>if fi.size=0 then none else(bX x).map fun x=>.fld fd.offset x
      | _=>none
  | .field s x f=>(P.underlying s).bind fun
      | .struct fs=>(fs[f]?).bind fun fd=>(Hq P fd.type).bind fun(d,i)=>(bX x).map fun x=>if c6 d then .field fd.offset i.size true x else .field fd.offset 1 false x
      | _=>none
  | .indexAddr t x i=>(P.underlying t).bind fun
      | .slice e=>(P.info? e).bind fun ie=>(bX x).bind fun x=>(bX i).map fun i=>.ixA ie.size x i
      | .array n e=>(P.info? e).bind fun ie=>(bX x).bind fun x=>(bX i).map fun i=>.ixAA n ie.size x i
      | _=>none
  | .index t x i=>(P.underlying t).bind fun
      | .string=>(bX x).bind fun x=>(bX i).map fun i=>.ixS x i
      | .array n e=>(Hq P e).bind fun(d,ie)=>(bX x).bind fun x=>(bX i).map fun i=>if c6 d then .ixR n ie.size true x i else .ixR n ie.size false x i
      | _=>none
  | .binOp op t x y _=>(P.underlying t).bind fun d=>(bX x).bind fun x=>(bX y).bind fun y =>
      match d,op with
      | .pointer _,.eql=>some (.peq false x y)
      | .pointer _,.neq=>some (.peq true x y)
      | .map _ _,.eql=>some (.meq false x y)
      | .map _ _,.neq=>some (.meq true x y)
      | .struct _,.eql=>some (.aeq false t x y)
      | .struct _,.neq=>some (.aeq true t x y)
      | .array _ _,.eql=>some (.aeq false t x y)
      | .array _ _,.neq=>some (.aeq true t x y)
      | .int _,op=>some (.bin op x y)
      | .string,op=>some (.bin op x y)
      | .bool,.eql=>some (.beq false x y)
      | .bool,.neq=>some (.beq true x y)
      | _,_=>none
  | .unOp op _ x=>(bX x).map fun x=>.un op x
  | .convert src dst x=>(P.underlying src).bind fun _=>(P.underlying dst).bind fun
      | .int k=>(bX x).map fun x=>.cvi k x
      | .string=>(bX x).map fun x=>.cvs x
      | _=>none
  | .extract x i=>(bX x).map fun x=>.ext x i
  | .makeFunc (.func f) first caps=>if first.size=0 then(caps.toList.mapM bX).map fun cs=>.mkfn f cs else none
  | .slice t x lo hi none=>(P.underlying t).bind fun
      | .slice e => (P.info? e).bind fun ie => (bX x).bind fun x => (match lo with | none => some none | some l => (bX l).map some).bind fun lo => (match hi with | none => some none | some l => (bX l).map some).map fun hi => .sub ie.size x lo hi
      | .string => (bX x).bind fun x => (match lo with | none => some none | some l => (bX l).map some).bind fun lo => (match hi with | none => some none | some l => (bX l).map some).map fun hi => .subS x lo hi
      | _=>none
  | .alloc e=>(Iq P e).map fun z=>.alloc e z
  | .box e x=>(bX x).map fun x=>.box e x
  | .makeSlice t l c=>(P.underlying t).bind fun
      | .slice e=>(P.info? e).bind fun ie=>(Iq P e).bind fun z=>if 0<ie.size∧z.length=ie.size then(bX l).bind fun l=>(bX c).map fun c=>.mksl e ie.size ie.bytes z l c else none
      | _=>none
  | .buildSlice t len parts=>(P.underlying t).bind fun
      | .slice e=>(P.info? e).bind fun ie=>(Iq P e).bind fun z=>(u6 (fun j=>some (j*ie.size,ie.size)) parts.toList).bind fun ps =>
          if 0<ie.size∧len*ie.size≤16777216∧z.length=ie.size then some (.bsl e ie.size len z ps)else none
      | _=>none
  | .makeMap t none=>(P.underlying t).bind fun
      | .map k _=>(P.underlying k).bind fun kd=>if aMX kd=true then some (.mkmap kd)else none
      | _=>none
  | .lookup t x i ok=>(P.underlying t).bind fun
      | .map k e=>(P.underlying k).bind fun kd=>((P.info? e).bind (·.zero)).bind fun z=>(DK z).bind fun z=>(bX x).bind fun x=>(bX i).map fun i=>.look kd z ok x i
      | _=>none
  | .mapUpdate t x i v | .insert t x i v=>(P.underlying t).bind fun
      | .map k _=>(P.underlying k).bind fun kd=>(bX x).bind fun x=>(bX i).bind fun i=>(bX v).map fun v=>.mupd kd x i v
      | _=>none
  | .store t x v=>(P.info? t).bind fun i=>(bX x).bind fun x=>(bX v).map fun v=>.store i.size x v
  | .call c =>
    match c.callee with
    | .value (.func f) => (P.funcs[f]?).bind fun fn => if fn.body.isSome && !(fn.name == "runtime.NumGoroutine") then (c.args.toList.mapM bX).map fun as => .call f as else none
    | .value x=>(bX x).bind fun x=>(c.args.toList.mapM bX).map fun as=>.callv x as
    | .builtin .len=>match c.argTypes[0]? with
      | some t=>(P.underlying t).bind fun
        | .slice _ => match c.args.toList with | [x] => (bX x).map .lenS | _ => none
        | .map _ _ => match c.args.toList with | [x] => (bX x).map .lenM | _ => none
        | .string => match c.args.toList with | [x] => (bX x).map .lenT | _ => none
        | _=>none
      | none=>none
    | .builtin .min=>(c.args.toList.mapM bX).map (.mm false)
    | .builtin .max=>(c.args.toList.mapM bX).map (.mm true)
    | .builtin .append=>match c.argTypes.toList,c.args.toList with
      | [t,u],[s,x]=>(P.underlying t).bind fun
        | .slice e=>(P.info? e).bind fun ie=>if t=u∧0<ie.size∧(ie.zero.map fun z=>z.cells.size)=some ie.size then(bX s).bind fun s=>(bX x).map fun x=>.app e ie.size ie.bytes s x else none
        | _=>none
      | _,_=>none
    | _=>none
  | _=>none
def ZW(n:Nat):Option Nat→Bool
  | some d=>decide (d<n)
  | none=>true
def kq(n:Nat)(ops:Array Oper)(o:Oper):Option VOp :=
  if ZW n o.dst=true then(cOp P o).bind fun op=>match o.guard with
    | none=>some ⟨o.dst,op,none⟩
    | some (j,b)=>((ops[j]?).bind (·.dst)).map fun t=>⟨o.dst,op,some (t,b)⟩
  else none
def aRq(ops:Array Oper)(i:Nat):Bool:=match ops[i]? with
  | none=>false
  | some o => (match o.op with | .move _ => true | .assign _ => true | _ => false)&&o.guard.isNone&&(o.after.toList.all fun e => !Region.binds .any e)&&Region.noSelect ops &&
    (List.range ops.size).all fun j=>j == i||match ops[j]? with
      | some oj=>(oj.after.toList.any fun e=>Region.binds .any e&&e.on == i)||o.apart ops oj
      | none=>true
def BZ(ops:Array Oper):List Nat:=(List.range ops.size).map (fun i=>(Region.before ops).getD i 0)++(List.range ops.size).map (fun i=>if aRq ops i=true then 1 else 0)
def AW(n:Nat)(ops:Array Oper)(draw:Bool):Option VC :=
  (ops.toList.mapM (kq P n ops)).bind fun vl=>if draw=true→(MJ ops vl=true∧P.follows .mixedOrders=true)then some (.region (if draw=true then some (BZ ops)else none) vl)else none
def gV(n:Nat):Code→Option VC
  | .skip=>some .skip
  | .region _ ops draw=>some ((AW P n ops draw).getD .bad)
  | .seq a b=>(gV n a).bind fun a=>(gV n b).map fun b=>.seq a b
  | .cond c a b=>(bX c).bind fun c=>(gV n a).bind fun a=>(gV n b).map fun b=>.cond c a b
  | .block id c=>(gV n c).map (.block id)
  | .loop c=>(gV n c).map .loop
  | .exit id=>some (.exit id)
  | .ret=>some .ret
  | _=>some .bad
theorem tz{n:Nat}{ops:Array Oper}{draw:Bool}:(AW P n ops draw).getD .bad = .bad∨∃d vl,(AW P n ops draw).getD .bad = .region d vl:=by
  unfold AW
  cases ops.toList.mapM (kq P n ops)with
  | none=>exact .inl rfl
  | some vl =>
    simp only[dk]
    split
    ·exact .inr ⟨_,_,rfl⟩
    ·exact .inl rfl
theorem azV{n:Nat}{ops:Array Oper}{draw:Bool}:((AW P n ops draw).getD .bad = .skip)=False:=by
  rcases tz P (n := n) (ops := ops) (draw := draw)with h | ⟨d,vl,h⟩<;>rw[h]<;>simp
theorem axz{n:Nat}{ops:Array Oper}{draw:Bool}{id:Nat}:((AW P n ops draw).getD .bad = .exit id)=False:=by
  rcases tz P (n := n) (ops := ops) (draw := draw)with h | ⟨d,vl,h⟩<;>rw[h]<;>simp
theorem aIj{n:Nat}{ops:Array Oper}{draw:Bool}:((AW P n ops draw).getD .bad = .ret)=False:=by
  rcases tz P (n := n) (ops := ops) (draw := draw)with h | ⟨d,vl,h⟩<;>rw[h]<;>simp
theorem aCV{n:Nat}{ops:Array Oper}{draw:Bool}{a b:VC}:((AW P n ops draw).getD .bad = .seq a b)=False:=by
  rcases tz P (n := n) (ops := ops) (draw := draw)with h | ⟨d,vl,h⟩<;>rw[h]<;>simp
theorem azY{n:Nat}{ops:Array Oper}{draw:Bool}{c:Opd}{a b:VC}:((AW P n ops draw).getD .bad = .cond c a b)=False:=by
  rcases tz P (n := n) (ops := ops) (draw := draw)with h | ⟨d,vl,h⟩<;>rw[h]<;>simp
theorem amj{n:Nat}{ops:Array Oper}{draw:Bool}{id:Nat}{b:VC}:((AW P n ops draw).getD .bad = .block id b)=False:=by
  rcases tz P (n := n) (ops := ops) (draw := draw)with h | ⟨d,vl,h⟩<;>rw[h]<;>simp
theorem ayJ{n:Nat}{ops:Array Oper}{draw:Bool}{b:VC}:((AW P n ops draw).getD .bad = .loop b)=False:=by
  rcases tz P (n := n) (ops := ops) (draw := draw)with h | ⟨d,vl,h⟩<;>rw[h]<;>simp
theorem ahq{n:Nat}{ops:Array Oper}{draw:Bool}{d:Option (List Nat)}{vl:List VOp}(h:(AW P n ops draw).getD .bad = .region d vl):AW P n ops draw=some (.region d vl):=by
  cases e:AW P n ops draw with
  | none=>rw[e]at h;simp at h
  | some v=>rw[e]at h;exact congrArg some h
end
end Go.VM
namespace Go.VM
def ev(Γ:Env):Opd→V
 | .tmp t=>Γ t
 | .con x=>x
 | .fn f=>.c (.fn f [])
def scV(v:Value):V:=.c (.imm (.sc v))
def bV(b:Bool):V:=.c (.imm (.sc (.bool b)))
def iV(n:Int):V:=.c (.imm (.sc (.int .i64 n)))
def idx{α:Type}(l:List α)(n:Int):Option α:=if 0≤n then l[n.toNat]? else none
def c5:V→Option (List C)
 | .c x=>some [x]
 | .agg cs=>some cs
 | _=>none
def mkV(g:Bool)(cs:List C):V :=
 match g,cs with
 | true,cs=>.agg cs
 | false,[c]=>.c c
 | false,_=>.junk
def rd(h:Heap):V→Nat→Option (List C)
 | .c (.ptrI cells),n=>if n≤cells.length then some ((cells.take n).map .imm)else none
 | .c (.ptrO o off),n=>match h o with
  | some (.box cs)=>if off+n≤cs.length then some ((cs.drop off).take n)else none
  | _=>none
 | .c (.elO o k i off),n=>match h o with
  | some (.arr _ k' rows)=>if k'=k then(rows[i]?).bind fun row=>if off+n≤row.length then some (((row.drop off).take n).map .imm)else none else none
  | _=>none
 | _,_=>none
def setAt:List C→Nat→List C→List C
 | cur,_,[]=>cur
 | cur,off,c::r=>setAt (cur.set off c) (off+1) r
def xx(e:Opd→V):List C→List (Nat×Nat×Opd)→Option (List C)
 | cur,[]=>some cur
 | cur,(off,sz,x)::r=>match c5 (e x)with
  | some cs=>if cs.length=sz∧off+cs.length≤cur.length then xx e (setAt cur off cs) r else none
  | none=>none
section
variable {w:World} {ok:Nat→Prop} {B:Oid→Value}
theorem d0{v u:Value}(h:RepV w ok B v (.c (.imm (.sc u)))):v=u:=by
 cases h with
 | imm _ _ h=>cases h;rfl
theorem Zq{v:Value}{b:Bool}(h:RepV w ok B v (bV b)):v = .bool b:=d0 h
theorem P8{v:Value}{n:Int}(h:RepV w ok B v (iV n)):v = .int .i64 n:=d0 h
theorem wX{v:Value}(h:v.oneCell'=true):RepV w ok B v (.c (.imm (.sc v))):=RepC.imm v _ (.sc v h)
theorem aAY(b:Bool):RepV w ok B (.bool b) (bV b):=wX rfl
theorem akY(n:Int):RepV w ok B (.int .i64 n) (iV n):=wX rfl
theorem cells_one{v:Value}(h:v.oneCell'=true):v.cells = #[v]:=by cases v<;>first | rfl | simp[Value.oneCell']at h
theorem xV{v:Value}{x:V}{cs:List C}(h:RepV w ok B v x)(hx:c5 x=some cs):Pt (RepC w ok B) v.cells.toList cs:=by
 cases x with
 | c y =>
  simp[c5]at hx;subst hx
  have h1:RepC w ok B v y:=h
  rw[cells_one h1.one]
  exact⟨rfl,fun j u z hu hz=>by
   cases j with
   | zero=>simp at hu hz;subst hu;subst hz;exact h1
   | succ j=>simp at hu⟩
 | agg ys =>
  simp[c5]at hx;subst hx
  obtain⟨cs',rfl,hp⟩:=h
  exact hp
 | tup _=>simp[c5]at hx
 | junk=>simp[c5]at hx
theorem Pt.set{α β:Type}{R:α→β→Prop}{cs:List α}{xs:List β}(h:Pt R cs xs){v:α}{x:β}(hr:R v x)(i:Nat):Pt R (cs.set i v) (xs.set i x):=by
 refine⟨by simpa using h.1,fun j u z hu hz=>?_⟩
 simp only[kw]at hu hz
 by_cases e:i=j
 ·subst e
  have hl:=h.1
  by_cases hi:i<cs.length
  ·have hi':i<xs.length:=by omega
   simp[hi]at hu;simp[hi']at hz;subst hu;subst hz;exact hr
  ·simp[hi]at hu
 ·simp[e]at hu hz;exact h.2 j u z hu hz
theorem Pt.take{α β:Type}{R:α→β→Prop}{cs:List α}{xs:List β}(h:Pt R cs xs)(n:Nat):Pt R (cs.take n) (xs.take n):=by
 refine⟨by simp[h.1],fun j u z hu hz=>?_⟩
 simp only[zw]at hu hz
 by_cases e:j<n
 ·simp[e]at hu hz;exact h.2 j u z hu hz
 ·simp[e]at hu
theorem Pt.drop{α β:Type}{R:α→β→Prop}{cs:List α}{xs:List β}(h:Pt R cs xs)(n:Nat):Pt R (cs.drop n) (xs.drop n):=by
 refine⟨by simp[h.1],fun j u z hu hz=>?_⟩
 simp only[List.getElem?_drop]at hu hz
 exact h.2 _ u z hu hz
theorem Pt.append{α β:Type}{R:α→β→Prop}{cs ds:List α}{xs ys:List β}(h:Pt R cs xs)(h':Pt R ds ys):Pt R (cs++ds) (xs++ys):=by
 refine⟨by simp[h.1,h'.1],fun j u z hu hz=>?_⟩
 simp only[List.getElem?_append,h.1]at hu hz
 by_cases e:j<xs.length
 ·simp[e]at hu hz;exact h.2 j u z (by simpa[cw,h.1,e]using hu) (by simpa[cw,e]using hz)
 ·simp[e]at hu hz;exact h'.2 _ u z hu hz
theorem Pt.nil{α β:Type}{R:α→β→Prop}:Pt R [] []:=⟨rfl,fun j u z hu=>by simp at hu⟩
theorem Pt.cons{α β:Type}{R:α→β→Prop}{c:α}{x:β}{cs:List α}{xs:List β}(h0:R c x)(h:Pt R cs xs):Pt R (c::cs) (x::xs):=by
 refine⟨by simp[h.1],fun j u z hu hz=>?_⟩
 cases j with
 | zero=>simp at hu hz;subst hu;subst hz;exact h0
 | succ j=>simp at hu hz;exact h.2 j u z hu hz
theorem Pt.of_map{α β γ:Type}{R:α→β→Prop}{R':α→γ→Prop}{f:β→γ}{cs:List α}{xs:List β}(h:Pt R cs xs)(hr:∀v x,R v x→R' v (f x)):Pt R' cs (xs.map f):=by
 refine⟨by simp[h.1],fun j u z hu hz=>?_⟩
 simp only[jw]at hz
 cases hx:xs[j]? with
 | none=>simp[hx]at hz
 | some x=>simp[hx]at hz;subst hz;exact hr _ _ (h.2 j u x hu hx)
theorem tq(cur:List C)(off:Nat)(cs:List C):(setAt cur off cs).length=cur.length:=by
 induction cs generalizing cur off with
 | nil=>rfl
 | cons c r ih=>simp[setAt,ih]
theorem Cz(off:Nat):∀(vs:List Value) (cs:List C) (n:Nat) (cur:Array Value) (xs:List C),Pt (RepC w ok B) vs cs→Pt (RepC w ok B) cur.toList xs →
  Pt (RepC w ok B) ((vs.zipIdx n).foldl (fun cs (x:Value×Nat)=>cs.setIfInBounds (off+x.2) x.1) cur).toList (setAt xs (off+n) cs)
 | [],cs,n,cur,xs,hp,hc=>by
  have:cs=[]:=fk (by have:=hp.1;simpa using this.symm)
  subst this;simpa[setAt]using hc
 | v::vs,cs,n,cur,xs,hp,hc=>by
  cases cs with
  | nil=>have:=hp.1;simp at this
  | cons c cs =>
   have h0:RepC w ok B v c:=hp.2 0 v c rfl rfl
   have ht:Pt (RepC w ok B) vs cs:=⟨by have:=hp.1;simpa using this,fun j u z hu hz=>hp.2 (j+1) u z (by simpa using hu) (by simpa using hz)⟩
   simp only[List.zipIdx_cons,List.foldl_cons,setAt]
   have:=Cz off vs cs (n+1) (cur.setIfInBounds (off+n) v) (xs.set (off+n) c) ht (by rw[Array.toList_setIfInBounds];exact hc.set h0 _)
   simpa[Nat.add_assoc]using this
theorem u9{e:Opd→V}{ρ:Operand→Value}(place:Nat→Option (Nat×Nat))(hev:∀x y,bX x=some y→RepV w ok B (ρ x) (e y)) :
  ∀(parts:List (Nat×Operand)) (ps:List (Nat×Nat×Opd)) (cur:Array Value) (xs zs:List C),u6 place parts=some ps→Pt (RepC w ok B) cur.toList xs→xx e xs ps=some zs →
  ∃cells,Instr.fill place cur (parts.map fun p=>(p.1,ρ p.2))=some cells∧Pt (RepC w ok B) cells.toList zs
 | [],ps,cur,xs,zs,hps,hc,hf=>by
  simp[u6]at hps;subst hps
  simp[xx]at hf;subst hf
  exact⟨cur,rfl,hc⟩
 | p::parts,ps,cur,xs,zs,hps,hc,hf=>by
  simp only[u6,List.mapM_cons,Option.bind_eq_bind,Option.pure_def]at hps
  cases hpl:place p.1 with
  | none=>simp[hpl]at hps
  | some q =>
   cases hx:bX p.2 with
   | none=>simp[hpl,hx]at hps
   | some y =>
    cases hr:parts.mapM (fun p=>(place p.1).bind fun q=>(bX p.2).map fun x=>(q.1,q.2,x))with
    | none=>simp[hpl,hx,hr]at hps
    | some rest =>
     simp[hpl,hx,hr]at hps
     subst hps
     simp only[xx]at hf
     cases hcs:c5 (e y)with
     | none=>simp[hcs]at hf
     | some cs =>
      simp only[hcs]at hf
      split at hf
      ·rename_i hcond
       have hp:=xV (hev _ _ hx) hcs
       have hl:(ρ p.2).cells.size=cs.length:=by have:=hp.1;simpa using this
       have hfold:=Cz q.1 (ρ p.2).cells.toList cs 0 cur xs hp hc
       have:=u9 place hev parts rest _ (setAt xs q.1 cs) zs hr hfold hf
       obtain⟨cells,h1,h2⟩:=this
       refine⟨cells,?_,h2⟩
       obtain⟨off,size⟩:=q
       simp only[qk,Instr.fill,hpl]
       have hcl:cur.size=xs.length:=by have:=hc.1;simpa using this
       have e1 : ¬((ρ p.2).cells.size≠size):=by simp at hcond;omega
       have e2 : ¬(off+(ρ p.2).cells.size > cur.size):=by simp at hcond;omega
       simp only[e1,e2,decide_false,Bool.or_self,rk,sk]
       rw[←h1]
       congr 1
       rw[←Array.foldl_toList,Array.toList_zipIdx]
      ·simp at hf
end
end Go.VM
namespace Go.VM
theorem gX(b off n:Nat):(⟨b,off,none⟩ : Addr).add n=⟨b,off+n,none⟩:=by
 unfold Addr.add;split<;>simp_all
section
variable {P:Program} {K:Ctx} {B:Oid→Value} {Γ:Env} {h:Heap} {a:Act} {w:World}
abbrev okS(K:Ctx)(w:World)(B:Oid→Value)(h:Heap):Nat→Prop:=mK K.w0.heap.size K.ok0 w B h
theorem Sj{v:Value}{c:C}{ok:Nat→Prop}(hc:K4 v=some c):RepC w ok B v c:=by
 unfold K4 at hc
 split at hc<;>first | (cases hc;first | exact .imm _ _ (.sc _ rfl) | exact .nilS | exact .nilM) | (simp at hc)
theorem DV{ok:Nat→Prop}:∀(vs:List Value) (cs:List C),vs.mapM K4=some cs→Pt (RepC w ok B) vs cs
 | [],cs,h=>by simp at h;subst h;exact Pt.nil
 | v::vs,cs,h=>by
  simp only[List.mapM_cons,Option.bind_eq_bind,Option.pure_def]at h
  cases hv:K4 v with
  | none=>simp[hv]at h
  | some c =>
   cases hr:vs.mapM K4 with
   | none=>simp[hv,hr]at h
   | some r=>simp[hv,hr]at h;subst h;exact Pt.cons (Sj hv) (DV vs r hr)
theorem u5{v:Value}{x:V}{ok:Nat→Prop}(hc:DK v=some x):RepV w ok B v x:=by
 unfold DK at hc
 split at hc
 ·rename_i cs
  cases hm:cs.toList.mapM K4 with
  | none=>simp[hm]at hc
  | some r=>simp[hm]at hc;subst hc;exact⟨cs,rfl,DV _ _ hm⟩
 ·cases hm:K4 v with
  | none=>simp[hm]at hc
  | some r=>simp[hm]at hc;subst hc;exact Sj hm
theorem aX(s:StB K B Γ h a w){x:Operand}{y:Opd}(hc:bX x=some y):RepV w (okS K w B h) B (a.eval x) (ev Γ y):=by
 cases x with
 | tmp t=>simp[bX]at hc;subst hc;exact s.slots t
 | const v =>
  simp only[bX]at hc
  cases hv:DK v with
  | none=>simp[hv]at hc
  | some z=>simp[hv]at hc;subst hc;exact u5 hv
 | func f=>simp[bX]at hc;subst hc;exact RepC.fn f [] [] Pt.nil
 | global g=>simp[bX]at hc
def Lies(w:World)(b off:Nat)(vs:List Value):Prop:=∀(j:Nat) v,vs[j]? = some v→w.cell? ⟨b,off+j,none⟩=some v
theorem At.list{ok:Nat→Prop}{b:Nat}:∀(cells:List T) (off:Nat),At w ok b off cells→∃vs,Lies w b off vs∧Pt (RepT w ok) vs cells
 | [],_,_=>⟨[],fun j v hv=>by simp at hv,Pt.nil⟩
 | t::cells,off,h=>by
  obtain⟨v,hv,hr⟩:=h.2 0 t rfl
  obtain⟨vs,h1,h2⟩:=At.list cells (off+1) ⟨h.1,fun j x hx=>by
   obtain⟨u,hu,hr⟩:=h.2 (j+1) x (by simpa using hx)
   exact⟨u,by rw[←hu];congr 2;omega,hr⟩⟩
  refine⟨v::vs,fun j u hu=>?_,Pt.cons hr h2⟩
  cases j with
  | zero=>simp at hu;subst hu;exact hv
  | succ j=>simp at hu;rw[←h1 j u hu];congr 2;omega
theorem Lies.take{b off:Nat}{vs:List Value}(h:Lies w b off vs)(n:Nat):Lies w b off (vs.take n):=fun j v hv=>by
 simp only[zw]at hv
 split at hv
 ·exact h j v hv
 ·simp at hv
theorem Lies.drop{b off:Nat}{vs:List Value}(h:Lies w b off vs)(n:Nat):Lies w b (off+n) (vs.drop n):=fun j v hv=>by
 simp only[List.getElem?_drop]at hv
 rw[←h _ v hv];congr 2;omega
theorem flatten_get{α:Type}{k:Nat}:∀(rows:List (List α)) (i:Nat) (row:List α),(∀r∈rows,r.length=k)→rows[i]? = some row →
  (rows.flatten.drop (i*k)).take k=row
 | [],i,row,_,h=>by simp at h
 | r::rows,0,row,hk,h=>by
  simp at h;subst h
  have:=hk r (by simp)
  simp[←this]
 | r::rows,i+1,row,hk,h=>by
  have h0:=hk r (by simp)
  have ih:=flatten_get rows i row (fun x hx=>hk x (by simp[hx])) (by simpa using h)
  simp only[yk]
  rw[show(i+1)*k=r.length+i*k from by rw[h0,Nat.add_mul];omega,←List.drop_drop]
  simpa using ih
theorem afW(s:StB K B Γ h a w){v:Value}{x:V}{n:Nat}{cs:List C}(hx:RepV w (okS K w B h) B v x)(hr:rd h x n=some cs) :
  ∃b off vs,v = .pointer (some ⟨b,off,none⟩)∧vs.length=n∧Lies w b off vs∧Pt (RepC w (okS K w B h) B) vs cs:=by
 cases x with
 | agg _=>simp[rd]at hr
 | tup _=>simp[rd]at hr
 | junk=>simp[rd]at hr
 | c y=>cases y with
  | imm _=>simp[rd]at hr
  | nilS=>simp[rd]at hr
  | nilM=>simp[rd]at hr
  | slO _=>simp[rd]at hr
  | mapO _=>simp[rd]at hr
  | fn _ _=>simp[rd]at hr
  | junk=>simp[rd]at hr
  | ptrI cells =>
   simp only[rd]at hr
   split at hr
   ·cases hr
    cases hx with
    | ptrI b off _ hat =>
     obtain⟨vs,h1,h2⟩:=At.list (b:=b) cells off hat
     refine⟨b,off,vs.take n,rfl,by have:=h2.1;simp;omega,h1.take _,(h2.take n).of_map fun v x hv=>.imm v x hv⟩
   ·simp at hr
  | ptrO o off =>
   simp only[rd]at hr
   cases bY:h o with
   | none=>simp[bY]at hr
   | some ob=>cases ob with
    | arr _ _ _=>simp[bY]at hr
    | map _=>simp[bY]at hr
    | mapC _ _=>simp[bY]at hr
    | arrC _ _ _=>simp[bY]at hr
    | fam _=>simp[bY]at hr
    | box bs =>
     simp only[bY]at hr
     split at hr
     ·cases hr
      cases hx with
      | ptrO _ _ b hB =>
       obtain⟨b',c,t,hv,hh,hp⟩:=s.objs.rep o _ bY
       rw[hB]at hv
       cases hv
       refine⟨b,off,(c.toList.drop off).take n,rfl,by have:=hp.1;simp at this ⊢;omega,?_,(hp.drop off).take n⟩
       refine Lies.take ?_ _
       have:Lies w b 0 c.toList:=fun j v hv=>by simp[World.cell?,hh,←Array.getElem?_toList,hv]
       simpa using this.drop off
     ·simp at hr
  | elO o k i off =>
   simp only[rd]at hr
   cases bY:h o with
   | none=>simp[bY]at hr
   | some ob=>cases ob with
    | box _=>simp[bY]at hr
    | map _=>simp[bY]at hr
    | mapC _ _=>simp[bY]at hr
    | arrC _ _ _=>simp[bY]at hr
    | fam _=>simp[bY]at hr
    | arr e k' rows =>
     simp only[bY]at hr
     split at hr
     ·rename_i hk;subst hk
      cases hrow:rows[i]? with
      | none=>simp[hrow]at hr
      | some row =>
       simp only[hrow,dk]at hr
       split at hr
       ·cases hr
        cases hx with
        | elO _ _ _ _ b len cap hB =>
         obtain⟨h0,hk,ds,hown,hp⟩:=s.objs.rep o _ bY
         rw[hB]at hown
         rcases hown.2 with⟨hv,_⟩ | ⟨g,cap',cur,hv,_,hh,_,_,_,htake⟩
         ·cases hv
         ·cases hv
          have hl1:Lies w b 0 ds:=fun j v hv=>by
           rw[←htake,zw]at hv
           split at hv
           ·simp[World.cell?,hh,←Array.getElem?_toList,hv]
           ·simp at hv
          have hrl:=hk row (nw hrow)
          have hf:=flatten_get rows i row hk hrow
          have hpr:Pt (RepT w (okS K w B h)) ((ds.drop (i*k')).take k') row:=by rw[←hf];exact(hp.drop _).take _
          refine⟨b,i*k'+off,(((ds.drop (i*k')).take k').drop off).take n,rfl,by have:=hpr.1;simp at this ⊢;omega,?_,?_⟩
          ·have:=(((hl1.drop (i*k')).take k').drop off).take n
           simpa using this
          ·exact((hpr.drop off).take n).of_map fun v x hv=>.imm v x hv
       ·simp at hr
     ·simp at hr
theorem jK{t:TypeId}{d:TypeDesc}{i:TypeInfo}(hd:P.underlying t=some d)(hi:P.info? t=some i){b off:Nat}{vs:List Value}(hl:Lies w b off vs) :
  (c6 d=true→vs.length=i.size→(loadVar t ⟨b,off,none⟩).run P w = .ok (.agg vs.toArray) w) ∧
  (c6 d=false→∀v,vs=[v]→(loadVar t ⟨b,off,none⟩).run P w = .ok v w):=by
 have hag:(isAgg t).run P w = .ok (c6 d) w:=by
  simp only[isAgg,Sem.run_bind,run_underlying hd,Result.andThen_ok]
  cases d<;>rfl
 refine⟨fun hg hlen=>?_,fun hg v hv=>?_⟩
 ·have:=run_loadCells_list (P:=P) w ⟨b,off,none⟩ vs (fun j v hv=>by rw[gX];exact hl j v hv)
  simp[loadVar,hag,hg,sizeOf,typeInfo,hi,←hlen,this]
 ·subst hv
  have:=hl 0 v rfl
  simp at this
  simp[loadVar,hag,hg,this]
theorem JY{ok:Nat→Prop}{vs:List Value}{cs:List C}(hp:Pt (RepC w ok B) vs cs):RepV w ok B (.agg vs.toArray) (mkV true cs) :=
 ⟨vs.toArray,rfl,by simpa using hp⟩
theorem zz{ok:Nat→Prop}{v:Value}{cs:List C}(hp:Pt (RepC w ok B) [v] cs):RepV w ok B v (mkV false cs):=by
 match cs,hp with
 | [c],hp=>exact hp.2 0 v c rfl rfl
 | [],hp=>have:=hp.1;simp at this
 | _::_::_,hp=>have:=hp.1;simp at this
theorem I1(s:StB K B Γ h a w){t:TypeId}{x:Operand}{y:Opd}{d:TypeDesc}{i:TypeInfo}(hd:P.underlying t=some d)(hi:P.info? t=some i)(hx:bX x=some y)
  {cs:List C} {n:Nat} (hn:n=if c6 d then i.size else 1) (hr:rd h (ev Γ y) n=some cs) :
  ∃v,(Instr.loadAt t (a.eval x)).run P w = .ok v w∧RepV w (okS K w B h) B v (mkV (c6 d) cs):=by
 obtain⟨b,off,vs,hv,hlen,hl,hp⟩:=afW s (aX s hx) hr
 have hrun:=jK (P:=P) hd hi hl
 cases hg:c6 d with
 | true =>
  simp[hg]at hn
  exact⟨_,by simp[Instr.loadAt,hv,Instr.sureAddr,hrun.1 hg (hlen.trans hn)],JY hp⟩
 | false =>
  simp[hg]at hn
  match vs,hlen.trans hn with
  | [v],_=>exact⟨v,by simp[Instr.loadAt,hv,Instr.sureAddr,hrun.2 hg v rfl],zz hp⟩
end
end Go.VM
namespace Go.VM
def O1:V→Bool
 | .c (.ptrI _) | .c (.ptrO ..) | .c (.elO ..)=>true
 | _=>false
def aaY:V→Nat→Option V
 | .c (.ptrI cells),n=>some (.c (.ptrI (cells.drop n)))
 | .c (.ptrO o off),n=>some (.c (.ptrO o (off+n)))
 | .c (.elO o k i off),n=>some (.c (.elO o k i (off+n)))
 | _,_=>none
def ixV(h:Heap)(k:Nat):V→Int→V→Prop
 | .c (.imm (.sl k' rows)),n,r=>k'=k∧∃row,idx rows n=some row∧r = .c (.ptrI row)
 | .c (.slO o),n,r=>∃e rows,h o=some (.arr e k rows)∧0≤n∧n.toNat<rows.length∧r = .c (.elO o k n.toNat 0)
 | _,_,_=>False
def aKx(k:IntKind)(a b:Int):Int:=k.wrap (BitVec.ofInt k.bits a &&& BitVec.ofInt k.bits b).toNat
def bOr(k:IntKind)(a b:Int):Int:=k.wrap (BitVec.ofInt k.bits a ||| BitVec.ofInt k.bits b).toNat
def aOz(k:IntKind)(a b:Int):Int:=k.wrap (BitVec.ofInt k.bits a ^^^ BitVec.ofInt k.bits b).toNat
def shL(k:IntKind)(a b:Int):Int:=k.wrap (a*2 ^ min b.toNat k.bits)
def shR(k:IntKind)(a b:Int):Int:=a.fdiv (2 ^ min b.toNat k.bits)
def aqY(op:BinOp)(k:IntKind)(a b:Int):Option Value :=
 match op with
 | .add=>some (.int k (k.wrap (a+b)))
 | .sub=>some (.int k (k.wrap (a-b)))
 | .mul=>some (.int k (k.wrap (a*b)))
 | .quo=>if b=0 then none else some (.int k (k.wrap (a.tdiv b)))
 | .rem=>if b=0 then none else some (.int k (a.tmod b))
 | .eql=>some (.bool (decide (a=b)))
 | .neq=>some (.bool (!decide (a=b)))
 | .lss=>some (.bool (decide (a<b)))
 | .leq=>some (.bool (decide (a≤b)))
 | .gtr=>some (.bool (decide (b<a)))
 | .geq=>some (.bool (decide (b≤a)))
 | .and=>some (.int k (aKx k a b))
 | .or=>some (.int k (bOr k a b))
 | .xor=>some (.int k (aOz k a b))
 | _=>none
def aNZ(op:BinOp)(k:IntKind)(a b:Int):Option Value :=
 match op with
 | .shl=>if b<0 then none else some (.int k (shL k a b))
 | .shr=>if b<0 then none else some (.int k (shR k a b))
 | _=>none
def sLt(a b:ByteArray):Bool:=Op.bytesLess a.toList b.toList
def atJ(op:BinOp)(a b:ByteArray):Option Value :=
 match op with
 | .add=>if((a.size+b.size:Nat):Int)≤9223372036854775807 then some (.string (a++b))else none
 | .eql=>some (.bool (decide (a=b)))
 | .neq=>some (.bool (!decide (a=b)))
 | .lss=>some (.bool (sLt a b))
 | .leq=>some (.bool (sLt a b||decide (a=b)))
 | .gtr=>some (.bool (!(sLt a b||decide (a=b))))
 | .geq=>some (.bool (!sLt a b))
 | _=>none
def aVX:BinOp→Bool
 | .shl | .shr=>true
 | _=>false
def zZ(op:BinOp):Value→Value→Option Value
 | .int k a,.int k' b=>if aVX op=true then aNZ op k a b else if k=k' then aqY op k a b else none
 | .string a,.string b=>atJ op a b
 | _,_=>none
def aEQ(op:BinOp):V→V→Option V
 | .c (.imm (.sc a)),.c (.imm (.sc b))=>(zZ op a b).map scV
 | _,_=>none
def eqS:Value→Value→Option Bool
 | .int k a,.int k' b=>if k=k' then some (decide (a=b))else none
 | .string a,.string b=>some (decide (a=b))
 | .bool a,.bool b=>some (decide (a=b))
 | _,_=>none
def eqL:List Value→List Value→Option Bool
 | [],[]=>some true
 | a::r,b::s=>(eqS a b).bind fun x=>(eqL r s).map (x && ·)
 | _,_=>none
def fits:List TypeDesc→List Value→Bool
 | [],[]=>true
 | kd::r,v::vs=>keyOf kd v&&fits r vs
 | _,_=>false
def afK:List TypeDesc→List C→Bool
 | [],[]=>true
 | kd::r,.imm (.sc v)::cs=>keyOf kd v&&afK r cs
 | _,_=>false
def QJ(P:Program)(t:TypeId)(sh:List TypeDesc):Prop :=
 P.eqGuardType P.depth t=false∧∀cs ds b w,eqL cs ds=some b→fits sh cs=true→(Op.equal t (.agg cs.toArray) (.agg ds.toArray)).run P w = .ok b w
def eqC:C→C→Option Bool
 | .imm (.sc a),.imm (.sc b)=>eqS a b
 | _,_=>none
def WK:List C→List C→Option Bool
 | [],[]=>some true
 | a::r,b::s=>(eqC a b).bind fun x=>(WK r s).map (x && ·)
 | _,_=>none
def acX:V→Option Bool
 | .c (.imm (.sc (.pointer none)))=>some true
 | .c (.ptrI _) | .c (.ptrO ..) | .c (.elO ..)=>some false
 | _=>none
def aMW(x y:V):Option Bool :=
 match acX x,acX y with
 | some true,some b=>some b
 | some b,some true=>some b
 | _,_=>none
def acz:V→Option Bool
 | .c .nilM=>some true
 | .c (.mapO _)=>some false
 | _=>none
def aKJ(x y:V):Option Bool :=
 match acz x,acz y with
 | some true,some b=>some b
 | some b,some true=>some b
 | _,_=>none
def abY(h:Heap):V→Option Int
 | .c (.imm (.sl _ rows))=>some rows.length
 | .c .nilS=>some 0
 | .c (.slO o)=>match h o with
  | some (.arr _ _ rows)=>some rows.length
  | _=>none
 | _=>none
def mmI(mx:Bool)(a b:Int):Int:=if mx then max a b else min a b
def mmF(mx:Bool)(k:IntKind):Int→List V→Option Int
 | a,[]=>some a
 | a,.c (.imm (.sc (.int k' b)))::r=>if k'=k then mmF mx k (mmI mx a b) r else none
 | _,_=>none
def mmV(mx:Bool):List V→Option V
 | .c (.imm (.sc (.int k a)))::r=>(mmF mx k a r).map fun n=>scV (.int k n)
 | _=>none
def isI(v:V)(n:Int):Prop:=∃k,v=scV (.int k n)
def KZ:V→Option Cap
 | .c (.ptrO o 0)=>some (.ptr o)
 | .c (.imm t)=>some (.imm t)
 | _=>none
def zW(e:Opd→V)(d:Int):Option Opd→Int→Prop
 | none,n=>n=d
 | some x,n=>e x=iV n
def kK:V→Bool
 | .c _ | .agg _=>true
 | _=>false
def keyB:Value→Value→Bool
 | .int _ a,.int _ b=>decide (a=b)
 | .string a,.string b=>decide (a=b)
 | .bool a,.bool b=>decide (a=b)
 | _,_=>false
def getK{β:Type}(k:Value):List (Value×β)→Option β
 | []=>none
 | p::r=>if keyB k p.1=true then some p.2 else getK k r
def putK{β:Type}(k:Value)(v:β):List (Value×β)→List (Value×β)
 | []=>[(k,v)]
 | p::r=>if keyB k p.1=true then(k,v)::r else p::putK k v r
def aaX(h:Heap)(kd:TypeDesc):V→List (Value×V)→Prop
 | .c .nilM,es=>es=[]
 | .c (.mapO o),es=>∃es0:List (Value×MT),h o=some (.map kd es0)∧es=es0.map fun p=>(p.1,p.2.v)
 | _,_=>False
def FX(ok:Bool)(z:V):Option V→V
 | none=>if ok then .tup [z,bV false]else z
 | some v=>if ok then .tup [v,bV true]else v
def Y3(h:Heap):V→Int→Prop
 | .c .nilM,n=>n=0
 | .c (.mapO o),n=>∃kd es,h o=some (.map kd es)∧n=es.length
 | _,_=>False
def qP(P:Program)(h:Heap)(e:Opd→V):VO→V→Prop
 | .mv x,r=>r=e x
 | .pick c a b,r=>∃t,e c=bV t∧r=if t=true then e a else e b
 | .build z ps,r=>∃cs,xx e z ps=some cs∧r = .agg cs
 | .load n g x,r=>∃cs,rd h (e x) n=some cs∧r=mkV g cs
 | .nilc x,r=>O1 (e x)=true∧r=e x
 | .fld off x,r=>aaY (e x) off=some r
 | .field off n g x,r=>∃cs,e x = .agg cs∧off+n≤cs.length∧r=mkV g ((cs.drop off).take n)
 | .ixA k x i,r=>∃n,isI (e i) n∧ixV h k (e x) n r
 | .ixAA n k x i,r=>∃j,isI (e i) j∧0≤j∧j<(n:Int)∧aaY (e x) (j.toNat*k)=some r
 | .ixS x i,r=>∃s n b,e x=scV (.string s)∧isI (e i) n∧idx s.data.toList n=some b∧r=scV (.int .u8 (b.toNat:Int))
 | .ixR n k g x i,r=>(g=true∨k=1)∧∃cs j,e x = .agg cs∧e i=iV j∧0≤j∧j<n∧j.toNat*k+k≤cs.length∧r=mkV g ((cs.drop (j.toNat*k)).take k)
 | .bin op x y,r=>aEQ op (e x) (e y)=some r
 | .beq ne x y,r=>∃a b,e x=bV a∧e y=bV b∧r=bV (decide (a=b) != ne)
 | .peq ne x y,r=>∃b,aMW (e x) (e y)=some b∧r=bV (b != ne)
 | .meq ne x y,r=>∃b,aKJ (e x) (e y)=some b∧r=bV (b != ne)
 | .aeq ne t x y,r=>∃sh,QJ P t sh∧∃cs ds b,e x = .agg cs∧e y = .agg ds∧afK sh cs=true∧WK cs ds=some b∧r=bV (b != ne)
 | .un .not x,r=>∃b,e x=bV b∧r=bV (!b)
 | .un .neg x,r=>∃n,e x=iV n∧r=iV (IntKind.i64.wrap (0-n))
 | .cvi k x,r=>∃k' n,e x=scV (.int k' n)∧r=scV (.int k (k.wrap n))
 | .cvs x,r=>∃s,e x=scV (.string s)∧r=e x
 | .ext x i,r=>∃vs,e x = .tup vs∧vs[i]? = some r∧kK r=true
 | .lenS x,r=>∃n,abY h (e x)=some n∧r=iV n
 | .lenT x,r=>∃s,e x=scV (.string s)∧r=iV s.size
 | .look kd z ok x i,r=>∃key es,e i=scV key∧keyOf kd key=true∧aaX h kd (e x) es∧r=FX ok z (getK key es)
 | .lenM x,r=>∃n,Y3 h (e x) n∧r=iV n
 | .mm mx args,r=>mmV mx (args.map e)=some r
 | .mkfn f caps,r=>∃cs,(caps.map e).mapM KZ=some cs∧r = .c (.fn f cs)
 | .sub k x lo hi,r=>∃rows l n,(e x = .c (.imm (.sl k rows))∨(e x = .c .nilS∧rows=[]))∧zW e 0 lo l∧zW e rows.length hi n∧0≤l∧l≤n∧n≤rows.length∧r = .c (.imm (.sl k ((rows.take n.toNat).drop l.toNat)))
 | .subS x lo hi,r=>∃s l n,e x=scV (.string s)∧zW e 0 lo l∧zW e s.size hi n∧0≤l∧l≤n∧n≤s.size∧r=scV (.string (s.extract l.toNat n.toNat))
 | _,_=>False
end Go.VM
namespace Go.VM
section
variable {P:Program} {K:Ctx} {B:Oid→Value} {Γ:Env} {h:Heap} {a:Act} {w:World}
abbrev Fx(P:Program)(K:Ctx)(B:Oid→Value)(h:Heap)(w:World)(m:Sem Value)(r:V):Prop :=
 ∃v,m.run P w = .ok v w∧RepV w (okS K w B h) B v r
theorem m9{ok:Nat→Prop}{v:Value}{x:V}(hx:RepV w ok B v x)(hp:O1 x=true):∃b off,v = .pointer (some ⟨b,off,none⟩):=by
 unfold O1 at hp
 split at hp
 ·cases hx;exact⟨_,_,rfl⟩
 ·cases hx;exact⟨_,_,rfl⟩
 ·cases hx;exact⟨_,_,rfl⟩
 ·simp at hp
theorem ahZ{ok:Nat→Prop}{b off n:Nat}{x r:V}(hx:RepV w ok B (.pointer (some ⟨b,off,none⟩)) x)(hr:aaY x n=some r) :
  RepV w ok B (.pointer (some ⟨b,off+n,none⟩)) r:=by
 unfold aaY at hr
 split at hr
 ·cases hr
  cases hx with
  | ptrI _ _ cells hat =>
   refine RepC.ptrI b (off+n) _ ⟨hat.1,fun j x hx=>?_⟩
   simp only[List.getElem?_drop]at hx
   obtain⟨v,hv,hr⟩:=hat.2 _ x hx
   exact⟨v,by rw[←hv];congr 2;omega,hr⟩
 ·cases hr
  cases hx with
  | ptrO _ _ _ hB=>exact RepC.ptrO _ _ b hB
 ·cases hr
  rename_i o k i off0
  have hx':RepC w ok B (.pointer (some ⟨b,off,none⟩)) (.elO o k i off0):=hx
  generalize hv:Value.pointer (some ⟨b,off,none⟩)=v at hx'
  cases hx' with
  | elO _ _ _ _ b' len cap hB =>
   cases hv
   have:=RepC.elO (w:=w) (ok:=ok) (B:=B) o k i (off0+n) b len cap hB
   show RepC w ok B _ _
   rw[show i*k+off0+n=i*k+(off0+n)from by omega]
   exact this
 ·simp at hr
theorem agJ{x r:V}{n:Nat}(hr:aaY x n=some r):O1 x=true:=by
 unfold aaY at hr
 split at hr<;>first | rfl | simp at hr
theorem Dz{s:TypeId}{fs:Array Field}{fd:Field}{fi:TypeInfo}{f b off:Nat}(hs:P.underlying s=some (.struct fs))(hf:fs[f]? = some fd)(hi:P.info? fd.type=some fi)(hz : ¬fi.size=0) :
  (Instr.fieldAt s (.pointer (some ⟨b,off,none⟩)) f).run P w = .ok (.pointer (some ⟨b,off+fd.offset,none⟩)) w:=by
 simp[Instr.fieldAt,run_underlying hs,hf,Instr.sureAddr,fieldPlace,sizeOf,typeInfo,hi,hz,gX]
theorem IQ{ok:Nat→Prop}{v:Value}{xs:List C}(hx:RepV w ok B v (.agg xs)):∃cs,v = .agg cs∧Pt (RepC w ok B) cs.toList xs:=hx
theorem U5{t:TypeId}{d:TypeDesc}{i:TypeInfo}(hd:P.underlying t=some d)(hi:P.info? t=some i)(cs:Array Value)(off:Nat) :
  (c6 d=true→(part t cs off).run P w = .ok (.agg (cs.extract off (off+i.size))) w) ∧
  (c6 d=false→∀v,cs[off]? = some v→(part t cs off).run P w = .ok v w):=by
 have hag:(isAgg t).run P w = .ok (c6 d) w:=by
  simp only[isAgg,Sem.run_bind,run_underlying hd,Result.andThen_ok]
  cases d<;>rfl
 refine⟨fun hg=>?_,fun hg v hv=>?_⟩
 ·simp[part,hag,hg,sizeOf,typeInfo,hi]
 ·simp[part,hag,hg,hv]
theorem BJ{t:TypeId}{d:TypeDesc}{i:TypeInfo}(hd:P.underlying t=some d)(hi:P.info? t=some i){cs:Array Value}{off:Nat}{xs:List C}
  (hp:Pt (RepC w (okS K w B h) B) cs.toList xs) {n:Nat} (hn:n=if c6 d then i.size else 1) (hl:off+n≤xs.length) :
  Fx P K B h w (part t cs off) (mkV (c6 d) ((xs.drop off).take n)):=by
 have hrun:=U5 (P:=P) (w:=w) hd hi cs off
 have hp':=(hp.drop off).take n
 cases hg:c6 d with
 | true =>
  simp[hg]at hn
  refine⟨_,hrun.1 hg,⟨_,rfl,?_⟩⟩
  have e:(cs.extract off (off+i.size)).toList=(cs.toList.drop off).take n:=by
   rw[Array.toList_extract];subst hn;simp[List.extract_eq_take_drop]
  rw[e];exact hp'
 | false =>
  simp[hg]at hn
  subst hn
  have hlen:off<cs.size:=by have:=hp.1;simp at this;omega
  refine⟨_,hrun.2 hg cs[off] (by simp[hlen]),?_⟩
  have e:(cs.toList.drop off).take 1=[cs[off]]:=by
   rw[List.drop_eq_getElem_cons (by simpa using hlen)];simp
  rw[e]at hp'
  exact zz hp'
theorem awj(s:StB K B Γ h a w){t e:TypeId}{kk:IntKind}{ie:TypeInfo}{v:Value}{x:V}{n:Int}{r:V}(ht:P.underlying t=some (.slice e))(hi:P.info? e=some ie)
  (hx:RepV w (okS K w B h) B v x) (hq:ixV h ie.size x n r):Fx P K B h w (Instr.indexAt t v (.int kk n)) r:=by
 unfold ixV at hq
 split at hq
 ·rename_i k' rows
  obtain⟨rfl,row,hrow,rfl⟩:=hq
  unfold idx at hrow
  split at hrow
  ·rename_i h0
   cases hx with
   | imm _ _ hx =>
    cases hx with
    | nil=>simp at hrow
    | sl b off cap _ _ f hok _ hk hc hr =>
     have hlt:n.toNat<rows.length:=(bw.1 hrow).1
     have hin:0≤n∧n<(rows.length:Int):=⟨h0,by omega⟩
     refine⟨.pointer (some ⟨b,off+n.toNat*ie.size,none⟩),?_,RepC.ptrI _ _ _ ⟨hok,fun j x hj=>⟨_,hc n.toNat row j x hrow hj,hr n.toNat row j x hrow hj⟩⟩⟩
     simp[Instr.indexAt,run_underlying ht,asIntOf,hin,sizeOf,typeInfo,hi,gX]
  ·simp at hrow
 ·rename_i o
  obtain⟨e',rows,bY,h0,hlt,rfl⟩:=hq
  have hx':RepC w (okS K w B h) B v (.slO o):=hx
  cases hx' with
  | slO _ aa len cap hB =>
   obtain⟨_,hk,cs,hown,hp⟩:=s.objs.rep o _ bY
   rw[hB]at hown
   rcases hown.2 with⟨_,hz⟩ | ⟨g,cap',cur,hv,_,hh,_,_,_,_⟩
   ·omega
   ·cases hv
    have hin:0≤n∧n<(rows.length:Int):=⟨h0,by omega⟩
    refine⟨.pointer (some ⟨g,n.toNat*ie.size,none⟩),?_,?_⟩
    ·simp[Instr.indexAt,run_underlying ht,asIntOf,hin,sizeOf,typeInfo,hi,gX]
    ·exact RepC.elO o ie.size n.toNat 0 g _ _ hB
 ·exact hq.elim
theorem azJ{op:BinOp}{k:IntKind}{x y:Int}{r:Value}{t:TypeId}(hr:aqY op k x y=some r):(binOp op t (.int k x) (.int k y)).run P w = .ok r w:=by
 unfold aqY at hr
 cases op<;>simp only[ek,reduceCtorEq]at hr
 case quo =>
  split at hr
  ·simp at hr
  ·rename_i h0;cases hr;simp[binOp,Op.intDiv,h0]
 case rem =>
  split at hr
  ·simp at hr
  ·rename_i h0;cases hr;simp[binOp,Op.intDiv,h0]
 case and=>subst hr;simp[binOp,Op.intBits,aKx,bOr,aOz]
 case or=>subst hr;simp[binOp,Op.intBits,aKx,bOr,aOz]
 case xor=>subst hr;simp[binOp,Op.intBits,aKx,bOr,aOz]
 all_goals (subst hr;simp[binOp,Op.intArith,Op.intCmp];try rfl)
theorem aDQ{op:BinOp}{k k':IntKind}{x y:Int}{r:Value}{t:TypeId}(hr:aNZ op k x y=some r):(binOp op t (.int k x) (.int k' y)).run P w = .ok r w:=by
 unfold aNZ at hr
 cases op<;>simp only[reduceCtorEq]at hr
 all_goals
  split at hr
  ·simp at hr
  ·rename_i h0;cases hr;simp[binOp,Op.shift,h0,shL,shR]
theorem aUj(a b:ByteArray):(a.toList == b.toList)=decide (a=b):=by
 by_cases e:a=b
 ·subst e;simp
 ·have:a.toList≠b.toList:=fun hl=>e (by
   have h1:a.data.toList=b.data.toList:=by rw[←ByteArray.toList_eq,←ByteArray.toList_eq];exact hl
   cases a;cases b;simp at h1;simp[h1])
  simp[e,this]
end
end Go.VM
namespace Go.VM
section
variable {P:Program} {K:Ctx} {B:Oid→Value} {Γ:Env} {h:Heap} {a:Act} {w:World}
theorem VV{t:TypeId}(ht:P.underlying t=some .bool)(x y:Bool):(Op.equal t (.bool x) (.bool y)).run P w = .ok (x == y) w:=by
  show(Op.equalIn (9999+1) t _ _).run P w=_
  rw[Op.equalIn];simp[run_underlying ht]
theorem qx{t e:TypeId}(ht:P.underlying t=some (.pointer e))(x:Option Addr) :
    (Op.equal t (.pointer none) (.pointer x)).run P w = .ok x.isNone w∧(Op.equal t (.pointer x) (.pointer none)).run P w = .ok x.isNone w:=by
  refine⟨?_,?_⟩
  ·show(Op.equalIn (9999+1) t _ _).run P w=_
   rw[Op.equalIn];simp[run_underlying ht]
  ·show(Op.equalIn (9999+1) t _ _).run P w=_
   rw[Op.equalIn];cases x<;>simp[run_underlying ht]
theorem qq{t k e:TypeId}(ht:P.underlying t=some (.map k e))(x:Option Nat) :
    (Op.equal t (.map none) (.map x)).run P w = .ok x.isNone w∧(Op.equal t (.map x) (.map none)).run P w = .ok x.isNone w:=by
  refine⟨?_,?_⟩
  ·show(Op.equalIn (9999+1) t _ _).run P w=_
   rw[Op.equalIn];simp[run_underlying ht]
  ·show(Op.equalIn (9999+1) t _ _).run P w=_
   rw[Op.equalIn];cases x<;>simp[run_underlying ht]
theorem avq{op:BinOp}{x y:ByteArray}{r:Value}{t:TypeId}(hr:atJ op x y=some r):(binOp op t (.string x) (.string y)).run P w = .ok r w:=by
  unfold atJ at hr
  cases op<;>simp only[ek,reduceCtorEq]at hr
  case add =>
    split at hr
    ·rename_i h0;cases hr
     have e : ¬(((x.size+y.size:Nat):Int) > IntKind.i64.max):=by simp[IntKind.max,IntKind.signed,IntKind.bits];omega
     simp[binOp,Op.stringOp,IntKind.max,IntKind.signed,IntKind.bits]at e ⊢
     simp[e]
    ·simp at hr
  all_goals (subst hr;simp only[binOp,Op.stringOp,aUj,sLt];try rfl)
theorem N3{op:BinOp}{u v r:Value}{t:TypeId}(hr:zZ op u v=some r):(binOp op t u v).run P w = .ok r w:=by
  unfold zZ at hr
  split at hr
  ·split at hr
   ·exact aDQ hr
   ·split at hr
    ·rename_i e;subst e;exact azJ hr
    ·simp at hr
  ·exact avq hr
  ·simp at hr
theorem J3{op:BinOp}{u v r:Value}(hr:zZ op u v=some r):(∀cs,u ≠ .agg cs)∧u ≠ .nilIface∧r.oneCell'=true:=by
  unfold zZ at hr
  split at hr
  ·split at hr
   ·refine⟨by simp,by simp,?_⟩
    unfold aNZ at hr
    split at hr<;>first | (split at hr<;>first | (cases hr;rfl) | simp at hr) | simp at hr
   ·split at hr
    ·refine⟨by simp,by simp,?_⟩
     unfold aqY at hr
     split at hr<;>first | (cases hr;rfl) | (split at hr<;>first | (cases hr;rfl) | simp at hr) | simp at hr
    ·simp at hr
  ·refine⟨by simp,by simp,?_⟩
   unfold atJ at hr
   split at hr<;>first | (cases hr;rfl) | (split at hr<;>first | (cases hr;rfl) | simp at hr) | simp at hr
  ·simp at hr
theorem JV{t:TypeId}{x y:Operand}{c d:Bool}{op:BinOp}{ne:Bool}(ht:P.underlying t=some .bool)(hop:(op = .eql∧ne=false)∨(op = .neq∧ne=true)) :
    (do eqGuard op t x y (.bool c) (.bool d);binOp op t (.bool c) (.bool d):Sem Value).run P w = .ok (.bool (decide (c=d) != ne)) w:=by
  rcases hop with⟨rfl,rfl⟩ | ⟨rfl,rfl⟩<;>simp[eqGuard,binOp,VV ht]<;>(by_cases e:c=d<;>simp[e])
theorem A8{op:BinOp}{t:TypeId}{x y:Operand}{u v:Value}(h1:∀cs,u ≠ .agg cs)(h2:u ≠ .nilIface):(eqGuard op t x y u v).run P w = .ok () w:=by
  unfold eqGuard
  cases u<;>first | (exact absurd rfl (h1 _)) | (exact absurd rfl h2) | (split<;>simp)
theorem xZ:∀(xs:List Operand) (ys:List Opd),xs.mapM bX=some ys→(StB K B Γ h a w→Pt (RepV w (okS K w B h) B) (xs.map a.eval) (ys.map (ev Γ)))
  | [],ys,hm,s=>by simp at hm;subst hm;exact Pt.nil
  | x::xs,ys,hm,s=>by
    simp only[List.mapM_cons,Option.bind_eq_bind,Option.pure_def]at hm
    cases hx:bX x with
    | none=>simp[hx]at hm
    | some y =>
      cases hr:xs.mapM bX with
      | none=>simp[hx,hr]at hm
      | some r=>simp[hx,hr]at hm;subst hm;exact Pt.cons (aX s hx) (xZ xs r hr s)
theorem Oq(mx:Bool)(k:IntKind){ok:Nat→Prop}:∀(vs:List Value) (xs:List V) (m r:Int),Pt (RepV w ok B) vs xs→mmF mx k m xs=some r →
    (vs.foldlM (if mx then Builtin.max2 else Builtin.min2) (.int k m)).run P w = .ok (.int k r) w
  | [],xs,m,r,hp,hr=>by
    have:xs=[]:=fk (by have:=hp.1;simpa using this.symm)
    subst this;simp[mmF]at hr;subst hr;simp
  | v::vs,xs,m,r,hp,hr=>by
    cases xs with
    | nil=>have:=hp.1;simp at this
    | cons x xs =>
      have h0:=hp.2 0 v x rfl rfl
      have ht:Pt (RepV w ok B) vs xs:=⟨by have:=hp.1;simpa using this,fun j u z hu hz=>hp.2 (j+1) u z (by simpa using hu) (by simpa using hz)⟩
      unfold mmF at hr
      split at hr
      ·simp_all
      ·rename_i b r' heq
       cases heq
       have hv:=d0 h0
       subst hv
       split at hr
       rotate_left
       ·simp at hr
       rename_i hkk
       subst hkk
       have ih:=Oq mx _ vs xs _ r ht hr
       cases mx
       ·simp only[List.foldlM_cons,rk,sk]at ih ⊢
        simp only[Builtin.min2,Sem.run_bind,Sem.run_pure,Result.andThen_ok]
        rw[←ih]
        simp only[mmI,rk,sk]
        congr 3
        rw[Int.min_def];split<;>split<;>omega
       ·simp only[List.foldlM_cons,if_true]at ih ⊢
        simp only[Builtin.max2,Sem.run_bind,Sem.run_pure,Result.andThen_ok]
        rw[←ih]
        simp only[mmI,if_true]
        congr 3
        rw[Int.max_def];split<;>split<;>omega
      ·simp at hr
theorem TJ{ok:Nat→Prop}:∀(vs us:List Value) (xs ys:List C) (b:Bool),Pt (RepC w ok B) vs xs→Pt (RepC w ok B) us ys→WK xs ys=some b→eqL vs us=some b
  | [],us,xs,ys,b,hp,hq,hb=>by
    have:xs=[]:=fk (by have:=hp.1;simpa using this.symm)
    subst this
    cases ys with
    | nil=>have:us=[]:=fk (by have:=hq.1;simpa using this)
           subst this;simpa[WK,eqL]using hb
    | cons _ _=>simp[WK]at hb
  | v::vs,us,xs,ys,b,hp,hq,hb=>by
    cases xs with
    | nil=>have:=hp.1;simp at this
    | cons x xs =>
      cases ys with
      | nil=>simp[WK]at hb
      | cons y ys =>
        cases us with
        | nil=>have:=hq.1;simp at this
        | cons u us =>
          have h0:=hp.2 0 v x rfl rfl
          have h1:=hq.2 0 u y rfl rfl
          have ht:Pt (RepC w ok B) vs xs:=⟨by have:=hp.1;simpa using this,fun j u z hu hz=>hp.2 (j+1) u z (by simpa using hu) (by simpa using hz)⟩
          have ht':Pt (RepC w ok B) us ys:=⟨by have:=hq.1;simpa using this,fun j u z hu hz=>hq.2 (j+1) u z (by simpa using hu) (by simpa using hz)⟩
          simp only[WK]at hb
          cases he:eqC x y with
          | none=>simp[he]at hb
          | some c =>
            cases hr:WK xs ys with
            | none=>simp[he,hr]at hb
            | some d =>
              simp[he,hr]at hb
              subst hb
              have ih:=TJ vs us xs ys d ht ht' hr
              unfold eqC at he
              split at he
              ·have hv:=d0 h0
               have hu:=d0 h1
               subst hv;subst hu
               simp[eqL,he,ih]
              ·simp at he
theorem NZ{ok:Nat→Prop}:∀(vs:List Value) (xs:List C) (sh:List TypeDesc),Pt (RepC w ok B) vs xs→afK sh xs=true→fits sh vs=true
  | [],xs,sh,hp,hf=>by
    have:xs=[]:=fk (by have:=hp.1;simpa using this.symm)
    subst this
    cases sh with
    | nil=>rfl
    | cons _ _=>simp[afK]at hf
  | v::vs,xs,sh,hp,hf=>by
    cases xs with
    | nil=>have:=hp.1;simp at this
    | cons x xs =>
      have h0:=hp.2 0 v x rfl rfl
      have ht:Pt (RepC w ok B) vs xs:=⟨by have:=hp.1;simpa using this,fun j u z hu hz=>hp.2 (j+1) u z (by simpa using hu) (by simpa using hz)⟩
      cases sh with
      | nil=>simp[afK]at hf
      | cons kd sh =>
        unfold afK at hf
        split at hf
        ·rename_i heq _;simp at heq
        ·rename_i u cs' heq1 heq2
         cases heq1;cases heq2
         have hv:=d0 h0
         subst hv
         simp only[gk]at hf
         simp[fits,hf.1,NZ vs _ _ ht hf.2]
        ·simp at hf
theorem P1{sh:List TypeDesc}{t:TypeId}{x y:Operand}{u v:Value}{cs ds:List C}{b:Bool}{op:BinOp}{ok:Nat→Prop}{ne:Bool}(hop:(op = .eql∧ne=false)∨(op = .neq∧ne=true))(he:QJ P t sh)(hu:RepV w ok B u (.agg cs))(hv:RepV w ok B v (.agg ds))
    (hl:afK sh cs=true) (hb:WK cs ds=some b) :
    (do eqGuard op t x y u v;binOp op t u v:Sem Value).run P w = .ok (.bool (b != ne)) w:=by
  obtain⟨us,rfl,hp⟩:=hu
  obtain⟨vs,rfl,hq⟩:=hv
  have hL:=TJ _ _ _ _ _ hp hq hb
  have hrun:=he.2 us.toList vs.toList b w hL (NZ _ _ _ hp hl)
  simp only[Ck]at hrun
  have hg:(eqGuard op t x y (.agg us) (.agg vs)).run P w = .ok () w:=by
    rcases hop with⟨rfl,rfl⟩ | ⟨rfl,rfl⟩<;>simp[eqGuard,he.1]
  rcases hop with⟨rfl,rfl⟩ | ⟨rfl,rfl⟩
  ·simp only[Sem.run_bind,hg,Result.andThen_ok,binOp,hrun,Sem.run_pure];simp
  ·simp only[Sem.run_bind,hg,Result.andThen_ok,binOp,hrun,Sem.run_pure];cases b<;>rfl
theorem ayj{t e:TypeId}{x y:Operand}{u v:Value}{X Y:V}{b:Bool}{op:BinOp}{ok:Nat→Prop}(ht:P.underlying t=some (.pointer e)){ne:Bool}(hop:(op = .eql∧ne=false)∨(op = .neq∧ne=true))(hu:RepV w ok B u X)(hv:RepV w ok B v Y)(hb:aMW X Y=some b) :
    (do eqGuard op t x y u v;binOp op t u v:Sem Value).run P w = .ok (.bool (b != ne)) w:=by
  have form:∀ {u:Value} {X:V} {c:Bool},RepV w ok B u X→acX X=some c→(c=true∧u = .pointer none)∨(c=false∧∃q,u = .pointer (some q)):=by
    intro u X c hu hc
    unfold acX at hc
    split at hc
    ·cases hc;exact .inl ⟨rfl,d0 hu⟩
    ·cases hc;obtain⟨_,_,e⟩:=m9 hu rfl;exact .inr ⟨rfl,_,e⟩
    ·cases hc;obtain⟨_,_,e⟩:=m9 hu rfl;exact .inr ⟨rfl,_,e⟩
    ·cases hc;obtain⟨_,_,e⟩:=m9 hu rfl;exact .inr ⟨rfl,_,e⟩
    ·simp at hc
  unfold aMW at hb
  split at hb
  ·rename_i c h1 h2
   cases hb
   rcases form hu h1 with⟨_,rfl⟩ | ⟨hx,_⟩
   ·rcases form hv h2 with⟨rfl,rfl⟩ | ⟨rfl,q,rfl⟩<;>rcases hop with⟨rfl,rfl⟩ | ⟨rfl,rfl⟩<;>
       simp[eqGuard,binOp,qx ht]
   ·simp at hx
  ·rename_i c _ h1 h2
   cases hb
   rcases form hv h2 with⟨_,rfl⟩ | ⟨hx,_⟩
   ·rcases form hu h1 with⟨rfl,rfl⟩ | ⟨rfl,q,rfl⟩<;>rcases hop with⟨rfl,rfl⟩ | ⟨rfl,rfl⟩<;>
       simp[eqGuard,binOp,qx ht]
   ·simp at hx
  ·simp at hb
theorem avJ{t k e:TypeId}{x y:Operand}{u v:Value}{X Y:V}{b:Bool}{op:BinOp}{ok:Nat→Prop}(ht:P.underlying t=some (.map k e)){ne:Bool}(hop:(op = .eql∧ne=false)∨(op = .neq∧ne=true))(hu:RepV w ok B u X)(hv:RepV w ok B v Y)(hb:aKJ X Y=some b) :
    (do eqGuard op t x y u v;binOp op t u v:Sem Value).run P w = .ok (.bool (b != ne)) w:=by
  have form:∀ {u:Value} {X:V} {c:Bool},RepV w ok B u X→acz X=some c→(c=true∧u = .map none)∨(c=false∧∃q,u = .map (some q)):=by
    intro u X c hu hc
    unfold acz at hc
    split at hc
    ·cases hc;cases hu;exact .inl ⟨rfl,rfl⟩
    ·cases hc;cases hu;exact .inr ⟨rfl,_,rfl⟩
    ·simp at hc
  unfold aKJ at hb
  split at hb
  ·rename_i c h1 h2
   cases hb
   rcases form hu h1 with⟨_,rfl⟩ | ⟨hx,_⟩
   ·rcases form hv h2 with⟨rfl,rfl⟩ | ⟨rfl,q,rfl⟩<;>rcases hop with⟨rfl,rfl⟩ | ⟨rfl,rfl⟩<;>
       simp[eqGuard,binOp,qq ht]
   ·simp at hx
  ·rename_i c _ h1 h2
   cases hb
   rcases form hv h2 with⟨_,rfl⟩ | ⟨hx,_⟩
   ·rcases form hu h1 with⟨rfl,rfl⟩ | ⟨rfl,q,rfl⟩<;>rcases hop with⟨rfl,rfl⟩ | ⟨rfl,rfl⟩<;>
       simp[eqGuard,binOp,qq ht]
   ·simp at hx
  ·simp at hb
theorem ayz(s:StB K B Γ h a w){t e:TypeId}{ty:TypeId}{v:Value}{x:V}{n:Int}(ht:P.underlying t=some (.slice e))(hx:RepV w (okS K w B h) B v x)(hn:abY h x=some n) :
    (Builtin.len_ #[t] ty #[v]).run P w = .ok (.int .i64 n) w:=by
  unfold abY at hn
  split at hn
  ·cases hn
   cases hx with
   | imm _ _ hx=>cases hx with
     | nil=>simp[Builtin.len_,run_underlying ht,goInt]
     | sl=>simp[Builtin.len_,run_underlying ht,goInt]
  ·cases hn
   cases hx with
   | nilS=>simp[Builtin.len_,run_underlying ht,goInt]
  ·rename_i o
   split at hn
   ·rename_i e k rows bY
    cases hn
    have hx':RepC w (okS K w B h) B v (.slO o):=hx
    cases hx' with
    | slO _ aa len cap hB =>
      obtain⟨_,hk,cs,hown,hp⟩:=s.objs.rep o _ bY
      rw[hB]at hown
      rcases hown.2 with⟨hv,hz⟩ | ⟨g,cap',cur,hv,_⟩
      ·cases hv;simp[Builtin.len_,run_underlying ht,goInt,hz]
      ·cases hv;simp[Builtin.len_,run_underlying ht,goInt]
   ·simp at hn
  ·simp at hn
end
end Go.VM
namespace Go.VM
open MapKept
theorem keyOf_is{kd:TypeDesc}{v:Value}(h:keyOf kd v=true):IsKey kd v:=by
  cases kd<;>cases v<;>simp_all[keyOf,IsKey]
theorem sameNow_keyB{kd:TypeDesc}{a b:Value}(ha:keyOf kd a=true)(hb:keyOf kd b=true):Instr.sameNow kd a b=some (keyB a b)∧(keyB a b=true→b=a):=by
  have hs:∀x y:ByteArray,(x == y)=decide (x=y):=by
    intro x y
    by_cases e:x=y
    ·subst e;simp[(bytes_beq x x).2 rfl]
    ·have : ¬(x == y)=true:=fun h=>e ((bytes_beq x y).1 h)
     simp[e,this]
  cases kd<;>cases a<;>first | (refine absurd ha ?_;simp[keyOf];done) | skip
  all_goals cases b<;>first | (refine absurd hb ?_;simp[keyOf];done) | skip
  all_goals simp only[keyOf,Dk]at ha hb
  all_goals first
    | (subst ha;subst hb
       refine⟨?_,fun h=>?_⟩
       ·simp only[Instr.sameNow,keyB,if_true];exact congrArg some (by rw[Bool.eq_iff_iff];simp)
       ·simp only[keyB,Dk]at h;rw[h])
    | (refine⟨?_,fun h=>?_⟩
       ·simp only[Instr.sameNow,keyB];exact congrArg some (by first | exact hs _ _ | (rw[Bool.eq_iff_iff];simp))
       ·simp only[keyB,Dk]at h;rw[h])
theorem yZ{β:Type}{kd:TypeDesc}{key:Value}(hk:keyOf kd key=true):∀(l:List MapEntry) (es:List (Value×β)) (i:Nat),l.length=es.length →
    (∀(j:Nat) e p,l[j]? = some e→es[j]? = some p→e.key=p.1∧keyOf kd p.1=true) →
    (getK key es=none∧Instr.findNow kd key l i=some none∧(∀v,putK key v es=es++[(key,v)])) ∨
    ∃j e p,l[j]? = some e∧es[j]? = some p∧getK key es=some p.2∧Instr.findNow kd key l i=some (some (i+j,e.val))∧e.key=key∧(∀v,putK key v es=es.set j (key,v))
  | [],[],i,_,_=>.inl ⟨rfl,rfl,fun _=>rfl⟩
  | [],_::_,i,hl,_=>by simp at hl
  | _::_,[],i,hl,_=>by simp at hl
  | e::l,p::es,i,hl,he=>by
    obtain⟨h1,h2⟩:=he 0 e p rfl rfl
    obtain⟨h3,h4⟩:=sameNow_keyB hk h2
    simp only[Instr.findNow,getK,putK,h1,h3]
    cases hb:keyB key p.1 with
    | true=>exact .inr ⟨0,e,p,rfl,rfl,by simp,by simp,by rw[h1];exact h4 hb,by simp⟩
    | false =>
      simp only[rk,sk]
      rcases yZ hk l es (i+1) (by simpa using hl) (fun j e' p' g1 g2 => he (j+1) e' p' (by simpa using g1) (by simpa using g2))with⟨g1,g2,g3⟩ | ⟨j,e',p',g1,g2,g3,g4,g5,g6⟩
      ·exact .inl ⟨g1,g2,fun v=>by simp[g3]⟩
      ·exact .inr ⟨j+1,e',p',by simpa using g1,by simpa using g2,g3,by rw[g4];congr 3;omega,g5,fun v=>by simp[g6]⟩
section
variable {P:Program} {K:Ctx} {B:Oid→Value} {Γ:Env} {h:Heap} {a:Act} {w:World}
theorem aAW(key:Value):∀es:List (Value×MT),getK key (es.map fun p=>(p.1,p.2.v))=(getK key es).map MT.v
  | []=>rfl
  | p::r=>by
    simp only[qk,getK]
    by_cases hk:keyB key p.1=true
    ·simp[hk]
    ·simp[hk,aAW key r]
theorem alQ(s:StB K B Γ h a w){t k e:TypeId}{kd:TypeDesc}(ht:P.underlying t=some (.map k e))(hk:P.underlying k=some kd){i:TypeInfo}{zv:Value}{z:V}(hi:P.info? e=some i)(hz:i.zero=some zv)(hc:DK zv=some z)
    {m:Value} {x:V} {key:Value} {es:List (Value×V)} (hx:RepV w (okS K w B h) B m x) (hkey:keyOf kd key=true) (hm:aaX h kd x es) (ok:Bool) :
    Fx P K B h w (Instr.lookup t m key ok) (FX ok z (getK key es)):=by
  have hzr:RepV w (okS K w B h) B zv z:=u5 hc
  have hzs:RepS w (okS K w B h) B zv z:=by
    unfold DK at hc
    split at hc
    ·obtain⟨_,_,rfl⟩:=aw.1 hc;exact hzr
    ·obtain⟨_,_,rfl⟩:=aw.1 hc;exact hzr
  have hzrun:∀w:World,(zeroValue e).run P w = .ok zv w:=fun w=>by simp[zeroValue,typeInfo,hi,hz]
  have two:∀ {u:Value} {y:V} (b:Bool),RepS w (okS K w B h) B u y→RepV w (okS K w B h) B (.tuple #[u,.bool b]) (.tup [y,bV b]):=by
    intro u y b hu
    refine⟨#[u,.bool b],rfl,?_⟩
    refine Pt.cons hu (Pt.cons ?_ Pt.nil)
    exact RepC.imm _ _ (.sc _ rfl)
  have pack:∀ {u:Value} {y:V},RepS w (okS K w B h) B u y→RepV w (okS K w B h) B u y:=by
    intro u y hu
    cases y with
    | tup _=>exact hu.elim
    | c _=>exact hu
    | agg _=>exact hu
    | junk=>exact hu
  unfold aaX at hm
  split at hm
  ·subst hm
   have hv:m = .map none:=by
     have:RepC w (okS K w B h) B m .nilM:=hx
     cases this;rfl
   subst hv
   cases ok
   ·refine⟨zv,?_,pack hzs⟩
    simp[Instr.lookup,run_underlying ht,run_checkKey hk (keyOf_is hkey),run_findKey hk (show Instr.findNow kd key [] 0=some none from rfl),hzrun,Result.andThen]
   ·refine⟨.tuple #[zv,.bool false],?_,two false hzs⟩
    simp[Instr.lookup,run_underlying ht,run_checkKey hk (keyOf_is hkey),run_findKey hk (show Instr.findNow kd key [] 0=some none from rfl),hzrun,Result.andThen]
  ·rename_i o
   obtain⟨es0,hm,rfl⟩:=hm
   rw[aAW]
   obtain⟨b,es',clock,hB,hh,hcl,hsz,he⟩:=s.objs.rep _ _ hm
   have hv:m = .map (some b):=by
     have:RepC w (okS K w B h) B m (.mapO o):=hx
     cases this with
     | mapO _ r hB'=>rw[hB]at hB';cases hB';rfl
   subst hv
   rcases yZ hkey es'.toList es0 0 (by simpa using hsz) (fun j e p g1 g2=>by
       obtain⟨h1,h2,_,_⟩:=he j e p (by simpa using g1) g2
       exact⟨h1,h2⟩)with⟨g1,g2,_⟩ | ⟨j,e',p,g1,g2,g3,g4,g5,_⟩
   ·rw[g1]
    cases ok
    ·refine⟨zv,?_,pack hzs⟩
     simp[Instr.lookup,run_underlying ht,MapKept.run_getObj_map hh,run_checkKey hk (keyOf_is hkey),run_findKey hk g2,hzrun,Result.andThen]
    ·refine⟨.tuple #[zv,.bool false],?_,two false hzs⟩
     simp[Instr.lookup,run_underlying ht,MapKept.run_getObj_map hh,run_checkKey hk (keyOf_is hkey),run_findKey hk g2,hzrun,Result.andThen]
   ·rw[g3]
    obtain⟨_,_,_,hrep⟩:=he j e' p (by simpa using g1) g2
    cases ok
    ·refine⟨e'.val,?_,pack hrep⟩
     simp[Instr.lookup,run_underlying ht,MapKept.run_getObj_map hh,run_checkKey hk (keyOf_is hkey),run_findKey hk g4,Result.andThen]
    ·refine⟨.tuple #[e'.val,.bool true],?_,two true hrep⟩
     simp[Instr.lookup,run_underlying ht,MapKept.run_getObj_map hh,run_checkKey hk (keyOf_is hkey),run_findKey hk g4,Result.andThen]
  ·exact hm.elim
theorem alW(s:StB K B Γ h a w){t k e ty:TypeId}(ht:P.underlying t=some (.map k e)){m:Value}{x:V}{n:Int}(hx:RepV w (okS K w B h) B m x)(hm:Y3 h x n) :
    (Builtin.len_ #[t] ty #[m]).run P w = .ok (.int .i64 n) w:=by
  unfold Y3 at hm
  split at hm
  ·subst hm
   have hv:m = .map none:=by
     have:RepC w (okS K w B h) B m .nilM:=hx
     cases this;rfl
   subst hv
   simp[Builtin.len_,run_underlying ht,goInt]
  ·rename_i o
   obtain⟨kd,es,hg,rfl⟩:=hm
   obtain⟨b,es',clock,hB,hh,hcl,hsz,he⟩:=s.objs.rep _ _ hg
   have hv:m = .map (some b):=by
     have:RepC w (okS K w B h) B m (.mapO o):=hx
     cases this with
     | mapO _ r hB'=>rw[hB]at hB';cases hB';rfl
   subst hv
   simp[Builtin.len_,run_underlying ht,MapKept.run_getObj_map hh,goInt,hsz,Result.andThen]
  ·exact hm.elim
end
end Go.VM
namespace Go.VM
section
variable {P:Program} {K:Ctx} {B:Oid→Value} {Γ:Env} {h:Heap} {a:Act} {w:World}
def GivesN(P:Program)(K:Ctx)(B:Oid→Value)(h:Heap)(w:World)(m:Sem Next)(r:V):Prop :=
 ∃v,m.run P w = .ok (.value v) w∧RepV w (okS K w B h) B v r
theorem GivesN.of{m:Sem Value}{r:V}(hg:Fx P K B h w m r):GivesN P K B h w (do pure (.value (←m))) r:=by
 obtain⟨v,hv,hr⟩:=hg
 exact⟨v,by simp[hv],hr⟩
theorem agV{ok:Nat→Prop}:∀(vs:List Value) (xs:List V) (cs:List Cap),Pt (RepV w ok B) vs xs→xs.mapM KZ=some cs→Pt (RepCap w ok B) vs cs
 | [],xs,cs,hp,hm=>by
  have:xs=[]:=fk (by have:=hp.1;simpa using this.symm)
  subst this;simp at hm;subst hm;exact Pt.nil
 | v::vs,xs,cs,hp,hm=>by
  cases xs with
  | nil=>have:=hp.1;simp at this
  | cons x xs =>
   have h0:=hp.2 0 v x rfl rfl
   have ht:Pt (RepV w ok B) vs xs:=⟨by have:=hp.1;simpa using this,fun j u z hu hz=>hp.2 (j+1) u z (by simpa using hu) (by simpa using hz)⟩
   simp only[List.mapM_cons,Option.bind_eq_bind,Option.pure_def]at hm
   cases hx:KZ x with
   | none=>simp[hx]at hm
   | some c =>
    cases hr:xs.mapM KZ with
    | none=>simp[hx,hr]at hm
    | some r =>
     simp[hx,hr]at hm
     subst hm
     refine Pt.cons ?_ (agV vs xs r ht hr)
     unfold KZ at hx
     split at hx
     ·cases hx;cases h0 with
      | ptrO _ _ b hB=>exact .ptr _ b hB
     ·cases hx;cases h0 with
      | imm _ _ h=>exact .imm _ _ h
     ·simp at hx
theorem J0{lo:Option Operand}{lo':Option Opd}(h:(match lo with | none => some none | some l => (bX l).map some)=some lo') :
  (lo=none∧lo'=none)∨∃l l',lo=some l∧lo'=some l'∧bX l=some l':=by
 cases lo with
 | none=>simp at h;exact .inl ⟨rfl,h.symm⟩
 | some l =>
  cases hl:bX l with
  | none=>simp[hl]at h
  | some y=>simp[hl]at h;exact .inr ⟨l,y,rfl,h.symm,hl⟩
theorem m5(s:StB K B Γ h a w){lo hi:Option Operand}{lo' hi':Option Opd}(hl:(lo=none∧lo'=none)∨∃l l',lo=some l∧lo'=some l'∧bX l=some l')
  (hh:(hi=none∧hi'=none)∨∃l l',hi=some l∧hi'=some l'∧bX l=some l') {l n:Int} {len cap:Nat} (b1:zW (ev Γ) 0 lo' l) (b2:zW (ev Γ) len hi' n)
  (h0:0≤l) (h1:l≤n) (h2:n≤len) (hc:len≤cap) (isS:Bool) :
  (Instr.sliceBounds isS len cap (lo.map a.eval) (hi.map a.eval) none).run P w = .ok (l.toNat,n.toNat,cap) w:=by
 have e1:(n.toNat:Int)=n:=Int.toNat_of_nonneg (by omega)
 rcases hl with⟨rfl,rfl⟩ | ⟨x,x',rfl,rfl,hx⟩<;>rcases hh with⟨rfl,rfl⟩ | ⟨y,y',rfl,rfl,hy⟩
 ·simp only[zW]at b1 b2;subst b1;subst b2
  simp[Instr.sliceBounds]
 ·simp only[zW]at b1 b2;subst b1
  have hv:=P8 (b2▸aX s hy)
  simp[Instr.sliceBounds,hv,run_sliceBound,(by omega:0≤n),(by omega:n≤(cap:Int))]
 ·simp only[zW]at b1 b2;subst b2
  have hv:=P8 (b1▸aX s hx)
  simp[Instr.sliceBounds,hv,run_sliceBound,h0,h1]
 ·simp only[zW]at b1 b2
  have hv:=P8 (b1▸aX s hx)
  have hv':=P8 (b2▸aX s hy)
  simp[Instr.sliceBounds,hv,hv',run_sliceBound,h0,h1,e1,(by omega:0≤n),(by omega:n≤(cap:Int))]
theorem aHJ(s:StB K B Γ h a w){x:Operand}{y:Opd}(hc:bX x=some y):GivesN P K B h w (pure (.value (a.eval x))) (ev Γ y) :=
 ⟨_,rfl,aX s hc⟩
theorem adx(s:StB K B Γ h a w){t e:TypeId}{ie:TypeInfo}(ht:P.underlying t=some (.slice e))(hie:P.info? e=some ie){x:Operand}{x':Opd}(hx:bX x=some x')
  {lo hi:Option Operand} {lo' hi':Option Opd} (hl:(lo=none∧lo'=none)∨∃l l',lo=some l∧lo'=some l'∧bX l=some l')
  (hh:(hi=none∧hi'=none)∨∃l l',hi=some l∧hi'=some l'∧bX l=some l') {r:V} (hq:qP P h (ev Γ) (.sub ie.size x' lo' hi') r) :
  Fx P K B h w (Instr.sliceAt t (a.eval x) (lo.map a.eval) (hi.map a.eval) none) r:=by
 obtain⟨rows,l,n,hv,b1,b2,h0,h1,h2,rfl⟩:=hq
 have hxr:=aX s hx
 have form:∃q cap,a.eval x = .slice q rows.length cap∧RepT w (okS K w B h) (.slice q rows.length cap) (.sl ie.size rows):=by
  rcases hv with hv | ⟨hv,rfl⟩
  ·rw[hv]at hxr
   generalize hval:a.eval x=v at hxr
   have hxr':RepC w (okS K w B h) B v (.imm (.sl ie.size rows)):=hxr
   cases hxr' with
   | imm _ _ hr =>
    have hr':=hr
    cases hr with
    | nil k q cap=>exact⟨q,cap,rfl,hr'⟩
    | sl b off cap=>exact⟨_,cap,rfl,hr'⟩
  ·rw[hv]at hxr
   generalize hval:a.eval x=v at hxr
   have hxr':RepC w (okS K w B h) B v .nilS:=hxr
   cases hxr' with
   | nilS=>exact⟨none,0,rfl,.nil _ _ _⟩
 obtain⟨q,cap,hval,hrep⟩:=form
 have hle:rows.length≤cap:=by
  generalize hn:rows.length=m at hrep
  cases hrep with
  | nil=>omega
  | sl=>omega
 rw[hval]
 have hb:=m5 (P:=P) s hl hh b1 b2 h0 h1 h2 hle true
 refine⟨.slice (if cap=l.toNat then q else q.map (·.add (l.toNat*ie.size))) (n.toNat-l.toNat) (cap-l.toNat),?_,?_⟩
 ·simp[Instr.sliceAt,run_underlying ht,Instr.slice,hb,sizeOf,typeInfo,hie]
 ·refine RepC.imm _ _ ?_
  have hlen:((rows.take n.toNat).drop l.toNat).length=n.toNat-l.toNat:=by simp;omega
  by_cases hz:n.toNat-l.toNat=0
  ·have e:(rows.take n.toNat).drop l.toNat=[]:=fk (hlen.trans hz)
   rw[e,hz]
   exact .nil _ _ _
  ·have hcl : ¬cap=l.toNat:=by omega
   simp only[hcl,sk]
   generalize hn:rows.length=m at hrep
   cases hrep with
   | nil=>exfalso;omega
   | sl b off _ _ _ f hok _ hk hc hr =>
    simp only[qw,gX]
    rw[←hlen]
    refine .sl b (off+l.toNat*ie.size) _ _ _ (fun i j=>f (l.toNat+i) j) hok (by omega) (fun row hrow=>hk row (List.mem_of_mem_take (List.mem_of_mem_drop hrow))) ?_ ?_
    ·intro i row j x hi hj
     simp only[List.getElem?_drop,zw]at hi
     split at hi
     ·rw[←hc _ row j x hi hj];congr 2;rw[Nat.add_mul];omega
     ·simp at hi
    ·intro i row j x hi hj
     simp only[List.getElem?_drop,zw]at hi
     split at hi
     ·exact hr _ row j x hi hj
     ·simp at hi
theorem LX(s:StB K B Γ h a w){t:TypeId}(ht:P.underlying t=some .string){x:Operand}{x':Opd}(hx:bX x=some x')
  {lo hi:Option Operand} {lo' hi':Option Opd} (hl:(lo=none∧lo'=none)∨∃l l',lo=some l∧lo'=some l'∧bX l=some l')
  (hh:(hi=none∧hi'=none)∨∃l l',hi=some l∧hi'=some l'∧bX l=some l') {r:V} (hq:qP P h (ev Γ) (.subS x' lo' hi') r) :
  Fx P K B h w (Instr.sliceAt t (a.eval x) (lo.map a.eval) (hi.map a.eval) none) r:=by
 obtain⟨str,l,n,hv,b1,b2,h0,h1,h2,rfl⟩:=hq
 have hval:=d0 (hv▸aX s hx)
 rw[hval]
 have hb:=m5 (P:=P) s hl hh b1 b2 h0 h1 h2 (mw _) false
 refine⟨.string (str.extract l.toNat n.toNat),?_,wX rfl⟩
 simp[Instr.sliceAt,run_underlying ht,Instr.slice,hb]
theorem aHx(s:StB K B Γ h a w){o:Oper}{c:Call}(hop:o.op = .call c){b:Builtin}(hcal:c.callee = .builtin b){ys:List Opd}(hys:c.args.toList.mapM bX=some ys)(mx:Bool)(hb:b=if mx then .max else .min){r:V}
  (hq:qP P h (ev Γ) (.mm mx ys) r):GivesN P K B h w (execOp a.eval o) r:=by
 have hp:=xZ _ _ hys s
 have hq':mmV mx (ys.map (ev Γ))=some r:=hq
 unfold mmV at hq'
 split at hq'
 ·rename_i kk m rest heq
  rw[heq]at hp
  simp only[aw]at hq'
  obtain⟨n,hn,rfl⟩:=hq'
  cases hl:c.args.toList.map a.eval with
  | nil=>have:=hp.1;rw[hl]at this;simp at this
  | cons v vs =>
   rw[hl]at hp
   have h0:=d0 (hp.2 0 v _ rfl rfl)
   subst h0
   have ht:Pt (RepV w (okS K w B h) B) vs rest:=⟨by have:=hp.1;simpa using this,fun j u z hu hz=>hp.2 (j+1) u z (by simpa using hu) (by simpa using hz)⟩
   have hf:=Oq (P:=P) mx kk vs rest m n ht hn
   have hl':(c.args.map a.eval).toList = .int kk m::vs:=by rw[Array.toList_map];exact hl
   refine⟨.int kk n,?_,wX rfl⟩
   cases mx
   ·simp only[rk,sk]at hb hf
    subst hb
    simp[execOp,hop,resolve,hcal,invoke,builtin,Builtin.min_,hl,hf]
   ·simp only[if_true]at hb hf
    subst hb
    simp[execOp,hop,resolve,hcal,invoke,builtin,Builtin.max_,hl,hf]
 ·simp at hq'
theorem aOx(s:StB K B Γ h a w){o:Oper}{vo:VO}{r:V}(hc:cOp P o=some vo)(hq:qP P h (ev Γ) vo r):GivesN P K B h w (execOp a.eval o) r:=by
 cases hop:o.op
 case move x =>
  simp only[cOp,hop]at hc
  cases hx:bX x with
  | none=>simp[hx]at hc
  | some y=>simp[hx]at hc;subst hc;cases hq;simp only[execOp,hop];exact aHJ s hx
 case assign x =>
  simp only[cOp,hop]at hc
  cases hx:bX x with
  | none=>simp[hx]at hc
  | some y=>simp[hx]at hc;subst hc;cases hq;simp only[execOp,hop];exact aHJ s hx
 case pick c x y =>
  simp only[cOp,hop,ak,aw]at hc
  obtain⟨c',hc',x',hx',y',hy',rfl⟩:=hc
  obtain⟨t,ht,rfl⟩:=hq
  have hv:=Zq (ht▸aX s hc')
  refine⟨if t then a.eval x else a.eval y,by simp[execOp,hop,hv,asBool],?_⟩
  cases t
  ·exact aX s hy'
  ·exact aX s hx'
 case nilCheck x =>
  simp only[cOp,hop,aw]at hc
  obtain⟨y,hy,rfl⟩:=hc
  obtain⟨hp,rfl⟩:=hq
  have hr:=aX s hy
  obtain⟨b,off,hv⟩:=m9 hr hp
  exact⟨a.eval x,by simp[execOp,hop,hv],hr⟩
 case load t x =>
  simp only[cOp,hop,Hq,ak,aw]at hc
  obtain⟨⟨d,i⟩,⟨d',hd,i',hi,he⟩,x',hx',hc⟩:=hc
  cases he
  simp only at hc
  cases hg:c6 d with
  | true =>
   simp only[hg,if_true,ek]at hc
   subst hc
   obtain⟨cs,hr,rfl⟩:=hq
   have:=I1 s hd hi hx' (n:=i.size) (by simp[hg]) hr
   simp only[execOp,hop]
   rw[hg]at this
   exact GivesN.of this
  | false =>
   simp only[hg,rk,sk,ek]at hc
   subst hc
   obtain⟨cs,hr,rfl⟩:=hq
   have:=I1 s hd hi hx' (n:=1) (by simp[hg]) hr
   simp only[execOp,hop]
   rw[hg]at this
   exact GivesN.of this
 case fieldAddr st x f =>
  simp only[cOp,hop,ak]at hc
  obtain⟨d,hd,hc⟩:=hc
  cases d<;>simp only[reduceCtorEq]at hc
  simp only[ak]at hc
  obtain⟨fd,hf,fi,hfi,hc⟩:=hc
  split at hc
  ·simp at hc
  ·rename_i hz
   simp only[aw]at hc
   obtain⟨x',hx',rfl⟩:=hc
   have hr:=aX s hx'
   obtain⟨b,off,hv⟩:=m9 hr (agJ hq)
   rw[hv]at hr
   simp only[execOp,hop,hv]
   exact GivesN.of ⟨_,Dz hd hf hfi hz,ahZ hr hq⟩
 case field st x f =>
  simp only[cOp,hop,ak]at hc
  obtain⟨d,hd,hc⟩:=hc
  cases d<;>simp only[reduceCtorEq]at hc
  simp only[ak,Hq,aw]at hc
  obtain⟨fd,hf,⟨d,i⟩,⟨d',hd',i',hi',he⟩,x',hx',hc⟩:=hc
  cases he
  have key:∀n,n=(if c6 d then i.size else 1)→qP P h (ev Γ) (.field fd.offset n (c6 d) x') r→GivesN P K B h w (execOp a.eval o) r:=by
   rintro n hn ⟨cs,hv,hl,rfl⟩
   obtain⟨us,hu,hp⟩:=IQ (hv▸aX s hx')
   have:=BJ (P:=P) (K:=K) (B:=B) (h:=h) (w:=w) hd' hi' hp hn hl
   simp only[execOp,hop,hu]
   refine GivesN.of ?_
   obtain⟨v,hrun,hrep⟩:=this
   exact⟨v,by simp[Instr.field,run_underlying hd,hf,asAgg,hrun],hrep⟩
  cases hg:c6 d with
  | true=>simp only[hg,if_true]at hc;subst hc;exact key i.size (by simp[hg]) (by rw[hg];exact hq)
  | false=>simp only[hg,rk,sk]at hc;subst hc;exact key 1 (by simp[hg]) (by rw[hg];exact hq)
 case indexAddr t x i =>
  simp only[cOp,hop,ak]at hc
  obtain⟨d,hd,hc⟩:=hc
  cases d<;>simp only[reduceCtorEq]at hc
  case slice e =>
   simp only[ak,aw]at hc
   obtain⟨ie,hie,x',hx',i',hi',rfl⟩:=hc
   obtain⟨n,⟨kk,hn⟩,hq⟩:=hq
   have hv:=d0 (hn▸aX s hi')
   simp only[execOp,hop,hv]
   exact GivesN.of (awj s hd hie (aX s hx') hq)
  case array n e =>
   simp only[ak,aw]at hc
   obtain⟨ie,hie,x',hx',i',hi',rfl⟩:=hc
   obtain⟨j,⟨kk,hn⟩,h0,hlt,hq⟩:=hq
   have hv:=d0 (hn▸aX s hi')
   have hr:=aX s hx'
   obtain⟨b,off,hp⟩:=m9 hr (agJ hq)
   rw[hp]at hr
   simp only[execOp,hop,hv,hp]
   have hin:0≤j∧j<(n:Int):=⟨h0,hlt⟩
   exact GivesN.of ⟨.pointer (some ⟨b,off+j.toNat*ie.size,none⟩),by simp[Instr.indexAt,Instr.sureAddr,run_underlying hd,asIntOf,hin,sizeOf,typeInfo,hie,gX],ahZ hr hq⟩
 case index t x i =>
  simp only[cOp,hop,ak]at hc
  obtain⟨d,hd,hc⟩:=hc
  cases d<;>simp only[reduceCtorEq]at hc
  case string =>
   simp only[ak,aw]at hc
   obtain⟨x',hx',i',hi',rfl⟩:=hc
   obtain⟨str,n,b,hx,⟨kk,hn⟩,hb,rfl⟩:=hq
   have hv:=d0 (hn▸aX s hi')
   have hs:=d0 (hx▸aX s hx')
   unfold idx at hb
   split at hb
   ·rename_i h0
    have hb':str[n.toNat]? = some b:=by
     have hlt:n.toNat<str.data.size:=by have:=(bw.1 hb).1;simpa using this
     have e:=(bw.1 hb).2
     have hlt':n.toNat<str.size:=hlt
     rw[getElem?_pos str n.toNat hlt']
     congr 1
    refine⟨.int .u8 b.toNat,?_,wX rfl⟩
    simp[execOp,hop,Instr.index,run_underlying hd,hv,hs,asIntOf,h0,hb']
   ·simp at hb
  case array n e =>
   simp only[ak,Hq,aw]at hc
   obtain⟨⟨d,ie⟩,⟨d',hd',ie',hie',he⟩,x',hx',i',hi',hc⟩:=hc
   cases he
   have key:qP P h (ev Γ) (.ixR n ie.size (c6 d) x' i') r→GivesN P K B h w (execOp a.eval o) r:=by
    rintro⟨hg,cs,j,hx,hj,h0,hlt,hl,rfl⟩
    have hv:=P8 (hj▸aX s hi')
    obtain⟨us,hu,hp⟩:=IQ (hx▸aX s hx')
    have hin:0≤j∧j<(n:Int):=⟨h0,hlt⟩
    simp only[execOp,hop,hu,hv]
    refine GivesN.of ?_
    obtain⟨v,hrun,hrep⟩:=BJ (P:=P) (K:=K) (B:=B) (h:=h) (w:=w) hd' hie' hp (n:=ie.size) (off:=j.toNat*ie.size)
     (by rcases hg with hg | hg<;>simp[hg]) hl
    exact⟨v,by simp[Instr.index,run_underlying hd,asIntOf,hin,sizeOf,typeInfo,hie',hrun],hrep⟩
   cases hg:c6 d with
   | true=>simp only[hg,if_true]at hc;subst hc;exact key (by rw[hg];exact hq)
   | false=>simp only[hg,rk,sk]at hc;subst hc;exact key (by rw[hg];exact hq)
 case binOp op t x y yt =>
  simp only[cOp,hop,ak]at hc
  obtain⟨d,hd,x',hx',y',hy',hc⟩:=hc
  have hxr:=aX s hx'
  have hyr:=aX s hy'
  have fin:∀ {b ne:Bool},(do eqGuard op t x y (a.eval x) (a.eval y);binOp op t (a.eval x) (a.eval y):Sem Value).run P w = .ok (.bool (b != ne)) w→r=bV (b != ne)→GivesN P K B h w (execOp a.eval o) r:=by
   intro b ne hrun hr
   subst hr
   simp only[execOp,hop]
   exact GivesN.of ⟨_,hrun,aAY _⟩
  have bin:vo = .bin op x' y'→GivesN P K B h w (execOp a.eval o) r:=by
   intro hvo
   subst hvo
   have hq':aEQ op (ev Γ x') (ev Γ y')=some r:=hq
   unfold aEQ at hq'
   split at hq'
   ·rename_i u v h1 h2
    simp only[aw]at hq'
    obtain⟨q,hbq,rfl⟩:=hq'
    have hu:=d0 (h1▸hxr)
    have hv:=d0 (h2▸hyr)
    obtain⟨f1,f2,f3⟩:=J3 hbq
    have hgd:=A8 (P:=P) (w:=w) (op:=op) (t:=t) (x:=x) (y:=y) (u:=a.eval x) (v:=a.eval y) (by rw[hu];exact f1) (by rw[hu];exact f2)
    have hrun:=N3 (P:=P) (w:=w) (t:=t) hbq
    simp only[execOp,hop]
    refine GivesN.of ⟨q,?_,wX f3⟩
    rw[hu,hv]at hgd ⊢
    simp[hgd,hrun]
   ·simp at hq'
  have hptr:∀ {e:TypeId} {ne:Bool},P.underlying t=some (.pointer e)→((op = .eql∧ne=false)∨(op = .neq∧ne=true))→vo = .peq ne x' y'→GivesN P K B h w (execOp a.eval o) r:=by
   intro e ne hd hop' hvo
   subst hvo
   obtain⟨b,hb,hr⟩:=hq
   exact fin (ayj hd hop' hxr hyr hb) hr
  have hmap:∀ {k e:TypeId} {ne:Bool},P.underlying t=some (.map k e)→((op = .eql∧ne=false)∨(op = .neq∧ne=true))→vo = .meq ne x' y'→GivesN P K B h w (execOp a.eval o) r:=by
   intro k e ne hd hop' hvo
   subst hvo
   obtain⟨b,hb,hr⟩:=hq
   exact fin (avJ hd hop' hxr hyr hb) hr
  have hagg:∀ {ne:Bool},((op = .eql∧ne=false)∨(op = .neq∧ne=true))→vo = .aeq ne t x' y'→GivesN P K B h w (execOp a.eval o) r:=by
   intro ne hop' hvo
   subst hvo
   obtain⟨sh,he,cs,ds,b,h1,h2,hl,hb,hr⟩:=hq
   exact fin (P1 hop' he (h1▸hxr) (h2▸hyr) hl hb) hr
  have hbool:∀ {ne:Bool},P.underlying t=some .bool→((op = .eql∧ne=false)∨(op = .neq∧ne=true))→vo = .beq ne x' y'→GivesN P K B h w (execOp a.eval o) r:=by
   intro ne hd hop' hvo
   subst hvo
   obtain⟨c,d,h1,h2,hr⟩:=hq
   have hu:=Zq (h1▸hxr)
   have hv:=Zq (h2▸hyr)
   exact fin (by rw[hu,hv];exact JV hd hop') hr
  cases d
  case int k=>cases op<;>(simp only[ek]at hc;exact bin hc.symm)
  case string=>cases op<;>(simp only[ek]at hc;exact bin hc.symm)
  case bool =>
   cases op<;>simp only[ek,reduceCtorEq]at hc
   ·exact hbool hd (.inl ⟨rfl,rfl⟩) hc.symm
   ·exact hbool hd (.inr ⟨rfl,rfl⟩) hc.symm
  case pointer e =>
   cases op<;>simp only[ek,reduceCtorEq]at hc
   ·exact hptr hd (.inl ⟨rfl,rfl⟩) hc.symm
   ·exact hptr hd (.inr ⟨rfl,rfl⟩) hc.symm
  case map k e =>
   cases op<;>simp only[ek,reduceCtorEq]at hc
   ·exact hmap hd (.inl ⟨rfl,rfl⟩) hc.symm
   ·exact hmap hd (.inr ⟨rfl,rfl⟩) hc.symm
  case struct fs =>
   cases op<;>simp only[ek,reduceCtorEq]at hc
   ·exact hagg (.inl ⟨rfl,rfl⟩) hc.symm
   ·exact hagg (.inr ⟨rfl,rfl⟩) hc.symm
  case array n e =>
   cases op<;>simp only[ek,reduceCtorEq]at hc
   ·exact hagg (.inl ⟨rfl,rfl⟩) hc.symm
   ·exact hagg (.inr ⟨rfl,rfl⟩) hc.symm
  all_goals (exfalso;cases op<;>simp only[reduceCtorEq]at hc)
 case unOp op t x =>
  simp only[cOp,hop,aw]at hc
  obtain⟨x',hx',rfl⟩:=hc
  have hr:=aX s hx'
  cases op
  case not =>
   obtain⟨b,hb,rfl⟩:=hq
   have hv:=Zq (hb▸hr)
   simp only[execOp,hop,hv]
   exact GivesN.of ⟨.bool !b,by simp[Op.unary],aAY _⟩
  case neg =>
   obtain⟨n,hn,rfl⟩:=hq
   have hv:=P8 (hn▸hr)
   simp only[execOp,hop,hv]
   exact GivesN.of ⟨_,by simp[Op.unary,Op.intArith],akY _⟩
  all_goals exact hq.elim
 case convert src dst x =>
  simp only[cOp,hop,ak]at hc
  obtain⟨d,hd,d',hd',hc⟩:=hc
  cases d'<;>simp only[reduceCtorEq]at hc
  case int k =>
   simp only[aw]at hc
   obtain⟨x',hx',rfl⟩:=hc
   obtain⟨k',n,hn,rfl⟩:=hq
   have hv:=d0 (hn▸aX s hx')
   simp only[execOp,hop,hv]
   refine GivesN.of ⟨.int k (k.wrap n),?_,wX rfl⟩
   simp only[convert,Sem.run_bind,run_underlying hd,run_underlying hd',Result.andThen_ok,Conv.intToInt]
   rfl
  case string =>
   simp only[aw]at hc
   obtain⟨x',hx',rfl⟩:=hc
   obtain⟨str,hn,rfl⟩:=hq
   have hr:=aX s hx'
   have hv:=d0 (hn▸hr)
   simp only[execOp,hop]
   refine GivesN.of ⟨a.eval x,?_,hr⟩
   rw[hv]
   simp only[convert,Sem.run_bind,run_underlying hd,run_underlying hd',Result.andThen_ok]
   rfl
 case extract x i =>
  simp only[cOp,hop,aw]at hc
  obtain⟨x',hx',rfl⟩:=hc
  obtain⟨vs,hv,hi,_⟩:=hq
  obtain⟨us,hu,hp⟩:=(hv▸aX s hx':RepV w (okS K w B h) B (a.eval x) (.tup vs))
  have hlt:i<us.size:=by have:=hp.1;have:=(bw.1 hi).1;simp at *;omega
  have bY:us.toList[i]? = some us[i]:=by simp[hlt]
  have hrep:=hp.2 i _ r bY hi
  simp only[execOp,hop,hu]
  refine GivesN.of ⟨us[i],by simp[Instr.extract,hlt],?_⟩
  cases r<;>first | exact hrep | exact hrep.elim
 case makeFunc fn first caps =>
  cases fn with
  | func f =>
   simp only[cOp,hop]at hc
   split at hc
   ·rename_i hf
    simp only[aw]at hc
    obtain⟨ys,hys,rfl⟩:=hc
    obtain⟨cs,hcs,rfl⟩:=hq
    have hp:=xZ _ _ hys s
    have hcap:=agV _ _ _ hp hcs
    have hfe:first = #[]:=Array.eq_empty_of_size_eq_zero hf
    subst hfe
    simp only[execOp,hop]
    refine GivesN.of ⟨.func (.func f) #[] (caps.map a.eval),by simp[Instr.makeFunc],?_⟩
    have:=RepC.fn (w:=w) (ok:=okS K w B h) (B:=B) f _ cs hcap
    rw[←Array.toList_map]at this
    simpa only[RepV,RepS,Ck]using this
   ·simp at hc
  | _=>simp[cOp,hop]at hc
 case slice t x lo hi mx =>
  cases mx with
  | some _=>simp[cOp,hop]at hc
  | none =>
   simp only[cOp,hop,ak]at hc
   obtain⟨d,hd,hc⟩:=hc
   cases d<;>simp only[reduceCtorEq]at hc
   case slice e =>
    simp only[ak,aw]at hc
    obtain⟨ie,hie,x',hx',lo',hlo,hi',hhi,rfl⟩:=hc
    simp only[execOp,hop]
    exact GivesN.of (adx s hd hie hx' (J0 hlo) (J0 hhi) hq)
   case string =>
    simp only[ak,aw]at hc
    obtain⟨x',hx',lo',hlo,hi',hhi,rfl⟩:=hc
    simp only[execOp,hop]
    exact GivesN.of (LX s hd hx' (J0 hlo) (J0 hhi) hq)
 case build t parts =>
  simp only[cOp,hop,ak]at hc
  obtain⟨z,hz,d,hd,hc⟩:=hc
  simp only[Iq,ak]at hz
  obtain⟨zv,⟨it,hit,hzv⟩,hzc⟩:=hz
  have hz0:Pt (RepC w (okS K w B h) B) zv.cells.toList z:=DV _ _ hzc
  have key:∀(place:Nat→Option (Nat×Nat)) (ps:List (Nat×Nat×Opd)),u6 place parts.toList=some ps→qP P h (ev Γ) (.build z ps) r →
    (∀cells,Instr.fill place zv.cells (parts.toList.map fun p=>(p.1,a.eval p.2))=some cells→P.built t (parts.map fun(i,x)=>(i,a.eval x)).toList=some cells)→GivesN P K B h w (execOp a.eval o) r:=by
   rintro place ps hps ⟨cs,hcs,rfl⟩ hb
   obtain⟨cells,h1,h2⟩:=u9 (e:=ev Γ) (ρ:=a.eval) place (fun x y hxy=>aX s hxy) parts.toList ps zv.cells z cs hps hz0 hcs
   simp only[execOp,hop]
   exact GivesN.of ⟨_,run_build w t _ cells (hb cells h1),⟨cells,rfl,h2⟩⟩
  have hmap:(parts.map fun(i,x)=>(i,a.eval x)).toList=parts.toList.map fun p=>(p.1,a.eval p.2):=by simp
  cases d<;>simp only[reduceCtorEq]at hc
  case struct fs =>
   simp only[ak,aw]at hc
   obtain⟨pl,hpl,ps,hps,rfl⟩:=hc
   refine key _ ps hps hq fun cells hcells=>?_
   rw[hmap]
   unfold Program.built
   simp only[hit,hd,hzv,hpl]
   exact hcells
  case array n e =>
   simp only[ak,aw]at hc
   obtain⟨ie,hie,ps,hps,rfl⟩:=hc
   refine key _ ps hps hq fun cells hcells=>?_
   rw[hmap]
   unfold Program.built
   simp only[hit,hd,hzv,hie]
   exact hcells
 case call c =>
  simp only[cOp,hop]at hc
  split at hc
  ·simp only[ak]at hc
   obtain⟨fn,_,hc⟩:=hc
   split at hc
   ·simp only[aw]at hc;obtain⟨_,_,rfl⟩:=hc;exact hq.elim
   ·simp at hc
  ·simp only[ak,aw]at hc
   obtain⟨_,_,_,_,rfl⟩:=hc
   exact hq.elim
  ·rename_i hcal
   split at hc
   ·rename_i t ht
    simp only[ak]at hc
    obtain⟨d,hd,hc⟩:=hc
    have e0:∀x,(Builtin.len_ c.argTypes o.type #[a.eval x])=Builtin.len_ #[t] o.type #[a.eval x]:=fun x=>by simp[Builtin.len_,ht]
    have fin:∀x n,c.args.toList=[x]→(Builtin.len_ #[t] o.type #[a.eval x]).run P w = .ok (.int .i64 n) w→r=iV n→GivesN P K B h w (execOp a.eval o) r:=by
     intro x n hargs hrun hr
     subst hr
     have hargs':c.args = #[x]:=by rw[←Ck (xs:=c.args),hargs]
     refine⟨.int .i64 n,?_,akY _⟩
     simp[execOp,hop,resolve,hcal,hargs',invoke,builtin,e0,hrun]
    cases d<;>simp only[reduceCtorEq]at hc
    case slice e =>
     split at hc
     ·rename_i x hargs
      simp only[aw]at hc
      obtain⟨x',hx',rfl⟩:=hc
      obtain⟨n,hn,hr⟩:=hq
      exact fin x n hargs (ayz s hd (aX s hx') hn) hr
     ·simp at hc
    case map =>
     split at hc
     ·rename_i x hargs
      simp only[aw]at hc
      obtain⟨x',hx',rfl⟩:=hc
      obtain⟨n,hn,hr⟩:=hq
      exact fin x n hargs (alW s hd (aX s hx') hn) hr
     ·simp at hc
    case string =>
     split at hc
     ·rename_i x hargs
      simp only[aw]at hc
      obtain⟨x',hx',rfl⟩:=hc
      obtain⟨str,hv,hr⟩:=hq
      have hval:=d0 (hv▸aX s hx')
      exact fin x _ hargs (by rw[hval];simp[Builtin.len_,run_underlying hd,goInt]) hr
     ·simp at hc
   ·simp at hc
  ·rename_i hcal
   simp only[aw]at hc
   obtain⟨ys,hys,rfl⟩:=hc
   exact aHx s hop hcal hys false (by simp) hq
  ·rename_i hcal
   simp only[aw]at hc
   obtain⟨ys,hys,rfl⟩:=hc
   exact aHx s hop hcal hys true (by simp) hq
  ·split at hc
   ·simp only[ak]at hc
    obtain⟨d,hd,hc⟩:=hc
    cases d<;>simp only[reduceCtorEq]at hc
    simp only[ak]at hc
    obtain⟨ie,_,hc⟩:=hc
    split at hc
    ·simp only[ak,aw]at hc
     obtain⟨_,_,_,_,rfl⟩:=hc
     exact hq.elim
    ·simp at hc
   ·simp at hc
  ·simp at hc
 case alloc e =>
  simp only[cOp,hop,aw]at hc
  obtain⟨_,_,rfl⟩:=hc
  exact hq.elim
 case box e x =>
  simp only[cOp,hop,aw]at hc
  obtain⟨_,_,rfl⟩:=hc
  exact hq.elim
 case makeSlice t l c =>
  simp only[cOp,hop,ak]at hc
  obtain⟨d,hd,hc⟩:=hc
  cases d<;>simp only[reduceCtorEq]at hc
  simp only[ak]at hc
  obtain⟨_,_,_,_,hc⟩:=hc
  split at hc
  ·simp only[ak,aw]at hc
   obtain⟨_,_,_,_,rfl⟩:=hc
   exact hq.elim
  ·simp at hc
 case buildSlice t n ps =>
  simp only[cOp,hop,ak]at hc
  obtain⟨d,hd,hc⟩:=hc
  cases d<;>simp only[reduceCtorEq]at hc
  simp only[ak]at hc
  obtain⟨_,_,_,_,_,_,hc⟩:=hc
  split at hc
  ·cases hc;exact hq.elim
  ·simp at hc
 case store t x v =>
  simp only[cOp,hop,ak,aw]at hc
  obtain⟨_,_,_,_,_,_,rfl⟩:=hc
  exact hq.elim
 case makeMap t rs =>
  cases rs with
  | some _=>simp[cOp,hop]at hc
  | none =>
   simp only[cOp,hop,ak]at hc
   obtain⟨d,hd,hc⟩:=hc
   cases d<;>simp only[reduceCtorEq]at hc
   simp only[ak]at hc
   obtain⟨_,_,hc⟩:=hc
   split at hc
   ·cases hc;exact hq.elim
   ·simp at hc
 case lookup t x i ok =>
  simp only[cOp,hop,ak]at hc
  obtain⟨d,hd,hc⟩:=hc
  cases d<;>simp only[reduceCtorEq]at hc
  simp only[ak,aw]at hc
  obtain⟨kd,hkd,zv,⟨inf,hinf,hzv⟩,z,hz,x',hx',i',hi',rfl⟩:=hc
  obtain⟨key,es,hkv,hkey,hm,rfl⟩:=hq
  have hv:=d0 (hkv▸aX s hi')
  simp only[execOp,hop,hv]
  exact GivesN.of (alQ s hd hkd hinf hzv hz (aX s hx') hkey hm ok)
 case mapUpdate t x i v =>
  simp only[cOp,hop,ak]at hc
  obtain⟨d,hd,hc⟩:=hc
  cases d<;>simp only[reduceCtorEq]at hc
  simp only[ak,aw]at hc
  obtain⟨_,_,_,_,_,_,_,_,rfl⟩:=hc
  exact hq.elim
 case insert t x i v =>
  simp only[cOp,hop,ak]at hc
  obtain⟨d,hd,hc⟩:=hc
  cases d<;>simp only[reduceCtorEq]at hc
  simp only[ak,aw]at hc
  obtain⟨_,_,_,_,_,_,_,_,rfl⟩:=hc
  exact hq.elim
 all_goals (simp only[cOp,hop,reduceCtorEq]at hc)
end
end Go.VM
namespace Go.VM
structure Fresh(o:Oid)(Γ:Env)(h:Heap):Prop where
 env:∀t,o∉(Γ t).refs
 heap:∀p ob,h p=some ob→p≠o∧o∉ob.refs
def CT:C→T→Prop
 | .imm t,t'=>t=t'
 | .nilS,.sl _ rows=>rows=[]
 | _,_=>False
def CTs:List C→List T→Prop
 | [],[]=>True
 | c::cs,t::ts=>CT c t∧CTs cs ts
 | _,_=>False
def D6:List T→Nat→List T→List T
 | cur,_,[]=>cur
 | cur,off,c::r=>D6 (cur.set off c) (off+1) r
def wr(h:Heap):V→List C→Heap→Prop
 | .c (.ptrO o off),cs,h'=>∃bs,h o=some (.box bs)∧off+cs.length≤bs.length∧h'=h.put o (.box (setAt bs off cs))
 | .c (.elO o k i off),cs,h'=>∃e rows row ts,h o=some (.arr e k rows)∧rows[i]? = some row∧CTs cs ts∧off+ts.length≤row.length∧h'=h.put o (.arr e k (rows.set i (D6 row off ts)))
 | _,_,_=>False
def aCz(h:Heap)(k:Nat):V→List (List T)→Prop
 | .c .nilS,rows=>rows=[]
 | .c (.imm (.sl k' rs)),rows=>k'=k∧rows=rs
 | .c (.slO o),rows=>∃e,h o=some (.arr e k rows)
 | _,_=>False
theorem Fresh.get{o:Oid}{Γ:Env}{h:Heap}(hf:Fresh o Γ h):h o=none:=by
 cases hg:h o with
 | none=>rfl
 | some ob=>exact absurd rfl (hf.heap o ob hg).1
section
variable {P:Program} {K:Ctx} {B:Oid→Value} {Γ:Env} {h:Heap} {a:Act} {w:World}
theorem StB.new(s:StB K B Γ h a w)(o:Oid)(ob:Ob)(v:Value){w':World}(hf:Fresh o Γ h)(hpin : ¬K.pin o)(hfr:Fr w w' fun _=>False)
  (hv:∀b,gz v=some b→b<w'.heap.size∧w.heap.size≤b)
  (hr:∀B',(∀p,p≠o→B' p=B p)→B' o=v→(∀b,okS K w B h b→okS K w' B' (h.put o ob) b)→ObR w' (okS K w' B' (h.put o ob)) B' v ob) :
  ∃B',B' o=v∧(∀p,p≠o→B' p=B p)∧(∀b,okS K w B h b→okS K w' B' (h.put o ob) b∧w'.heap[b]? = w.heap[b]?)∧StB K B' Γ (h.put o ob) a w':=by
 have hn:=hf.get
 exact s.set o o ob v ⟨hfr.os,hfr.tape,hfr.output,hfr.size,fun b hb _=>hfr.block b hb id⟩ (fun b hb=>⟨(hv b hb).1,.inr (hv b hb).2⟩) (fun t hm=>absurd hm (hf.env t))
  (fun p ob' hp hne=>by
   simp only[Heap.put,hne,sk]at hp
   exact⟨hne,hp,fun hm=>absurd hm (hf.heap p ob' hp).2⟩)
  (fun hp=>absurd hp hpin) (by simp[Heap.put]) hr
theorem uW(w:World)(o:Obj):(w.alloc o).heap[w.heap.size]? = some o:=heap_alloc_new w o
theorem StB.newBox(s:StB K B Γ h a w)(o:Oid)(cells:Array Value)(e:TypeId)(cs:List C)(hf:Fresh o Γ h)(hpin : ¬K.pin o)(hcs:∀c∈cs,o∉c.refs)(hp:Pt (RepC w (okS K w B h) B) cells.toList cs) :
  ∃B',StB K B' Γ (h.put o (.box cs)) a (w.alloc (.cells cells e))∧RepV (w.alloc (.cells cells e)) (okS K (w.alloc (.cells cells e)) B' (h.put o (.box cs))) B' (.pointer (some ⟨w.heap.size,0,none⟩)) (.c (.ptrO o 0)):=by
 obtain⟨B',hB,_,_,s'⟩:=s.new o (.box cs) (.pointer (some ⟨w.heap.size,0,none⟩)) (w':=w.alloc (.cells cells e)) hf hpin (Fr.alloc w _ _)
  (fun b hb=>by simp[gz]at hb;subst hb;exact⟨by simp,mw _⟩)
  (fun B' hB hBo hok=>⟨w.heap.size,cells,e,rfl,uW w _,hp.mono fun j v x hx hr=>hr.mono (fun b hb=>(Fr.alloc w _ fun _=>False).block b hb.1 id) hok fun p hm=>hB p (by
   rintro rfl
   exact hcs x (nw hx) hm)⟩)
 exact⟨B',s',RepC.ptrO o 0 w.heap.size hB⟩
theorem Sx{α:Type}{k:Nat}:∀(rows:List (List α)) (j:Nat) (x:α),(∀r∈rows,r.length=k)→rows.flatten[j]? = some x →
  ∃i row j',rows[i]? = some row∧row[j']? = some x∧j=i*k+j'
 | [],j,x,_,h=>by simp at h
 | r::rows,j,x,hk,h=>by
  have h0:=hk r (by simp)
  simp only[yk,List.getElem?_append]at h
  split at h
  ·exact⟨0,r,j,rfl,h,by omega⟩
  ·rename_i hlt
   obtain⟨i,row,j',h1,h2,h3⟩:=Sx rows (j-r.length) x (fun y hy=>hk y (by simp[hy])) h
   exact⟨i+1,row,j',by simpa using h1,h2,by rw[Nat.add_mul];omega⟩
theorem RepT.rows{ok:Nat→Prop}{q:Option Addr}{len cap k:Nat}{rows:List (List T)}(hr:RepT w ok (.slice q len cap) (.sl k rows)) :
  len=rows.length∧(∀row∈rows,row.length=k)∧((rows=[])∨∃b off vs,q=some ⟨b,off,none⟩∧Lies w b off vs∧Pt (RepT w ok) vs rows.flatten):=by
 cases hr with
 | nil=>exact⟨rfl,by simp,.inl rfl⟩
 | sl b off _ _ _ f hok hle hk hc hrr =>
  refine⟨rfl,hk,.inr ⟨b,off,?_⟩⟩
  obtain⟨vs,h1,h2⟩:=At.list (b:=b) (w:=w) (ok:=ok) rows.flatten off ⟨hok,fun j x hx=>by
   obtain⟨i,row,j',g1,g2,rfl⟩:=Sx rows j x hk hx
   exact⟨_,by rw[←hc i row j' x g1 g2];congr 2;omega,hrr i row j' x g1 g2⟩⟩
  exact⟨vs,rfl,h1,h2⟩
end
end Go.VM
namespace Go.VM
section
variable {P:Program} {K:Ctx} {B:Oid→Value} {Γ:Env} {h:Heap} {a:Act} {w:World}
theorem Fr.setRow(w:World)(g:Nat)(cs:Array Value)(m:Nat→Prop)(hm:m g):Fr w (w.setRow g cs) m :=
 ⟨rfl,rfl,rfl,by simp,fun b _ hb=>setRow_other w g b cs (fun e=>hb (e▸hm))⟩
theorem RZ(t ty e:TypeId)(i:TypeInfo)(z:Value)(ht:P.underlying t=some (.slice e))(hi:P.info? e=some i)(hz:i.zero=some z)(hzs:z.cells.size=i.size)
  (v:Value) (n:Nat) (xs:List Value) (hown:w.ownsRow 0 e i.size v n xs) (q:Option Addr) (m c:Nat) (news:List Value)
  (hsrc:m=0∨∃b off,q=some ⟨b,off,none⟩∧Lies w b off news) (hl:news.length=m*i.size) (h1:∀u∈news,u.oneCell'=true)
  (h63:n+m≤maxLen) (hbytes:(n+m)*i.bytes≤140737488355328) :
  ∃v' w',(Builtin.append_ #[t,t] ty #[v,.slice q m c]).run P w = .ok v' w'∧w'.ownsRow 0 e i.size v' (n+m) (xs++news) ∧
   Fr w w' (fun b=>gz v=some b)∧(∀b,gz v'=some b→b<w'.heap.size∧(gz v=some b∨w.heap.size≤b)):=by
 have h63':n+m≤9223372036854775807:=by simp only[maxLen]at h63;omega
 rcases hown with⟨hxs,hown⟩
 have hlen:(xs++news).length=(n+m)*i.size:=by rw[dw,hxs,hl,Nat.add_mul]
 by_cases hm0:m=0
 ·subst hm0
  have hn:news=[]:=fk (by simpa using hl)
  subst hn
  have hfc:∀w:World,(Builtin.firstCells i.size 0 (.slice q 0 c)).run P w = .ok #[] w:=by
   intro w;cases q<;>simp[Builtin.firstCells,loadCells,loadCellsFrom]
  rcases hown with⟨rfl,rfl⟩ | ⟨g,cap,cur,rfl,hb,hg,hnc,hcm,hcs,htake⟩
  ·refine⟨.slice none 0 0,w,by simp[Builtin.append_,run_underlying ht,sizeOf,typeInfo,hi,Builtin.lenOf,hfc],⟨hlen,.inl ⟨rfl,rfl⟩⟩,Fr.refl _ _,fun b hb=>by simp[gz]at hb⟩
  ·refine⟨.slice (some ⟨g,0,none⟩) n cap,w,by simp[Builtin.append_,run_underlying ht,sizeOf,typeInfo,hi,Builtin.lenOf,hfc,hnc,storeCells],
    ⟨hlen,.inr ⟨g,cap,cur,rfl,hb,hg,hnc,hcm,hcs,by simpa using htake⟩⟩,Fr.refl _ _,fun b hb=>⟨?_,.inl hb⟩⟩
   simp[gz]at hb;subst hb;exact(pw.1 hg).1
 ·obtain⟨sb,soff,rfl,hlies⟩:=hsrc.resolve_left hm0
  have hnews:∀j u,news[j]? = some u→w.cell? ((⟨sb,soff,none⟩ : Addr).add j)=some u:=fun j u hu=>by rw[gX];exact hlies j u hu
  rcases hown with⟨rfl,rfl⟩ | ⟨g,cap,cur,rfl,hb,hg,hnc,hcm,hcs,htake⟩
  ·have hx:xs=[]:=fk (by simpa using hxs)
   subst hx
   have hr:=run_append_nil (P:=P) w t ty e i z ht hi hz ⟨sb,soff,none⟩ m c news hl hnews (by omega) (by omega) (by simp only[Nat.zero_add]at hbytes;omega)
   refine⟨_,_,hr,⟨hlen,.inr ⟨w.heap.size,grownCap w m 0 e,_,by simp,Nat.zero_le _,heap_alloc_new w.drew _,?_,?_,?_,?_⟩⟩,⟨rfl,rfl,rfl,by simp,fun b hb _=>heap_alloc_old w.drew _ hb⟩,fun b hb=>?_⟩
   ·have:=grownCap_ge w m 0 e;omega
   ·exact grownCap_le_maxLen w m 0 e (by simp only[Nat.zero_add]at h63;exact h63)
   ·have:=grownCap_ge w m 0 e
    simp only[Array.size_append,List.size_toArray,size_zeroCells,hzs,hl,←Nat.add_mul]
    congr 1;omega
   ·simp only[Array.toList_append,List.nil_append,Nat.zero_add,←hl]
    exact List.take_left
   ·simp[gz]at hb;subst hb;exact⟨by simp,.inr (mw _)⟩
  ·have holds:Lies w g 0 xs:=fun j u hu=>by
    rw[←htake,zw]at hu
    split at hu
    ·simp[World.cell?,hg,←Array.getElem?_toList,hu]
    ·simp at hu
   by_cases hroom:n+m≤cap
   ·have hfit:n*i.size+news.length≤cur.size:=by rw[hl,hcs,←Nat.add_mul];exact Nat.mul_le_mul_right _ hroom
    have hr:=run_append_room (P:=P) w t ty e i ht hi g n cap cur hg ⟨sb,soff,none⟩ m c news hl hnews h1 hroom hfit
    refine⟨_,_,hr,⟨hlen,.inr ⟨g,cap,_,rfl,hb,setRow_heap w g cur _ e _ hg,hroom,hcm,?_,?_⟩⟩,Fr.setRow w g _ _ (by simp[gz]),fun b hb=>⟨?_,.inl hb⟩⟩
    ·simp only[List.size_toArray,dw,List.length_take,List.length_drop,Array.length_toList]
     omega
    ·rw[htake,←hlen]
     exact List.take_left
    ·simp[gz]at hb;subst hb;have:=(pw.1 hg).1;simpa using this
   ·have hr:=run_append_grow (P:=P) w t ty e i z ht hi hz ⟨g,0,none⟩ n cap xs hxs (fun j u hu=>by rw[gX];exact holds j u hu) ⟨sb,soff,none⟩ m c news hl hnews (by omega) (by omega) (growslice_fits (by omega) hbytes)
    refine⟨_,_,hr,⟨hlen,.inr ⟨w.heap.size,_,_,rfl,Nat.zero_le _,heap_alloc_new w.drew _,?_,?_,?_,?_⟩⟩,⟨rfl,rfl,rfl,by simp,fun b hb _=>heap_alloc_old w.drew _ hb⟩,fun b hb=>?_⟩
    ·exact grownCap_ge w (n+m) cap e
    ·exact grownCap_le_maxLen w (n+m) cap e h63
    ·have:=grownCap_ge w (n+m) cap e
     simp only[Array.size_append,List.size_toArray,size_zeroCells,hzs,hxs,hl,←Nat.add_mul]
     congr 1;omega
    ·simp only[Array.toList_append,uk]
     rw[←uk,←hlen]
     exact List.take_left
    ·simp[gz]at hb;subst hb;exact⟨by simp,.inr (mw _)⟩
theorem FJ(s:StB K B Γ h a w){k:Nat}{v:Value}{x:V}{rows:List (List T)}(hx:RepV w (okS K w B h) B v x)(hs:aCz h k x rows) :
  ∃q cap news,v = .slice q rows.length cap∧(∀row∈rows,row.length=k)∧(rows.length=0∨∃b off,q=some ⟨b,off,none⟩∧Lies w b off news)∧Pt (RepT w (okS K w B h)) news rows.flatten:=by
 unfold aCz at hs
 split at hs
 ·subst hs
  have hx':RepC w (okS K w B h) B v .nilS:=hx
  cases hx' with
  | nilS=>exact⟨none,0,[],rfl,by simp,.inl rfl,Pt.nil⟩
 ·rename_i k' rs
  obtain⟨rfl,rfl⟩:=hs
  have hx':RepC w (okS K w B h) B v (.imm (.sl _ _)):=hx
  cases hx' with
  | imm _ _ hr =>
   have hform:∃q len cap,v = .slice q len cap:=by cases hr<;>exact⟨_,_,_,rfl⟩
   obtain⟨q,len,cap,rfl⟩:=hform
   obtain⟨rfl,hk,hlie⟩:=hr.rows
   rcases hlie with rfl | ⟨b,off,vs,rfl,h1,h2⟩
   ·exact⟨q,cap,[],rfl,by simp,.inl rfl,Pt.nil⟩
   ·exact⟨_,cap,vs,rfl,hk,.inr ⟨b,off,rfl,h1⟩,h2⟩
 ·rename_i o
  obtain⟨e,bY⟩:=hs
  have hx':RepC w (okS K w B h) B v (.slO o):=hx
  cases hx' with
  | slO _ aa len cap hB =>
   obtain⟨_,hk,cs,hown,hp⟩:=s.objs.rep o _ bY
   rw[hB]at hown
   rcases hown.2 with⟨hv,hz⟩ | ⟨g,cap',cur,hv,_,hg,_,_,_,htake⟩
   ·cases hv
    have:rows=[]:=fk hz
    subst this
    exact⟨none,0,[],rfl,by simp,.inl rfl,Pt.nil⟩
   ·cases hv
    refine⟨_,cap,cs,rfl,hk,.inr ⟨g,0,rfl,fun j u hu=>?_⟩,hp⟩
    rw[←htake,zw]at hu
    split at hu
    ·simp[World.cell?,hg,←Array.getElem?_toList,hu]
    ·simp at hu
 ·exact hs.elim
end
end Go.VM
namespace Go.VM
open MapKept
section
variable {P:Program} {K:Ctx} {B:Oid→Value} {Γ:Env} {h:Heap} {a:Act} {w:World}
theorem StB.newMap(s:StB K B Γ h a w)(o:Oid)(kd:TypeDesc)(hf:Fresh o Γ h)(hpin : ¬K.pin o) :
  ∃B',StB K B' Γ (h.put o (.map kd [])) a (w.alloc (.map #[] 0))∧RepV (w.alloc (.map #[] 0)) (okS K (w.alloc (.map #[] 0)) B' (h.put o (.map kd []))) B' (.map (some w.heap.size)) (.c (.mapO o)):=by
 obtain⟨B',hB,_,_,s'⟩:=s.new o (.map kd []) (.map (some w.heap.size)) (w':=w.alloc (.map #[] 0)) hf hpin (Fr.alloc w _ _)
  (fun b hb=>by simp[gz]at hb;subst hb;exact⟨by simp,mw _⟩)
  (fun B' hB hBo hok=>⟨w.heap.size,#[],0,rfl,uW w _,rfl,rfl,fun i e p he=>by simp at he⟩)
 exact⟨B',s',RepC.mapO o w.heap.size hB⟩
theorem F3{x:V}(hp:kK x=true){ok:Nat→Prop}{v:Value}(h:RepV w ok B v x):RepS w ok B v x:=by
 cases x with
 | c _=>exact h
 | agg _=>exact h
 | tup _=>simp[kK]at hp
 | junk=>simp[kK]at hp
theorem EJ(s:StB K B Γ h a w){t k e:TypeId}{kd:TypeDesc}(ht:P.underlying t=some (.map k e))(hk:P.underlying k=some kd){o:Oid}{es:List (Value×MT)}{m key v:Value}{x:MT}
  (hm:RepV w (okS K w B h) B m (.c (.mapO o))) (hg:h o=some (.map kd es)) (hkey:keyOf kd key=true) (hx:RepV w (okS K w B h) B v x.v) :
  ∃w' B',(Instr.mapUpdate t m key v).run P w = .ok () w'∧StB K B' Γ (h.put o (.map kd (putK key x es))) a w':=by
 obtain⟨b,es',clock,hB,hh,hcl,hsz,he⟩:=s.objs.rep _ _ hg
 have hv:m = .map (some b):=by
  have:RepC w (okS K w B h) B m (.mapO o):=hm
  cases this with
  | mapO _ r hB'=>rw[hB]at hB';cases hB';rfl
 subst hv
 have hxs:=F3 (by cases x<;>rfl) hx
 have fin:∀(es2:Array MapEntry) (c2:Nat),(Instr.mapUpdate t (.map (some b)) key v).run P w = .ok () {w with heap:=w.heap.setIfInBounds b (.map es2 c2)} →
   c2=(putK key x es).length→es2.size=(putK key x es).length→(∀(i:Nat) e p,es2[i]? = some e→(putK key x es)[i]? = some p→e.key=p.1∧keyOf kd p.1=true∧e.born=i∧RepS w (okS K w B h) B e.val p.2.v) →
   ∃w' B',(Instr.mapUpdate t (.map (some b)) key v).run P w = .ok () w'∧StB K B' Γ (h.put o (.map kd (putK key x es))) a w':=by
  intro es2 c2 hrun hc2 hs2 he2
  obtain⟨Hx,hoth⟩:=heap_set (o':=.map es2 c2) hh
  obtain⟨B',hBo,hB',hok,s'⟩:=s.set o o (.map kd (putK key x es)) (B o) (w':={w with heap:=w.heap.setIfInBounds b (.map es2 c2)}) (h':=h.put o (.map kd (putK key x es)))
   ⟨rfl,rfl,rfl,by simp,fun b' hb' hn=>hoth b' fun e=>hn ⟨by rw[e,hB];rfl,by rw[hg];rfl⟩⟩
   (fun b' hb'=>by
    have hlt:=(s.objs.rep _ _ hg).lt hb'
    exact⟨by simpa using hlt,.inl ⟨hb',by rw[hg];rfl⟩⟩)
   (fun _ _=>rfl) (fun p ob' hp hne=>⟨hne,by simpa[Heap.put,hne]using hp,fun _=>rfl⟩) (fun _=>rfl) (by simp[Heap.put])
   (fun B' hB' hBo hok=>⟨b,es2,c2,hB,Hx,hc2,hs2,fun i e p g1 g2=>by
    obtain⟨q1,q2,q3,q4⟩:=he2 i e p g1 g2
    refine⟨q1,q2,q3,q4.mono (fun b' hb'=>hoth b' fun e=>hb'.2.2 o _ hg (by rw[e,hB];rfl)) hok fun p _=>?_⟩
    by_cases ep:p=o
    ·subst ep;exact hBo
    ·exact hB' p ep⟩)
  exact⟨_,B',hrun,s'⟩
 rcases yZ hkey es'.toList es 0 (by simpa using hsz) (fun j e p g1 g2=>by
   obtain⟨h1,h2,_,_⟩:=he j e p (by simpa using g1) g2
   exact⟨h1,h2⟩)with⟨g1,g2,g3⟩ | ⟨j,e',p,g1,g2,g3,g4,g5,g6⟩
 ·refine fin (es'.push ⟨key,v,clock⟩) (clock+1) ?_ (by rw[g3];simp[hcl]) (by rw[g3];simp[hsz]) fun i e p q1 q2=>?_
  ·simp[Instr.mapUpdate,run_underlying ht,MapKept.run_getObj_map hh,run_checkKey hk (keyOf_is hkey),run_findKey hk g2,MapKept.run_setObj_map _ hh,Result.andThen]
  ·rw[g3]at q2
   rw[Array.getElem?_push]at q1
   split at q1
   ·rename_i hi
    cases q1
    rw[List.getElem?_append_right (by omega)]at q2
    have:i-es.length=0:=by omega
    rw[this]at q2
    simp at q2
    subst q2
    exact⟨rfl,hkey,by rw[hcl];simp;omega,hxs⟩
   ·have hlt:i<es'.size:=(pw.1 q1).1
    rw[lw (by omega)]at q2
    exact he i e p q1 q2
 ·have hj:es'[j]? = some e':=by simpa using g1
  refine fin (es'.modify j fun e'=>{e' with key:=key,val:=v}) clock ?_ (by rw[g6];simp[hcl]) (by rw[g6];simp[hsz]) fun i e p q1 q2=>?_
  ·simp[Instr.mapUpdate,run_underlying ht,MapKept.run_getObj_map hh,run_checkKey hk (keyOf_is hkey),run_findKey hk g4,hj,g5,run_keyThatStays (keyOf_is hkey),MapKept.run_setObj_map _ hh,Result.andThen]
  ·rw[g6]at q2
   rw[Array.getElem?_modify]at q1
   rw[kw]at q2
   by_cases eij:j=i
   ·subst eij
    simp only[if_true,hj,qw,ek]at q1
    have hlt:j<es.length:=(bw.1 g2).1
    simp only[if_true,hlt,ek]at q2
    subst q1;subst q2
    obtain⟨_,_,hb3,_⟩:=he j e' _ hj g2
    exact⟨rfl,hkey,hb3,hxs⟩
   ·simp only[eij,sk]at q1 q2
    exact he i e p q1 q2
end
end Go.VM
namespace Go.VM
def eP(d:Oid)(Γ:Env)(h:Heap):VO→(V→Env→Heap→Prop)→Prop
  | .alloc _ z,k=>Fresh d Γ h∧k (.c (.ptrO d 0)) Γ (h.put d (.box z))
  | .box _ x,k=>Fresh d Γ h∧∃cs,c5 (ev Γ x)=some cs∧k (.c (.ptrO d 0)) Γ (h.put d (.box cs))
  | .mksl e n bytes z l c,k=>Fresh d Γ h∧∃m zt,ev Γ l=iV m∧(∃mc,ev Γ c=iV mc∧m≤mc∧mc*bytes≤140737488355328∧mc≤9223372036854775807)∧0≤m∧m*bytes≤140737488355328∧m≤9223372036854775807∧CTs z zt ∧
      k (.c (.slO d)) Γ (h.put d (.arr e n (List.replicate m.toNat zt)))
  | .bsl e n len z ps,k=>Fresh d Γ h∧∃cs rows,xx (ev Γ) (List.replicate len z).flatten ps=some cs∧rows.length=len∧(∀r∈rows,r.length=n)∧CTs cs rows.flatten ∧
      k (.c (.slO d)) Γ (h.put d (.arr e n rows))
  | .store n x v,k=>∃cs h',c5 (ev Γ v)=some cs∧cs.length=n∧wr h (ev Γ x) cs h'∧k .junk Γ h'
  | .app e n bytes s x,k=>∃new,aCz h n (ev Γ x) new ∧
      ((ev Γ s = .c .nilS∧Fresh d Γ h∧new.length*bytes≤140737488355328∧new.length≤9223372036854775807∧k (.c (.slO d)) Γ (h.put d (.arr e n new))) ∨
       ∃o rows,ev Γ s = .c (.slO o)∧h o=some (.arr e n rows)∧Fresh d Γ h∧(rows.length+new.length)*bytes≤140737488355328∧rows.length+new.length≤9223372036854775807 ∧
        k (.c (.slO d)) Γ ((h.drop o).put d (.arr e n (rows++new))))
  | .mkmap kd,k=>Fresh d Γ h∧k (.c (.mapO d)) Γ (h.put d (.map kd []))
  | .mupd kd x i v,k=>∃o es key,ev Γ x = .c (.mapO o)∧h o=some (.map kd es)∧ev Γ i=scV key∧keyOf kd key=true∧∃y:MT,ev Γ v=y.v∧k .junk Γ (h.put o (.map kd (putK key y es)))
  | _,_=>False
section
variable {P:Program} {K:Ctx} {B:Oid→Value} {Γ:Env} {h:Heap} {a:Act} {w:World}
def Ends(P:Program)(K:Ctx)(a:Act)(w:World)(m:Sem Next)(k:V→Env→Heap→Prop):Prop :=
  ∃nx v w' B' x Γ' h',m.run P w = .ok nx w'∧(nx = .value v∨(nx = .skip∧v=undef))∧k x Γ' h'∧StB K B' Γ' h' a w'∧RepV w' (okS K w' B' h') B' v x
theorem E1(s:StB K B Γ h a w){o:Oid}(hd:o.1<1000) : ¬K.pin o:=fun hp=>by
  have:=(s.pin o hp).1
  omega
theorem U7(s:StB K B Γ h a w){o:Oper}{c:Call}(hop:o.op = .call c)(hcal:c.callee = .builtin .append){t elem:TypeId}{ie:TypeInfo}{s0 x0:Operand}(hty:c.argTypes.toList=[t,t])(hargs:c.args.toList=[s0,x0])
    (ht:P.underlying t=some (.slice elem)) (hie:P.info? elem=some ie) (hsz:0<ie.size) (hz:(ie.zero.map fun z=>z.cells.size)=some ie.size) {s' x':Opd} (hs':bX s0=some s') (hx':bX x0=some x')
    {d:Oid} (hd:d.1<1000) {k:V→Env→Heap→Prop} (he:eP d Γ h (.app elem ie.size ie.bytes s' x') k):Ends P K a w (execOp a.eval o) k:=by
  obtain⟨z,hz1,hz2⟩ : ∃z,ie.zero=some z∧z.cells.size=ie.size:=by
    cases hzz:ie.zero with
    | none=>simp[hzz]at hz
    | some z=>simp[hzz]at hz;exact⟨z,rfl,hz⟩
  obtain⟨new,hsrc,he⟩:=he
  obtain⟨q,cap,news,hxv,hk,hlie,hpt⟩:=FJ s (aX s hx') hsrc
  have hnl:news.length=new.length*ie.size:=by
    rw[hpt.1]
    clear hpt hlie hxv hsrc he
    induction new with
    | nil=>simp
    | cons r rs ih=>simp only[yk,dw,hk r (by simp),ih (fun y hy=>hk y (by simp[hy])),uw];rw[Nat.add_mul];omega
  have hone:∀u∈news,u.oneCell'=true:=fun u hu=>by
    obtain⟨j,hj⟩:=List.getElem?_of_mem hu
    have hlt:j<new.flatten.length:=by rw[←hpt.1];exact(bw.1 hj).1
    exact(hpt.2 j u new.flatten[j] hj (cw hlt)).one
  have hlie':new.length=0∨∃b off,q=some ⟨b,off,none⟩∧Lies w b off news:=hlie
  have hargs':c.args = #[s0,x0]:=by rw[←Ck (xs:=c.args),hargs]
  have htys:c.argTypes = #[t,t]:=by rw[←Ck (xs:=c.argTypes),hty]
  have hexec:∀v' w',(Builtin.append_ #[t,t] o.type #[a.eval s0,.slice q new.length cap]).run P w = .ok v' w'→(execOp a.eval o).run P w = .ok (.value v') w':=by
    intro v' w' hr
    simp[execOp,hop,resolve,hcal,hargs',htys,invoke,builtin,hxv,hr]
  have hsr:=aX s hs'
  rcases he with⟨hs0,hf,hb1,hb2,hk'⟩ | ⟨ob,rows,hs0,bY,hf,hb1,hb2,hk'⟩
  ·rw[hs0]at hsr
   have hval:a.eval s0 = .slice none 0 0:=by
     generalize a.eval s0=v at hsr
     have hx':RepC w (okS K w B h) B v .nilS:=hsr
     cases hx';rfl
   obtain⟨v',w',hrun,hown,hfr,hblk⟩:=RZ (P:=P) t o.type _ ie z ht hie hz1 hz2 (.slice none 0 0) 0 [] (World.ownsRow_nil w 0 elem ie.size) q new.length cap news hlie' hnl hone
     (by simp only[maxLen];omega) (by simpa using hb1)
   simp only[Nat.zero_add,List.nil_append]at hown
   obtain⟨B',hBo,hB,hok,s'⟩:=s.new d (.arr _ ie.size new) v' (w':=w') hf (E1 s hd) ⟨hfr.os,hfr.tape,hfr.output,hfr.size,fun b hb _=>hfr.block b hb (by simp[gz])⟩
     (fun b hb=>⟨(hblk b hb).1,(hblk b hb).2.resolve_left (by simp[gz])⟩)
     (fun B' hB hBo hok=>⟨hsz,hk,news,hown,hpt.mono fun j v x hx hr=>hr.mono (fun b hb=>hfr.block b hb.1 (by simp[gz])) hok⟩)
   refine⟨.value v',v',w',B',_,_,_,hexec v' w' (by rw[hval];exact hrun),.inl rfl,hk',s',?_⟩
   have hvform:∃q' l' c',v' = .slice q' l' c':=by
     rcases hown.2 with⟨e,_⟩ | ⟨g,cap',cur,e,_⟩
     ·exact⟨_,_,_,e⟩
     ·exact⟨_,_,_,e⟩
   obtain⟨q',l',c',rfl⟩:=hvform
   exact RepC.slO d q' l' c' hBo
  ·rw[hs0]at hsr
   obtain⟨_,hkr,cs,hown0,hp0⟩:=s.objs.rep ob _ bY
   have hval:a.eval s0=B ob:=by
     generalize a.eval s0=v at hsr
     have hx':RepC w (okS K w B h) B v (.slO ob):=hsr
     cases hx' with
     | slO _ q l c hB=>exact hB.symm
   obtain⟨v',w',hrun,hown,hfr,hblk⟩:=RZ (P:=P) t o.type elem ie z ht hie hz1 hz2 (B ob) rows.length cs hown0 q new.length cap news hlie' hnl hone
     (by simp only[maxLen];omega) hb1
   obtain⟨B',hBo,hB,hok,s'⟩:=s.set (w':=w') (h':=(h.drop ob).put d (.arr elem ie.size (rows++new))) ob d (.arr elem ie.size (rows++new)) v'
     ⟨hfr.os,hfr.tape,hfr.output,hfr.size,fun b hb hn=>hfr.block b hb (fun hx=>hn ⟨hx,by rw[bY];rfl⟩)⟩
     (fun b hb=>⟨(hblk b hb).1,(hblk b hb).2.imp (fun hx=>⟨hx,by rw[bY];rfl⟩) id⟩)
     (fun t hm=>absurd hm (hf.env t))
     (fun p ob' hp hne=>by
       simp only[Heap.put,hne,sk,Heap.drop]at hp
       split at hp
       ·simp at hp
       ·rename_i hpo
        exact⟨hpo,hp,fun hm=>absurd hm (hf.heap p ob' hp).2⟩)
     (fun hp=>absurd hp (E1 s hd)) (by simp[Heap.put])
     (fun B' hB hBo hok=>by
       refine⟨hsz,fun row hrow=>?_,cs++news,by rw[dw];exact hown,?_⟩
       ·rcases ow.1 hrow with hr | hr
        ·exact hkr row hr
        ·exact hk row hr
       ·rw[List.flatten_append]
        refine Pt.append ?_ ?_
        ·exact hp0.mono fun j v x hx hr=>hr.mono (fun b hb=>hfr.block b hb.1 fun hx=>hb.2.2 ob _ bY hx) hok
        ·exact hpt.mono fun j v x hx hr=>hr.mono (fun b hb=>hfr.block b hb.1 fun hx=>hb.2.2 ob _ bY hx) hok)
   refine⟨.value v',v',w',B',_,_,_,hexec v' w' (by rw[hval];exact hrun),.inl rfl,hk',s',?_⟩
   have hvform:∃q' l' c',v' = .slice q' l' c':=by
     rcases hown.2 with⟨e,_⟩ | ⟨g,cap',cur,e,_⟩
     ·exact⟨_,_,_,e⟩
     ·exact⟨_,_,_,e⟩
   obtain⟨q',l',c',rfl⟩:=hvform
   exact RepC.slO d q' l' c' hBo
theorem Aj{t:TypeId}{i:TypeInfo}(hi:P.info? t=some i){g off:Nat}{cur:Array Value}{e:TypeId}(hg:w.heap[g]? = some (.cells cur e (0,0))){v:Value}(hsz:v.cells.size=i.size)(hfit:off+v.cells.size≤cur.size)(h1:∀u∈v.cells.toList,u.oneCell'=true) :
    (storeVar t ⟨g,off,none⟩ v).run P w = .ok () (w.setRow g (cur.toList.take off++v.cells.toList++cur.toList.drop (off+v.cells.size)).toArray):=by
  have hst:=run_storeCells_at P g off e v.cells.toList 0 cur w hg (by simpa using hfit) h1
  simp only[Nat.add_zero,Array.length_toList]at hst
  simp[storeVar,sizeOf,typeInfo,hi,hsz,hst]
theorem HX{α:Type}(l:List α)(k:Nat)(v:α)(rest:List α)(hk:k+(rest.length+1)≤l.length) :
    (l.set k v).take (k+1)++rest++(l.set k v).drop (k+1+rest.length)=l.take k++(v::rest)++l.drop (k+(rest.length+1)):=by
  have hlt:k<l.length:=by omega
  have e1:(l.set k v).take (k+1)=l.take k++[v]:=by
    rw[List.take_succ_eq_append_getElem (by simpa using hlt)]
    rw[List.take_set,List.set_eq_of_length_le (by simp;omega)]
    simp
  have e2:(l.set k v).drop (k+1+rest.length)=l.drop (k+(rest.length+1)):=by
    rw[List.drop_set]
    rw[if_pos (by omega)]
    congr 1;omega
  rw[e1,e2];simp
theorem aGK(cs:List C):∀(cur:List C) (off:Nat),off+cs.length≤cur.length→setAt cur off cs=cur.take off++cs++cur.drop (off+cs.length):=by
  induction cs with
  | nil=>intro cur off _;simp[setAt]
  | cons c r ih =>
    intro cur off hl
    simp only[uw]at hl
    rw[setAt,ih _ _ (by simp;omega)]
    have h:=HX cur off c r hl
    exact h
theorem Pt.setAt{ok:Nat→Prop}{vs us:List Value}{cs bs:List C}{off:Nat}(hb:Pt (RepC w ok B) us bs)(hc:Pt (RepC w ok B) vs cs)(hl:off+cs.length≤bs.length) :
    Pt (RepC w ok B) (us.take off++vs++us.drop (off+vs.length)) (setAt bs off cs):=by
  rw[aGK cs bs off hl,hc.1]
  exact((hb.take off).append hc).append (hb.drop _)
theorem X3(cs:List T):∀(cur:List T) (off:Nat),off+cs.length≤cur.length→D6 cur off cs=cur.take off++cs++cur.drop (off+cs.length):=by
  induction cs with
  | nil=>intro cur off _;simp[D6]
  | cons c r ih =>
    intro cur off hl
    simp only[uw]at hl
    rw[D6,ih _ _ (by simp;omega)]
    exact HX cur off c r hl
theorem RX{ok:Nat→Prop}:∀(vs:List Value) (cs:List C) (ts:List T),Pt (RepC w ok B) vs cs→CTs cs ts→Pt (RepT w ok) vs ts
  | [],cs,ts,hp,hm=>by
    have:cs=[]:=fk (by have:=hp.1;simpa using this.symm)
    subst this
    cases ts with
    | nil=>exact Pt.nil
    | cons _ _=>exact hm.elim
  | v::vs,cs,ts,hp,hm=>by
    cases cs with
    | nil=>have:=hp.1;simp at this
    | cons c cs =>
      cases ts with
      | nil=>exact hm.elim
      | cons t ts =>
        have h0:=hp.2 0 v c rfl rfl
        have ht:Pt (RepC w ok B) vs cs:=⟨by have:=hp.1;simpa using this,fun j u z hu hz=>hp.2 (j+1) u z (by simpa using hu) (by simpa using hz)⟩
        refine Pt.cons ?_ (RX vs cs ts ht hm.2)
        have hct:=hm.1
        cases c<;>simp only[CT]at hct
        case imm t'=>subst hct;cases h0 with
          | imm _ _ h=>exact h
        case nilS=>cases h0;cases t with
          | sc _=>exact hct.elim
          | sl k rows=>simp only at hct;subst hct;exact .nil _ _ _
theorem P7{α:Type}{k:Nat}:∀(rows:List (List α)) (i:Nat) (row row':List α),(∀r∈rows,r.length=k)→rows[i]? = some row→row'.length=k →
    (rows.set i row').flatten=rows.flatten.take (i*k)++row'++rows.flatten.drop (i*k+k)
  | [],i,row,row',_,h,_=>by simp at h
  | r::rows,0,row,row',hk,h,hl=>by
    have:=hk r (by simp)
    simp[←this]
  | r::rows,i+1,row,row',hk,h,hl=>by
    have h0:=hk r (by simp)
    have ih:=P7 rows i row row' (fun x hx=>hk x (by simp[hx])) (by simpa using h) hl
    simp only[List.set_cons_succ,yk,ih]
    rw[show(i+1)*k=r.length+i*k from by rw[h0,Nat.add_mul];omega]
    rw[List.take_append,List.drop_append]
    simp[List.take_of_length_le,Nat.add_sub_cancel_left,List.drop_eq_nil_of_le,Nat.add_assoc]
theorem W3{α:Type}{k:Nat}(rows:List (List α))(i off:Nat)(row ts:List α)(hk:∀r∈rows,r.length=k)(hi:rows[i]? = some row)(hl:off+ts.length≤k) :
    (rows.set i (row.take off++ts++row.drop (off+ts.length))).flatten=rows.flatten.take (i*k+off)++ts++rows.flatten.drop (i*k+off+ts.length):=by
  have hrl:=hk row (nw hi)
  rw[P7 rows i row _ hk hi (by simp;omega)]
  have hf:=flatten_get rows i row hk hi
  have hd:rows.flatten.drop (i*k)=row++rows.flatten.drop (i*k+k):=by
    conv=>lhs;rw[←List.take_append_drop k (rows.flatten.drop (i*k)),hf,List.drop_drop]
  have e1:rows.flatten.take (i*k+off)=rows.flatten.take (i*k)++row.take off:=by
    rw[List.take_add,hd,List.take_append_of_le_length (by omega)]
  have e2:rows.flatten.drop (i*k+off+ts.length)=row.drop (off+ts.length)++rows.flatten.drop (i*k+k):=by
    rw[Nat.add_assoc,←List.drop_drop,hd,List.drop_append_of_le_length (by omega)]
  rw[e1,e2]
  simp only[uk]
theorem L6(s:StB K B Γ h a w){t:TypeId}{i:TypeInfo}(hi:P.info? t=some i){x v:Operand}{x' v':Opd}(hx:bX x=some x')(hv:bX v=some v'){cs:List C}{h':Heap}
    (hcs:c5 (ev Γ v')=some cs) (hn:cs.length=i.size) (hw:wr h (ev Γ x') cs h') :
    ∃w' B',(Instr.storeAt t (a.eval x) (a.eval v)).run P w = .ok () w'∧StB K B' Γ h' a w':=by
  have hp:=xV (aX s hv) hcs
  have hsz:(a.eval v).cells.size=i.size:=by have:=hp.1;simp at this;omega
  have hone:∀u∈(a.eval v).cells.toList,u.oneCell'=true:=fun u hu=>by
    obtain⟨j,hj⟩:=List.getElem?_of_mem hu
    have hlt:j<cs.length:=by rw[←hp.1];exact(bw.1 hj).1
    exact(hp.2 j u cs[j] hj (cw hlt)).one
  have hxr:=aX s hx
  cases hX:ev Γ x' with
  | agg _=>rw[hX]at hw;simp[wr]at hw
  | tup _=>rw[hX]at hw;simp[wr]at hw
  | junk=>rw[hX]at hw;simp[wr]at hw
  | c y =>
    rw[hX]at hw hxr
    cases y<;>simp only[wr]at hw
    case ptrO o off =>
      obtain⟨bs,bY,hfit,rfl⟩:=hw
      obtain⟨b',c,e,hBo,hh,hpb⟩:=s.objs.rep o _ bY
      have hval:a.eval x = .pointer (some ⟨b',off,none⟩):=by
        generalize a.eval x=u at hxr
        have hx':RepC w (okS K w B h) B u (.ptrO o off):=hxr
        cases hx' with
        | ptrO _ _ b hB=>rw[hB]at hBo;cases hBo;rfl
      have hcl:c.size=bs.length:=by have:=hpb.1;simpa using this
      have hvl:(a.eval v).cells.size=cs.length:=by have:=hp.1;simpa using this
      have hrun:=Aj (P:=P) hi hh (off:=off) hsz (by omega) hone
      have hg:=setRow_heap w b' c ((c.toList.take off++(a.eval v).cells.toList++c.toList.drop (off+(a.eval v).cells.size)).toArray) e (0,0) hh
      obtain⟨B',_,_,_,s'⟩:=s.set (w':=w.setRow b' (c.toList.take off++(a.eval v).cells.toList++c.toList.drop (off+(a.eval v).cells.size)).toArray) (h':=h.put o (.box (setAt bs off cs))) o o (.box (setAt bs off cs)) (B o)
        (Fr.setRow w b' _ _ ⟨by rw[hBo];rfl,by rw[bY];rfl⟩)
        (fun b hb=>by
          rw[hBo]at hb;simp[gz]at hb;subst hb
          exact⟨by have:=(pw.1 hh).1;simpa using this,.inl ⟨by rw[hBo];rfl,by rw[bY];rfl⟩⟩)
        (fun _ _=>rfl)
        (fun p ob' hp' hne=>by
          simp only[Heap.put,hne,sk]at hp'
          exact⟨hne,hp',fun _=>rfl⟩)
        (fun _=>rfl) (by simp[Heap.put])
        (fun B' hB hBo' hok=>by
          refine⟨b',_,e,hBo,hg,?_⟩
          have hk:∀b,okS K w B h b→(w.setRow b' (c.toList.take off++(a.eval v).cells.toList++c.toList.drop (off+(a.eval v).cells.size)).toArray).heap[b]? = w.heap[b]?:=fun b hb=>setRow_other w b' b _ (fun e=>hb.2.2 o _ bY (by rw[hBo,e];rfl))
          have hBB:∀p,B' p=B p:=fun p=>by
            by_cases e:p=o
            ·subst e;exact hBo'
            ·exact hB p e
          have:=Pt.setAt (off:=off) hpb hp hfit
          simp only[Array.length_toList]at this
          exact this.mono fun j u z hz hr=>hr.mono hk hok fun p _=>hBB p)
      exact⟨_,B',by simp[Instr.storeAt,hval,Instr.sureAddr,hrun],s'⟩
    case elO o k j off =>
      obtain⟨e,rows,row,ts,bY,hrow,hts,hfit,rfl⟩:=hw
      obtain⟨h0,hkk,ds,hown,hpd⟩:=s.objs.rep o _ bY
      have hpt:=RX _ _ _ hp hts
      rcases hown.2 with⟨hv0,hz0⟩ | ⟨g,cap',cur,hv0,hbase,hh,hnc,hcm,hcsz,htake⟩
      ·have:rows=[]:=fk hz0
       subst this;simp at hrow
      ·have hval:a.eval x = .pointer (some ⟨g,j*k+off,none⟩):=by
          generalize a.eval x=u at hxr
          have hx':RepC w (okS K w B h) B u (.elO o k j off):=hxr
          cases hx' with
          | elO _ _ _ _ b len cap hB=>rw[hB]at hv0;cases hv0;rfl
       have hjl:j<rows.length:=(bw.1 hrow).1
       have hrl:=hkk row (nw hrow)
       have htl:ts.length=(a.eval v).cells.size:=by have:=hpt.1;simp at this;omega
       have hdl:ds.length=rows.length*k:=hown.1
       have hmul:j*k+k≤rows.length*k:=by
         have:(j+1)*k≤rows.length*k:=Nat.mul_le_mul_right _ (by omega)
         rw[Nat.add_mul]at this;omega
       have hcap:rows.length*k≤cur.size:=by rw[hcsz];exact Nat.mul_le_mul_right _ hnc
       have hrun:=Aj (P:=P) hi hh (off:=j*k+off) hsz (by omega) hone
       have hg:=setRow_heap w g cur ((cur.toList.take (j*k+off)++(a.eval v).cells.toList++cur.toList.drop (j*k+off+(a.eval v).cells.size)).toArray) e (0,0) hh
       have hrow':∀r∈rows.set j (D6 row off ts),r.length=k:=fun r hr=>by
         rcases List.mem_or_eq_of_mem_set hr with hr | rfl
         ·exact hkk r hr
         ·rw[X3 ts row off (by omega)];simp;omega
       have hfl:(rows.set j (D6 row off ts)).flatten=rows.flatten.take (j*k+off)++ts++rows.flatten.drop (j*k+off+ts.length):=by
         rw[X3 ts row off (by omega)]
         exact W3 rows j off row ts hkk hrow (by omega)
       have hlen':(ds.take (j*k+off)++(a.eval v).cells.toList++ds.drop (j*k+off+(a.eval v).cells.size)).length=rows.length*k:=by
         simp;omega
       obtain⟨B',_,_,_,s'⟩:=s.set (w':=w.setRow g (cur.toList.take (j*k+off)++(a.eval v).cells.toList++cur.toList.drop (j*k+off+(a.eval v).cells.size)).toArray) (h':=h.put o (.arr e k (rows.set j (D6 row off ts)))) o o (.arr e k (rows.set j (D6 row off ts))) (B o)
         (Fr.setRow w g _ _ ⟨by rw[hv0];rfl,by rw[bY];rfl⟩)
         (fun b hb=>by
           rw[hv0]at hb;simp[gz]at hb;subst hb
           exact⟨by have:=(pw.1 hh).1;simpa using this,.inl ⟨by rw[hv0];rfl,by rw[bY];rfl⟩⟩)
         (fun _ _=>rfl)
         (fun p ob' hp' hne=>by
           simp only[Heap.put,hne,sk]at hp'
           exact⟨hne,hp',fun _=>rfl⟩)
         (fun _=>rfl) (by simp[Heap.put])
         (fun B' hB hBo' hok=>by
           have hkw:∀b,okS K w B h b→(w.setRow g (cur.toList.take (j*k+off)++(a.eval v).cells.toList++cur.toList.drop (j*k+off+(a.eval v).cells.size)).toArray).heap[b]? = w.heap[b]?:=fun b hb=>setRow_other w g b _ (fun e=>hb.2.2 o _ bY (by rw[hv0,e];rfl))
           refine⟨h0,hrow',ds.take (j*k+off)++(a.eval v).cells.toList++ds.drop (j*k+off+(a.eval v).cells.size),⟨by rw[hlen',List.length_set],.inr ⟨g,cap',_,by rw[hv0,List.length_set],hbase,hg,by rw[List.length_set];exact hnc,hcm,?_,?_⟩⟩,?_⟩
           ·simp;omega
           ·rw[List.length_set,←htake]
            simp only[List.take_append,dw,List.length_take,Array.length_toList,List.take_take,List.drop_take]
            have m1:min (j*k+off) cur.size=j*k+off:=by omega
            have m2:min (rows.length*k) (j*k+off)=j*k+off:=by omega
            have m3:min (j*k+off) (rows.length*k)=j*k+off:=by omega
            simp only[m1,m2,m3]
            rw[List.take_of_length_le (l:=(a.eval v).cells.toList) (by simp;omega)]
           ·rw[hfl,htl]
            have hkeep:Pt (RepT (w.setRow g (cur.toList.take (j*k+off)++(a.eval v).cells.toList++cur.toList.drop (j*k+off+(a.eval v).cells.size)).toArray) _) ds rows.flatten:=hpd.mono fun j u z hz hr=>hr.mono hkw hok
            have hkeep2:=hpt.mono fun j u z hz hr=>RepT.mono hr hkw hok
            exact((hkeep.take _).append hkeep2).append (hkeep.drop _))
       exact⟨_,B',by simp[Instr.storeAt,hval,Instr.sureAddr,hrun],s'⟩
theorem A6{ok:Nat→Prop}{z:Array Value}{cs:List C}(hp:Pt (RepC w ok B) z.toList cs):∀n,Pt (RepC w ok B) (madeCells z (n*z.size)).toList (List.replicate n cs).flatten
  | 0=>by simp[madeCells];exact Pt.nil
  | n+1=>by
    have ih:=A6 hp n
    have e:(madeCells z ((n+1)*z.size)).toList=(madeCells z (n*z.size)).toList++z.toList:=by
      apply List.ext_getElem?
      intro j
      simp only[madeCells,Array.toList_map,Array.toList_range,jw,List.getElem?_append,ew,List.length_range]
      by_cases h1:j<n*z.size
      ·have h2:j<(n+1)*z.size:=by rw[Nat.add_mul];omega
       simp[h1,h2]
      ·by_cases h2:j<(n+1)*z.size
       ·have h3:j-n*z.size<z.size:=by rw[Nat.add_mul]at h2;omega
        have h4:j % z.size=j-n*z.size:=by
          have:j=z.size*n+(j-n*z.size):=by rw[Nat.mul_comm];omega
          conv=>lhs;rw[this]
          rw[Nat.mul_add_mod,Nat.mod_eq_of_lt h3]
        simp[h1,h2,h4,h3]
       ·have h3 : ¬j-n*z.size<z.size:=by rw[Nat.add_mul]at h2;omega
        simp[h1,h2,h3]
    rw[e,List.replicate_succ']
    simp only[List.flatten_append,yk,List.flatten_nil,vk]
    exact ih.append hp
theorem arx:∀(n:Nat) {cs:List C} {ts:List T},CTs cs ts→CTs (List.replicate n cs).flatten (List.replicate n ts).flatten
  | 0,_,_,_=>trivial
  | n+1,cs,ts,h=>by
    simp only[List.replicate_succ,yk]
    have ih:=arx n h
    have app:∀(cs:List C) (ts:List T) (ds:List C) (us:List T),CTs cs ts→CTs ds us→CTs (cs++ds) (ts++us):=by
      intro cs
      induction cs with
      | nil=>intro ts ds us h1 h2;cases ts with
        | nil=>exact h2
        | cons _ _=>exact h1.elim
      | cons c cs ih=>intro ts ds us h1 h2;cases ts with
        | nil=>exact h1.elim
        | cons t ts=>exact⟨h1.1,ih ts ds us h1.2 h2⟩
    exact app _ _ _ _ h ih
theorem V3:∀ {cs:List C} {ts:List T},CTs cs ts→cs.length=ts.length
  | [],[],_=>rfl
  | [],_::_,h=>h.elim
  | _::_,[],h=>h.elim
  | _::cs,_::ts,h=>by simp[V3 h.2]
theorem StB.newArr(s:StB K B Γ h a w)(o:Oid)(cells:Array Value)(e:TypeId)(k:Nat)(rows:List (List T))(hf:Fresh o Γ h)(hpin : ¬K.pin o)(h0:0<k)(hk:∀r∈rows,r.length=k)(hm:rows.length≤maxLen)
    (hp:Pt (RepT w (okS K w B h)) cells.toList rows.flatten) :
    ∃B',StB K B' Γ (h.put o (.arr e k rows)) a (w.alloc (.cells cells e))∧RepV (w.alloc (.cells cells e)) (okS K (w.alloc (.cells cells e)) B' (h.put o (.arr e k rows))) B' (.slice (some ⟨w.heap.size,0,none⟩) rows.length rows.length) (.c (.slO o)):=by
  have hfl:rows.flatten.length=rows.length*k:=by
    clear hp hm
    induction rows with
    | nil=>simp
    | cons r rs ih=>simp only[yk,dw,hk r (by simp),ih (fun y hy=>hk y (by simp[hy])),uw];rw[Nat.add_mul];omega
  have hcl:cells.toList.length=rows.length*k:=hp.1.trans hfl
  obtain⟨B',hB,_,_,s'⟩:=s.new o (.arr e k rows) (.slice (some ⟨w.heap.size,0,none⟩) rows.length rows.length) (w':=w.alloc (.cells cells e)) hf hpin (Fr.alloc w _ _)
    (fun b hb=>by simp[gz]at hb;subst hb;exact⟨by simp,mw _⟩)
    (fun B' hB hBo hok=>⟨h0,hk,cells.toList,⟨hcl,.inr ⟨w.heap.size,rows.length,cells,rfl,Nat.zero_le _,uW w _,mw _,hm,by simpa using hcl,by rw[←hcl,List.take_length]⟩⟩,
      hp.mono fun j v x hx hr=>hr.mono (fun b hb=>(Fr.alloc w _ fun _=>False).block b hb.1 id) hok⟩)
  exact⟨B',s',RepC.slO o _ _ _ hB⟩
theorem StB.newArrC(s:StB K B Γ h a w)(o:Oid)(cells:Array Value)(e:TypeId)(k:Nat)(rows:List (List T))(cap:Nat)(hcap:rows.length≤cap)(hf:Fresh o Γ h)(hpin : ¬K.pin o)(h0:0<k)(hk:∀r∈rows,r.length=k)(hm:cap≤maxLen)
    (hcl:cells.size=cap*k) (hp:Pt (RepT w (okS K w B h)) (cells.toList.take (rows.length*k)) rows.flatten) :
    ∃B',StB K B' Γ (h.put o (.arr e k rows)) a (w.alloc (.cells cells e))∧RepV (w.alloc (.cells cells e)) (okS K (w.alloc (.cells cells e)) B' (h.put o (.arr e k rows))) B' (.slice (some ⟨w.heap.size,0,none⟩) rows.length cap) (.c (.slO o)):=by
  have hcl':cells.toList.length=cap*k:=by simpa using hcl
  have hle:rows.length*k≤cells.toList.length:=by rw[hcl'];exact Nat.mul_le_mul_right _ hcap
  obtain⟨B',hB,_,_,s'⟩:=s.new o (.arr e k rows) (.slice (some ⟨w.heap.size,0,none⟩) rows.length cap) (w':=w.alloc (.cells cells e)) hf hpin (Fr.alloc w _ _)
    (fun b hb=>by simp[gz]at hb;subst hb;exact⟨by simp,mw _⟩)
    (fun B' hB hBo hok=>⟨h0,hk,cells.toList.take (rows.length*k),⟨by rw[List.length_take];omega,.inr ⟨w.heap.size,cap,cells,rfl,Nat.zero_le _,uW w _,hcap,hm,hcl,rfl⟩⟩,
      hp.mono fun j v x hx hr=>hr.mono (fun b hb=>(Fr.alloc w _ fun _=>False).block b hb.1 id) hok⟩)
  exact⟨B',s',RepC.slO o _ _ _ hB⟩
theorem U1(z:Array Value)(a b:Nat)(h:a≤b):(madeCells z b).toList.take a=(madeCells z a).toList:=by
  apply List.ext_getElem?
  intro i
  rw[zw]
  unfold madeCells
  by_cases hi:i<a
  ·rw[if_pos hi]
   have hb:i<b:=by omega
   simp[hi,hb]
  ·rw[if_neg hi]
   exact(vw (by simp;omega)).symm
theorem L4{e:TypeId}{z:List C}{ok:Nat→Prop}(hz:Iq P e=some z):∃i zv,P.info? e=some i∧i.zero=some zv∧Pt (RepC w ok B) zv.cells.toList z:=by
  simp only[Iq,ak]at hz
  obtain⟨zv,⟨i,hi,hzv⟩,hc⟩:=hz
  exact⟨i,zv,hi,hzv,DV _ _ hc⟩
theorem ZV{v:Value}{c:C}(h:K4 v=some c):c.refs=[]:=by
  unfold K4 at h
  split at h<;>first | (cases h;rfl) | simp at h
theorem Mx{o:Oid}:∀ {vs:List Value} {cs:List C},vs.mapM K4=some cs→∀c∈cs,o∉c.refs
  | [],cs,h=>by simp at h;subst h;simp
  | v::vs,cs,h=>by
    simp only[List.mapM_cons,Option.bind_eq_bind,Option.pure_def]at h
    cases hv:K4 v with
    | none=>simp[hv]at h
    | some c =>
      cases hr:vs.mapM K4 with
      | none=>simp[hv,hr]at h
      | some r =>
        simp[hv,hr]at h
        subst h
        intro c' hc'
        rcases List.mem_cons.1 hc' with rfl | hc'
        ·rw[ZV hv];simp
        ·exact Mx hr c' hc'
theorem aNX{d:Oid}(s:Fresh d Γ h)(x:Opd)(hx:∀c,x = .con c→d∉c.refs):d∉(ev Γ x).refs:=by
  cases x with
  | tmp t=>exact s.env t
  | con c=>exact hx c rfl
  | fn f=>simp[ev,V.refs,C.refs]
theorem aix{x:V}{cs:List C}(h:c5 x=some cs){c:C}(hc:c∈cs){p:Oid}(hp:p∈c.refs):p∈x.refs:=by
  cases x with
  | c y=>simp[c5]at h;subst h;simp at hc;subst hc;exact hp
  | agg ys=>simp[c5]at h;subst h;exact Ak.2 ⟨c,hc,hp⟩
  | tup _=>simp[c5]at h
  | junk=>simp[c5]at h
theorem aAx{x:Operand}{y:Opd}(h:bX x=some y)(p:Oid):∀c,y = .con c→p∉c.refs:=by
  rintro c rfl
  cases x with
  | tmp t=>simp[bX]at h
  | func f=>simp[bX]at h
  | global g=>simp[bX]at h
  | const v =>
    simp only[bX,aw]at h
    obtain⟨z,hz,he⟩:=h
    cases he
    unfold DK at hz
    split at hz
    ·simp only[aw]at hz
     obtain⟨cs,hcs,rfl⟩:=hz
     simp only[V.refs,Ak,not_exists,not_and]
     exact fun x hx=>Mx hcs x hx
    ·simp only[aw]at hz
     obtain⟨c,hc,rfl⟩:=hz
     simp[V.refs,ZV hc]
theorem Ends.of{m:Sem Value}{v:Value}{w':World}{B':Oid→Value}{x:V}{Γ':Env}{h':Heap}{k:V→Env→Heap→Prop}(hr:m.run P w = .ok v w')(hk:k x Γ' h')(s:StB K B' Γ' h' a w')(hx:RepV w' (okS K w' B' h') B' v x) :
    Ends P K a w (do pure (.value (←m))) k:=⟨.value v,v,w',B',x,Γ',h',by simp[hr],.inl rfl,hk,s,hx⟩
theorem aJq(s:StB K B Γ h a w){o:Oper}{vo:VO}(hc:cOp P o=some vo){d:Oid}(hd:d.1<1000){k:V→Env→Heap→Prop}(he:eP d Γ h vo k):Ends P K a w (execOp a.eval o) k:=by
  have hpin:=E1 s hd
  cases hop:o.op
  case alloc e =>
    simp only[cOp,hop,aw]at hc
    obtain⟨z,hz,rfl⟩:=hc
    obtain⟨hf,hk⟩:=he
    obtain⟨i,zv,hi,hzv,hp⟩:=L4 (w:=w) (ok:=okS K w B h) (B:=B) hz
    have hz':=hz
    simp only[Iq,hi,dk,hzv]at hz'
    obtain⟨B',s',hx⟩:=s.newBox d zv.cells e z hf hpin (Mx hz') hp
    simp only[execOp,hop]
    refine Ends.of (v:=.pointer (some ⟨w.heap.size,0,none⟩)) (w':=w.alloc (.cells zv.cells e)) ?_ hk s' hx
    simp[Instr.alloc,zeroValue,typeInfo,hi,hzv,newVar,newRow]
  case box e x =>
    simp only[cOp,hop,aw]at hc
    obtain⟨x',hx',rfl⟩:=hc
    obtain⟨hf,cs,hcs,hk⟩:=he
    have hp:=xV (aX s hx') hcs
    obtain⟨B',s',hx⟩:=s.newBox d (a.eval x).cells e cs hf hpin (fun c hc hm=>aNX hf x' (aAx hx' d) (aix hcs hc hm)) hp
    simp only[execOp,hop]
    refine Ends.of (v:=.pointer (some ⟨w.heap.size,0,none⟩)) (w':=w.alloc (.cells (a.eval x).cells e)) ?_ hk s' hx
    simp[Instr.box,newVar,newRow]
  case makeSlice t l c =>
    simp only[cOp,hop,ak]at hc
    obtain⟨d',hd',hc⟩:=hc
    cases d'<;>simp only[reduceCtorEq]at hc
    rename_i e
    simp only[ak]at hc
    obtain⟨ie,hie,z,hz,hc⟩:=hc
    split at hc
    ·rename_i hcond
     simp only[ak,aw]at hc
     obtain⟨l',hl',c',hc',rfl⟩:=hc
     obtain⟨hf,m,zt,hlv,hcv,h0,hb,h63,hzt,hk⟩:=he
     obtain⟨i,zv,hi,hzv,hp⟩:=L4 (w:=w) (ok:=okS K w B h) (B:=B) hz
     rw[hie]at hi;cases hi
     have e1:=P8 (hlv▸aX s hl')
     have hzl:zv.cells.size=ie.size:=by have:=hp.1;simp at this;omega
     obtain⟨mc,hcv,hmc,hbc,h6c⟩:=hcv
     have e2:=P8 (hcv▸aX s hc')
     have hr:=run_make (P:=P) w t e ie zv hd' hie hzv .i64 .i64 m mc h0 hmc (by rw[Int.mul_comm];omega) h6c
     rw[←hzl]at hr
     have hrep:=RX _ _ _ (A6 hp m.toNat) (arx m.toNat hzt)
     have hztl:=V3 hzt
     obtain⟨B',s',hx⟩:=s.newArrC d (madeCells zv.cells (mc.toNat*zv.cells.size)) e ie.size (List.replicate m.toNat zt) mc.toNat (by simp;omega) hf hpin hcond.1 (fun r hr=>by rw[List.eq_of_mem_replicate hr];omega) (by simp[maxLen];omega) (by simp[madeCells,hzl]) (by
       rw[List.length_replicate,U1 _ _ _ (by rw[hzl];exact Nat.mul_le_mul_right _ (by omega)),←hzl];exact hrep)
     simp only[List.length_replicate]at hx
     simp only[execOp,hop,e1,e2]
     exact Ends.of hr hk s' hx
    ·simp at hc
  case buildSlice t len parts =>
    simp only[cOp,hop,ak]at hc
    obtain⟨d',hd',hc⟩:=hc
    cases d'<;>simp only[reduceCtorEq]at hc
    rename_i e
    simp only[ak]at hc
    obtain⟨ie,hie,z,hz,ps,hps,hc⟩:=hc
    split at hc
    ·rename_i hcond
     cases hc
     obtain⟨hf,cs,rows,hfill,hlen,hk',hct,hk⟩:=he
     obtain⟨i,zv,hi,hzv,hp⟩:=L4 (w:=w) (ok:=okS K w B h) (B:=B) hz
     rw[hie]at hi;cases hi
     have hzl:zv.cells.size=ie.size:=by have:=hp.1;simp at this;omega
     have hmade:=A6 hp len
     rw[hzl]at hmade
     obtain⟨cells,h1,h2⟩:=u9 (e:=ev Γ) (ρ:=a.eval) (fun j=>some (j*ie.size,ie.size)) (fun x y hxy=>aX s hxy) parts.toList ps (madeCells zv.cells (len*ie.size)) _ cs hps hmade hfill
     have hmap:(parts.map fun(i,x)=>(i,a.eval x)).toList=parts.toList.map fun p=>(p.1,a.eval p.2):=by simp
     obtain⟨B',s',hx⟩:=s.newArr d cells e ie.size rows hf hpin hcond.1 hk' (by
       have:len≤len*ie.size:=Nat.le_mul_of_pos_right _ hcond.1
       simp[maxLen];omega) (RX _ _ _ h2 hct)
     have hs1 : ¬len*ie.size > 2 ^ 24:=by have:=hcond.2.1;omega
     simp only[execOp,hop]
     refine Ends.of (v:=.slice (some ⟨w.heap.size,0,none⟩) rows.length rows.length) (w':=w.alloc (.cells cells e)) ?_ hk s' hx
     by_cases hpos:len*ie.size=0
     ·have h1':Instr.fill (fun i=>some (i*ie.size,ie.size)) #[] (parts.toList.map fun p=>(p.1,a.eval p.2))=some cells:=by
         rw[←h1];congr 1;simp[madeCells,hpos]
      simp[Instr.buildSlice,run_underlying hd',sizeOf,typeInfo,hie,hpos,Array.range_zero',h1',newRow,hlen]
     ·have:=run_buildSlice (P:=P) w t e len (parts.map fun(i,x)=>(i,a.eval x)) cells ie zv hd' hie hzv hs1 hpos (by rw[hmap];exact h1)
      rw[hlen]
      exact this
    ·simp at hc
  case store t x v =>
    simp only[cOp,hop,ak,aw]at hc
    obtain⟨i,hi,x',hx',v',hv',rfl⟩:=hc
    obtain⟨cs,h',hcs,hn,hw,hk⟩:=he
    obtain⟨w',B',hr,s'⟩:=L6 s hi hx' hv' hcs hn hw
    refine⟨.skip,undef,w',B',.junk,Γ,h',?_,.inr ⟨rfl,rfl⟩,hk,s',trivial⟩
    simp only[execOp,hop]
    simp[hr]
  case call c =>
    simp only[cOp,hop]at hc
    split at hc
    ·simp only[ak]at hc
     obtain⟨fn,_,hc⟩:=hc
     split at hc
     ·simp only[aw]at hc;obtain⟨_,_,rfl⟩:=hc;exact he.elim
     ·simp at hc
    ·simp only[ak,aw]at hc
     obtain⟨_,_,_,_,rfl⟩:=hc
     exact he.elim
    ·split at hc
     ·simp only[ak]at hc
      obtain⟨d',_,hc⟩:=hc
      cases d'<;>simp only[reduceCtorEq]at hc
      all_goals
        split at hc
        ·simp only[aw]at hc;obtain⟨_,_,rfl⟩:=hc;exact he.elim
        ·simp at hc
     ·simp at hc
    ·simp only[aw]at hc;obtain⟨_,_,rfl⟩:=hc;exact he.elim
    ·simp only[aw]at hc;obtain⟨_,_,rfl⟩:=hc;exact he.elim
    ·rename_i hcal
     split at hc
     ·rename_i t u s0 x0 hty hargs
      simp only[ak]at hc
      obtain⟨d',ht,hc⟩:=hc
      cases d'<;>simp only[reduceCtorEq]at hc
      simp only[ak]at hc
      obtain⟨ie,hie,hc⟩:=hc
      split at hc
      ·rename_i hcond
       obtain⟨rfl,hsz,hz⟩:=hcond
       simp only[ak,aw]at hc
       obtain⟨s',hs',x',hx',rfl⟩:=hc
       exact U7 s hop hcal hty hargs ht hie hsz hz hs' hx' hd he
      ·simp at hc
     ·simp at hc
    ·simp at hc
  case move x=>simp only[cOp,hop,aw]at hc;obtain⟨_,_,rfl⟩:=hc;exact he.elim
  case assign x=>simp only[cOp,hop,aw]at hc;obtain⟨_,_,rfl⟩:=hc;exact he.elim
  case nilCheck x=>simp only[cOp,hop,aw]at hc;obtain⟨_,_,rfl⟩:=hc;exact he.elim
  case unOp op t x=>simp only[cOp,hop,aw]at hc;obtain⟨_,_,rfl⟩:=hc;exact he.elim
  case extract x i=>simp only[cOp,hop,aw]at hc;obtain⟨_,_,rfl⟩:=hc;exact he.elim
  case pick c x y =>
    simp only[cOp,hop,ak,aw]at hc
    obtain⟨_,_,_,_,_,_,rfl⟩:=hc
    exact he.elim
  case build t parts =>
    simp only[cOp,hop,ak]at hc
    obtain⟨_,_,d',_,hc⟩:=hc
    cases d'<;>simp only[reduceCtorEq]at hc
    all_goals
      simp only[ak,aw]at hc
      obtain⟨_,_,_,_,rfl⟩:=hc
      exact he.elim
  case load t x =>
    simp only[cOp,hop,ak]at hc
    obtain⟨⟨d',i⟩,_,x',_,hc⟩:=hc
    simp only at hc
    split at hc<;>(cases hc;exact he.elim)
  case fieldAddr st x f =>
    simp only[cOp,hop,ak]at hc
    obtain⟨d',_,hc⟩:=hc
    cases d'<;>simp only[reduceCtorEq]at hc
    simp only[ak]at hc
    obtain⟨_,_,_,_,hc⟩:=hc
    split at hc
    ·simp at hc
    ·simp only[aw]at hc;obtain⟨_,_,rfl⟩:=hc;exact he.elim
  case field st x f =>
    simp only[cOp,hop,ak]at hc
    obtain⟨d',_,hc⟩:=hc
    cases d'<;>simp only[reduceCtorEq]at hc
    simp only[ak,aw]at hc
    obtain⟨_,_,⟨d',i⟩,_,x',_,hc⟩:=hc
    split at hc<;>(subst hc;exact he.elim)
  case indexAddr t x i =>
    simp only[cOp,hop,ak]at hc
    obtain⟨d',_,hc⟩:=hc
    cases d'<;>simp only[reduceCtorEq]at hc
    all_goals
      simp only[ak,aw]at hc
      obtain⟨_,_,_,_,_,_,rfl⟩:=hc
      exact he.elim
  case index t x i =>
    simp only[cOp,hop,ak]at hc
    obtain⟨d',_,hc⟩:=hc
    cases d'<;>simp only[reduceCtorEq]at hc
    case string =>
      simp only[ak,aw]at hc
      obtain⟨_,_,_,_,rfl⟩:=hc
      exact he.elim
    case array n e =>
      simp only[ak,aw]at hc
      obtain⟨⟨d',ie⟩,_,_,_,_,_,hc⟩:=hc
      split at hc<;>(subst hc;exact he.elim)
  case binOp op t x y yt =>
    simp only[cOp,hop,ak]at hc
    obtain⟨d',_,_,_,_,_,hc⟩:=hc
    split at hc<;>first | (cases hc;exact he.elim) | simp at hc
  case convert src dst x =>
    simp only[cOp,hop,ak]at hc
    obtain⟨_,_,d',_,hc⟩:=hc
    cases d'<;>simp only[reduceCtorEq]at hc
    all_goals
      simp only[aw]at hc
      obtain⟨_,_,rfl⟩:=hc
      exact he.elim
  case makeFunc fn first caps =>
    cases fn with
    | func f =>
      simp only[cOp,hop]at hc
      split at hc
      ·simp only[aw]at hc;obtain⟨_,_,rfl⟩:=hc;exact he.elim
      ·simp at hc
    | _=>simp[cOp,hop]at hc
  case slice t x lo hi mx =>
    cases mx with
    | some _=>simp[cOp,hop]at hc
    | none =>
      simp only[cOp,hop,ak]at hc
      obtain⟨d',_,hc⟩:=hc
      cases d'<;>simp only[reduceCtorEq]at hc
      case slice e =>
        simp only[ak,aw]at hc
        obtain⟨_,_,_,_,_,_,_,_,rfl⟩:=hc
        exact he.elim
      case string =>
        simp only[ak,aw]at hc
        obtain⟨_,_,_,_,_,_,rfl⟩:=hc
        exact he.elim
  case makeMap t rs =>
    cases rs with
    | some _=>simp[cOp,hop]at hc
    | none =>
      simp only[cOp,hop,ak]at hc
      obtain⟨d',hd',hc⟩:=hc
      cases d'<;>simp only[reduceCtorEq]at hc
      simp only[ak]at hc
      obtain⟨kd,hkd,hc⟩:=hc
      split at hc
      ·cases hc
       obtain⟨hf,hk⟩:=he
       obtain⟨B',s',hx⟩:=s.newMap d kd hf hpin
       simp only[execOp,hop]
       refine Ends.of (v:=.map (some w.heap.size)) (w':=w.alloc (.map #[] 0)) ?_ hk s' hx
       simp[Instr.makeMap]
      ·simp at hc
  case lookup t x i ok =>
    simp only[cOp,hop,ak]at hc
    obtain⟨d',hd',hc⟩:=hc
    cases d'<;>simp only[reduceCtorEq]at hc
    simp only[ak,aw]at hc
    obtain⟨kd,hkd,zv,⟨inf,hinf,hzv⟩,z,hz,x',hx',i',hi',rfl⟩:=hc
    exact he.elim
  case mapUpdate t x i v =>
    simp only[cOp,hop,ak]at hc
    obtain⟨d',hd',hc⟩:=hc
    cases d'<;>simp only[reduceCtorEq]at hc
    simp only[ak,aw]at hc
    obtain⟨kd,hkd,x',hx',i',hi',v',hv',rfl⟩:=hc
    obtain⟨o',es,key,h1,h2,h3,h4,y,h5,hk⟩:=he
    have hkv:=d0 (h3▸aX s hi')
    obtain⟨w',B',hrun,s'⟩:=EJ s hd' hkd (h1▸aX s hx') h2 h4 (h5▸aX s hv')
    refine⟨.skip,undef,w',B',.junk,Γ,_,?_,.inr ⟨rfl,rfl⟩,hk,s',trivial⟩
    simp only[execOp,hop,hkv,Sem.run_bind,hrun,Result.andThen]
    rfl
  case insert t x i v =>
    simp only[cOp,hop,ak]at hc
    obtain⟨d',hd',hc⟩:=hc
    cases d'<;>simp only[reduceCtorEq]at hc
    simp only[ak,aw]at hc
    obtain⟨kd,hkd,x',hx',i',hi',v',hv',rfl⟩:=hc
    obtain⟨o',es,key,h1,h2,h3,h4,y,h5,hk⟩:=he
    have hkv:=d0 (h3▸aX s hi')
    obtain⟨w',B',hrun,s'⟩:=EJ s hd' hkd (h1▸aX s hx') h2 h4 (h5▸aX s hv')
    refine⟨.skip,undef,w',B',.junk,Γ,_,?_,.inr ⟨rfl,rfl⟩,hk,s',trivial⟩
    simp only[execOp,hop,hkv,Sem.run_bind,hrun,Result.andThen]
    rfl
  all_goals (simp only[cOp,hop,reduceCtorEq]at hc)
end
end Go.VM
namespace Go.VM
def n6(B:Oid→Value)(h:Heap)(b:Nat):Prop:=∃o ob,h o=some ob∧gz (B o)=some b
def KW:T→Bool
 | .sc _=>true
 | .sl _ rows=>rows.isEmpty
section
variable {w w':World} {ok ok':Nat→Prop}
theorem JZ{v:Value}{t:T}(hf:KW t=true)(hr:RepT w ok v t):RepT w' ok' v t:=by
 cases hr with
 | sc _ h=>exact .sc _ h
 | nil=>exact .nil _ _ _
 | sl b off cap k rows=>simp[KW]at hf;subst hf;exact .nil _ _ _
end
def HW:C→Bool
 | .imm t=>KW t
 | .ptrI _=>false
 | .fn _ caps=>caps.all fun | .ptr _=>true | .imm t=>KW t
 | _=>true
def T3:V→Bool
 | .c x=>HW x
 | .agg cs=>cs.all HW
 | .tup _=>false
 | .junk=>true
def apj:V→Bool
 | .tup vs=>vs.all T3
 | x=>T3 x
def FlatOb:Ob→Prop
 | .arr _ _ rows=>∀row∈rows,∀t∈row,KW t=true
 | .box cs=>cs.all HW=true
 | .map _ es=>∀p∈es,T3 p.2.v=true
 | .mapC _ es=>∀p∈es,HW p.2=true
 | .arrC _ _ rows=>∀c∈rows.flatten,HW c=true
 | .fam _=>False
section
variable {w:World} {ok ok':Nat→Prop} {B B':Oid→Value}
theorem xJ{v:Value}{c:C}(hf:HW c=true)(hB:∀o∈c.refs,B' o=B o)(h:RepC w ok B v c):RepC w ok' B' v c:=by
 cases h with
 | imm v t h=>exact .imm v t (JZ hf h)
 | nilS=>exact .nilS
 | nilM=>exact .nilM
 | slO o a len cap h=>exact .slO o a len cap ((hB o (by simp[C.refs])).trans h)
 | ptrO o off b h=>exact .ptrO o off b ((hB o (by simp[C.refs])).trans h)
 | elO o k i off b len cap h=>exact .elO o k i off b len cap ((hB o (by simp[C.refs])).trans h)
 | mapO o r h=>exact .mapO o r ((hB o (by simp[C.refs])).trans h)
 | ptrI b off cells h=>simp[HW]at hf
 | fn f cs caps h =>
  refine .fn f cs caps (h.mono fun j v x hx hr=>?_)
  have hm:=nw hx
  simp only[HW,List.all_eq_true]at hf
  have h1:=hf x hm
  cases hr with
  | ptr o b h=>exact .ptr o b ((hB o (by simp only[C.refs];exact Ak.2 ⟨_,hm,by simp[Cap.refs]⟩)).trans h)
  | imm v t h=>exact .imm v t (JZ h1 h)
 | junk v h=>exact .junk v h
theorem K8{v:Value}{x:V}(hf:T3 x=true)(hB:∀o∈x.refs,B' o=B o)(h:RepS w ok B v x):RepS w ok' B' v x:=by
 cases x with
 | c x=>exact xJ hf hB h
 | agg xs =>
  obtain⟨cs,rfl,hp⟩:=h
  refine⟨cs,rfl,hp.mono fun j v x hx hr=>xJ (List.all_eq_true.1 hf x (nw hx)) (fun o ho=>hB o ?_) hr⟩
  simp only[V.refs];exact d8 hx ho
 | tup xs=>exact h.elim
 | junk=>trivial
theorem amq{v:Value}{x:V}(hf:apj x=true)(hB:∀o∈x.refs,B' o=B o)(h:RepV w ok B v x):RepV w ok' B' v x:=by
 cases x with
 | c x=>exact xJ (w:=w) (ok:=ok) (B:=B) hf hB h
 | agg xs=>exact K8 (x:=.agg xs) hf hB h
 | junk=>trivial
 | tup xs =>
  obtain⟨vs,rfl,hp⟩:=h
  refine⟨vs,rfl,hp.mono fun j v x hx hr=>K8 (List.all_eq_true.1 hf x (nw hx)) (fun o ho=>hB o ?_) hr⟩
  simp only[V.refs]
  refine d8 hx ?_
  cases x<;>simp_all[V.refs]
  simp_all[RepS]
theorem FlatOb.rep{v:Value}{x:Ob}(hf:FlatOb x)(hB:∀o∈x.refs,B' o=B o)(h:ObR w ok B v x):ObR w ok' B' v x:=by
 cases x with
 | arr e k rows =>
  obtain⟨h0,hk,cs,hown,hp⟩:=h
  refine⟨h0,hk,cs,hown,hp.mono fun j v x hx hr=>JZ ?_ hr⟩
  obtain⟨row,hrow,hm⟩:=List.mem_flatten.1 (nw hx)
  exact hf row hrow x hm
 | box cs =>
  obtain⟨b,c,t,rfl,hh,hp⟩:=h
  exact⟨b,c,t,rfl,hh,hp.mono fun j v x hx hr=>xJ (List.all_eq_true.1 hf x (nw hx)) (fun o ho=>hB o (by simp only[Ob.refs];exact d8 hx ho)) hr⟩
 | map kd es =>
  obtain⟨b,es',clock,rfl,hh,hc,hs,he⟩:=h
  refine⟨b,es',clock,rfl,hh,hc,hs,fun i e p hi hp=>?_⟩
  obtain⟨h1,h2,h3,h4⟩:=he i e p hi hp
  exact⟨h1,h2,h3,K8 (hf p (nw hp)) (fun o ho=>by rw[MT.refs]at ho;simp at ho) h4⟩
 | mapC kd es =>
  obtain⟨b,es',clock,rfl,hh,hc,hs,he⟩:=h
  refine⟨b,es',clock,rfl,hh,hc,hs,fun i e p hi hp=>?_⟩
  obtain⟨h1,h2,h3,h4⟩:=he i e p hi hp
  exact⟨h1,h2,h3,xJ (hf p (nw hp)) (fun o ho=>hB o (by simp only[Ob.refs];exact d8 (f:=fun p:Value×C=>p.2.refs) hp ho)) h4⟩
 | arrC e k rows =>
  obtain⟨h0,hk,cs,hown,hp⟩:=h
  exact⟨h0,hk,cs,hown,hp.mono fun j v x hx hr=>xJ (hf x (nw hx)) (fun o ho=>hB o (by simp only[Ob.refs];exact d8 hx ho)) hr⟩
 | fam G=>exact h.elim
end
def xq(fresh:Bool)(n0:Nat)(ok:Nat→Prop)(w':World)(B':Oid→Value)(hout:Heap)(b:Nat):Prop :=
 mK n0 ok w' B' hout b∧(fresh=true→n0≤b)
def Fun(P:Program)(f:FuncId)(fresh:Bool)(pins:List Oid)(vs:List V)(hin:Heap)(r:V)(hout:Heap):Prop :=
 ∀(w:World) (ok:Nat→Prop) (B:Oid→Value) (args:List Value),(∀b,ok b→b<w.heap.size)→(∀b,ok b→¬n6 B hin b)→Pt (RepV w ok B) args vs→Objs w ok B hin →
  Calls P f args.toArray w fun e w'=>∃v B',e = .returned v∧Fr w w' (n6 B hin)∧RepV w' (xq fresh w.heap.size ok w' B' hout) B' v r∧Objs w' (mK w.heap.size ok w' B' hout) B' hout ∧
   (∀o ob b,hout o=some ob→gz (B' o)=some b→b<w.heap.size→n6 B hin b) ∧
   (∀o∈pins,B' o=B o)
def subC(h:Heap):C→C→Prop
 | .nilS,.imm (.sl _ rows)=>rows=[]
 | .nilS,.nilS=>True
 | .slO o,.imm (.sl k rows)=>∃e,h o=some (.arr e k rows)
 | .imm t,.imm t'=>t=t'
 | .nilM,.nilM=>True
 | .ptrI cs,.ptrI ds=>cs=ds
 | .ptrO o off,.ptrI ds=>∃cs,h o=some (.box cs)∧subCs0 h (cs.drop off) ds
 | _,_=>False
where
 subCs0 (h:Heap):List C→List T→Prop
  | [],[]=>True
  | c::cs,t::ts=>sub0 h c t∧subCs0 h cs ts
  | _,_=>False
 sub0 (h:Heap):C→T→Prop
  | .nilS,.sl _ rows=>rows=[]
  | .slO o,.sl k rows=>∃e,h o=some (.arr e k rows)
  | .imm t,t'=>t=t'
  | _,_=>False
def G8(h:Heap):List C→List C→Prop
 | [],[]=>True
 | c::cs,d::ds=>subC h c d∧G8 h cs ds
 | _,_=>False
def agz(h:Heap):V→V→Prop
 | .c x,.c y=>subC h x y
 | .agg xs,.agg ys=>G8 h xs ys
 | _,_=>False
def Bz(h:Heap):List V→List V→Prop
 | [],[]=>True
 | x::xs,y::ys=>agz h x y∧Bz h xs ys
 | _,_=>False
def R2:C→Bool
 | .imm (.sc _)=>true
 | _=>false
def aqZ:V→Bool
 | .c x=>R2 x
 | .agg xs=>xs.all R2
 | .tup vs=>vs.all fun | .c x=>R2 x | .agg xs=>xs.all R2 | _=>false
 | .junk=>false
def Bx(h hin:Heap):Heap:=fun o=>match hin o with
 | some _=>none
 | none=>h o
def aUW(h:Heap)(x y:V):Prop:=x=y∨agz h x y
def G7(h:Heap):List V→List V→Prop
 | [],[]=>True
 | x::xs,y::ys=>aUW h x y∧G7 h xs ys
 | _,_=>False
def adY(P:Program)(f:FuncId)(vs:List V)(h:Heap)(r:V):Prop :=
 ∃fresh us,Fun P f fresh [] us noHeap r noHeap∧Bz h vs us∧r.refs=[]∧(fresh=true∨aqZ r=true∨Bz noHeap vs us)
def atz(P:Program)(f:FuncId)(vs:List V)(h:Heap)(r:V):Prop :=
 ∃pins us hin,Fun P f false pins us hin r hin ∧
  (∀o ob,hin o=some ob→o∈pins∧h o=some ob∧(∀p∈ob.refs,p∈pins)∧((∃v∈vs,o∈v.refs)∨∃p ob',hin p=some ob'∧p≠o∧o∈ob'.refs))∧r.refs=[] ∧
  ((aqZ r=true∧(∀o ob,hin o=some ob→FlatOb ob)∧G7 (Bx h hin) vs us)∨G7 noHeap vs us)
def G9(P:Program)(f:FuncId)(vs:List V)(h:Heap)(r:V):Prop:=adY P f vs h r∨atz P f vs h r
section
variable {P:Program} {K:Ctx} {B:Oid→Value} {Γ:Env} {h:Heap} {a:Act} {w:World}
def aOQ(K:Ctx)(w:World)(B:Oid→Value)(h:Heap)(b:Nat):Prop:=okS K w B h b∨n6 B h b
theorem aeY(s:StB K B Γ h a w){h0:Heap}(hh:∀o ob,h0 o=some ob→h o=some ob){ok:Nat→Prop}(hok:∀b,okS K w B h b→ok b)(hbl:∀b,n6 B h0 b→ok b){v:Value}{c:C}{t:T}
  (hr:RepC w (okS K w B h) B v c) (hs:subC.sub0 h0 c t):RepT w ok v t:=by
 unfold subC.sub0 at hs
 split at hs
 ·subst hs
  cases hr;exact .nil _ _ _
 ·rename_i o k rows
  obtain⟨e,hget0⟩:=hs
  have bY:=hh _ _ hget0
  obtain⟨_,hk,cs,hown,hp⟩:=s.objs.rep _ _ bY
  cases hr with
  | slO _ q len cap hB =>
   rw[hB]at hown
   rcases hown.2 with⟨hv,hz⟩ | ⟨g,cap',cur,hv,_,hg,hnc,_,_,htake⟩
   ·cases hv
    have:rows=[]:=fk hz
    subst this;exact .nil _ _ _
   ·cases hv
    have hlies:Lies w g 0 cs:=fun j u hu=>by
     rw[←htake,zw]at hu
     split at hu
     ·simp[World.cell?,hg,←Array.getElem?_toList,hu]
     ·simp at hu
    have hget2:∀(i:Nat) row (j:Nat) x,rows[i]? = some row→row[j]? = some x→∃u,cs[i*k+j]? = some u∧RepT w (okS K w B h) u x:=by
     intro i row j x hi hj
     have hrl:=hk row (nw hi)
     have hjl:j<k:=by rw[←hrl];exact(bw.1 hj).1
     have hf:=flatten_get rows i row hk hi
     have hx:rows.flatten[i*k+j]? = some x:=by
      have:((rows.flatten.drop (i*k)).take k)[j]? = some x:=by rw[hf];exact hj
      simpa[zw,hjl,List.getElem?_drop]using this
     have hlt:i*k+j<cs.length:=by rw[hp.1];exact(bw.1 hx).1
     exact⟨cs[i*k+j],cw hlt,hp.2 _ _ x (cw hlt) hx⟩
    refine .sl g 0 cap k rows (fun i j=>cs.getD (i*k+j) undef) (hbl g ⟨o,_,hget0,by rw[hB];rfl⟩) hnc hk ?_ ?_
    ·intro i row j x hi hj
     obtain⟨u,hu,_⟩:=hget2 i row j x hi hj
     have:=hlies _ u hu
     simp[List.getD,hu]at this ⊢
     exact this
    ·intro i row j x hi hj
     obtain⟨u,hu,hr⟩:=hget2 i row j x hi hj
     simp only[List.getD,hu,Option.getD_some]
     exact hr.mono (fun _ _=>rfl) hok
 ·subst hs
  cases hr with
  | imm _ _ hr=>exact hr.mono (fun _ _=>rfl) hok
 ·exact hs.elim
theorem Sz(s:StB K B Γ h a w){h0:Heap}(hh:∀o ob,h0 o=some ob→h o=some ob){ok:Nat→Prop}(hok:∀b,okS K w B h b→ok b)(hbl:∀b,n6 B h0 b→ok b) :
  ∀(vs:List Value) (cs:List C) (ts:List T),Pt (RepC w (okS K w B h) B) vs cs→subC.subCs0 h0 cs ts→Pt (RepT w ok) vs ts
 | [],cs,ts,hp,hm=>by
  have:cs=[]:=fk (by have:=hp.1;simpa using this.symm)
  subst this
  cases ts with
  | nil=>exact Pt.nil
  | cons _ _=>simp[subC.subCs0]at hm
 | v::vs,cs,ts,hp,hm=>by
  cases cs with
  | nil=>have:=hp.1;simp at this
  | cons c cs =>
   cases ts with
   | nil=>simp[subC.subCs0]at hm
   | cons t ts =>
    have ht:Pt (RepC w (okS K w B h) B) vs cs:=⟨by have:=hp.1;simpa using this,fun j u z hu hz=>hp.2 (j+1) u z (by simpa using hu) (by simpa using hz)⟩
    simp only[subC.subCs0]at hm
    exact Pt.cons (aeY s hh hok hbl (hp.2 0 v c rfl rfl) hm.1) (Sz s hh hok hbl vs cs ts ht hm.2)
theorem aiZ(s:StB K B Γ h a w){h0:Heap}(hh:∀o ob,h0 o=some ob→h o=some ob){ok:Nat→Prop}(hok:∀b,okS K w B h b→ok b)(hbl:∀b,n6 B h0 b→ok b){v:Value}{c d:C}
  (hr:RepC w (okS K w B h) B v c) (hs:subC h0 c d) {B0:Oid→Value}:RepC w ok B0 v d:=by
 have key:∀t,subC.sub0 h0 c t→RepT w ok v t:=fun t ht=>aeY s hh hok hbl hr ht
 unfold subC at hs
 split at hs
 ·exact .imm _ _ (key _ hs)
 ·cases hr;exact .nilS
 ·exact .imm _ _ (key _ hs)
 ·exact .imm _ _ (key _ hs)
 ·cases hr;exact .nilM
 ·subst hs
  cases hr with
  | ptrI b off cells hat=>exact .ptrI b off _ (hat.mono (fun _ _=>rfl) hok)
 ·rename_i o off ds
  obtain⟨cs,hget0,hsub⟩:=hs
  have bY:=hh _ _ hget0
  obtain⟨b',c',t',hB,hh',hp⟩:=s.objs.rep _ _ bY
  cases hr with
  | ptrO _ _ b hB' =>
   rw[hB']at hB;cases hB
   have hpt:=Sz s hh hok hbl _ _ _ (hp.drop off) hsub
   refine .ptrI _ off ds ⟨hbl _ ⟨o,_,hget0,by rw[hB'];rfl⟩,fun j x hx=>?_⟩
   have hlt:j<(c'.toList.drop off).length:=by rw[hpt.1];exact(bw.1 hx).1
   refine⟨(c'.toList.drop off)[j],?_,hpt.2 j _ x (cw hlt) hx⟩
   have hlt2:off+j<c'.size:=by simp at hlt;omega
   simp[World.cell?,hh',hlt2]
 ·exact hs.elim
theorem Y8(s:StB K B Γ h a w){h0:Heap}(hh:∀o ob,h0 o=some ob→h o=some ob){ok:Nat→Prop}(hok:∀b,okS K w B h b→ok b)(hbl:∀b,n6 B h0 b→ok b){B0:Oid→Value} :
  ∀(vs:List Value) (cs ds:List C),Pt (RepC w (okS K w B h) B) vs cs→G8 h0 cs ds→Pt (RepC w ok B0) vs ds
 | [],cs,ts,hp,hm=>by
  have:cs=[]:=fk (by have:=hp.1;simpa using this.symm)
  subst this
  cases ts with
  | nil=>exact Pt.nil
  | cons _ _=>simp[G8]at hm
 | v::vs,cs,ts,hp,hm=>by
  cases cs with
  | nil=>have:=hp.1;simp at this
  | cons c cs =>
   cases ts with
   | nil=>simp[G8]at hm
   | cons t ts =>
    have ht:Pt (RepC w (okS K w B h) B) vs cs:=⟨by have:=hp.1;simpa using this,fun j u z hu hz=>hp.2 (j+1) u z (by simpa using hu) (by simpa using hz)⟩
    simp only[G8]at hm
    exact Pt.cons (aiZ s hh hok hbl (hp.2 0 v c rfl rfl) hm.1) (Y8 s hh hok hbl vs cs ts ht hm.2)
theorem S4(s:StB K B Γ h a w){h0:Heap}(hh:∀o ob,h0 o=some ob→h o=some ob){ok:Nat→Prop}(hok:∀b,okS K w B h b→ok b)(hbl:∀b,n6 B h0 b→ok b){v:Value}{x y:V}{B0:Oid→Value}
  (hr:RepV w (okS K w B h) B v x) (hs:agz h0 x y):RepV w ok B0 v y:=by
 unfold agz at hs
 split at hs
 ·exact aiZ (B0:=B0) s hh hok hbl hr hs
 ·obtain⟨cs,rfl,hp⟩:=hr
  exact⟨cs,rfl,Y8 s hh hok hbl _ _ _ hp hs⟩
 ·exact hs.elim
theorem Jx(s:StB K B Γ h a w){h0:Heap}(hh:∀o ob,h0 o=some ob→h o=some ob){ok:Nat→Prop}(hok:∀b,okS K w B h b→ok b)(hbl:∀b,n6 B h0 b→ok b){B0:Oid→Value} :
  ∀(vs:List Value) (xs ys:List V),Pt (RepV w (okS K w B h) B) vs xs→Bz h0 xs ys→Pt (RepV w ok B0) vs ys
 | [],cs,ts,hp,hm=>by
  have:cs=[]:=fk (by have:=hp.1;simpa using this.symm)
  subst this
  cases ts with
  | nil=>exact Pt.nil
  | cons _ _=>simp[Bz]at hm
 | v::vs,cs,ts,hp,hm=>by
  cases cs with
  | nil=>have:=hp.1;simp at this
  | cons c cs =>
   cases ts with
   | nil=>simp[Bz]at hm
   | cons t ts =>
    have ht:Pt (RepV w (okS K w B h) B) vs cs:=⟨by have:=hp.1;simpa using this,fun j u z hu hz=>hp.2 (j+1) u z (by simpa using hu) (by simpa using hz)⟩
    simp only[Bz]at hm
    exact Pt.cons (S4 s hh hok hbl (hp.2 0 v c rfl rfl) hm.1) (Jx s hh hok hbl vs cs ts ht hm.2)
theorem OW{ok ok':Nat→Prop}{w':World}{B' B'':Oid→Value}{v:Value}{c:C}(hf:R2 c=true)(hr:RepC w ok B' v c):RepC w' ok' B'' v c:=by
 unfold R2 at hf
 split at hf
 ·cases hr with
  | imm _ _ hr=>cases hr with
   | sc _ h=>exact .imm _ _ (.sc _ h)
 ·simp at hf
theorem R6{ok ok':Nat→Prop}{w':World}{B' B'':Oid→Value}{vs:List Value}{cs:List C}(hf:cs.all R2=true)(hr:Pt (RepC w ok B') vs cs):Pt (RepC w' ok' B'') vs cs :=
 hr.mono fun _ _ x hx h=>OW (List.all_eq_true.1 hf x (nw hx)) h
theorem X5{ok ok':Nat→Prop}{w':World}{B' B'':Oid→Value}{v:Value}{x:V}(hf:aqZ x=true)(hr:RepV w ok B' v x):RepV w' ok' B'' v x:=by
 cases x with
 | c x=>exact OW (w:=w) (ok:=ok) (B':=B') hf hr
 | agg xs=>obtain⟨cs,rfl,hp⟩:=hr;exact⟨cs,rfl,R6 hf hp⟩
 | junk=>trivial
 | tup xs =>
  obtain⟨vs,rfl,hp⟩:=hr
  refine⟨vs,rfl,hp.mono fun j v x hx h=>?_⟩
  have hx':=List.all_eq_true.1 hf x (nw hx)
  cases x with
  | c x=>exact OW (w:=w) (ok:=ok) (B':=B') hx' h
  | agg xs=>obtain⟨cs,rfl,hp⟩:=h;exact⟨cs,rfl,R6 hx' hp⟩
  | tup _=>simp at hx'
  | junk=>simp at hx'
theorem adW(s:StB K B Γ h a w){f:FuncId}{args:List Value}{vs:List V}{r:V}(hargs:Pt (RepV w (okS K w B h) B) args vs)(hc:adY P f vs h r) :
  Calls P f args.toArray w fun e w'=>∃v,e = .returned v∧StB K B Γ h a w'∧RepV w' (okS K w' B h) B v r:=by
 obtain⟨fresh,us,hF,hsub,hrefs,hres⟩:=hc
 have hblt:∀b,n6 B h b→b<w.heap.size:=fun b ⟨o,ob,hg,hb⟩=>(s.objs.rep o ob hg).lt hb
 have nob:∀(B:Oid→Value) (b:Nat),¬n6 B noHeap b:=fun B b ⟨o,ob,hg,_⟩=>by simp[noHeap]at hg
 have nil_objs:∀(w:World) (ok:Nat→Prop) (B:Oid→Value),Objs w ok B noHeap:=fun w ok B=>⟨fun o ob hg=>by simp[noHeap]at hg,fun o o' ob ob' b hg=>by simp[noHeap]at hg⟩
 have new:∀(w':World) b,w.heap.size≤b→b<w'.heap.size→okS K w' B h b:=fun w' b h1 h2 =>
  ⟨h2,fun h3=>by have:=s.fr.size;omega,fun o ob hg hb=>by have:=hblt b ⟨o,ob,hg,hb⟩;omega⟩
 have grow:∀w',Fr w w' (n6 B noHeap)→StB K B Γ h a w':=fun w' hfr=>s.grow ⟨hfr.os,hfr.tape,hfr.output,hfr.size,fun b hb _=>hfr.block b hb (nob B b)⟩
 have hB:∀(B':Oid→Value),∀o∈r.refs,B o=B' o:=fun B' o ho=>by rw[hrefs]at ho;simp at ho
 rcases hres with hfr | hfl | hn
 ·subst hfr
  have hp:=Jx s (h0:=h) (fun o ob hg=>hg) (ok:=aOQ K w B h) (fun b hb=>.inl hb) (fun b hb=>.inr hb) (B0:=B) args vs us hargs hsub
  refine(hF w (aOQ K w B h) B args (fun b hb=>hb.elim (fun h=>h.1) (hblt b)) (fun b _=>nob B b) hp (nil_objs _ _ _)).mono fun e w' he=>?_
  obtain⟨v,B',rfl,hfr,hrep,_,_,_⟩:=he
  exact⟨v,rfl,grow w' hfr,hrep.mono (fun _ _=>rfl) (fun b hb=>new w' b (hb.2 rfl) hb.1.1) (hB B')⟩
 ·have hp:=Jx s (h0:=h) (fun o ob hg=>hg) (ok:=aOQ K w B h) (fun b hb=>.inl hb) (fun b hb=>.inr hb) (B0:=B) args vs us hargs hsub
  refine(hF w (aOQ K w B h) B args (fun b hb=>hb.elim (fun h=>h.1) (hblt b)) (fun b _=>nob B b) hp (nil_objs _ _ _)).mono fun e w' he=>?_
  obtain⟨v,B',rfl,hfr,hrep,_,_,_⟩:=he
  exact⟨v,rfl,grow w' hfr,X5 hfl hrep⟩
 ·have hp:=Jx s (h0:=noHeap) (fun o ob hg=>by simp[noHeap]at hg) (ok:=okS K w B h) (fun b hb=>hb) (fun b hb=>absurd hb (nob B b)) (B0:=B) args vs us hargs hn
  refine(hF w (okS K w B h) B args (fun b hb=>hb.1) (fun b _=>nob B b) hp (nil_objs _ _ _)).mono fun e w' he=>?_
  obtain⟨v,B',rfl,hfr,hrep,_,_,_⟩:=he
  refine⟨v,rfl,grow w' hfr,hrep.mono (fun _ _=>rfl) (fun b hb=>?_) (hB B')⟩
  by_cases hlt:b<w.heap.size
  ·have hb':=hb.1.2.1 hlt
   exact⟨hb.1.1,hb'.2⟩
  ·exact new w' b (by omega) hb.1.1
theorem I9(s:StB K B Γ h a w){h0:Heap}(hh:∀o ob,h0 o=some ob→h o=some ob){ok:Nat→Prop}(hok:∀b,okS K w B h b→ok b)(hbl:∀b,n6 B h0 b→ok b) :
  ∀(vs:List Value) (xs ys:List V),Pt (RepV w (okS K w B h) B) vs xs→G7 h0 xs ys→Pt (RepV w ok B) vs ys
 | [],cs,ts,hp,hm=>by
  have:cs=[]:=fk (by have:=hp.1;simpa using this.symm)
  subst this
  cases ts with
  | nil=>exact Pt.nil
  | cons _ _=>simp[G7]at hm
 | v::vs,cs,ts,hp,hm=>by
  cases cs with
  | nil=>have:=hp.1;simp at this
  | cons c cs =>
   cases ts with
   | nil=>simp[G7]at hm
   | cons t ts =>
    have ht:Pt (RepV w (okS K w B h) B) vs cs:=⟨by have:=hp.1;simpa using this,fun j u z hu hz=>hp.2 (j+1) u z (by simpa using hu) (by simpa using hz)⟩
    simp only[G7]at hm
    have h0:=hp.2 0 v c rfl rfl
    refine Pt.cons ?_ (I9 s hh hok hbl vs cs ts ht hm.2)
    rcases hm.1 with rfl | hs
    ·exact h0.mono (fun _ _=>rfl) hok fun _ _=>rfl
    ·exact S4 (B0:=B) s hh hok hbl h0 hs
theorem adK(s:StB K B Γ h a w){f:FuncId}{args:List Value}{vs:List V}{r:V}(hargs:Pt (RepV w (okS K w B h) B) args vs)(hc:atz P f vs h r) :
  Calls P f args.toArray w fun e w'=>∃v,e = .returned v∧StB K B Γ h a w'∧RepV w' (okS K w' B h) B v r:=by
 obtain⟨pins,us,hin,hF,hin1,hrefs,hres⟩:=hc
 have hsub:∀o ob,hin o=some ob→h o=some ob:=fun o ob ho=>(hin1 o ob ho).2.1
 have hblt:∀b,n6 B h b→b<w.heap.size:=fun b ⟨o,ob,hg,hb⟩=>(s.objs.rep o ob hg).lt hb
 have hinh:∀b,n6 B hin b→n6 B h b:=fun b ⟨o,ob,hg,hb⟩=>⟨o,ob,hsub o ob hg,hb⟩
 have hlsub:∀o ob,Bx h hin o=some ob→h o=some ob∧hin o=none:=by
  intro o ob ho
  unfold Bx at ho
  cases hi:hin o with
  | some _=>simp[hi]at ho
  | none=>simp only[hi]at ho;exact⟨ho,rfl⟩
 have apartIn:∀o ob b,h o=some ob→hin o=none→gz (B o)=some b→¬n6 B hin b:=by
  rintro o ob b hg hi hb ⟨p,ob',hp,hpb⟩
  have:=s.objs.apart o p ob ob' b hg (hsub p ob' hp) hb hpb
  subst this
  rw[hi]at hp;simp at hp
 have okin:∀b,okS K w B h b→¬n6 B hin b:=fun b hb hx=>by
  obtain⟨o,ob,hg,hb'⟩:=hinh b hx
  exact hb.2.2 o ob hg hb'
 have objsIn:∀ok:Nat→Prop,(∀b,okS K w B h b→ok b)→Objs w ok B hin:=fun ok hok =>
  ⟨fun o ob hg=>(s.objs.rep o ob (hsub o ob hg)).mono (fun _ _=>rfl) hok (fun _ _=>rfl) fun _ _=>rfl,fun o o' ob ob' b hg hg'=>s.objs.apart o o' ob ob' b (hsub o ob hg) (hsub o' ob' hg')⟩
 have fin:∀(w':World) (B':Oid→Value),Fr w w' (n6 B hin)→(∀o∈pins,B' o=B o) →
   (∀o ob,hin o=some ob→ObR w' (okS K w' B h) B (B o) ob)→StB K B Γ h a w':=by
  intro w' B' hfr hsame hrep
  have hmono:∀b,okS K w B h b→w'.heap[b]? = w.heap[b]?:=fun b hb=>hfr.block b hb.1 (okin b hb)
  have hok:∀b,okS K w B h b→okS K w' B h b:=fun b hb=>⟨Nat.lt_of_lt_of_le hb.1 hfr.size,hb.2⟩
  refine⟨fun t=>(s.slots t).mono hmono hok fun _ _=>rfl,⟨fun o ob ho=>?_,s.objs.apart⟩,s.defers,s.size,s.fr.trans hfr ?_,s.own,s.pin⟩
  ·cases hi:hin o with
   | some ob' =>
    have:=hsub o ob' hi
    rw[ho]at this;cases this
    exact hrep o ob hi
   | none=>exact(s.objs.rep o ob ho).mono hmono hok (fun _ _=>rfl) fun b hb=>hfr.block b (hblt b ⟨o,ob,ho,hb⟩) (apartIn o ob b ho hi hb)
  ·intro b hb hx
   obtain⟨o,ob,hg,hb'⟩:=hinh b hx
   exact s.own o ob b hg hb' hb
 rcases hres with⟨hfl,hflo,hsb⟩ | hn
 ·have ok2lt:∀b,(okS K w B h b∨n6 B (Bx h hin) b)→b<w.heap.size:=fun b hb=>hb.elim (fun h=>h.1) fun⟨o,ob,hg,hb⟩=>hblt b ⟨o,ob,(hlsub o ob hg).1,hb⟩
  refine(hF w (fun b=>okS K w B h b∨n6 B (Bx h hin) b) B args ok2lt (fun b hb hx=>?_) (I9 s (fun o ob ho=>(hlsub o ob ho).1) (fun b hb=>.inl hb) (fun b hb=>.inr hb) _ _ _ hargs hsb) (objsIn _ fun b hb=>.inl hb)).mono fun e w' he=>?_
  ·rcases hb with hb | ⟨o,ob,hg,hb⟩
   ·exact okin b hb hx
   ·exact apartIn o ob b (hlsub o ob hg).1 (hlsub o ob hg).2 hb hx
  obtain⟨v,B',rfl,hfr,hrep,hobjs,hblk,hsame⟩:=he
  refine⟨v,rfl,fin w' B' hfr hsame fun o ob ho=>?_,X5 hfl hrep⟩
  have h1:=hin1 o ob ho
  rw[←hsame o h1.1]
  exact(hflo o ob ho).rep (fun p hp=>(hsame p (h1.2.2.1 p hp)).symm) (hobjs.rep o ob ho)
 ·have hn':=I9 s (h0:=noHeap) (fun o ob hg=>by simp[noHeap]at hg) (ok:=okS K w B h) (fun b hb=>hb) (fun b ⟨o,ob,hg,_⟩=>by simp[noHeap]at hg) args vs us hargs hn
  refine(hF w (okS K w B h) B args (fun b hb=>hb.1) okin hn' (objsIn _ fun b hb=>hb)).mono fun e w' he=>?_
  obtain⟨v,B',rfl,hfr,hrep,hobjs,hblk,hsame⟩:=he
  have hkk:∀b,mK w.heap.size (okS K w B h) w' B' hin b→okS K w' B h b:=by
   intro b hb
   refine⟨hb.1,fun hlt=>(hb.2.1 (by have:=s.fr.size;omega)).2.1 hlt,fun o ob ho hbl=>?_⟩
   have hlt:=hblt b ⟨o,ob,ho,hbl⟩
   exact(hb.2.1 hlt).2.2 o ob ho hbl
  refine⟨v,rfl,fin w' B' hfr hsame fun o ob ho=>?_,hrep.mono (fun _ _=>rfl) (fun b hb=>hkk b hb.1) fun o ho=>by rw[hrefs]at ho;simp at ho⟩
  have h1:=hin1 o ob ho
  rw[←hsame o h1.1]
  exact(hobjs.rep o ob ho).mono (fun _ _=>rfl) hkk (fun p hp=>(hsame p (h1.2.2.1 p hp)).symm) fun _ _=>rfl
theorem Lx(s:StB K B Γ h a w){f:FuncId}{args:List Value}{vs:List V}{r:V}(hargs:Pt (RepV w (okS K w B h) B) args vs)(hc:G9 P f vs h r) :
  Calls P f args.toArray w fun e w'=>∃v,e = .returned v∧StB K B Γ h a w'∧RepV w' (okS K w' B h) B v r :=
 hc.elim (adW s hargs) (adK s hargs)
end
end Go.VM
namespace Go.VM
def putO(d:Option Nat)(x:V)(Γ:Env):Env :=
  match d with
  | some d=>Γ.put d x
  | none=>Γ
def eR(d:Oid)(e:Opd→V)(h:Heap):VO→V→Heap→Prop
  | .alloc _ z,x,h'=>x = .c (.ptrO d 0)∧h'=h.put d (.box z)
  | .box _ y,x,h'=>∃cs,c5 (e y)=some cs∧x = .c (.ptrO d 0)∧h'=h.put d (.box cs)
  | .mksl t n bytes z l c,x,h'=>∃m zt,e l=iV m∧(∃mc,e c=iV mc∧m≤mc∧mc*bytes≤140737488355328∧mc≤9223372036854775807)∧0≤m∧m*bytes≤140737488355328∧m≤9223372036854775807∧CTs z zt∧x = .c (.slO d)∧h'=h.put d (.arr t n (List.replicate m.toNat zt))
  | .bsl t n len z ps,x,h'=>∃cs rows,xx e (List.replicate len z).flatten ps=some cs∧rows.length=len∧(∀r∈rows,r.length=n)∧CTs cs rows.flatten∧x = .c (.slO d)∧h'=h.put d (.arr t n rows)
  | .store n y v,x,h'=>∃cs,c5 (e v)=some cs∧cs.length=n∧wr h (e y) cs h'∧x = .junk
  | .app t n bytes s y,x,h'=>∃new,aCz h n (e y) new ∧
      ((e s = .c .nilS∧new.length*bytes≤140737488355328∧new.length≤9223372036854775807∧x = .c (.slO d)∧h'=h.put d (.arr t n new)) ∨
       ∃o rows,e s = .c (.slO o)∧h o=some (.arr t n rows)∧(rows.length+new.length)*bytes≤140737488355328∧rows.length+new.length≤9223372036854775807 ∧
        x = .c (.slO d)∧h'=(h.drop o).put d (.arr t n (rows++new)))
  | .mkmap kd,x,h'=>x = .c (.mapO d)∧h'=h.put d (.map kd [])
  | .mupd kd m i v,x,h'=>∃o es key,∃y:MT,e m = .c (.mapO o)∧h o=some (.map kd es)∧e i=scV key∧keyOf kd key=true∧e v=y.v∧x = .junk∧h'=h.put o (.map kd (putK key y es))
  | _,_,_=>False
theorem aHW{d:Oid}{Γ:Env}{h h':Heap}{op:VO}{x:V}{k:V→Env→Heap→Prop}(hr:eR d (ev Γ) h op x h')(hf:B7 op=true→Fresh d Γ h)(hk:k x Γ h'):eP d Γ h op k:=by
  cases op<;>simp only[eR]at hr<;>simp only[eP]
  case alloc e z=>obtain⟨rfl,rfl⟩:=hr;exact⟨hf rfl,hk⟩
  case box e y=>obtain⟨cs,h1,rfl,rfl⟩:=hr;exact⟨hf rfl,cs,h1,hk⟩
  case mksl=>obtain⟨m,zt,h1,h2,h3,h4,h5,h6,rfl,rfl⟩:=hr;exact⟨hf rfl,m,zt,h1,h2,h3,h4,h5,h6,hk⟩
  case bsl=>obtain⟨cs,rows,h1,h2,h3,h4,rfl,rfl⟩:=hr;exact⟨hf rfl,cs,rows,h1,h2,h3,h4,hk⟩
  case store=>obtain⟨cs,h1,h2,h3,rfl⟩:=hr;exact⟨cs,h',h1,h2,h3,hk⟩
  case app =>
    obtain⟨new,h1,⟨h2,h3,h4,rfl,rfl⟩ | ⟨o,rows,h2,h3,h4,h5,rfl,rfl⟩⟩:=hr
    ·exact⟨new,h1,.inl ⟨h2,hf rfl,h3,h4,hk⟩⟩
    ·exact⟨new,h1,.inr ⟨o,rows,h2,h3,hf rfl,h4,h5,hk⟩⟩
  case mkmap=>obtain⟨rfl,rfl⟩:=hr;exact⟨hf rfl,hk⟩
  case mupd=>obtain⟨o,es,key,y,h1,h2,h3,h4,h5,rfl,rfl⟩:=hr;exact⟨o,es,key,h1,h2,h3,h4,y,h5,hk⟩
def alq:Cap→V
  | .ptr o=>.c (.ptrO o 0)
  | .imm t=>.c (.imm t)
def aEz(P:Program)(f:FuncId):Bool:=match P.funcs[f]? with
  | some fn => fn.body.isSome && !(fn.name == "runtime.NumGoroutine")
  | none=>false
def iW(P:Program)(dst:Option Nat)(op:VO)(Γ:Env)(h:Heap)(k:Env→Heap→Prop):Prop :=
  match op with
  | .call f args=>∃r,G9 P f (args.map (ev Γ)) h r∧k (putO dst r Γ) h
  | .callv q args=>∃f caps,ev Γ q = .c (.fn f caps)∧aEz P f=true∧∃r,G9 P f (args.map (ev Γ)++caps.map alq) h r∧k (putO dst r Γ) h
  | op=>if pK op=true then(B7 op=true→Fresh (dst.getD 999,0) Γ h)∧∃x h',eR (dst.getD 999,0) (ev Γ) h op x h'∧k (putO dst x Γ) h' else ∃r,qP P h (ev Γ) op r∧k (putO dst r Γ) h
def B1:V:=.tup []
def Unw(Γ:Env)(t:Nat)(b:Bool):Prop:=Γ t=bV (!b)∨Γ t=B1
def sj(g:Option (Nat×Bool))(Γ:Env)(yes no:Prop):Prop :=
  match g with
  | none=>yes
  | some (t,b)=>(Γ t=bV b∧yes)∨(Unw Γ t b∧no)
def vY(P:Program):List VOp→Env→Heap→(Env→Heap→Prop)→Prop
  | [],Γ,h,k=>k Γ h
  | o::os,Γ,h,k=>sj o.guard Γ (iW P o.dst o.op Γ h fun Γ' h'=>vY P os Γ' h' k) (vY P os (putO o.dst B1 Γ) h k)
section
variable {P:Program} {K:Ctx} {Γ:Env} {h:Heap} {a:Act} {w:World}
def ayq(K:Ctx)(Q:Exit→Env→Heap→Prop):Exit→Act→World→Prop:=fun e a w=>∃Γ h,Q e Γ h∧St K Γ h a w
theorem St.putO{B:Oid→Value}(s:StB K B Γ h a w){v:Value}{x:V}{dst:Option Nat}(hd:∀d,dst=some d→d<K.ntmps)(hx:RepV w (okS K w B h) B v x):St K (putO dst x Γ) h (a.put dst v) w:=by
  cases dst with
  | none=>exact⟨B,s⟩
  | some d=>exact⟨B,s.put hx (hd d rfl)⟩
theorem aBq{n:Nat}(hn:n≤1000){dst:Option Nat}(hd:∀d,dst=some d→d<n):(dst.getD 999,0).1<1000:=by
  cases dst with
  | none=>simp
  | some d=>have:=hd d rfl;simp;omega
theorem YX{o:Oper}{f:FuncId}{args:List Opd}(hc:cOp P o=some (.call f args)) :
    ∃ c fn, o.op = .call c ∧ c.callee = .value (.func f) ∧ P.funcs[f]? = some fn ∧ ¬ fn.body = none ∧ ¬ fn.name = "runtime.NumGoroutine" ∧ c.args.toList.mapM bX = some args := by
  cases hop:o.op
  case move x=>simp only[cOp,hop,aw]at hc;obtain⟨_,_,hc⟩:=hc;cases hc
  case assign x=>simp only[cOp,hop,aw]at hc;obtain⟨_,_,hc⟩:=hc;cases hc
  case nilCheck x=>simp only[cOp,hop,aw]at hc;obtain⟨_,_,hc⟩:=hc;cases hc
  case unOp op t x=>simp only[cOp,hop,aw]at hc;obtain⟨_,_,hc⟩:=hc;cases hc
  case extract x i=>simp only[cOp,hop,aw]at hc;obtain⟨_,_,hc⟩:=hc;cases hc
  case pick c x y =>
    simp only[cOp,hop,ak,aw]at hc
    obtain⟨_,_,_,_,_,_,hc⟩:=hc
    cases hc
  case build t parts =>
    simp only[cOp,hop,ak]at hc
    obtain⟨_,_,d',_,hc⟩:=hc
    cases d'<;>simp only[reduceCtorEq]at hc
    all_goals
      simp only[ak,aw]at hc
      obtain⟨_,_,_,_,hc⟩:=hc
      cases hc
  case load t x =>
    simp only[cOp,hop,ak]at hc
    obtain⟨⟨d',i⟩,_,x',_,hc⟩:=hc
    simp only at hc
    split at hc<;>cases hc
  case fieldAddr st x f =>
    simp only[cOp,hop,ak]at hc
    obtain⟨d',_,hc⟩:=hc
    cases d'<;>simp only[reduceCtorEq]at hc
    simp only[ak]at hc
    obtain⟨_,_,_,_,hc⟩:=hc
    split at hc
    ·simp at hc
    ·simp only[aw]at hc;obtain⟨_,_,hc⟩:=hc;cases hc
  case field st x f =>
    simp only[cOp,hop,ak]at hc
    obtain⟨d',_,hc⟩:=hc
    cases d'<;>simp only[reduceCtorEq]at hc
    simp only[ak,aw]at hc
    obtain⟨_,_,⟨d',i⟩,_,x',_,hc⟩:=hc
    split at hc<;>cases hc
  case indexAddr t x i =>
    simp only[cOp,hop,ak]at hc
    obtain⟨d',_,hc⟩:=hc
    cases d'<;>simp only[reduceCtorEq]at hc
    all_goals
      simp only[ak,aw]at hc
      obtain⟨_,_,_,_,_,_,hc⟩:=hc
      cases hc
  case index t x i =>
    simp only[cOp,hop,ak]at hc
    obtain⟨d',_,hc⟩:=hc
    cases d'<;>simp only[reduceCtorEq]at hc
    case string =>
      simp only[ak,aw]at hc
      obtain⟨_,_,_,_,hc⟩:=hc
      cases hc
    case array n e =>
      simp only[ak,aw]at hc
      obtain⟨⟨d',ie⟩,_,_,_,_,_,hc⟩:=hc
      split at hc<;>cases hc
  case binOp op t x y yt =>
    simp only[cOp,hop,ak]at hc
    obtain⟨d',_,_,_,_,_,hc⟩:=hc
    split at hc<;>first | (cases hc;done) | simp at hc
  case convert src dst x =>
    simp only[cOp,hop,ak]at hc
    obtain⟨_,_,d',_,hc⟩:=hc
    cases d'<;>simp only[reduceCtorEq]at hc
    all_goals
      simp only[aw]at hc
      obtain⟨_,_,hc⟩:=hc
      cases hc
  case makeFunc fn first caps =>
    cases fn with
    | func f =>
      simp only[cOp,hop]at hc
      split at hc
      ·simp only[aw]at hc;obtain⟨_,_,hc⟩:=hc;cases hc
      ·simp at hc
    | _=>simp[cOp,hop]at hc
  case slice t x lo hi mx =>
    cases mx with
    | some _=>simp[cOp,hop]at hc
    | none =>
      simp only[cOp,hop,ak]at hc
      obtain⟨d',_,hc⟩:=hc
      cases d'<;>simp only[reduceCtorEq]at hc
      case slice e =>
        simp only[ak,aw]at hc
        obtain⟨_,_,_,_,_,_,_,_,hc⟩:=hc
        cases hc
      case string =>
        simp only[ak,aw]at hc
        obtain⟨_,_,_,_,_,_,hc⟩:=hc
        cases hc
  case alloc e=>simp only[cOp,hop,aw]at hc;obtain⟨_,_,hc⟩:=hc;cases hc
  case box e x=>simp only[cOp,hop,aw]at hc;obtain⟨_,_,hc⟩:=hc;cases hc
  case makeSlice t l c =>
    simp only[cOp,hop,ak]at hc
    obtain⟨d',_,hc⟩:=hc
    cases d'<;>simp only[reduceCtorEq]at hc
    simp only[ak]at hc
    obtain⟨_,_,_,_,hc⟩:=hc
    split at hc
    ·simp only[ak,aw]at hc
     obtain⟨_,_,_,_,hc⟩:=hc
     cases hc
    ·simp at hc
  case buildSlice t n ps =>
    simp only[cOp,hop,ak]at hc
    obtain⟨d',_,hc⟩:=hc
    cases d'<;>simp only[reduceCtorEq]at hc
    simp only[ak]at hc
    obtain⟨_,_,_,_,_,_,hc⟩:=hc
    split at hc
    ·cases hc
    ·simp at hc
  case store t x v =>
    simp only[cOp,hop,ak,aw]at hc
    obtain⟨_,_,_,_,_,_,hc⟩:=hc
    cases hc
  case call c =>
    simp only[cOp,hop]at hc
    split at hc
    ·rename_i f' hcal
     simp only[ak]at hc
     obtain⟨fn,hfn,hc⟩:=hc
     split at hc
     ·rename_i hcond
      simp only[aw]at hc
      obtain⟨ys,hys,he⟩:=hc
      cases he
      simp only[gk,Cw,beq_eq_false_iff_ne,ne_eq]at hcond
      exact⟨c,fn,rfl,hcal,hfn,by intro hx;rw[hx]at hcond;simp at hcond,hcond.2,hys⟩
     ·simp at hc
    ·simp only[ak,aw]at hc
     obtain⟨_,_,_,_,hc⟩:=hc
     cases hc
    ·split at hc
     ·simp only[ak]at hc
      obtain⟨d',_,hc⟩:=hc
      cases d'<;>simp only[reduceCtorEq]at hc
      all_goals
        split at hc
        ·simp only[aw]at hc;obtain⟨_,_,hc⟩:=hc;cases hc
        ·simp at hc
     ·simp at hc
    ·simp only[aw]at hc;obtain⟨_,_,hc⟩:=hc;cases hc
    ·simp only[aw]at hc;obtain⟨_,_,hc⟩:=hc;cases hc
    ·split at hc
     ·simp only[ak]at hc
      obtain⟨d',_,hc⟩:=hc
      cases d'<;>simp only[reduceCtorEq]at hc
      simp only[ak]at hc
      obtain⟨ie,_,hc⟩:=hc
      split at hc
      ·simp only[ak,aw]at hc
       obtain⟨_,_,_,_,hc⟩:=hc
       cases hc
      ·simp at hc
     ·simp at hc
    ·simp at hc
  case makeMap t rs =>
    cases rs with
    | some _=>simp[cOp,hop]at hc
    | none =>
      simp only[cOp,hop,ak]at hc
      obtain⟨d,_,hc⟩:=hc
      cases d<;>simp only[reduceCtorEq]at hc
      simp only[ak]at hc
      obtain⟨_,_,hc⟩:=hc
      split at hc<;>cases hc
  case lookup t x i ok =>
    simp only[cOp,hop,ak]at hc
    obtain⟨d,_,hc⟩:=hc
    cases d<;>simp only[reduceCtorEq]at hc
    simp only[ak,aw]at hc
    obtain⟨_,_,_,_,_,_,_,_,_,_,hc⟩:=hc
    cases hc
  case mapUpdate t x i v =>
    simp only[cOp,hop,ak]at hc
    obtain⟨d,_,hc⟩:=hc
    cases d<;>simp only[reduceCtorEq]at hc
    simp only[ak,aw]at hc
    obtain⟨_,_,_,_,_,_,_,_,hc⟩:=hc
    cases hc
  case insert t x i v =>
    simp only[cOp,hop,ak]at hc
    obtain⟨d,_,hc⟩:=hc
    cases d<;>simp only[reduceCtorEq]at hc
    simp only[ak,aw]at hc
    obtain⟨_,_,_,_,_,_,_,_,hc⟩:=hc
    cases hc
  all_goals (simp only[cOp,hop,reduceCtorEq]at hc)
theorem VY{o:Oper}{x:Opd}{args:List Opd}(hc:cOp P o=some (.callv x args)) :
    ∃c x0,o.op = .call c∧c.callee = .value x0∧bX x0=some x∧c.args.toList.mapM bX=some args:=by
  cases hop:o.op
  case move x=>simp only[cOp,hop,aw]at hc;obtain⟨_,_,hc⟩:=hc;cases hc
  case assign x=>simp only[cOp,hop,aw]at hc;obtain⟨_,_,hc⟩:=hc;cases hc
  case nilCheck x=>simp only[cOp,hop,aw]at hc;obtain⟨_,_,hc⟩:=hc;cases hc
  case unOp op t x=>simp only[cOp,hop,aw]at hc;obtain⟨_,_,hc⟩:=hc;cases hc
  case extract x i=>simp only[cOp,hop,aw]at hc;obtain⟨_,_,hc⟩:=hc;cases hc
  case pick c x y =>
    simp only[cOp,hop,ak,aw]at hc
    obtain⟨_,_,_,_,_,_,hc⟩:=hc
    cases hc
  case build t parts =>
    simp only[cOp,hop,ak]at hc
    obtain⟨_,_,d',_,hc⟩:=hc
    cases d'<;>simp only[reduceCtorEq]at hc
    all_goals
      simp only[ak,aw]at hc
      obtain⟨_,_,_,_,hc⟩:=hc
      cases hc
  case load t x =>
    simp only[cOp,hop,ak]at hc
    obtain⟨⟨d',i⟩,_,x',_,hc⟩:=hc
    simp only at hc
    split at hc<;>cases hc
  case fieldAddr st x f =>
    simp only[cOp,hop,ak]at hc
    obtain⟨d',_,hc⟩:=hc
    cases d'<;>simp only[reduceCtorEq]at hc
    simp only[ak]at hc
    obtain⟨_,_,_,_,hc⟩:=hc
    split at hc
    ·simp at hc
    ·simp only[aw]at hc;obtain⟨_,_,hc⟩:=hc;cases hc
  case field st x f =>
    simp only[cOp,hop,ak]at hc
    obtain⟨d',_,hc⟩:=hc
    cases d'<;>simp only[reduceCtorEq]at hc
    simp only[ak,aw]at hc
    obtain⟨_,_,⟨d',i⟩,_,x',_,hc⟩:=hc
    split at hc<;>cases hc
  case indexAddr t x i =>
    simp only[cOp,hop,ak]at hc
    obtain⟨d',_,hc⟩:=hc
    cases d'<;>simp only[reduceCtorEq]at hc
    all_goals
      simp only[ak,aw]at hc
      obtain⟨_,_,_,_,_,_,hc⟩:=hc
      cases hc
  case index t x i =>
    simp only[cOp,hop,ak]at hc
    obtain⟨d',_,hc⟩:=hc
    cases d'<;>simp only[reduceCtorEq]at hc
    case string =>
      simp only[ak,aw]at hc
      obtain⟨_,_,_,_,hc⟩:=hc
      cases hc
    case array n e =>
      simp only[ak,aw]at hc
      obtain⟨⟨d',ie⟩,_,_,_,_,_,hc⟩:=hc
      split at hc<;>cases hc
  case binOp op t x y yt =>
    simp only[cOp,hop,ak]at hc
    obtain⟨d',_,_,_,_,_,hc⟩:=hc
    split at hc<;>first | (cases hc;done) | simp at hc
  case convert src dst x =>
    simp only[cOp,hop,ak]at hc
    obtain⟨_,_,d',_,hc⟩:=hc
    cases d'<;>simp only[reduceCtorEq]at hc
    all_goals
      simp only[aw]at hc
      obtain⟨_,_,hc⟩:=hc
      cases hc
  case makeFunc fn first caps =>
    cases fn with
    | func f =>
      simp only[cOp,hop]at hc
      split at hc
      ·simp only[aw]at hc;obtain⟨_,_,hc⟩:=hc;cases hc
      ·simp at hc
    | _=>simp[cOp,hop]at hc
  case slice t x lo hi mx =>
    cases mx with
    | some _=>simp[cOp,hop]at hc
    | none =>
      simp only[cOp,hop,ak]at hc
      obtain⟨d',_,hc⟩:=hc
      cases d'<;>simp only[reduceCtorEq]at hc
      case slice e =>
        simp only[ak,aw]at hc
        obtain⟨_,_,_,_,_,_,_,_,hc⟩:=hc
        cases hc
      case string =>
        simp only[ak,aw]at hc
        obtain⟨_,_,_,_,_,_,hc⟩:=hc
        cases hc
  case alloc e=>simp only[cOp,hop,aw]at hc;obtain⟨_,_,hc⟩:=hc;cases hc
  case box e x=>simp only[cOp,hop,aw]at hc;obtain⟨_,_,hc⟩:=hc;cases hc
  case makeSlice t l c =>
    simp only[cOp,hop,ak]at hc
    obtain⟨d',_,hc⟩:=hc
    cases d'<;>simp only[reduceCtorEq]at hc
    simp only[ak]at hc
    obtain⟨_,_,_,_,hc⟩:=hc
    split at hc
    ·simp only[ak,aw]at hc
     obtain⟨_,_,_,_,hc⟩:=hc
     cases hc
    ·simp at hc
  case buildSlice t n ps =>
    simp only[cOp,hop,ak]at hc
    obtain⟨d',_,hc⟩:=hc
    cases d'<;>simp only[reduceCtorEq]at hc
    simp only[ak]at hc
    obtain⟨_,_,_,_,_,_,hc⟩:=hc
    split at hc
    ·cases hc
    ·simp at hc
  case store t x v =>
    simp only[cOp,hop,ak,aw]at hc
    obtain⟨_,_,_,_,_,_,hc⟩:=hc
    cases hc
  case call c =>
    simp only[cOp,hop]at hc
    split at hc
    ·rename_i f' hcal
     simp only[ak]at hc
     obtain⟨fn,hfn,hc⟩:=hc
     split at hc
     ·rename_i hcond
      simp only[aw]at hc
      obtain⟨ys,hys,he⟩:=hc
      cases he
     ·simp at hc
    ·rename_i x0 _ hcal
     simp only[ak,aw]at hc
     obtain⟨x',hx',ys,hys,hc⟩:=hc
     cases hc
     exact⟨c,x0,rfl,hcal,hx',hys⟩
    ·split at hc
     ·simp only[ak]at hc
      obtain⟨d',_,hc⟩:=hc
      cases d'<;>simp only[reduceCtorEq]at hc
      all_goals
        split at hc
        ·simp only[aw]at hc;obtain⟨_,_,hc⟩:=hc;cases hc
        ·simp at hc
     ·simp at hc
    ·simp only[aw]at hc;obtain⟨_,_,hc⟩:=hc;cases hc
    ·simp only[aw]at hc;obtain⟨_,_,hc⟩:=hc;cases hc
    ·split at hc
     ·simp only[ak]at hc
      obtain⟨d',_,hc⟩:=hc
      cases d'<;>simp only[reduceCtorEq]at hc
      simp only[ak]at hc
      obtain⟨ie,_,hc⟩:=hc
      split at hc
      ·simp only[ak,aw]at hc
       obtain⟨_,_,_,_,hc⟩:=hc
       cases hc
      ·simp at hc
     ·simp at hc
    ·simp at hc
  case makeMap t rs =>
    cases rs with
    | some _=>simp[cOp,hop]at hc
    | none =>
      simp only[cOp,hop,ak]at hc
      obtain⟨d,_,hc⟩:=hc
      cases d<;>simp only[reduceCtorEq]at hc
      simp only[ak]at hc
      obtain⟨_,_,hc⟩:=hc
      split at hc<;>cases hc
  case lookup t x i ok =>
    simp only[cOp,hop,ak]at hc
    obtain⟨d,_,hc⟩:=hc
    cases d<;>simp only[reduceCtorEq]at hc
    simp only[ak,aw]at hc
    obtain⟨_,_,_,_,_,_,_,_,_,_,hc⟩:=hc
    cases hc
  case mapUpdate t x i v =>
    simp only[cOp,hop,ak]at hc
    obtain⟨d,_,hc⟩:=hc
    cases d<;>simp only[reduceCtorEq]at hc
    simp only[ak,aw]at hc
    obtain⟨_,_,_,_,_,_,_,_,hc⟩:=hc
    cases hc
  case insert t x i v =>
    simp only[cOp,hop,ak]at hc
    obtain⟨d,_,hc⟩:=hc
    cases d<;>simp only[reduceCtorEq]at hc
    simp only[ak,aw]at hc
    obtain⟨_,_,_,_,_,_,_,_,hc⟩:=hc
    cases hc
  all_goals (simp only[cOp,hop,reduceCtorEq]at hc)
theorem aIZ{o:Oper}{k:Nat}{x:Opd}{lo hi:Option Opd}(hc:cOp P o=some (.sub k x lo hi)) :
    ∃t e ie x0 lo0 hi0,o.op = .slice t x0 lo0 hi0 none∧P.underlying t=some (.slice e)∧P.info? e=some ie∧k=ie.size∧bX x0=some x∧((lo0=none∧lo=none)∨∃l l',lo0=some l∧lo=some l'∧bX l=some l')∧((hi0=none∧hi=none)∨∃l l',hi0=some l∧hi=some l'∧bX l=some l'):=by
  cases hop:o.op
  case move x=>simp only[cOp,hop,aw]at hc;obtain⟨_,_,hc⟩:=hc;cases hc
  case assign x=>simp only[cOp,hop,aw]at hc;obtain⟨_,_,hc⟩:=hc;cases hc
  case nilCheck x=>simp only[cOp,hop,aw]at hc;obtain⟨_,_,hc⟩:=hc;cases hc
  case unOp op t x=>simp only[cOp,hop,aw]at hc;obtain⟨_,_,hc⟩:=hc;cases hc
  case extract x i=>simp only[cOp,hop,aw]at hc;obtain⟨_,_,hc⟩:=hc;cases hc
  case pick c x y =>
    simp only[cOp,hop,ak,aw]at hc
    obtain⟨_,_,_,_,_,_,hc⟩:=hc
    cases hc
  case build t parts =>
    simp only[cOp,hop,ak]at hc
    obtain⟨_,_,d',_,hc⟩:=hc
    cases d'<;>simp only[reduceCtorEq]at hc
    all_goals
      simp only[ak,aw]at hc
      obtain⟨_,_,_,_,hc⟩:=hc
      cases hc
  case load t x =>
    simp only[cOp,hop,ak]at hc
    obtain⟨⟨d',i⟩,_,x',_,hc⟩:=hc
    simp only at hc
    split at hc<;>cases hc
  case fieldAddr st x f =>
    simp only[cOp,hop,ak]at hc
    obtain⟨d',_,hc⟩:=hc
    cases d'<;>simp only[reduceCtorEq]at hc
    simp only[ak]at hc
    obtain⟨_,_,_,_,hc⟩:=hc
    split at hc
    ·simp at hc
    ·simp only[aw]at hc;obtain⟨_,_,hc⟩:=hc;cases hc
  case field st x f =>
    simp only[cOp,hop,ak]at hc
    obtain⟨d',_,hc⟩:=hc
    cases d'<;>simp only[reduceCtorEq]at hc
    simp only[ak,aw]at hc
    obtain⟨_,_,⟨d',i⟩,_,x',_,hc⟩:=hc
    split at hc<;>cases hc
  case indexAddr t x i =>
    simp only[cOp,hop,ak]at hc
    obtain⟨d',_,hc⟩:=hc
    cases d'<;>simp only[reduceCtorEq]at hc
    all_goals
      simp only[ak,aw]at hc
      obtain⟨_,_,_,_,_,_,hc⟩:=hc
      cases hc
  case index t x i =>
    simp only[cOp,hop,ak]at hc
    obtain⟨d',_,hc⟩:=hc
    cases d'<;>simp only[reduceCtorEq]at hc
    case string =>
      simp only[ak,aw]at hc
      obtain⟨_,_,_,_,hc⟩:=hc
      cases hc
    case array n e =>
      simp only[ak,aw]at hc
      obtain⟨⟨d',ie⟩,_,_,_,_,_,hc⟩:=hc
      split at hc<;>cases hc
  case binOp op t x y yt =>
    simp only[cOp,hop,ak]at hc
    obtain⟨d',_,_,_,_,_,hc⟩:=hc
    split at hc<;>first | (cases hc;done) | simp at hc
  case convert src dst x =>
    simp only[cOp,hop,ak]at hc
    obtain⟨_,_,d',_,hc⟩:=hc
    cases d'<;>simp only[reduceCtorEq]at hc
    all_goals
      simp only[aw]at hc
      obtain⟨_,_,hc⟩:=hc
      cases hc
  case makeFunc fn first caps =>
    cases fn with
    | func f =>
      simp only[cOp,hop]at hc
      split at hc
      ·simp only[aw]at hc;obtain⟨_,_,hc⟩:=hc;cases hc
      ·simp at hc
    | _=>simp[cOp,hop]at hc
  case slice t x lo hi mx =>
    cases mx with
    | some _=>simp[cOp,hop]at hc
    | none =>
      simp only[cOp,hop,ak]at hc
      obtain⟨d',hdd,hc⟩:=hc
      cases d'<;>simp only[reduceCtorEq]at hc
      case slice e =>
        simp only[ak,aw]at hc
        obtain⟨ie,hie,x',hx',lo',hlo',hi',hhi',hc⟩:=hc
        cases hc
        exact⟨t,e,ie,x,lo,hi,rfl,hdd,hie,rfl,hx',J0 hlo',J0 hhi'⟩
      case string =>
        simp only[ak,aw]at hc
        obtain⟨_,_,_,_,_,_,hc⟩:=hc
        cases hc
  case alloc e=>simp only[cOp,hop,aw]at hc;obtain⟨_,_,hc⟩:=hc;cases hc
  case box e x=>simp only[cOp,hop,aw]at hc;obtain⟨_,_,hc⟩:=hc;cases hc
  case makeSlice t l c =>
    simp only[cOp,hop,ak]at hc
    obtain⟨d',_,hc⟩:=hc
    cases d'<;>simp only[reduceCtorEq]at hc
    simp only[ak]at hc
    obtain⟨_,_,_,_,hc⟩:=hc
    split at hc
    ·simp only[ak,aw]at hc
     obtain⟨_,_,_,_,hc⟩:=hc
     cases hc
    ·simp at hc
  case buildSlice t n ps =>
    simp only[cOp,hop,ak]at hc
    obtain⟨d',_,hc⟩:=hc
    cases d'<;>simp only[reduceCtorEq]at hc
    simp only[ak]at hc
    obtain⟨_,_,_,_,_,_,hc⟩:=hc
    split at hc
    ·cases hc
    ·simp at hc
  case store t x v =>
    simp only[cOp,hop,ak,aw]at hc
    obtain⟨_,_,_,_,_,_,hc⟩:=hc
    cases hc
  case call c =>
    simp only[cOp,hop]at hc
    split at hc
    ·rename_i f' hcal
     simp only[ak]at hc
     obtain⟨fn,hfn,hc⟩:=hc
     split at hc
     ·rename_i hcond
      simp only[aw]at hc
      obtain⟨ys,hys,he⟩:=hc
      cases he
     ·simp at hc
    ·simp only[ak,aw]at hc
     obtain⟨_,_,_,_,hc⟩:=hc
     cases hc
    ·split at hc
     ·simp only[ak]at hc
      obtain⟨d',_,hc⟩:=hc
      cases d'<;>simp only[reduceCtorEq]at hc
      all_goals
        split at hc
        ·simp only[aw]at hc;obtain⟨_,_,hc⟩:=hc;cases hc
        ·simp at hc
     ·simp at hc
    ·simp only[aw]at hc;obtain⟨_,_,hc⟩:=hc;cases hc
    ·simp only[aw]at hc;obtain⟨_,_,hc⟩:=hc;cases hc
    ·split at hc
     ·simp only[ak]at hc
      obtain⟨d',_,hc⟩:=hc
      cases d'<;>simp only[reduceCtorEq]at hc
      simp only[ak]at hc
      obtain⟨ie,_,hc⟩:=hc
      split at hc
      ·simp only[ak,aw]at hc
       obtain⟨_,_,_,_,hc⟩:=hc
       cases hc
      ·simp at hc
     ·simp at hc
    ·simp at hc
  case makeMap t rs =>
    cases rs with
    | some _=>simp[cOp,hop]at hc
    | none =>
      simp only[cOp,hop,ak]at hc
      obtain⟨d,_,hc⟩:=hc
      cases d<;>simp only[reduceCtorEq]at hc
      simp only[ak]at hc
      obtain⟨_,_,hc⟩:=hc
      split at hc<;>cases hc
  case lookup t x i ok =>
    simp only[cOp,hop,ak]at hc
    obtain⟨d,_,hc⟩:=hc
    cases d<;>simp only[reduceCtorEq]at hc
    simp only[ak,aw]at hc
    obtain⟨_,_,_,_,_,_,_,_,_,_,hc⟩:=hc
    cases hc
  case mapUpdate t x i v =>
    simp only[cOp,hop,ak]at hc
    obtain⟨d,_,hc⟩:=hc
    cases d<;>simp only[reduceCtorEq]at hc
    simp only[ak,aw]at hc
    obtain⟨_,_,_,_,_,_,_,_,hc⟩:=hc
    cases hc
  case insert t x i v =>
    simp only[cOp,hop,ak]at hc
    obtain⟨d,_,hc⟩:=hc
    cases d<;>simp only[reduceCtorEq]at hc
    simp only[ak,aw]at hc
    obtain⟨_,_,_,_,_,_,_,_,hc⟩:=hc
    cases hc
  all_goals (simp only[cOp,hop,reduceCtorEq]at hc)
theorem aFZ{B:Oid→Value}{ok:Nat→Prop}{cs:List Value}{caps:List Cap}(h:Pt (RepCap w ok B) cs caps):Pt (RepV w ok B) cs (caps.map alq) :=
  h.of_map fun v x hr=>by
    cases hr with
    | ptr o b h=>exact RepC.ptrO o 0 b h
    | imm v t h=>exact RepC.imm v t h
theorem B8(s:St K Γ h a w){o:Oper}{vo:VO}(hc:cOp P o=some vo)(hn:K.ntmps≤1000)(hd:∀d,o.dst=some d→d<K.ntmps){k:Env→Heap→Prop}{Q:Exit→Act→World→Prop}(hp:iW P o.dst vo Γ h k)
    {next:Act→World→Prop} (hk:∀Γ' h' a' w',k Γ' h'→St K Γ' h' a' w'→next a' w'):o.wp P a w next Q:=by
  obtain⟨B,s⟩:=s
  have quiet:∀r,qP P h (ev Γ) vo r→k (putO o.dst r Γ) h→o.wp P a w next Q:=by
    intro r hq hkk
    obtain⟨v,hrun,hx⟩:=aOx s hc hq
    unfold Oper.wp
    rw[hrun]
    exact hk _ _ _ _ hkk (St.putO s hd hx)
  have eff:eP (o.dst.getD 999,0) Γ h vo (fun x Γ' h'=>k (putO o.dst x Γ') h')→o.wp P a w next Q:=by
    intro he
    obtain⟨nx,v,w',B',x,Γ',h',hrun,hnx,hkk,s',hx⟩:=aJq s hc (aBq hn hd) he
    unfold Oper.wp
    rw[hrun]
    rcases hnx with rfl | ⟨rfl,rfl⟩
    ·exact hk _ _ _ _ hkk (St.putO s' hd hx)
    ·exact hk _ _ _ _ hkk (St.putO s' hd hx)
  cases vo
  case call f args =>
    obtain⟨r,hcall,hkk⟩:=hp
    obtain⟨c,fn,hop,hcal,hfn,hnone,hname,hys⟩:=YX hc
    have hargs:=xZ _ _ hys s
    have hcalls:=Lx s hargs hcall
    have hrun:(execOp a.eval o).run P w = .ok (.enter f (c.args.map a.eval)) w:=by
      simp[execOp,hop,resolve,hcal,Act.eval,Deferred.ofValue,invoke,callFunc,hfn,hname,hnone]
    unfold Oper.wp
    rw[hrun,Oper.upon_enter]
    rw[←Array.toList_map,Ck]at hcalls
    refine hcalls.mono fun e w' he=>?_
    obtain⟨v,rfl,s',hx⟩:=he
    exact hk _ _ _ _ hkk (St.putO s' hd hx)
  case callv q args =>
    obtain⟨f,caps,hq,hok,r,hcall,hkk⟩:=hp
    obtain⟨c,x0,hop,hcal,hx0,hys⟩:=VY hc
    have hxr:=aX s hx0
    rw[hq]at hxr
    generalize hval:a.eval x0=v at hxr
    have hxr':RepC w (okS K w B h) B v (.fn f caps):=hxr
    cases hxr' with
    | fn _ cs _ hcp =>
      have hargs:=(xZ _ _ hys s).append (aFZ hcp)
      have hcalls:=Lx s hargs hcall
      have hrun:(execOp a.eval o).run P w = .ok (.enter f (c.args.toList.map a.eval++cs).toArray) w:=by
        unfold aEz at hok
        cases hfn:P.funcs[f]? with
        | none=>simp[hfn]at hok
        | some fn =>
          simp only[hfn,gk,Cw,beq_eq_false_iff_ne,ne_eq]at hok
          have hnone : ¬fn.body=none:=by intro hx;rw[hx]at hok;simp at hok
          simp only[execOp,hop,resolve,hcal,hval,Deferred.ofValue]
          simp[invoke,callFunc,hfn,hok.2,hnone]
      unfold Oper.wp
      rw[hrun,Oper.upon_enter]
      refine hcalls.mono fun e w' he=>?_
      obtain⟨v,rfl,s',hx⟩:=he
      exact hk _ _ _ _ hkk (St.putO s' hd hx)
  all_goals first
    | (obtain⟨hf,x,h',hr,hkk⟩:=hp;exact eff (aHW hr hf hkk))
    | (obtain⟨r,hq,hkk⟩:=hp;exact quiet r hq hkk)
end
end Go.VM
namespace Go.VM
section
variable {P:Program} {K:Ctx} {Γ:Env} {h:Heap} {a:Act} {w:World}
theorem QQ(s:St K Γ h a w){ops:Array Oper}{o:Oper}{n:Nat}{vo:VOp}(hc:kq P n ops o=some vo) :
  vo.dst=o.dst∧cOp P o=some vo.op∧(∀d,o.dst=some d→d<n) ∧
  ∀ {yes no:Prop},sj vo.guard Γ yes no→(Region.wanted o (yielded ops a.tmps)=true∧yes)∨(Region.wanted o (yielded ops a.tmps)=false∧no):=by
 unfold kq at hc
 by_cases hd:ZW n o.dst=true
 ·rw[if_pos hd]at hc
  have hd':∀d,o.dst=some d→d<n:=fun d he=>by rw[he]at hd;simpa[ZW]using hd
  simp only[ak]at hc
  obtain⟨op,hop,hc⟩:=hc
  cases hg:o.guard with
  | none =>
   simp only[hg,ek]at hc
   subst hc
   exact⟨rfl,hop,hd',fun {yes no} hy=>.inl ⟨by simp[Region.wanted,hg],hy⟩⟩
  | some jb =>
   obtain⟨j,b⟩:=jb
   simp only[hg,aw]at hc
   obtain⟨t,ht,rfl⟩:=hc
   refine⟨rfl,hop,hd',fun {yes no} hy=>?_⟩
   obtain⟨B,s⟩:=s
   have hbool:∀c,Γ t=bV c→yielded ops a.tmps j=some c:=by
    intro c hct
    have hv:=Zq (hct▸s.slots t)
    have hlt:t<a.tmps.size:=by
     by_cases hlt:t<a.tmps.size
     ·exact hlt
     ·simp only[Array.getD,hlt,dif_neg,not_false_eq_true]at hv
      simp[undef]at hv
    have bY:a.tmps[t]? = some (.bool c):=by
     rw[Array.getElem?_eq_getElem hlt]
     simpa[Array.getD,hlt]using hv
    simp[yielded,ht,bY]
   rcases hy with⟨hct,hyes⟩ | ⟨hun | hun,hno⟩
   ·exact .inl ⟨by simp[Region.wanted,hg,hbool _ hct],hyes⟩
   ·exact .inr ⟨by cases b<;>simp[Region.wanted,hg,hbool _ hun],hno⟩
   ·refine .inr ⟨?_,hno⟩
    have hv:=s.slots t
    rw[hun]at hv
    obtain⟨vs,hv,hp⟩:=hv
    have hvs:vs = #[]:=by
     have:=hp.1
     simp at this
     exact this
    subst hvs
    have hy:yielded ops a.tmps j=none:=by
     simp only[yielded,ht]
     by_cases hlt:t<a.tmps.size
     ·have bY:a.tmps[t]? = some (.tuple #[]):=by
       rw[Array.getElem?_eq_getElem hlt]
       simpa[Array.getD,hlt]using hv
      simp[bY]
     ·simp[hlt]
    simp[Region.wanted,hg,hy]
 ·rw[if_neg hd]at hc;simp at hc
def aEV(K:Ctx)(n:Nat)(I:Option (List Oid)):Prop:=K.ntmps=n∧∀l,I=some l→∀o b,K.par o b→o∈l∧K.pin o∧gz (K.B0 o)=some b
def W(P:Program)(n:Nat)(I:Option (List Oid))(v:VC)(Q:Exit→Env→Heap→Prop)(Γ:Env)(h:Heap):Prop :=
 ∀c,gV P n c=some v→∀K:Ctx,aEV K n I→∀a w,St K Γ h a w→c.wp P (ayq K Q) a w
def Sim(n:Nat)(I:Option (List Oid))(Γ:Env)(h:Heap)(Γ':Env)(h':Heap):Prop:=∀K:Ctx,aEV K n I→∀a w,St K Γ h a w→St K Γ' h' a w
theorem Sim.refl{n:Nat}{I:Option (List Oid)}(Γ:Env)(h:Heap):Sim n I Γ h Γ h:=fun _ _ _ _ s=>s
theorem Sim.trans{n:Nat}{I:Option (List Oid)}{Γ Γ' Γ'':Env}{h h' h'':Heap}(x:Sim n I Γ h Γ' h')(y:Sim n I Γ' h' Γ'' h''):Sim n I Γ h Γ'' h'':=fun K hK a w s=>y K hK a w (x K hK a w s)
def aqq(k:Env→Heap→Prop)(Q:Exit→Env→Heap→Prop):Exit→Env→Heap→Prop
 | .normal,Γ,h=>k Γ h
 | e,Γ,h=>Q e Γ h
def S5(id:Nat)(Q:Exit→Env→Heap→Prop):Exit→Env→Heap→Prop
 | .exit id',Γ,h=>if id'=id then Q .normal Γ h else Q (.exit id') Γ h
 | e,Γ,h=>Q e Γ h
variable {n:Nat} {I:Option (List Oid)} {Q:Exit→Env→Heap→Prop}
theorem b5(hq:Q .normal Γ h):W P n I .skip Q Γ h:=by
 intro c hc K hK a w s
 cases c<;>simp[gV,azV,ak,aw]at hc
 exact wp_skip ⟨Γ,h,hq,s⟩
theorem kV{id:Nat}(hq:Q (.exit id) Γ h):W P n I (.exit id) Q Γ h:=by
 intro c hc K hK a w s
 cases c<;>simp[gV,axz,ak,aw]at hc
 subst hc
 exact wp_exit ⟨Γ,h,hq,s⟩
theorem cQ(hq:Q .ret Γ h):W P n I .ret Q Γ h:=by
 intro c hc K hK a w s
 cases c<;>simp[gV,aIj,ak,aw]at hc
 exact wp_ret ⟨Γ,h,hq,s⟩
theorem a9{x y:VC}(hq:W P n I x (aqq (fun Γ' h'=>W P n I y Q Γ' h') Q) Γ h):W P n I (.seq x y) Q Γ h:=by
 intro c hc K hK a w s
 cases c<;>simp only[gV,aCV,ak,aw,Option.ite_none_right_eq_some,ek,reduceCtorEq,and_false,exists_false,VC.seq.injEq]at hc
 obtain⟨x',hx,y',hy,rfl,rfl⟩:=hc
 refine wp_seq (wp_mono (hq _ hx K hK a w s) fun e a' w' hl=>?_)
 obtain⟨Γ',h',hq',s'⟩:=hl
 cases e with
 | normal=>exact hq' _ hy K hK a' w' s'
 | _=>exact⟨Γ',h',hq',s'⟩
theorem aQx{c:Opd}{x y:VC}{t:Bool}(hc:ev Γ c=bV t)(hx:t=true→W P n I x Q Γ h)(hy:t=false→W P n I y Q Γ h):W P n I (.cond c x y) Q Γ h:=by
 intro c0 hc0 K hK a w s
 cases c0<;>simp only[gV,azY,ak,aw,Option.ite_none_right_eq_some,ek,reduceCtorEq,and_false,exists_false,VC.cond.injEq]at hc0
 obtain⟨c',hc',x',hx',y',hy',rfl,rfl,rfl⟩:=hc0
 obtain⟨B,s⟩:=s
 have hv:=Zq (hc▸aX s hc')
 exact wp_cond_split hv (fun ht=>hx ht _ hx' K hK a w ⟨B,s⟩) (fun ht=>hy ht _ hy' K hK a w ⟨B,s⟩)
theorem gJ{id:Nat}{x:VC}(hq:W P n I x (S5 id Q) Γ h):W P n I (.block id x) Q Γ h:=by
 intro c hc K hK a w s
 cases c<;>simp only[gV,amj,ak,aw,Option.ite_none_right_eq_some,ek,reduceCtorEq,and_false,exists_false,VC.block.injEq]at hc
 obtain⟨x',hx,rfl,rfl⟩:=hc
 refine wp_block (wp_mono (hq _ hx K hK a w s) fun e a' w' hl=>?_)
 obtain⟨Γ',h',hq',s'⟩:=hl
 cases e with
 | exit id' =>
  simp only[S5]at hq'
  simp only[Exit.inBlock]
  split
  ·rename_i he;simp only[he,if_true]at hq';exact⟨Γ',h',hq',s'⟩
  ·rename_i he;simp only[he,sk]at hq';exact⟨Γ',h',hq',s'⟩
 | _=>exact⟨Γ',h',hq',s'⟩
theorem zq{c:Code}{d:Option (List Nat)}{ops:List VOp}(hc:gV P n c=some (.region d ops)) :
  ∃id ops' b,c = .region id ops' b∧ops'.toList.mapM (kq P n ops')=some ops∧(d=none→b=false)∧(∀bs,d=some bs→b=true∧bs=BZ ops'∧MJ ops' ops=true∧P.follows .mixedOrders=true):=by
 cases c<;>simp only[gV,ak,aw,ek,reduceCtorEq,and_false,exists_false]at hc
 rename_i id ops' draw
 have hc:=ahq P hc
 unfold AW at hc
 obtain⟨vl,hvl,hc⟩:=ak.1 hc
 split at hc
 ·rename_i hd
  simp only[ek,VC.region.injEq]at hc
  obtain⟨h1,rfl⟩:=hc
  refine⟨id,ops',draw,rfl,hvl,fun h=>?_,fun bs hbs=>?_⟩
  ·subst h
   cases draw with
   | false=>rfl
   | true=>simp at h1
  ·subst hbs
   cases draw with
   | false=>simp at h1
   | true =>
    simp only[if_true,ek]at h1
    exact⟨rfl,h1.symm,hd rfl⟩
 ·simp at hc
structure Weak(Γ:Env)(h:Heap)(Γ':Env)(h':Heap):Prop where
 env:∀t,Γ' t = .junk∨Γ' t=Γ t
 heap:∀o ob,h' o=some ob→h o=some ob
theorem St.weak(s:St K Γ h a w){Γ':Env}{h':Heap}(hw:Weak Γ h Γ' h'):St K Γ' h' a w:=by
 obtain⟨B,s⟩:=s
 exact⟨B,s.weaken hw.env hw.heap⟩
theorem Weak.refl(Γ:Env)(h:Heap):Weak Γ h Γ h:=⟨fun _=>.inr rfl,fun _ _ h=>h⟩
def AgO(h:Heap)(p:Oid×Ob):Prop:=match jV p.2 with
 | some G=>∀o,o6 o=true→∀ob,zK G o=some ob→h o=some ob
 | none=>h p.1=some p.2
theorem Weak.of{l:List (Nat×V)}{m:List (Oid×Ob)}(hl:∀p∈l,Γ p.1=p.2)(hm:∀p∈m,AgO h p):Weak Γ h (bJ l) (aZ m):=by
 constructor
 ·intro t
  induction l with
  | nil=>exact .inl rfl
  | cons p r ih =>
   obtain⟨u,x⟩:=p
   simp only[bJ,Env.put]
   split
   ·rename_i e;subst e;exact .inr (hl (_,x) (zk ..)).symm
   ·exact ih fun p hp=>hl p (by simp[hp])
 ·induction m with
  | nil=>intro o ob ho;simp[aZ,noHeap]at ho
  | cons p r ih =>
   obtain⟨u,x⟩:=p
   intro o ob ho
   have h0:=hm (u,x) (zk ..)
   simp only[AgO]at h0
   simp only[aZ]at ho
   cases hx:jV x with
   | some G =>
    simp only[hx]at ho h0
    cases hr:o6 o with
    | true=>simp only[hr,cond_true]at ho;exact h0 o hr ob ho
    | false=>simp only[hr,cond_false]at ho;exact ih (fun p hp=>hm p (by simp[hp])) o ob ho
   | none =>
    simp only[hx,Heap.put]at ho h0
    split at ho
    ·rename_i e;subst e;cases ho;exact h0
    ·exact ih (fun p hp=>hm p (by simp[hp])) o ob ho
theorem aPZ{v:VC}{Γ':Env}{h':Heap}(hw:Sim n I Γ h Γ' h')(hq:W P n I v Q Γ' h'):W P n I v Q Γ h :=
 fun c hc K hK a w s=>hq c hc K hK a w (hw K hK a w s)
theorem Weak.sim{Γ':Env}{h':Heap}(hw:Weak Γ h Γ' h'):Sim n I Γ h Γ' h':=fun _ _ _ _ s=>s.weak hw
end
def iter{S ρ:Type}(step:S→Option (S ⊕ ρ)):Nat→S→Option ρ
 | 0,_=>none
 | n+1,s=>match step s with
  | none=>none
  | some (.inl s')=>iter step n s'
  | some (.inr r)=>some r
def cV:Nat:=18446744073709551616
def loop{S ρ:Type}(step:S→Option (S ⊕ ρ))(s:S):Option ρ:=iter step cV s
theorem X9{S ρ:Type}{step:S→Option (S ⊕ ρ)}:∀ {n:Nat} {s:S} {r:ρ} (m:Nat),iter step n s=some r→iter step (n+m) s=some r
 | 0,s,r,m,h=>by simp[iter]at h
 | n+1,s,r,m,h=>by
  rw[show n+1+m=(n+m)+1 from by omega]
  simp only[iter]at h ⊢
  cases hs:step s with
  | none=>simp[hs]at h
  | some x=>cases x with
   | inl s'=>simp only[hs]at h ⊢;exact X9 m h
   | inr r'=>simpa[hs]using h
theorem abK{S ρ:Type}{step:S→Option (S ⊕ ρ)}{n:Nat}{s:S}{r:ρ}(hn:n≤cV)(h:iter step n s=some r):loop step s=some r:=by
 obtain⟨k,hk⟩:=Nat.exists_eq_add_of_le hn
 unfold loop
 rw[hk]
 exact X9 k h
theorem adq{S ρ:Type}{step:S→Option (S ⊕ ρ)}{s:S}{r:ρ}(h:loop step s=some r):∃n,iter step n s=some r:=⟨_,h⟩
section
variable {P:Program} {n:Nat} {I:Option (List Oid)} {Q:Exit→Env→Heap→Prop} {Γ:Env} {h:Heap}
theorem aRK{S ρ:Type}{step:S→Option (S ⊕ ρ)}{s0:S}{r:ρ}(hF:loop step s0=some r){b:VC}(Γs:S→Env)(hs:S→Heap)(hw:Sim n I Γ h (Γs s0) (hs s0))
  (body:∀s x,step s=some x→(∀r',x = .inr r'→r'=r)→W P n I b (aqq (fun Γ' h'=>∃s',x = .inl s'∧Sim n I Γ' h' (Γs s') (hs s')) Q) (Γs s) (hs s)):W P n I (.loop b) Q Γ h:=by
 intro c hc K hK a w s
 cases c<;>simp only[gV,ayJ,ak,aw,Option.ite_none_right_eq_some,ek,reduceCtorEq,and_false,exists_false,VC.loop.injEq]at hc
 rename_i cb
 obtain⟨b',hb,rfl⟩:=hc
 obtain⟨m,hm⟩:=adq hF
 refine wp_loop_rounds m ?_
 have key:∀m s0 a w,iter step m s0=some r→St K (Γs s0) (hs s0) a w→Code.rounds P cb (ayq K Q) m a w:=by
  intro m
  induction m with
  | zero=>intro s0 a w hi;simp[iter]at hi
  | succ m ih =>
   intro s0 a w hi st
   simp only[iter]at hi
   cases hst:step s0 with
   | none=>simp[hst]at hi
   | some x =>
    have hbody:=body s0 x hst (fun r' hr'=>by subst hr';simpa[hst]using hi) _ hb K hK a w st
    rw[rounds_succ]
    refine wp_mono hbody fun e a' w' hl=>?_
    obtain⟨Γ',h',hq,st'⟩:=hl
    cases e with
    | normal =>
     obtain⟨s',rfl,hwk⟩:=hq
     simp only[hst]at hi
     exact ih s' a' w' hi (hwk K hK _ _ st')
    | _=>exact⟨Γ',h',hq,st'⟩
 exact key m s0 a w hm (hw K hK a w s)
end
end Go.VM
namespace Go.VM
inductive VR where
 | tmp (t:Nat)
 | cell (t:Nat) (n:Nat) (agg:Bool)
def Cx(P:Program):ResultVar→Option VR
 | .tmp t=>some (.tmp t)
 | .cell a t=>(Hq P t).map fun(d,i)=>if c6 d then .cell a i.size true else .cell a 1 false
def adJ(Γ:Env)(h:Heap):VR→Option V
 | .tmp t=>some (Γ t)
 | .cell t n g=>(rd h (Γ t) n).map (mkV g)
def P3(Γ:Env)(h:Heap):List VR→Option (List V)
 | []=>some []
 | r::rs=>(adJ Γ h r).bind fun x=>(P3 Γ h rs).map (x :: ·)
def QK:List V→V
 | [x]=>x
 | xs=>.tup xs
def aNY(fresh:Bool)(hin h hout:Heap):C→C→Prop
 | .imm t,.imm t'=>t=t'∧(fresh=true→KW t=true)
 | .nilS,.imm (.sl _ rows)=>rows=[]
 | .nilS,.nilS=>True
 | .nilM,.nilM=>True
 | .slO o,.imm (.sl k rows)=>(∃e,h o=some (.arr e k rows))∧(∀p ob,hin p=some ob→∃cs cs',ob = .box cs∧h p=some (.box cs'))∧hout o=none∧(fresh=true→∀row∈rows,∀t∈row,KW t=true)
 | .slO o,.slO o'=>o=o'
 | .ptrO o off,.ptrO o' off'=>o=o'∧off=off'
 | .mapO o,.mapO o'=>o=o'
 | _,_=>False
def aaq(fresh:Bool)(hin h hout:Heap):List C→List C→Prop
 | [],[]=>True
 | c::cs,d::ds=>aNY fresh hin h hout c d∧aaq fresh hin h hout cs ds
 | _,_=>False
def avV(fresh:Bool)(hin h hout:Heap):V→V→Prop
 | .c x,.c y=>aNY fresh hin h hout x y
 | .agg xs,.agg ys=>aaq fresh hin h hout xs ys
 | _,_=>False
def Zj(fresh:Bool)(hin h hout:Heap):List V→List V→Prop
 | [],[]=>True
 | x::xs,y::ys=>avV fresh hin h hout x y∧Zj fresh hin h hout xs ys
 | _,_=>False
def aFJ(fresh:Bool)(hin h hout:Heap):V→V→Prop
 | .tup xs,.tup ys=>Zj fresh hin h hout xs ys
 | x,y=>avV fresh hin h hout x y
def aoj(rs:List VR)(fresh:Bool)(hin:Heap)(r:V)(hout:Heap):Exit→Env→Heap→Prop
 | .normal,Γ,h | .ret,Γ,h=>∃xs,P3 Γ h rs=some xs∧xs.all kK=true∧aFJ fresh hin h hout (QK xs) r∧(∀o ob,hout o=some ob→h o=some ob)
 | _,_,_=>False
def entry(vs:List V):Env:=fun t=>(vs[t]?).getD .junk
section
variable {P:Program} {K:Ctx} {B:Oid→Value} {Γ:Env} {h:Heap} {a:Act} {w:World}
theorem acZ{ok:Nat→Prop}{o:Oid}{e k:Nat}{rows:List (List T)}{v:Value}(s:StB K B Γ h a w)(bY:h o=some (.arr e k rows))(hr:RepC w (okS K w B h) B v (.slO o))
  (hbl:∀b,gz (B o)=some b→ok b) (helt:∀u (i:Nat) row (j:Nat) x,rows[i]? = some row→row[j]? = some x→RepT w (okS K w B h) u x→RepT w ok u x):RepT w ok v (.sl k rows):=by
 obtain⟨_,hk,cs,hown,hp⟩:=s.objs.rep _ _ bY
 cases hr with
 | slO _ q len cap hB =>
  rw[hB]at hown hbl
  rcases hown.2 with⟨hv,hz⟩ | ⟨g,cap',cur,hv,_,hg,hnc,_,_,htake⟩
  ·cases hv
   have:rows=[]:=fk hz
   subst this;exact .nil _ _ _
  ·cases hv
   have hlies:Lies w g 0 cs:=fun j u hu=>by
    rw[←htake,zw]at hu
    split at hu
    ·simp[World.cell?,hg,←Array.getElem?_toList,hu]
    ·simp at hu
   have hget2:∀(i:Nat) row (j:Nat) x,rows[i]? = some row→row[j]? = some x→∃u,cs[i*k+j]? = some u∧RepT w (okS K w B h) u x:=by
    intro i row j x hi hj
    have hrl:=hk row (nw hi)
    have hjl:j<k:=by rw[←hrl];exact(bw.1 hj).1
    have hf:=flatten_get rows i row hk hi
    have hx:rows.flatten[i*k+j]? = some x:=by
     have:((rows.flatten.drop (i*k)).take k)[j]? = some x:=by rw[hf];exact hj
     simpa[zw,hjl,List.getElem?_drop]using this
    have hlt:i*k+j<cs.length:=by rw[hp.1];exact(bw.1 hx).1
    exact⟨cs[i*k+j],cw hlt,hp.2 _ _ x (cw hlt) hx⟩
   refine .sl g 0 cap k rows (fun i j=>cs.getD (i*k+j) undef) (hbl g rfl) hnc hk ?_ ?_
   ·intro i row j x hi hj
    obtain⟨u,hu,_⟩:=hget2 i row j x hi hj
    have:=hlies _ u hu
    simp[List.getD,hu]at this ⊢
    exact this
   ·intro i row j x hi hj
    obtain⟨u,hu,hr⟩:=hget2 i row j x hi hj
    simp only[List.getD,hu,Option.getD_some]
    exact helt u i row j x hi hj hr
structure Leaves(K:Ctx)(B:Oid→Value)(hin h hout:Heap):Prop where
 par:∀o b,K.par o b→∃ob,hin o=some ob∧gz (K.B0 o)=some b
 pin:∀o cs,hin o=some (.box cs)→K.pin o
 out:∀o ob,hout o=some ob→h o=some ob
theorem Leaves.get{hin hout:Heap}(l:Leaves K B hin h hout){o:Oid}{ob:Ob}(hg:hout o=some ob):h o=some ob:=l.out o ob hg
theorem agW(_s:StB K B Γ h a w){hin hout:Heap}(l:Leaves K B hin h hout)(b:Nat)(hb:okS K w B h b):mK K.w0.heap.size K.ok0 w B hout b :=
 ⟨hb.1,hb.2.1,fun o ob hg=>hb.2.2 o ob (l.get hg)⟩
theorem aij(s:StB K B Γ h a w){fresh:Bool}{hin hout:Heap}(l:Leaves K B hin h hout){v:Value}{c d:C}(hr:RepC w (okS K w B h) B v c)(hs:aNY fresh hin h hout c d) :
  RepC w (xq fresh K.w0.heap.size K.ok0 w B hout) B v d:=by
 have hokF:fresh=false→∀b,okS K w B h b→xq fresh K.w0.heap.size K.ok0 w B hout b:=fun hf b hb=>⟨agW s l b hb,fun ht=>by rw[hf]at ht;simp at ht⟩
 have tree:∀ {v t},(fresh=true→KW t=true)→RepT w (okS K w B h) v t→RepT w (xq fresh K.w0.heap.size K.ok0 w B hout) v t:=by
  intro v t hf hr
  cases hfr:fresh with
  | true=>exact JZ (hf hfr) hr
  | false=>rw[←hfr];exact hr.mono (fun _ _=>rfl) (hokF hfr)
 unfold aNY at hs
 split at hs
 ·obtain⟨rfl,hf⟩:=hs
  cases hr with
  | imm _ _ hr=>exact .imm _ _ (tree hf hr)
 ·subst hs;cases hr;exact .imm _ _ (.nil _ _ _)
 ·cases hr;exact .nilS
 ·cases hr;exact .nilM
 ·rename_i o k rows
  obtain⟨⟨e,bY⟩,hin0,hout0,hf⟩:=hs
  refine .imm _ _ (acZ s bY hr (fun b hb=>?_) fun u i row j x hi hj hx=>tree (fun ht=>hf ht row (nw hi) x (nw hj)) hx)
  have hnew:K.w0.heap.size≤b:=by
   rcases Nat.lt_or_ge b K.w0.heap.size with hlt | hge
   ·exfalso
    obtain⟨p,hpar⟩:=s.own o _ b bY hb hlt
    obtain⟨ob,hp1,hp2⟩:=l.par p b hpar
    obtain⟨cs,cs',rfl,hp3⟩:=hin0 p ob hp1
    rw[←(s.pin p (l.pin p _ hp1)).2]at hp2
    have:=s.objs.apart o p _ _ b bY hp3 hb hp2
    subst this
    rw[bY]at hp3;cases hp3
   ·exact hge
  refine⟨⟨(s.objs.rep o _ bY).lt hb,fun hlt=>by omega,fun o' ob' hg' hb'=>?_⟩,fun _=>hnew⟩
  have:=s.objs.apart o o' _ ob' b bY (l.get hg') hb hb'
  subst this
  rw[hout0]at hg';simp at hg'
 ·subst hs
  cases hr with
  | slO _ q len cap hB=>exact .slO _ q len cap hB
 ·obtain⟨rfl,rfl⟩:=hs
  cases hr with
  | ptrO _ _ b hB=>exact .ptrO _ _ b hB
 ·subst hs
  cases hr with
  | mapO _ r hB=>exact .mapO _ r hB
 ·exact hs.elim
theorem ZY(s:StB K B Γ h a w){fresh:Bool}{hin hout:Heap}(l:Leaves K B hin h hout) :
  ∀(vs:List Value) (cs ds:List C),Pt (RepC w (okS K w B h) B) vs cs→aaq fresh hin h hout cs ds→Pt (RepC w (xq fresh K.w0.heap.size K.ok0 w B hout) B) vs ds
 | [],cs,ts,hp,hm=>by
  have:cs=[]:=fk (by have:=hp.1;simpa using this.symm)
  subst this
  cases ts with
  | nil=>exact Pt.nil
  | cons _ _=>simp[aaq]at hm
 | v::vs,cs,ts,hp,hm=>by
  cases cs with
  | nil=>have:=hp.1;simp at this
  | cons c cs =>
   cases ts with
   | nil=>simp[aaq]at hm
   | cons t ts =>
    have ht:Pt (RepC w (okS K w B h) B) vs cs:=⟨by have:=hp.1;simpa using this,fun j u z hu hz=>hp.2 (j+1) u z (by simpa using hu) (by simpa using hz)⟩
    simp only[aaq]at hm
    exact Pt.cons (aij s l (hp.2 0 v c rfl rfl) hm.1) (ZY s l vs cs ts ht hm.2)
theorem afz(s:StB K B Γ h a w){fresh:Bool}{hin hout:Heap}(l:Leaves K B hin h hout){v:Value}{x y:V}(hr:RepS w (okS K w B h) B v x)(hs:avV fresh hin h hout x y) :
  RepS w (xq fresh K.w0.heap.size K.ok0 w B hout) B v y:=by
 unfold avV at hs
 split at hs
 ·exact aij s l hr hs
 ·obtain⟨cs,rfl,hp⟩:=hr
  exact⟨cs,rfl,ZY s l _ _ _ hp hs⟩
 ·exact hs.elim
theorem Z6(s:StB K B Γ h a w){fresh:Bool}{hin hout:Heap}(l:Leaves K B hin h hout) :
  ∀(vs:List Value) (cs ds:List V),Pt (RepS w (okS K w B h) B) vs cs→Zj fresh hin h hout cs ds→Pt (RepS w (xq fresh K.w0.heap.size K.ok0 w B hout) B) vs ds
 | [],cs,ts,hp,hm=>by
  have:cs=[]:=fk (by have:=hp.1;simpa using this.symm)
  subst this
  cases ts with
  | nil=>exact Pt.nil
  | cons _ _=>simp[Zj]at hm
 | v::vs,cs,ts,hp,hm=>by
  cases cs with
  | nil=>have:=hp.1;simp at this
  | cons c cs =>
   cases ts with
   | nil=>simp[Zj]at hm
   | cons t ts =>
    have ht:Pt (RepS w (okS K w B h) B) vs cs:=⟨by have:=hp.1;simpa using this,fun j u z hu hz=>hp.2 (j+1) u z (by simpa using hu) (by simpa using hz)⟩
    simp only[Zj]at hm
    exact Pt.cons (afz s l (hp.2 0 v c rfl rfl) hm.1) (Z6 s l vs cs ts ht hm.2)
theorem aCZ(s:StB K B Γ h a w){fresh:Bool}{hin hout:Heap}(l:Leaves K B hin h hout){v:Value}{x y:V}(hr:RepV w (okS K w B h) B v x)(hs:aFJ fresh hin h hout x y) :
  RepV w (xq fresh K.w0.heap.size K.ok0 w B hout) B v y:=by
 unfold aFJ at hs
 split at hs
 ·obtain⟨vs,rfl,hp⟩:=hr
  exact⟨vs,rfl,Z6 s l _ _ _ hp hs⟩
 ·have hx:∀xs,x ≠ .tup xs:=fun xs e=>by subst e;cases y<;>simp[avV]at hs
  have hy:∀ys,y ≠ .tup ys:=fun ys e=>by subst e;cases x<;>simp[avV]at hs
  have hr':RepS w (okS K w B h) B v x:=by cases x<;>first | exact hr | exact absurd rfl (hx _)
  have:=afz s l hr' hs
  cases y<;>first | exact this | exact absurd rfl (hy _)
theorem UJ(s:StB K B Γ h a w){rv:ResultVar}{vr:VR}{x:V}(hc:Cx P rv=some vr)(hx:adJ Γ h vr=some x) :
  ∃v,Sem.run P (match rv with | .tmp t => (pure (a.tmps.getD t undef):Sem Value) | .cell p t => (do loadVar t (←asAddr (a.tmps.getD p undef)))) w = .ok v w ∧ RepV w (okS K w B h) B v x := by
 cases rv with
 | tmp t =>
  simp only[Cx,ek]at hc
  subst hc
  simp only[adJ,ek]at hx
  subst hx
  exact⟨_,rfl,s.slots t⟩
 | cell p t =>
  simp only[Cx,Hq,aw,ak]at hc
  obtain⟨⟨d,i⟩,⟨d',hd,i',hi,he⟩,hc⟩:=hc
  cases he
  have key:∀n,n=(if c6 d then i.size else 1)→(∃cs,rd h (Γ p) n=some cs∧x=mkV (c6 d) cs)→∃v,Sem.run P (do loadVar t (←asAddr (a.tmps.getD p undef))) w = .ok v w∧RepV w (okS K w B h) B v x:=by
   rintro n hn ⟨cs,hr,rfl⟩
   obtain⟨b,off,vs,hv,hlen,hl,hp⟩:=afW s (s.slots p) hr
   have hrun:=jK (P:=P) hd hi hl
   cases hg:c6 d with
   | true =>
    simp[hg]at hn
    exact⟨_,by simp only[hv,asAddr,Sem.run_bind,Sem.run_pure,Result.andThen_ok];exact hrun.1 hg (hlen.trans hn),JY hp⟩
   | false =>
    simp[hg]at hn
    match vs,hlen.trans hn with
    | [v],_=>exact⟨v,by simp only[hv,asAddr,Sem.run_bind,Sem.run_pure,Result.andThen_ok];exact hrun.2 hg v rfl,zz hp⟩
  cases hg:c6 d with
  | true =>
   simp only[hg,if_true]at hc
   subst hc
   simp only[adJ,aw]at hx
   obtain⟨cs,hr,rfl⟩:=hx
   exact key i.size (by simp[hg]) ⟨cs,hr,by rw[hg]⟩
  | false =>
   simp only[hg,rk,sk]at hc
   subst hc
   simp only[adJ,aw]at hx
   obtain⟨cs,hr,rfl⟩:=hx
   exact key 1 (by simp[hg]) ⟨cs,hr,by rw[hg]⟩
theorem H9(s:StB K B Γ h a w):∀(rs:List ResultVar) (vrs:List VR) (xs:List V),rs.mapM (Cx P)=some vrs→P3 Γ h vrs=some xs →
  ∃vs,Sem.run P (rs.mapM fun rv => (match rv with | .tmp t => (pure (a.tmps.getD t undef):Sem Value) | .cell p t => (do loadVar t (←asAddr (a.tmps.getD p undef))))) w = .ok vs w ∧ Pt (RepV w (okS K w B h) B) vs xs
 | [],vrs,xs,hm,hx=>by
  simp at hm;subst hm
  simp[P3]at hx;subst hx
  exact⟨[],by simp,Pt.nil⟩
 | r::rs,vrs,xs,hm,hx=>by
  simp only[List.mapM_cons,Option.bind_eq_bind,Option.pure_def]at hm
  cases hr:Cx P r with
  | none=>simp[hr]at hm
  | some vr =>
   cases hrs:rs.mapM (Cx P)with
   | none=>simp[hr,hrs]at hm
   | some vrs' =>
    simp[hr,hrs]at hm
    subst hm
    simp only[P3,ak,aw]at hx
    obtain⟨x,hx1,xs',hx2,rfl⟩:=hx
    obtain⟨v,hv,hrep⟩:=UJ (P:=P) s hr hx1
    obtain⟨vs,hvs,hreps⟩:=H9 s rs vrs' xs' hrs hx2
    refine⟨v::vs,?_,Pt.cons hrep hreps⟩
    rw[List.mapM_cons,Sem.run_bind,hv,Result.andThen_ok,Sem.run_bind,hvs]
    rfl
theorem HZ(s:StB K B Γ h a w){fn:Func}{vrs:List VR}{xs:List V}(hm:fn.results.toList.mapM (Cx P)=some vrs)(hx:P3 Γ h vrs=some xs) :
  ∃v,(results fn a.tmps).run P w = .ok v w∧(xs.all kK=true→RepV w (okS K w B h) B v (QK xs)):=by
 obtain⟨vs,hvs,hp⟩:=H9 (P:=P) s fn.results.toList vrs xs hm hx
 have hrun:(results fn a.tmps).run P w = .ok (if h:vs.toArray.size=1 then vs.toArray[0]else .tuple vs.toArray) w:=by
  unfold results
  rw[←Ck (xs:=fn.results),List.mapM_toArray]
  simp only[Sem.run_bind,Sem.run_map]
  exact(congrArg (fun r:Result (List Value)=>((r.andThen fun a w'=>Result.ok a.toArray w').andThen fun a w'=>Sem.run P (pure (if h:a.size=1 then a[0]else Value.tuple a)) w')) hvs).trans rfl
 refine⟨_,hrun,fun hpl=>?_⟩
 match vs,xs,hp,hpl with
 | [],[],hp,_=>exact⟨#[],by simp,Pt.nil⟩
 | [v],[x],hp,_ =>
  simp only[QK]
  simpa using hp.2 0 v x rfl rfl
 | v::v'::vs,x::x'::xs,hp,hpl =>
  simp only[QK]
  refine⟨(v::v'::vs).toArray,by simp,?_⟩
  show Pt _ (v::v'::vs) _
  refine⟨hp.1,fun j u y hu hy=>?_⟩
  have hr:=hp.2 j u y hu hy
  have hm:=List.all_eq_true.1 hpl _ (nw hy)
  cases y<;>first | exact hr | simp[kK]at hm
 | [],_::_,hp,_=>have:=hp.1;simp at this
 | [_],[],hp,_=>have:=hp.1;simp at this
 | [_],_::_::_,hp,_=>have:=hp.1;simp at this
 | _::_::_,[],hp,_=>have:=hp.1;simp at this
 | _::_::_,[_],hp,_=>have:=hp.1;simp at this
theorem Fun.of_W{f:FuncId}{fn:Func}{c:Code}{n:Nat}{vc:VC}{rs:List VR}{fresh:Bool}{vs:List V}{hin hout:Heap}{r:V}(hf:P.funcs[f]? = some fn)(hb:fn.body=some c)(hn:n=vs.length+(fn.ntmps-vs.length))
  (hc:gV P n c=some vc) (hr:fn.results.toList.mapM (Cx P)=some rs) {pins:List Oid} (hk:∀o∈pins,1000≤o.1) (hb':∀o cs,hin o=some (.box cs)→o∈pins) {I:Option (List Oid)} (hI:∀l,I=some l→∀o ob,hin o=some ob→o∈l∧o∈pins) (hW:W P n I vc (aoj rs fresh hin r hout) (entry vs) hin):Fun P f fresh pins vs hin r hout:=by
 intro w ok B args hlt hbl hp hobjs
 let K:Ctx:={w0:=w,ok0:=ok,par:=fun o b=>∃ob0,hin o=some ob0∧gz (B o)=some b,B0:=B,pin:=fun o=>o∈pins,ntmps:=n}
 have hok:∀b,ok b→okS K w B hin b:=fun b hb=>⟨hlt b hb,fun _=>hb,fun o ob hg he=>hbl b hb ⟨o,ob,hg,he⟩⟩
 have hal:args.length=vs.length:=hp.1
 have s0:StB K B (entry vs) hin {tmps:=args.toArray++Array.replicate (fn.ntmps-args.toArray.size) undef,defers:=[]} w:=by
  refine⟨fun t=>?_,⟨fun o ob hg=>(hobjs.rep o ob hg).mono (fun _ _=>rfl) hok (fun _ _=>rfl) fun _ _=>rfl,hobjs.apart⟩,rfl,?_,Fr.refl _ _,fun o ob b hg hb _=>⟨o,ob,hg,hb⟩,fun o ho=>?_⟩
  ·show RepV w _ B _ (entry vs t)
   unfold entry
   cases hx:vs[t]? with
   | none=>trivial
   | some x =>
    have hlt':t<args.length:=by rw[hal];exact(bw.1 hx).1
    have bY:(args.toArray++Array.replicate (fn.ntmps-args.toArray.size) undef).getD t undef=args[t]:=by
     simp[Array.getD,hlt']
     intro hh;omega
    rw[bY]
    exact(hp.2 t _ x (cw hlt') hx).mono (fun _ _=>rfl) hok fun _ _=>rfl
  ·simp[K,hn,hal]
  ·exact⟨hk o ho,rfl⟩
 refine calls_of_wp hf hb (wp_mono (hW c hc K ⟨rfl,fun l hl o b ⟨ob0,hg,hb⟩=>by obtain⟨h1,h2⟩:=hI l hl o ob0 hg;exact⟨h1,h2,hb⟩⟩ _ w ⟨B,s0⟩) fun e a' w' hl=>?_)
 obtain⟨Γ',h',hq,B',s'⟩:=hl
 have fin:(∃xs,P3 Γ' h' rs=some xs∧xs.all kK=true∧aFJ fresh hin h' hout (QK xs) r∧(∀o ob,hout o=some ob→h' o=some ob))→a'.defers=[]∧∃v,(results fn a'.tmps).run P w' = .ok v w' ∧
   (∃v' B',Ending.returned v = .returned v'∧Fr w w' (n6 B hin)∧RepV w' (xq fresh w.heap.size ok w' B' hout) B' v' r∧Objs w' (mK w.heap.size ok w' B' hout) B' hout ∧
   (∀o ob b,hout o=some ob→gz (B' o)=some b→b<w.heap.size→n6 B hin b) ∧
   (∀o∈pins,B' o=B o)):=by
  rintro⟨xs,hxs,hpl,hret,hout'⟩
  obtain⟨v,hv,hrep⟩:=HZ (P:=P) s' hr hxs
  have l:Leaves K B' hin h' hout:=⟨fun o b ⟨ob0,hg,hb⟩=>⟨ob0,hg,hb⟩,fun o cs hg=>hb' o cs hg,hout'⟩
  refine⟨s'.defers,v,hv,v,B',rfl,?_,aCZ s' l (hrep hpl) hret,⟨fun o ob hg=>?_,fun o o' ob ob' b hg hg'=>s'.objs.apart o o' ob ob' b (l.get hg) (l.get hg')⟩,fun o ob b hg hb hlt'=>let ⟨p,ob0,hp,hpb⟩:=s'.own o ob b (l.get hg) hb hlt';⟨p,ob0,hp,hpb⟩,fun o ho=>(s'.pin o ho).2⟩
  ·refine⟨s'.fr.os,s'.fr.tape,s'.fr.output,s'.fr.size,fun b hb hnb=>s'.fr.block b hb fun⟨o,ob0,hg,he⟩=>hnb ⟨o,ob0,hg,he⟩⟩
  ·exact(s'.objs.rep o ob (l.get hg)).mono (fun _ _=>rfl) (agW s' l) (fun _ _=>rfl) fun _ _=>rfl
 cases e with
 | normal=>exact fin hq
 | ret=>exact fin hq
 | exit _=>exact hq.elim
 | goto _=>exact hq.elim
 | panic _=>exact hq.elim
 | outgrown=>exact hq.elim
end
end Go.VM
