/- The value machine, in parts: what a stretch of code comes to, jV value trees. -/
import Derived.Test.YtloemokbjaoahaaGreatVm2
import Derived.WalkKit
import Derived.MapKept
import Derived.MapFrom
import Derived.Great.BuildSlice
import Derived.LoopN
import Derived.Orders
import Derived.Laws.StructEq
import Derived.ProofKit
import Derived.OpenShut
import Derived.ChangeArms
import Derived.DataReads
import Derived.Carry
import Derived.SizedLaws
import Derived.ChangeCalls
import Derived.ChangeKeysEq
import Derived.KernelRfl
namespace Go.VM
abbrev kI(n:Int):Opd:=.con (.c (.imm (.sc (.int .i64 n))))
abbrev kB(b:Bool):Opd:=.con (.c (.imm (.sc (.bool b))))
instance opdNum (n:Nat):OfNat Opd n:=⟨.tmp n⟩
abbrev cI(x:Int):V:=.c (.imm (tI x))
abbrev cB(x:Bool):V:=.c (.imm (.sc (.bool x)))
abbrev cP(o:Oid)(k:Nat):V:=.c (.ptrO o k)
abbrev cO(o:Oid):V:=.c (.slO o)
abbrev cM(o:Oid):V:=.c (.mapO o)
abbrev cL{α:Type}(k:Nat)(f:α→List T)(xs:List α):V:=.c (.imm (.sl k (List.map f xs)))
abbrev jI(x:Int):C:=.imm (tI x)
abbrev jB(x:Bool):C:=.imm (.sc (.bool x))
abbrev jS(x:ByteArray):C:=.imm (.sc (.string x))
abbrev jL{α:Type}(k:Nat)(f:α→List T)(xs:List α):C:=.imm (.sl k (List.map f xs))
abbrev kvI:Int→Value:=fun n=>.int .i64 n
abbrev vvS:ByteArray→MT:=fun y=>.one (.sc (.string y))
theorem oi{α:Type}{a b:α}(h:some a=some b):b=a:=(Option.some.inj h).symm
abbrev vo(n:Nat)(x:VO):VOp:=⟨some n,x,none⟩
abbrev vm(d:Nat)(x:Opd):VOp:=vo d (.mv x)
abbrev rg(l:List VOp):VC:=.region none l
abbrev vg(n k:Nat)(b:Bool)(x:VO):VOp:=⟨some n,x,some (k,b)⟩
section
variable {P:Program} {n:Nat} {I:Option (List Oid)} {l l':L} {m m':M} {Q:Exit→Env→Heap→Prop} {ops:List VOp} {y:VC}
theorem wA(h:S1 ops l m=some (l',m'))(hk:W P n I y Q (dV l') (aV m'))(hn:n≤1000:=by decide):W P n I (.seq (.region none ops) y) Q (dV l) (aV m):=az (anZ hn (QV h hk))
theorem wB(h:S1 ops l m=some (l',m'))(hk:Q .normal (dV l') (aV m'))(hn:n≤1000:=by decide):W P n I (.region none ops) Q (dV l) (aV m):=anZ hn (QV h hk)
theorem wC(k:Nat)(h:S1 (ops.take k) l m=some (l',m'))(hk:jX (J4 P n I) (ops.drop k) (dV l') (aV m') fun Γ h=>W P n I y Q Γ h)(hn:n≤1000:=by decide):W P n I (.seq (.region none ops) y) Q (dV l) (aV m) :=
 az (anZ hn (aQ SV k h hk))
theorem wD(k:Nat)(h:S1 (ops.take k) l m=some (l',m'))(hk:jX (J4 P n I) (ops.drop k) (dV l') (aV m') fun Γ h=>Q .normal Γ h)(hn:n≤1000:=by decide):W P n I (.region none ops) Q (dV l) (aV m) :=
 anZ hn (aQ SV k h hk)
theorem wE(hq:jX (J4 P n I) ops (dV l) (aV m) fun Γ h=>W P n I y Q Γ h)(hn:n≤1000:=by decide):W P n I (.seq (.region none ops) y) Q (dV l) (aV m):=az (anZ hn hq)
theorem wIf{α:Type}{A B:Option α}{r:α}{c:Opd}{x:VC}{t:Bool}(hF:(bif t then A else B)=some r)(hc:ev (look l) c=bV t)(hx:t=true→A=some r→W P n I x Q (dV l) (aV m))(hy:t=false→B=some r→W P n I y Q (dV l) (aV m)):W P n I (.cond c x y) Q (dV l) (aV m) :=
 aOJ hc (fun h=>hx h (bT h hF)) (fun h=>hy h (bF h hF))
theorem wX{α γ:Type}{A B:Option α}{K:α→Option γ}{r:γ}{c:Opd}{x:VC}{t:Bool}(hF:(bif t then A else B).bind K=some r)(hc:ev (look l) c=bV t)(hx:t=true→A.bind K=some r→W P n I x Q (dV l) (aV m))(hy:t=false→B.bind K=some r→W P n I y Q (dV l) (aV m)):W P n I (.cond c x y) Q (dV l) (aV m) :=
 aOJ hc (fun h=>hx h (bT' h hF)) (fun h=>hy h (bF' h hF))
theorem sw(hl:AgL l l':=by repeat' first | constructor | (simp[look, *];done))(hm:AgM m m':=by repeat' first | constructor | (simp[d6, *];done)):PJ n I l m l' m':=P5 hl hm
theorem wR{rs:List VR}{fresh:Bool}{hin:Heap}{r:V}{xs:List V}(h1:acz (dV l) (aV m) rs=some xs:=by rfl)(h2:xs.all Bq=true:=by rfl)(h3:a3Z fresh hin (aV m) noHeap (apJ xs) r:=by exact⟨rfl,fun _=>rfl⟩):aJK rs fresh hin r noHeap .ret (dV l) (aV m) :=
 ⟨xs,h1,h2,h3,a2J _⟩
theorem rS{dst:Option Nat}{op:VO}{rest:List VOp}{k:Env→Heap→Prop}(h:l6 P dst op (dV l) (aV m) fun Γ h=>jX (J4 P n I) rest Γ h k):jX (J4 P n I) (⟨dst,op,none⟩::rest) (dV l) (aV m) k:=aW SV trivial h
end
section
variable {P:Program}
theorem auq{D d:Nat}{e:TypeId}{i:TypeInfo}{she:List TypeDesc}(hi:P.info? e=some i)(he:eqTy P d e i.size=some she)(hd:d≤D)(xs ys:List Value)(w:World) :
  ∀(m k:Nat) (b:Bool),(k+m)*i.size=xs.length→xs.length=ys.length→fits (List.replicate m she).flatten (xs.drop (k*i.size))=true→eqL (xs.drop (k*i.size)) (ys.drop (k*i.size))=some b →
   (Op.eqItems D e i.size xs.toArray ys.toArray (List.range' k m)).run P w = .ok b w
 | 0,k,b,h1,h2,hf,hq=>by
  have hk0:k*i.size=xs.length:=by simpa using h1
  rw[List.drop_eq_nil_of_le (by omega),List.drop_eq_nil_of_le (by omega)]at hq
  simp[eqL]at hq
  subst hq
  rfl
 | m+1,k,b,h1,h2,hf,hq=>by
  have hla:=eqTy_len _ _ _ _ he
  have hm:(k+1)*i.size=k*i.size+i.size:=by rw[Nat.add_mul,Nat.one_mul]
  have hm2:(k+(m+1))*i.size=(k+1)*i.size+m*i.size:=by rw[←Nat.add_mul];congr 1;omega
  obtain⟨b1,b2,e1,e2,rfl⟩:=aaZ i.size hq
  rw[List.replicate_succ,nw]at hf
  obtain⟨k1,k2⟩:=Vq hf
  rw[hla]at k1 k2
  rw[List.drop_drop,←hm]at k2
  rw[List.drop_drop,List.drop_drop,←hm]at e2
  have r1:=TW hi he xs (k*i.size) (by omega) w
  have r2:=TW hi he ys (k*i.size) (by omega) w
  have r3:=ayZ d D e i.size she hd he _ _ b1 w k1 e1
  rw[List.range'_succ]
  simp only[Op.eqItems,Sem.run_bind,r1,r2,r3,Result.andThen_ok]
  cases b1 with
  | false=>simp
  | true=>simpa using auq hi he hd xs ys w m (k+1) b2 (by rw[←h1];congr 1;omega) h2 k2 e2
theorem eqOk_arr{t e:TypeId}{m n:Nat}{she sh:List TypeDesc}(hu:P.underlying t=some (.array m e))(hg:P.eqGuardType P.depth t=false)(hs:(P.info? e).map (·.size)=some n)(h:eqTy P 100 e n=some she)(hsh:(List.replicate m she).flatten=sh):afK P t sh:=by
 subst hsh
 obtain⟨i,hi,rfl⟩:=aw.1 hs
 refine⟨hg,fun cs ds b w he hf=>?_⟩
 have hc:P.cellsOf e=i.size:=by simp[Program.cellsOf,hi]
 have hl:m*i.size=cs.length:=by
  rw[←fits_len hf,List.length_flatten,List.map_replicate,List.sum_replicate_nat,eqTy_len _ _ _ _ h]
 show(Op.equalIn (9999+1) t (.agg cs.toArray) (.agg ds.toArray)).run P w=_
 rw[Go.run_equalIn_array w 9999 cs.toArray ds.toArray hu hi,hc,List.range_eq_range']
 exact auq hi h (by omega) cs ds w m 0 b (by simpa using hl) (axX he) (by simpa using hf) (by simpa using he)
end
end Go.VM
namespace Go.VM
def Bx:Code→List (List Nat)
 | .region _ ops true=>[LZ ops]
 | .seq a b=>Bx a++Bx b
 | .cond _ a b=>Bx a++Bx b
 | .block _ c=>Bx c
 | .loop c=>Bx c
 | _=>[]
@[irreducible] def bfT{fn:Func}(k:Nat):List Nat:=((fn.body.map Bx).getD []).getD k []
def cU(P:Program){fn:Func}(n:Nat):Code→Nat→Option (VC×Nat)
 | .region _ ops draw,k=>some (match ops.toList.mapM (tY P n ops)with
  | some vl=>.region (bif draw then some (bfT (fn:=fn) k)else none) vl
  | none=>.bad,bif draw then k+1 else k)
 | .seq a b,k=>(cU P (fn:=fn) n a k).bind fun x=>(cU P (fn:=fn) n b x.2).map fun y=>(.seq x.1 y.1,y.2)
 | .cond c a b,k=>(d5 c).bind fun c=>(cU P (fn:=fn) n a k).bind fun x=>(cU P (fn:=fn) n b x.2).map fun y=>(.cond c x.1 y.1,y.2)
 | .block id c,k=>(cU P (fn:=fn) n c k).map fun x=>(.block id x.1,x.2)
 | .loop c,k=>(cU P (fn:=fn) n c k).map fun x=>(.loop x.1,x.2)
 | .exit id,k=>some (.exit id,k)
 | .ret,k=>some (.ret,k)
 | .skip,k=>some (.skip,k)
 | _,k=>some (.bad,k)
def okU(P:Program)(n:Nat):Code→Bool
 | .region _ ops true=>match ops.toList.mapM (tY P n ops)with
  | some vl=>W9 ops vl&&P.follows .mixedOrders
  | none=>true
 | .seq a b=>okU P n a&&okU P n b
 | .cond _ a b=>okU P n a&&okU P n b
 | .block _ c=>okU P n c
 | .loop c=>okU P n c
 | _=>true
theorem a3V{P:Program}{fn:Func}{n:Nat}{T:List (List Nat)}(hT:∀k,bfT (fn:=fn) k=T.getD k []):∀(c:Code) (k:Nat) {vc:VC} {k':Nat} {pre post:List (List Nat)},T=pre++(Bx c++post)→pre.length=k→okU P n c=true→cU P (fn:=fn) n c k=some (vc,k') →
  mJ P n c=some vc∧k'=k+(Bx c).length:=by
 intro c
 induction c with
 | region p ops draw =>
  intro k vc k' pre post hTe hk ho h
  cases draw with
  | false =>
   simp only[cU,cond_false,bw,Prod.mk.injEq]at h
   obtain⟨h1,rfl⟩:=h
   refine⟨?_,by simp[Bx]⟩
   rw[←h1]
   simp only[mJ,Kx]
   cases ops.toList.mapM (tY P n ops)<;>simp
  | true =>
   simp only[cU,cond_true,bw,Prod.mk.injEq]at h
   obtain⟨h1,rfl⟩:=h
   refine⟨?_,by simp[Bx]⟩
   rw[←h1]
   have hb:bfT (fn:=fn) k=LZ ops:=by
    rw[hT,hTe,←hk];simp[Bx]
   simp only[okU]at ho
   simp only[mJ,Kx]
   cases hv:ops.toList.mapM (tY P n ops)with
   | none=>simp
   | some vl =>
    simp only[hv,cw]at ho
    simp[hb,ho.1,ho.2]
 | seq a b iha ihb =>
  intro k vc k' pre post hTe hk ho h
  simp only[okU,cw]at ho
  simp only[cU,ak,aw,Prod.mk.injEq]at h
  obtain⟨⟨va,ka⟩,ha,⟨vb,kb⟩,hb,rfl,rfl⟩:=h
  simp only[Bx]at hTe ⊢
  obtain⟨a1,a2⟩:=iha k (pre:=pre) (post:=Bx b++post) (by rw[hTe];simp) hk ho.1 ha
  obtain⟨b1,b2⟩:=ihb ka (pre:=pre++Bx a) (post:=post) (by rw[hTe];simp) (by simp[a2,hk]) ho.2 hb
  exact⟨by simp[mJ,a1,b1],by simp at b2 ⊢;omega⟩
 | cond o a b iha ihb =>
  intro k vc k' pre post hTe hk ho h
  simp only[okU,cw]at ho
  simp only[cU,ak,aw,Prod.mk.injEq]at h
  obtain⟨o',hoo,⟨va,ka⟩,ha,⟨vb,kb⟩,hb,rfl,rfl⟩:=h
  simp only[Bx]at hTe ⊢
  obtain⟨a1,a2⟩:=iha k (pre:=pre) (post:=Bx b++post) (by rw[hTe];simp) hk ho.1 ha
  obtain⟨b1,b2⟩:=ihb ka (pre:=pre++Bx a) (post:=post) (by rw[hTe];simp) (by simp[a2,hk]) ho.2 hb
  exact⟨by simp[mJ,hoo,a1,b1],by simp at b2 ⊢;omega⟩
 | block id c ih =>
  intro k vc k' pre post hTe hk ho h
  simp only[cU,aw,Prod.mk.injEq]at h
  obtain⟨⟨va,ka⟩,ha,rfl,rfl⟩:=h
  obtain⟨a1,a2⟩:=ih k hTe hk ho ha
  exact⟨by simp[mJ,a1],a2⟩
 | loop c ih =>
  intro k vc k' pre post hTe hk ho h
  simp only[cU,aw,Prod.mk.injEq]at h
  obtain⟨⟨va,ka⟩,ha,rfl,rfl⟩:=h
  obtain⟨a1,a2⟩:=ih k hTe hk ho ha
  exact⟨by simp[mJ,a1],a2⟩
 | _ =>
  intro k vc k' pre post hTe hk ho h
  simp only[cU,bw,Prod.mk.injEq]at h
  obtain⟨rfl,rfl⟩:=h
  exact⟨by simp[mJ],by simp[Bx]⟩
def okF(P:Program)(fn:Func)(n:Nat):Bool:=match fn.body with
 | some c=>okU P n c
 | none=>false
theorem aOQ{P:Program}{fn:Func}{n:Nat}{vc:VC}{k:Nat}(ho:okF P fn n=true)(h:(fn.body.bind fun c=>cU P (fn:=fn) n c 0)=some (vc,k)):(fn.body.bind fun c=>mJ P n c)=some vc:=by
 cases hb:fn.body with
 | none=>simp[okF,hb]at ho
 | some c =>
  simp only[okF,hb]at ho
  simp only[hb,Option.bind_some]at h ⊢
  exact(a3V (T:=Bx c) (fun k=>by unfold bfT;simp[hb]) c 0 (pre:=[]) (post:=[]) (by simp) rfl ho h).1
theorem fW{P:Program}{f:FuncId}{fn:Func}{n k:Nat}{vc:VC}{rs:List VR}{fresh:Bool}{vs:List V}{r:V}(hf:P.funcs[f]? = some fn)(hW:W P n (some []) vc (aJK rs fresh noHeap r noHeap) (dV (N1 0 vs)) (aV []))
  (hn:n=vs.length+(fn.ntmps-vs.length):=by conv=>rhs;reduce) (ho:okF P fn n=true:=by kernel_rfl) (hc:(fn.body.bind fun c=>cU P (fn:=fn) n c 0)=some (vc,k):=by(refine Eq.trans (b:=?b) ?h1 ?h2;rotate_left;(conv=>lhs;reduce);(try dsimp only[Int.reduceOfNat,Int.reduceNegSucc]);all_goals rfl)) (hr:fn.results.toList.mapM (L3 P)=some rs:=by conv=>lhs;reduce):Fun P f fresh [] vs noHeap r noHeap :=
 Fun.of_walk0 hf (aOQ ho hc) hn hr hW
theorem fM{P:Program}{f:FuncId}{fn:Func}{n k:Nat}{vc:VC}{rs:List VR}{fresh:Bool}{vs:List V}{m:M}{hout:Heap}{r:V}(pins:List Oid)(I:Option (List Oid))(hf:P.funcs[f]? = some fn)(hW:W P n I vc (bhz n I (aJK rs fresh (aV m) r hout)) (dV (N1 0 vs)) (aV m))
  (hn:n=vs.length+(fn.ntmps-vs.length):=by conv=>rhs;reduce) (ho:okF P fn n=true:=by kernel_rfl) (hc:(fn.body.bind fun c=>cU P (fn:=fn) n c 0)=some (vc,k):=by(refine Eq.trans (b:=?b) ?h1 ?h2;rotate_left;(conv=>lhs;reduce);(try dsimp only[Int.reduceOfNat,Int.reduceNegSucc]);all_goals rfl)) (hr:fn.results.toList.mapM (L3 P)=some rs:=by conv=>lhs;reduce)
  (hk:aGZ pins=true:=by rfl) (hb:abJ pins m=true:=by rfl) (hI:biJ pins m I=true:=by rfl):Fun P f fresh pins vs (aV m) r hout :=
 Fun.of_walkM pins I hf (aOQ ho hc) hn hr hk hb hI hW
theorem adX:∀ {l:List (Oid×Oid)} {o:Oid},o∉I4 l→eQ l o=o
 | [],_,_=>rfl
 | p::r,o,h=>by
  simp only[I4,iw,not_or]at h
  simp only[eQ]
  cases h1:o5 o p.1 with
  | true=>exact absurd (F0.1 h1) h.1
  | false =>
   cases h2:o5 o p.2 with
   | true=>exact absurd (F0.1 h2) h.2.1
   | false=>exact adX h.2.2
theorem aJW{n:Nat}{I:Option (List Oid)}{l l':L}{m m':M}(σl:List (Oid×Oid))(hσ:(ahZ σl&&(I4 σl).all fun o=>Nat.blt o.1 1000)=true)(h:PJ n I (aJj (eQ σl) l) (Ez (eQ σl) m) l' m'):PJ n I l m l' m':=by
 rw[cw]at hσ
 refine Sim.trans (Γ':=dV (aJj (eQ σl) l)) (h':=aV (Ez (eQ σl) m)) ?_ h
 rw[←ayX,←Nx (eQ σl) (Lj σl hσ.1) (G9 σl hσ.1)]
 refine Sim.ren (eQ σl) (Lj σl hσ.1) fun o ho=>adX fun hm=>?_
 have:=lw.1 hσ.2 o hm
 rw[Nat.blt_eq]at this
 omega
end Go.VM
namespace Go.VM
section
variable {P:Program} {K:Ctx}
end
section
variable {P:Program} {K:Ctx} {n:Nat} {I:Option (List Oid)} {Q:Exit→Env→Heap→Prop}
end
section
variable {P:Program} {K:Ctx}
end
section
variable {P:Program} {n:Nat} {I:Option (List Oid)} {Q:Exit→Env→Heap→Prop} {Γ:Env} {h:Heap}
end
section
variable {P:Program} {n:Nat} {I:Option (List Oid)} {Q:Exit→Env→Heap→Prop} {l:L} {m:M}
end
end Go.VM
namespace Go.VM
section
variable {κ ν:Type}
variable {N:Nat} {kd:TypeDesc} {kv:κ→Value} {bx:Nat→ν→List C} {ars:Nat→ν→Option Ob} {es:List (κ×ν)}
end
end Go.VM
namespace Go.VM
section
variable {P:Program} {n:Nat} {I:Option (List Oid)} {l:L} {m:M} {kk:Env→Heap→Prop} {dst:Option Nat} {op:VO}
variable {κ ν:Type} [DecidableEq κ] {N:Nat} {kd:TypeDesc} {kv:κ→Value} {bx:Nat→ν→List C} {ars:Nat→ν→Option Ob} {es:List (κ×ν)}
end
end Go.VM
namespace Go.VM
def AsOk(m:M)(f:Nat→Option Ob):Nat→List Oid→Prop
 | j,[]=>∀k,j≤k→f k=none
 | j,a::r=>((f j).isSome=true∧d6 m a=f j)∧AsOk m f (j+1) r
theorem AsOk.get{m:M}{f:Nat→Option Ob}:∀ {as:List Oid} {j:Nat},AsOk m f j as→∀k ob,f (j+k)=some ob→∃a,as[k]? = some a∧d6 m a=some ob
 | [],j,h,k,ob,e=>by rw[h (j+k) (by omega)]at e;simp at e
 | a::r,j,h,0,ob,e=>⟨a,rfl,by rw[h.1.2];exact e⟩
 | a::r,j,h,k+1,ob,e=>by
  obtain⟨b,h1,h2⟩:=AsOk.get h.2 k ob (by rw[←e];congr 1;omega)
  exact⟨b,by simpa using h1,h2⟩
theorem AsOk.len{m:M}{f:Nat→Option Ob}:∀ {as:List Oid} {j:Nat},AsOk m f j as→∀k,k<as.length→(f (j+k)).isSome=true
 | [],j,h,k,e=>by simp at e
 | a::r,j,h,0,e=>h.1.1
 | a::r,j,h,k+1,e=>by
  have:=AsOk.len h.2 k (by simpa using e)
  rw[show j+(k+1)=j+1+k by omega];exact this
section
variable {P:Program} {n:Nat} {I:Option (List Oid)} {l:L} {m:M} {kk:Env→Heap→Prop} {dst:Option Nat} {op:VO}
variable {κ ν:Type} [DecidableEq κ] {N:Nat} {kd:TypeDesc} {kv:κ→Value} {bx:Nat→ν→List C} {ars:Nat→ν→Option Ob} {es:List (κ×ν)}
def ObsOk(f:Nat→Option Ob):Nat→List Ob→Prop
 | j,[]=>∀k,j≤k→f k=none
 | j,ob::r=>f j=some ob∧ObsOk f (j+1) r
theorem ObsOk.get{f:Nat→Option Ob}:∀ {obs:List Ob} {j:Nat},ObsOk f j obs→∀k,f (j+k)=obs[k]?
 | [],j,h,k=>by rw[h (j+k) (by omega)];rfl
 | ob::r,j,h,0=>h.1
 | ob::r,j,h,k+1=>by
  have:=ObsOk.get h.2 k
  rw[show j+(k+1)=j+1+k by omega,this];simp
end
end Go.VM
namespace Go.VM
section
variable {κ ν:Type} [DecidableEq κ] {N:Nat} {kd:TypeDesc} {kv:κ→Value} {bx:Nat→ν→List C} {ars:Nat→ν→Option Ob} {es:List (κ×ν)} {m:M}
end
section
variable {P:Program} {n:Nat} {I:Option (List Oid)} {l l':L} {m m':M} {kk:Env→Heap→Prop} {dst:Option Nat} {op:VO}
end
end Go.VM
