/- The value machine, in parts: what a stretch of code comes to, jY value trees. -/
import Derived.Test.YtloemokbjaoahaaGreatVm2
import Derived.WalkKit
import Derived.MapKept
import Derived.MapFrom
import Derived.Great.BuildSlice
import Derived.LoopN
import Derived.Orders
import Derived.Laws.StructEq
import Derived.ProofKit
import Derived.OpenShut
import Derived.ChangeArms
import Derived.DataReads
import Derived.Carry
import Derived.SizedLaws
import Derived.ChangeCalls
import Derived.ChangeKeysEq
import Derived.KernelRfl
namespace Go.VM
abbrev kI(n:Int):Opd:=.con (.c (.imm (.sc (.int .i64 n))))
abbrev kB(b:Bool):Opd:=.con (.c (.imm (.sc (.bool b))))
instance opdNum (n:Nat):OfNat Opd n:=⟨.tmp n⟩
abbrev cI(x:Int):V:=.c (.imm (tI x))
abbrev cB(x:Bool):V:=.c (.imm (.sc (.bool x)))
abbrev cP(o:Oid)(k:Nat):V:=.c (.ptrO o k)
abbrev cO(o:Oid):V:=.c (.slO o)
abbrev cM(o:Oid):V:=.c (.mapO o)
abbrev cL{α:Type}(k:Nat)(f:α→List T)(xs:List α):V:=.c (.imm (.sl k (List.map f xs)))
abbrev jI(x:Int):C:=.imm (tI x)
abbrev jB(x:Bool):C:=.imm (.sc (.bool x))
abbrev jS(x:ByteArray):C:=.imm (.sc (.string x))
abbrev jL{α:Type}(k:Nat)(f:α→List T)(xs:List α):C:=.imm (.sl k (List.map f xs))
abbrev kvI:Int→Value:=fun n=>.int .i64 n
abbrev vvS:ByteArray→MT:=fun y=>.one (.sc (.string y))
theorem oi{α:Type}{a b:α}(h:some a=some b):b=a:=(Option.some.inj h).symm
abbrev vo(n:Nat)(x:VO):VOp:=⟨some n,x,none⟩
abbrev vm(d:Nat)(x:Opd):VOp:=vo d (.mv x)
abbrev rg(l:List VOp):VC:=.region none l
abbrev vg(n k:Nat)(b:Bool)(x:VO):VOp:=⟨some n,x,some (k,b)⟩
section
variable {P:Program} {n:Nat} {I:Option (List Oid)} {l l':L} {m m':M} {Q:Exit→Env→Heap→Prop} {ops:List VOp} {y:VC}
theorem wA(h:QZ ops l m=some (l',m'))(hk:W P n I y Q (dV l') (aV m'))(hn:n≤1000:=by decide):W P n I (.seq (.region none ops) y) Q (dV l) (aV m):=az (afW hn (QV h hk))
theorem wB(h:QZ ops l m=some (l',m'))(hk:Q .normal (dV l') (aV m'))(hn:n≤1000:=by decide):W P n I (.region none ops) Q (dV l) (aV m):=afW hn (QV h hk)
theorem wC(k:Nat)(h:QZ (ops.take k) l m=some (l',m'))(hk:jQ (H5 P n I) (ops.drop k) (dV l') (aV m') fun Γ h=>W P n I y Q Γ h)(hn:n≤1000:=by decide):W P n I (.seq (.region none ops) y) Q (dV l) (aV m) :=
 az (afW hn (aQ SV k h hk))
theorem wD(k:Nat)(h:QZ (ops.take k) l m=some (l',m'))(hk:jQ (H5 P n I) (ops.drop k) (dV l') (aV m') fun Γ h=>Q .normal Γ h)(hn:n≤1000:=by decide):W P n I (.region none ops) Q (dV l) (aV m) :=
 afW hn (aQ SV k h hk)
theorem wE(hq:jQ (H5 P n I) ops (dV l) (aV m) fun Γ h=>W P n I y Q Γ h)(hn:n≤1000:=by decide):W P n I (.seq (.region none ops) y) Q (dV l) (aV m):=az (afW hn hq)
theorem wIf{α:Type}{A B:Option α}{r:α}{c:Opd}{x:VC}{t:Bool}(hF:(bif t then A else B)=some r)(hc:ev (look l) c=bV t)(hx:t=true→A=some r→W P n I x Q (dV l) (aV m))(hy:t=false→B=some r→W P n I y Q (dV l) (aV m)):W P n I (.cond c x y) Q (dV l) (aV m) :=
 aJQ hc (fun h=>hx h (bT h hF)) (fun h=>hy h (bF h hF))
theorem u9{α γ:Type}{A B:Option α}{K:α→Option γ}{r:γ}{c:Opd}{x:VC}{t:Bool}(hF:(bif t then A else B).bind K=some r)(hc:ev (look l) c=bV t)(hx:t=true→A.bind K=some r→W P n I x Q (dV l) (aV m))(hy:t=false→B.bind K=some r→W P n I y Q (dV l) (aV m)):W P n I (.cond c x y) Q (dV l) (aV m) :=
 aJQ hc (fun h=>hx h (bT' h hF)) (fun h=>hy h (bF' h hF))
theorem sw(hl:AgL l l':=by repeat' first | constructor | (simp[look, *];done))(hm:AgM m m':=by repeat' first | constructor | (simp[d6, *];done)):M7 n I l m l' m':=O5 hl hm
theorem wR{rs:List VR}{fresh:Bool}{hin:Heap}{r:V}{xs:List V}(h1:Z0 (dV l) (aV m) rs=some xs:=by rfl)(h2:xs.all zX=true:=by rfl)(h3:aWV fresh hin (aV m) noHeap (aiK xs) r:=by exact⟨rfl,fun _=>rfl⟩):aFz rs fresh hin r noHeap .ret (dV l) (aV m) :=
 ⟨xs,h1,h2,h3,aUW _⟩
theorem rS{dst:Option Nat}{op:VO}{rest:List VOp}{k:Env→Heap→Prop}(h:lJ P dst op (dV l) (aV m) fun Γ h=>jQ (H5 P n I) rest Γ h k):jQ (H5 P n I) (⟨dst,op,none⟩::rest) (dV l) (aV m) k:=aW SV trivial h
end
section
variable {P:Program}
theorem apJ{D d:Nat}{e:TypeId}{i:TypeInfo}{she:List TypeDesc}(hi:P.info? e=some i)(he:eqTy P d e i.size=some she)(hd:d≤D)(xs ys:List Value)(w:World) :
  ∀(m k:Nat) (b:Bool),(k+m)*i.size=xs.length→xs.length=ys.length→fits (List.replicate m she).flatten (xs.drop (k*i.size))=true→eqL (xs.drop (k*i.size)) (ys.drop (k*i.size))=some b →
   (Op.eqItems D e i.size xs.toArray ys.toArray (List.range' k m)).run P w = .ok b w
 | 0,k,b,h1,h2,hf,hq=>by
  have hk0:k*i.size=xs.length:=by simpa using h1
  rw[List.drop_eq_nil_of_le (by omega),List.drop_eq_nil_of_le (by omega)]at hq
  simp[eqL]at hq
  subst hq
  rfl
 | m+1,k,b,h1,h2,hf,hq=>by
  have hla:=eqTy_len _ _ _ _ he
  have hm:(k+1)*i.size=k*i.size+i.size:=by rw[Nat.add_mul,Nat.one_mul]
  have hm2:(k+(m+1))*i.size=(k+1)*i.size+m*i.size:=by rw[←Nat.add_mul];congr 1;omega
  obtain⟨b1,b2,e1,e2,rfl⟩:=X6 i.size hq
  rw[List.replicate_succ,nw]at hf
  obtain⟨k1,k2⟩:=UZ hf
  rw[hla]at k1 k2
  rw[List.drop_drop,←hm]at k2
  rw[List.drop_drop,List.drop_drop,←hm]at e2
  have r1:=Rq hi he xs (k*i.size) (by omega) w
  have r2:=Rq hi he ys (k*i.size) (by omega) w
  have r3:=arX d D e i.size she hd he _ _ b1 w k1 e1
  rw[List.range'_succ]
  simp only[Op.eqItems,Sem.run_bind,r1,r2,r3,Result.andThen_ok]
  cases b1 with
  | false=>simp
  | true=>simpa using apJ hi he hd xs ys w m (k+1) b2 (by rw[←h1];congr 1;omega) h2 k2 e2
theorem eqOk_arr{t e:TypeId}{m n:Nat}{she sh:List TypeDesc}(hu:P.underlying t=some (.array m e))(hg:P.eqGuardType P.depth t=false)(hs:(P.info? e).map (·.size)=some n)(h:eqTy P 100 e n=some she)(hsh:(List.replicate m she).flatten=sh):aax P t sh:=by
 subst hsh
 obtain⟨i,hi,rfl⟩:=aw.1 hs
 refine⟨hg,fun cs ds b w he hf=>?_⟩
 have hc:P.cellsOf e=i.size:=by simp[Program.cellsOf,hi]
 have hl:m*i.size=cs.length:=by
  rw[←fits_len hf,List.length_flatten,List.map_replicate,List.sum_replicate_nat,eqTy_len _ _ _ _ h]
 show(Op.equalIn (9999+1) t (.agg cs.toArray) (.agg ds.toArray)).run P w=_
 rw[Go.run_equalIn_array w 9999 cs.toArray ds.toArray hu hi,hc,List.range_eq_range']
 exact apJ hi h (by omega) cs ds w m 0 b (by simpa using hl) (atz he) (by simpa using hf) (by simpa using he)
end
end Go.VM
namespace Go.VM
theorem fW{P:Program}{f:FuncId}{fn:Func}{n:Nat}{vc:VC}{rs:List VR}{fresh:Bool}{vs:List V}{r:V}(hf:P.funcs[f]? = some fn)(hW:W P n (some []) vc (aFz rs fresh noHeap r noHeap) (dV (L7 0 vs)) (aV []))
  (hn:n=vs.length+(fn.ntmps-vs.length):=by conv=>rhs;reduce) (hc:(fn.body.bind fun c=>o7 P n c)=some vc:=by(refine Eq.trans (b:=?b) ?h1 ?h2;rotate_left;(conv=>lhs;reduce);(try dsimp only[Int.reduceOfNat,Int.reduceNegSucc]);all_goals rfl)) (hr:fn.results.toList.mapM (J1 P)=some rs:=by conv=>lhs;reduce):Fun P f fresh [] vs noHeap r noHeap :=
 Fun.of_walk0 hf hc hn hr hW
theorem fM{P:Program}{f:FuncId}{fn:Func}{n:Nat}{vc:VC}{rs:List VR}{fresh:Bool}{vs:List V}{m:M}{hout:Heap}{r:V}(pins:List Oid)(I:Option (List Oid))(hf:P.funcs[f]? = some fn)(hW:W P n I vc (a5Y n I (aFz rs fresh (aV m) r hout)) (dV (L7 0 vs)) (aV m))
  (hn:n=vs.length+(fn.ntmps-vs.length):=by conv=>rhs;reduce) (hc:(fn.body.bind fun c=>o7 P n c)=some vc:=by(refine Eq.trans (b:=?b) ?h1 ?h2;rotate_left;(conv=>lhs;reduce);(try dsimp only[Int.reduceOfNat,Int.reduceNegSucc]);all_goals rfl)) (hr:fn.results.toList.mapM (J1 P)=some rs:=by conv=>lhs;reduce)
  (hk:avY pins=true:=by rfl) (hb:Zq pins m=true:=by rfl) (hI:bbx pins m I=true:=by rfl):Fun P f fresh pins vs (aV m) r hout :=
 Fun.of_walkM pins I hf hc hn hr hk hb hI hW
theorem ZY:∀ {l:List (Oid×Oid)} {o:Oid},o∉G6 l→eQ l o=o
 | [],_,_=>rfl
 | p::r,o,h=>by
  simp only[G6,iw,not_or]at h
  simp only[eQ]
  cases h1:oX o p.1 with
  | true=>exact absurd (D4.1 h1) h.1
  | false =>
   cases h2:oX o p.2 with
   | true=>exact absurd (D4.1 h2) h.2.1
   | false=>exact ZY h.2.2
theorem aCW{n:Nat}{I:Option (List Oid)}{l l':L}{m m':M}(σl:List (Oid×Oid))(hσ:(acZ σl&&(G6 σl).all fun o=>Nat.blt o.1 1000)=true)(h:M7 n I (aDJ (eQ σl) l) (Cz (eQ σl) m) l' m'):M7 n I l m l' m':=by
 rw[dk]at hσ
 refine Sim.trans (Γ':=dV (aDJ (eQ σl) l)) (h':=aV (Cz (eQ σl) m)) ?_ h
 rw[←arK,←K4 (eQ σl) (J8 σl hσ.1) (E5 σl hσ.1)]
 refine Sim.ren (eQ σl) (J8 σl hσ.1) fun o ho=>ZY fun hm=>?_
 have:=lw.1 hσ.2 o hm
 rw[Nat.blt_eq]at this
 omega
end Go.VM
namespace Go.VM
section
variable {P:Program} {K:Ctx}
end
section
variable {P:Program} {K:Ctx} {n:Nat} {I:Option (List Oid)} {Q:Exit→Env→Heap→Prop}
end
section
variable {P:Program} {K:Ctx}
end
section
variable {P:Program} {n:Nat} {I:Option (List Oid)} {Q:Exit→Env→Heap→Prop} {Γ:Env} {h:Heap}
end
section
variable {P:Program} {n:Nat} {I:Option (List Oid)} {Q:Exit→Env→Heap→Prop} {l:L} {m:M}
end
end Go.VM
namespace Go.VM
section
variable {κ ν:Type}
variable {N:Nat} {kd:TypeDesc} {kv:κ→Value} {bx:Nat→ν→List C} {ars:Nat→ν→Option Ob} {es:List (κ×ν)}
end
end Go.VM
namespace Go.VM
section
variable {P:Program} {n:Nat} {I:Option (List Oid)} {l:L} {m:M} {kk:Env→Heap→Prop} {dst:Option Nat} {op:VO}
variable {κ ν:Type} [DecidableEq κ] {N:Nat} {kd:TypeDesc} {kv:κ→Value} {bx:Nat→ν→List C} {ars:Nat→ν→Option Ob} {es:List (κ×ν)}
end
end Go.VM
namespace Go.VM
def AsOk(m:M)(f:Nat→Option Ob):Nat→List Oid→Prop
 | j,[]=>∀k,j≤k→f k=none
 | j,a::r=>((f j).isSome=true∧d6 m a=f j)∧AsOk m f (j+1) r
theorem AsOk.get{m:M}{f:Nat→Option Ob}:∀ {as:List Oid} {j:Nat},AsOk m f j as→∀k ob,f (j+k)=some ob→∃a,as[k]? = some a∧d6 m a=some ob
 | [],j,h,k,ob,e=>by rw[h (j+k) (by omega)]at e;simp at e
 | a::r,j,h,0,ob,e=>⟨a,rfl,by rw[h.1.2];exact e⟩
 | a::r,j,h,k+1,ob,e=>by
  obtain⟨b,h1,h2⟩:=AsOk.get h.2 k ob (by rw[←e];congr 1;omega)
  exact⟨b,by simpa using h1,h2⟩
theorem AsOk.len{m:M}{f:Nat→Option Ob}:∀ {as:List Oid} {j:Nat},AsOk m f j as→∀k,k<as.length→(f (j+k)).isSome=true
 | [],j,h,k,e=>by simp at e
 | a::r,j,h,0,e=>h.1.1
 | a::r,j,h,k+1,e=>by
  have:=AsOk.len h.2 k (by simpa using e)
  rw[show j+(k+1)=j+1+k by omega];exact this
section
variable {P:Program} {n:Nat} {I:Option (List Oid)} {l:L} {m:M} {kk:Env→Heap→Prop} {dst:Option Nat} {op:VO}
variable {κ ν:Type} [DecidableEq κ] {N:Nat} {kd:TypeDesc} {kv:κ→Value} {bx:Nat→ν→List C} {ars:Nat→ν→Option Ob} {es:List (κ×ν)}
def ObsOk(f:Nat→Option Ob):Nat→List Ob→Prop
 | j,[]=>∀k,j≤k→f k=none
 | j,ob::r=>f j=some ob∧ObsOk f (j+1) r
theorem ObsOk.get{f:Nat→Option Ob}:∀ {obs:List Ob} {j:Nat},ObsOk f j obs→∀k,f (j+k)=obs[k]?
 | [],j,h,k=>by rw[h (j+k) (by omega)];rfl
 | ob::r,j,h,0=>h.1
 | ob::r,j,h,k+1=>by
  have:=ObsOk.get h.2 k
  rw[show j+(k+1)=j+1+k by omega,this];simp
end
end Go.VM
namespace Go.VM
section
variable {κ ν:Type} [DecidableEq κ] {N:Nat} {kd:TypeDesc} {kv:κ→Value} {bx:Nat→ν→List C} {ars:Nat→ν→Option Ob} {es:List (κ×ν)} {m:M}
end
section
variable {P:Program} {n:Nat} {I:Option (List Oid)} {l l':L} {m m':M} {kk:Env→Heap→Prop} {dst:Option Nat} {op:VO}
end
end Go.VM
