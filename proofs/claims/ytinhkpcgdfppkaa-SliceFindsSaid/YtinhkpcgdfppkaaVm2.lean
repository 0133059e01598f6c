/- The value machine, in parts: what a stretch of code comes to, eK value trees. -/
import Derived.Test.YtinhkpcgdfppkaaVm1
import Derived.WalkKit
import Derived.MapKept
import Derived.MapFrom
import Derived.Great.BuildSlice
import Derived.LoopN
import Derived.Orders
import Derived.Laws.StructEq
import Derived.ProofKit
import Derived.OpenShut
import Derived.ChangeArms
import Derived.DataReads
import Derived.Carry
import Derived.SizedLaws
import Derived.ChangeCalls
import Derived.ChangeKeysEq
import Derived.KernelRfl
namespace Go.VM
theorem IX{e e':Opd→V}:∀(ps:List (Nat×Nat×Opd)) (cur:List C),(∀p∈ps,e p.2.2=e' p.2.2)→xx e cur ps=xx e' cur ps
  | [],cur,_=>rfl
  | (off,sz,x)::r,cur,hp=>by
    simp only[xx]
    rw[←hp (off,sz,x) (by simp)]
    cases c5 (e x)with
    | none=>rfl
    | some cs =>
      simp only
      split
      ·exact IX r _ fun p hm=>hp p (by simp[hm])
      ·rfl
theorem Az{e e':Opd→V}{xs:List Opd}(hp:∀x∈xs,e x=e' x):xs.map e=xs.map e':=List.map_congr_left hp
theorem aGV{P:Program}{h:Heap}{e e':Opd→V}{op:VO}(hp:∀x∈op.opds,e x=e' x){r:V}(hq:qP P h e op r):qP P h e' op r:=by
  cases op<;>simp only[VO.opds,List.mem_cons,ow,Option.mem_toList,List.not_mem_nil,or_false,yw]at hp<;>simp only[qP]at hq ⊢
  case build z ps=>obtain⟨cs,h1,h2⟩:=hq;exact⟨cs,by rw[←IX (e:=e) ps z fun p hm=>hp _ ⟨p,hm,rfl⟩];exact h1,h2⟩
  case ext x i=>rw[←hp x rfl];exact hq
  case mm mx args=>rw[←Az (e:=e) hp];exact hq
  case mkfn f caps=>rw[←Az (e:=e) hp];exact hq
  case un op x=>cases op<;>simp only at hq ⊢<;>first | (rw[←hp x rfl];exact hq) | exact hq
  case sub k x lo hi =>
    obtain⟨rows,l,n,h1,b1,b2,h2⟩:=hq
    refine⟨rows,l,n,by rw[←hp x (.inl rfl)];exact h1,?_,?_,h2⟩
    ·cases lo with
     | none=>exact b1
     | some y=>simp only[zW]at b1 ⊢;rw[←hp y (by simp)];exact b1
    ·cases hi with
     | none=>exact b2
     | some y=>simp only[zW]at b2 ⊢;rw[←hp y (by simp)];exact b2
  case subS x lo hi =>
    obtain⟨str,l,n,h1,b1,b2,h2⟩:=hq
    refine⟨str,l,n,by rw[←hp x (.inl rfl)];exact h1,?_,?_,h2⟩
    ·cases lo with
     | none=>exact b1
     | some y=>simp only[zW]at b1 ⊢;rw[←hp y (by simp)];exact b1
    ·cases hi with
     | none=>exact b2
     | some y=>simp only[zW]at b2 ⊢;rw[←hp y (by simp)];exact b2
  all_goals first
    | exact hq
    | (rename_i x;rw[←hp x rfl];exact hq)
    | (rename_i x y;rw[←hp x (.inl rfl),←hp y (.inr rfl)];exact hq)
    | (rename_i x y z;rw[←hp x (.inl rfl),←hp y (.inr (.inl rfl)),←hp z (.inr (.inr rfl))];exact hq)
    | skip
structure pZ(d:Oid)(h:Heap):Prop where
  heap:∀p ob,h p=some ob→p≠d∧d∉ob.refs
theorem Fresh.unsaid{d:Oid}{Γ:Env}{h:Heap}(hf:Fresh d Γ h):pZ d h:=⟨hf.heap⟩
theorem H3{h:Heap}{d o:Oid}{ob:Ob}(hne:d≠o):(h.put d ob) o=h o:=by simp[Heap.put,Ne.symm hne]
theorem aSY{h:Heap}{d:Oid}{ob:Ob}{v:V}{n:Nat}(hv:d∉v.refs):rd (h.put d ob) v n=rd h v n:=by
  cases v with
  | c y=>cases y<;>simp only[rd]
         all_goals (simp only[V.refs,C.refs,fw]at hv;rw[H3 hv])
  | _=>rfl
theorem asx{h:Heap}{d:Oid}{ob:Ob}{k:Nat}{v r:V}{n:Int}(hv:d∉v.refs):ixV (h.put d ob) k v n r=ixV h k v n r:=by
  cases v with
  | c y=>cases y<;>simp only[ixV]
         case slO=>simp only[V.refs,C.refs,fw]at hv;rw[H3 hv]
         case imm t=>cases t<;>rfl
  | _=>rfl
theorem aFj{h:Heap}{d:Oid}{ob:Ob}{v:V}(hv:d∉v.refs):abY (h.put d ob) v=abY h v:=by
  cases v with
  | c y=>cases y<;>simp only[abY]
         case slO=>simp only[V.refs,C.refs,fw]at hv;rw[H3 hv]
         case imm t=>cases t<;>rfl
  | _=>rfl
theorem ajQ{h:Heap}{d:Oid}{ob:Ob}{kd:TypeDesc}{v:V}{es:List (Value×V)}(hv:d∉v.refs):aaX (h.put d ob) kd v es=aaX h kd v es:=by
  unfold aaX
  split
  ·rfl
  ·rename_i o
   rw[H3 (fun e=>hv (by subst e;simp[V.refs,C.refs]))]
  ·rfl
theorem YJ{h:Heap}{d:Oid}{ob:Ob}{v:V}{n:Int}(hv:d∉v.refs):Y3 (h.put d ob) v n=Y3 h v n:=by
  unfold Y3
  split
  ·rfl
  ·rename_i o
   rw[H3 (fun e=>hv (by subst e;simp[V.refs,C.refs]))]
  ·rfl
theorem ajZ{β:Type}{k:Value}{v:β}:∀ {es:List (Value×β)},getK k es=some v→∃p∈es,p.2=v
  | [],h=>by simp[getK]at h
  | p::r,h=>by
    simp only[getK]at h
    split at h
    ·cases h;exact⟨p,by simp,rfl⟩
    ·obtain⟨q,h1,h2⟩:=ajZ h;exact⟨q,by simp[h1],h2⟩
theorem PY{P:Program}{h:Heap}{d:Oid}{ob:Ob}{e:Opd→V}{op:VO}{r:V}(hv:∀x∈op.opds,d∉(e x).refs):qP P (h.put d ob) e op r=qP P h e op r:=by
  cases op<;>simp only[VO.opds,List.mem_cons,List.not_mem_nil,or_false]at hv<;>simp only[qP]
  case load n g x=>rw[aSY (hv x rfl)]
  case ixA k x i =>
    apply propext
    constructor
    ·rintro⟨n,h1,h2⟩;exact⟨n,h1,by rw[←asx (h:=h) (ob:=ob) (hv x (.inl rfl))];exact h2⟩
    ·rintro⟨n,h1,h2⟩;exact⟨n,h1,by rw[asx (h:=h) (ob:=ob) (hv x (.inl rfl))];exact h2⟩
  case lenS x=>rw[aFj (hv x rfl)]
  case lenM x =>
    apply propext
    constructor
    ·rintro⟨n,h1,h2⟩;exact⟨n,by rw[←YJ (h:=h) (ob:=ob) (hv x rfl)];exact h1,h2⟩
    ·rintro⟨n,h1,h2⟩;exact⟨n,by rw[YJ (h:=h) (ob:=ob) (hv x rfl)];exact h1,h2⟩
  case look kd z ok x i =>
    apply propext
    constructor
    ·rintro⟨key,es,h1,h2,h3,h4⟩;exact⟨key,es,h1,h2,by rw[←ajQ (h:=h) (ob:=ob) (hv x (.inl rfl))];exact h3,h4⟩
    ·rintro⟨key,es,h1,h2,h3,h4⟩;exact⟨key,es,h1,h2,by rw[ajQ (h:=h) (ob:=ob) (hv x (.inl rfl))];exact h3,h4⟩
  case un op x=>cases op<;>rfl
theorem aHz{h:Heap}{d:Oid}{ob:Ob}{c:C}{t:T}(hv:d∉c.refs):subC.sub0 (h.put d ob) c t=subC.sub0 h c t:=by
  cases c<;>cases t<;>simp only[subC.sub0]
  simp only[C.refs,fw]at hv
  rw[H3 hv]
theorem L9{h:Heap}{d:Oid}{ob:Ob}:∀ {cs:List C} {ts:List T},(∀c∈cs,d∉c.refs)→subC.subCs0 (h.put d ob) cs ts=subC.subCs0 h cs ts
  | [],[],_=>by simp only[subC.subCs0]
  | [],_::_,_=>by simp only[subC.subCs0]
  | _::_,[],_=>by simp only[subC.subCs0]
  | c::cs,t::ts,hv=>by
    simp only[subC.subCs0]
    rw[aHz (hv c (by simp)),L9 fun c hc=>hv c (by simp[hc])]
theorem agK{h:Heap}{d:Oid}{ob:Ob}{c c':C}(hv:d∉c.refs)(hh:pZ d h):subC (h.put d ob) c c'=subC h c c':=by
  cases c<;>cases c'<;>simp only[subC]<;>try (rename_i t;cases t<;>rfl)
  case slO.imm o t =>
    cases t with
    | sc _=>rfl
    | sl k rows =>
      simp only[C.refs,fw]at hv
      show(∃e,h.put d ob o=some (Ob.arr e k rows))=(∃e,h o=some (Ob.arr e k rows))
      rw[H3 hv]
  case ptrO.ptrI o off ds =>
    simp only[C.refs,fw]at hv
    rw[H3 hv]
    apply propext
    constructor
    ·rintro⟨cs,h1,h2⟩
     have:=(hh.heap _ _ h1).2
     exact⟨cs,h1,by rw[←L9 (h:=h) (ob:=ob) (d:=d)];exact h2;intro c hc hm;exact this (by simp only[Ob.refs,Ak];exact⟨c,List.mem_of_mem_drop hc,hm⟩)⟩
    ·rintro⟨cs,h1,h2⟩
     have:=(hh.heap _ _ h1).2
     exact⟨cs,h1,by rw[L9 (h:=h) (ob:=ob) (d:=d)];exact h2;intro c hc hm;exact this (by simp only[Ob.refs,Ak];exact⟨c,List.mem_of_mem_drop hc,hm⟩)⟩
theorem Z9{h:Heap}{d:Oid}{ob:Ob}(hh:pZ d h):∀ {cs ds:List C},(∀c∈cs,d∉c.refs)→G8 (h.put d ob) cs ds=G8 h cs ds
  | [],[],_=>by simp only[G8]
  | [],_::_,_=>by simp only[G8]
  | _::_,[],_=>by simp only[G8]
  | c::cs,t::ts,hv=>by
    simp only[G8]
    rw[agK (hv c (by simp)) hh,Z9 hh fun c hc=>hv c (by simp[hc])]
theorem akQ{h:Heap}{d:Oid}{ob:Ob}{x y:V}(hv:d∉x.refs)(hh:pZ d h):agz (h.put d ob) x y=agz h x y:=by
  cases x<;>cases y<;>simp only[agz]
  ·exact agK hv hh
  ·exact Z9 hh fun c hc hm=>hv (by simp only[V.refs,Ak];exact⟨c,hc,hm⟩)
theorem Z7{h:Heap}{d:Oid}{ob:Ob}(hh:pZ d h):∀ {xs ys:List V},(∀x∈xs,d∉x.refs)→Bz (h.put d ob) xs ys=Bz h xs ys
  | [],[],_=>by simp only[Bz]
  | [],_::_,_=>by simp only[Bz]
  | _::_,[],_=>by simp only[Bz]
  | x::xs,y::ys,hv=>by
    simp only[Bz]
    rw[akQ (hv x (by simp)) hh,Z7 hh fun x hx=>hv x (by simp[hx])]
theorem ayW{P:Program}{f:FuncId}{vs:List V}{h:Heap}{d:Oid}{ob:Ob}{r:V}(hv:∀x∈vs,d∉x.refs)(hh:pZ d h):adY P f vs (h.put d ob) r=adY P f vs h r:=by
  unfold adY
  simp only[Z7 hh hv]
theorem PV{h:Heap}{d:Oid}{ob:Ob}(hh:pZ d h):∀ {xs ys:List V},(∀x∈xs,d∉x.refs)→(G7 (h.put d ob) xs ys↔G7 h xs ys)
  | [],[],_=>Iff.rfl
  | [],_::_,_=>Iff.rfl
  | _::_,[],_=>Iff.rfl
  | x::xs,y::ys,hv=>by
    have ih:=PV (ob:=ob) hh (xs:=xs) (ys:=ys) fun z hz=>hv z (Aw _ hz)
    simp only[G7,aUW,akQ (hv x (by simp)) hh,ih]
theorem ZK{h hin:Heap}{d:Oid}{ob:Ob}(hd:hin d=none):Bx (h.put d ob) hin=(Bx h hin).put d ob:=by
  funext o
  simp only[Bx,Heap.put]
  by_cases e:o=d
  ·subst e;simp[hd]
  ·simp only[e,sk]
theorem abz{h hin:Heap}{d:Oid}(hh:pZ d h):pZ d (Bx h hin):=⟨fun p ob hp=>by
  unfold Bx at hp
  cases hi:hin p with
  | some _=>simp[hi]at hp
  | none=>simp only[hi]at hp;exact hh.heap p ob hp⟩
theorem aAq{P:Program}{f:FuncId}{vs:List V}{h:Heap}{d:Oid}{ob:Ob}{r:V}(hv:∀x∈vs,d∉x.refs)(hh:pZ d h):atz P f vs (h.put d ob) r↔atz P f vs h r:=by
  have hu:=fun hin:Heap=>abz (hin:=hin) hh
  constructor
  ·rintro⟨pins,us,hin,hF,h1,h2,h3⟩
   have hne:∀o ob1,hin o=some ob1→o≠d:=by
     rintro o ob1 ho rfl
     rcases(h1 _ _ ho).2.2.2 with⟨v,hvm,hm⟩ | ⟨p,ob',hp,hpd,hm⟩
     ·exact hv v hvm hm
     ·have:=(h1 p ob' hp).2.1
      simp only[Heap.put,hpd,sk]at this
      exact(hh.heap p ob' this).2 hm
   have hd:hin d=none:=by
     cases hx:hin d with
     | none=>rfl
     | some ob1=>exact absurd rfl (hne d ob1 hx)
   refine⟨pins,us,hin,hF,fun o ob1 ho=>?_,h2,?_⟩
   ·obtain⟨g1,g2,g3,g4⟩:=h1 o ob1 ho
    simp only[Heap.put,hne o ob1 ho,sk]at g2
    exact⟨g1,g2,g3,g4⟩
   ·rcases h3 with⟨g1,g2,g3⟩ | g
    ·refine .inl ⟨g1,g2,?_⟩
     rw[ZK hd,PV (hu hin) hv]at g3
     exact g3
    ·exact .inr g
  ·rintro⟨pins,us,hin,hF,h1,h2,h3⟩
   have hne:∀o ob1,hin o=some ob1→o≠d:=fun o ob1 ho=>(hh.heap o ob1 (h1 o ob1 ho).2.1).1
   have hd:hin d=none:=by
     cases hx:hin d with
     | none=>rfl
     | some ob1=>exact absurd rfl (hne d ob1 hx)
   refine⟨pins,us,hin,hF,fun o ob1 ho=>?_,h2,?_⟩
   ·obtain⟨g1,g2,g3,g4⟩:=h1 o ob1 ho
    exact⟨g1,by simp only[Heap.put,hne o ob1 ho,sk];exact g2,g3,g4⟩
   ·rcases h3 with⟨g1,g2,g3⟩ | g
    ·refine .inl ⟨g1,g2,?_⟩
     rw[ZK hd,PV (hu hin) hv]
     exact g3
    ·exact .inr g
theorem Zz{P:Program}{f:FuncId}{vs:List V}{h:Heap}{d:Oid}{ob:Ob}{r:V}(hv:∀x∈vs,d∉x.refs)(hh:pZ d h):G9 P f vs (h.put d ob) r=G9 P f vs h r:=by
  unfold G9
  rw[ayW hv hh,propext (aAq hv hh)]
theorem R9{P:Program}{f:FuncId}{vs:List V}{h:Heap}{r:V}(hc:G9 P f vs h r):r.refs=[]:=by
  rcases hc with⟨_,_,_,_,hr,_⟩ | ⟨_,_,_,_,_,hr,_⟩<;>exact hr
theorem K9{d:Oid}:∀ {cs cur:List C} {off:Nat},(∀c∈cur,d∉c.refs)→(∀c∈cs,d∉c.refs)→∀c∈setAt cur off cs,d∉c.refs
  | [],cur,off,h1,_=>h1
  | c::cs,cur,off,h1,h2=>by
    simp only[setAt]
    refine K9 (fun x hx=>?_) fun x hx=>h2 x (by simp[hx])
    rcases List.mem_or_eq_of_mem_set hx with hx | rfl
    ·exact h1 x hx
    ·exact h2 _ (by simp)
theorem L2{x:V}{cs:List C}{d:Oid}(h:c5 x=some cs)(hx:d∉x.refs):∀c∈cs,d∉c.refs:=fun c hc hm=>hx (by
  cases x with
  | c y=>simp[c5]at h;subst h;simp at hc;subst hc;exact hm
  | agg ys=>simp[c5]at h;subst h;exact Ak.2 ⟨c,hc,hm⟩
  | tup _=>simp[c5]at h
  | junk=>simp[c5]at h)
theorem T9{e:Opd→V}{d:Oid}:∀(ps:List (Nat×Nat×Opd)) (cur zs:List C),(∀p∈ps,d∉(e p.2.2).refs)→(∀c∈cur,d∉c.refs)→xx e cur ps=some zs→∀c∈zs,d∉c.refs
  | [],cur,zs,_,hc,hf=>by simp[xx]at hf;subst hf;exact hc
  | (off,sz,x)::r,cur,zs,hp,hc,hf=>by
    simp only[xx]at hf
    cases hcs:c5 (e x)with
    | none=>simp[hcs]at hf
    | some cs =>
      simp only[hcs]at hf
      split at hf
      ·exact T9 r _ zs (fun p hm=>hp p (by simp[hm])) (K9 hc (L2 hcs (hp (off,sz,x) (by simp)))) hf
      ·simp at hf
theorem TK{g:Bool}{cs:List C}{d:Oid}(hc:∀c∈cs,d∉c.refs):d∉(mkV g cs).refs:=by
  unfold mkV
  split
  ·simp only[V.refs,Ak,not_exists,not_and];exact hc
  ·simpa[V.refs]using hc
  ·simp[V.refs]
theorem aNz{h:Heap}{v:V}{n:Nat}{cs:List C}{d:Oid}(hr:rd h v n=some cs)(hh:pZ d h):∀c∈cs,d∉c.refs:=by
  have imm:∀(l:List T),∀c∈l.map C.imm,d∉c.refs:=fun l c hc=>by
    obtain⟨t,_,rfl⟩:=yw.1 hc
    simp[C.refs]
  unfold rd at hr
  split at hr
  ·split at hr
   ·cases hr;exact imm _
   ·simp at hr
  ·split at hr
   ·rename_i bs bY
    split at hr
    ·cases hr
     intro c hc hm
     exact(hh.heap _ _ bY).2 (by simp only[Ob.refs,Ak];exact⟨c,List.mem_of_mem_drop (List.mem_of_mem_take hc),hm⟩)
    ·simp at hr
   ·simp at hr
  ·split at hr
   ·split at hr
    ·simp only[ak]at hr
     obtain⟨row,_,hr⟩:=hr
     split at hr
     ·cases hr;exact imm _
     ·simp at hr
    ·simp at hr
   ·simp at hr
  ·simp at hr
theorem aJY{P:Program}{h:Heap}{d:Oid}{e:Opd→V}{op:VO}{r:V}(hq:qP P h e op r)(hpl:op.plain=true)(hv:∀x∈op.opds,d∉(e x).refs)(hh:pZ d h):d∉r.refs:=by
  cases op<;>simp only[VO.opds,List.mem_cons,List.not_mem_nil,or_false,yw]at hv<;>simp only[qP]at hq
  case mv x=>subst hq;exact hv x rfl
  case pick c x y=>obtain⟨t,_,rfl⟩:=hq;cases t<;>simp<;>first | exact hv y (by simp) | exact hv x (by simp)
  case build z ps =>
    obtain⟨cs,h1,rfl⟩:=hq
    simp only[VO.plain,gk,List.all_eq_true]at hpl
    have:=T9 (d:=d) ps z cs (fun p hm=>hv _ ⟨p,hm,rfl⟩) (fun c hc hm=>by have:=hpl.1 c hc;simp at this;rw[this]at hm;simp at hm) h1
    simp only[V.refs,Ak,not_exists,not_and];exact this
  case load n g x=>obtain⟨cs,h1,rfl⟩:=hq;exact TK (aNz h1 hh)
  case nilc x=>obtain⟨_,rfl⟩:=hq;exact hv x rfl
  case lenM x=>obtain⟨n,_,rfl⟩:=hq;simp[iV,V.refs,C.refs]
  case look kd z ok x i =>
    obtain⟨key,es,_,_,hm,rfl⟩:=hq
    simp only[VO.plain,gk,List.isEmpty_iff]at hpl
    have hz:d∉z.refs:=by rw[hpl.1.1];simp
    have tup1:∀(v:V) (b:Bool),d∉v.refs→d∉(V.tup [v,bV b]).refs:=by
      intro v b hv
      cases v<;>simp_all[V.refs,bV,C.refs]
    have hv:∀v,getK key es=some v→d∉v.refs:=by
      intro v hg
      obtain⟨p,hp,rfl⟩:=ajZ hg
      unfold aaX at hm
      split at hm
      ·subst hm;simp at hp
      ·obtain⟨es0,_,rfl⟩:=hm
       obtain⟨q,_,rfl⟩:=yw.1 hp
       rw[MT.refs];simp
      ·exact hm.elim
    cases hg:getK key es with
    | none=>cases ok<;>simp only[FX,if_true,rk,sk]<;>first | exact hz | exact tup1 _ _ hz
    | some v=>cases ok<;>simp only[FX,if_true,rk,sk]<;>first | exact hv v hg | exact tup1 _ _ (hv v hg)
  case fld off x =>
    have h0:=hv x rfl
    unfold aaY at hq
    split at hq
    ·cases hq;simp[V.refs,C.refs]
    ·rename_i heq;cases hq;rw[heq]at h0;exact h0
    ·rename_i heq;cases hq;rw[heq]at h0;exact h0
    ·simp at hq
  case ixAA n k x i =>
    obtain⟨j,_,_,_,hq⟩:=hq
    have h0:=hv x (by simp)
    unfold aaY at hq
    split at hq
    ·cases hq;simp[V.refs,C.refs]
    ·rename_i heq;cases hq;rw[heq]at h0;exact h0
    ·rename_i heq;cases hq;rw[heq]at h0;exact h0
    ·simp at hq
  case field off n g x =>
    obtain⟨cs,h1,_,rfl⟩:=hq
    refine TK fun c hc hm=>hv x rfl ?_
    rw[h1];exact Ak.2 ⟨c,List.mem_of_mem_drop (List.mem_of_mem_take hc),hm⟩
  case ixA k x i =>
    obtain⟨n,_,h2⟩:=hq
    have h0:=hv x (.inl rfl)
    unfold ixV at h2
    split at h2
    ·obtain⟨_,row,_,rfl⟩:=h2;simp[V.refs,C.refs]
    ·rename_i heq _;obtain⟨_,_,_,_,_,rfl⟩:=h2;rw[heq]at h0;exact h0
    ·exact h2.elim
  case ixS x i=>obtain⟨_,_,_,_,_,_,rfl⟩:=hq;simp[scV,V.refs,C.refs]
  case ixR n k g x i =>
    obtain⟨_,cs,j,h1,_,_,_,_,rfl⟩:=hq
    refine TK fun c hc hm=>hv x (.inl rfl) ?_
    rw[h1];exact Ak.2 ⟨c,List.mem_of_mem_drop (List.mem_of_mem_take hc),hm⟩
  case bin op x y =>
    unfold aEQ at hq
    split at hq
    ·simp only[aw]at hq;obtain⟨_,_,rfl⟩:=hq;simp[scV,V.refs,C.refs]
    ·simp at hq
  case beq ne x y=>obtain⟨_,_,_,_,rfl⟩:=hq;simp[bV,V.refs,C.refs]
  case peq ne x y=>obtain⟨_,_,rfl⟩:=hq;simp[bV,V.refs,C.refs]
  case meq ne x y=>obtain⟨_,_,rfl⟩:=hq;simp[bV,V.refs,C.refs]
  case aeq ne t x y=>obtain⟨_,_,_,_,_,_,_,_,_,rfl⟩:=hq;simp[bV,V.refs,C.refs]
  case un op x =>
    cases op<;>simp only at hq
    ·obtain⟨_,_,rfl⟩:=hq;simp[iV,V.refs,C.refs]
    ·obtain⟨_,_,rfl⟩:=hq;simp[bV,V.refs,C.refs]
  case cvi k x=>obtain⟨_,_,_,rfl⟩:=hq;simp[scV,V.refs,C.refs]
  case cvs x=>obtain⟨_,_,rfl⟩:=hq;exact hv x rfl
  case ext x i =>
    obtain⟨vs,h1,h2,h3⟩:=hq
    intro hm
    refine hv x rfl ?_
    rw[h1]
    simp only[V.refs]
    refine d8 h2 ?_
    cases r with
    | c y=>exact hm
    | agg ys=>exact hm
    | tup ys=>simp[kK]at h3
    | junk=>simp[V.refs]at hm
  case lenS x=>obtain⟨_,_,rfl⟩:=hq;simp[iV,V.refs,C.refs]
  case lenT x=>obtain⟨_,_,rfl⟩:=hq;simp[iV,V.refs,C.refs]
  case mm mx args =>
    unfold mmV at hq
    split at hq
    ·simp only[aw]at hq;obtain⟨_,_,rfl⟩:=hq;simp[scV,V.refs,C.refs]
    ·simp at hq
  case mkfn f caps =>
    obtain⟨cs,h1,rfl⟩:=hq
    simp only[V.refs,C.refs,Ak,not_exists,not_and]
    have key:∀(xs:List V) (cs:List Cap),xs.mapM KZ=some cs→(∀x∈xs,d∉x.refs)→∀c∈cs,d∉c.refs:=by
      intro xs
      induction xs with
      | nil=>intro cs h;simp at h;subst h;simp
      | cons x xs ih =>
        intro cs hm hx
        simp only[List.mapM_cons,Option.bind_eq_bind,Option.pure_def]at hm
        cases hc:KZ x with
        | none=>simp[hc]at hm
        | some c =>
          cases hr:xs.mapM KZ with
          | none=>simp[hc,hr]at hm
          | some r =>
            simp[hc,hr]at hm
            subst hm
            intro c' hc'
            rcases List.mem_cons.1 hc' with rfl | hc'
            ·have h0:=hx x (by simp)
             unfold KZ at hc
             split at hc
             ·cases hc;exact h0
             ·cases hc;simp[Cap.refs]
             ·simp at hc
            ·exact ih r hr (fun x hm=>hx x (by simp[hm])) c' hc'
    refine key _ _ h1 fun x hx=>?_
    obtain⟨y,hy,rfl⟩:=yw.1 hx
    exact hv y hy
  case sub k x lo hi=>obtain⟨_,_,_,_,_,_,_,_,_,rfl⟩:=hq;simp[V.refs,C.refs]
  case subS x lo hi=>obtain⟨_,_,_,_,_,_,_,_,_,rfl⟩:=hq;simp[scV,V.refs,C.refs]
end Go.VM
namespace Go.VM
def pX(P:Program)(dst:Option Nat)(op:VO)(Γ:Env)(h:Heap)(x:V)(h':Heap):Prop :=
 match op with
 | .call f args=>G9 P f (args.map (ev Γ)) h x∧h'=h
 | .callv q args=>(∃f caps,ev Γ q = .c (.fn f caps)∧aEz P f=true∧G9 P f (args.map (ev Γ)++caps.map alq) h x)∧h'=h
 | op=>if pK op=true then eR (dst.getD 999,0) (ev Γ) h op x h' else qP P h (ev Γ) op x∧h'=h
def FZ(P:Program)(o:VOp)(Γ:Env)(h:Heap)(x:V)(h':Heap):Prop :=
 match o.guard with
 | none=>pX P o.dst o.op Γ h x h'
 | some (t,b)=>(Γ t=bV b∧pX P o.dst o.op Γ h x h')∨(Unw Γ t b∧x=B1∧h'=h)
section
variable {P:Program}
theorem agj{Γ Γ':Env}{xs:List Opd}(h:∀t∈G0 xs,Γ t=Γ' t):∀x∈xs,ev Γ x=ev Γ' x:=by
 intro x hx
 cases x with
 | tmp t=>exact h t (by simp only[G0,List.mem_filterMap];exact⟨_,hx,rfl⟩)
 | con _=>rfl
 | fn _=>rfl
theorem aGz{d:Oid}{h:Heap}{e e':Opd→V}{op:VO}(hp:∀x∈op.opds,e x=e' x){r:V}{h':Heap}(hq:eR d e h op r h'):eR d e' h op r h':=by
 cases op<;>simp only[VO.opds,List.mem_cons,List.not_mem_nil,or_false,yw]at hp<;>simp only[eR]at hq ⊢
 case alloc=>exact hq
 case box x y=>rw[←hp y rfl];exact hq
 case mksl _ _ _ _ l c=>rw[←hp l (.inl rfl),←hp c (.inr rfl)];exact hq
 case bsl t n len z ps =>
  obtain⟨cs,rows,h1,h2⟩:=hq
  exact⟨cs,rows,by rw[←IX (e:=e) ps _ fun p hm=>hp _ ⟨p,hm,rfl⟩];exact h1,h2⟩
 case store n y v=>rw[←hp y (.inl rfl),←hp v (.inr rfl)];exact hq
 case app t n b s y=>rw[←hp s (.inl rfl),←hp y (.inr rfl)];exact hq
 case mkmap=>exact hq
 case mupd kd m i v=>rw[←hp m (.inl rfl),←hp i (.inr (.inl rfl)),←hp v (.inr (.inr rfl))];exact hq
theorem S2{dst:Option Nat}{op:VO}{Γ Γ':Env}{h h':Heap}{x:V}(hp:∀t∈G0 op.opds,Γ t=Γ' t)(ho:pX P dst op Γ h x h'):pX P dst op Γ' h x h':=by
 have ha:=agj hp
 cases op
 case call f args =>
  simp only[pX]at ho ⊢
  rw[←Az (e:=ev Γ) (e':=ev Γ') (xs:=args) ha];exact ho
 case callv q args =>
  simp only[pX]at ho ⊢
  obtain⟨⟨f,caps,h1,h2,h3⟩,h4⟩:=ho
  refine⟨⟨f,caps,by rw[←ha q (by simp[VO.opds])];exact h1,h2,?_⟩,h4⟩
  rw[←Az (e:=ev Γ) (e':=ev Γ') (xs:=args) (fun y hy=>ha y (by simp[VO.opds,hy]))];exact h3
 all_goals
  simp only[pX]at ho ⊢
  first
   | (simp only[pK,if_true]at ho ⊢;exact aGz ha ho)
   | (simp only[pK,rk,sk]at ho ⊢;exact⟨aGV ha ho.1,ho.2⟩)
theorem aMY{h h0:Heap}{e:Opd→V}{op:VO}{r:V}(hc:cls op=0)(hq:qP P h e op r):qP P h0 e op r:=by
 cases op<;>first | (refine absurd hc ?_;simp[cls];done) | exact hq | (rename_i op x;cases op<;>exact hq)
theorem X6{dst:Option Nat}{op:VO}{Γ:Env}{h h' h0:Heap}{x:V}(hc:cls op=0)(ho:pX P dst op Γ h x h'):h'=h∧pX P dst op Γ h0 x h0:=by
 cases op<;>first
  | (refine absurd hc ?_;simp[cls];done)
  | (simp only[pX,pK,rk,sk]at ho ⊢;exact⟨ho.2,aMY hc ho.1,trivial⟩)
theorem OK{dst:Option Nat}{op:VO}{Γ:Env}{h h':Heap}{x:V}(hc:cls op≤1)(ho:pX P dst op Γ h x h'):h'=h:=by
 cases op<;>first
  | (refine absurd hc ?_;simp[cls];done)
  | (simp only[pX,pK,rk,sk]at ho;exact ho.2)
  | (simp only[pX]at ho;exact ho.2)
theorem afV{dst:Option Nat}{op:VO}{Γ:Env}{h:Heap}{x:V}{d:Oid}{ob:Ob}(hc:cls op≤1)(hv:∀y∈op.opds,d∉(ev Γ y).refs)(hh:pZ d h) :
  pX P dst op Γ h x h↔pX P dst op Γ (h.put d ob) x (h.put d ob):=by
 cases op
 case call f args =>
  simp only[pX,and_true]
  rw[Zz (h:=h) (ob:=ob) (fun y hy=>by obtain⟨z,hz,rfl⟩:=yw.1 hy;exact hv z hz) hh]
 case callv q args =>
  simp only[pX,and_true]
  have key:∀f caps,ev Γ q = .c (.fn f caps)→(G9 P f (args.map (ev Γ)++caps.map alq) (h.put d ob) x=G9 P f (args.map (ev Γ)++caps.map alq) h x):=by
   intro f caps he
   refine Zz (fun y hy=>?_) hh
   rcases ow.1 hy with hy | hy
   ·obtain⟨z,hz,rfl⟩:=yw.1 hy;exact hv z (by simp[VO.opds,hz])
   ·obtain⟨c,hc',rfl⟩:=yw.1 hy
    have h0:=hv q (by simp[VO.opds]);rw[he]at h0
    cases c with
    | ptr o=>intro hm;exact h0 (by simp only[alq,V.refs,C.refs,fw]at hm ⊢;subst hm;exact Ak.2 ⟨_,hc',by simp[Cap.refs]⟩)
    | imm t=>simp[alq,V.refs,C.refs]
  constructor
  ·rintro⟨f,caps,h1,h2,h3⟩;exact⟨f,caps,h1,h2,by rw[key f caps h1];exact h3⟩
  ·rintro⟨f,caps,h1,h2,h3⟩;exact⟨f,caps,h1,h2,by rw[key f caps h1]at h3;exact h3⟩
 all_goals first
  | (refine absurd hc ?_;simp[cls];done)
  | (simp only[pX,pK,rk,sk,and_true];rw[PY hv])
theorem Wz{dst:Option Nat}{op:VO}{Γ:Env}{h h':Heap}{x:V}(hc:cls op=2)(ho:pX P dst op Γ h x h') :
  ∃ob,h'=h.put (dst.getD 999,0) ob∧∀h0,pX P dst op Γ h0 x (h0.put (dst.getD 999,0) ob):=by
 cases op<;>try (refine absurd hc ?_;simp[cls];done)
 all_goals simp only[pX,pK,if_true,eR]at ho ⊢
 case alloc=>obtain⟨rfl,rfl⟩:=ho;exact⟨_,rfl,fun h0=>⟨rfl,rfl⟩⟩
 case box=>obtain⟨cs,h1,rfl,rfl⟩:=ho;exact⟨_,rfl,fun h0=>⟨cs,h1,rfl,rfl⟩⟩
 case mksl=>obtain⟨m,zt,h1,h2,h3,h4,h5,h6,rfl,rfl⟩:=ho;exact⟨_,rfl,fun h0=>⟨m,zt,h1,h2,h3,h4,h5,h6,rfl,rfl⟩⟩
 case bsl=>obtain⟨cs,rows,h1,h2,h3,h4,rfl,rfl⟩:=ho;exact⟨_,rfl,fun h0=>⟨cs,rows,h1,h2,h3,h4,rfl,rfl⟩⟩
 case mkmap=>obtain⟨rfl,rfl⟩:=ho;exact⟨_,rfl,fun h0=>⟨rfl,rfl⟩⟩
theorem aHq{h:Heap}{d d':Oid}{ob ob':Ob}(hne:d≠d'):(h.put d ob).put d' ob'=(h.put d' ob').put d ob:=by
 funext p
 simp only[Heap.put]
 by_cases e:p=d
 ·subst e;simp[hne]
 ·by_cases e':p=d'
  ·subst e';simp[Ne.symm hne]
  ·simp[e,e']
theorem azX{Γ:Env}{x y:Option Nat}{vx vy:V}(h:∀d,x=some d→y≠some d):putO x vx (putO y vy Γ)=putO y vy (putO x vx Γ):=by
 cases x with
 | none=>rfl
 | some d =>
  cases y with
  | none=>rfl
  | some d' =>
   have hne:d'≠d:=fun e=>h d rfl (by rw[e])
   funext u
   simp only[putO,Env.put]
   by_cases e:u=d
   ·subst e;simp[Ne.symm hne]
   ·simp[e]
theorem Gx{Γ:Env}{x:Option Nat}{v:V}{t:Nat}(h:x≠some t):(putO x v Γ) t=Γ t:=by
 cases x with
 | none=>rfl
 | some d =>
  have:t≠d:=fun e=>h (by rw[e])
  simp[putO,Env.put,this]
theorem Fresh.opd{d:Oid}{Γ:Env}{h:Heap}(hf:Fresh d Γ h){op:VO}(hp:op.plain=true):∀y∈op.opds,d∉(ev Γ y).refs:=by
 intro y hy
 cases y with
 | tmp t=>exact hf.env t
 | fn f=>simp[ev,V.refs,C.refs]
 | con x =>
  have:(Opd.con x).plain=true:=by
   cases op<;>simp only[VO.plain,VO.opds,gk,List.all_eq_true]at hp hy<;>first
    | exact hp _ hy
    | (simp only[List.mem_cons,List.not_mem_nil,or_false]at hy;rcases hy with hy | hy<;>rw[hy]<;>first | exact hp.1.2 | exact hp.2)
    | (obtain⟨p,hpm,he⟩:=yw.1 hy;rw[←he];exact hp.2 p hpm)
    | (simp at hy)
    | (obtain⟨p,hpm,he⟩:=yw.1 hy;exact hp _ (yw.2 ⟨p,hpm,he⟩))
  simp only[Opd.plain,List.isEmpty_iff]at this
  simp[ev,this]
end
end Go.VM
namespace Go.VM
section
variable {P:Program}
def JK(o:VOp)(Γ Γ':Env):Prop:=∀t b,o.guard=some (t,b)→Γ t=Γ' t
theorem Unw.congr{Γ Γ':Env}{t:Nat}{b:Bool}(h:Unw Γ t b)(e:Γ t=Γ' t):Unw Γ' t b:=by unfold Unw at h ⊢;rwa [←e]
theorem GW{o:VOp}{Γ:Env}{h h':Heap}{x:V}(ho:FZ P o Γ h x h') :
  (pX P o.dst o.op Γ h x h'∧∀Γ' h0 h0',JK o Γ Γ'→pX P o.dst o.op Γ' h0 x h0'→FZ P o Γ' h0 x h0') ∨
  (x=B1∧h'=h∧∀Γ' h0,JK o Γ Γ'→FZ P o Γ' h0 B1 h0):=by
 unfold FZ at ho
 cases hg:o.guard with
 | none =>
  simp only[hg]at ho
  exact .inl ⟨ho,fun Γ' h0 h0' _ hr=>by unfold FZ;simp only[hg];exact hr⟩
 | some tb =>
  obtain⟨t,b⟩:=tb
  simp only[hg]at ho
  rcases ho with⟨hc,hr⟩ | ⟨hu,rfl,rfl⟩
  ·exact .inl ⟨hr,fun Γ' h0 h0' hs hr=>by unfold FZ;simp only[hg];exact .inl ⟨by rw[←hs t b hg];exact hc,hr⟩⟩
  ·exact .inr ⟨rfl,rfl,fun Γ' h0 hs=>by unfold FZ;simp only[hg];exact .inr ⟨hu.congr (hs t b hg),trivial,trivial⟩⟩
theorem EZ{o:VOp}{t:Nat}(h:t∈G0 o.op.opds):t∈o.reads:=by simp[VOp.reads,h]
theorem Qz{o:VOp}{t:Nat}{b:Bool}(h:o.guard=some (t,b)):t∈o.reads:=by simp[VOp.reads,h]
def FootP(op:VO)(Γ:Env):Option J9→Prop
 | none=>True
 | some f=>(W6 op=true→∀y∈op.opds,∀o∈(ev Γ y).refs,o∈f.1)∧(anK op=true→∀y∈op.opds,∀o∈(ev Γ y).refs,o∈f.2)
theorem FootP.congr{op:VO}{Γ Γ':Env}{f:Option J9}(h:FootP op Γ f)(hp:∀t∈G0 op.opds,Γ t=Γ' t):FootP op Γ' f:=by
 cases f with
 | none=>trivial
 | some f =>
  have ha:=agj hp
  exact⟨fun hr y hy=>by rw[←ha y hy];exact h.1 hr y hy,fun hr y hy=>by rw[←ha y hy];exact h.2 hr y hy⟩
structure Z3(x y:VOp)(fx fy:Option J9):Prop where
 xy:∀d,x.dst=some d→d∉y.reads∧y.dst≠some d
 yx:∀d,y.dst=some d→d∉x.reads
 cl:cls x.op=0∨cls y.op=0∨(cls x.op≤2∧cls y.op≤2) ∨
  ∃gx gy,fx=some gx∧fy=some gy∧((anK x.op=true∧W6 y.op=true∧∀o∈gx.2,o∉gy.1)∨(W6 x.op=true∧anK y.op=true∧∀o∈gy.2,o∉gx.1))
 px:x.op.plain=true
 py:y.op.plain=true
 dx:cls x.op=2→∃d,x.dst=some d
 dy:cls y.op=2→∃d,y.dst=some d
theorem aSK{a b:Oid}:aEX a b=true↔a=b:=by
 obtain⟨a1,a2⟩:=a
 obtain⟨b1,b2⟩:=b
 simp[aEX]
theorem O4:∀ {a b:List Oid},aFY a b=true→∀o∈a,o∉b
 | [],_,_,o,ho=>by simp at ho
 | q::r,b,h,o,ho=>by
  simp only[aFY,gk,List.all_eq_true,Cw]at h
  rcases List.mem_cons.1 ho with rfl | ho
  ·intro hm
   have:=h.1 o hm
   rw[aSK.2 rfl]at this;simp at this
  ·exact O4 h.2 o ho
theorem aoJ{x y:VOp}{fx fy:Option J9}(h:amW x y fx fy=true):Z3 x y fx fy:=by
 simp only[amW,gk,Bw,beq_iff_eq,bne_iff_ne,ne_eq,Dk]at h
 obtain⟨⟨⟨⟨⟨⟨h1,h2⟩,h3⟩,h4⟩,h5⟩,h6⟩,h7⟩:=h
 refine⟨fun d hd=>?_,fun d hd=>?_,?_,h4,h5,fun hc=>?_,fun hc=>?_⟩
 ·simp only[hd,gk,Cw,bne_iff_ne,ne_eq]at h1
  exact⟨by have:=h1.1;simpa using this,h1.2⟩
 ·simp only[hd,Cw]at h2
  simpa using h2
 ·rcases h3 with ((h3 | h3) | h3) | h3
  ·exact .inl h3
  ·exact .inr (.inl h3)
  ·exact .inr (.inr (.inl h3))
  ·refine .inr (.inr (.inr ?_))
   cases fx with
   | none=>simp at h3
   | some gx=>cases fy with
    | none=>simp at h3
    | some gy =>
     simp only[Bw,gk]at h3
     refine⟨gx,gy,rfl,rfl,?_⟩
     rcases h3 with⟨⟨g1,g2⟩,g3⟩ | ⟨⟨g1,g2⟩,g3⟩
     ·exact .inl ⟨g1,g2,O4 g3⟩
     ·exact .inr ⟨g1,g2,O4 g3⟩
 ·cases hd:x.dst with
  | none=>simp[hd,hc]at h6
  | some d=>exact⟨d,rfl⟩
 ·cases hd:y.dst with
  | none=>simp[hd,hc]at h7
  | some d=>exact⟨d,rfl⟩
theorem aMV{h:Heap}{d:Oid}{ob:Ob}{e:Opd→V}{op:VO}{r:V}(hd:h d=some ob)(hv:∀x∈op.opds,d∉(e x).refs):qP P (h.drop d) e op r=qP P h e op r:=by
 have e1:(h.drop d).put d ob=h:=by
  funext p
  simp only[Heap.put,Heap.drop]
  by_cases hp:p=d
  ·subst hp;simp[hd]
  ·simp[hp]
 have:=PY (P:=P) (h:=h.drop d) (d:=d) (ob:=ob) (e:=e) (op:=op) (r:=r) hv
 rw[e1]at this
 exact this.symm
theorem aKY{h h':Heap}{v:V}{cs:List C}(hw:wr h v cs h'):∃o ob,o∈v.refs∧h'=h.put o ob:=by
 unfold wr at hw
 split at hw
 ·obtain⟨bs,_,_,rfl⟩:=hw;exact⟨_,_,by simp[V.refs,C.refs],rfl⟩
 ·obtain⟨_,rows,row,ts,_,_,_,_,rfl⟩:=hw;exact⟨_,_,by simp[V.refs,C.refs],rfl⟩
 ·exact hw.elim
theorem arQ{dst:Option Nat}{op:VO}{Γ:Env}{h h':Heap}{x:V}(hr:W6 op=true)(ho:pX P dst op Γ h x h'):qP P h (ev Γ) op x∧h'=h:=by
 cases op<;>first
  | (refine absurd hr ?_;simp[W6];done)
  | (simpa only[pX,pK,rk,sk]using ho)
theorem aqj{dst:Option Nat}{op:VO}{Γ:Env}{h:Heap}{x:V}(hr:W6 op=true)(hq:qP P h (ev Γ) op x):pX P dst op Γ h x h:=by
 cases op<;>first
  | (refine absurd hr ?_;simp[W6];done)
  | (simp only[pX,pK,rk,sk];exact⟨hq,trivial⟩)
theorem SX{x y:VOp}{Γ:Env}{h h1:Heap}{vx vy:V}{gx gy:J9}(hx:anK x.op=true)(hy:W6 y.op=true)(hdis:∀o∈gx.2,o∉gy.1)(hfx:B7 x.op=true→Fresh (x.dst.getD 999,0) Γ h)(hpy:y.op.plain=true)
  (fx:FootP x.op Γ (some gx)) (fy:FootP y.op Γ (some gy)) (ho:pX P x.dst x.op Γ h vx h1):qP P h1 (ev Γ) y.op vy↔qP P h (ev Γ) y.op vy:=by
 have hin:=fx.2 hx
 have hout:=fy.1 hy
 have ne:∀v∈x.op.opds,∀o∈(ev Γ v).refs,∀z∈y.op.opds,o∉(ev Γ z).refs:=fun v hv o ho z hz hm=>hdis o (hin v hv o ho) (hout z hz o hm)
 revert ho ne hfx
 generalize hop:x.op=op at hx
 intro hfx ho ne
 cases op<;>try (refine absurd hx ?_;simp[anK];done)
 case store n a b =>
  simp only[pX,pK,if_true,eR]at ho
  obtain⟨cs,_,_,hw,_⟩:=ho
  obtain⟨o,ob,ho,rfl⟩:=aKY hw
  rw[PY fun z hz=>ne a (by simp[VO.opds]) o ho z hz]
 case mupd kd m i v =>
  simp only[pX,pK,if_true,eR]at ho
  obtain⟨o,es,key,y0,h1,_,_,_,_,_,rfl⟩:=ho
  rw[PY fun z hz=>ne m (by simp[VO.opds]) o (by rw[h1];simp[V.refs,C.refs]) z hz]
 case app t k b s y' =>
  simp only[pX,pK,if_true,eR]at ho
  have hf:=hfx (by rfl)
  obtain⟨new,_,⟨_,_,_,_,rfl⟩ | ⟨o,rows,h1,h2,_,_,_,rfl⟩⟩:=ho
  ·rw[PY (hf.opd hpy)]
  ·rw[PY (hf.opd hpy),aMV h2 fun z hz=>ne s (by simp[VO.opds]) o (by rw[h1];simp[V.refs,C.refs]) z hz]
theorem M0{op:VO}(h:cls op=2):B7 op=true:=by
 cases op<;>first | rfl | (simp[cls]at h;done)
theorem swap{x y:VOp}{fx fy:Option J9}(hi:Z3 x y fx fy){Γ:Env}{h h1 h2:Heap}{vx vy:V}(hfx:B7 x.op=true→Fresh (x.dst.getD 999,0) Γ h)(hfy:B7 y.op=true→Fresh (y.dst.getD 999,0) Γ h)
  (hgx:FootP x.op Γ fx) (hgy:FootP y.op (putO x.dst vx Γ) fy) (ho1:FZ P x Γ h vx h1) (ho2:FZ P y (putO x.dst vx Γ) h1 vy h2) :
  ∃h1',FZ P y Γ h vy h1'∧FZ P x (putO y.dst vy Γ) h1' vx h2:=by
 have yx0:∀t∈y.reads,(putO x.dst vx Γ) t=Γ t:=fun t ht=>Gx fun e=>(hi.xy t e).1 ht
 have xy0:∀t∈x.reads,Γ t=(putO y.dst vy Γ) t:=fun t ht=>(Gx fun e=>hi.yx t e ht).symm
 have gy:JK y (putO x.dst vx Γ) Γ:=fun t b hg=>yx0 t (Qz hg)
 have gx:JK x Γ (putO y.dst vy Γ):=fun t b hg=>xy0 t (Qz hg)
 have cy:∀ {h0 h0':Heap},pX P y.dst y.op (putO x.dst vx Γ) h0 vy h0'→pX P y.dst y.op Γ h0 vy h0':=fun hr=>S2 (fun t ht=>yx0 t (EZ ht)) hr
 have cx:∀ {h0 h0':Heap},pX P x.dst x.op Γ h0 vx h0'→pX P x.dst x.op (putO y.dst vy Γ) h0 vx h0':=fun hr=>S2 (fun t ht=>xy0 t (EZ ht)) hr
 rcases GW ho1 with⟨rx,bx⟩ | ⟨rfl,rfl,bx⟩
 ·rcases GW ho2 with⟨ry,by'⟩ | ⟨rfl,rfl,by'⟩
  ·have ry:=cy ry
   rcases hi.cl with h0 | h0 | ⟨hx2,hy2⟩ | ⟨gx',gy',ex,ey,⟨w1,w2,w3⟩ | ⟨w1,w2,w3⟩⟩
   ·obtain⟨rfl,rx2⟩:=X6 (h0:=h2) h0 rx
    exact⟨h2,by' Γ _ _ gy ry,bx _ _ _ gx (cx rx2)⟩
   ·obtain⟨rfl,ry2⟩:=X6 (h0:=h) h0 ry
    exact⟨h,by' Γ _ _ gy ry2,bx _ _ _ gx (cx rx)⟩
   ·by_cases hx1:cls x.op≤1
    ·have e1:=OK hx1 rx
     subst e1
     by_cases hy1:cls y.op≤1
     ·have e2:=OK hy1 ry
      subst e2
      exact⟨_,by' Γ _ _ gy ry,bx _ _ _ gx (cx rx)⟩
     ·obtain⟨ob,rfl,rn⟩:=Wz (by omega) ry
      have hf:=hfy (M0 (by omega))
      refine⟨_,by' Γ _ _ gy (rn _),bx _ _ _ gx (cx ?_)⟩
      exact(afV hx1 (hf.opd hi.px) hf.unsaid).1 rx
    ·obtain⟨ob,rfl,rn⟩:=Wz (by omega) rx
     have hf:=hfx (M0 (by omega))
     by_cases hy1:cls y.op≤1
     ·have e2:=OK hy1 ry
      subst e2
      refine⟨h,by' Γ _ _ gy ?_,bx _ _ _ gx (cx (rn h))⟩
      exact(afV hy1 (hf.opd hi.py) hf.unsaid).2 ry
     ·obtain⟨ob',rfl,rn'⟩:=Wz (by omega) ry
      obtain⟨dx,hdx⟩:=hi.dx (by omega)
      obtain⟨dy,hdy⟩:=hi.dy (by omega)
      have hne:dx≠dy:=fun e=>(hi.xy dx hdx).2 (by rw[hdy,e])
      refine⟨_,by' Γ _ _ gy (rn' h),bx _ _ _ gx ?_⟩
      rw[aHq (by simp[hdx,hdy,hne])]
      exact cx (rn _)
   ·have hgy':FootP y.op Γ fy:=hgy.congr fun t ht=>yx0 t (EZ ht)
    obtain⟨hq,rfl⟩:=arQ w2 ry
    have hq':=(SX w1 w2 w3 hfx hi.py (ex▸hgx) (ey▸hgy') rx).1 hq
    exact⟨h,by' Γ _ _ gy (aqj w2 hq'),bx _ _ _ gx (cx rx)⟩
   ·have hgy':FootP y.op Γ fy:=hgy.congr fun t ht=>yx0 t (EZ ht)
    obtain⟨hq,rfl⟩:=arQ w1 rx
    have hq':=(SX w2 w1 w3 hfy hi.px (ey▸hgy') (ex▸hgx) ry).2 hq
    exact⟨h2,by' Γ _ _ gy ry,bx _ _ _ gx (cx (aqj w1 hq'))⟩
  ·exact⟨h,by' Γ h gy,bx _ _ _ gx (cx rx)⟩
 ·rcases GW ho2 with⟨ry,by'⟩ | ⟨rfl,rfl,by'⟩
  ·exact⟨h2,by' Γ _ _ gy (cy ry),bx _ h2 gx⟩
  ·exact⟨_,by' Γ _ gy,bx _ _ gx⟩
theorem aEW{x y:VOp}{fx fy:Option J9}(hi:Z3 x y fx fy){Γ:Env}{vx vy:V}:putO x.dst vx (putO y.dst vy Γ)=putO y.dst vy (putO x.dst vx Γ) :=
 azX fun d hd=>(hi.xy d hd).2
abbrev FOp:=VOp×Option J9
def avZ(P:Program):List FOp→Env→Heap→(Env→Heap→Prop)→Prop
 | [],Γ,h,k=>k Γ h
 | o::os,Γ,h,k=>∃x h',FZ P o.1 Γ h x h'∧FootP o.1.op Γ o.2∧avZ P os (putO o.1.dst x Γ) h' k
def AX(P:Program):List FOp→Env→Heap→(Env→Heap→Prop)→Prop
 | [],Γ,h,k=>k Γ h
 | o::os,Γ,h,k=>FootP o.1.op Γ o.2∧sj o.1.guard Γ (iW P o.1.dst o.1.op Γ h fun Γ' h'=>AX P os Γ' h' k) (AX P os (putO o.1.dst B1 Γ) h k)
def TW(os:List VOp):List FOp:=os.map fun o=>(o,none)
theorem Qj{o:VOp}{Γ:Env}{h:Heap}{k:Env→Heap→Prop}(hp:iW P o.dst o.op Γ h k):∃x h',pX P o.dst o.op Γ h x h'∧k (putO o.dst x Γ) h':=by
 revert hp
 generalize o.op=op
 intro hp
 cases op
 case call f args=>obtain⟨r,h1,h2⟩:=hp;exact⟨r,h,⟨h1,rfl⟩,h2⟩
 case callv q args=>obtain⟨f,caps,h1,h2,r,h3,h4⟩:=hp;exact⟨r,h,⟨⟨f,caps,h1,h2,h3⟩,rfl⟩,h4⟩
 all_goals first
  | (obtain⟨_,x,h',h1,h2⟩:=hp;exact⟨x,h',h1,h2⟩)
  | (obtain⟨r,h1,h2⟩:=hp;exact⟨r,h,⟨h1,rfl⟩,h2⟩)
theorem x9:∀ {os:List FOp} {Γ:Env} {h:Heap} {k:Env→Heap→Prop},AX P os Γ h k→avZ P os Γ h k
 | [],_,_,_,hp=>hp
 | o::os,Γ,h,k,hp=>by
  simp only[AX]at hp
  obtain⟨hft,hp⟩:=hp
  simp only[avZ]
  cases hg:o.1.guard with
  | none =>
   simp only[sj,hg]at hp
   obtain⟨x,h',h1,h2⟩:=Qj hp
   exact⟨x,h',by unfold FZ;simp only[hg];exact h1,hft,x9 h2⟩
  | some tb =>
   obtain⟨t,b⟩:=tb
   simp only[sj,hg]at hp
   rcases hp with⟨hc,hy⟩ | ⟨hu,hn⟩
   ·obtain⟨x,h',h1,h2⟩:=Qj hy
    exact⟨x,h',by unfold FZ;simp only[hg];exact .inl ⟨hc,h1⟩,hft,x9 h2⟩
   ·exact⟨B1,h,by unfold FZ;simp only[hg];exact .inr ⟨hu,trivial,trivial⟩,hft,x9 hn⟩
theorem GV:∀ {os:List VOp} {Γ:Env} {h:Heap} {k:Env→Heap→Prop},vY P os Γ h k→AX P (TW os) Γ h k
 | [],_,_,_,hp=>hp
 | o::os,Γ,h,k,hp=>by
  simp only[vY]at hp
  simp only[TW,qk,AX]
  refine⟨trivial,?_⟩
  have e:(fun Γ' h'=>AX P (os.map fun o=>(o,none)) Γ' h' k)=fun Γ' h'=>AX P (TW os) Γ' h' k:=rfl
  cases hg:o.guard with
  | none =>
   simp only[sj,hg]at hp ⊢
   exact CX hp fun Γ' h'=>GV
  | some tb =>
   obtain⟨t,b⟩:=tb
   simp only[sj,hg]at hp ⊢
   rcases hp with⟨hc,hy⟩ | ⟨hu,hn⟩
   ·exact .inl ⟨hc,CX hy fun Γ' h'=>GV⟩
   ·exact .inr ⟨hu,GV hn⟩
where
 CX {dst:Option Nat} {op:VO} {Γ:Env} {h:Heap} {k k':Env→Heap→Prop} (hp:iW P dst op Γ h k) (hk:∀Γ h,k Γ h→k' Γ h):iW P dst op Γ h k':=by
  cases op
  case call f args=>obtain⟨r,h1,h2⟩:=hp;exact⟨r,h1,hk _ _ h2⟩
  case callv q args=>obtain⟨f,caps,h1,h2,r,h3,h4⟩:=hp;exact⟨f,caps,h1,h2,r,h3,hk _ _ h4⟩
  all_goals first
   | (obtain⟨h0,x,h',h1,h2⟩:=hp;exact⟨h0,x,h',h1,hk _ _ h2⟩)
   | (obtain⟨r,h1,h2⟩:=hp;exact⟨r,h1,hk _ _ h2⟩)
def FreshAll(os:List VOp)(Γ:Env)(h:Heap):Prop:=∀o∈os,B7 o.op=true→Fresh (o.dst.getD 999,0) Γ h
theorem aNW{d d':Oid}{e:Opd→V}{h h':Heap}{op:VO}{x:V}(hr:eR d' e h op x h')(hpl:op.plain=true)(hne:d≠d')(hv:∀y∈op.opds,d∉(e y).refs)(hh:pZ d h):d∉x.refs∧pZ d h':=by
 have sl:d∉(V.c (C.slO d')).refs:=by simp[V.refs,C.refs,hne]
 have pt:d∉(V.c (C.ptrO d' 0)).refs:=by simp[V.refs,C.refs,hne]
 have pu:∀ {h0:Heap} {q:Oid} {ob:Ob},pZ d h0→q≠d→d∉ob.refs→pZ d (h0.put q ob):=fun {h0 q ob} hu hq ho=>⟨fun p ob' hp=>by
  simp only[Heap.put]at hp
  split at hp
  ·rename_i e;subst e;cases hp;exact⟨hq,ho⟩
  ·exact hu.heap p ob' hp⟩
 cases op<;>simp only[VO.opds,List.mem_cons,List.not_mem_nil,or_false,yw]at hv<;>simp only[eR]at hr
 case alloc t z =>
  obtain⟨rfl,rfl⟩:=hr
  refine⟨pt,pu hh (Ne.symm hne) ?_⟩
  simp only[VO.plain,List.all_eq_true]at hpl
  simp only[Ob.refs,Ak,not_exists,not_and]
  intro c hc hm
  have:=hpl c hc
  simp at this;rw[this]at hm;simp at hm
 case box t y =>
  obtain⟨cs,h1,rfl,rfl⟩:=hr
  refine⟨pt,pu hh (Ne.symm hne) ?_⟩
  simp only[Ob.refs,Ak,not_exists,not_and]
  exact L2 h1 (hv y rfl)
 case mksl=>obtain⟨m,zt,_,_,_,_,_,_,rfl,rfl⟩:=hr;exact⟨sl,pu hh (Ne.symm hne) (by simp[Ob.refs])⟩
 case bsl=>obtain⟨cs,rows,_,_,_,_,rfl,rfl⟩:=hr;exact⟨sl,pu hh (Ne.symm hne) (by simp[Ob.refs])⟩
 case store n y v =>
  obtain⟨cs,h1,_,h3,rfl⟩:=hr
  refine⟨by simp[V.refs],?_⟩
  have hcs:=L2 h1 (hv v (.inr rfl))
  have hy:=hv y (.inl rfl)
  unfold wr at h3
  split at h3
  ·rename_i heq _
   obtain⟨bs,g1,_,rfl⟩:=h3
   rw[heq]at hy
   have hb:=hh.heap _ _ g1
   refine pu hh hb.1 ?_
   simp only[Ob.refs,Ak,not_exists,not_and]at hb ⊢
   exact K9 hb.2 hcs
  ·obtain⟨_,rows,row,ts,g1,_,_,_,rfl⟩:=h3
   exact pu hh (hh.heap _ _ g1).1 (by simp[Ob.refs])
  ·exact h3.elim
 case app t n b s y =>
  obtain⟨new,_,⟨_,_,_,rfl,rfl⟩ | ⟨o,rows,_,_,_,_,rfl,rfl⟩⟩:=hr
  ·exact⟨sl,pu hh (Ne.symm hne) (by simp[Ob.refs])⟩
  ·refine⟨sl,pu ⟨fun p ob hp=>?_⟩ (Ne.symm hne) (by simp[Ob.refs])⟩
   simp only[Heap.drop]at hp
   split at hp
   ·simp at hp
   ·exact hh.heap p ob hp
 case mkmap=>obtain⟨rfl,rfl⟩:=hr;exact⟨by simp[V.refs,C.refs,hne],pu hh (Ne.symm hne) (by simp[Ob.refs])⟩
 case mupd kd m i v =>
  obtain⟨o,es,key,y,_,h2,_,_,_,rfl,rfl⟩:=hr
  exact⟨by simp[V.refs],pu hh (hh.heap _ _ h2).1 (by simp[Ob.refs])⟩
theorem anz{o:VOp}{Γ:Env}{h h':Heap}{x:V}{d:Oid}(hf:Fresh d Γ h)(hpl:o.op.plain=true)(hne:pK o.op=true→d≠(o.dst.getD 999,0))(ho:FZ P o Γ h x h'):Fresh d (putO o.dst x Γ) h':=by
 have fin:∀ {h0:Heap},d∉x.refs→pZ d h0→Fresh d (putO o.dst x Γ) h0:=fun {h0} hx hu=>⟨fun t=>by
  cases o.dst with
  | none=>exact hf.env t
  | some u =>
   simp only[putO,Env.put]
   split
   ·exact hx
   ·exact hf.env t,hu.heap⟩
 rcases GW ho with⟨hr,_⟩ | ⟨rfl,rfl,_⟩
 ·have hv:=hf.opd hpl
  revert hr hne hv hpl
  generalize o.op=op
  intro hpl hne hr hv
  cases op
  case call f args =>
   obtain⟨hcall,rfl⟩:=hr
   exact fin (by rw[R9 hcall];simp) hf.unsaid
  case callv q args =>
   obtain⟨⟨f,caps,_,_,hcall⟩,rfl⟩:=hr
   exact fin (by rw[R9 hcall];simp) hf.unsaid
  all_goals first
   | (obtain⟨hq,rfl⟩:=hr;exact fin (aJY hq hpl hv hf.unsaid) hf.unsaid)
   | (simp only[pX,pK,if_true]at hr;have:=aNW (d:=d) hr hpl (hne rfl) hv hf.unsaid;exact fin this.1 this.2)
 ·exact fin (by simp[B1,V.refs]) hf.unsaid
theorem WV{x y:VOp}(h:rW x y=true)(hx:pK x.op=true)(hy:B7 y.op=true):(y.dst.getD 999,0)≠((x.dst.getD 999,0):Oid):=by
 simp[rW,hx,hy]at h
 intro e
 exact h (by simpa using(Prod.mk.inj e).1.symm)
theorem FreshAll.step{o:VOp}{os:List VOp}{Γ:Env}{h h':Heap}{x:V}(hf:FreshAll os Γ h)(hpl:o.op.plain=true)(hap:∀y∈os,rW o y=true)(ho:FZ P o Γ h x h'):FreshAll os (putO o.dst x Γ) h' :=
 fun y hy hn=>anz (hf y hy hn) hpl (fun he=>WV (hap y hy) he hn) ho
theorem X7{i:FOp}{C:List FOp}{k:Env→Heap→Prop}:∀(A:List FOp) (Γ:Env) (h:Heap),(∀a∈A,Z3 a.1 i.1 a.2 i.2) →
  (∀a∈A,rW a.1 i.1=true)→FreshAll ((A++[i]).map (·.1)) Γ h→(A.Pairwise fun a b=>rW a.1 b.1=true)→avZ P (A++i::C) Γ h k→∃x h',FZ P i.1 Γ h x h'∧FootP i.1.op Γ i.2∧avZ P (A++C) (putO i.1.dst x Γ) h' k
 | [],Γ,h,_,_,_,_,hr=>hr
 | a::A,Γ,h,hi,hai,hf,hpw,hr=>by
  obtain⟨va,h1,ho,hfa,hr⟩:=hr
  have hia:=hi a (by simp)
  rw[List.pairwise_cons]at hpw
  have hf1:FreshAll ((A++[i]).map (·.1)) (putO a.1.dst va Γ) h1:=by
   refine FreshAll.step (fun y hy => hf y (by simp at hy ⊢;rcases hy with hy | hy<;>simp[hy])) hia.px (fun y hy => ?_) ho
   obtain⟨z,hz,rfl⟩:=yw.1 hy
   rcases ow.1 hz with hz | hz
   ·exact hpw.1 z hz
   ·simp at hz;subst hz;exact hai a (by simp)
  obtain⟨x,h2,ho2,hf2,hr2⟩:=X7 A (putO a.1.dst va Γ) h1 (fun b hb=>hi b (by simp[hb])) (fun b hb=>hai b (by simp[hb])) hf1 hpw.2 hr
  obtain⟨h1',g1,g2⟩:=swap hia (hf a.1 (by simp)) (hf i.1 (by simp)) hfa hf2 ho ho2
  refine⟨x,h1',g1,hf2.congr fun t ht=>Gx fun e=>(hia.xy t e).1 (EZ ht),va,h2,g2,hfa.congr fun t ht=>(Gx fun e=>hia.yx t e (EZ ht)).symm,?_⟩
  rw[aEW hia]
  exact hr2
end
end Go.VM
namespace Go.VM
section
variable {P:Program} {K:Ctx}
theorem acJ{o:VOp}{Γ:Env}{h h':Heap}{x:V}(hf:B7 o.op=true→Fresh (o.dst.getD 999,0) Γ h)(ho:pX P o.dst o.op Γ h x h') :
  iW P o.dst o.op Γ h fun Γ' h''=>Γ'=putO o.dst x Γ∧h''=h':=by
 revert ho hf
 generalize o.op=op
 intro hf ho
 cases op
 case call f args=>obtain⟨h1,rfl⟩:=ho;exact⟨x,h1,rfl,rfl⟩
 case callv q args=>obtain⟨⟨f,caps,h1,h2,h3⟩,rfl⟩:=ho;exact⟨f,caps,h1,h2,x,h3,rfl,rfl⟩
 all_goals first
  | (exact⟨hf,x,h',ho,rfl,rfl⟩)
  | (obtain⟨h1,rfl⟩:=ho;exact⟨x,h1,rfl,rfl⟩)
theorem WX{o:VOp}{Γ:Env}{h h':Heap}{x:V}(ho:FZ P o Γ h x h'):sj o.guard Γ (pX P o.dst o.op Γ h x h') (x=B1∧h'=h):=by
 unfold FZ at ho
 cases hg:o.guard with
 | none=>simp only[hg]at ho;simp only[sj];exact ho
 | some tb =>
  obtain⟨t,b⟩:=tb
  simp only[hg]at ho
  simp only[sj]
  exact ho
def rest(n:Nat)(listed:Array Bool):List Nat:=(List.range n).filter fun i=>!listed.getD i true
theorem Uj{n i:Nat}{listed:Array Bool}(hs:n≤listed.size)(hi:i<n)(hl:listed.getD i true=false) :
  ∃A C,rest n listed=A++i::C∧rest n (listed.setIfInBounds i true)=A++C∧(∀a∈A,a<i∧listed.getD a true=false)∧(∀c∈C,i<c∧c<n):=by
 have hr:List.range n=List.range i++i::(List.range' (i+1) (n-i-1)):=by
  apply List.ext_getElem?
  intro j
  simp only[List.getElem?_append,List.length_range]
  by_cases h1:j<i
  ·have h2:j<n:=by omega
   simp[h1,h2]
  ·by_cases h2:j=i
   ·subst h2;simp[hi]
   ·obtain⟨m,hm⟩ : ∃m,j-i=m+1:=⟨j-i-1,by omega⟩
    simp only[h1,sk,hm,List.getElem?_cons_succ]
    by_cases h4:j<n
    ·rw[List.getElem?_range h4,List.getElem?_range' (by omega)]
     simp;omega
    ·rw[vw (by simp;omega),vw (by simp;omega)]
 have hg:∀j,(listed.setIfInBounds i true).getD j true=if j=i then true else listed.getD j true:=by
  intro j
  simp only[Array.getD_eq_getD_getElem?,Array.getElem?_setIfInBounds]
  by_cases e:i=j
  ·subst e;have:i<listed.size:=by omega
   simp[this]
  ·have e' : ¬j=i:=fun x=>e x.symm
   simp only[e,e',sk]
 refine⟨(List.range i).filter fun j=>!listed.getD j true,(List.range' (i+1) (n-i-1)).filter fun j=>!listed.getD j true,?_,?_,?_,?_⟩
 ·unfold rest
  rw[hr,List.filter_append,List.filter_cons]
  simp[hl]
 ·unfold rest
  rw[hr,List.filter_append,List.filter_cons]
  have e0:(!(listed.setIfInBounds i true).getD i true)=false:=by rw[hg];simp
  rw[e0]
  simp only[rk,sk]
  congr 1
  ·apply List.filter_congr
   intro j hj
   rw[hg]
   have:j≠i:=by have:=List.mem_range.1 hj;omega
   simp[this]
  ·apply List.filter_congr
   intro j hj
   rw[hg]
   have:j≠i:=by have:=List.mem_range'.1 hj;omega
   simp[this]
 ·intro a ha
  simp only[List.mem_filter,List.mem_range,Cw]at ha
  exact ha
 ·intro c hc
  simp only[List.mem_filter,List.mem_range']at hc
  obtain⟨⟨j,h1,h2⟩,_⟩:=hc
  omega
structure M6(ops:Array Oper)(vl:List VOp)(fs:List (Option J9)):Prop where
 len:vl.length=ops.size
 edge:∀i,i<ops.size→∀e∈(ops.getD i default).after.toList,Region.binds .any e=true→e.on<i
 table:∀i,i<ops.size→∀a,a<ops.size→((Region.before ops).getD i 0).testBit a=true→∃e∈(ops.getD i default).after.toList,Region.binds .any e=true∧(a=e.on∨((Region.before ops).getD e.on 0).testBit a=true)
 pair:∀i,i<ops.size→∀a,a<i→(((Region.before ops).getD i 0).testBit a=true∨Z3 (vl.getD a default) (vl.getD i default) (fs.getD a none) (fs.getD i none))∧rW (vl.getD a default) (vl.getD i default)=true∧rW (vl.getD i default) (vl.getD a default)=true
 plain:∀o∈vl,o.op.plain=true
theorem aMJ{ops:Array Oper}{i:Nat}(hi:i<ops.size):(BZ ops).getD i 0=(Region.before ops).getD i 0:=by
 unfold BZ
 simp only[List.getD]
 rw[lw (by simpa using hi)]
 simp[hi]
theorem acx{ops:Array Oper}{vl:List VOp}{fs:List (Option J9)}(h:MJ ops vl=true)(h':M3 (BZ ops) vl fs=true):M6 ops vl fs:=by
 simp only[MJ,gk,Dk,List.all_eq_true,List.mem_range,Bw,Cw,List.any_eq_true,beq_iff_eq]at h
 simp only[M3,gk,List.all_eq_true,List.mem_range,Bw]at h'
 obtain⟨⟨⟨h1,h2⟩,h3⟩,h5⟩:=h
 refine⟨h1,fun i hi e he hb=>?_,fun i hi a ha hb=>?_,fun i hi a ha=>?_,h5⟩
 ·rcases h2 i hi e he with h | h
  ·rw[hb]at h;simp at h
  ·exact h
 ·rcases h3 i hi a ha with h | h
  ·rw[hb]at h;simp at h
  ·obtain⟨e,he,h6,h7⟩:=h;exact⟨e,he,h6,h7⟩
 ·obtain⟨⟨g1,g2⟩,g3⟩:=h' i (by omega) a ha
  rw[aMJ (by omega)]at g1
  exact⟨g1.imp id aoJ,g2,g3⟩
theorem X0{n:Nat}{ops:Array Oper}:∀ {l:List Oper} {vl:List VOp},l.mapM (kq P n ops)=some vl→∀(i:Nat) o,l[i]? = some o→∃vo,vl[i]? = some vo∧kq P n ops o=some vo
 | [],vl,hm,i,o,hi=>by simp at hi
 | x::l,vl,hm,i,o,hi=>by
  simp only[List.mapM_cons,Option.bind_eq_bind,Option.pure_def]at hm
  cases hx:kq P n ops x with
  | none=>simp[hx]at hm
  | some vo =>
   cases hr:l.mapM (kq P n ops)with
   | none=>simp[hx,hr]at hm
   | some r =>
    simp[hx,hr]at hm
    subst hm
    cases i with
    | zero=>simp at hi;subst hi;exact⟨vo,rfl,hx⟩
    | succ i=>simpa using X0 hr i o (by simpa using hi)
theorem PK{n:Nat}(hK:K.ntmps=n)(hn:n≤1000){ops:Array Oper}{vl:List VOp}{fs:List (Option J9)}(hm:ops.toList.mapM (kq P n ops)=some vl)(hok:M6 ops vl fs){Q:Exit→Act→World→Prop}{k:Env→Heap→Prop}
  (hk:∀Γ' h' a' w',k Γ' h'→St K Γ' h' a' w'→Q .normal a' w') :
  ∀(fuel:Nat) (listed:Array Bool) (Γ:Env) (h:Heap) (a:Act) (w:World),listed.size=ops.size→(rest ops.size listed).length≤fuel →
   (∀j,j<ops.size→listed.getD j true=true→∀b,b<ops.size→((Region.before ops).getD j 0).testBit b=true→listed.getD b true=true) →
   St K Γ h a w→avZ P ((rest ops.size listed).map fun i=>(vl.getD i default,fs.getD i none)) Γ h k→FreshAll ((rest ops.size listed).map fun i=>vl.getD i default) Γ h→wpAny P .any ops Q fuel listed a w:=by
 have ready_of:∀(listed:Array Bool) i,i∈Region.ready .any ops listed↔i<ops.size∧listed.getD i true=false∧∀e∈(ops.getD i default).after.toList,Region.binds .any e=true→listed.getD e.on false=true:=by
  intro listed i
  simp only[Region.ready,List.mem_filter,List.mem_range,gk,Cw]
  constructor
  ·rintro⟨h1,h2,h3⟩
   refine⟨h1,h2,fun e he hb=>?_⟩
   simp only[Array.getElem?_eq_getElem h1,qw,Option.getD_some,Array.all_eq_true']at h3
   have:=h3 e (by simpa[Array.getD,h1]using he)
   simpa[hb]using this
  ·rintro⟨h1,h2,h3⟩
   refine⟨h1,h2,?_⟩
   simp only[Array.getElem?_eq_getElem h1,qw,Option.getD_some,Array.all_eq_true']
   intro e he
   by_cases hb:Region.binds .any e=true
   ·have:=h3 e (by simpa[Array.getD,h1]using he) hb
    simp[this]
   ·simp[hb]
 have M1:∀(listed:Array Bool),listed.size=ops.size→Region.ready .any ops listed=[]→rest ops.size listed=[]:=by
  intro listed hs hr
  have all:∀j,j<ops.size→listed.getD j true=true:=by
   intro j
   induction j using Nat.strongRecOn with
   | _ j ih =>
    intro hj
    cases hb:listed.getD j true with
    | true=>rfl
    | false =>
     exfalso
     have hready:j∈Region.ready .any ops listed:=by
      rw[ready_of]
      refine⟨hj,hb,fun e he hbe=>?_⟩
      have hlt:=hok.edge j hj e he hbe
      have:=ih e.on hlt (by omega)
      have hsz:e.on<listed.size:=by omega
      simpa[Array.getD,hsz]using this
     rw[hr]at hready
     simp at hready
  unfold rest
  rw[List.filter_eq_nil_iff]
  intro j hj
  simp[all j (List.mem_range.1 hj)]
 intro fuel
 induction fuel with
 | zero =>
  intro listed Γ h a w hs hf hcl st hr hfr
  have hnil:rest ops.size listed=[]:=fk (by omega)
  rw[hnil]at hr
  refine⟨?_,hk _ _ _ _ hr st⟩
  cases hrd:Region.ready .any ops listed with
  | nil=>rfl
  | cons i r =>
   exfalso
   have hi:i∈Region.ready .any ops listed:=by rw[hrd];simp
   rw[ready_of]at hi
   have:i∈rest ops.size listed:=by simp only[rest,List.mem_filter,List.mem_range,hi.2.1];simp[hi.1]
   rw[hnil]at this;simp at this
 | succ fuel ih =>
  intro listed Γ h a w hs hf hcl st hr hfr
  refine⟨fun hrd=>?_,fun i hi=>?_⟩
  ·rw[M1 listed hs hrd]at hr
   exact hk _ _ _ _ hr st
  ·rw[ready_of]at hi
   obtain⟨hil,hiu,hie⟩:=hi
   obtain⟨A,C,h1,h2,h3,h4⟩:=Uj (by omega) hil hiu
   have htest:∀b,b<ops.size→((Region.before ops).getD i 0).testBit b=true→listed.getD b true=true:=by
    intro b hb ht
    obtain⟨e,he,hbe,hor⟩:=hok.table i hil b hb ht
    have hlist:=hie e he hbe
    have hon:e.on<ops.size:=by have:=hok.edge i hil e he hbe;omega
    have hon':listed.getD e.on true=true:=by
     have hsz:e.on<listed.size:=by omega
     simpa[Array.getD,hsz]using hlist
    rcases hor with rfl | hor
    ·exact hon'
    ·exact hcl e.on hon hon' b hb hor
   have hind:∀b∈A,Z3 (vl.getD b default) (vl.getD i default) (fs.getD b none) (fs.getD i none):=by
    intro b hb
    have hb':=h3 b hb
    rcases(hok.pair i hil b hb'.1).1 with ht | hx
    ·have:=htest b (by omega) ht
     rw[hb'.2]at this;simp at this
    ·exact hx
   rw[h1]at hr hfr
   simp only[List.map_append,qk]at hr hfr
   have hpw:(A.map fun i=>vl.getD i default).Pairwise fun a b=>rW a b=true:=by
    rw[List.pairwise_map]
    have hsub:A.Pairwise (· < ·):=by
     have hall:(rest ops.size listed).Pairwise (· < ·):=List.Pairwise.filter _ (by rw[List.range_eq_range'];exact List.pairwise_lt_range')
     rw[h1,List.pairwise_append]at hall
     exact hall.1
    refine hsub.imp_of_mem fun {x y} hx hy hlt=>?_
    have:=h3 y hy
    exact(hok.pair y (by omega) x hlt).2.1
   have hpw2:(A.map fun i=>(vl.getD i default,fs.getD i none)).Pairwise fun a b=>rW a.1 b.1=true:=by
    rw[List.pairwise_map]at hpw ⊢
    exact hpw
   obtain⟨x,h',ho,_,hr'⟩:=X7 (A.map fun i=>(vl.getD i default,fs.getD i none)) Γ h (fun b hb=>by obtain⟨j,hj,rfl⟩:=yw.1 hb;exact hind j hj)
    (fun b hb=>by obtain⟨j,hj,rfl⟩:=yw.1 hb;exact(hok.pair i hil j (h3 j hj).1).2.1)
    (fun y hy=>hfr y (by
     obtain⟨z,hz,rfl⟩:=yw.1 hy
     rcases ow.1 hz with hz | hz
     ·obtain⟨q,hq,rfl⟩:=yw.1 hz
      exact ow.2 (.inl (yw.2 ⟨q,hq,rfl⟩))
     ·rw[fw.1 hz];exact ow.2 (.inr (by simp)))) hpw2 hr
   have hoi:ops[i]? = some ops[i]:=Array.getElem?_eq_getElem hil
   obtain⟨vo,hvo,hco⟩:=X0 hm i ops[i] (by simp)
   have hvl:vl.getD i default=vo:=by simp[List.getD,hvo]
   simp only[hvl]at ho hr'
   have hfi:B7 vo.op=true→Fresh (vo.dst.getD 999,0) Γ h:=by
    intro hn'
    have:=hfr (vl.getD i default) (by simp) (by rw[hvl];exact hn')
    rwa [hvl]at this
   have hpl:vo.op.plain=true:=hok.plain vo (nw hvo)
   obtain⟨hdst,hop,hd,hg⟩:=QQ st hco
   have next:∀a' w',St K (putO vo.dst x Γ) h' a' w'→wpAny P .any ops Q fuel (listed.setIfInBounds i true) a' w':=by
    intro a' w' st'
    have hsz:(listed.setIfInBounds i true).size=ops.size:=by simpa using hs
    have hgd:∀j,(listed.setIfInBounds i true).getD j true=if j=i then true else listed.getD j true:=by
     intro j
     simp only[Array.getD_eq_getD_getElem?,Array.getElem?_setIfInBounds]
     by_cases e:i=j
     ·subst e;simp[hs,hil]
     ·have e' : ¬j=i:=fun x=>e x.symm
      simp only[e,e',sk]
    refine ih _ _ _ a' w' hsz ?_ ?_ st' ?_ ?_
    ·rw[h2];rw[h1]at hf;simp at hf ⊢;omega
    ·intro j hj hl b hb ht
     rw[hgd]at hl ⊢
     by_cases ebi:b=i
     ·simp[ebi]
     ·simp only[ebi,sk]
      by_cases eji:j=i
      ·subst eji;exact htest b hb ht
      ·simp only[eji,sk]at hl;exact hcl j hj hl b hb ht
    ·rw[h2];simpa using hr'
    ·rw[h2]
     have hfAC:FreshAll ((A++C).map fun i=>vl.getD i default) Γ h:=fun y hy hn'=>hfr y (by
      rw[List.map_append]at hy
      rcases ow.1 hy with hy | hy
      ·exact ow.2 (.inl hy)
      ·exact ow.2 (.inr (Aw _ hy))) hn'
     refine FreshAll.step hfAC hpl (fun y hy=>?_) ho
     obtain⟨j,hj,rfl⟩:=yw.1 hy
     rw[←hvl]
     rcases ow.1 hj with hj | hj
     ·exact(hok.pair i hil j (h3 j hj).1).2.2
     ·have:=h4 j hj
      exact(hok.pair j this.2 i this.1).2.1
   unfold wpOp
   rw[hoi]
   simp only
   rcases hg (WX ho)with⟨hw,hy⟩ | ⟨hw,hx,hh⟩
   ·simp only[hw,if_true]
    left
    have hst:=acJ (P:=P) hfi hy
    rw[hdst]at hst
    exact B8 st hop (by omega) (fun d he=>by rw[hK];exact hd d he) hst fun Γ' h'' a' w' hkk st'=>by
     obtain⟨rfl,rfl⟩:=hkk
     exact next a' w' (by rw[hdst];exact st')
   ·simp only[hw,rk,sk]
    subst hx;subst hh
    refine next _ _ ?_
    rw[hdst]
    obtain⟨B,s⟩:=st
    exact St.putO s (fun d he=>by rw[hK];exact hd d he) (show RepV w _ B undef B1 from⟨#[],rfl,Pt.nil⟩)
end
end Go.VM
namespace Go.VM
section
variable {P:Program} {n:Nat} {I:Option (List Oid)} {Q:Exit→Env→Heap→Prop} {Γ:Env} {h:Heap}
theorem VZ{α:Type}[Inhabited α](l:List α):(List.range l.length).map (fun i=>l.getD i default)=l:=by
 apply List.ext_getElem?
 intro i
 simp only[jw,List.getD_eq_getElem?_getD]
 by_cases hi:i<l.length
 ·rw[List.getElem?_range hi]
  simp[hi]
 ·rw[vw (by simp;omega),vw (by omega)]
  rfl
theorem O8(n:Nat):rest n (Array.replicate n false)=List.range n:=by
 unfold rest
 rw[List.filter_eq_self]
 intro i hi
 have hi:=List.mem_range.1 hi
 simp[Array.getD,hi]
theorem axW{os:List VOp}{fs:List (Option J9)}(hl:fs.length=os.length):(List.range os.length).map (fun i=>(os.getD i default,fs.getD i none))=os.zip fs:=by
 apply List.ext_getElem?
 intro i
 simp only[jw,List.getD_eq_getElem?_getD]
 by_cases hi:i<os.length
 ·rw[List.getElem?_range hi]
  have hi':i<fs.length:=by omega
  simp[List.zip,List.getElem?_zipWith,hi,hi']
 ·rw[vw (by simp;omega),vw (by simp;omega)]
  rfl
theorem WJ{bs:List Nat}{ops:List VOp}(fs:List (Option J9))(hn:n≤1000)(hl:fs.length=ops.length)(hp:M3 bs ops fs=true)(hf:FreshAll ops Γ h)(hq:AX P (ops.zip fs) Γ h fun Γ' h'=>Q .normal Γ' h'):W P n I (.region (some bs) ops) Q Γ h:=by
 intro c hc K hK a w s
 obtain⟨id,ops',b,rfl,hvl,_,hord⟩:=zq hc
 obtain⟨rfl,rfl,hoo,hmx⟩:=hord bs rfl
 have hok:=acx (fs:=fs) hoo hp
 refine wp_region_any hmx ?_
 have e1:(rest ops'.size (Array.replicate ops'.size false)).map (fun i=>(ops.getD i default,fs.getD i none))=ops.zip fs:=by
  rw[O8,←hok.len,axW hl]
 have e2:(rest ops'.size (Array.replicate ops'.size false)).map (fun i=>ops.getD i default)=ops:=by
  rw[O8,←hok.len,VZ]
 refine PK (k:=fun Γ' h'=>Q .normal Γ' h') hK.1 hn hvl hok (fun Γ' h' a' w' hk s'=>⟨Γ',h',hk,s'⟩) ops'.size _ Γ h a _ (by simp) ?_ ?_ ?_ (by rw[e1];exact x9 hq) (by rw[e2];exact hf)
 ·rw[O8];simp
 ·intro j hj hl
  simp[Array.getD,hj]at hl
 ·obtain⟨B,s⟩:=s
  exact⟨B,s.grow (Fr.drew w _)⟩
theorem Y4:∀(os:List VOp) (fs:List (Option J9)),fs=List.replicate os.length none→os.zip fs=TW os
 | [],fs,h=>by subst h;rfl
 | o::os,fs,h=>by
  subst h
  simp only[uw,List.replicate_succ,List.zip_cons_cons,TW,qk]
  rw[Y4 os _ rfl];rfl
theorem W0{bs:List Nat}{ops:List VOp}(hn:n≤1000)(hp:M3 bs ops (List.replicate ops.length none)=true)(hf:FreshAll ops Γ h)(hq:vY P ops Γ h fun Γ' h'=>Q .normal Γ' h'):W P n I (.region (some bs) ops) Q Γ h :=
 WJ (List.replicate ops.length none) hn (by simp) hp hf (by rw[Y4 ops _ rfl];exact GV hq)
end
end Go.VM
namespace Go.VM
def VK(σ:Oid→Oid):Cap→Cap
 | .ptr o=>.ptr (σ o)
 | .imm t=>.imm t
def Hz(σ:Oid→Oid):C→C
 | .slO o=>.slO (σ o)
 | .ptrO o off=>.ptrO (σ o) off
 | .elO o k i off=>.elO (σ o) k i off
 | .mapO o=>.mapO (σ o)
 | .fn f caps=>.fn f (caps.map (VK σ))
 | .imm t=>.imm t
 | .nilS=>.nilS
 | .nilM=>.nilM
 | .ptrI cells=>.ptrI cells
 | .junk=>.junk
def abX(σ:Oid→Oid):V→V
 | .c x=>.c (Hz σ x)
 | .agg cs=>.agg (cs.map (Hz σ))
 | .tup vs=>.tup vs
 | .junk=>.junk
def D9(σ:Oid→Oid):V→V
 | .tup vs=>.tup (vs.map (abX σ))
 | x=>abX σ x
def uj(σ:Oid→Oid):Ob→Ob
 | .arr e k rows=>.arr e k rows
 | .box cs=>.box (cs.map (Hz σ))
 | .map kd es=>.map kd es
 | .mapC kd es=>.mapC kd (es.map fun p=>(p.1,Hz σ p.2))
 | .arrC e k rows=>.arrC e k (rows.map fun r=>r.map (Hz σ))
 | .fam G=>.fam G
section
variable {w:World} {ok:Nat→Prop} {B:Oid→Value} {σ:Oid→Oid}
theorem Pt.map{α β γ:Type}{R:α→β→Prop}{R':α→γ→Prop}{f:β→γ}{cs:List α}{xs:List β}(h:Pt R cs xs)(hr:∀v x,R v x→R' v (f x)):Pt R' cs (xs.map f) :=
 ⟨by simp[h.1],fun j v x hv hx=>by
  simp only[jw,aw]at hx
  obtain⟨y,hy,rfl⟩:=hx
  exact hr v y (h.2 j v y hv hy)⟩
theorem RepC.ren(hσ:∀o,σ (σ o)=o){v:Value}{x:C}(h:RepC w ok B v x):RepC w ok (fun o=>B (σ o)) v (Hz σ x):=by
 cases h with
 | imm v t h=>exact .imm v t h
 | nilS=>exact .nilS
 | nilM=>exact .nilM
 | slO o a len cap h=>exact .slO _ a len cap (by simp only[hσ];exact h)
 | ptrO o off b h=>exact .ptrO _ off b (by simp only[hσ];exact h)
 | elO o k i off b len cap h=>exact .elO _ k i off b len cap (by simp only[hσ];exact h)
 | mapO o r h=>exact .mapO _ r (by simp only[hσ];exact h)
 | ptrI b off cells h=>exact .ptrI b off cells h
 | fn f cs caps h=>exact .fn f cs _ (h.map fun v x hr=>by
   cases hr with
   | ptr o b h=>exact .ptr _ b (by simp only[hσ];exact h)
   | imm v t h=>exact .imm v t h)
 | junk v h=>exact .junk v h
theorem RepS.ren(hσ:∀o,σ (σ o)=o){v:Value}{x:V}(h:RepS w ok B v x):RepS w ok (fun o=>B (σ o)) v (abX σ x):=by
 cases x with
 | c x=>exact RepC.ren hσ h
 | agg xs=>obtain⟨cs,rfl,hp⟩:=h;exact⟨cs,rfl,hp.map fun v x hr=>hr.ren hσ⟩
 | tup _=>exact h.elim
 | junk=>trivial
theorem RepV.ren(hσ:∀o,σ (σ o)=o){v:Value}{x:V}(h:RepV w ok B v x):RepV w ok (fun o=>B (σ o)) v (D9 σ x):=by
 cases x with
 | c x=>exact RepC.ren hσ h
 | agg xs=>exact RepS.ren (x:=.agg xs) hσ h
 | junk=>trivial
 | tup xs =>
  obtain⟨vs,rfl,hp⟩:=h
  exact⟨vs,rfl,hp.map fun v x hr=>hr.ren hσ⟩
theorem ObR.ren(hσ:∀o,σ (σ o)=o){v:Value}{x:Ob}(h:ObR w ok B v x):ObR w ok (fun o=>B (σ o)) v (uj σ x):=by
 cases x with
 | arr e k rows=>exact h
 | box cs =>
  obtain⟨b,c,t,rfl,hh,hp⟩:=h
  exact⟨b,c,t,rfl,hh,hp.map fun v x hr=>hr.ren hσ⟩
 | map kd es =>
  obtain⟨b,es',clock,rfl,hh,hc,hs,he⟩:=h
  refine⟨b,es',clock,rfl,hh,hc,hs,fun i e p hi hp=>?_⟩
  obtain⟨h1,h2,h3,h4⟩:=he i e p hi hp
  exact⟨h1,h2,h3,h4.mono (fun _ _=>rfl) (fun _ h=>h) fun o hm=>by rw[MT.refs]at hm;simp at hm⟩
 | mapC kd es =>
  obtain⟨b,es',clock,rfl,hh,hc,hs,he⟩:=h
  refine⟨b,es',clock,rfl,hh,by simpa using hc,by simpa using hs,fun i e p hi hp=>?_⟩
  rw[jw,aw]at hp
  obtain⟨q,hq,rfl⟩:=hp
  obtain⟨h1,h2,h3,h4⟩:=he i e q hi hq
  exact⟨h1,h2,h3,h4.ren hσ⟩
 | arrC e k rows =>
  obtain⟨h0,hk,cs,hown,hp⟩:=h
  refine⟨h0,fun row hr=>?_,cs,by simpa using hown,?_⟩
  ·obtain⟨r,h1,rfl⟩:=yw.1 hr
   simpa using hk r h1
  ·rw[←List.map_flatten];exact hp.map fun v x hr=>hr.ren hσ
 | fam G=>exact h.elim
end
section
variable {n:Nat} {I:Option (List Oid)} {Γ Γ':Env} {h h':Heap}
theorem Sim.ren(σ:Oid→Oid)(hσ:∀o,σ (σ o)=o)(hfix:∀o,1000≤o.1→σ o=o):Sim n I Γ h (fun t=>D9 σ (Γ t)) (fun o=>(h (σ o)).map (uj σ)):=by
 rintro K hK a w ⟨B,s⟩
 have hok:∀b,mK K.w0.heap.size K.ok0 w B h b↔mK K.w0.heap.size K.ok0 w (fun o=>B (σ o)) (fun o=>(h (σ o)).map (uj σ)) b:=by
  intro b
  unfold mK
  refine and_congr_right fun _=>and_congr_right fun _=>⟨fun hx o ob ho=>?_,fun hx o ob ho=>?_⟩
  ·simp only[aw]at ho
   obtain⟨ob',ho',_⟩:=ho
   exact hx (σ o) ob' ho'
  ·have:=hx (σ o) (uj σ ob) (by simp[hσ,ho])
   simpa[hσ]using this
 have hmk:∀b,mK K.w0.heap.size K.ok0 w B h b→mK K.w0.heap.size K.ok0 w (fun o=>B (σ o)) (fun o=>(h (σ o)).map (uj σ)) b:=fun b=>(hok b).1
 refine⟨fun o=>B (σ o),fun t=>?_,⟨fun o ob ho=>?_,fun o o' ob ob' b ho ho' hb hb'=>?_⟩,s.defers,s.size,s.fr,fun o ob b ho hb hlt=>?_,fun o ho=>?_⟩
 ·exact((s.slots t).mono (fun _ _=>rfl) hmk fun _ _=>rfl).ren hσ
 ·simp only[aw]at ho
  obtain⟨ob',ho',rfl⟩:=ho
  exact((s.objs.rep (σ o) ob' ho').mono (fun _ _=>rfl) hmk (fun _ _=>rfl) fun _ _=>rfl).ren hσ
 ·simp only[aw]at ho ho'
  obtain⟨ob1,ho1,_⟩:=ho
  obtain⟨ob2,ho2,_⟩:=ho'
  have:=s.objs.apart (σ o) (σ o') ob1 ob2 b ho1 ho2 hb hb'
  have h2:=congrArg σ this
  simpa[hσ]using h2
 ·simp only[aw]at ho
  obtain⟨ob',ho',_⟩:=ho
  exact s.own (σ o) ob' b ho' hb hlt
 ·obtain⟨h1,h2⟩:=s.pin o ho
  exact⟨h1,by simp only[hfix o h1];exact h2⟩
theorem StB.reslot{K:Ctx}{B:Oid→Value}{a:Act}{w:World}(s:StB K B Γ h a w){t:Nat}{x:V}(hx:RepV w (mK K.w0.heap.size K.ok0 w B h) B (a.tmps.getD t undef) x):StB K B (Γ.put t x) h a w:=by
 refine⟨fun u=>?_,s.objs,s.defers,s.size,s.fr,s.own,s.pin⟩
 unfold Env.put
 by_cases e:u=t
 ·subst e;simp only[if_true];exact hx
 ·simp only[e,sk];exact s.slots u
theorem Sim.own{t:Nat}{o:Oid}(e k:Nat)(ht:Γ t = .c .nilS)(hk:0<k)(hf:Fresh o Γ h)(ho:o.1<1000):Sim n I Γ h (Γ.put t (.c (.slO o))) (h.put o (.arr e k [])):=by
 rintro K hK a w ⟨B,s⟩
 obtain⟨B',hBo,hB,hok,s'⟩:=s.new o (.arr e k []) (.slice none 0 0) (w':=w) hf (E1 s ho) (Fr.refl _ _) (fun b hb=>by simp[gz]at hb)
  (fun B' hB hBo hok=>⟨hk,by simp,[],⟨by simp,.inl ⟨rfl,rfl⟩⟩,Pt.nil⟩)
 refine⟨B',s'.reslot ?_⟩
 have hv:=s.slots t
 rw[ht]at hv
 generalize hgv:a.tmps.getD t undef=v at hv
 have hv2:v = .slice none 0 0:=by
  have:RepC w (mK K.w0.heap.size K.ok0 w B h) B v .nilS:=hv
  cases this;rfl
 rw[hv2]
 exact RepC.slO o none 0 0 hBo
end
end Go.VM
namespace Go.VM
section
variable {n:Nat} {I:Option (List Oid)} {Γ Γ':Env} {h h':Heap} {K:Ctx} {B:Oid→Value} {a:Act} {w:World}
def F4(o:Oid)(t:T):C→C
 | .slO o'=>if o'=o then .imm t else .slO o'
 | .elO o' k i off=>if o'=o then .junk else .elO o' k i off
 | x=>x
def aoY(o:Oid)(t:T):V→V
 | .c x=>.c (F4 o t x)
 | .agg cs=>.agg (cs.map (F4 o t))
 | _=>.junk
def awz(o:Oid)(t:T):V→V
 | .tup vs=>.tup (vs.map (aoY o t))
 | x=>aoY o t x
def KJ(o:Oid)(t:T):Ob→Ob
 | .arr e k rows=>.arr e k rows
 | .box cs=>.box (cs.map (F4 o t))
 | .map kd es=>.map kd es
 | .mapC kd es=>.mapC kd (es.map fun p=>(p.1,F4 o t p.2))
 | .arrC e k rows=>.arrC e k (rows.map fun r=>r.map (F4 o t))
 | .fam G=>.fam G
def LQ(o:Oid)(t:T)(h:Heap):Heap:=fun p=>if p=o then none else(h p).map (KJ o t)
section
variable {ok ok':Nat→Prop} {o:Oid} {t:T}
theorem RepC.frz(hok:∀b,ok b→ok' b)(ht:∀v,RepC w ok B v (.slO o)→RepT w ok' v t){v:Value}{x:C}(h:RepC w ok B v x):RepC w ok' B v (F4 o t x):=by
 have hm:=h.mono (w':=w) (ok':=ok') (B':=B) (fun _ _=>rfl) hok (fun _ _=>rfl)
 cases x with
 | slO o' =>
  simp only[F4]
  split
  ·rename_i e;subst e;exact .imm _ _ (ht v h)
  ·exact hm
 | elO o' k i off =>
  simp only[F4]
  split
  ·exact .junk v h.one
  ·exact hm
 | _=>exact hm
theorem RepS.frz(hok:∀b,ok b→ok' b)(ht:∀v,RepC w ok B v (.slO o)→RepT w ok' v t){v:Value}{x:V}(h:RepS w ok B v x):RepS w ok' B v (aoY o t x):=by
 cases x with
 | c x=>exact RepC.frz hok ht h
 | agg xs=>obtain⟨cs,rfl,hp⟩:=h;exact⟨cs,rfl,hp.map fun v x hr=>hr.frz hok ht⟩
 | tup _=>exact h.elim
 | junk=>trivial
theorem RepV.frz(hok:∀b,ok b→ok' b)(ht:∀v,RepC w ok B v (.slO o)→RepT w ok' v t){v:Value}{x:V}(h:RepV w ok B v x):RepV w ok' B v (awz o t x):=by
 cases x with
 | c x=>exact RepC.frz hok ht h
 | agg xs=>exact RepS.frz (x:=.agg xs) hok ht h
 | junk=>trivial
 | tup xs =>
  obtain⟨vs,rfl,hp⟩:=h
  exact⟨vs,rfl,hp.map fun v x hr=>hr.frz hok ht⟩
theorem ObR.frz(hok:∀b,ok b→ok' b)(ht:∀v,RepC w ok B v (.slO o)→RepT w ok' v t){v:Value}{x:Ob}(h:ObR w ok B v x):ObR w ok' B v (KJ o t x):=by
 cases x with
 | arr e k rows=>exact ObR.mono (x:=.arr e k rows) h (fun _ _=>rfl) hok (fun _ _=>rfl) fun _ _=>rfl
 | box cs =>
  obtain⟨b,c,t,rfl,hh,hp⟩:=h
  exact⟨b,c,t,rfl,hh,hp.map fun v x hr=>hr.frz hok ht⟩
 | map kd es =>
  obtain⟨b,es',clock,rfl,hh,hc,hs,he⟩:=h
  refine⟨b,es',clock,rfl,hh,hc,hs,fun i e p hi hp=>?_⟩
  obtain⟨h1,h2,h3,h4⟩:=he i e p hi hp
  exact⟨h1,h2,h3,h4.mono (fun _ _=>rfl) hok fun _ _=>rfl⟩
 | mapC kd es =>
  obtain⟨b,es',clock,rfl,hh,hc,hs,he⟩:=h
  refine⟨b,es',clock,rfl,hh,by simpa using hc,by simpa using hs,fun i e p hi hp=>?_⟩
  rw[jw,aw]at hp
  obtain⟨q,hq,rfl⟩:=hp
  obtain⟨h1,h2,h3,h4⟩:=he i e q hi hq
  exact⟨h1,h2,h3,h4.frz hok ht⟩
 | arrC e k rows =>
  obtain⟨h0,hk,cs,hown,hp⟩:=h
  refine⟨h0,fun row hr=>?_,cs,by simpa using hown,?_⟩
  ·obtain⟨r,h1,rfl⟩:=yw.1 hr
   simpa using hk r h1
  ·rw[←List.map_flatten];exact hp.map fun v x hr=>hr.frz hok ht
 | fam G=>exact h.elim
end
theorem Sim.frz{o:Oid}{e k:Nat}{rows:List (List T)}(bY:h o=some (.arr e k rows)){l:List Oid}(hI:I=some l)(hl:∀p∈l,∃cs,h p=some (.box cs)) :
  Sim n I Γ h (fun t=>awz o (.sl k rows) (Γ t)) (LQ o (.sl k rows) h):=by
 rintro K hK a w ⟨B,s⟩
 have hdom:∀p ob,LQ o (.sl k rows) h p=some ob→p≠o∧∃ob1,h p=some ob1∧ob=KJ o (.sl k rows) ob1:=by
  intro p ob hp
  unfold LQ at hp
  split at hp
  ·simp at hp
  ·rename_i hne
   obtain⟨ob1,h1,h2⟩:=aw.1 hp
   exact⟨hne,ob1,h1,h2.symm⟩
 have hmk:∀b,mK K.w0.heap.size K.ok0 w B h b→mK K.w0.heap.size K.ok0 w B (LQ o (.sl k rows) h) b:=fun b hb =>
  ⟨hb.1,hb.2.1,fun p ob hp=>by obtain⟨_,ob1,h1,_⟩:=hdom p ob hp;exact hb.2.2 p ob1 h1⟩
 have hblk:∀b,gz (B o)=some b→mK K.w0.heap.size K.ok0 w B (LQ o (.sl k rows) h) b:=by
  intro b hb
  refine⟨(s.objs.rep o _ bY).lt hb,fun hlt=>?_,fun p ob hp hpb=>?_⟩
  ·exfalso
   obtain⟨p,hpar⟩:=s.own o _ b bY hb hlt
   obtain⟨hpl,hpin,hpb⟩:=hK.2 l hI p b hpar
   obtain⟨cs,hcs⟩:=hl p hpl
   have hB:=(s.pin p hpin).2
   have:=s.objs.apart p o _ _ b hcs bY (by rw[hB];exact hpb) hb
   subst this
   rw[bY]at hcs;simp at hcs
  ·obtain⟨hne,ob1,h1,_⟩:=hdom p ob hp
   exact hne (s.objs.apart p o ob1 _ b h1 bY hpb hb)
 have ht:∀v,RepC w (mK K.w0.heap.size K.ok0 w B h) B v (.slO o)→RepT w (mK K.w0.heap.size K.ok0 w B (LQ o (.sl k rows) h)) v (.sl k rows):=fun v hv =>
  acZ s bY hv hblk fun u i row j x _ _ hr=>hr.mono (fun _ _=>rfl) hmk
 refine⟨B,fun t=>(s.slots t).frz hmk ht,⟨fun p ob hp=>?_,fun p p' ob ob' b hp hp'=>?_⟩,s.defers,s.size,s.fr,fun p ob b hp=>?_,s.pin⟩
 ·obtain⟨_,ob1,h1,rfl⟩:=hdom p ob hp
  exact(s.objs.rep p ob1 h1).frz hmk ht
 ·obtain⟨_,ob1,h1,_⟩:=hdom p ob hp
  obtain⟨_,ob2,h2,_⟩:=hdom p' ob' hp'
  exact s.objs.apart p p' ob1 ob2 b h1 h2
 ·obtain⟨_,ob1,h1,_⟩:=hdom p ob hp
  exact s.own p ob1 b h1
end
end Go.VM
namespace Go.VM
def asW(o:Oid)(Γ:Env)(h hin:Heap):Prop:=(∀t,o∉(Γ t).refs)∧∀p ob,h p=some ob→hin p=none→p≠o∧o∉ob.refs
def aVK(x y:V):Prop:=x=y∨agz noHeap x y
def VX:List V→List V→Prop
 | [],[]=>True
 | x::xs,y::ys=>aVK x y∧VX xs ys
 | _,_=>False
def u7(h hin hout:Heap):Heap:=fun o=>match hout o with
 | some ob=>some ob
 | none=>match hin o with
  | some _=>none
  | none=>h o
structure aPz(P:Program)(f:FuncId)(pins:List Oid)(vs:List V)(Γ:Env)(h hin:Heap)(r:V)(hout:Heap):Prop where
 fn:∃us,VX vs us∧Fun P f false pins us hin r hout
 sub:∀o ob,hin o=some ob→h o=some ob
 names:∀o ob,hout o=some ob→o∈pins∨(o.1<1000∧asW o Γ h hin)
 closed:∀o ob,hout o=some ob→∀p∈ob.refs,(hout p).isSome=true∨p∈pins
 res:∀p∈r.refs,(hout p).isSome=true∨p∈pins
section
variable {P:Program} {K:Ctx} {B:Oid→Value} {Γ:Env} {h:Heap} {a:Act} {w:World}
theorem Y9(s:StB K B Γ h a w):∀(vs:List Value) (xs ys:List V),Pt (RepV w (okS K w B h) B) vs xs→VX xs ys→Pt (RepV w (okS K w B h) B) vs ys
 | [],cs,ts,hp,hm=>by
  have:cs=[]:=fk (by have:=hp.1;simpa using this.symm)
  subst this
  cases ts with
  | nil=>exact Pt.nil
  | cons _ _=>simp[VX]at hm
 | v::vs,cs,ts,hp,hm=>by
  cases cs with
  | nil=>have:=hp.1;simp at this
  | cons c cs =>
   cases ts with
   | nil=>simp[VX]at hm
   | cons t ts =>
    have ht:Pt (RepV w (okS K w B h) B) vs cs:=⟨by have:=hp.1;simpa using this,fun j u z hu hz=>hp.2 (j+1) u z (by simpa using hu) (by simpa using hz)⟩
    simp only[VX]at hm
    have h0:=hp.2 0 v c rfl rfl
    refine Pt.cons ?_ (Y9 s vs cs ts ht hm.2)
    rcases hm.1 with rfl | hs
    ·exact h0
    ·exact S4 (B0:=B) s (h0:=noHeap) (fun o ob hg=>by simp[noHeap]at hg) (fun b hb=>hb) (fun b ⟨o,ob,hg,_⟩=>by simp[noHeap]at hg) h0 hs
theorem aiX(s:StB K B Γ h a w){f:FuncId}{args:List Value}{vs:List V}{hin hout:Heap}{r:V}(hargs:Pt (RepV w (okS K w B h) B) args vs){pins:List Oid}(hc:aPz P f pins vs Γ h hin r hout) :
  Calls P f args.toArray w fun e w'=>∃v B',e = .returned v∧StB K B' Γ (u7 h hin hout) a w'∧RepV w' (okS K w' B' (u7 h hin hout)) B' v r:=by
 obtain⟨us,hsub,hF⟩:=hc.fn
 have hblt:∀b,n6 B h b→b<w.heap.size:=fun b ⟨o,ob,hg,hb⟩=>(s.objs.rep o ob hg).lt hb
 have hinh:∀b,n6 B hin b→n6 B h b:=fun b ⟨o,ob,hg,hb⟩=>⟨o,ob,hc.sub o ob hg,hb⟩
 refine(hF w (okS K w B h) B args (fun b hb=>hb.1) (fun b hb hx=>?_) (Y9 s _ _ _ hargs hsub) ⟨fun o ob hg=>s.objs.rep o ob (hc.sub o ob hg),fun o o' ob ob' b hg hg'=>s.objs.apart o o' ob ob' b (hc.sub o ob hg) (hc.sub o' ob' hg')⟩).mono fun e w' he=>?_
 ·obtain⟨o,ob,hg,hb'⟩:=hinh b hx
  exact hb.2.2 o ob hg hb'
 obtain⟨v,B',rfl,hfr,hrep,hobjs,hblk,hsame⟩:=he
 let B2:Oid → Value := fun o => match hout o with | some _ => B' o | none => B o
 have hB2o:∀o ob,hout o=some ob→B2 o=B' o:=fun o ob ho=>by simp only[B2,ho]
 have hB2n:∀o,hout o=none→B2 o=B o:=fun o ho=>by simp only[B2,ho]
 have hB2i:∀o,o∈pins→B2 o=B o:=fun o hi=>by
  cases ho:hout o with
  | none=>exact hB2n o ho
  | some ob'=>rw[hB2o o ob' ho,hsame o hi]
 have hB2':∀o,(hout o).isSome=true∨o∈pins→B2 o=B' o:=by
  intro o ho
  cases hg:hout o with
  | some ob=>exact hB2o o ob hg
  | none =>
   rw[hg]at ho
   simp at ho
   rw[hB2n o hg,hsame o ho]
 have cases2:∀o ob,u7 h hin hout o=some ob→hout o=some ob∨(hout o=none∧hin o=none∧h o=some ob):=by
  intro o ob hm
  unfold u7 at hm
  cases ho:hout o with
  | some ob'=>simp only[ho]at hm;exact .inl hm
  | none =>
   simp only[ho]at hm
   cases hi:hin o with
   | some _=>simp only[hi]at hm;simp at hm
   | none=>simp only[hi]at hm;exact .inr ⟨rfl,rfl,hm⟩
 have apartIn:∀o ob b,h o=some ob→hin o=none→gz (B o)=some b→¬n6 B hin b:=by
  rintro o ob b hg hi hb ⟨p,ob',hp,hpb⟩
  have:=s.objs.apart o p ob ob' b hg (hc.sub p ob' hp) hb hpb
  subst this
  rw[hi]at hp;simp at hp
 have hmono:∀b,okS K w B h b→w'.heap[b]? = w.heap[b]?:=fun b hb=>hfr.block b hb.1 fun hx=>by
  obtain⟨o,ob,hg,hb'⟩:=hinh b hx
  exact hb.2.2 o ob hg hb'
 have hok:∀b,okS K w B h b→okS K w' B2 (u7 h hin hout) b:=by
  intro b hb
  refine⟨Nat.lt_of_lt_of_le hb.1 hfr.size,hb.2.1,fun o ob ho hbl=>?_⟩
  rcases cases2 o ob ho with h1 | ⟨h1,h2,h3⟩
  ·rw[hB2o o ob h1]at hbl
   obtain⟨p,ob',hp,hpb⟩:=hinh b (hblk o ob b h1 hbl hb.1)
   exact hb.2.2 p ob' hp hpb
  ·rw[hB2n o h1]at hbl
   exact hb.2.2 o ob h3 hbl
 have hok':∀b,mK w.heap.size (okS K w B h) w' B' hout b→okS K w' B2 (u7 h hin hout) b:=by
  intro b hb
  refine⟨hb.1,fun hlt=>?_,fun o ob ho hbl=>?_⟩
  ·exact(hb.2.1 (by have:=s.fr.size;omega)).2.1 hlt
  ·rcases cases2 o ob ho with h1 | ⟨h1,h2,h3⟩
   ·rw[hB2o o ob h1]at hbl
    exact hb.2.2 o ob h1 hbl
   ·rw[hB2n o h1]at hbl
    have hlt:=hblt b ⟨o,ob,h3,hbl⟩
    exact(hb.2.1 hlt).2.2 o ob h3 hbl
 have hΓ:∀t,∀o∈(Γ t).refs,B2 o=B o:=by
  intro t o ho
  cases hg:hout o with
  | none=>exact hB2n o hg
  | some ob =>
   rcases hc.names o ob hg with h1 | ⟨_,h1⟩
   ·exact hB2i o h1
   ·exact absurd ho (h1.1 t)
 refine⟨v,B2,rfl,⟨fun t=>(s.slots t).mono hmono hok (hΓ t),⟨fun o ob ho=>?_,fun o o' ob ob' b ho ho' hb hb'=>?_⟩,s.defers,s.size,s.fr.trans hfr ?_,fun o ob b ho hb hlt=>?_,fun o ho=>?_⟩,?_⟩
 ·rcases cases2 o ob ho with h1 | ⟨h1,h2,h3⟩
  ·rw[hB2o o ob h1]
   exact(hobjs.rep o ob h1).mono (fun _ _=>rfl) hok' (fun p hp=>hB2' p (hc.closed o ob h1 p hp)) fun _ _=>rfl
  ·rw[hB2n o h1]
   refine(s.objs.rep o ob h3).mono hmono hok (fun p hp=>?_) fun b hb=>hfr.block b (hblt b ⟨o,ob,h3,hb⟩) (apartIn o ob b h3 h2 hb)
   cases hg:hout p with
   | none=>exact hB2n p hg
   | some ob' =>
    rcases hc.names p ob' hg with h4 | ⟨_,h4⟩
    ·exact hB2i p h4
    ·exact absurd hp (h4.2 o ob h3 h2).2
 ·rcases cases2 o ob ho with h1 | ⟨h1,h2,h3⟩
  ·rw[hB2o o ob h1]at hb
   rcases cases2 o' ob' ho' with g1 | ⟨g1,g2,g3⟩
   ·rw[hB2o o' ob' g1]at hb'
    exact hobjs.apart o o' ob ob' b h1 g1 hb hb'
   ·rw[hB2n o' g1]at hb'
    exact absurd (hblk o ob b h1 hb (hblt b ⟨o',ob',g3,hb'⟩)) (apartIn o' ob' b g3 g2 hb')
  ·rw[hB2n o h1]at hb
   rcases cases2 o' ob' ho' with g1 | ⟨g1,g2,g3⟩
   ·rw[hB2o o' ob' g1]at hb'
    exact absurd (hblk o' ob' b g1 hb' (hblt b ⟨o,ob,h3,hb⟩)) (apartIn o ob b h3 h2 hb)
   ·rw[hB2n o' g1]at hb'
    exact s.objs.apart o o' ob ob' b h3 g3 hb hb'
 ·intro b hb hx
  obtain⟨o,ob,hg,hb'⟩:=hinh b hx
  exact s.own o ob b hg hb' hb
 ·rcases cases2 o ob ho with h1 | ⟨h1,h2,h3⟩
  ·rw[hB2o o ob h1]at hb
   obtain⟨p,ob',hp,hpb⟩:=hinh b (hblk o ob b h1 hb (by have:=s.fr.size;omega))
   exact s.own p ob' b hp hpb hlt
  ·rw[hB2n o h1]at hb
   exact s.own o ob b h3 hb hlt
 ·obtain⟨h1,h2⟩:=s.pin o ho
  refine⟨h1,?_⟩
  cases hg:hout o with
  | none=>rw[hB2n o hg];exact h2
  | some ob =>
   rcases hc.names o ob hg with h4 | ⟨h4,_⟩
   ·rw[hB2i o h4];exact h2
   ·omega
 ·exact hrep.mono (fun _ _=>rfl) (fun b hb=>hok' b hb.1) fun p hp=>hB2' p (hc.res p hp)
end
end Go.VM
namespace Go.VM
abbrev L:=List (Nat×V)
abbrev M:=List (Oid×Ob)
def look:L→Nat→V
 | [],_=>.junk
 | p::r,t=>bif Nat.beq t p.1 then p.2 else look r t
def i4(a b:Oid):Bool:=Nat.beq a.1 b.1&&Nat.beq a.2 b.2
def bY:M→Oid→Option Ob
 | [],_=>none
 | p::r,o=>match jV p.2 with
  | some G=>bif o6 o then zK G o else bY r o
  | none=>bif i4 o p.1 then some p.2 else bY r o
def Hx:M→Oid→Ob→M
 | [],o,ob=>[(o,ob)]
 | p::r,o,ob=>match jV p.2 with
  | some _=>bif o6 o then(o,ob)::p::r else p::Hx r o ob
  | none=>bif i4 o p.1 then(o,ob)::r else p::Hx r o ob
def akj:M→Oid→M
 | [],_=>[]
 | p::r,o=>match jV p.2 with
  | some G=>bif o6 o then(p.1,.fam (aeX G o))::akj r o else p::akj r o
  | none=>bif i4 o p.1 then akj r o else p::akj r o
theorem wj{a b:Oid}:i4 a b=true↔a=b:=by
 obtain⟨a1,a2⟩:=a
 obtain⟨b1,b2⟩:=b
 simp[i4]
theorem m6(l:L)(t:Nat):bJ l t=look l t:=by
 induction l with
 | nil=>rfl
 | cons p r ih =>
  obtain⟨u,x⟩:=p
  simp only[bJ,Env.put,look]
  cases h:Nat.beq t u with
  | true=>simp[Nat.eq_of_beq_eq_true h]
  | false=>simp[Nat.ne_of_beq_eq_false h,ih]
theorem cJ(m:M)(o:Oid):aZ m o=bY m o:=by
 induction m with
 | nil=>rfl
 | cons p r ih =>
  obtain⟨u,x⟩:=p
  simp only[aZ,bY]
  cases hx:jV x with
  | some G=>simp only[ih]
  | none =>
   simp only[Heap.put]
   cases h:i4 o u with
   | true=>simp[wj.1 h]
   | false =>
    have hne:o≠u:=fun e=>by rw[←wj,h]at e;simp at e
    simp[hne,ih]
theorem U6(m:M)(o:Oid)(ob:Ob)(hob:jV ob=none):aZ (Hx m o ob)=(aZ m).put o ob:=by
 funext p
 simp only[Heap.put]
 induction m with
 | nil=>simp[Hx,aZ,Heap.put,hob]
 | cons q r ih =>
  obtain⟨u,x⟩:=q
  simp only[Hx]
  cases hx:jV x with
  | some G =>
   cases hr:o6 o with
   | true=>simp only[cond_true,aZ,hob,hx,Heap.put]
   | false =>
    simp only[cond_false,aZ,hx,ih]
    by_cases e:p=o
    ·subst e;simp[hr]
    ·simp[e]
  | none =>
   cases h:i4 o u with
   | true =>
    have:=wj.1 h;subst this
    simp only[cond_true,aZ,Heap.put,hob,hx]
    by_cases e:p=o<;>simp[e]
   | false =>
    have hne:o≠u:=fun e=>by rw[←wj,h]at e;simp at e
    simp only[cond_false,aZ,hx,Heap.put,ih]
    by_cases e:p=u
    ·subst e;simp[Ne.symm hne]
    ·simp[e]
theorem aox(m:M)(o:Oid):aZ (akj m o)=(aZ m).drop o:=by
 funext p
 simp only[Heap.drop]
 induction m with
 | nil=>simp[akj,aZ,noHeap]
 | cons q r ih =>
  obtain⟨u,x⟩:=q
  simp only[akj]
  cases hx:jV x with
  | some G =>
   cases hr:o6 o with
   | true =>
    simp only[cond_true,aZ,show jV (.fam (aeX G o))=some (aeX G o)from rfl,ih]
    by_cases e:p=o
    ·subst e;simp[hr,zK,aeX]
    ·cases hp:o6 p<;>simp[hx,hp,e,zK,aeX]
   | false =>
    simp only[cond_false,aZ,hx,ih]
    by_cases e:p=o
    ·subst e;simp[hr]
    ·simp[e]
  | none =>
   cases h:i4 o u with
   | true =>
    have:=wj.1 h;subst this
    simp only[cond_true,ih,aZ,hx,Heap.put]
    by_cases e:p=o<;>simp[e]
   | false =>
    have hne:o≠u:=fun e=>by rw[←wj,h]at e;simp at e
    simp only[cond_false,aZ,hx,Heap.put,ih]
    by_cases e:p=u
    ·subst e;simp[Ne.symm hne]
    ·simp[e]
def Gq(o:Oid):List Oid→Bool
 | []=>false
 | p::r=>i4 o p||Gq o r
theorem M8{o:Oid}{l:List Oid}(h:Gq o l=false):o∉l:=by
 induction l with
 | nil=>simp
 | cons p r ih =>
  simp only[Gq,Bool.or_eq_false_iff]at h
  simp only[List.mem_cons,not_or]
  exact⟨fun e=>by rw[←wj,h.1]at e;simp at e,ih h.2⟩
def pY(o:Oid):L→Bool
 | []=>true
 | p::r=>bif Gq o p.2.refs then false else pY o r
def oK(o:Oid):M→Bool
 | []=>true
 | p::r=>match jV p.2 with
  | some _=>bif o6 o then false else oK o r
  | none=>bif i4 o p.1||Gq o p.2.refs then false else oK o r
theorem IV{G:Oid→Option Ob}{o:Oid}{ob:Ob}(h:zK G o=some ob):G o=some ob∧jV ob=none∧∀p∈ob.refs,o6 p=true:=by
 unfold zK at h
 cases hg:G o with
 | none=>rw[hg]at h;simp at h
 | some x =>
  rw[hg]at h
  cases hb:(jV x).isNone&&x.refs.all o6 with
  | false=>simp[hb]at h
  | true =>
   simp only[hb,cond_true,ek]at h
   subst h
   simp only[gk,Option.isNone_iff_eq_none,List.all_eq_true]at hb
   exact⟨rfl,hb.1,hb.2⟩
theorem uZ{o:Oid}{l:L}{m:M}(hl:pY o l=true)(hm:oK o m=true):Fresh o (bJ l) (aZ m):=by
 constructor
 ·intro t
  rw[m6]
  induction l with
  | nil=>simp[look,V.refs]
  | cons p r ih =>
   simp only[pY]at hl
   cases hb:Gq o p.2.refs with
   | true=>simp[hb]at hl
   | false =>
    simp only[hb,cond_false]at hl
    simp only[look]
    cases Nat.beq t p.1 with
    | true=>exact M8 hb
    | false=>exact ih hl
 ·intro q ob hq
  rw[cJ]at hq
  induction m with
  | nil=>simp[bY]at hq
  | cons p r ih =>
   simp only[oK]at hm
   simp only[bY]at hq
   cases hx:jV p.2 with
   | some G =>
    simp only[hx]at hm hq
    cases hr:o6 o with
    | true=>simp[hr]at hm
    | false =>
     simp only[hr,cond_false]at hm
     cases hrq:o6 q with
     | true =>
      simp only[hrq,cond_true]at hq
      obtain⟨_,_,h3⟩:=IV hq
      exact⟨fun e=>by subst e;rw[hr]at hrq;simp at hrq,fun hm=>by have:=h3 o hm;rw[hr]at this;simp at this⟩
     | false=>simp only[hrq,cond_false]at hq;exact ih hm hq
   | none =>
   simp only[hx]at hm hq
   cases hb:(i4 o p.1||Gq o p.2.refs)with
   | true=>simp[hb]at hm
   | false =>
    simp only[hb,cond_false]at hm
    rw[Bool.or_eq_false_iff]at hb
    cases hc:i4 q p.1 with
    | true =>
     simp only[hc,cond_true,ek]at hq
     have:=wj.1 hc;subst this;subst hq
     exact⟨fun e=>by subst e;rw[hc]at hb;simp at hb,M8 hb.2⟩
    | false =>
     simp only[hc,cond_false]at hq
     exact ih hm hq
def afQ:C→C
 | .imm (.sc v)=>.imm (.sc v)
 | .imm (.sl k rows)=>.imm (.sl k rows)
 | .nilS=>.nilS
 | .nilM=>.nilM
 | .slO o=>.slO (o.1,o.2)
 | .ptrO o off=>.ptrO (o.1,o.2) off
 | .elO o k i off=>.elO (o.1,o.2) k i off
 | .mapO o=>.mapO (o.1,o.2)
 | .ptrI cells=>.ptrI cells
 | .fn f caps=>.fn f caps
 | .junk=>.junk
def F7:List C→List C
 | []=>[]
 | c::cs=>afQ c::F7 cs
def aBK:V→V
 | .c x=>.c (afQ x)
 | .agg cs=>.agg (F7 cs)
 | .tup vs=>.tup vs
 | .junk=>.junk
def acj:List V→List V
 | []=>[]
 | c::cs=>aBK c::acj cs
def Uz:V→V
 | .c x=>.c (afQ x)
 | .agg cs=>.agg (F7 cs)
 | .tup vs=>.tup (acj vs)
 | .junk=>.junk
theorem Nz(c:C):afQ c=c:=by
 cases c<;>first | rfl | (rename_i t;cases t<;>rfl)
theorem A3(cs:List C):F7 cs=cs:=by induction cs<;>simp_all[F7,Nz]
theorem aBX(v:V):aBK v=v:=by cases v<;>simp[aBK,Nz,A3]
theorem axY(vs:List V):acj vs=vs:=by induction vs<;>simp_all[acj,aBX]
theorem Ej(v:V):Uz v=v:=by cases v<;>simp[Uz,Nz,A3,axY]
def mJ(m:M)(e:Opd→V):VO→Option V
 | .mv x=>some (e x)
 | .pick c a b=>match e c with
  | .c (.imm (.sc (.bool t)))=>some (bif t then e a else e b)
  | _=>none
 | .build z ps=>match xx e z ps with
  | some cs=>some (.agg cs)
  | none=>none
 | .load n g x=>match rd (bY m) (e x) n with
  | some cs=>some (mkV g cs)
  | none=>none
 | .nilc x=>bif O1 (e x)then some (e x)else none
 | .fld off x=>aaY (e x) off
 | .field off n g x=>match e x with
  | .agg cs=>bif Nat.ble (off+n) cs.length then some (mkV g ((cs.drop off).take n))else none
  | _=>none
 | .bin op x y=>aEQ op (e x) (e y)
 | .beq ne x y=>match e x,e y with
  | .c (.imm (.sc (.bool a))),.c (.imm (.sc (.bool b)))=>some (bV (decide (a=b) != ne))
  | _,_=>none
 | .peq ne x y=>match aMW (e x) (e y)with
  | some b=>some (bV (b != ne))
  | none=>none
 | .meq ne x y=>match aKJ (e x) (e y)with
  | some b=>some (bV (b != ne))
  | none=>none
 | .un .not x=>match e x with
  | .c (.imm (.sc (.bool b)))=>some (bV (!b))
  | _=>none
 | .un .neg x=>match e x with
  | .c (.imm (.sc (.int .i64 n)))=>some (iV (IntKind.i64.wrap (0-n)))
  | _=>none
 | .cvi k x=>match e x with
  | .c (.imm (.sc (.int _ n)))=>some (scV (.int k (k.wrap n)))
  | _=>none
 | .cvs x=>match e x with
  | .c (.imm (.sc (.string s)))=>some (.c (.imm (.sc (.string s))))
  | _=>none
 | .ext x i=>match e x with
  | .tup vs=>match vs[i]? with
   | some r=>bif kK r then some r else none
   | none=>none
  | _=>none
 | .lenT x=>match e x with
  | .c (.imm (.sc (.string s)))=>some (iV s.size)
  | _=>none
 | .mm mx args=>mmV mx (args.map e)
 | .mkfn f caps=>match(caps.map e).mapM KZ with
  | some cs=>some (.c (.fn f cs))
  | none=>none
 | _=>none
theorem alK(m:M):aZ m=bY m:=funext (cJ m)
theorem acq{P:Program}{m:M}{e:Opd→V}{op:VO}{r:V}(h:mJ m e op=some r):qP P (aZ m) e op r:=by
 rw[alK]
 cases op
 case mv x=>simp only[mJ,ek]at h;exact h.symm
 case pick c a b =>
  simp only[mJ]at h
  split at h
  ·rename_i t hc
   cases h
   exact⟨t,hc,by cases t<;>rfl⟩
  ·simp at h
 case build z ps =>
  simp only[mJ]at h
  split at h
  ·rename_i cs hc;cases h;exact⟨cs,hc,rfl⟩
  ·simp at h
 case load n g x =>
  simp only[mJ]at h
  split at h
  ·rename_i cs hc;cases h;exact⟨cs,hc,rfl⟩
  ·simp at h
 case nilc x =>
  simp only[mJ]at h
  cases hb:O1 (e x)with
  | true=>simp only[hb,cond_true,ek]at h;exact⟨hb,h.symm⟩
  | false=>simp[hb]at h
 case fld off x=>exact h
 case field off n g x =>
  simp only[mJ]at h
  split at h
  ·rename_i cs hc
   cases hb:Nat.ble (off+n) cs.length with
   | true=>simp only[hb,cond_true,ek]at h;exact⟨cs,hc,Nat.le_of_ble_eq_true hb,h.symm⟩
   | false=>simp[hb]at h
  ·simp at h
 case bin op x y=>exact h
 case beq ne x y =>
  simp only[mJ]at h
  split at h
  ·rename_i a b h1 h2;cases h;exact⟨a,b,h1,h2,rfl⟩
  ·simp at h
 case peq ne x y =>
  simp only[mJ]at h
  split at h
  ·rename_i b hb;cases h;exact⟨b,hb,rfl⟩
  ·simp at h
 case meq ne x y =>
  simp only[mJ]at h
  split at h
  ·rename_i b hb;cases h;exact⟨b,hb,rfl⟩
  ·simp at h
 case un op x =>
  cases op<;>simp only[mJ]at h<;>first | (simp at h;done) | skip
  ·split at h
   ·rename_i n hn;cases h;exact⟨n,hn,rfl⟩
   ·simp at h
  ·split at h
   ·rename_i n hn;cases h;exact⟨n,hn,rfl⟩
   ·simp at h
 case cvi k x =>
  simp only[mJ]at h
  split at h
  ·rename_i k' n hn;cases h;exact⟨k',n,hn,rfl⟩
  ·simp at h
 case cvs x =>
  simp only[mJ]at h
  split at h
  ·rename_i s hs;cases h;exact⟨s,hs,hs.symm⟩
  ·simp at h
 case ext x i =>
  simp only[mJ]at h
  split at h
  ·rename_i vs hv
   split at h
   ·rename_i r' hr
    cases hb:kK r' with
    | true=>simp only[hb,cond_true,ek]at h;subst h;exact⟨vs,hv,hr,hb⟩
    | false=>simp[hb]at h
   ·simp at h
  ·simp at h
 case lenT x =>
  simp only[mJ]at h
  split at h
  ·rename_i s hs;cases h;exact⟨s,hs,rfl⟩
  ·simp at h
 case mm mx args=>exact h
 case mkfn f caps =>
  simp only[mJ]at h
  split at h
  ·rename_i cs hc;cases h;exact⟨cs,hc,rfl⟩
  ·simp at h
 all_goals (simp only[mJ,reduceCtorEq]at h)
end Go.VM
namespace Go.VM
abbrev aIQ:=Option Nat→VO→Env→Heap→(Env→Heap→Prop)→Prop
def eW(S:aIQ):List VOp→Env→Heap→(Env→Heap→Prop)→Prop
 | [],Γ,h,k=>k Γ h
 | o::os,Γ,h,k=>sj o.guard Γ (S o.dst o.op Γ h fun Γ' h'=>eW S os Γ' h' k) (eW S os (putO o.dst B1 Γ) h k)
theorem GX{P:Program}:∀(ops:List VOp) (Γ:Env) (h:Heap) (k:Env→Heap→Prop),eW (iW P) ops Γ h k→vY P ops Γ h k
 | [],_,_,_,hp=>hp
 | o::os,Γ,h,k,hp=>by
  simp only[eW]at hp
  simp only[vY]
  have e:(fun Γ' h'=>eW (iW P) os Γ' h' k)=fun Γ' h'=>vY P os Γ' h' k:=by
   funext Γ' h';exact propext ⟨GX os Γ' h' k,regionP_back os Γ' h' k⟩
  rw[e]at hp
  unfold sj at hp ⊢
  split<;>simp_all only
  rcases hp with hp | ⟨h1,h2⟩
  ·exact .inl hp
  ·exact .inr ⟨h1,GX os _ _ k h2⟩
where
 regionP_back:∀(ops:List VOp) (Γ:Env) (h:Heap) (k:Env→Heap→Prop),vY P ops Γ h k→eW (iW P) ops Γ h k
 | [],_,_,_,hp=>hp
 | o::os,Γ,h,k,hp=>by
  simp only[vY]at hp
  simp only[eW]
  have e:(fun Γ' h'=>eW (iW P) os Γ' h' k)=fun Γ' h'=>vY P os Γ' h' k:=by
   funext Γ' h';exact propext ⟨GX os Γ' h' k,regionP_back os Γ' h' k⟩
  rw[e]
  unfold sj at hp ⊢
  split<;>simp_all only
  rcases hp with hp | ⟨h1,h2⟩
  ·exact .inl hp
  ·exact .inr ⟨h1,regionP_back os _ _ k h2⟩
section
variable {P:Program}
def XJ:List C→Option (List T)
 | []=>some []
 | .imm t::cs=>match XJ cs with
  | some ts=>some (t::ts)
  | none=>none
 | .nilS::cs=>match XJ cs with
  | some ts=>some (.sl 0 []::ts)
  | none=>none
 | _::_=>none
theorem I5:∀ {cs:List C} {ts:List T},XJ cs=some ts→CTs cs ts
 | [],ts,h=>by simp[XJ]at h;subst h;trivial
 | c::cs,ts,h=>by
  cases c with
  | imm t =>
   simp only[XJ]at h
   split at h
   ·rename_i us hu;cases h;exact⟨rfl,I5 hu⟩
   ·simp at h
  | nilS =>
   simp only[XJ]at h
   split at h
   ·rename_i us hu;cases h;exact⟨rfl,I5 hu⟩
   ·simp at h
  | _=>simp[XJ]at h
def N2(n:Nat):Nat→List T→List (List T)
 | 0,_=>[]
 | k+1,ts=>ts.take n::N2 n k (ts.drop n)
theorem Vq{n:Nat}:∀(k:Nat) (ts:List T),ts.length=k*n→(N2 n k ts).length=k∧(∀r∈N2 n k ts,r.length=n)∧(N2 n k ts).flatten=ts
 | 0,ts,h=>by
  have:ts=[]:=fk (by simpa using h)
  subst this;simp[N2]
 | k+1,ts,h=>by
  have hl:ts.length=n+k*n:=by rw[h,Nat.add_mul];omega
  obtain⟨h1,h2,h3⟩:=Vq (n:=n) k (ts.drop n) (by simp;omega)
  refine⟨by simp[N2,h1],?_,by simp[N2,h3]⟩
  intro r hr
  simp only[N2,List.mem_cons]at hr
  rcases hr with rfl | hr
  ·simp;omega
  ·exact h2 r hr
def ahx(d:Oid)(l:L)(m:M):VO→Option (V×M)
 | .alloc _ z=>bif pY d l&&oK d m then some (.c (.ptrO d 0),(d,.box z)::m)else none
 | .box _ x=>bif pY d l&&oK d m then
   match c5 (ev (look l) x)with
   | some cs=>some (.c (.ptrO d 0),(d,.box (F7 cs))::m)
   | none=>none
  else none
 | .mkmap kd=>bif pY d l&&oK d m then some (.c (.mapO d),(d,.map kd [])::m)else none
 | .bsl t n len z ps=>bif pY d l&&oK d m then
   match xx (ev (look l)) (List.replicate len z).flatten ps with
   | some cs=>match XJ cs with
    | some ts=>bif Nat.beq ts.length (len*n)then some (.c (.slO d),(d,.arr t n (N2 n len ts))::m)else none
    | none=>none
   | none=>none
  else none
 | .store n x v=>match c5 (ev (look l) v)with
  | some cs=>bif Nat.beq cs.length n then
    match ev (look l) x with
    | .c (.ptrO o off)=>match bY m o with
     | some (.box bs)=>bif Nat.ble (off+cs.length) bs.length then some (.junk,Hx m o (.box (F7 (setAt bs off cs))))else none
     | _=>none
    | _=>none
   else none
  | none=>none
 | _=>none
theorem iQ(l:L):ev (bJ l)=ev (look l):=by
 funext x
 cases x<;>simp[ev,m6]
theorem anV{dst:Option Nat}{l:L}{m:M}{op:VO}{x:V}{m':M}(h:ahx (dst.getD 999,0) l m op=some (x,m')){k:Env→Heap→Prop}(hk:k (putO dst x (bJ l)) (aZ m')):iW P dst op (bJ l) (aZ m) k:=by
 cases op<;>try (simp only[ahx,reduceCtorEq]at h;done)
 all_goals simp only[ahx]at h
 case alloc t z =>
  cases hf:(pY (dst.getD 999,0) l&&oK (dst.getD 999,0) m)with
  | false=>simp[hf]at h
  | true =>
   simp only[hf,cond_true,ek,Prod.mk.injEq]at h
   obtain⟨rfl,rfl⟩:=h
   rw[gk]at hf
   exact⟨fun _=>uZ hf.1 hf.2,_,_,⟨rfl,rfl⟩,hk⟩
 case box t y =>
  cases hf:(pY (dst.getD 999,0) l&&oK (dst.getD 999,0) m)with
  | false=>simp[hf]at h
  | true =>
   simp only[hf,cond_true]at h
   rw[gk]at hf
   split at h
   ·rename_i cs hcs
    simp only[ek,Prod.mk.injEq]at h
    obtain⟨rfl,rfl⟩:=h
    rw[A3]at hk
    exact⟨fun _=>uZ hf.1 hf.2,_,_,⟨cs,by rw[iQ];exact hcs,rfl,rfl⟩,hk⟩
   ·simp at h
 case mkmap kd =>
  cases hf:(pY (dst.getD 999,0) l&&oK (dst.getD 999,0) m)with
  | false=>simp[hf]at h
  | true =>
   simp only[hf,cond_true,ek,Prod.mk.injEq]at h
   obtain⟨rfl,rfl⟩:=h
   rw[gk]at hf
   exact⟨fun _=>uZ hf.1 hf.2,_,_,⟨rfl,rfl⟩,hk⟩
 case bsl t n len z ps =>
  cases hf:(pY (dst.getD 999,0) l&&oK (dst.getD 999,0) m)with
  | false=>simp[hf]at h
  | true =>
   simp only[hf,cond_true]at h
   rw[gk]at hf
   split at h
   ·rename_i cs hcs
    split at h
    ·rename_i ts hts
     cases hl:Nat.beq ts.length (len*n)with
     | false=>simp[hl]at h
     | true =>
      simp only[hl,cond_true,ek,Prod.mk.injEq]at h
      obtain⟨rfl,rfl⟩:=h
      obtain⟨h1,h2,h3⟩:=Vq len ts (Nat.eq_of_beq_eq_true hl)
      exact⟨fun _=>uZ hf.1 hf.2,_,_,⟨cs,_,by rw[iQ];exact hcs,h1,h2,by rw[h3];exact I5 hts,rfl,rfl⟩,hk⟩
    ·simp at h
   ·simp at h
 case store n y v =>
  split at h
  ·rename_i cs hcs
   cases hl:Nat.beq cs.length n with
   | false=>simp[hl]at h
   | true =>
    simp only[hl,cond_true]at h
    split at h
    ·rename_i o off hy
     split at h
     ·rename_i bs hg
      cases hb:Nat.ble (off+cs.length) bs.length with
      | false=>simp[hb]at h
      | true =>
       simp only[hb,cond_true,ek,Prod.mk.injEq]at h
       obtain⟨rfl,rfl⟩:=h
       rw[A3,U6 _ _ _ rfl]at hk
       refine⟨fun hx=>by simp[B7]at hx,_,_,⟨cs,by rw[iQ];exact hcs,Nat.eq_of_beq_eq_true hl,?_,rfl⟩,hk⟩
       rw[iQ,hy]
       exact⟨bs,by rw[cJ];exact hg,Nat.le_of_ble_eq_true hb,rfl⟩
     ·simp at h
    ·simp at h
  ·simp at h
theorem amV{dst:Option Nat}{op:VO}{l:L}{m:M}{r:V}(h:mJ m (ev (look l)) op=some r){k:Env→Heap→Prop}(hk:k (putO dst r (bJ l)) (aZ m)):iW P dst op (bJ l) (aZ m) k:=by
 have hq:=acq (P:=P) h
 rw[←iQ]at hq
 cases op<;>first
  | (refine absurd h ?_;simp[mJ];done)
  | exact⟨r,hq,hk⟩
def BK(dst:Option Nat)(x:V)(l:L):L :=
 match dst with
 | some d=>(d,x)::l
 | none=>l
theorem lJ(dst:Option Nat)(x:V)(l:L):bJ (BK dst x l)=putO dst x (bJ l):=by cases dst<;>rfl
def opF(dst:Option Nat)(op:VO)(l:L)(m:M):Option (L×M) :=
 bif pK op then
  match ahx (dst.getD 999,0) l m op with
  | some (x,m')=>some (BK dst x l,m')
  | none=>none
 else
  match mJ m (ev (look l)) op with
  | some r=>some (BK dst (Uz r) l,m)
  | none=>none
theorem ZZ{dst:Option Nat}{op:VO}{l l':L}{m m':M}(h:opF dst op l m=some (l',m')){k:Env→Heap→Prop}(hk:k (bJ l') (aZ m')):iW P dst op (bJ l) (aZ m) k:=by
 unfold opF at h
 cases he:pK op with
 | true =>
  simp only[he,cond_true]at h
  split at h
  ·rename_i x m2 hx
   simp only[ek,Prod.mk.injEq]at h
   obtain⟨rfl,rfl⟩:=h
   exact anV hx (by rw[←lJ];exact hk)
  ·simp at h
 | false =>
  simp only[he,cond_false]at h
  split at h
  ·rename_i r hr
   simp only[ek,Prod.mk.injEq]at h
   obtain⟨rfl,rfl⟩:=h
   exact amV hr (by rw[←lJ,←Ej r];exact hk)
  ·simp at h
def Kq:List VOp→L→M→Option (L×M)
 | [],l,m=>some (l,m)
 | ⟨dst,op,none⟩::os,l,m=>match opF dst op l m with
  | some (l',m')=>Kq os l' m'
  | none=>none
 | ⟨dst,op,some (t,b)⟩::os,l,m=>match look l t with
  | .c (.imm (.sc (.bool c)))=>bif (c == b)then
    match opF dst op l m with
    | some (l',m')=>Kq os l' m'
    | none=>none
   else Kq os (BK dst B1 l) m
  | .tup []=>Kq os (BK dst B1 l) m
  | _=>none
theorem xX{S:aIQ}(hS:∀dst op Γ h k,iW P dst op Γ h k→S dst op Γ h k){k:Env→Heap→Prop}{rest:List VOp}:∀(os:List VOp) {l l':L} {m m':M},Kq os l m=some (l',m') →
  eW S rest (bJ l') (aZ m') k→eW S (os++rest) (bJ l) (aZ m) k
 | [],l,l',m,m',h,hk=>by
  simp only[Kq,ek,Prod.mk.injEq]at h
  obtain⟨rfl,rfl⟩:=h
  exact hk
 | ⟨dst,op,none⟩::os,l,l',m,m',h,hk=>by
  simp only[Kq]at h
  split at h
  ·rename_i l1 m1 h1
   simp only[List.cons_append,eW,sj]
   exact hS _ _ _ _ _ (ZZ h1 (xX hS os h hk))
  ·simp at h
 | ⟨dst,op,some (t,b)⟩::os,l,l',m,m',h,hk=>by
  simp only[Kq]at h
  simp only[List.cons_append,eW,sj,Unw,m6]
  split at h
  ·rename_i c hc
   by_cases e:c=b
   ·subst e
    simp only[beq_self_eq_true,cond_true]at h
    split at h
    ·rename_i l1 m1 h1
     exact .inl ⟨hc,hS _ _ _ _ _ (ZZ h1 (xX hS os h hk))⟩
    ·simp at h
   ·have:(c == b)=false:=by simp[e]
    simp only[this,cond_false]at h
    refine .inr ⟨.inl ?_,?_⟩
    ·rw[hc];cases c<;>cases b<;>first | rfl | simp at e
    ·rw[←lJ];exact xX hS os h hk
  ·rename_i hc
   refine .inr ⟨.inr hc,?_⟩
   rw[←lJ];exact xX hS os h hk
  ·simp at h
theorem aUX{S:aIQ}(hS:∀dst op Γ h k,iW P dst op Γ h k→S dst op Γ h k)(n:Nat){ops:List VOp}{l l':L}{m m':M}{k:Env→Heap→Prop}(h:Kq (ops.take n) l m=some (l',m'))
  (hk:eW S (ops.drop n) (bJ l') (aZ m') k):eW S ops (bJ l) (aZ m) k:=by
 have:=xX hS (ops.take n) h hk
 rwa [List.take_append_drop]at this
end
end Go.VM
namespace Go.VM
section
variable {P:Program} {n:Nat} {I:Option (List Oid)} {Q:Exit→Env→Heap→Prop} {l l':L} {m m':M}
def Iz:List VOp→L→M→Bool
 | [],_,_=>true
 | o::os,l,m=>bif B7 o.op then(bif pY (o.dst.getD 999,0) l&&oK (o.dst.getD 999,0) m then Iz os l m else false)else Iz os l m
theorem GZ:∀ {os:List VOp},Iz os l m=true→FreshAll os (bJ l) (aZ m)
 | [],_,o,ho=>by simp at ho
 | o'::os,h,o,ho=>by
  simp only[Iz]at h
  intro hn
  rcases List.mem_cons.1 ho with rfl | ho
  ·simp only[hn,cond_true]at h
   cases hb:(pY (o.dst.getD 999,0) l&&oK (o.dst.getD 999,0) m)with
   | false=>simp[hb]at h
   | true=>rw[gk]at hb;exact uZ hb.1 hb.2
  ·cases hn':B7 o'.op with
   | false=>simp only[hn',cond_false]at h;exact GZ h o ho hn
   | true =>
    simp only[hn',cond_true]at h
    cases hb:(pY (o'.dst.getD 999,0) l&&oK (o'.dst.getD 999,0) m)with
    | false=>simp[hb]at h
    | true=>simp only[hb,cond_true]at h;exact GZ h o ho hn
theorem xz{bs:List Nat}{ops:List VOp}(hn:n≤1000)(hp:M3 bs ops (List.replicate ops.length none)=true)(hf:Iz ops l m=true)(hq:eW (iW P) ops (bJ l) (aZ m) fun Γ' h'=>Q .normal Γ' h'):W P n I (.region (some bs) ops) Q (bJ l) (aZ m) :=
 W0 hn hp (GZ hf) (GX _ _ _ _ hq)
theorem RP{ops:List VOp}(h:Kq ops l m=some (l',m')){k:Env→Heap→Prop}(hk:k (bJ l') (aZ m')):eW (iW P) ops (bJ l) (aZ m) k:=by
 have:=xX (S:=iW P) (rest:=[]) (fun _ _ _ _ _ h=>h) ops h hk
 rwa [vk]at this
def AgL(l:L):L→Prop
 | []=>True
 | p::r=>look l p.1=p.2∧AgL l r
def ahX:M→Option (Oid→Option Ob)
 | []=>none
 | p::r=>match jV p.2 with
  | some G=>some G
  | none=>bif o6 p.1 then none else ahX r
theorem Z0{G:Oid→Option Ob}{o:Oid}(ho:o6 o=true):∀ {m:M},ahX m=some G→bY m o=zK G o
 | [],h=>by simp[ahX]at h
 | p::r,h=>by
  simp only[ahX]at h
  simp only[bY]
  cases hx:jV p.2 with
  | some G'=>simp only[hx,ek]at h;subst h;simp only[ho,cond_true]
  | none =>
   simp only[hx]at h
   cases hr:o6 p.1 with
   | true=>simp[hr]at h
   | false =>
    simp only[hr,cond_false]at h
    cases hb:i4 o p.1 with
    | true=>rw[wj.1 hb,hr]at ho;simp at ho
    | false=>exact Z0 ho h
def AgM(m:M):M→Prop
 | []=>True
 | p::r => (match jV p.2 with | some G => ahX m=some G | none => bY m p.1=some p.2) ∧ AgM m r
theorem AgL.weak:∀ {l':L},AgL l l'→∀t,bJ l' t = .junk∨bJ l' t=bJ l t
 | [],_,t=>.inl rfl
 | p::r,h,t=>by
  rw[m6,m6]
  simp only[look]
  cases hb:Nat.beq t p.1 with
  | true=>have:=Nat.eq_of_beq_eq_true hb;subst this;exact .inr h.1.symm
  | false=>simp only[cond_false];rw[←m6,←m6];exact AgL.weak h.2 t
theorem AgM.weak:∀ {m':M},AgM m m'→∀o ob,aZ m' o=some ob→aZ m o=some ob
 | [],_,o,ob,h=>by simp[aZ,noHeap]at h
 | p::r,h,o,ob,ho=>by
  rw[cJ]at ho ⊢
  simp only[AgM]at h
  simp only[bY]at ho
  cases hx:jV p.2 with
  | some G =>
   simp only[hx]at ho h
   cases hr:o6 o with
   | true=>simp only[hr,cond_true]at ho;rw[Z0 hr h.1];exact ho
   | false =>
    simp only[hr,cond_false]at ho
    rw[←cJ]
    exact AgM.weak h.2 o ob (by rw[cJ];exact ho)
  | none =>
  simp only[hx]at ho h
  cases hb:i4 o p.1 with
  | true =>
   simp only[hb,cond_true,ek]at ho
   have:=wj.1 hb
   subst this;subst ho;exact h.1
  | false =>
   simp only[hb,cond_false]at ho
   rw[←cJ]
   exact AgM.weak h.2 o ob (by rw[cJ];exact ho)
theorem aMz(hl:AgL l l')(hm:AgM m m'):Weak (bJ l) (aZ m) (bJ l') (aZ m'):=⟨hl.weak,hm.weak⟩
def D3:Nat→List V→L
 | _,[]=>[]
 | i,v::vs=>(i,v)::D3 (i+1) vs
theorem aGW(vs:List V):entry vs=bJ (D3 0 vs):=by
 funext t
 rw[m6]
 have key:∀(vs:List V) (i:Nat),look (D3 i vs) t=if i≤t then(vs[t-i]?).getD .junk else .junk:=by
  intro vs
  induction vs with
  | nil=>intro i;simp[D3,look]
  | cons v vs ih =>
   intro i
   simp only[D3,look]
   cases h:Nat.beq t i with
   | true=>have:=Nat.eq_of_beq_eq_true h;subst this;simp
   | false =>
    have hne:=Nat.ne_of_beq_eq_false h
    simp only[cond_false,ih]
    by_cases hle:i≤t
    ·have h1:i+1≤t:=by omega
     have h2:t-i=(t-(i+1))+1:=by omega
     simp only[h1,hle,if_true]
     rw[h2];simp
    ·have h1 : ¬i+1≤t:=by omega
     simp[h1,hle]
 rw[key];simp[entry]
theorem Fun.of_walk{f:FuncId}{fn:Func}{n:Nat}{vc:VC}{rs:List VR}{fresh:Bool}{vs:List V}{m:M}{hout:Heap}{r:V}(pins:List Oid)(I:Option (List Oid))(hf:P.funcs[f]? = some fn)(hc:(fn.body.bind fun c=>gV P n c)=some vc)
  (hn:n=vs.length+(fn.ntmps-vs.length)) (hr:fn.results.toList.mapM (Cx P)=some rs) (hk:∀o∈pins,1000≤o.1) (hb':∀o cs,aZ m o=some (.box cs)→o∈pins)
  (hI:∀l,I=some l→∀o ob,aZ m o=some ob→o∈l∧o∈pins) (hW:W P n I vc (aoj rs fresh (aZ m) r hout) (bJ (D3 0 vs)) (aZ m)):Fun P f fresh pins vs (aZ m) r hout:=by
 obtain⟨c,hb,hc⟩:=ak.1 hc
 rw[←aGW]at hW
 exact Fun.of_W hf hb hn hc hr hk hb' hI hW
theorem Fun.of_walk0{f:FuncId}{fn:Func}{n:Nat}{vc:VC}{rs:List VR}{fresh:Bool}{vs:List V}{r:V}(hf:P.funcs[f]? = some fn)(hc:(fn.body.bind fun c=>gV P n c)=some vc)
  (hn:n=vs.length+(fn.ntmps-vs.length)) (hr:fn.results.toList.mapM (Cx P)=some rs)
  (hW:W P n (some []) vc (aoj rs fresh noHeap r noHeap) (bJ (D3 0 vs)) (aZ [])):Fun P f fresh [] vs noHeap r noHeap :=
 Fun.of_walk (m:=[]) [] (some []) hf hc hn hr (fun o h=>by simp at h) (fun o cs h=>by simp[aZ,noHeap]at h) (fun l _ o ob h=>by simp[aZ,noHeap]at h) hW
end
end Go.VM
namespace Go.VM
def gOk(l:L):Option (Nat×Bool)→Prop
 | none=>True
 | some (t,b)=>look l t=bV b
inductive SlV{α:Type}(m:M)(tc:α→List T)(k:Nat)(xs:List α):V→Prop
 | tree:SlV m tc k xs (.c (.imm (.sl k (xs.map tc))))
 | own (o:Oid) (e:TypeId):bY m o=some (.arr e k (xs.map tc))→SlV m tc k xs (.c (.slO o))
 | nil:xs=[]→SlV m tc k xs (.c .nilS)
section
variable {P:Program} {l:L} {m:M} {α:Type} {tc:α→List T} {kk:Env→Heap→Prop}
theorem b8{S:aIQ}(hS:∀dst op Γ h k,iW P dst op Γ h k→S dst op Γ h k){dst:Option Nat}{op:VO}{g:Option (Nat×Bool)}{rest:List VOp}{k:Env→Heap→Prop}(hg:gOk l g)
  (h:iW P dst op (bJ l) (aZ m) fun Γ h=>eW S rest Γ h k):eW S (⟨dst,op,g⟩::rest) (bJ l) (aZ m) k:=by
 simp only[eW,sj]
 cases g with
 | none=>exact hS _ _ _ _ _ h
 | some tb =>
  obtain⟨t,b⟩:=tb
  exact .inl ⟨by rw[m6];exact hg,hS _ _ _ _ _ h⟩
theorem E6{dst:Option Nat}{op:VO}{r:V}(hq:qP P (aZ m) (ev (bJ l)) op r)(he:pK op=false)(hc:∀f args,op ≠ .call f args)(hk:kk (bJ (BK dst r l)) (aZ m)):iW P dst op (bJ l) (aZ m) kk:=by
 rw[lJ]at hk
 cases op<;>first
  | exact absurd rfl (hc _ _)
  | exact hq.elim
  | (refine absurd he ?_;simp[pK];done)
  | exact⟨r,hq,hk⟩
theorem aKK{β:Type}(f:α→β){xs:List α}{j:Int}{y:α}(h:idx xs j=some y):idx (xs.map f) j=some (f y):=by
 unfold idx at h ⊢
 split at h
 ·rename_i h0;rw[if_pos h0];simp[h]
 ·simp at h
theorem idx_get{xs:List α}{j:Int}{y:α}(h:idx xs j=some y):0≤j∧xs[j.toNat]? = some y∧j.toNat<xs.length:=by
 unfold idx at h
 split at h
 ·rename_i h0;exact⟨h0,h,(bw.1 h).1⟩
 ·simp at h
theorem iK{dst:Option Nat}{k:Nat}{x i:Opd}{kk0:IntKind}(xs:List α){j:Int}{y:α}(hx:ev (look l) x = .c (.imm (.sl k (xs.map tc))))(hi:ev (look l) i=scV (.int kk0 j))(hy:idx xs j=some y)
  (hk:kk (bJ (BK dst (.c (.ptrI (tc y))) l)) (aZ m)):iW P dst (.ixA k x i) (bJ l) (aZ m) kk:=by
 refine E6 ⟨j,⟨kk0,by rw[iQ];exact hi⟩,?_⟩ rfl (by simp) hk
 rw[iQ,hx]
 exact⟨rfl,tc y,aKK tc hy,rfl⟩
theorem rQ{dst:Option Nat}{k:Nat}{x i:Opd}{kk0:IntKind}(xs:List α){o:Oid}{e:TypeId}{j:Int}{y:α}(hx:ev (look l) x = .c (.slO o))(hm:bY m o=some (.arr e k (xs.map tc)))(hi:ev (look l) i=scV (.int kk0 j))(hy:idx xs j=some y)
  (hk:kk (bJ (BK dst (.c (.elO o k j.toNat 0)) l)) (aZ m)):iW P dst (.ixA k x i) (bJ l) (aZ m) kk:=by
 obtain⟨h0,_,hlt⟩:=idx_get hy
 refine E6 ⟨j,⟨kk0,by rw[iQ];exact hi⟩,?_⟩ rfl (by simp) hk
 rw[iQ,hx]
 exact⟨e,_,by rw[cJ];exact hm,h0,by simpa using hlt,rfl⟩
theorem HV{dst:Option Nat}{n:Nat}{g:Bool}{x:Opd}{o:Oid}{e:TypeId}{k i off:Nat}(xs:List α){y:α}(hx:ev (look l) x = .c (.elO o k i off))(hm:bY m o=some (.arr e k (xs.map tc)))(hy:xs[i]? = some y)
  (hl:Nat.ble (off+n) (tc y).length=true) (hk:kk (bJ (BK dst (Uz (mkV g ((((tc y).drop off).take n).map .imm))) l)) (aZ m)):iW P dst (.load n g x) (bJ l) (aZ m) kk:=by
 rw[Ej]at hk
 refine E6 ⟨_,?_,rfl⟩ rfl (by simp) hk
 rw[iQ,hx]
 simp only[rd,cJ,hm,if_true]
 simp[hy,Nat.le_of_ble_eq_true hl]
theorem EW{dst:Option Nat}{n:Nat}{x v:Opd}{o:Oid}{e:TypeId}{k i off:Nat}(xs:List α){y:α}(y':α){cs:List C}{ts:List T}(hx:ev (look l) x = .c (.elO o k i off))(hm:bY m o=some (.arr e k (xs.map tc)))(hy:xs[i]? = some y)
  (hv:c5 (ev (look l) v)=some cs) (hn:Nat.beq cs.length n=true) (ht:XJ cs=some ts) (hl:Nat.ble (off+ts.length) (tc y).length=true) (hs:D6 (tc y) off ts=tc y')
  (hk:kk (bJ (BK dst .junk l)) (aZ (Hx m o (.arr e k ((xs.set i y').map tc))))):iW P dst (.store n x v) (bJ l) (aZ m) kk:=by
 rw[lJ,U6 _ _ _ rfl]at hk
 refine⟨fun hx=>by simp[B7]at hx,_,_,⟨cs,by rw[iQ];exact hv,Nat.eq_of_beq_eq_true hn,?_,rfl⟩,hk⟩
 rw[iQ,hx]
 refine⟨e,_,tc y,ts,by rw[cJ];exact hm,by simp[hy],I5 ht,Nat.le_of_ble_eq_true hl,?_⟩
 rw[hs,List.map_set]
theorem l9{dst:Option Nat}{x:Opd}{k:Nat}(xs:List α)(hx:SlV m tc k xs (ev (look l) x))(hk:kk (bJ (BK dst (iV (xs.length:Int)) l)) (aZ m)):iW P dst (.lenS x) (bJ l) (aZ m) kk:=by
 refine E6 ⟨(xs.length:Int),?_,rfl⟩ rfl (by simp) hk
 rw[iQ]
 generalize ev (look l) x=v at hx
 cases hx with
 | tree=>simp[abY]
 | own o e h=>simp[abY,cJ,h]
 | nil h=>subst h;simp[abY]
theorem SlV.src{k:Nat}{xs:List α}{v:V}(h:SlV m tc k xs v):aCz (aZ m) k v (xs.map tc):=by
 cases h with
 | tree=>exact⟨rfl,rfl⟩
 | own o e h=>exact⟨e,by rw[cJ];exact h⟩
 | nil h=>subst h;rfl
def WY(b:Nat)(n:Nat):Bool:=Nat.ble (n*b) 140737488355328&&Nat.ble n 9223372036854775807
theorem aIJ{b n:Nat}(h:WY b n=true):n*b≤140737488355328∧n≤9223372036854775807:=by
 simp only[WY,gk]at h
 exact⟨Nat.le_of_ble_eq_true h.1,Nat.le_of_ble_eq_true h.2⟩
theorem V1{dst:Option Nat}{e:TypeId}{k b:Nat}{s x:Opd}{o:Oid}(xs ys:List α)(hs:ev (look l) s = .c (.slO o))(hm:bY m o=some (.arr e k (xs.map tc)))(hx:SlV m tc k ys (ev (look l) x))(hr:WY b (xs.length+ys.length)=true)
  (hf:(pY (dst.getD 999,0) l&&oK (dst.getD 999,0) m)=true) (hk:kk (bJ (BK dst (.c (.slO (dst.getD 999,0))) l)) (aZ (((dst.getD 999,0),.arr e k ((xs++ys).map tc))::akj m o))):iW P dst (.app e k b s x) (bJ l) (aZ m) kk:=by
 rw[lJ]at hk
 rw[gk]at hf
 obtain⟨h1,h2⟩:=aIJ hr
 refine⟨fun _=>uZ hf.1 hf.2,_,_,⟨ys.map tc,?_,.inr ⟨o,xs.map tc,by rw[iQ];exact hs,by rw[cJ];exact hm,by simpa using h1,by simpa using h2,rfl,rfl⟩⟩,?_⟩
 ·rw[iQ];exact hx.src
 ·rw[←aox,←List.map_append];exact hk
theorem aVY{dst:Option Nat}{e:TypeId}{k b:Nat}{z:List C}{len cap:Opd}(z0:α){n:Int}(h1:ev (look l) len=iV n)(h2:ev (look l) cap=iV n)(h0:(0≤n)∧n*b≤140737488355328∧n≤9223372036854775807)(hz:XJ z=some (tc z0))
  (hf:(pY (dst.getD 999,0) l&&oK (dst.getD 999,0) m)=true) (hk:kk (bJ (BK dst (.c (.slO (dst.getD 999,0))) l)) (aZ (((dst.getD 999,0),.arr e k ((List.replicate n.toNat z0).map tc))::m))):iW P dst (.mksl e k b z len cap) (bJ l) (aZ m) kk:=by
 rw[lJ,List.map_replicate]at hk
 rw[gk]at hf
 exact⟨fun _=>uZ hf.1 hf.2,_,_,⟨n,tc z0,by rw[iQ];exact h1,⟨n,by rw[iQ];exact h2,Int.le_refl _,h0.2.1,h0.2.2⟩,h0.1,h0.2.1,h0.2.2,I5 hz,rfl,rfl⟩,hk⟩
theorem cZ{dst:Option Nat}{f:FuncId}{args:List Opd}{fresh:Bool}{us:List V}{r:V}(hF:Fun P f fresh [] us noHeap r noHeap)(hs:Bz (aZ m) (args.map (ev (look l))) us)(hr:r.refs=[])
  (h3:fresh=true∨aqZ r=true∨Bz noHeap (args.map (ev (look l))) us) (hk:kk (bJ (BK dst r l)) (aZ m)):iW P dst (.call f args) (bJ l) (aZ m) kk:=by
 rw[lJ]at hk
 refine⟨r,.inl ⟨fresh,us,hF,?_,hr,?_⟩,hk⟩
 ·rw[iQ];exact hs
 ·rw[iQ];exact h3
def bnd(e:Opd→V)(d:Int):Option Opd→Int→Prop:=zW e d
end
section
variable {α β γ:Type}
theorem bT{e:Bool}{A B:Option α}{r:α}(h:e=true)(hF:(bif e then A else B)=some r):A=some r:=by subst h;exact hF
theorem bF{e:Bool}{A B:Option α}{r:α}(h:e=false)(hF:(bif e then A else B)=some r):B=some r:=by subst h;exact hF
theorem bB{o:Option β}{f:β→Option α}{r:α}(hF:o.bind f=some r):∃y,o=some y∧f y=some r:=ak.1 hF
theorem bT'{e:Bool}{A B:Option α}{K:α→Option γ}{r:γ}(h:e=true)(hF:(bif e then A else B).bind K=some r):A.bind K=some r:=by subst h;exact hF
theorem bF'{e:Bool}{A B:Option α}{K:α→Option γ}{r:γ}(h:e=false)(hF:(bif e then A else B).bind K=some r):B.bind K=some r:=by subst h;exact hF
theorem bB'{o:Option β}{f:β→Option α}{K:α→Option γ}{r:γ}(hF:(o.bind f).bind K=some r):∃y,o=some y∧(f y).bind K=some r:=by
 cases o with
 | none=>simp at hF
 | some y=>exact⟨y,rfl,hF⟩
end
end Go.VM
namespace Go.VM
theorem asK(h:Heap):∀o ob,noHeap o=some ob→h o=some ob:=fun o ob h=>by simp[noHeap]at h
section
variable {P:Program} {n:Nat} {I:Option (List Oid)} {Q:Exit→Env→Heap→Prop} {l l':L} {m m':M}
def Pz(n:Nat)(I:Option (List Oid))(l:L)(m:M)(l':L)(m':M):Prop:=Sim n I (bJ l) (aZ m) (bJ l') (aZ m')
theorem aRX(hl:AgL l l')(hm:AgM m m'):Pz n I l m l' m':=Weak.sim (aMz hl hm)
theorem e9{S β:Type}{F:Option S}{K:S→Option β}{r:β}{Q':Exit→Env→Heap→Prop}{x y:VC}(hQ:∀Γ h,W P n I y Q' Γ h→Q .normal Γ h)(hF:F.bind K=some r)(ls:S→L)(ms:S→M)
  (rest:∀s,K s=some r→W P n I y Q' (bJ (ls s)) (aZ (ms s)))
  (first:(∀s l0 m0,K s=some r→Pz n I l0 m0 (ls s) (ms s)→W P n I y Q' (bJ l0) (aZ m0))→F.bind K=some r→W P n I x Q (bJ l) (aZ m)) :
  W P n I x Q (bJ l) (aZ m) :=
 first (fun s _ _ hK hs=>aPZ hs (rest s hK)) hF
theorem pW{S τ ρ β:Type}{step:S→Option (S ⊕ ρ)}{K:ρ→Option β}{s0:S}{r:β}{Q':Exit→Env→Heap→Prop}{b y:VC}{id:Nat}(hQ:∀Γ h,W P n I y Q' Γ h→Q .normal Γ h)(hF:(loop step s0).bind K=some r)(inj:τ→ρ)(ls:S→L)(ms:S→M)(lx:τ→L)(mx:τ→M)
  (h0:Pz n I l m (ls s0) (ms s0))
  (rest:∀t,K (inj t)=some r→W P n I y Q' (bJ (lx t)) (aZ (mx t)))
  (body:∀s x,step s=some x →
   (∀s' l' m',x = .inl s'→Pz n I l' m' (ls s') (ms s')→∃s'',x = .inl s''∧Sim n I (bJ l') (aZ m') (bJ (ls s'')) (aZ (ms s''))) →
   (∀t l' m',x = .inr (inj t)→Pz n I l' m' (lx t) (mx t)→W P n I y Q' (bJ l') (aZ m'))→(∀t,x = .inr t→K t=some r) →
   W P n I b (aqq (fun Γ' h'=>∃s',x = .inl s'∧Sim n I Γ' h' (bJ (ls s')) (aZ (ms s'))) (S5 id Q)) (bJ (ls s)) (aZ (ms s))) :
  W P n I (.block id (.loop b)) Q (bJ l) (aZ m):=by
 obtain⟨t,hL,hK⟩:=ak.1 hF
 refine gJ (aRK hL (fun s=>bJ (ls s)) (fun s=>aZ (ms s)) h0 fun s x hs hr=>body s x hs ?_ ?_ ?_)
 ·intro s' l' m' hx hsim;exact⟨s',hx,hsim⟩
 ·intro t' l' m' hx hsim
  have:=hr _ hx
  rw[←this]at hK
  exact aPZ hsim (rest _ hK)
 ·intro t' hx
  rw[hr _ hx];exact hK
theorem bQ{k:Env→Heap→Prop}{id:Nat}{Γ:Env}{h:Heap}(hq:Q (.exit id) Γ h):aqq k Q (.exit id) Γ h:=hq
theorem dJ{id:Nat}{Γ:Env}{h:Heap}(hq:Q .normal Γ h):S5 id Q (.exit id) Γ h:=by simp only[S5,if_true];exact hq
theorem SP:∀dst op Γ h k,iW P dst op Γ h k→iW P dst op Γ h k:=fun _ _ _ _ _ h=>h
theorem atj{c:Opd}{x y:VC}{t:Bool}(hc:ev (look l) c=bV t)(hx:t=true→W P n I x Q (bJ l) (aZ m))(hy:t=false→W P n I y Q (bJ l) (aZ m)):W P n I (.cond c x y) Q (bJ l) (aZ m) :=
 aQx (by rw[iQ];exact hc) hx hy
theorem bA{α β γ:Type}{T:Option α}{K1:α→Option β}{K2:β→Option γ}{r:γ}(h:(T.bind K1).bind K2=some r):T.bind (fun s=>(K1 s).bind K2)=some r:=by cases T with
 | none=>simp at h
 | some t=>exact h
theorem adQ{α:Type}{c:Bool}{A:Option α}{r:α}(h:(bif c then A else none)=some r):c=true∧A=some r:=by cases c<;>simp_all
theorem aSx{α γ:Type}{c:Bool}{A:Option α}{K:α→Option γ}{r:γ}(h:(bif c then A else none).bind K=some r):c=true∧A.bind K=some r:=by cases c<;>simp_all
def G5(a b o:Oid):Oid:=bif i4 o a then b else bif i4 o b then a else o
theorem aaz(a b o:Oid):G5 a b (G5 a b o)=o:=by
 unfold G5
 cases h1:i4 o a with
 | true =>
  have:=wj.1 h1;subst this
  simp only[cond_true]
  cases h2:i4 b o with
  | true=>have:=wj.1 h2;subst this;simp
  | false=>simp only[cond_false,show i4 b b=true from wj.2 rfl,cond_true]
 | false =>
  simp only[cond_false]
  cases h2:i4 o b with
  | true =>
   have:=wj.1 h2;subst this
   simp only[cond_true,show i4 a a=true from wj.2 rfl]
  | false=>simp only[cond_false,h1,h2]
def aEY(σ:Oid→Oid):L→L
 | []=>[]
 | p::r=>(p.1,Uz (D9 σ p.2))::aEY σ r
def AV(σ:Oid→Oid):M→M
 | []=>[]
 | p::r=>(σ p.1,uj σ p.2)::AV σ r
theorem arK(σ:Oid→Oid):∀l:L,(fun t=>D9 σ (bJ l t))=bJ (aEY σ l)
 | []=>rfl
 | p::r=>by
  funext t
  have ih:=congrFun (arK σ r) t
  rw[m6]at ih ⊢
  rw[m6]at ih ⊢
  simp only[look,aEY,Ej]
  cases Nat.beq t p.1 with
  | true=>rfl
  | false=>exact ih
theorem ajj{σ:Oid→Oid}{c:C}(h:∀o∈c.refs,σ o=o):Hz σ c=c:=by
 cases c with
 | slO o=>simp only[Hz,h o (by simp[C.refs])]
 | ptrO o off=>simp only[Hz,h o (by simp[C.refs])]
 | elO o k i off=>simp only[Hz,h o (by simp[C.refs])]
 | mapO o=>simp only[Hz,h o (by simp[C.refs])]
 | fn f caps =>
  simp only[Hz]
  congr 1
  refine(List.map_congr_left (g:=id) (fun x hx=>?_)).trans (List.map_id _)
  cases x with
  | ptr o=>simp only[VK,h o (by simp only[C.refs];exact Ak.2 ⟨_,hx,by simp[Cap.refs]⟩)];rfl
  | imm t=>rfl
 | _=>rfl
theorem Y7{σ:Oid→Oid}{cs:List C}(h:∀o∈cs.flatMap C.refs,σ o=o):cs.map (Hz σ)=cs :=
 (List.map_congr_left (g:=id) (fun x hx=>ajj fun o ho=>h o (Ak.2 ⟨x,hx,ho⟩))).trans (List.map_id _)
theorem axV{σ:Oid→Oid}{ob:Ob}(h:∀o∈ob.refs,σ o=o):uj σ ob=ob:=by
 cases ob with
 | arr=>rfl
 | map=>rfl
 | fam=>rfl
 | box cs=>simp only[uj];rw[Y7 h]
 | mapC kd es =>
  simp only[uj]
  congr 1
  exact(List.map_congr_left (g:=id) (fun p hp=>by rw[ajj fun o ho=>h o (by simp only[Ob.refs];exact Ak.2 ⟨p,hp,ho⟩)];rfl)).trans (List.map_id _)
 | arrC e k rows =>
  simp only[uj]
  congr 1
  refine(List.map_congr_left (g:=id) (fun r hr=>?_)).trans (List.map_id _)
  exact Y7 fun o ho=>by
   obtain⟨c,hc,hco⟩:=Ak.1 ho
   exact h o (by simp only[Ob.refs];exact Ak.2 ⟨c,List.mem_flatten.2 ⟨r,hr,hc⟩,hco⟩)
theorem avx(σ:Oid→Oid)(ob:Ob):jV (uj σ ob)=jV ob:=by cases ob<;>rfl
theorem apY{σ:Oid→Oid}(hr:∀o,o6 o=true→σ o=o)(G:Oid→Option Ob)(o:Oid):(zK G o).map (uj σ)=zK G o:=by
 cases h:zK G o with
 | none=>rfl
 | some ob =>
  obtain⟨_,_,h3⟩:=IV h
  simp only[qw]
  rw[axV fun p hp=>hr p (h3 p hp)]
theorem JX(σ:Oid→Oid)(hσ:∀o,σ (σ o)=o)(hr:∀o,o6 o=true→σ o=o):∀m:M,(fun o=>(aZ m (σ o)).map (uj σ))=aZ (AV σ m)
 | []=>rfl
 | p::r=>by
  funext o
  have ih:(aZ r (σ o)).map (uj σ)=aZ (AV σ r) o:=congrFun (JX σ hσ hr r) o
  rw[cJ,cJ]at ih ⊢
  simp only[bY,AV]
  have e:i4 (σ o) p.1=i4 o (σ p.1):=by
   rw[Bool.eq_iff_iff,wj,wj]
   exact⟨fun h=>by rw[←h,hσ],fun h=>by rw[h,hσ]⟩
  rw[e,avx]
  cases hx:jV p.2 with
  | some G =>
   cases ho:o6 o with
   | true=>simp only[hr o ho,ho,cond_true,apY hr]
   | false =>
    have:o6 (σ o)=false:=by
     cases h2:o6 (σ o)with
     | false=>rfl
     | true=>have:=hr _ h2;rw[hσ]at this;rw[←this,ho]at h2;simp at h2
    simp only[this,cond_false]
    exact ih
  | none =>
  cases i4 o (σ p.1)with
  | true=>rfl
  | false=>exact ih
theorem UY(a b:Oid)(ha:(Nat.blt a.1 1000 && !o6 a)=true)(hb:(Nat.blt b.1 1000 && !o6 b)=true)(h:Pz n I (aEY (G5 a b) l) (AV (G5 a b) m) l' m'):Pz n I l m l' m':=by
 simp only[gk,Cw]at ha hb
 have ha':a.1<1000:=by simpa using ha.1
 have hb':b.1<1000:=by simpa using hb.1
 have hres:∀o,o6 o=true→G5 a b o=o:=by
  intro o ho
  unfold G5
  cases h1:i4 o a with
  | true=>rw[wj.1 h1,ha.2]at ho;simp at ho
  | false =>
   cases h2:i4 o b with
   | true=>rw[wj.1 h2,hb.2]at ho;simp at ho
   | false=>rfl
 refine Sim.trans (Γ':=bJ (aEY (G5 a b) l)) (h':=aZ (AV (G5 a b) m)) ?_ h
 rw[←arK,←JX (G5 a b) (aaz a b) hres]
 refine Sim.ren (G5 a b) (aaz a b) fun o ho=>?_
 unfold G5
 cases h1:i4 o a with
 | true=>have:=wj.1 h1;subst this;omega
 | false =>
  cases h2:i4 o b with
  | true=>have:=wj.1 h2;subst this;omega
  | false=>rfl
theorem aOX(t:Nat)(o:Oid)(e k:Nat)(ht:look l t = .c .nilS)(hk:Nat.blt 0 k=true)(hf:(pY o l&&oK o m)=true)(ho:Nat.blt o.1 1000=true)(h:Pz n I ((t,.c (.slO o))::l) ((o,.arr e k [])::m) l' m'):Pz n I l m l' m':=by
 rw[gk]at hf
 have ho':o.1<1000:=by simpa using ho
 have hk':0<k:=by simpa using hk
 exact Sim.trans (Sim.own e k (by rw[m6];exact ht) hk' (uZ hf.1 hf.2) ho') h
end
end Go.VM
namespace Go.VM
def afY(P:Program)(E:TypeId→Nat→Option (List TypeDesc)):List Field→Nat→Nat→Option (List TypeDesc)
 | [],off,n=>if off=n then some []else none
 | f :: fs, off, n => if f.name ≠ "_" ∧ f.offset = off then (P.info? f.type).bind fun i => (E f.type i.size).bind fun a => (afY P E fs (off + i.size) n).map (a ++ ·) else none
def eqTy(P:Program):Nat→TypeId→Nat→Option (List TypeDesc)
 | 0,_,_=>none
 | d+1,t,n=>match P.underlying t with
  | some .bool=>if n=1 then some [.bool]else none
  | some (.int k)=>if n=1 then some [.int k]else none
  | some .string=>if n=1 then some [.string]else none
  | some (.struct fs)=>if P.stoodInHeld t=true then none else afY P (eqTy P d) fs.toList 0 n
  | _=>none
def vOf(P:Program)(t:TypeId)(cs:List Value):Value :=
 match P.underlying t with
 | some (.struct _)=>.agg cs.toArray
 | some (.array _ _)=>.agg cs.toArray
 | _=>cs.headD undef
theorem aaJ:∀ {cs ds:List Value} {b:Bool},eqL cs ds=some b→cs.length=ds.length
 | [],[],_,_=>rfl
 | [],_::_,_,h=>by simp[eqL]at h
 | _::_,[],_,h=>by simp[eqL]at h
 | _::cs,_::ds,b,h=>by
  simp only[eqL,ak,aw]at h
  obtain⟨_,_,y,hy,_⟩:=h
  simp[aaJ hy]
theorem O3:∀(k:Nat) {cs ds:List Value} {b:Bool},eqL cs ds=some b→∃b1 b2,eqL (cs.take k) (ds.take k)=some b1∧eqL (cs.drop k) (ds.drop k)=some b2∧b=(b1&&b2)
 | 0,cs,ds,b,h=>⟨true,b,rfl,by simpa using h,by simp⟩
 | k+1,[],[],b,h=>by simp[eqL]at h;subst h;exact⟨true,true,rfl,rfl,rfl⟩
 | k+1,[],_::_,_,h=>by simp[eqL]at h
 | k+1,_::_,[],_,h=>by simp[eqL]at h
 | k+1,c::cs,d::ds,b,h=>by
  simp only[eqL,ak,aw]at h
  obtain⟨x,hx,y,hy,rfl⟩:=h
  obtain⟨b1,b2,h1,h2,rfl⟩:=O3 k hy
  exact⟨x&&b1,b2,by simp[eqL,hx,h1],by simpa using h2,by simp[Bool.and_assoc]⟩
theorem fits_len:∀ {sh:List TypeDesc} {cs:List Value},fits sh cs=true→sh.length=cs.length
 | [],[],_=>rfl
 | [],_::_,h=>by simp[fits]at h
 | _::_,[],h=>by simp[fits]at h
 | _::sh,_::cs,h=>by simp only[fits,gk]at h;simp[fits_len h.2]
theorem LK:∀ {a b:List TypeDesc} {cs:List Value},fits (a++b) cs=true→fits a (cs.take a.length)=true∧fits b (cs.drop a.length)=true
 | [],b,cs,h=>⟨rfl,by simpa using h⟩
 | x::a,b,[],h=>by simp[fits]at h
 | x::a,b,c::cs,h=>by
  simp only[List.cons_append,fits,gk]at h
  obtain⟨h1,h2⟩:=LK h.2
  exact⟨by simp[fits,h.1,h1],by simpa using h2⟩
section
variable {P:Program}
theorem Ux{E:TypeId→Nat→Option (List TypeDesc)}(hE:∀t n sh,E t n=some sh→sh.length=n):∀(fs:List Field) (off n:Nat) (sh:List TypeDesc),afY P E fs off n=some sh→off+sh.length=n
 | [],off,n,sh,h=>by
  simp only[afY]at h
  split at h
  ·cases h;simpa
  ·simp at h
 | f::fs,off,n,sh,h=>by
  simp only[afY]at h
  split at h
  ·simp only[ak,aw]at h
   obtain⟨i,_,a,ha,b,hb,rfl⟩:=h
   have h1:=hE _ _ _ ha
   have h2:=Ux hE fs _ _ _ hb
   simp;omega
  ·simp at h
theorem eqTy_len:∀(d:Nat) (t:TypeId) (n:Nat) (sh:List TypeDesc),eqTy P d t n=some sh→sh.length=n
 | 0,_,_,_,h=>by simp[eqTy]at h
 | d+1,t,n,sh,h=>by
  simp only[eqTy]at h
  split at h
  ·split at h
   ·cases h;simp;omega
   ·simp at h
  ·split at h
   ·cases h;simp;omega
   ·simp at h
  ·split at h
   ·cases h;simp;omega
   ·simp at h
  ·split at h
   ·simp at h
   ·have:=Ux (eqTy_len d) _ _ _ _ h;omega
  ·simp at h
theorem J4{t:TypeId}{i:TypeInfo}(hi:P.info? t=some i){d:Nat}{sh:List TypeDesc}(he:eqTy P d t i.size=some sh)(xs:List Value)(off:Nat)(hl:off+i.size≤xs.length)(w:World) :
  (part t xs.toArray off).run P w = .ok (vOf P t ((xs.drop off).take i.size)) w:=by
 cases d with
 | zero=>simp[eqTy]at he
 | succ d =>
  unfold eqTy at he
  have one:∀dd,P.underlying t=some dd→(∀fs,dd ≠ .struct fs)→(∀m e,dd ≠ .array m e)→i.size=1→(part t xs.toArray off).run P w = .ok (vOf P t ((xs.drop off).take i.size)) w:=by
   intro dd hd h1 h2 hs
   have hlt:off<xs.length:=by omega
   have hv:vOf P t ((xs.drop off).take i.size)=xs[off]:=by
    unfold vOf
    rw[hd,hs]
    cases dd<;>first | exact absurd rfl (h1 _) | exact absurd rfl (h2 _ _) | (rw[List.drop_eq_getElem_cons hlt];rfl)
   rw[hv]
   have hag:(isAgg t).run P w = .ok false w:=by
    unfold isAgg
    cases dd<;>first | exact absurd rfl (h1 _) | exact absurd rfl (h2 _ _) | simp[run_underlying hd]
   simp[part,hag,hlt]
  split at he
  ·split at he
   ·exact one _ ‹_› (by simp) (by simp) ‹_›
   ·simp at he
  ·split at he
   ·exact one _ ‹_› (by simp) (by simp) ‹_›
   ·simp at he
  ·split at he
   ·exact one _ ‹_› (by simp) (by simp) ‹_›
   ·simp at he
  ·rename_i fs hd
   have hag:(isAgg t).run P w = .ok true w:=by simp[isAgg,run_underlying hd]
   have hv:vOf P t ((xs.drop off).take i.size) = .agg ((xs.drop off).take i.size).toArray:=by unfold vOf;rw[hd]
   rw[hv]
   simp[part,hag,sizeOf,typeInfo,hi]
  ·simp at he
theorem adX{D d:Nat}(ih:∀t n sh,eqTy P d t n=some sh→∀cs ds b w,fits sh cs=true→eqL cs ds=some b→(Op.equalIn D t (vOf P t cs) (vOf P t ds)).run P w = .ok b w)(xs ys:List Value)(n:Nat)(hx:xs.length=n)(hy:ys.length=n) :
  ∀(fs:List Field) (off:Nat) (sh:List TypeDesc) (b:Bool) (w:World),afY P (eqTy P d) fs off n=some sh→fits sh (xs.drop off)=true→eqL (xs.drop off) (ys.drop off)=some b→(Op.eqFields D xs.toArray ys.toArray fs).run P w = .ok b w
 | [],off,sh,b,w,hf,hk,he=>by
  simp only[afY]at hf
  split at hf
  ·rename_i e
   subst e
   rw[List.drop_eq_nil_of_le (by omega),List.drop_eq_nil_of_le (by omega)]at he
   simp[eqL]at he
   subst he
   rfl
  ·simp at hf
 | f::fs,off,sh,b,w,hf,hk,he=>by
  simp only[afY]at hf
  split at hf
  ·rename_i hc
   simp only[ak,aw]at hf
   obtain⟨i,hi,a,ha,r,hr,rfl⟩:=hf
   have hla:=eqTy_len _ _ _ _ ha
   have hlr:=Ux (eqTy_len d) _ _ _ _ hr
   obtain⟨b1,b2,e1,e2,rfl⟩:=O3 i.size he
   obtain⟨k1,k2⟩:=LK hk
   rw[hla]at k1 k2
   rw[List.drop_drop]at k2
   rw[List.drop_drop,List.drop_drop]at e2
   have r1:=J4 hi ha xs off (by omega) w
   have r2:=J4 hi ha ys off (by omega) w
   have r3:=ih f.type i.size a ha _ _ b1 w k1 e1
   unfold Op.eqFields
   rw[if_pos hc.1,hc.2]
   simp only[Sem.run_bind,r1,r2,r3,Result.andThen_ok]
   cases b1 with
   | false=>simp
   | true=>simpa using adX ih xs ys n hx hy fs (off+i.size) r b2 w hr k2 e2
  ·simp at hf
theorem acK:∀(d D:Nat) (t:TypeId) (n:Nat) (sh:List TypeDesc),d≤D→eqTy P d t n=some sh→∀cs ds b w,fits sh cs=true→eqL cs ds=some b→(Op.equalIn D t (vOf P t cs) (vOf P t ds)).run P w = .ok b w
 | 0,_,_,_,_,_,h,_,_,_,_,_,_=>by simp[eqTy]at h
 | d+1,0,_,_,_,hd,_,_,_,_,_,_,_=>by omega
 | d+1,D+1,t,n,sh,hd,h,cs,ds,b,w,hk,he=>by
  have hlen:=fits_len hk
  have hshn:=eqTy_len _ _ _ _ h
  have hld:=aaJ he
  have single:∀kd,sh=[kd]→∃u v,cs=[u]∧ds=[v]∧keyOf kd u=true∧eqS u v=some b:=by
   intro kd hsh
   subst hsh
   match cs,ds,hlen,hld,hk,he with
   | [u],[v],_,_,hk,he =>
    simp only[fits,Bool.and_true]at hk
    simp only[eqL,ak,aw]at he
    obtain⟨x,hx,y,hy,rfl⟩:=he
    simp at hy;subst hy
    exact⟨u,v,rfl,rfl,hk,by simpa using hx⟩
  unfold eqTy at h
  split at h
  ·rename_i hu
   split at h
   ·cases h
    obtain⟨u,v,rfl,rfl,h1,h2⟩:=single _ rfl
    unfold vOf;rw[hu]
    cases u<;>simp[keyOf]at h1
    cases v<;>simp[eqS]at h2
    subst h2
    simp only[List.headD_cons]
    rw[run_equalIn_bool' w D t _ _ hu]
    congr 1
   ·simp at h
  ·rename_i k hu
   split at h
   ·cases h
    obtain⟨u,v,rfl,rfl,h1,h2⟩:=single _ rfl
    unfold vOf;rw[hu]
    cases u<;>simp[keyOf]at h1
    cases v<;>simp[eqS]at h2
    obtain⟨rfl,rfl⟩:=h2
    simp only[List.headD_cons]
    rw[run_equalIn_int w D t _ _ _ _ hu]
    congr 1
   ·simp at h
  ·rename_i hu
   split at h
   ·cases h
    obtain⟨u,v,rfl,rfl,h1,h2⟩:=single _ rfl
    unfold vOf;rw[hu]
    cases u<;>simp[keyOf]at h1
    cases v<;>simp[eqS]at h2
    subst h2
    rename_i x y
    simp only[List.headD_cons]
    rw[run_equalIn_string w D t _ _ hu,←beq_toListBytes]
    congr 1
    rw[Bool.eq_iff_iff,MapKept.bytes_beq];simp
   ·simp at h
  ·rename_i fs hu
   split at h
   ·simp at h
   ·rename_i hst
    have hfo:P.fieldsOf t=fs:=by simp[Program.fieldsOf,hu]
    have hv:∀l,vOf P t l = .agg l.toArray:=fun l=>by unfold vOf;rw[hu]
    rw[hv,hv,run_equalIn_struct w D t _ _ (by rw[hfo];exact hu) (by simpa using hst),hfo]
    exact adX (fun t n sh ht cs ds b w hk he=>acK d D t n sh (by omega) ht cs ds b w hk he) cs ds n (by omega) (by omega) fs.toList 0 sh b w h (by simpa using hk) (by simpa using he)
  ·simp at h
theorem eqOk_of{t:TypeId}{fs:Array Field}{n:Nat}{sh:List TypeDesc}(hu:P.underlying t=some (.struct fs))(hg:P.eqGuardType P.depth t=false)(h:eqTy P 100 t n=some sh):QJ P t sh:=by
 refine⟨hg,fun cs ds b w he hf=>?_⟩
 have:=acK 100 10000 t n sh (by omega) h cs ds b w hf he
 unfold vOf at this
 rw[hu]at this
 exact this
theorem aUK{l:L}{m:M}{kk:Env→Heap→Prop}{dst:Option Nat}{ne:Bool}{t:TypeId}{x y:Opd}{sh:List TypeDesc}{cs ds:List C}{b:Bool}(he:QJ P t sh)(hx:ev (look l) x = .agg cs)(hy:ev (look l) y = .agg ds)(hf:afK sh cs=true)(hb:WK cs ds=some b)
  (hk:kk (bJ (BK dst (bV (b != ne)) l)) (aZ m)):iW P dst (.aeq ne t x y) (bJ l) (aZ m) kk :=
 E6 ⟨sh,he,cs,ds,b,by rw[iQ];exact hx,by rw[iQ];exact hy,hf,hb,rfl⟩ rfl (by simp) hk
end
end Go.VM
namespace Go.VM
section
variable {σ:Oid→Oid} (hσ:∀o,σ (σ o)=o)
include hσ
theorem aoK(c:Cap):VK σ (VK σ c)=c:=by cases c<;>simp[VK,hσ]
theorem MQ(c:C):Hz σ (Hz σ c)=c:=by
 cases c<;>simp[Hz,hσ]
 rename_i caps
 induction caps with
 | nil=>rfl
 | cons x r ih=>simp_all[aoK hσ x]
theorem I6(cs:List C):(cs.map (Hz σ)).map (Hz σ)=cs:=by
 induction cs with
 | nil=>rfl
 | cons x r ih=>simp only[qk,MQ hσ,ih]
theorem aCY(v:V):abX σ (abX σ v)=v:=by
 cases v with
 | c x=>simp[abX,MQ hσ]
 | agg cs=>simp only[abX,I6 hσ]
 | tup vs=>rfl
 | junk=>rfl
theorem aCQ(v:V):D9 σ (D9 σ v)=v:=by
 cases v with
 | c x=>simp[D9,abX,MQ hσ]
 | agg cs=>simp only[D9,abX,I6 hσ]
 | tup vs =>
  simp only[D9]
  congr 1
  induction vs with
  | nil=>rfl
  | cons x r ih=>simp only[qk,aCY hσ,ih]
 | junk=>rfl
theorem axK(ob:Ob):uj σ (uj σ ob)=ob:=by
 cases ob with
 | arr e k rows=>rfl
 | box cs=>simp only[uj,I6 hσ]
 | map kd es=>rfl
 | mapC kd es =>
  simp only[uj,List.map_map]
  congr 1
  exact(List.map_congr_left (g:=id) (fun p _=>by simp only[Function.comp,MQ hσ];rfl)).trans (List.map_id _)
 | arrC e k rows =>
  simp only[uj,List.map_map]
  congr 1
  exact(List.map_congr_left (g:=id) (fun r _=>by simp only[Function.comp];exact I6 hσ r)).trans (List.map_id _)
 | fam G=>rfl
end
def Ij(σ:Oid→Oid)(h:Heap):Heap:=fun o=>(h (σ o)).map (uj σ)
theorem ajX{σ:Oid→Oid}(hσ:∀o,σ (σ o)=o)(h:Heap):Ij σ (Ij σ h)=h:=by
 funext o
 simp only[Ij,hσ]
 cases h o with
 | none=>rfl
 | some ob=>simp[axK hσ]
theorem Objs.ren{w:World}{ok:Nat→Prop}{B:Oid→Value}{h:Heap}{σ:Oid→Oid}(hσ:∀o,σ (σ o)=o)(ho:Objs w ok B h):Objs w ok (fun o=>B (σ o)) (Ij σ h):=by
 refine⟨fun o ob hg=>?_,fun o o' ob ob' b hg hg' hb hb'=>?_⟩
 ·simp only[Ij,aw]at hg
  obtain⟨ob',hg',rfl⟩:=hg
  exact(ho.rep (σ o) ob' hg').ren hσ
 ·simp only[Ij,aw]at hg hg'
  obtain⟨ob1,h1,_⟩:=hg
  obtain⟨ob2,h2,_⟩:=hg'
  have:=congrArg σ (ho.apart _ _ ob1 ob2 b h1 h2 hb hb')
  simpa[hσ]using this
theorem aej{B:Oid→Value}{h:Heap}{σ:Oid→Oid}(hσ:∀o,σ (σ o)=o)(b:Nat):n6 (fun o=>B (σ o)) (Ij σ h) b↔n6 B h b:=by
 constructor
 ·rintro⟨o,ob,hg,hb⟩
  simp only[Ij,aw]at hg
  obtain⟨ob',hg',_⟩:=hg
  exact⟨σ o,ob',hg',hb⟩
 ·rintro⟨o,ob,hg,hb⟩
  exact⟨σ o,uj σ ob,by simp[Ij,hσ,hg],by simpa[hσ]using hb⟩
theorem afq{n0:Nat}{ok0:Nat→Prop}{w:World}{B:Oid→Value}{h:Heap}{σ:Oid→Oid}(hσ:∀o,σ (σ o)=o)(b:Nat):mK n0 ok0 w (fun o=>B (σ o)) (Ij σ h) b↔mK n0 ok0 w B h b:=by
 unfold mK
 refine and_congr_right fun _=>and_congr_right fun _=>?_
 have:=aej (B:=B) (h:=h) hσ b
 constructor
 ·intro hx o ob ho he;exact(let ⟨p,ob',hp,hb⟩:=this.2 ⟨o,ob,ho,he⟩;hx p ob' hp hb)
 ·intro hx o ob ho he;exact(let ⟨p,ob',hp,hb⟩:=this.1 ⟨o,ob,ho,he⟩;hx p ob' hp hb)
theorem Fun.ren{P:Program}{f:FuncId}{fresh:Bool}{pins:List Oid}{vs:List V}{hin hout:Heap}{r:V}(σ:Oid→Oid)(hσ:∀o,σ (σ o)=o)(hF:Fun P f fresh pins vs hin r hout) :
  Fun P f fresh (pins.map σ) (vs.map (D9 σ)) (Ij σ hin) (D9 σ r) (Ij σ hout):=by
 intro w ok B args hlt hbl hp hobjs
 have hp':Pt (RepV w ok fun o=>B (σ o)) args vs:=by
  have:=hp.map (R':=RepV w ok fun o=>B (σ o)) (f:=D9 σ) fun v x hr=>hr.ren hσ
  have e:(vs.map (D9 σ)).map (D9 σ)=vs:=by
   clear hF hp this
   induction vs with
   | nil=>rfl
   | cons x r ih=>simp only[qk,aCQ hσ,ih]
  rwa [e]at this
 have ho':=hobjs.ren hσ
 rw[ajX hσ]at ho'
 have hb1:∀b,n6 (fun o=>B (σ o)) hin b↔n6 B (Ij σ hin) b:=fun b=>by
  have:=aej (B:=B) (h:=Ij σ hin) hσ b
  rwa [ajX hσ]at this
 refine(hF w ok (fun o=>B (σ o)) args hlt (fun b hb hx=>hbl b hb ((hb1 b).1 hx)) hp' ho').mono fun e w' he=>?_
 obtain⟨v,B',rfl,hfr,hrep,hobj,hblk,hpin⟩:=he
 refine⟨v,fun o=>B' (σ o),rfl,⟨hfr.os,hfr.tape,hfr.output,hfr.size,fun b hb hn=>hfr.block b hb fun hx=>hn ((hb1 b).1 hx)⟩,?_,?_,fun o ob b hg hb hl=>?_,fun o ho=>?_⟩
 ·refine(hrep.ren hσ).mono (fun _ _=>rfl) (fun b hb=>⟨(afq hσ b).2 hb.1,hb.2⟩) fun _ _=>rfl
 ·have:=hobj.ren hσ
  exact⟨fun o ob hg=>(this.rep o ob hg).mono (fun _ _=>rfl) (fun b hb=>(afq hσ b).2 hb) (fun _ _=>rfl) fun _ _=>rfl,this.apart⟩
 ·simp only[Ij,aw]at hg
  obtain⟨ob',hg',_⟩:=hg
  exact(hb1 b).1 (hblk (σ o) ob' b hg' hb hl)
 ·obtain⟨p,hp,rfl⟩:=yw.1 ho
  simp only[hσ]
  rw[hpin p hp]
end Go.VM
namespace Go.VM
def wK:M→Bool
 | []=>true
 | p::r=>!(o6 p.1)&&(jV p.2).isNone&&wK r
theorem LY{p:Oid×Ob}{r:M}(h:wK (p::r)=true):o6 p.1=false∧jV p.2=none∧wK r=true:=by
 simp only[wK,gk,Cw,Option.isNone_iff_eq_none]at h
 exact⟨h.1.1,h.1.2,h.2⟩
theorem Jj{o:Oid}(ho:o6 o=true):∀ {m:M},wK m=true→bY m o=none
 | [],_=>rfl
 | p::r,h=>by
  obtain⟨h1,h2,h3⟩:=LY h
  simp only[bY,h2]
  cases hb:i4 o p.1 with
  | true=>rw[wj.1 hb,h1]at ho;simp at ho
  | false=>exact Jj ho h3
def acQ(m mi mo:M):M:=mo++(m.filter fun p=>(jV p.2).isSome || !((bY mi p.1).isSome||(bY mo p.1).isSome))
theorem ahz(a b:M)(o:Oid)(ha:wK a=true):bY (a ++ b) o=match bY a o with | some x => some x | none => bY b o := by
 induction a with
 | nil=>rfl
 | cons p r ih =>
  obtain⟨h1,h2,h3⟩:=LY ha
  simp only[List.cons_append,bY,h2]
  cases i4 o p.1 with
  | true=>rfl
  | false=>exact ih h3
theorem QX(f:Oid→Bool)(hr:∀o,o6 o=true→f o=true)(m:M)(o:Oid):bY (m.filter fun p=>(jV p.2).isSome||f p.1) o=if f o=true then bY m o else none:=by
 induction m with
 | nil=>simp[bY]
 | cons p r ih =>
  simp only[List.filter_cons]
  cases hx:jV p.2 with
  | some G =>
   simp only[Option.isSome_some,Bool.true_or,if_true,bY,hx]
   cases ho:o6 o with
   | true=>simp[hr o ho]
   | false=>simpa using ih
  | none =>
  simp only[Option.isSome_none,Bool.false_or]
  by_cases hf:f p.1=true
  ·rw[if_pos hf]
   simp only[bY,hx]
   cases hb:i4 o p.1 with
   | true=>have:=wj.1 hb;subst this;simp[hf]
   | false=>simpa using ih
  ·rw[if_neg hf,ih]
   simp only[bY,hx]
   cases hb:i4 o p.1 with
   | true=>have:=wj.1 hb;subst this;simp[hf]
   | false=>rfl
theorem Z5(m mi mo:M)(hi:wK mi=true)(ho:wK mo=true):aZ (acQ m mi mo)=u7 (aZ m) (aZ mi) (aZ mo):=by
 funext o
 unfold acQ u7
 rw[cJ,cJ,cJ,cJ,ahz _ _ _ ho,QX (fun o=>!((bY mi o).isSome||(bY mo o).isSome)) (fun o h=>by simp[Jj h hi,Jj h ho])]
 cases bY mo o with
 | some x=>rfl
 | none =>
  cases bY mi o with
  | some y=>simp
  | none=>simp
def alY(o:Oid)(l:L)(m mi:M):Bool:=pY o l&&oK o (m.filter fun p=>(jV p.2).isSome || !(bY mi p.1).isSome)
theorem aeJ{o:Oid}{l:L}{m mi:M}(hpl:wK mi=true)(h:alY o l m mi=true):asW o (bJ l) (aZ m) (aZ mi):=by
 simp only[alY,gk]at h
 have hf:=uZ h.1 h.2
 refine⟨hf.env,fun p ob hp hi=>hf.heap p ob ?_⟩
 rw[cJ]at hp hi ⊢
 rw[QX (fun o=>!(bY mi o).isSome) (fun o h=>by simp[Jj h hpl]),if_pos (by simp[hi])]
 exact hp
def L0(pins:List Oid)(l:L)(m mi:M):M→Bool
 | []=>wK mi
 | p::r=>!(o6 p.1)&&(jV p.2).isNone&&(Gq p.1 pins||(Nat.blt p.1.1 1000&&alY p.1 l m mi))&&L0 pins l m mi r
theorem AQ{pins:List Oid}{l:L}{m mi:M}:∀ {mo:M},L0 pins l m mi mo=true→wK mi=true∧wK mo=true
 | [],h=>⟨h,rfl⟩
 | p::r,h=>by
  simp only[L0,gk]at h
  obtain⟨h1,h2⟩:=AQ h.2
  exact⟨h1,by simp only[wK,gk];exact⟨h.1.1,h2⟩⟩
def J2(pins:List Oid)(mo:M):List Oid→Bool
 | []=>true
 | p::r=>((bY mo p).isSome||Gq p pins)&&J2 pins mo r
def N0(pins:List Oid)(mo:M):M→Bool
 | []=>true
 | p::r=>J2 pins mo p.2.refs&&N0 pins mo r
theorem E8{o:Oid}:∀ {l:List Oid},Gq o l=true→o∈l
 | [],h=>by simp[Gq]at h
 | p::r,h=>by
  simp only[Gq,Bw]at h
  rcases h with h | h
  ·rw[wj.1 h];simp
  ·exact Aw _ (E8 h)
theorem N7{m:M}{o:Oid}{ob:Ob}(hp:wK m=true)(h:bY m o=some ob):(o,ob)∈m:=by
 induction m with
 | nil=>simp[bY]at h
 | cons p r ih =>
  obtain⟨_,h2,h3⟩:=LY hp
  simp only[bY,h2]at h
  cases hb:i4 o p.1 with
  | true=>simp only[hb,cond_true,ek]at h;rw[wj.1 hb,←h];simp
  | false=>simp only[hb,cond_false]at h;exact Aw _ (ih h3 h)
theorem H1{pins:List Oid}{l:L}{m mi:M}:∀ {mo:M},L0 pins l m mi mo=true→∀p∈mo,p.1∈pins∨(p.1.1<1000∧asW p.1 (bJ l) (aZ m) (aZ mi))
 | [],_,p,hp=>by simp at hp
 | q::r,h,p,hp=>by
  have hpl:=(AQ h).1
  simp only[L0,gk,Bw]at h
  rcases List.mem_cons.1 hp with rfl | hp
  ·rcases h.1.2 with h1 | ⟨h1,h2⟩
   ·exact .inl (E8 h1)
   ·exact .inr ⟨by simpa using h1,aeJ hpl h2⟩
  ·exact H1 h.2 p hp
theorem AJ{pins:List Oid}{mo:M}:∀ {rs:List Oid},J2 pins mo rs=true→∀p∈rs,(aZ mo p).isSome=true∨p∈pins
 | [],_,p,hp=>by simp at hp
 | q::r,h,p,hp=>by
  simp only[J2,gk,Bw]at h
  rcases List.mem_cons.1 hp with rfl | hp
  ·rcases h.1 with h1 | h1
   ·exact .inl (by rw[cJ];exact h1)
   ·exact .inr (E8 h1)
  ·exact AJ h.2 p hp
theorem GY{pins:List Oid}{mo:M}:∀ {ms:M},N0 pins mo ms=true→∀q∈ms,∀p∈q.2.refs,(aZ mo p).isSome=true∨p∈pins
 | [],_,q,hq=>by simp at hq
 | x::r,h,q,hq=>by
  simp only[N0,gk]at h
  rcases List.mem_cons.1 hq with rfl | hq
  ·exact AJ h.1
  ·exact GY h.2 q hq
end Go.VM
namespace Go.VM
structure aPX(P:Program)(f:FuncId)(pins:List Oid)(vs:List V)(Γ:Env)(h hin:Heap)(r:V)(hout:Heap):Prop where
 fn:∃us,G7 (Bx h hin) vs us∧Fun P f false pins us hin r hout
 sub:∀o ob,hin o=some ob→h o=some ob
 names:∀o ob,hout o=some ob→o∈pins∨(o.1<1000∧asW o Γ h hin)
 closed:∀o ob,hout o=some ob→∀p∈ob.refs,(hout p).isSome=true∨p∈pins
 res:∀p∈r.refs,(hout p).isSome=true∨p∈pins
 flatR:apj r=true
 flatO:∀o ob,hout o=some ob→FlatOb ob
section
variable {P:Program} {K:Ctx} {B:Oid→Value} {Γ:Env} {h:Heap} {a:Act} {w:World}
theorem akK(s:StB K B Γ h a w){f:FuncId}{args:List Value}{vs:List V}{hin hout:Heap}{r:V}(hargs:Pt (RepV w (okS K w B h) B) args vs){pins:List Oid}(hc:aPX P f pins vs Γ h hin r hout) :
  Calls P f args.toArray w fun e w'=>∃v B',e = .returned v∧StB K B' Γ (u7 h hin hout) a w'∧RepV w' (okS K w' B' (u7 h hin hout)) B' v r:=by
 obtain⟨us,hsub,hF⟩:=hc.fn
 have hblt:∀b,n6 B h b→b<w.heap.size:=fun b ⟨o,ob,hg,hb⟩=>(s.objs.rep o ob hg).lt hb
 have hinh:∀b,n6 B hin b→n6 B h b:=fun b ⟨o,ob,hg,hb⟩=>⟨o,ob,hc.sub o ob hg,hb⟩
 have hlsub:∀o ob,Bx h hin o=some ob→h o=some ob∧hin o=none:=by
  intro o ob ho
  unfold Bx at ho
  cases hi:hin o with
  | some _=>simp[hi]at ho
  | none=>simp only[hi]at ho;exact⟨ho,rfl⟩
 have apartIn:∀o ob b,h o=some ob→hin o=none→gz (B o)=some b→¬n6 B hin b:=by
  rintro o ob b hg hi hb ⟨p,ob',hp,hpb⟩
  have:=s.objs.apart o p ob ob' b hg (hc.sub p ob' hp) hb hpb
  subst this
  rw[hi]at hp;simp at hp
 let ok2:Nat→Prop:=fun b=>okS K w B h b∨n6 B (Bx h hin) b
 have ok2lt:∀b,ok2 b→b<w.heap.size:=fun b hb=>hb.elim (fun h=>h.1) fun⟨o,ob,hg,hb⟩=>hblt b ⟨o,ob,(hlsub o ob hg).1,hb⟩
 have ok2in:∀b,ok2 b→¬n6 B hin b:=by
  rintro b (hb | ⟨o,ob,hg,hb⟩) hx
  ·obtain⟨p,ob,hg,hb'⟩:=hinh b hx;exact hb.2.2 p ob hg hb'
  ·exact apartIn o ob b (hlsub o ob hg).1 (hlsub o ob hg).2 hb hx
 refine(hF w ok2 B args ok2lt ok2in (I9 s (fun o ob ho=>(hlsub o ob ho).1) (fun b hb=>.inl hb) (fun b hb=>.inr hb) _ _ _ hargs hsub)
  ⟨fun o ob hg=>(s.objs.rep o ob (hc.sub o ob hg)).mono (fun _ _=>rfl) (fun b hb=>.inl hb) (fun _ _=>rfl) fun _ _=>rfl,fun o o' ob ob' b hg hg'=>s.objs.apart o o' ob ob' b (hc.sub o ob hg) (hc.sub o' ob' hg')⟩).mono fun e w' he=>?_
 obtain⟨v,B',rfl,hfr,hrep,hobjs,hblk,hsame⟩:=he
 let B2:Oid → Value := fun o => match hout o with | some _ => B' o | none => B o
 have hB2o:∀o ob,hout o=some ob→B2 o=B' o:=fun o ob ho=>by simp only[B2,ho]
 have hB2n:∀o,hout o=none→B2 o=B o:=fun o ho=>by simp only[B2,ho]
 have hB2i:∀o,o∈pins→B2 o=B o:=fun o hi=>by
  cases ho:hout o with
  | none=>exact hB2n o ho
  | some ob'=>rw[hB2o o ob' ho,hsame o hi]
 have hB2':∀o,(hout o).isSome=true∨o∈pins→B2 o=B' o:=by
  intro o ho
  cases hg:hout o with
  | some ob=>exact hB2o o ob hg
  | none =>
   rw[hg]at ho
   simp at ho
   rw[hB2n o hg,hsame o ho]
 have cases2:∀o ob,u7 h hin hout o=some ob→hout o=some ob∨(hout o=none∧hin o=none∧h o=some ob):=by
  intro o ob hm
  unfold u7 at hm
  cases ho:hout o with
  | some ob'=>simp only[ho]at hm;exact .inl hm
  | none =>
   simp only[ho]at hm
   cases hi:hin o with
   | some _=>simp only[hi]at hm;simp at hm
   | none=>simp only[hi]at hm;exact .inr ⟨rfl,rfl,hm⟩
 have hmono:∀b,okS K w B h b→w'.heap[b]? = w.heap[b]?:=fun b hb=>hfr.block b hb.1 fun hx=>by
  obtain⟨o,ob,hg,hb'⟩:=hinh b hx
  exact hb.2.2 o ob hg hb'
 have hok:∀b,okS K w B h b→okS K w' B2 (u7 h hin hout) b:=by
  intro b hb
  refine⟨Nat.lt_of_lt_of_le hb.1 hfr.size,hb.2.1,fun o ob ho hbl=>?_⟩
  rcases cases2 o ob ho with h1 | ⟨h1,h2,h3⟩
  ·rw[hB2o o ob h1]at hbl
   obtain⟨p,ob',hp,hpb⟩:=hinh b (hblk o ob b h1 hbl hb.1)
   exact hb.2.2 p ob' hp hpb
  ·rw[hB2n o h1]at hbl
   exact hb.2.2 o ob h3 hbl
 have hΓ:∀t,∀o∈(Γ t).refs,B2 o=B o:=by
  intro t o ho
  cases hg:hout o with
  | none=>exact hB2n o hg
  | some ob =>
   rcases hc.names o ob hg with h1 | ⟨_,h1⟩
   ·exact hB2i o h1
   ·exact absurd ho (h1.1 t)
 refine⟨v,B2,rfl,⟨fun t=>(s.slots t).mono hmono hok (hΓ t),⟨fun o ob ho=>?_,fun o o' ob ob' b ho ho' hb hb'=>?_⟩,s.defers,s.size,s.fr.trans hfr ?_,fun o ob b ho hb hlt=>?_,fun o ho=>?_⟩,?_⟩
 ·rcases cases2 o ob ho with h1 | ⟨h1,h2,h3⟩
  ·rw[hB2o o ob h1]
   exact(hc.flatO o ob h1).rep (fun p hp=>hB2' p (hc.closed o ob h1 p hp)) (hobjs.rep o ob h1)
  ·rw[hB2n o h1]
   refine(s.objs.rep o ob h3).mono hmono hok (fun p hp=>?_) fun b hb=>hfr.block b (hblt b ⟨o,ob,h3,hb⟩) (apartIn o ob b h3 h2 hb)
   cases hg:hout p with
   | none=>exact hB2n p hg
   | some ob' =>
    rcases hc.names p ob' hg with h4 | ⟨_,h4⟩
    ·exact hB2i p h4
    ·exact absurd hp (h4.2 o ob h3 h2).2
 ·rcases cases2 o ob ho with h1 | ⟨h1,h2,h3⟩
  ·rw[hB2o o ob h1]at hb
   rcases cases2 o' ob' ho' with g1 | ⟨g1,g2,g3⟩
   ·rw[hB2o o' ob' g1]at hb'
    exact hobjs.apart o o' ob ob' b h1 g1 hb hb'
   ·rw[hB2n o' g1]at hb'
    exact absurd (hblk o ob b h1 hb (hblt b ⟨o',ob',g3,hb'⟩)) (apartIn o' ob' b g3 g2 hb')
  ·rw[hB2n o h1]at hb
   rcases cases2 o' ob' ho' with g1 | ⟨g1,g2,g3⟩
   ·rw[hB2o o' ob' g1]at hb'
    exact absurd (hblk o' ob' b g1 hb' (hblt b ⟨o,ob,h3,hb⟩)) (apartIn o ob b h3 h2 hb)
   ·rw[hB2n o' g1]at hb'
    exact s.objs.apart o o' ob ob' b h3 g3 hb hb'
 ·intro b hb hx
  obtain⟨o,ob,hg,hb'⟩:=hinh b hx
  exact s.own o ob b hg hb' hb
 ·rcases cases2 o ob ho with h1 | ⟨h1,h2,h3⟩
  ·rw[hB2o o ob h1]at hb
   obtain⟨p,ob',hp,hpb⟩:=hinh b (hblk o ob b h1 hb (by have:=s.fr.size;omega))
   exact s.own p ob' b hp hpb hlt
  ·rw[hB2n o h1]at hb
   exact s.own o ob b h3 hb hlt
 ·obtain⟨h1,h2⟩:=s.pin o ho
  refine⟨h1,?_⟩
  cases hg:hout o with
  | none=>rw[hB2n o hg];exact h2
  | some ob =>
   rcases hc.names o ob hg with h4 | ⟨h4,_⟩
   ·rw[hB2i o h4];exact h2
   ·omega
 ·exact amq hc.flatR (fun p hp=>hB2' p (hc.res p hp)) hrep
end
end Go.VM
namespace Go.VM
open MapKept
section
variable {P:Program} {K:Ctx} {B:Oid→Value} {Γ:Env} {h:Heap} {a:Act} {w:World}
theorem azK{o:Oper}{kd:TypeDesc}{z:V}{ok:Bool}{x i:Opd}(hc:cOp P o=some (.look kd z ok x i)) :
  ∃t k e x0 i0 inf zv,o.op = .lookup t x0 i0 ok∧P.underlying t=some (.map k e)∧P.underlying k=some kd∧P.info? e=some inf∧inf.zero=some zv∧DK zv=some z∧bX x0=some x∧bX i0=some i:=by
 cases hop:o.op
 case move x=>simp only[cOp,hop,aw]at hc;obtain⟨_,_,hc⟩:=hc;cases hc
 case assign x=>simp only[cOp,hop,aw]at hc;obtain⟨_,_,hc⟩:=hc;cases hc
 case nilCheck x=>simp only[cOp,hop,aw]at hc;obtain⟨_,_,hc⟩:=hc;cases hc
 case unOp op t x=>simp only[cOp,hop,aw]at hc;obtain⟨_,_,hc⟩:=hc;cases hc
 case extract x i=>simp only[cOp,hop,aw]at hc;obtain⟨_,_,hc⟩:=hc;cases hc
 case pick c x y =>
  simp only[cOp,hop,ak,aw]at hc
  obtain⟨_,_,_,_,_,_,hc⟩:=hc
  cases hc
 case build t parts =>
  simp only[cOp,hop,ak]at hc
  obtain⟨_,_,d',_,hc⟩:=hc
  cases d'<;>simp only[reduceCtorEq]at hc
  all_goals
   simp only[ak,aw]at hc
   obtain⟨_,_,_,_,hc⟩:=hc
   cases hc
 case load t x =>
  simp only[cOp,hop,ak]at hc
  obtain⟨⟨d',i⟩,_,x',_,hc⟩:=hc
  simp only at hc
  split at hc<;>cases hc
 case fieldAddr st x f =>
  simp only[cOp,hop,ak]at hc
  obtain⟨d',_,hc⟩:=hc
  cases d'<;>simp only[reduceCtorEq]at hc
  simp only[ak]at hc
  obtain⟨_,_,_,_,hc⟩:=hc
  split at hc
  ·simp at hc
  ·simp only[aw]at hc;obtain⟨_,_,hc⟩:=hc;cases hc
 case field st x f =>
  simp only[cOp,hop,ak]at hc
  obtain⟨d',_,hc⟩:=hc
  cases d'<;>simp only[reduceCtorEq]at hc
  simp only[ak,aw]at hc
  obtain⟨_,_,⟨d',i⟩,_,x',_,hc⟩:=hc
  split at hc<;>cases hc
 case indexAddr t x i =>
  simp only[cOp,hop,ak]at hc
  obtain⟨d',_,hc⟩:=hc
  cases d'<;>simp only[reduceCtorEq]at hc
  all_goals
   simp only[ak,aw]at hc
   obtain⟨_,_,_,_,_,_,hc⟩:=hc
   cases hc
 case index t x i =>
  simp only[cOp,hop,ak]at hc
  obtain⟨d',_,hc⟩:=hc
  cases d'<;>simp only[reduceCtorEq]at hc
  case string =>
   simp only[ak,aw]at hc
   obtain⟨_,_,_,_,hc⟩:=hc
   cases hc
  case array n e =>
   simp only[ak,aw]at hc
   obtain⟨⟨d',ie⟩,_,_,_,_,_,hc⟩:=hc
   split at hc<;>cases hc
 case binOp op t x y yt =>
  simp only[cOp,hop,ak]at hc
  obtain⟨d',_,_,_,_,_,hc⟩:=hc
  split at hc<;>first | (cases hc;done) | simp at hc
 case convert src dst x =>
  simp only[cOp,hop,ak]at hc
  obtain⟨_,_,d',_,hc⟩:=hc
  cases d'<;>simp only[reduceCtorEq]at hc
  all_goals
   simp only[aw]at hc
   obtain⟨_,_,hc⟩:=hc
   cases hc
 case makeFunc fn first caps =>
  cases fn with
  | func f =>
   simp only[cOp,hop]at hc
   split at hc
   ·simp only[aw]at hc;obtain⟨_,_,hc⟩:=hc;cases hc
   ·simp at hc
  | _=>simp[cOp,hop]at hc
 case slice t x lo hi mx =>
  cases mx with
  | some _=>simp[cOp,hop]at hc
  | none =>
   simp only[cOp,hop,ak]at hc
   obtain⟨d',hdd,hc⟩:=hc
   cases d'<;>simp only[reduceCtorEq]at hc
   case slice e =>
    simp only[ak,aw]at hc
    obtain⟨ie,hie,x',hx',lo',hlo',hi',hhi',hc⟩:=hc
    cases hc
   case string =>
    simp only[ak,aw]at hc
    obtain⟨_,_,_,_,_,_,hc⟩:=hc
    cases hc
 case alloc e=>simp only[cOp,hop,aw]at hc;obtain⟨_,_,hc⟩:=hc;cases hc
 case box e x=>simp only[cOp,hop,aw]at hc;obtain⟨_,_,hc⟩:=hc;cases hc
 case makeSlice t l c =>
  simp only[cOp,hop,ak]at hc
  obtain⟨d',_,hc⟩:=hc
  cases d'<;>simp only[reduceCtorEq]at hc
  simp only[ak]at hc
  obtain⟨_,_,_,_,hc⟩:=hc
  split at hc
  ·simp only[ak,aw]at hc
   obtain⟨_,_,_,_,hc⟩:=hc
   cases hc
  ·simp at hc
 case buildSlice t n ps =>
  simp only[cOp,hop,ak]at hc
  obtain⟨d',_,hc⟩:=hc
  cases d'<;>simp only[reduceCtorEq]at hc
  simp only[ak]at hc
  obtain⟨_,_,_,_,_,_,hc⟩:=hc
  split at hc
  ·cases hc
  ·simp at hc
 case store t x v =>
  simp only[cOp,hop,ak,aw]at hc
  obtain⟨_,_,_,_,_,_,hc⟩:=hc
  cases hc
 case call c =>
  simp only[cOp,hop]at hc
  split at hc
  ·rename_i f' hcal
   simp only[ak]at hc
   obtain⟨fn,hfn,hc⟩:=hc
   split at hc
   ·rename_i hcond
    simp only[aw]at hc
    obtain⟨ys,hys,he⟩:=hc
    cases he
   ·simp at hc
  ·simp only[ak,aw]at hc
   obtain⟨_,_,_,_,hc⟩:=hc
   cases hc
  ·split at hc
   ·simp only[ak]at hc
    obtain⟨d',_,hc⟩:=hc
    cases d'<;>simp only[reduceCtorEq]at hc
    all_goals
     split at hc
     ·simp only[aw]at hc;obtain⟨_,_,hc⟩:=hc;cases hc
     ·simp at hc
   ·simp at hc
  ·simp only[aw]at hc;obtain⟨_,_,hc⟩:=hc;cases hc
  ·simp only[aw]at hc;obtain⟨_,_,hc⟩:=hc;cases hc
  ·split at hc
   ·simp only[ak]at hc
    obtain⟨d',_,hc⟩:=hc
    cases d'<;>simp only[reduceCtorEq]at hc
    simp only[ak]at hc
    obtain⟨ie,_,hc⟩:=hc
    split at hc
    ·simp only[ak,aw]at hc
     obtain⟨_,_,_,_,hc⟩:=hc
     cases hc
    ·simp at hc
   ·simp at hc
  ·simp at hc
 case makeMap t rs =>
  cases rs with
  | some _=>simp[cOp,hop]at hc
  | none =>
   simp only[cOp,hop,ak]at hc
   obtain⟨d,_,hc⟩:=hc
   cases d<;>simp only[reduceCtorEq]at hc
   simp only[ak]at hc
   obtain⟨_,_,hc⟩:=hc
   split at hc<;>cases hc
 case lookup t x i ok' =>
  simp only[cOp,hop,ak]at hc
  obtain⟨d,hdd,hc⟩:=hc
  cases d<;>simp only[reduceCtorEq]at hc
  simp only[ak,aw]at hc
  obtain⟨kd',hkd,zv,⟨inf,hinf,hzv⟩,z',hz,x',hx',i',hi',hc⟩:=hc
  cases hc
  exact⟨t,_,_,x,i,inf,zv,rfl,hdd,hkd,hinf,hzv,hz,hx',hi'⟩
 case mapUpdate t x i v =>
  simp only[cOp,hop,ak]at hc
  obtain⟨d,_,hc⟩:=hc
  cases d<;>simp only[reduceCtorEq]at hc
  simp only[ak,aw]at hc
  obtain⟨_,_,_,_,_,_,_,_,hc⟩:=hc
  cases hc
 case insert t x i v =>
  simp only[cOp,hop,ak]at hc
  obtain⟨d,_,hc⟩:=hc
  cases d<;>simp only[reduceCtorEq]at hc
  simp only[ak,aw]at hc
  obtain⟨_,_,_,_,_,_,_,_,hc⟩:=hc
  cases hc
 all_goals (simp only[cOp,hop,reduceCtorEq]at hc)
theorem ayZ{o:Oper}{kd:TypeDesc}{x i v:Opd}(hc:cOp P o=some (.mupd kd x i v)) :
  ∃t k e x0 i0 v0,(o.op = .mapUpdate t x0 i0 v0∨o.op = .insert t x0 i0 v0)∧P.underlying t=some (.map k e)∧P.underlying k=some kd∧bX x0=some x∧bX i0=some i∧bX v0=some v:=by
 cases hop:o.op
 case move x=>simp only[cOp,hop,aw]at hc;obtain⟨_,_,hc⟩:=hc;cases hc
 case assign x=>simp only[cOp,hop,aw]at hc;obtain⟨_,_,hc⟩:=hc;cases hc
 case nilCheck x=>simp only[cOp,hop,aw]at hc;obtain⟨_,_,hc⟩:=hc;cases hc
 case unOp op t x=>simp only[cOp,hop,aw]at hc;obtain⟨_,_,hc⟩:=hc;cases hc
 case extract x i=>simp only[cOp,hop,aw]at hc;obtain⟨_,_,hc⟩:=hc;cases hc
 case pick c x y =>
  simp only[cOp,hop,ak,aw]at hc
  obtain⟨_,_,_,_,_,_,hc⟩:=hc
  cases hc
 case build t parts =>
  simp only[cOp,hop,ak]at hc
  obtain⟨_,_,d',_,hc⟩:=hc
  cases d'<;>simp only[reduceCtorEq]at hc
  all_goals
   simp only[ak,aw]at hc
   obtain⟨_,_,_,_,hc⟩:=hc
   cases hc
 case load t x =>
  simp only[cOp,hop,ak]at hc
  obtain⟨⟨d',i⟩,_,x',_,hc⟩:=hc
  simp only at hc
  split at hc<;>cases hc
 case fieldAddr st x f =>
  simp only[cOp,hop,ak]at hc
  obtain⟨d',_,hc⟩:=hc
  cases d'<;>simp only[reduceCtorEq]at hc
  simp only[ak]at hc
  obtain⟨_,_,_,_,hc⟩:=hc
  split at hc
  ·simp at hc
  ·simp only[aw]at hc;obtain⟨_,_,hc⟩:=hc;cases hc
 case field st x f =>
  simp only[cOp,hop,ak]at hc
  obtain⟨d',_,hc⟩:=hc
  cases d'<;>simp only[reduceCtorEq]at hc
  simp only[ak,aw]at hc
  obtain⟨_,_,⟨d',i⟩,_,x',_,hc⟩:=hc
  split at hc<;>cases hc
 case indexAddr t x i =>
  simp only[cOp,hop,ak]at hc
  obtain⟨d',_,hc⟩:=hc
  cases d'<;>simp only[reduceCtorEq]at hc
  all_goals
   simp only[ak,aw]at hc
   obtain⟨_,_,_,_,_,_,hc⟩:=hc
   cases hc
 case index t x i =>
  simp only[cOp,hop,ak]at hc
  obtain⟨d',_,hc⟩:=hc
  cases d'<;>simp only[reduceCtorEq]at hc
  case string =>
   simp only[ak,aw]at hc
   obtain⟨_,_,_,_,hc⟩:=hc
   cases hc
  case array n e =>
   simp only[ak,aw]at hc
   obtain⟨⟨d',ie⟩,_,_,_,_,_,hc⟩:=hc
   split at hc<;>cases hc
 case binOp op t x y yt =>
  simp only[cOp,hop,ak]at hc
  obtain⟨d',_,_,_,_,_,hc⟩:=hc
  split at hc<;>first | (cases hc;done) | simp at hc
 case convert src dst x =>
  simp only[cOp,hop,ak]at hc
  obtain⟨_,_,d',_,hc⟩:=hc
  cases d'<;>simp only[reduceCtorEq]at hc
  all_goals
   simp only[aw]at hc
   obtain⟨_,_,hc⟩:=hc
   cases hc
 case makeFunc fn first caps =>
  cases fn with
  | func f =>
   simp only[cOp,hop]at hc
   split at hc
   ·simp only[aw]at hc;obtain⟨_,_,hc⟩:=hc;cases hc
   ·simp at hc
  | _=>simp[cOp,hop]at hc
 case slice t x lo hi mx =>
  cases mx with
  | some _=>simp[cOp,hop]at hc
  | none =>
   simp only[cOp,hop,ak]at hc
   obtain⟨d',hdd,hc⟩:=hc
   cases d'<;>simp only[reduceCtorEq]at hc
   case slice e =>
    simp only[ak,aw]at hc
    obtain⟨ie,hie,x',hx',lo',hlo',hi',hhi',hc⟩:=hc
    cases hc
   case string =>
    simp only[ak,aw]at hc
    obtain⟨_,_,_,_,_,_,hc⟩:=hc
    cases hc
 case alloc e=>simp only[cOp,hop,aw]at hc;obtain⟨_,_,hc⟩:=hc;cases hc
 case box e x=>simp only[cOp,hop,aw]at hc;obtain⟨_,_,hc⟩:=hc;cases hc
 case makeSlice t l c =>
  simp only[cOp,hop,ak]at hc
  obtain⟨d',_,hc⟩:=hc
  cases d'<;>simp only[reduceCtorEq]at hc
  simp only[ak]at hc
  obtain⟨_,_,_,_,hc⟩:=hc
  split at hc
  ·simp only[ak,aw]at hc
   obtain⟨_,_,_,_,hc⟩:=hc
   cases hc
  ·simp at hc
 case buildSlice t n ps =>
  simp only[cOp,hop,ak]at hc
  obtain⟨d',_,hc⟩:=hc
  cases d'<;>simp only[reduceCtorEq]at hc
  simp only[ak]at hc
  obtain⟨_,_,_,_,_,_,hc⟩:=hc
  split at hc
  ·cases hc
  ·simp at hc
 case store t x v =>
  simp only[cOp,hop,ak,aw]at hc
  obtain⟨_,_,_,_,_,_,hc⟩:=hc
  cases hc
 case call c =>
  simp only[cOp,hop]at hc
  split at hc
  ·rename_i f' hcal
   simp only[ak]at hc
   obtain⟨fn,hfn,hc⟩:=hc
   split at hc
   ·rename_i hcond
    simp only[aw]at hc
    obtain⟨ys,hys,he⟩:=hc
    cases he
   ·simp at hc
  ·simp only[ak,aw]at hc
   obtain⟨_,_,_,_,hc⟩:=hc
   cases hc
  ·split at hc
   ·simp only[ak]at hc
    obtain⟨d',_,hc⟩:=hc
    cases d'<;>simp only[reduceCtorEq]at hc
    all_goals
     split at hc
     ·simp only[aw]at hc;obtain⟨_,_,hc⟩:=hc;cases hc
     ·simp at hc
   ·simp at hc
  ·simp only[aw]at hc;obtain⟨_,_,hc⟩:=hc;cases hc
  ·simp only[aw]at hc;obtain⟨_,_,hc⟩:=hc;cases hc
  ·split at hc
   ·simp only[ak]at hc
    obtain⟨d',_,hc⟩:=hc
    cases d'<;>simp only[reduceCtorEq]at hc
    simp only[ak]at hc
    obtain⟨ie,_,hc⟩:=hc
    split at hc
    ·simp only[ak,aw]at hc
     obtain⟨_,_,_,_,hc⟩:=hc
     cases hc
    ·simp at hc
   ·simp at hc
  ·simp at hc
 case makeMap t rs =>
  cases rs with
  | some _=>simp[cOp,hop]at hc
  | none =>
   simp only[cOp,hop,ak]at hc
   obtain⟨d,_,hc⟩:=hc
   cases d<;>simp only[reduceCtorEq]at hc
   simp only[ak]at hc
   obtain⟨_,_,hc⟩:=hc
   split at hc<;>cases hc
 case lookup t x i ok =>
  simp only[cOp,hop,ak]at hc
  obtain⟨d,_,hc⟩:=hc
  cases d<;>simp only[reduceCtorEq]at hc
  simp only[ak,aw]at hc
  obtain⟨_,_,_,_,_,_,_,_,_,_,hc⟩:=hc
  cases hc
 case mapUpdate t x i v =>
  simp only[cOp,hop,ak]at hc
  obtain⟨d,hdd,hc⟩:=hc
  cases d<;>simp only[reduceCtorEq]at hc
  simp only[ak,aw]at hc
  obtain⟨kd',hkd,x',hx',i',hi',v',hv',hc⟩:=hc
  cases hc
  exact⟨t,_,_,x,i,v,.inl rfl,hdd,hkd,hx',hi',hv'⟩
 case insert t x i v =>
  simp only[cOp,hop,ak]at hc
  obtain⟨d,hdd,hc⟩:=hc
  cases d<;>simp only[reduceCtorEq]at hc
  simp only[ak,aw]at hc
  obtain⟨kd',hkd,x',hx',i',hi',v',hv',hc⟩:=hc
  cases hc
  exact⟨t,_,_,x,i,v,.inr rfl,hdd,hkd,hx',hi',hv'⟩
 all_goals (simp only[cOp,hop,reduceCtorEq]at hc)
theorem agx(s:StB K B Γ h a w){t k e:TypeId}{kd:TypeDesc}(ht:P.underlying t=some (.map k e))(hk:P.underlying k=some kd){i:TypeInfo}{zv:Value}{z:V}(hi:P.info? e=some i)(hz:i.zero=some zv)(hc:DK zv=some z)
  {m:Value} {o:Oid} {key:Value} {es0:List (Value×C)} (hx:RepV w (okS K w B h) B m (.c (.mapO o))) (hkey:keyOf kd key=true) (hm:h o=some (.mapC kd es0)) (ok:Bool) :
  Fx P K B h w (Instr.lookup t m key ok) (FX ok z ((getK key es0).map .c)):=by
 have hzr:RepV w (okS K w B h) B zv z:=u5 hc
 have hzs:RepS w (okS K w B h) B zv z:=by
  unfold DK at hc
  split at hc
  ·obtain⟨_,_,rfl⟩:=aw.1 hc;exact hzr
  ·obtain⟨_,_,rfl⟩:=aw.1 hc;exact hzr
 have hzrun:∀w:World,(zeroValue e).run P w = .ok zv w:=fun w=>by simp[zeroValue,typeInfo,hi,hz]
 have two:∀ {u:Value} {y:V} (b:Bool),RepS w (okS K w B h) B u y→RepV w (okS K w B h) B (.tuple #[u,.bool b]) (.tup [y,bV b]):=by
  intro u y b hu
  refine⟨#[u,.bool b],rfl,?_⟩
  refine Pt.cons hu (Pt.cons ?_ Pt.nil)
  exact RepC.imm _ _ (.sc _ rfl)
 have pack:∀ {u:Value} {y:V},RepS w (okS K w B h) B u y→RepV w (okS K w B h) B u y:=by
  intro u y hu
  cases y with
  | tup _=>exact hu.elim
  | c _=>exact hu
  | agg _=>exact hu
  | junk=>exact hu
 obtain⟨b,es',clock,hB,hh,hcl,hsz,he⟩:=s.objs.rep _ _ hm
 have hv:m = .map (some b):=by
  have:RepC w (okS K w B h) B m (.mapO o):=hx
  cases this with
  | mapO _ r hB'=>rw[hB]at hB';cases hB';rfl
 subst hv
 rcases yZ hkey es'.toList es0 0 (by simpa using hsz) (fun j e p g1 g2=>by
   obtain⟨h1,h2,_,_⟩:=he j e p (by simpa using g1) g2
   exact⟨h1,h2⟩)with⟨g1,g2,_⟩ | ⟨j,e',p,g1,g2,g3,g4,g5,_⟩
 ·rw[g1]
  cases ok
  ·refine⟨zv,?_,pack hzs⟩
   simp[Instr.lookup,run_underlying ht,MapKept.run_getObj_map hh,run_checkKey hk (keyOf_is hkey),run_findKey hk g2,hzrun,Result.andThen]
  ·refine⟨.tuple #[zv,.bool false],?_,two false hzs⟩
   simp[Instr.lookup,run_underlying ht,MapKept.run_getObj_map hh,run_checkKey hk (keyOf_is hkey),run_findKey hk g2,hzrun,Result.andThen]
 ·rw[g3]
  obtain⟨_,_,_,hrep⟩:=he j e' p (by simpa using g1) g2
  cases ok
  ·refine⟨e'.val,?_,pack (y:=.c p.2) hrep⟩
   simp[Instr.lookup,run_underlying ht,MapKept.run_getObj_map hh,run_checkKey hk (keyOf_is hkey),run_findKey hk g4,Result.andThen]
  ·refine⟨.tuple #[e'.val,.bool true],?_,two (y:=.c p.2) true hrep⟩
   simp[Instr.lookup,run_underlying ht,MapKept.run_getObj_map hh,run_checkKey hk (keyOf_is hkey),run_findKey hk g4,Result.andThen]
theorem alX(s:StB K B Γ h a w){t k e:TypeId}{kd:TypeDesc}(ht:P.underlying t=some (.map k e))(hk:P.underlying k=some kd){o:Oid}{es:List (Value×C)}{m key v:Value}{x:C}
  (hm:RepV w (okS K w B h) B m (.c (.mapO o))) (hg:h o=some (.mapC kd es)) (hkey:keyOf kd key=true) (hx:RepV w (okS K w B h) B v (.c x)) :
  ∃w' B',(Instr.mapUpdate t m key v).run P w = .ok () w'∧StB K B' Γ (h.put o (.mapC kd (putK key x es))) a w':=by
 obtain⟨b,es',clock,hB,hh,hcl,hsz,he⟩:=s.objs.rep _ _ hg
 have hv:m = .map (some b):=by
  have:RepC w (okS K w B h) B m (.mapO o):=hm
  cases this with
  | mapO _ r hB'=>rw[hB]at hB';cases hB';rfl
 subst hv
 have hxs:RepC w (okS K w B h) B v x:=hx
 have fin:∀(es2:Array MapEntry) (c2:Nat),(Instr.mapUpdate t (.map (some b)) key v).run P w = .ok () {w with heap:=w.heap.setIfInBounds b (.map es2 c2)} →
   c2=(putK key x es).length→es2.size=(putK key x es).length→(∀(i:Nat) e p,es2[i]? = some e→(putK key x es)[i]? = some p→e.key=p.1∧keyOf kd p.1=true∧e.born=i∧RepC w (okS K w B h) B e.val p.2) →
   ∃w' B',(Instr.mapUpdate t (.map (some b)) key v).run P w = .ok () w'∧StB K B' Γ (h.put o (.mapC kd (putK key x es))) a w':=by
  intro es2 c2 hrun hc2 hs2 he2
  obtain⟨Hx,hoth⟩:=heap_set (o':=.map es2 c2) hh
  obtain⟨B',hBo,hB',hok,s'⟩:=s.set o o (.mapC kd (putK key x es)) (B o) (w':={w with heap:=w.heap.setIfInBounds b (.map es2 c2)}) (h':=h.put o (.mapC kd (putK key x es)))
   ⟨rfl,rfl,rfl,by simp,fun b' hb' hn=>hoth b' fun e=>hn ⟨by rw[e,hB];rfl,by rw[hg];rfl⟩⟩
   (fun b' hb'=>by
    have hlt:=(s.objs.rep _ _ hg).lt hb'
    exact⟨by simpa using hlt,.inl ⟨hb',by rw[hg];rfl⟩⟩)
   (fun _ _=>rfl) (fun p ob' hp hne=>⟨hne,by simpa[Heap.put,hne]using hp,fun _=>rfl⟩) (fun _=>rfl) (by simp[Heap.put])
   (fun B' hB' hBo hok=>⟨b,es2,c2,hB,Hx,hc2,hs2,fun i e p g1 g2=>by
    obtain⟨q1,q2,q3,q4⟩:=he2 i e p g1 g2
    refine⟨q1,q2,q3,q4.mono (fun b' hb'=>hoth b' fun e=>hb'.2.2 o _ hg (by rw[e,hB];rfl)) hok fun p _=>?_⟩
    by_cases ep:p=o
    ·subst ep;exact hBo
    ·exact hB' p ep⟩)
  exact⟨_,B',hrun,s'⟩
 rcases yZ hkey es'.toList es 0 (by simpa using hsz) (fun j e p g1 g2=>by
   obtain⟨h1,h2,_,_⟩:=he j e p (by simpa using g1) g2
   exact⟨h1,h2⟩)with⟨g1,g2,g3⟩ | ⟨j,e',p,g1,g2,g3,g4,g5,g6⟩
 ·refine fin (es'.push ⟨key,v,clock⟩) (clock+1) ?_ (by rw[g3];simp[hcl]) (by rw[g3];simp[hsz]) fun i e p q1 q2=>?_
  ·simp[Instr.mapUpdate,run_underlying ht,MapKept.run_getObj_map hh,run_checkKey hk (keyOf_is hkey),run_findKey hk g2,MapKept.run_setObj_map _ hh,Result.andThen]
  ·rw[g3]at q2
   rw[Array.getElem?_push]at q1
   split at q1
   ·rename_i hi
    cases q1
    rw[List.getElem?_append_right (by omega)]at q2
    have:i-es.length=0:=by omega
    rw[this]at q2
    simp at q2
    subst q2
    exact⟨rfl,hkey,by rw[hcl];simp;omega,hxs⟩
   ·have hlt:i<es'.size:=(pw.1 q1).1
    rw[lw (by omega)]at q2
    exact he i e p q1 q2
 ·have hj:es'[j]? = some e':=by simpa using g1
  refine fin (es'.modify j fun e'=>{e' with key:=key,val:=v}) clock ?_ (by rw[g6];simp[hcl]) (by rw[g6];simp[hsz]) fun i e p q1 q2=>?_
  ·simp[Instr.mapUpdate,run_underlying ht,MapKept.run_getObj_map hh,run_checkKey hk (keyOf_is hkey),run_findKey hk g4,hj,g5,run_keyThatStays (keyOf_is hkey),MapKept.run_setObj_map _ hh,Result.andThen]
  ·rw[g6]at q2
   rw[Array.getElem?_modify]at q1
   rw[kw]at q2
   by_cases eij:j=i
   ·subst eij
    simp only[if_true,hj,qw,ek]at q1
    have hlt:j<es.length:=(bw.1 g2).1
    simp only[if_true,hlt,ek]at q2
    subst q1;subst q2
    obtain⟨_,_,hb3,_⟩:=he j e' _ hj g2
    exact⟨rfl,hkey,hb3,hxs⟩
   ·simp only[eij,sk]at q1 q2
    exact he i e p q1 q2
def xR(d:Oid)(e:Opd→V)(h:Heap)(op:VO)(x:V)(h':Heap):Prop :=
 (∃kd z ok m i o es key,op = .look kd z ok m i∧e m = .c (.mapO o)∧h o=some (.mapC kd es)∧e i=scV key∧keyOf kd key=true∧x=FX ok z ((getK key es).map .c)∧h'=h) ∨
 (∃kd m i v o es key c,op = .mupd kd m i v∧e m = .c (.mapO o)∧h o=some (.mapC kd es)∧e i=scV key∧keyOf kd key=true∧e v = .c c∧x = .junk∧h'=h.put o (.mapC kd (putK key c es)))
theorem aAQ(s:StB K B Γ h a w){o:Oper}{vo:VO}(hc:cOp P o=some vo){d:Oid}{x:V}{h':Heap}(hq:xR d (ev Γ) h vo x h') :
  ∃nx v w' B',(execOp a.eval o).run P w = .ok nx w'∧(nx = .value v∨(nx = .skip∧v=undef))∧StB K B' Γ h' a w'∧RepV w' (okS K w' B' h') B' v x:=by
 rcases hq with⟨kd,z,ok,m,i,ob,es,key,rfl,hm,hg,hi,hk,rfl,rfl⟩ | ⟨kd,m,i,v,ob,es,key,c,rfl,hm,hg,hi,hk,hv,rfl,rfl⟩
 ·obtain⟨t,k,e,x0,i0,inf,zv,hop,ht,hkd,hinf,hzv,hz,hx0,hi0⟩:=azK hc
  have hkv:=d0 (hi▸aX s hi0)
  have hG:=agx s ht hkd hinf hzv hz (hm▸aX s hx0) hk hg ok
  obtain⟨v,hrun,hrep⟩:=hG
  refine⟨.value v,v,w,B,?_,.inl rfl,s,hrep⟩
  simp only[execOp,hop,hkv,Sem.run_bind,hrun,Result.andThen]
  rfl
 ·obtain⟨t,k,e,x0,i0,v0,hop,ht,hkd,hx0,hi0,hv0⟩:=ayZ hc
  have hkv:=d0 (hi▸aX s hi0)
  obtain⟨w',B',hrun,s'⟩:=alX s ht hkd (hm▸aX s hx0) hg hk (hv▸aX s hv0)
  refine⟨.skip,undef,w',B',?_,.inr ⟨rfl,rfl⟩,s',trivial⟩
  rcases hop with hop | hop
  all_goals
   simp only[execOp,hop,hkv,Sem.run_bind,hrun,Result.andThen]
   rfl
end
end Go.VM
namespace Go.VM
section
variable {P:Program} {K:Ctx} {B:Oid→Value} {Γ:Env} {h:Heap} {a:Act} {w:World}
inductive F6(P:Program)(Γ:Env):VO→FuncId→List V→Prop
 | named (f:FuncId) (args:List Opd):F6 P Γ (.call f args) f (args.map (ev Γ))
 | value (f:FuncId) (x:Opd) (args:List Opd) (caps:List Cap):ev Γ x = .c (.fn f caps)→aEz P f=true→F6 P Γ (.callv x args) f (args.map (ev Γ)++caps.map alq)
theorem Wx(s:StB K B Γ h a w){o:Oper}{vo:VO}{f:FuncId}{vs:List V}(hc:cOp P o=some vo)(hcall:F6 P Γ vo f vs) :
  ∃args:List Value,Pt (RepV w (okS K w B h) B) args vs∧(execOp a.eval o).run P w = .ok (.enter f args.toArray) w:=by
 cases hcall with
 | named f args =>
  obtain⟨c,fn,hop,hcal,hfn,hnone,hname,hys⟩:=YX hc
  refine⟨_,xZ _ _ hys s,?_⟩
  rw[←Array.toList_map,Ck]
  simp[execOp,hop,resolve,hcal,Act.eval,Deferred.ofValue,invoke,callFunc,hfn,hname,hnone]
 | value f x args caps hx hok =>
  obtain⟨c,x0,hop,hcal,hx0,hys⟩:=VY hc
  have hxr:=aX s hx0
  rw[hx]at hxr
  generalize hval:a.eval x0=v at hxr
  have hxr':RepC w (okS K w B h) B v (.fn f caps):=hxr
  cases hxr' with
  | fn _ cs _ hp =>
   refine⟨_,(xZ _ _ hys s).append (aFZ hp),?_⟩
   unfold aEz at hok
   cases hfn:P.funcs[f]? with
   | none=>simp[hfn]at hok
   | some fn =>
    simp only[hfn,gk,Cw,beq_eq_false_iff_ne,ne_eq]at hok
    have hnone : ¬fn.body=none:=by intro hx;rw[hx]at hok;simp at hok
    simp only[execOp,hop,resolve,hcal,hval,Deferred.ofValue]
    simp[invoke,callFunc,hfn,hok.2,hnone]
def aUJ(d:Oid)(Γ:Env)(h:Heap)(op:VO)(x:V)(h':Heap):Prop :=
 ∃k y hi o e rows n,op = .sub k y none hi∧ev Γ y = .c (.slO o)∧h o=some (.arr e k rows)∧zW (ev Γ) rows.length hi n∧0≤n∧n≤rows.length∧x = .c (.slO d)∧h'=(h.drop o).put d (.arr e k (rows.take n.toNat))
theorem XY{α:Type}(l:List α)(n m k:Nat)(h:n≤m):(l.take (m*k)).take (n*k)=l.take (n*k):=by
 rw[List.take_take,Nat.min_eq_left (Nat.mul_le_mul_right k h)]
theorem OX{α:Type}{k:Nat}:∀(rows:List (List α)) (n:Nat),(∀r∈rows,r.length=k)→(rows.take n).flatten=rows.flatten.take (n*k)
 | [],n,_=>by simp
 | r::rows,0,_=>by simp
 | r::rows,n+1,h=>by
  have h0:=h r (by simp)
  have ih:=OX rows n fun x hx=>h x (by simp[hx])
  have e:(n+1)*k=r.length+n*k:=by rw[h0,Nat.add_mul];omega
  rw[List.take_succ_cons,yk,yk,ih,e,List.take_length_add_append]
theorem apz(s:StB K B Γ h a w){o:Oper}{vo:VO}(hc:cOp P o=some vo){d:Oid}(hd:d.1<1000)(hf:Fresh d Γ h){x:V}{h':Heap}(hq:aUJ d Γ h vo x h') :
  ∃v B',(execOp a.eval o).run P w = .ok (.value v) w∧StB K B' Γ h' a w∧RepV w (okS K w B' h') B' v x:=by
 obtain⟨k,y,hi,ob,e,rows,n,rfl,hy,bY,hb,h0,hn,rfl,rfl⟩:=hq
 obtain⟨t,e',ie,x0,lo0,hi0,hop,ht,hie,rfl,hx0,hl,hh⟩:=aIZ hc
 obtain⟨hk0,hkr,cs,hown,hp⟩:=s.objs.rep ob _ bY
 have hxr:=aX s hx0
 rw[hy]at hxr
 have hval:a.eval x0=B ob:=by
  generalize a.eval x0=v at hxr
  have hx':RepC w (okS K w B h) B v (.slO ob):=hxr
  cases hx' with
  | slO _ q l c hB=>exact hB.symm
 have hlen:(rows.take n.toNat).length=n.toNat:=by rw[List.length_take];omega
 have hform:∃q cap v,B ob = .slice q rows.length cap∧rows.length≤cap∧v = .slice (if cap=0 then q else q.map (·.add (0*ie.size))) n.toNat cap∧(∀b,gz v=some b→gz (B ob)=some b)∧w.ownsRow 0 e ie.size v n.toNat (cs.take (n.toNat*ie.size)):=by
  obtain⟨hl1,hc1⟩:=hown
  rcases hc1 with⟨hv,hz⟩ | ⟨g,cap,cur,hv,hg,hhp,hle,hmx,hsz,htk⟩
  ·refine⟨none,0,_,by rw[hv,hz],by omega,rfl,fun b hb=>by simp[gz]at hb,?_⟩
   have hn0:n.toNat=0:=by omega
   rw[hn0]
   exact⟨by simp,.inl ⟨by simp,rfl⟩⟩
  ·refine⟨_,cap,_,hv,hle,rfl,fun b hb=>?_,?_⟩
   ·split at hb
    ·rw[hv];exact hb
    ·rw[hv];simpa[gz,gX]using hb
   ·have hvv:(Value.slice (if cap=0 then some ⟨g,0,none⟩else(some ⟨g,0,none⟩ : Option Addr).map (·.add (0*ie.size))) n.toNat cap) = .slice (some ⟨g,0,none⟩) n.toNat cap:=by
     split<;>simp[gX]
    rw[hvv]
    refine⟨?_,.inr ⟨g,cap,cur,rfl,hg,hhp,by omega,hmx,hsz,?_⟩⟩
    ·rw[List.length_take,hl1,Nat.min_eq_left (Nat.mul_le_mul_right _ (by omega))]
    ·rw[←htk,XY _ _ _ _ (by omega)]
 obtain⟨q,cap,v,hBv,hle,hvd,hblk,hown2⟩:=hform
 have hrun:(execOp a.eval o).run P w = .ok (.value v) w:=by
  have hl':lo0=none := by rcases hl with⟨h1,_⟩ | ⟨_,_,_,h2,_⟩;exact h1;cases h2
  subst hl'
  have hbd:=m5 (P:=P) (w:=w) s (lo:=none) (lo':=none) (.inl ⟨rfl,rfl⟩) hh (l:=0) rfl hb (by omega) h0 hn hle true
  simp only[Option.map_none]at hbd
  simp only[execOp,hop,hval,hBv]
  simp[Instr.sliceAt,run_underlying ht,Instr.slice,hbd,sizeOf,typeInfo,hie,hvd]
 obtain⟨B',hBo,hB,hok,s'⟩:=s.set (w':=w) (h':=(h.drop ob).put d (.arr e ie.size (rows.take n.toNat))) ob d (.arr e ie.size (rows.take n.toNat)) v
  (Fr.refl _ _) (fun b hb=>⟨(s.objs.rep ob _ bY).lt (hblk b hb),.inl ⟨hblk b hb,by rw[bY];rfl⟩⟩)
  (fun t hm=>absurd hm (hf.env t))
  (fun p ob' hp hne=>by
   simp only[Heap.put,hne,sk,Heap.drop]at hp
   split at hp
   ·simp at hp
   ·rename_i hpo
    exact⟨hpo,hp,fun hm=>absurd hm (hf.heap p ob' hp).2⟩)
  (fun hp=>absurd hp (E1 s hd)) (by simp[Heap.put])
  (fun B' hB hBo hok=>by
   refine⟨hk0,fun row hrow=>hkr row (List.mem_of_mem_take hrow),cs.take (n.toNat*ie.size),by rw[hlen];exact hown2,?_⟩
   rw[OX rows _ hkr]
   exact(hp.take _).mono fun j v x hx hr=>hr.mono (fun _ _=>rfl) hok)
 refine⟨v,B',hrun,s',?_⟩
 rw[hvd]at hBo ⊢
 exact RepC.slO d _ _ _ hBo
def T2(P:Program)(dst:Option Nat)(op:VO)(Γ:Env)(h:Heap)(k:Env→Heap→Prop):Prop :=
 iW P dst op Γ h k ∨
 (∃f vs r,F6 P Γ op f vs∧G9 P f vs h r∧k (putO dst r Γ) h) ∨
 (∃f vs pins hin r hout,F6 P Γ op f vs∧aPz P f pins vs Γ h hin r hout∧k (putO dst r Γ) (u7 h hin hout)) ∨
 (∃f vs pins hin r hout,F6 P Γ op f vs∧aPX P f pins vs Γ h hin r hout∧k (putO dst r Γ) (u7 h hin hout)) ∨
 (Fresh (dst.getD 999,0) Γ h∧∃x h',aUJ (dst.getD 999,0) Γ h op x h'∧k (putO dst x Γ) h') ∨
 (∃x h',xR (dst.getD 999,0) (ev Γ) h op x h'∧k (putO dst x Γ) h')
def asj(n:Nat)(I:Option (List Oid))(k:Env→Heap→Prop)(Γ:Env)(h:Heap):Prop:=∃Γ' h',Sim n I Γ h Γ' h'∧k Γ' h'
def Dq(P:Program)(n:Nat)(I:Option (List Oid))(dst:Option Nat)(op:VO)(Γ:Env)(h:Heap)(k:Env→Heap→Prop):Prop :=
 ∃Γ' h',Sim n I Γ h Γ' h'∧T2 P dst op Γ' h' (asj n I k)
theorem aeQ(s:St K Γ h a w){o:Oper}{vo:VO}(hc:cOp P o=some vo)(hn:K.ntmps≤1000)(hd:∀d,o.dst=some d→d<K.ntmps){k:Env→Heap→Prop}{Q:Exit→Act→World→Prop}(hp:T2 P o.dst vo Γ h k)
  {next:Act→World→Prop} (hk:∀Γ' h' a' w',k Γ' h'→St K Γ' h' a' w'→next a' w'):o.wp P a w next Q:=by
 rcases hp with hp | ⟨f,vs,r,hcall,hg,hkk⟩ | ⟨f,vs,pins,hin,r,hout,hcall,hg,hkk⟩ | ⟨f,vs,pins,hin,r,hout,hcall,hg,hkk⟩ | ⟨hf,x,h',hq,hkk⟩ | ⟨x,h',hq,hkk⟩
 ·exact B8 s hc hn hd hp hk
 all_goals obtain⟨B,s⟩:=s
 ·obtain⟨args,hargs,hrun⟩:=Wx s hc hcall
  have hcalls:=Lx s hargs hg
  unfold Oper.wp
  rw[hrun,Oper.upon_enter]
  refine hcalls.mono fun e w' he=>?_
  obtain⟨v,rfl,s',hx⟩:=he
  exact hk _ _ _ _ hkk (St.putO s' hd hx)
 ·obtain⟨args,hargs,hrun⟩:=Wx s hc hcall
  have hcalls:=aiX s hargs hg
  unfold Oper.wp
  rw[hrun,Oper.upon_enter]
  refine hcalls.mono fun e w' he=>?_
  obtain⟨v,B',rfl,s',hx⟩:=he
  exact hk _ _ _ _ hkk (St.putO s' hd hx)
 ·obtain⟨args,hargs,hrun⟩:=Wx s hc hcall
  have hcalls:=akK s hargs hg
  unfold Oper.wp
  rw[hrun,Oper.upon_enter]
  refine hcalls.mono fun e w' he=>?_
  obtain⟨v,B',rfl,s',hx⟩:=he
  exact hk _ _ _ _ hkk (St.putO s' hd hx)
 ·obtain⟨v,B',hrun,s',hx⟩:=apz s hc (aBq hn hd) hf hq
  unfold Oper.wp
  rw[hrun]
  exact hk _ _ _ _ hkk (St.putO s' hd hx)
 ·obtain⟨nx,v,w',B',hrun,hnx,s',hx⟩:=aAQ s hc hq
  unfold Oper.wp
  rw[hrun]
  rcases hnx with rfl | ⟨rfl,rfl⟩
  ·exact hk _ _ _ _ hkk (St.putO s' hd hx)
  ·exact hk _ _ _ _ hkk (St.putO s' hd hx)
variable {n:Nat} {I:Option (List Oid)}
theorem D7(hK:aEV K n I)(hn:n≤1000){ops:Array Oper}{Q:Exit→Act→World→Prop}{k:Env→Heap→Prop}(hk:∀Γ' h' a' w',k Γ' h'→St K Γ' h' a' w'→Q .normal a' w') :
  ∀(l:List Oper) (vl:List VOp) (Γ:Env) (h:Heap) (a:Act) (w:World),l.mapM (kq P n ops)=some vl→St K Γ h a w→eW (Dq P n I) vl Γ h k→wpList P ops Q l a w
 | [],vl,Γ,h,a,w,hm,s,hp=>by
  simp at hm;subst hm
  exact hk _ _ _ _ hp s
 | o::l,vl,Γ,h,a,w,hm,s,hp=>by
  simp only[List.mapM_cons,Option.bind_eq_bind,Option.pure_def]at hm
  cases hv:kq P n ops o with
  | none=>simp[hv]at hm
  | some vo =>
   cases hr:l.mapM (kq P n ops)with
   | none=>simp[hv,hr]at hm
   | some rest =>
    simp[hv,hr]at hm
    subst hm
    obtain⟨hdst,hop,hd,hg⟩:=QQ s hv
    simp only[eW]at hp
    rcases hg hp with⟨hw,hy⟩ | ⟨hw,hno⟩
    ·simp only[wpList,hw,if_true]
     rw[hdst]at hy
     obtain⟨Γ1,h1,hs,hx⟩:=hy
     exact .inl (aeQ (hs K hK a w s) hop (by rw[hK.1];omega) (fun d he=>by rw[hK.1];exact hd d he) hx fun Γ' h' a' w' ⟨Γ2,h2,hs2,hk'⟩ s'=>D7 hK hn hk l rest Γ2 h2 a' w' hr (hs2 K hK a' w' s') hk')
    ·simp only[wpList,hw,rk,sk]
     refine D7 hK hn hk l rest (putO vo.dst B1 Γ) h _ w hr ?_ hno
     rw[hdst]
     obtain⟨B,s⟩:=s
     exact St.putO s (fun d he=>by rw[hK.1];exact hd d he) (show RepV w _ B undef B1 from⟨#[],rfl,Pt.nil⟩)
theorem ayX{Q:Exit→Env→Heap→Prop}{ops:List VOp}(hn:n≤1000)(hq:eW (Dq P n I) ops Γ h fun Γ' h'=>Q .normal Γ' h'):W P n I (.region none ops) Q Γ h:=by
 intro c hc K hK a w s
 obtain⟨id,ops',b,rfl,hvl,hb,_⟩:=zq hc
 obtain rfl:=hb rfl
 refine wp_region ?_
 have e:=wpOps_eq_wpList (P:=P) (ops:=ops') (Q:=ayq K Q) ops'.toList 0 (fun j=>by simp)
 rw[Array.length_toList]at e
 rw[List.range_eq_range',e]
 exact D7 hK hn (fun Γ' h' a' w' hk s'=>⟨Γ',h',hk,s'⟩) _ _ _ _ _ _ hvl s hq
end
end Go.VM
namespace Go.VM
def dY:List (Oid×Oid)→Oid→Oid
  | [],o=>o
  | p::r,o=>bif i4 o p.1 then p.2 else bif i4 o p.2 then p.1 else dY r o
def F9:List (Oid×Oid)→List Oid
  | []=>[]
  | p::r=>p.1::p.2::F9 r
def ajV:List (Oid×Oid)→Bool
  | []=>true
  | p::r=>!(Gq p.1 (F9 r)) && !(Gq p.2 (F9 r)) && !(o6 p.1) && !(o6 p.2)&&ajV r
theorem F5:∀(l:List (Oid×Oid)) (o:Oid),dY l o=o∨dY l o∈F9 l
  | [],o=>.inl rfl
  | p::r,o=>by
    simp only[dY,F9]
    cases h1:i4 o p.1 with
    | true=>exact .inr (by simp)
    | false =>
      cases h2:i4 o p.2 with
      | true=>exact .inr (by simp)
      | false =>
        rcases F5 r o with h | h
        ·exact .inl (by simpa using h)
        ·exact .inr (by simp[h])
def aex:List (Oid×Oid)→Bool
  | []=>true
  | p::r=>!(Gq p.1 (F9 r)) && !(Gq p.2 (F9 r))&&aex r
theorem QZ:∀(l:List (Oid×Oid)),aex l=true→∀o,dY l (dY l o)=o
  | [],_,o=>rfl
  | p::r,h,o=>by
    simp only[aex,gk,Cw]at h
    obtain⟨⟨h1,h2⟩,h3⟩:=h
    have n1:=M8 h1
    have n2:=M8 h2
    have ih:=QZ r h3 o
    cases e1:i4 o p.1 with
    | true =>
      have:=wj.1 e1;subst this
      simp only[dY,e1,cond_true]
      cases e3:i4 p.2 p.1 with
      | true=>have:=wj.1 e3;simp[this]
      | false=>simp[show i4 p.2 p.2=true from wj.2 rfl]
    | false =>
      cases e2:i4 o p.2 with
      | true =>
        have:=wj.1 e2;subst this
        simp only[dY,e1,e2,cond_true,cond_false,show i4 p.1 p.1=true from wj.2 rfl]
      | false =>
        have e:dY (p::r) o=dY r o:=by simp only[dY,e1,e2,cond_false]
        rw[e]
        have g1:i4 (dY r o) p.1=false:=by
          cases hx:i4 (dY r o) p.1 with
          | false=>rfl
          | true =>
            exfalso
            have hx:=wj.1 hx
            rcases F5 r o with h | h
            ·rw[h]at hx;rw[hx,show i4 p.1 p.1=true from wj.2 rfl]at e1;simp at e1
            ·rw[hx]at h;exact n1 h
        have g2:i4 (dY r o) p.2=false:=by
          cases hx:i4 (dY r o) p.2 with
          | false=>rfl
          | true =>
            exfalso
            have hx:=wj.1 hx
            rcases F5 r o with h | h
            ·rw[h]at hx;rw[hx,show i4 p.2 p.2=true from wj.2 rfl]at e2;simp at e2
            ·rw[hx]at h;exact n2 h
        simp only[dY,g1,g2,cond_false]
        exact ih
theorem aFV:∀ {l:List (Oid×Oid)},ajV l=true→aex l=true
  | [],_=>rfl
  | p::r,h=>by
    simp only[ajV,gk]at h
    simp only[aex,gk]
    exact⟨h.1.1.1,aFV h.2⟩
theorem V0(l:List (Oid×Oid))(h:ajV l=true)(o:Oid):dY l (dY l o)=o:=QZ l (aFV h) o
theorem Cj:∀(l:List (Oid×Oid)),ajV l=true→∀o,o6 o=true→dY l o=o
  | [],_,_,_=>rfl
  | p::r,h,o,ho=>by
    simp only[ajV,gk,Cw]at h
    obtain⟨⟨⟨⟨_,_⟩,h1⟩,h2⟩,h3⟩:=h
    simp only[dY]
    cases e1:i4 o p.1 with
    | true=>rw[wj.1 e1,h1]at ho;simp at ho
    | false =>
      cases e2:i4 o p.2 with
      | true=>rw[wj.1 e2,h2]at ho;simp at ho
      | false=>exact Cj r h3 o ho
def FlatM:M→Prop
  | []=>True
  | p::r=>FlatOb p.2∧FlatM r
theorem FlatM.get:∀ {m:M},FlatM m→∀o ob,aZ m o=some ob→FlatOb ob
  | [],_,o,ob,h=>by simp[aZ,noHeap]at h
  | p::r,hf,o,ob,ho=>by
    rw[cJ]at ho
    simp only[bY]at ho
    cases hx:jV p.2 with
    | some G =>
      have:=hf.1
      cases hp:p.2<;>rw[hp]at hx<;>first | (simp at hx;done) | (rw[hp]at this;exact this.elim)
    | none =>
    simp only[hx]at ho
    cases hb:i4 o p.1 with
    | true=>simp only[hb,cond_true,ek]at ho;subst ho;exact hf.1
    | false=>simp only[hb,cond_false]at ho;exact hf.2.get o ob (by rw[cJ];exact ho)
section
variable {P:Program} {n:Nat} {I:Option (List Oid)} {Q:Exit→Env→Heap→Prop} {l l':L} {m m':M} {kk:Env→Heap→Prop} {dst:Option Nat} {op:VO} {f:FuncId} {vs:List V}
theorem SY{ops:List VOp}(hn:n≤1000)(hq:eW (Dq P n I) ops (bJ l) (aZ m) fun Γ' h'=>Q .normal Γ' h'):W P n I (.region none ops) Q (bJ l) (aZ m):=ayX hn hq
theorem CX{dst:Option Nat}{op:VO}{Γ:Env}{h:Heap}{k k':Env→Heap→Prop}(hk:∀Γ h,k Γ h→k' Γ h)(hs:iW P dst op Γ h k):iW P dst op Γ h k':=by
  unfold iW at hs ⊢
  split at hs
  ·obtain⟨r,h1,h2⟩:=hs;exact⟨r,h1,hk _ _ h2⟩
  ·obtain⟨f,caps,h1,h2,r,h3,h4⟩:=hs;exact⟨f,caps,h1,h2,r,h3,hk _ _ h4⟩
  ·split at hs
   ·rename_i he
    rw[if_pos he]
    obtain⟨h1,x,h',h2,h3⟩:=hs;exact⟨h1,x,h',h2,hk _ _ h3⟩
   ·rename_i he
    rw[if_neg he]
    obtain⟨r,h1,h2⟩:=hs;exact⟨r,h1,hk _ _ h2⟩
theorem S3{dst:Option Nat}{op:VO}{Γ:Env}{h:Heap}{k k':Env→Heap→Prop}(hk:∀Γ h,k Γ h→k' Γ h)(hs:T2 P dst op Γ h k):T2 P dst op Γ h k':=by
  rcases hs with hp | ⟨f,vs,r,hcall,hg,hkk⟩ | ⟨f,vs,pins,hin,r,hout,hcall,hg,hkk⟩ | ⟨f,vs,pins,hin,r,hout,hcall,hg,hkk⟩ | ⟨hf,x,h',hq,hkk⟩ | ⟨x,h',hq,hkk⟩
  ·exact .inl (CX hk hp)
  ·exact .inr (.inl ⟨f,vs,r,hcall,hg,hk _ _ hkk⟩)
  ·exact .inr (.inr (.inl ⟨f,vs,pins,hin,r,hout,hcall,hg,hk _ _ hkk⟩))
  ·exact .inr (.inr (.inr (.inl ⟨f,vs,pins,hin,r,hout,hcall,hg,hk _ _ hkk⟩)))
  ·exact .inr (.inr (.inr (.inr (.inl ⟨hf,x,h',hq,hk _ _ hkk⟩))))
  ·exact .inr (.inr (.inr (.inr (.inr ⟨x,h',hq,hk _ _ hkk⟩))))
theorem aIx{k:Env→Heap→Prop}:∀Γ h,k Γ h→asj n I k Γ h:=fun _ _ h=>⟨_,_,Sim.refl _ _,h⟩
theorem SV:∀dst op Γ h k,iW P dst op Γ h k→Dq P n I dst op Γ h k:=fun _ _ _ _ _ h=>⟨_,_,Sim.refl _ _,.inl (CX aIx h)⟩
theorem RV{ops:List VOp}(h:Kq ops l m=some (l',m')){k:Env→Heap→Prop}(hk:k (bJ l') (aZ m')):eW (Dq P n I) ops (bJ l) (aZ m) k:=by
  have:=xX (S:=Dq P n I) (rest:=[]) SV ops h hk
  rwa [vk]at this
theorem Rz{g:Option (Nat×Bool)}{rest:List VOp}{k:Env→Heap→Prop}(hg:gOk l g)
    (h:T2 P dst op (bJ l) (aZ m) fun Γ h=>eW (Dq P n I) rest Γ h k):eW (Dq P n I) (⟨dst,op,g⟩::rest) (bJ l) (aZ m) k:=by
  simp only[eW,sj]
  cases g with
  | none=>exact⟨_,_,Sim.refl _ _,S3 aIx h⟩
  | some tb =>
    obtain⟨t,b⟩:=tb
    exact .inl ⟨by rw[m6];exact hg,_,_,Sim.refl _ _,S3 aIx h⟩
theorem adz:Pz n I l m l m:=Sim.refl _ _
theorem auX(args:List Opd):F6 P (bJ l) (.call f args) f (args.map (ev (look l))):=by
  rw[←iQ];exact .named f args
theorem auz(σl:List (Oid×Oid))(hσ:ajV σl=true)(hC:F6 P (bJ l) op f vs){pins:List Oid}{us:List V}{mi mo:M}{r:V}(hF:Fun P f false pins us (aZ mi) r (aZ mo))
    (ha:AgM m (AV (dY σl) mi)) (hs:VX vs (us.map (D9 (dY σl)))) (hn:L0 (pins.map (dY σl)) l m (AV (dY σl) mi) (AV (dY σl) mo)=true)
    (hc:N0 (pins.map (dY σl)) (AV (dY σl) mo) (AV (dY σl) mo)=true) (hr:J2 (pins.map (dY σl)) (AV (dY σl) mo) (D9 (dY σl) r).refs=true)
    (hk:kk (bJ (BK dst (Uz (D9 (dY σl) r)) l)) (aZ (acQ m (AV (dY σl) mi) (AV (dY σl) mo)))):T2 P dst op (bJ l) (aZ m) kk:=by
  obtain⟨pl1,pl2⟩:=AQ hn
  rw[lJ,Ej,Z5 _ _ _ pl1 pl2]at hk
  have hi:=V0 σl hσ
  have hF':=hF.ren (dY σl) hi
  unfold Ij at hF'
  rw[JX _ hi (Cj σl hσ),JX _ hi (Cj σl hσ)]at hF'
  refine .inr (.inr (.inl ⟨f,vs,_,_,_,_,hC,⟨⟨_,hs,hF'⟩,AgM.weak ha,fun o ob ho=>?_,fun o ob ho=>?_,AJ hr⟩,hk⟩))
  ·rw[cJ]at ho;exact H1 hn _ (N7 pl2 ho)
  ·rw[cJ]at ho;exact GY hc _ (N7 pl2 ho)
theorem aqz(σl:List (Oid×Oid))(hσ:ajV σl=true)(hC:F6 P (bJ l) op f vs){pins:List Oid}{us:List V}{mi mo:M}{r:V}(hF:Fun P f false pins us (aZ mi) r (aZ mo))
    (ha:AgM m (AV (dY σl) mi)) (hs:G7 (Bx (aZ m) (aZ (AV (dY σl) mi))) vs (us.map (D9 (dY σl)))) (hn:L0 (pins.map (dY σl)) l m (AV (dY σl) mi) (AV (dY σl) mo)=true)
    (hc:N0 (pins.map (dY σl)) (AV (dY σl) mo) (AV (dY σl) mo)=true) (hr:J2 (pins.map (dY σl)) (AV (dY σl) mo) (D9 (dY σl) r).refs=true)
    (hfr:apj (D9 (dY σl) r)=true) (hfo:FlatM (AV (dY σl) mo))
    (hk:kk (bJ (BK dst (Uz (D9 (dY σl) r)) l)) (aZ (acQ m (AV (dY σl) mi) (AV (dY σl) mo)))):T2 P dst op (bJ l) (aZ m) kk:=by
  obtain⟨pl1,pl2⟩:=AQ hn
  rw[lJ,Ej,Z5 _ _ _ pl1 pl2]at hk
  have hi:=V0 σl hσ
  have hF':=hF.ren (dY σl) hi
  unfold Ij at hF'
  rw[JX _ hi (Cj σl hσ),JX _ hi (Cj σl hσ)]at hF'
  refine .inr (.inr (.inr (.inl ⟨f,vs,_,_,_,_,hC,⟨⟨_,hs,hF'⟩,AgM.weak ha,fun o ob ho=>?_,fun o ob ho=>?_,AJ hr,hfr,hfo.get⟩,hk⟩)))
  ·rw[cJ]at ho;exact H1 hn _ (N7 pl2 ho)
  ·rw[cJ]at ho;exact GY hc _ (N7 pl2 ho)
variable {α:Type} {tc:α→List T}
end
def P9(o:Oid)(t:T):C→C
  | .slO o'=>bif i4 o' o then .imm t else .slO o'
  | .elO o' k i off=>bif i4 o' o then .junk else .elO o' k i off
  | x=>x
theorem U9(o:Oid)(t:T)(c:C):P9 o t c=F4 o t c:=by
  cases c with
  | slO o'=>simp only[P9,F4];cases h:i4 o' o with
    | true=>simp[wj.1 h]
    | false=>have : ¬o'=o:=fun e=>by rw[←wj,h]at e;simp at e
             simp[this]
  | elO o' k i off=>simp only[P9,F4];cases h:i4 o' o with
    | true=>simp[wj.1 h]
    | false=>have : ¬o'=o:=fun e=>by rw[←wj,h]at e;simp at e
             simp[this]
  | _=>rfl
def X4(o:Oid)(t:T):V→V
  | .c x=>.c (afQ (P9 o t x))
  | .agg cs=>.agg (F7 (cs.map (P9 o t)))
  | _=>.junk
theorem NV(o:Oid)(t:T)(v:V):X4 o t v=aoY o t v:=by
  cases v with
  | c x=>simp only[X4,aoY,Nz,U9]
  | agg cs=>simp only[X4,aoY,A3,show P9 o t=F4 o t from funext (U9 o t)]
  | _=>rfl
def aFq(o:Oid)(t:T):V→V
  | .tup vs=>.tup (vs.map (X4 o t))
  | x=>X4 o t x
theorem aFW(o:Oid)(t:T)(v:V):aFq o t v=awz o t v:=by
  cases v with
  | tup vs=>simp only[aFq,awz,show X4 o t=aoY o t from funext (NV o t)]
  | c x=>exact NV o t (.c x)
  | agg x=>exact NV o t (.agg x)
  | junk=>exact NV o t .junk
def abW(o:Oid)(t:T):Ob→Ob
  | .arr e k rows=>.arr e k rows
  | .box cs=>.box (F7 (cs.map (P9 o t)))
  | .map kd es=>.map kd es
  | .mapC kd es=>.mapC kd (es.map fun p=>(p.1,F4 o t p.2))
  | .arrC e k rows=>.arrC e k (rows.map fun r=>r.map (F4 o t))
  | .fam G=>.fam G
theorem axx(o:Oid)(t:T)(ob:Ob):abW o t ob=KJ o t ob:=by
  cases ob with
  | arr=>rfl
  | box cs=>simp only[abW,KJ,A3,show P9 o t=F4 o t from funext (U9 o t)]
  | map kd es=>rfl
  | mapC kd es=>rfl
  | arrC e k rows=>rfl
  | fam G=>rfl
def aMZ(o:Oid)(t:T):L→L
  | []=>[]
  | p::r=>(p.1,aFq o t p.2)::aMZ o t r
def anQ(o:Oid)(t:T):M→M
  | []=>[]
  | p::r=>match jV p.2 with
    | some _=>p::anQ o t r
    | none=>bif i4 p.1 o then anQ o t r else(p.1,abW o t p.2)::anQ o t r
theorem aiq{o:Oid}{t:T}{c:C}(h:o∉c.refs):F4 o t c=c:=by
  cases c with
  | slO o'=>simp only[F4];rw[if_neg (fun e=>h (by simp[C.refs,e]))]
  | elO o' k i off=>simp only[F4];rw[if_neg (fun e=>h (by simp[C.refs,e]))]
  | _=>rfl
theorem YK{o:Oid}{t:T}{cs:List C}(h:o∉cs.flatMap C.refs):cs.map (F4 o t)=cs :=
  (List.map_congr_left (g:=id) (fun x hx=>aiq fun ho=>h (Ak.2 ⟨x,hx,ho⟩))).trans (List.map_id _)
theorem awV{o:Oid}{t:T}{ob:Ob}(h:o∉ob.refs):KJ o t ob=ob:=by
  cases ob with
  | arr=>rfl
  | map=>rfl
  | fam=>rfl
  | box cs=>simp only[KJ];rw[YK h]
  | mapC kd es =>
    simp only[KJ]
    congr 1
    exact(List.map_congr_left (g:=id) (fun p hp=>by rw[aiq fun ho=>h (by simp only[Ob.refs];exact Ak.2 ⟨p,hp,ho⟩)];rfl)).trans (List.map_id _)
  | arrC e k rows =>
    simp only[KJ]
    congr 1
    refine(List.map_congr_left (g:=id) (fun r hr=>?_)).trans (List.map_id _)
    exact YK fun ho=>by
      obtain⟨c,hc,hco⟩:=Ak.1 ho
      exact h (by simp only[Ob.refs];exact Ak.2 ⟨c,List.mem_flatten.2 ⟨r,hr,hc⟩,hco⟩)
theorem azq(o:Oid)(t:T)(ob:Ob):jV (abW o t ob)=jV ob:=by cases ob<;>rfl
theorem asZ(o:Oid)(t:T):∀l:L,(fun u=>awz o t (bJ l u))=bJ (aMZ o t l)
  | []=>by funext u;rfl
  | p::r=>by
    funext u
    have ih:=congrFun (asZ o t r) u
    rw[m6]at ih ⊢
    rw[m6]at ih ⊢
    simp only[look,aMZ,aFW]
    cases Nat.beq u p.1 with
    | true=>rfl
    | false=>exact ih
theorem atZ(o:Oid)(t:T)(ho:o6 o=false):∀m:M,LQ o t (aZ m)=aZ (anQ o t m)
  | []=>by funext p;simp[LQ,aZ,noHeap,anQ]
  | q::r=>by
    funext p
    have ih:=congrFun (atZ o t ho r) p
    unfold LQ at ih ⊢
    rw[cJ,cJ]at ih ⊢
    simp only[bY,anQ]
    cases hx:jV q.2 with
    | some G =>
      simp only[bY,hx]
      cases hp:o6 p with
      | true =>
        have hne : ¬p=o:=fun e=>by rw[e,ho]at hp;simp at hp
        rw[if_neg hne]
        simp only[cond_true]
        cases hg:zK G p with
        | none=>rfl
        | some ob =>
          obtain⟨_,_,h3⟩:=IV hg
          simp only[qw]
          rw[awV fun hm=>by have:=h3 o hm;rw[ho]at this;simp at this]
      | false=>simp only[cond_false];exact ih
    | none =>
    cases hq:i4 q.1 o with
    | true =>
      have e:=wj.1 hq
      rw[cond_true]
      rw[←ih]
      by_cases hp:p=o
      ·simp[hp]
      ·simp only[hp,sk]
       have:i4 p q.1=false:=by
         cases hx:i4 p q.1 with
         | false=>rfl
         | true=>exact absurd ((wj.1 hx).trans e) hp
       rw[this,cond_false]
    | false =>
      rw[cond_false]
      simp only[bY,azq,hx]
      cases hpq:i4 p q.1 with
      | true =>
        have e:=wj.1 hpq
        have hne : ¬p=o:=fun h=>by rw[←h,e,show i4 q.1 q.1=true from wj.2 rfl]at hq;simp at hq
        simp[hne,axx]
      | false=>simpa using ih
section
variable {P:Program} {K:Ctx} {n:Nat} {I:Option (List Oid)} {Γ:Env} {h:Heap}
theorem Sim.frz2{o:Oid}{e k:Nat}{rows:List (List T)}(bY:h o=some (.arr e k rows)){l:List Oid}(hI:I=some l)(hl:∀p∈l,p≠o∧∃ob,h p=some ob) :
    Sim n I Γ h (fun t=>awz o (.sl k rows) (Γ t)) (LQ o (.sl k rows) h):=by
  rintro K hK a w ⟨B,s⟩
  have hdom:∀p ob,LQ o (.sl k rows) h p=some ob→p≠o∧∃ob1,h p=some ob1∧ob=KJ o (.sl k rows) ob1:=by
    intro p ob hp
    unfold LQ at hp
    split at hp
    ·simp at hp
    ·rename_i hne
     obtain⟨ob1,h1,h2⟩:=aw.1 hp
     exact⟨hne,ob1,h1,h2.symm⟩
  have hmk:∀b,mK K.w0.heap.size K.ok0 w B h b→mK K.w0.heap.size K.ok0 w B (LQ o (.sl k rows) h) b:=fun b hb =>
    ⟨hb.1,hb.2.1,fun p ob hp=>by obtain⟨_,ob1,h1,_⟩:=hdom p ob hp;exact hb.2.2 p ob1 h1⟩
  have hblk:∀b,gz (B o)=some b→mK K.w0.heap.size K.ok0 w B (LQ o (.sl k rows) h) b:=by
    intro b hb
    refine⟨(s.objs.rep o _ bY).lt hb,fun hlt=>?_,fun p ob hp hpb=>?_⟩
    ·exfalso
     obtain⟨p,hpar⟩:=s.own o _ b bY hb hlt
     obtain⟨hpl,hpin,hpb⟩:=hK.2 l hI p b hpar
     obtain⟨hne,ob,hcs⟩:=hl p hpl
     have hB:=(s.pin p hpin).2
     exact hne (s.objs.apart p o _ _ b hcs bY (by rw[hB];exact hpb) hb)
    ·obtain⟨hne,ob1,h1,_⟩:=hdom p ob hp
     exact hne (s.objs.apart p o ob1 _ b h1 bY hpb hb)
  have ht:∀v,RepC w (mK K.w0.heap.size K.ok0 w B h) B v (.slO o)→RepT w (mK K.w0.heap.size K.ok0 w B (LQ o (.sl k rows) h)) v (.sl k rows):=fun v hv =>
    acZ s bY hv hblk fun u i row j x _ _ hr=>hr.mono (fun _ _=>rfl) hmk
  refine⟨B,fun t=>(s.slots t).frz hmk ht,⟨fun p ob hp=>?_,fun p p' ob ob' b hp hp'=>?_⟩,s.defers,s.size,s.fr,fun p ob b hp=>?_,s.pin⟩
  ·obtain⟨_,ob1,h1,rfl⟩:=hdom p ob hp
   exact(s.objs.rep p ob1 h1).frz hmk ht
  ·obtain⟨_,ob1,h1,_⟩:=hdom p ob hp
   obtain⟨_,ob2,h2,_⟩:=hdom p' ob' hp'
   exact s.objs.apart p p' ob1 ob2 b h1 h2
  ·obtain⟨_,ob1,h1,_⟩:=hdom p ob hp
   exact s.own p ob1 b h1
def TV(o:Oid)(m:M):List Oid→Bool
  | []=>!(o6 o)
  | p::r=>!(i4 p o)&&(bY m p).isSome&&TV o m r
theorem SJ{o:Oid}{m:M}:∀ {l:List Oid},TV o m l=true→∀p∈l,p≠o∧∃ob,aZ m p=some ob
  | [],_,p,hp=>by simp at hp
  | q::r,h,p,hp=>by
    simp only[TV,gk,Cw]at h
    rcases List.mem_cons.1 hp with rfl | hp
    ·refine⟨fun e=>by rw[←wj,h.1.1]at e;simp at e,?_⟩
     obtain⟨ob,hob⟩:=Option.isSome_iff_exists.1 h.1.2
     exact⟨ob,by rw[cJ];exact hob⟩
    ·exact SJ h.2 p hp
theorem Y6{o:Oid}{m:M}:∀ {l:List Oid},TV o m l=true→o6 o=false
  | [],h=>by simpa[TV]using h
  | q::r,h=>by
    simp only[TV,gk]at h
    exact Y6 h.2
variable {l l':L} {m m':M}
theorem aTq(o:Oid){e k:Nat}{rows:List (List T)}(hget':bY m o=some (.arr e k rows)){ps:List Oid}(hl:TV o m ps=true)(h:Pz n (some ps) (aMZ o (.sl k rows) l) (anQ o (.sl k rows) m) l' m'):Pz n (some ps) l m l' m':=by
  refine Sim.trans ?_ h
  rw[←asZ,←atZ _ _ (Y6 hl)]
  exact Sim.frz2 (by rw[cJ];exact hget') rfl (SJ hl)
end
end Go.VM
namespace Go.VM
def aVz{κ ν:Type}[DecidableEq κ](k:κ):List (κ×ν)→Option ν
 | []=>none
 | p::r=>if k=p.1 then some p.2 else aVz k r
section
variable {κ ν:Type} {kd:TypeDesc} {kv:κ→Value} {vv:ν→MT}
def aPq(kd:TypeDesc)(kv:κ→Value)(vv:ν→MT)(es:List (κ×ν)):Ob:=.map kd (es.map fun p=>(kv p.1,vv p.2))
inductive MaV(m:M)(kd:TypeDesc)(kv:κ→Value)(vv:ν→MT)(es:List (κ×ν)):V→Prop
 | own (o:Oid):bY m o=some (aPq kd kv vv es)→MaV m kd kv vv es (.c (.mapO o))
 | nil:es=[]→MaV m kd kv vv es (.c .nilM)
theorem MaV.src{m:M}{es:List (κ×ν)}{v:V}(h:MaV m kd kv vv es v):aaX (aZ m) kd v (es.map fun p=>(kv p.1,(vv p.2).v)):=by
 cases h with
 | own o h=>simp only[aaX,cJ];exact⟨_,h,by simp⟩
 | nil h=>subst h;rfl
variable {P:Program} {l:L} {m:M} {kk:Env→Heap→Prop} {dst:Option Nat}
variable [DecidableEq κ]
end
section
variable {P:Program} {n:Nat} {I:Option (List Oid)} {l l':L} {m m':M} {kk:Env→Heap→Prop} {dst:Option Nat}
theorem aCj{x i:Opd}(s:ByteArray){j:Int}{y:UInt8}{kk0:IntKind}(hx:ev (look l) x=scV (.string s))(hi:ev (look l) i=scV (.int kk0 j))(hy:idx s.data.toList j=some y)
  (hkk:kk (bJ (BK dst (scV (.int .u8 (y.toNat:Int))) l)) (aZ m)):iW P dst (.ixS x i) (bJ l) (aZ m) kk:=by
 refine E6 ⟨s,j,y,by rw[iQ];exact hx,⟨kk0,by rw[iQ];exact hi⟩,hy,rfl⟩ rfl (by simp) hkk
theorem aqJ{α:Type}{tc:α→List T}{e:TypeId}{k:Nat}{xs:List α}(h:∀x,(tc x).all KW=true):FlatOb (.arr e k (List.map tc xs)):=by
 intro row hrow t ht
 obtain⟨x,_,rfl⟩:=yw.1 hrow
 exact List.all_eq_true.1 (h x) t ht
theorem flatMap{κ ν:Type}{kd:TypeDesc}{kv:κ→Value}{vv:ν→MT}{es:List (κ×ν)}(h:∀y,T3 (vv y).v=true):FlatOb (aPq kd kv vv es):=by
 intro p hp
 obtain⟨q,_,rfl⟩:=yw.1 hp
 exact h q.2
end
end Go.VM
namespace Go.VM
abbrev tI(n:Int):T:=.sc (.int .i64 n)
abbrev w64(n:Int):Int:=IntKind.i64.wrap n
def mkB(b:Nat)(n:Int):Bool:=decide (0≤n∧n*b≤140737488355328∧n≤9223372036854775807)
theorem aVV{b:Nat}{n:Int}(h:mkB b n=true):0≤n∧n*b≤140737488355328∧n≤9223372036854775807:=of_decide_eq_true h
def aQQ(n:Nat)(I:Option (List Oid))(Q:Exit→Env→Heap→Prop)(e:Exit)(Γ:Env)(h:Heap):Prop:=∃Γ' h',Sim n I Γ h Γ' h'∧Q e Γ' h'
theorem aSJ{P:Program}{n:Nat}{I:Option (List Oid)}{v:VC}{Q:Exit→Env→Heap→Prop}{Γ:Env}{h:Heap}(hW:W P n I v (aQQ n I Q) Γ h):W P n I v Q Γ h :=
 fun c hc K hK a w s=>wp_mono (hW c hc K hK a w s) fun _ _ _ ⟨_,_,⟨Γ',h',hs,hq⟩,s'⟩=>⟨Γ',h',hq,hs K hK _ _ s'⟩
def P4(pins:List Oid):M→Bool
 | []=>true
 | (o,.box _)::r=>Gq o pins&&P4 pins r
 | (_,.fam _)::_=>false
 | _::r=>P4 pins r
theorem WQ{pins:List Oid}:∀ {m:M},P4 pins m=true→∀o cs,aZ m o=some (.box cs)→o∈pins
 | [],_,o,cs,h=>by simp[aZ,noHeap]at h
 | (q,ob)::r,hb,o,cs,h=>by
  rw[cJ]at h
  cases hx:jV ob with
  | some G=>cases ob<;>simp[P4]at hb hx
  | none =>
  simp only[bY,hx]at h
  cases ho:i4 o q with
  | true =>
   simp only[ho,cond_true,ek]at h
   subst h
   simp only[P4,gk]at hb
   rw[wj.1 ho];exact E8 hb.1
  | false =>
   simp only[ho,cond_false]at h
   refine WQ (m:=r) ?_ o cs (by rw[cJ];exact h)
   cases ob<;>simp_all[P4]
def auQ(l pins:List Oid):M→Bool
 | []=>true
 | p::r=>(jV p.2).isNone&&(Gq p.1 l&&Gq p.1 pins)&&auQ l pins r
theorem Tx{l pins:List Oid}:∀ {m:M},auQ l pins m=true→∀o ob,aZ m o=some ob→o∈l∧o∈pins
 | [],_,o,ob,h=>by simp[aZ,noHeap]at h
 | q::r,hb,o,ob,h=>by
  rw[cJ]at h
  simp only[auQ,gk,Option.isNone_iff_eq_none]at hb
  simp only[bY,hb.1.1]at h
  cases ho:i4 o q.1 with
  | true=>rw[wj.1 ho];exact⟨E8 hb.1.2.1,E8 hb.1.2.2⟩
  | false =>
   simp only[ho,cond_false]at h
   exact Tx (m:=r) hb.2 o ob (by rw[cJ];exact h)
def akV:List Oid→Bool
 | []=>true
 | p::r=>Nat.ble 1000 p.1&&akV r
theorem TQ:∀ {l:List Oid},akV l=true→∀o∈l,1000≤o.1
 | [],_,o,h=>by simp at h
 | p::r,hb,o,h=>by
  simp only[akV,gk]at hb
  rcases List.mem_cons.1 h with rfl | h
  ·exact Nat.le_of_ble_eq_true hb.1
  ·exact TQ hb.2 o h
def aUV(pins:List Oid)(m:M):Option (List Oid)→Bool
 | none=>true
 | some l=>auQ l pins m
theorem Fun.of_walkM{P:Program}{f:FuncId}{fn:Func}{n:Nat}{vc:VC}{rs:List VR}{fresh:Bool}{vs:List V}{m:M}{hout:Heap}{r:V}(pins:List Oid)(I:Option (List Oid))(hf:P.funcs[f]? = some fn)(hc:(fn.body.bind fun c=>gV P n c)=some vc)
  (hn:n=vs.length+(fn.ntmps-vs.length)) (hr:fn.results.toList.mapM (Cx P)=some rs) (hk:akV pins=true) (hb:P4 pins m=true) (hI:aUV pins m I=true)
  (hW:W P n I vc (aQQ n I (aoj rs fresh (aZ m) r hout)) (bJ (D3 0 vs)) (aZ m)):Fun P f fresh pins vs (aZ m) r hout :=
 Fun.of_walk pins I hf hc hn hr (TQ hk) (WQ hb) (fun l hl o ob ho=>by subst hl;exact Tx hI o ob ho) (aSJ hW)
section
variable {P:Program} {l:L} {m:M} {kk:Env→Heap→Prop} {dst:Option Nat}
end
end Go.VM
namespace Go.VM
section
variable {α:Type}
def aOZ(v:Value)(k:Value→α):α:=match v with
 | .int a n=>k (.int a n)
 | .bool b=>k (.bool b)
 | .string s=>k (.string s)
 | v=>k v
theorem aCX(v:Value)(k:Value→α):aOZ v k=k v:=by cases v<;>rfl
def fcT(t:T)(k:T→α):α:=match t with
 | .sc v=>aOZ v fun v=>k (.sc v)
 | .sl n rows=>k (.sl n rows)
theorem aDZ(t:T)(k:T→α):fcT t k=k t:=by cases t<;>simp[fcT,aCX]
def aNj(ts:List T)(k:List T→α):α:=match ts with
 | []=>k []
 | t::r=>fcT t fun t=>aNj r fun r=>k (t::r)
theorem atY:∀(ts:List T) (k:List T→α),aNj ts k=k ts
 | [],_=>rfl
 | t::r,k=>by simp only[aNj,aDZ,atY r]
def fcO(o:Oid)(k:Oid→α):α:=match o with
 | (a,b)=>k (a,b)
theorem aQJ(o:Oid)(k:Oid→α):fcO o k=k o:=rfl
def fcC(c:C)(k:C→α):α:=match c with
 | .imm t=>fcT t fun t=>k (.imm t)
 | .nilS=>k .nilS
 | .nilM=>k .nilM
 | .slO o=>fcO o fun o=>k (.slO o)
 | .ptrO o off=>fcO o fun o=>k (.ptrO o off)
 | .elO o n i off=>fcO o fun o=>k (.elO o n i off)
 | .mapO o=>fcO o fun o=>k (.mapO o)
 | .ptrI cells=>aNj cells fun cells=>k (.ptrI cells)
 | .fn f caps=>k (.fn f caps)
 | .junk=>k .junk
theorem anx(c:C)(k:C→α):fcC c k=k c:=by cases c<;>simp[fcC,aDZ,atY,fcO]
def amx(cs:List C)(k:List C→α):α:=match cs with
 | []=>k []
 | c::r=>fcC c fun c=>amx r fun r=>k (c::r)
theorem Ox:∀(cs:List C) (k:List C→α),amx cs k=k cs
 | [],_=>rfl
 | c::r,k=>by simp only[amx,anx,Ox r]
def fcS(v:V)(k:V→α):α:=match v with
 | .c x=>fcC x fun x=>k (.c x)
 | .agg cs=>amx cs fun cs=>k (.agg cs)
 | .tup vs=>k (.tup vs)
 | .junk=>k .junk
theorem aQX(v:V)(k:V→α):fcS v k=k v:=by cases v<;>simp[fcS,anx,Ox]
def aNV(vs:List V)(k:List V→α):α:=match vs with
 | []=>k []
 | v::r=>fcS v fun v=>aNV r fun r=>k (v::r)
theorem atx:∀(vs:List V) (k:List V→α),aNV vs k=k vs
 | [],_=>rfl
 | v::r,k=>by simp only[aNV,aQX,atx r]
def fcV(v:V)(k:V→α):α:=match v with
 | .c x=>fcC x fun x=>k (.c x)
 | .agg cs=>amx cs fun cs=>k (.agg cs)
 | .tup vs=>aNV vs fun vs=>k (.tup vs)
 | .junk=>k .junk
theorem aBz(v:V)(k:V→α):fcV v k=k v:=by cases v<;>simp[fcV,anx,Ox,atx]
def fcL(l:L)(k:L→α):α:=match l with
 | []=>k []
 | (t,v)::r=>fcV v fun v=>fcL r fun r=>k ((t,v)::r)
theorem aDJ:∀(l:L) (k:L→α),fcL l k=k l
 | [],_=>rfl
 | (t,v)::r,k=>by simp only[fcL,aBz,aDJ r]
def aRQ(ob:Ob)(k:Ob→α):α:=match ob with
 | .arr e n rows=>k (.arr e n rows)
 | .box cs=>amx cs fun cs=>k (.box cs)
 | .map kd es=>k (.map kd es)
 | .mapC kd es=>k (.mapC kd es)
 | .arrC e n rows=>k (.arrC e n rows)
 | .fam G=>k (.fam G)
theorem aIW(ob:Ob)(k:Ob→α):aRQ ob k=k ob:=by cases ob<;>simp[aRQ,Ox]
def fcM(m:M)(k:M→α):α:=match m with
 | []=>k []
 | (o,ob)::r=>fcO o fun o=>aRQ ob fun ob=>fcM r fun r=>k ((o,ob)::r)
theorem amz:∀(m:M) (k:M→α),fcM m k=k m
 | [],_=>rfl
 | (o,ob)::r,k=>by simp only[fcM,aQJ,aIW,amz r]
end
def agq(dst:Option Nat)(x:V)(l:L)(m:M)(k:L→M→Option (L×M)):Option (L×M) :=
 match dst with
 | some d=>fcV x fun x=>k ((d,x)::l) m
 | none=>k l m
def QW:List VOp→L→M→Option (L×M)
 | [],l,m=>some (l,m)
 | ⟨dst,op,none⟩::os,l,m =>
  bif pK op then
   match ahx (dst.getD 999,0) l m op with
   | some (x,m')=>fcM m' fun m'=>agq dst x l m' fun l m=>QW os l m
   | none=>none
  else
   match mJ m (ev (look l)) op with
   | some r=>agq dst r l m fun l m=>QW os l m
   | none=>none
 | ⟨dst,op,some (t,b)⟩::os,l,m=>match look l t with
  | .c (.imm (.sc (.bool c)))=>bif (c == b)then
    bif pK op then
     match ahx (dst.getD 999,0) l m op with
     | some (x,m')=>fcM m' fun m'=>agq dst x l m' fun l m=>QW os l m
     | none=>none
    else
     match mJ m (ev (look l)) op with
     | some r=>agq dst r l m fun l m=>QW os l m
     | none=>none
   else QW os (BK dst B1 l) m
  | .tup []=>QW os (BK dst B1 l) m
  | _=>none
def M4(os:List VOp)(l:L)(m:M):Option (L×M):=fcL l fun l=>fcM m fun m=>QW os l m
theorem aKQ(dst:Option Nat)(x:V)(l:L)(m:M)(k:L→M→Option (L×M)):agq dst x l m k=k (BK dst x l) m:=by
 cases dst<;>simp[agq,BK,aBz]
theorem Q9:∀(os:List VOp) (l:L) (m:M),QW os l m=Kq os l m
 | [],_,_=>rfl
 | ⟨dst,op,g⟩::os,l,m=>by
  have key:(bif pK op then
    match ahx (dst.getD 999,0) l m op with
    | some (x,m')=>fcM m' fun m'=>agq dst x l m' fun l m=>QW os l m
    | none=>none
   else
    match mJ m (ev (look l)) op with
    | some r=>agq dst r l m fun l m=>QW os l m
    | none=>none)=match opF dst op l m with
   | some (l',m')=>Kq os l' m'
   | none=>none:=by
   simp only[opF,amz,aKQ]
   cases pK op with
   | true =>
    simp only[cond_true]
    cases ahx (dst.getD 999,0) l m op with
    | none=>rfl
    | some p=>simp only[Q9 os]
   | false =>
    simp only[cond_false]
    cases mJ m (ev (look l)) op with
    | none=>rfl
    | some p=>simp only[Q9 os,Ej]
  cases g with
  | none=>simp only[QW,Kq];exact key
  | some tb =>
   obtain⟨t,b⟩:=tb
   simp only[QW,Kq]
   rw[key,Q9 os]
   try rfl
theorem RY(os:List VOp)(l:L)(m:M):M4 os l m=Kq os l m:=by simp only[M4,aDJ,amz,Q9]
section
variable {P:Program} {n:Nat} {I:Option (List Oid)} {l l':L} {m m':M} {ops:List VOp}
theorem a7{S:aIQ}(hS:∀dst op Γ h k,iW P dst op Γ h k→S dst op Γ h k)(n:Nat){k:Env→Heap→Prop}(h:M4 (ops.take n) l m=some (l',m'))
  (hk:eW S (ops.drop n) (bJ l') (aZ m') k):eW S ops (bJ l) (aZ m) k:=aUX hS n (by rw[←RY];exact h) hk
theorem QV(h:M4 ops l m=some (l',m')){k:Env→Heap→Prop}(hk:k (bJ l') (aZ m')):eW (Dq P n I) ops (bJ l) (aZ m) k:=RV (by rw[←RY];exact h) hk
theorem QP(h:M4 ops l m=some (l',m')){k:Env→Heap→Prop}(hk:k (bJ l') (aZ m')):eW (iW P) ops (bJ l) (aZ m) k:=RP (by rw[←RY];exact h) hk
end
end Go.VM
namespace Go.VM
theorem aPx{w:World}{ok:Nat→Prop}{B:Oid→Value}:∀ {args vs:List Value},Pt (RepV w ok B) args (vs.map scV)→args=vs
 | [],[],_=>rfl
 | [],_::_,h=>by have:=h.1;simp at this
 | _::_,[],h=>by have:=h.1;simp at this
 | a::as,v::vs,h=>by
  have h0:=d0 (h.2 0 a (scV v) rfl rfl)
  have ht:Pt (RepV w ok B) as (vs.map scV):=⟨by have:=h.1;simpa using this,fun j u z hu hz=>h.2 (j+1) u z (by simpa using hu) (by simpa using hz)⟩
  rw[h0,aPx ht]
theorem Fun.of_plain{P:Program}{f:FuncId}(vs:List Value)(r:Value)(h:∀w,Calls P f vs.toArray w fun e w'=>e = .returned r∧w'=w)(hr:r.oneCell'=true):Fun P f true [] (vs.map scV) noHeap (scV r) noHeap:=by
 intro w ok B args hlt hbl hp ho
 have e:=aPx hp
 subst e
 refine(h w).mono fun e w' ⟨he,hw⟩=>?_
 subst hw
 refine⟨r,B,he,Fr.refl _ _,wX hr,⟨fun o ob hg=>by simp[noHeap]at hg,fun o o' ob ob' b hg=>by simp[noHeap]at hg⟩,fun o ob b hg=>by simp[noHeap]at hg,fun o ho=>by simp at ho⟩
end Go.VM
namespace Go.VM
section
variable {P:Program} {n:Nat} {I:Option (List Oid)} {Q:Exit→Env→Heap→Prop} {l l':L} {m m':M} {kk:Env→Heap→Prop} {dst:Option Nat}
end
end Go.VM
namespace Go.VM
section
variable {β:Type}
def wZ:List C→Nat→List C→(List C→Option β)→Option β
 | cur,0,[],k=>k cur
 | _::cur,0,d::ds,k=>wZ cur 0 ds fun r=>k (d::r)
 | c::cur,n+1,cs,k=>wZ cur n cs fun r=>k (c::r)
 | [],_,_,_=>none
theorem K0(c:C):∀(cs:List C) (cur:List C) (n:Nat),setAt (c::cur) (n+1) cs=c::setAt cur n cs
 | [],_,_=>rfl
 | d::ds,cur,n=>by
  simp only[setAt,List.set_cons_succ]
  exact K0 c ds (cur.set n d) (n+1)
theorem Lj:∀(cur:List C) (n:Nat) (cs:List C) (k:List C→Option β) (r:β),wZ cur n cs k=some r→k (setAt cur n cs)=some r
 | [],0,[],k,r,h=>by simpa[wZ,setAt]using h
 | _::_,0,[],k,r,h=>by simpa[wZ,setAt]using h
 | c::cur,0,d::ds,k,r,h=>by
  simp only[wZ]at h
  have:=Lj cur 0 ds _ r h
  simp only[setAt,List.set_cons_zero]
  rw[K0]
  exact this
 | c::cur,n+1,cs,k,r,h=>by
  have e:wZ (c::cur) (n+1) cs k=wZ cur n cs fun r=>k (c::r):=by
   cases cs<;>rfl
  rw[e]at h
  have:=Lj cur n cs _ r h
  rw[K0]
  exact this
 | [],_+1,_,k,r,h=>by simp[wZ]at h
 | [],0,_::_,k,r,h=>by simp[wZ]at h
def atq(e:Opd→V):List C→List (Nat×Nat×Opd)→(List C→Option β)→Option β
 | cur,[],k=>k cur
 | cur,(off,n,x)::ps,k=>match c5 (e x)with
  | some cs=>bif Nat.beq cs.length n&&Nat.ble (off+n) cur.length then wZ cur off cs fun cur'=>atq e cur' ps k else none
  | none=>none
theorem agY{e:Opd→V}:∀(ps:List (Nat×Nat×Opd)) (cur:List C) (k:List C→Option β) (r:β),atq e cur ps k=some r→∃cs,xx e cur ps=some cs∧k cs=some r
 | [],cur,k,r,h=>⟨cur,by simp[xx],h⟩
 | (off,n,x)::ps,cur,k,r,h=>by
  simp only[atq]at h
  cases hc:c5 (e x)with
  | none=>simp[hc]at h
  | some cs =>
   simp only[hc]at h
   cases hb:(Nat.beq cs.length n&&Nat.ble (off+n) cur.length)with
   | false=>simp[hb]at h
   | true =>
    simp only[hb,cond_true]at h
    rw[gk]at hb
    have h1:=Nat.eq_of_beq_eq_true hb.1
    have h2:=Nat.le_of_ble_eq_true hb.2
    have h3:=Lj cur off cs _ r h
    obtain⟨ds,h4,h5⟩:=agY ps _ k r h3
    exact⟨ds,by simp[xx,hc,h1,h2,h4],h5⟩
end
def RowsP:List C→List T→Prop
 | [],[]=>True
 | .imm t::cs,t'::ts=>t=t'∧RowsP cs ts
 | .nilS::cs,.sl _ rows::ts=>rows=[]∧RowsP cs ts
 | _,_=>False
theorem RowsP.cts:∀ {cs:List C} {ts:List T},RowsP cs ts→CTs cs ts
 | [],[],_=>trivial
 | [],_::_,h=>h.elim
 | c::cs,[],h=>by cases c<;>exact h.elim
 | c::cs,t::ts,h=>by
  cases c with
  | imm t'=>exact⟨h.1,RowsP.cts h.2⟩
  | nilS=>cases t with
   | sc _=>exact h.elim
   | sl _ rows=>exact⟨h.1,RowsP.cts h.2⟩
  | _=>exact h.elim
def aTZ(e:Opd→V)(z:List C)(ps:List (Nat×Nat×Opd)):Option (List C):=atq e z ps fun cs=>amx cs some
section
variable {P:Program} {l:L} {m:M} {kk:Env→Heap→Prop} {dst:Option Nat} {α:Type} {tc:α→List T}
theorem ZX{e:TypeId}{k n:Nat}{z:List C}{ps:List (Nat×Nat×Opd)}{cs:List C}(xs:List α)(h:aTZ (ev (look l)) (List.replicate n z).flatten ps=some cs)(hr:RowsP cs (xs.map tc).flatten)
  (hn:xs.length=n) (hk:∀x,(tc x).length=k) (hf:(pY (dst.getD 999,0) l&&oK (dst.getD 999,0) m)=true)
  (hkk:kk (bJ (BK dst (.c (.slO (dst.getD 999,0))) l)) (aZ (((dst.getD 999,0),.arr e k (xs.map tc))::m))):iW P dst (.bsl e k n z ps) (bJ l) (aZ m) kk:=by
 rw[lJ]at hkk
 rw[gk]at hf
 obtain⟨ds,h1,h2⟩:=agY ps _ _ _ h
 rw[Ox]at h2
 cases h2
 refine⟨fun _=>uZ hf.1 hf.2,_,_,⟨cs,xs.map tc,by rw[iQ];exact h1,by simpa using hn,?_,hr.cts,rfl,rfl⟩,hkk⟩
 intro row hrow
 obtain⟨x,_,rfl⟩:=yw.1 hrow
 exact hk x
end
end Go.VM
namespace Go.VM
open Go.ChangeShapes Go.WideShapes Go.ChangeAt Go.RowKit
inductive Sh where
 | int (k:IntKind)
 | bool
 | str
 | sl (row:List Sh)
inductive WT:Sh→T→Prop
 | int (k:IntKind) (n:Int) (h:(Lit.int k n).wf=true):WT (.int k) (.sc (.int k n))
 | bool (b:Bool):WT .bool (.sc (.bool b))
 | str (s:ByteArray) (h:s.size≤reachBytes):WT .str (.sc (.string s))
 | sl (row:List Sh) (rows:List (List T)) (hl:rows.length≤reachBytes) (hk:∀r∈rows,r.length=row.length) (h:∀r∈rows,∀(j:Nat) s t,row[j]? = some s→r[j]? = some t→WT s t):WT (.sl row) (.sl row.length rows)
def WTs(row:List Sh)(r:List T):Prop:=r.length=row.length∧∀(j:Nat) s t,row[j]? = some s→r[j]? = some t→WT s t
theorem WTs.nil:WTs [] []:=⟨rfl,fun j s t h=>by simp at h⟩
theorem WTs.cons{s:Sh}{t:T}{row:List Sh}{r:List T}(h0:WT s t)(h:WTs row r):WTs (s::row) (t::r):=by
 refine⟨by simp[h.1],fun j s' t' hs ht=>?_⟩
 cases j with
 | zero=>simp at hs ht;subst hs;subst ht;exact h0
 | succ j=>exact h.2 j s' t' (by simpa using hs) (by simpa using ht)
theorem WTs.append{a b:List Sh}{r s:List T}(h:WTs a r)(h':WTs b s):WTs (a++b) (r++s):=by
 refine⟨by simp[h.1,h'.1],fun j x t hx ht=>?_⟩
 rw[List.getElem?_append]at hx ht
 rw[h.1]at ht
 split at hx
 ·rename_i hlt;rw[if_pos hlt]at ht;exact h.2 j x t hx ht
 ·rename_i hlt;rw[if_neg hlt]at ht;exact h'.2 _ x t hx ht
theorem WTs.one{s:Sh}{t:T}(h:WT s t):WTs [s] [t]:=.cons h .nil
theorem WTs.inv0{r:List T}(h:WTs [] r):r=[]:=fk h.1
theorem WTs.inv{s:Sh}{row:List Sh}{r:List T}(h:WTs (s::row) r):∃t r',r=t::r'∧WT s t∧WTs row r':=by
 cases r with
 | nil=>have:=h.1;simp at this
 | cons t r'=>exact⟨t,r',rfl,h.2 0 s t rfl rfl,by have:=h.1;simpa using this,fun j s' t' hs ht=>h.2 (j+1) s' t' (by simpa using hs) (by simpa using ht)⟩
section
variable (P:Program)
mutual
def R7:Nat→TypeId→Option (List Sh)
 | 0,_=>none
 | n+1,t=>match P.underlying t with
  | some (.int k)=>some [.int k]
  | some .bool=>some [.bool]
  | some .string=>some [.str]
  | some (.slice e)=>(R7 n e).bind fun r=>if(P.cellsOf e=r.length∧0<r.length)∧0<P.bytesOf e then some [.sl r]else none
  | some (.struct fs)=>(E0 n 0 fs.toList).bind fun r=>if P.cellsOf t=r.length then some r else none
  | some (.array m e)=>(R7 n e).bind fun r=>if P.cellsOf e=r.length∧P.cellsOf t=m*r.length then some (List.replicate m r).flatten else none
  | _=>none
def E0:Nat→Nat→List Field→Option (List Sh)
 | 0,_,_=>none
 | _+1,_,[]=>some []
 | n+1,off,f::fs=>(R7 n f.type).bind fun r=>if f.offset=off∧P.cellsOf f.type=r.length then(E0 n (off+r.length) fs).map (r++·)else none
end
end
theorem alz{w:World}{a:Addr}{v:Value}(h:w.cell? a=some v):a.block<w.heap.size:=by
 unfold World.cell? at h
 cases hb:w.heap[a.block]? with
 | none=>simp[hb]at h
 | some o=>exact(pw.1 hb).1
section
variable {H:Type} {enc:TypeId×Value→H} {P:Program} {w:World} {base:Nat} {sp:Nat→Bool} {held:Bool}
theorem asz{ok:Nat→Prop}{r:List Sh}:∀(m:Nat) (cs:List Value),cs.length=m*r.length→(∀i,i<m→∃ts,Pt (RepT w ok) ((cs.drop (i*r.length)).take r.length) ts∧WTs r ts) →
  ∃ts,Pt (RepT w ok) cs ts∧WTs (List.replicate m r).flatten ts
 | 0,cs,hl,_=>by
  have:cs=[]:=fk (by simpa using hl)
  subst this
  exact⟨[],Pt.nil,.nil⟩
 | m+1,cs,hl,h=>by
  obtain⟨ts0,h1,h2⟩:=h 0 (by omega)
  simp only[Nat.zero_mul,List.drop_zero]at h1
  obtain⟨ts,h3,h4⟩:=asz (r:=r) m (cs.drop r.length) (by rw[List.length_drop,hl,Nat.add_mul];omega) fun i hi=>by
   obtain⟨ts,g1,g2⟩:=h (i+1) (by omega)
   refine⟨ts,?_,g2⟩
   rw[List.drop_drop]
   rwa [show r.length+i*r.length=(i+1)*r.length from by rw[Nat.add_mul];omega]
  refine⟨ts0++ts,?_,?_⟩
  ·have:=h1.append h3
   rwa [List.take_append_drop]at this
  ·simpa[List.replicate_succ]using h2.append h4
theorem BQ{e:TypeId}{d:DataW H}{k:Nat}:∀ {ds:List (DataW H)},d∈ds→k∈d.weights P e→k∈DataW.weightsAll P e ds
 | d'::ds,hd,hk=>by
  simp only[DataW.weightsAll,ow]
  rcases List.mem_cons.1 hd with rfl | hd
  ·exact .inl hk
  ·exact .inr (BQ hd hk)
mutual
theorem Nx:∀(n:Nat) (t:TypeId) (shs:List Sh),R7 P n t=some shs→∀(fuel:Nat) (cs:List Value) (x:DataW H×List MemPlace),DataW.trod enc P w base sp held fuel t cs=some x→(∀k∈x.1.weights P t,k≤reachBytes) →
  ∃ts,Pt (RepT w fun b=>b<w.heap.size) cs ts∧WTs shs ts
 | 0,t,shs,h=>by simp[R7]at h
 | n+1,t,shs,h=>by
  intro fuel cs x hx hwt
  rw[R7]at h
  cases ht:P.underlying t with
  | none=>simp[ht]at h
  | some d =>
   simp only[ht]at h
   cases d with
   | int k =>
    simp only[ek]at h;subst h
    obtain⟨m,rfl,_,hw⟩:=DataW.trod_int ht hx
    exact⟨[.sc (.int k m)],Pt.cons (.sc _ rfl) Pt.nil,.one (.int k m hw)⟩
   | bool =>
    simp only[ek]at h;subst h
    obtain⟨b,rfl,_⟩:=DataW.trod_bool ht hx
    exact⟨[.sc (.bool b)],Pt.cons (.sc _ rfl) Pt.nil,.one (.bool b)⟩
   | string =>
    simp only[ek]at h;subst h
    obtain⟨s,rfl,hxe,hs⟩:=DataW.trod_string ht hx
    subst hxe
    have:=hwt s.data.toList.length (by simp[DataW.weights])
    exact⟨[.sc (.string s)],Pt.cons (.sc _ rfl) Pt.nil,.one (.str s (by simpa using this))⟩
   | slice e =>
    simp only[ak]at h
    obtain⟨r,hr,h⟩:=h
    split at h
    ·rename_i hc0
     obtain⟨hc,hby⟩:=hc0
     cases h
     rcases DataW.trod_slice ht hx with⟨rfl,_⟩ | ⟨a,len,cap,elems,rest,m,_,rfl,hxe,_,hlc,hcm,hlen,hel,_,_⟩
     ·exact⟨[.sl r.length []],Pt.cons (.nil _ _ _) Pt.nil,.one (.sl r [] (by simp) (by simp) (by simp))⟩
     ·subst hxe
      have htop:len≤reachBytes:=by
       have:=hwt (((elems.map (·.1)).length+(rest.map (·.1)).length)*P.bytesOf e) (by simp[DataW.weights,ht])
       simp only[ew]at this
       have h2:elems.length*1≤(elems.length+rest.length)*P.bytesOf e:=Nat.mul_le_mul (by omega) hby
       omega
      have each:∀i,i<len→∃cs' ts,(∀j,j<r.length→w.cell? ((a.add (i*r.length)).add j)=cs'[j]?)∧cs'.length=r.length∧Pt (RepT w fun b=>b<w.heap.size) cs' ts∧WTs r ts:=by
       intro i hi
       have h1:=hel i hi
       have hi':i<elems.length:=by omega
       rw[cw hi',ak]at h1
       obtain⟨cs',hcs,htr⟩:=h1
       obtain⟨_,h2,h3⟩:=World.cells?_some hcs
       rw[hc.1]at h2 h3
       obtain⟨ts,h4,h5⟩:=Nx n e r hr _ _ _ htr (fun k hk=>hwt k (by
        have hm:elems[i].1∈elems.map (·.1):=yw.2 ⟨_,List.getElem_mem hi',rfl⟩
        simp only[DataW.weights,ht,List.mem_cons,ow]
        exact .inr (.inl (BQ hm hk))))
       exact⟨cs',ts,fun j hj=>h3 j hj,h2,h4,h5⟩
      by_cases hz:len=0
      ·subst hz
       exact⟨[.sl r.length []],Pt.cons (.nil _ _ _) Pt.nil,.one (.sl r [] (by simp) (by simp) (by simp))⟩
      ·obtain⟨ab,ao,asp⟩:=a
       have hspot:asp=none:=by
        obtain⟨cs',ts,h1,h2,_,_⟩:=each 0 (by omega)
        have h3:=h1 0 hc.2
        rw[cw (by omega)]at h3
        have:=World.cell?_spot h3
        simpa[Addr.add]using this
       subst hspot
       have hblk:ab<w.heap.size:=by
        obtain⟨cs',ts,h1,h2,_,_⟩:=each 0 (by omega)
        have h3:=h1 0 hc.2
        rw[cw (by omega)]at h3
        have:=alz h3
        simpa[gX]using this
       classical
       let rows:List (List T):=(List.range len).map fun i=>if hi:i<len then Classical.choose (Classical.choose_spec (each i hi))else[]
       let f:Nat→Nat→Value:=fun i j=>(w.cell? ⟨ab,ao+i*r.length+j,none⟩).getD undef
       have hrow:∀i row,rows[i]? = some row→∃hi:i<len,row=Classical.choose (Classical.choose_spec (each i hi)):=by
        intro i row hr'
        have hi:i<len:=by
         have:=(bw.1 hr').1
         simpa[rows]using this
        refine⟨hi,?_⟩
        simp only[rows,jw,List.getElem?_range hi,qw,ek,dif_pos hi]at hr'
        exact hr'.symm
       have hfact:∀i (hi:i<len),∃cs',(∀j,j<r.length→w.cell? ⟨ab,ao+i*r.length+j,none⟩=cs'[j]?)∧cs'.length=r.length∧Pt (RepT w fun b=>b<w.heap.size) cs' (Classical.choose (Classical.choose_spec (each i hi)))∧WTs r (Classical.choose (Classical.choose_spec (each i hi))):=by
        intro i hi
        have:=Classical.choose_spec (Classical.choose_spec (each i hi))
        refine⟨_,fun j hj=>?_,this.2⟩
        have:=this.1 j hj
        rw[←this]
        simp[gX,Nat.add_assoc]
       have hrl:rows.length=len:=by simp[rows]
       have hwf:∀row∈rows,WTs r row:=by
        intro row hm
        obtain⟨i,hi⟩:=List.getElem?_of_mem hm
        obtain⟨hi',rfl⟩:=hrow i row hi
        obtain⟨cs',_,_,_,h4⟩:=hfact i hi'
        exact h4
       refine⟨[.sl r.length rows],Pt.cons ?_ Pt.nil,.one (.sl r rows (by omega) (fun row hm=>(hwf row hm).1) fun row hm=>(hwf row hm).2)⟩
       have hrep:=RepT.sl (w:=w) (ok:=fun b=>b<w.heap.size) ab ao cap r.length rows f hblk (by omega) (fun row hm=>(hwf row hm).1) ?_ ?_
       ·rw[hrl]at hrep;exact hrep
       ·intro i row j x hi hj
        obtain⟨hi',rfl⟩:=hrow i row hi
        obtain⟨cs',h1,h2,h3,h4⟩:=hfact i hi'
        have hj':j<r.length:=by rw[←h4.1];exact(bw.1 hj).1
        simp only[f]
        rw[h1 j hj',cw (by omega)]
        rfl
       ·intro i row j x hi hj
        obtain⟨hi',rfl⟩:=hrow i row hi
        obtain⟨cs',h1,h2,h3,h4⟩:=hfact i hi'
        have hj':j<r.length:=by rw[←h4.1];exact(bw.1 hj).1
        simp only[f]
        rw[h1 j hj',cw (by omega)]
        exact h3.2 j _ x (cw (by omega)) hj
    ·simp at h
   | struct fs =>
    simp only[ak]at h
    obtain⟨r,hr,h⟩:=h
    split at h
    ·rename_i hc
     cases h
     obtain⟨xs,m,_,hxe,hlen,hxl,hel⟩:=DataW.trod_struct ht hx
     have key:=T8 n 0 fs.toList shs hr cs (fun i f hf=>by
      have hf':fs[i]? = some f:=by simpa using hf
      have:=hel i f hf'
      have hlt:i<xs.length:=by
       have:=(pw.1 hf').1
       omega
      rw[cw hlt]at this
      refine⟨_,_,this,fun k hk=>hwt k ?_⟩
      rw[hxe]
      simp only[DataW.weights,ht]
      exact DataW.weights_mem_each (j:=i) (t:=f.type) (d:=xs[i].1) (by simp[hf']) (by simp[hlt]) k hk) (by omega)
     simpa using key
    ·simp at h
   | array m e =>
    simp only[ak]at h
    obtain⟨r,hr,h⟩:=h
    split at h
    ·rename_i hc
     cases h
     obtain⟨xs,m',_,hxe,hlen,hxl,hel⟩:=DataW.trod_array ht hx
     refine asz m cs (by omega) fun i hi=>?_
     have h1:=hel i hi
     rw[cw (by omega),hc.1]at h1
     refine Nx n e r hr _ _ _ h1 (fun k hk=>hwt k ?_)
     rw[hxe]
     simp only[DataW.weights,ht]
     exact BQ (yw.2 ⟨_,List.getElem_mem (by omega),rfl⟩) hk
    ·simp at h
   | _=>simp at h
theorem T8:∀(n off:Nat) (fs:List Field) (shs:List Sh),E0 P n off fs=some shs→∀(cs:List Value),(∀(i:Nat) f,fs[i]? = some f→∃fuel x,DataW.trod enc P w base sp held fuel f.type ((cs.drop f.offset).take (P.cellsOf f.type))=some x∧∀k∈x.1.weights P f.type,k≤reachBytes) →
  cs.length=off+shs.length→∃ts,Pt (RepT w fun b=>b<w.heap.size) (cs.drop off) ts∧WTs shs ts
 | 0,off,fs,shs,h=>by simp[E0]at h
 | n+1,off,[],shs,h=>by
  intro cs _ hl
  simp only[E0,ek]at h;subst h
  refine⟨[],?_,.nil⟩
  rw[List.drop_of_length_le (by simp at hl;omega)]
  exact Pt.nil
 | n+1,off,f::fs,shs,h=>by
  intro cs hx hl
  simp only[E0,ak]at h
  obtain⟨r,hr,h⟩:=h
  split at h
  ·rename_i hc
   simp only[aw]at h
   obtain⟨rest,hrest,rfl⟩:=h
   obtain⟨fuel,x,hf,hwf⟩:=hx 0 f rfl
   rw[hc.1,hc.2]at hf
   obtain⟨ts0,h1,h2⟩:=Nx n f.type r hr _ _ _ hf hwf
   rw[dw]at hl
   obtain⟨ts,h3,h4⟩:=T8 n (off+r.length) fs rest hrest cs (fun i f hf=>hx (i+1) f (by simpa using hf)) (by omega)
   refine⟨ts0++ts,?_,h2.append h4⟩
   have:=h1.append h3
   rw[←List.drop_drop,List.take_append_drop]at this
   exact this
  ·simp at h
end
end
end Go.VM
namespace Go.VM
open Go.ChangeShapes Go.WideShapes Go.ChangeAt Go.RowKit
def abJ(P:Program)(t:TypeId):Bool:=match P.underlying t with
 | some d=>c6 d
 | none=>false
def auq:Bool→List T→V
 | true,ts=>.agg (ts.map .imm)
 | false,[t]=>.c (.imm t)
 | false,_=>.junk
def aSX:List Bool→List (List T)→List V
 | b::bs,ts::tss=>auq b ts::aSX bs tss
 | _,_=>[]
def aPY:List (List Sh)→List (List T)→Prop
 | [],[]=>True
 | s::ss,t::tt=>WTs s t∧aPY ss tt
 | _,_=>False
section
variable {H:Type} {enc:TypeId×Value→H} {P:Program} {W W':World} {base:Nat} {sp:Nat→Bool} {held:Bool}
theorem aQK{ok:Nat→Prop}{B:Oid→Value}{cs:List Value}{ts:List T}(h:Pt (RepT W ok) cs ts):Pt (RepC W ok B) cs (ts.map .imm):=h.map fun v x hr=>.imm v x hr
theorem aKX{B:Oid→Value}{t:TypeId}{v:Value}{d:DataW H}{ps:List MemPlace}{n:Nat}{shs:List Sh}(hval:Value.okWide P W .any base t v)(hd:DataW.Trod enc P W 0 sp held t v d ps)(hwt:∀k∈d.weights P t,k≤reachBytes)(hs:R7 P n t=some shs) :
  ∃ts,RepV W (fun b=>b<W.heap.size) B v (auq (abJ P t) ts)∧WTs shs ts:=by
 obtain⟨fuel,hf⟩:=hd
 obtain⟨ts,hp,hw⟩:=Nx n t shs hs fuel _ _ hf hwt
 refine⟨ts,?_,hw⟩
 have agg:(∃cs,v = .agg cs)→RepV W (fun b=>b<W.heap.size) B v (auq true ts):=by
  rintro⟨cs,rfl⟩
  exact⟨cs,rfl,aQK hp⟩
 have one:v.cells = #[v]→shs.length=1→RepV W (fun b=>b<W.heap.size) B v (auq false ts):=by
  intro hc h1
  rw[hc]at hp
  have hl:=hw.1
  match ts,hp,hl with
  | [t0],hp,_=>exact RepC.imm _ _ (hp.2 0 v t0 rfl rfl)
  | [],_,hl=>simp at hl;omega
  | _::_::_,_,hl=>simp at hl;omega
 cases n with
 | zero=>simp[R7]at hs
 | succ n =>
  rw[R7]at hs
  unfold Value.okWide at hval
  unfold abJ
  cases ht:P.underlying t with
  | none=>simp[ht]at hs
  | some td =>
   simp only[ht]at hs hval ⊢
   cases td with
   | struct fs=>obtain⟨cs,rfl,_⟩:=hval;exact agg ⟨cs,rfl⟩
   | array m e=>obtain⟨cs,rfl,_⟩:=hval;exact agg ⟨cs,rfl⟩
   | int k =>
    refine one ?_ (by simp at hs;subst hs;rfl)
    cases v<;>first | rfl | (simp[Cell.okWide,Cell.ok,ht]at hval)
   | bool =>
    refine one ?_ (by simp at hs;subst hs;rfl)
    cases v<;>first | rfl | (simp[Cell.okWide,Cell.ok,ht]at hval)
   | string =>
    refine one ?_ (by simp at hs;subst hs;rfl)
    cases v<;>first | rfl | (simp[Cell.okWide,Cell.ok,ht]at hval)
   | slice e =>
    refine one ?_ (by
     simp only[ak]at hs
     obtain⟨r,_,h⟩:=hs
     split at h
     ·cases h;rfl
     ·simp at h)
    cases v<;>first | rfl | (simp[Cell.okWide,Cell.ok,ht]at hval)
   | _=>simp at hs
theorem aiV{B:Oid→Value}{n:Nat}:∀(ts:List TypeId) (vs:List Value) (ds:List (DataW H)) (ps:List MemPlace) (shs:List (List Sh)),DataW.TrodAll enc P W 0 sp held ts vs ds ps →
  (∀(j:Nat) t v,ts[j]? = some t→vs[j]? = some v→Value.okWide P W .any base t v)→(∀(j:Nat) t d,ts[j]? = some t→ds[j]? = some d→∀k∈d.weights P t,k≤reachBytes)→ts.mapM (R7 P n)=some shs →
  ∃tss,Pt (RepV W (fun b=>b<W.heap.size) B) vs (aSX (ts.map (abJ P)) tss)∧aPY shs tss
 | [],vs,ds,ps,shs,h,_,_,hs=>by
  obtain⟨rfl,_,_⟩:=trodAll_nil h
  simp at hs;subst hs
  exact⟨[],Pt.nil,trivial⟩
 | t::ts,vs,ds,ps,shs,h,hv,hwt,hs=>by
  obtain⟨v,vs',d,ds',p,q,rfl,rfl,rfl,h1,h2⟩:=trodAll_cons h
  simp only[List.mapM_cons,Option.bind_eq_bind,Option.pure_def,ak,ek]at hs
  obtain⟨s0,hs0,ss,hss,rfl⟩:=hs
  obtain⟨t0,g1,g2⟩:=aKX (B:=B) (hv 0 t v rfl rfl) h1 (hwt 0 t d rfl rfl) hs0
  obtain⟨tss,g3,g4⟩:=aiV ts vs' ds' q ss h2 (fun j t v ht hv'=>hv (j+1) t v (by simpa using ht) (by simpa using hv')) (fun j t d ht hd=>hwt (j+1) t d (by simpa using ht) (by simpa using hd)) hss
  exact⟨t0::tss,Pt.cons g1 g3,g2,g4⟩
theorem Z2(hl:laidOutB P=true){W':World}(hb:Below W.heap.size W W'){sp':Nat→Bool}:∀(ts:List TypeId) (vs:List Value) (ds:List (DataW H)) (ps:List MemPlace),DataW.TrodAll enc P W 0 (fun _=>true) true ts vs ds ps →
  (∀t∈ts,P.readableRec t=true∧t<P.types.size)→(∀x∈ps,x.block<W.heap.size)→(∀x∈ps,sp' x.block=true)→DataW.TrodAll enc P W' 0 sp' true ts vs ds ps
 | [],vs,ds,ps,h,_,_,_=>by
  obtain⟨rfl,rfl,rfl⟩:=trodAll_nil h
  exact rfl
 | t::ts,vs,ds,ps,h,hr,hlt,hsp=>by
  obtain⟨v,vs',d,ds',p,q,rfl,rfl,rfl,h1,h2⟩:=trodAll_cons h
  obtain⟨r1,r2⟩:=hr t (by simp)
  refine⟨p,q,WideElems.Trod_stays hl r1 r2 h1 (fun x hx=>hb.same (hlt x (by simp[hx]))) (fun x hx=>hsp x (by simp[hx])),?_,rfl⟩
  exact Z2 hl hb ts vs' ds' q h2 (fun t ht=>hr t (by simp[ht])) (fun x hx=>hlt x (by simp[hx])) fun x hx=>hsp x (by simp[hx])
theorem XV{f:Func}{s:ChangeSpec}{ts:List TypeId}{tb:TypeId}{args:Array Value}{ds gs:List (DataW H)}{before:List MemPlace}(hfp:f.params.toList=ts)(hfr:f.resultTypes = #[tb])(htb:P.underlying tb=some .bool)(hsv:s.vars=[])
  (hl:laidOutB P=true) (hread:∀t∈ts,P.readableRec t=true∧t<P.types.size) (hs:∀ds:List (DataW H),ds.length=ts.length→(s.fn H ds).results=[.lit (.bool true)]∧(s.fn H ds).args=ds∧(s.fn H ds).vars=[])
  (hW:DataW.Whole enc P f.params.toList s.vars false W args.toList ds gs before) (hb:Below W.heap.size W W') :
  s.post enc P f false true false false W args (.bool true) W':=by
 have hW':=hW
 have hlt:∀x∈before,x.block<W.heap.size:=fun x hx=>by simpa using hW'.lt x hx
 obtain⟨p,q,hA,hV,rfl,hz,hn⟩:=hW
 have hV':=hV
 rw[hsv]at hV'
 obtain⟨rfl,rfl⟩:=trodVars_none hV'
 have hdl:ds.length=ts.length:=by rw[←hfp];exact(trodAll_length hA).2
 obtain⟨hs1,hs2,hs3⟩:=hs ds hdl
 have hres:∀(b:Nat) (sp:Nat→Bool) (hd:Bool),DataW.TrodAll enc P W' b sp hd f.resultTypes.toList ((Value.bool true).resultList f.resultTypes.size) (s.fn H (ds++[])).results []:=by
  intro b sp hd
  rw[vk,hs1,hfr]
  exact trodAll_cons_mk (shut_bool htb _) trodAll_mk0
 have hargs:∀sp:Nat→Bool,(∀p'∈p++[],sp p'.block=true)→DataW.TrodAll enc P W' 0 sp true f.params.toList args.toList (s.fn H (ds++[])).args (p++[]):=by
  intro sp hsp
  rw[vk,hs2,vk,hfp]
  rw[hfp]at hA
  rw[vk]at hsp hlt
  exact Z2 hl hb ts _ _ _ hA hread hlt hsp
 have hvars:∀sp:Nat→Bool,DataW.TrodVars enc P W' sp s.vars (s.fn H (ds++[])).vars []:=by
  intro sp
  rw[vk,hs3,hsv]
  rfl
 have hok:∀(j:Nat) (t:TypeId) (r:Value),f.resultTypes[j]? = some t→((Value.bool true).resultList f.resultTypes.size)[j]? = some r→Value.okWide P W' .any 0 t r:=by
  intro j t r hj hr
  exact ok_one hfr rfl (okWide_bool_mk htb _) j t r hj hr
 refine⟨ds,[],p++[],[],p++[],[],hW',hres _ _ _,hargs _ (fun x hx=>by simpa using hlt x hx),hvars _,World.keptBut_mono (fun x hx=>⟨hx,.inr (.inl hx)⟩) (hb.frame (·∈p++[])),fun _=>?_⟩
 refine⟨hok,_,_,([]++(p++[]))++[],⟨[]++(p++[]),[],trodAll_append (hargs _ fun _ _=>rfl) (hres _ _ _),hvars _,rfl,?_,?_⟩,?_⟩
 ·intro b off hp
  have hm:MemPlace.cell b off∈p++[]:=by simpa using hp
  have hlt':b<W.heap.size:=hlt _ hm
  rw[hb.frozen (p:=⟨b,off,none⟩) hlt']
  exact hz b off hm
 ·intro h;simp at h
 ·intro x hx _
  simpa using hx
theorem auV{f:FuncId}{fn:Func}{s:ChangeSpec}{ts:List TypeId}{tb:TypeId}{n:Nat}{shs:List (List Sh)}(hfp:fn.params.toList=ts)(hfr:fn.resultTypes = #[tb])(htb:P.underlying tb=some .bool)(hsv:s.vars=[])
  (hl:laidOutB P=true) (hread:ts.all (fun t=>P.readableRec t&&decide (t<P.types.size))=true) (hs:∀ds:List (DataW H),ds.length=ts.length→(s.fn H ds).results=[.lit (.bool true)]∧(s.fn H ds).args=ds∧(s.fn H ds).vars=[])
  (hsh:ts.mapM (R7 P n)=some shs) {bs:List Bool} (hbs:ts.map (abJ P)=bs) {fresh:Bool} (hF:∀tss:List (List T),aPY shs tss→Fun P f fresh [] (aSX bs tss) noHeap (.c (.imm (.sc (.bool true)))) noHeap)
  {args:Array Value} {ds gs:List (DataW H)} {before:List MemPlace} (hval:∀(j:Nat) t v,fn.params[j]? = some t→args[j]? = some v→Value.okWide P W .any base t v)
  (hW:DataW.Whole enc P fn.params.toList s.vars false W args.toList ds gs before)
  (hz:(DataW.weightsEach P (fn.params.toList++s.plain.varTypes P) (ds++gs)).all (·≤reachBytes)=true) :
  Calls P f args W fun e W'=>∃v,e = .returned v∧s.post enc P fn false true false false W args v W':=by
 have hread':∀t∈ts,P.readableRec t=true∧t<P.types.size:=fun t ht=>by
  have:=List.all_eq_true.1 hread t ht
  simpa using this
 have hA:=hW
 obtain⟨p,q,hA,_,_,_,_⟩:=hA
 rw[hfp]at hA
 obtain⟨tss,h1,h2⟩:=aiV (B:=fun _=>undef) (n:=n) ts args.toList ds p shs hA (fun j t v ht hv=>hval j t v (by
  have:fn.params.toList[j]? = some t:=by rw[hfp];exact ht
  simpa using this) (by simpa using hv)) (fun j t d ht hd k hk=>by
   have hjt:(fn.params.toList++s.plain.varTypes P)[j]? = some t:=by
    rw[hfp,lw (bw.1 ht).1];exact ht
   have hjd:(ds++gs)[j]? = some d:=by
    rw[lw (bw.1 hd).1];exact hd
   simpa using List.all_eq_true.1 hz k (DataW.weights_mem_each hjt hjd k hk)) hsh
 rw[hbs]at h1
 have nob:∀(B:Oid→Value) (b:Nat),¬n6 B noHeap b:=fun B b ⟨o,ob,hg,_⟩=>by simp[noHeap]at hg
 have:=hF tss h2 W (fun b=>b<W.heap.size) (fun _=>undef) args.toList (fun _ h=>h) (fun b _=>nob _ b) h1 ⟨fun o ob hg=>by simp[noHeap]at hg,fun o o' ob ob' b hg=>by simp[noHeap]at hg⟩
 rw[Ck]at this
 refine this.mono fun e W' he=>?_
 obtain⟨v,B',rfl,hfr',hrep,_⟩:=he
 have hv:v = .bool true:=d0 hrep
 subst hv
 refine⟨_,rfl,XV hfp hfr htb hsv hl hread' hs hW ⟨hfr'.os,hfr'.tape,hfr'.output,hfr'.size,fun k hk=>hfr'.block k hk (nob _ k)⟩⟩
end
def inI(k:IntKind)(n:Int):Prop:=(Lit.int k n).wf=true
theorem G1{k:IntKind}{t:T}(h:WT (.int k) t):∃n:Int,t = .sc (.int k n)∧inI k n:=by
 cases h with
 | int _ n h=>exact⟨n,rfl,h⟩
theorem aDY{t:T}(h:WT .str t):∃s:ByteArray,t = .sc (.string s)∧s.size≤reachBytes:=by
 cases h with
 | str s h=>exact⟨s,rfl,h⟩
def okL{α:Type}(ok:α→Prop)(xs:List α):Prop:=xs.length≤reachBytes∧∀x∈xs,ok x
theorem aux{α:Type}{tc:α→List T}{ok:α→Prop}{row:List Sh}(hx:∀ts,WTs row ts→∃x,tc x=ts∧ok x){t:T}(h:WT (.sl row) t):∃xs:List α,t = .sl row.length (xs.map tc)∧okL ok xs:=by
 cases h with
 | sl _ rows hl hk h =>
  have key:∀rows:List (List T),(∀r∈rows,WTs row r)→∃xs:List α,xs.map tc=rows∧∀x∈xs,ok x:=by
   intro rows
   induction rows with
   | nil=>intro _;exact⟨[],rfl,by simp⟩
   | cons r rows ih =>
    intro h
    obtain⟨xs,h1,h2⟩:=ih fun r hr=>h r (by simp[hr])
    obtain⟨x,h3,h4⟩:=hx r (h r (by simp))
    refine⟨x::xs,by simp[h1,h3],?_⟩
    intro y hy
    rcases List.mem_cons.1 hy with rfl | hy
    ·exact h4
    ·exact h2 y hy
  obtain⟨xs,rfl,h2⟩:=key rows fun r hr=>⟨hk r hr,h r hr⟩
  exact⟨xs,rfl,by simpa using hl,h2⟩
end Go.VM
namespace Go.VM
theorem sZ{S ρ:Type}{step:S→Option (S ⊕ ρ)}{n:Nat}{s:S}:iter step (n+1) s=match step s with
  | none=>none
  | some (.inl s')=>iter step n s'
  | some (.inr r)=>some r:=rfl
theorem aHQ{S ρ:Type}{step:S→Option (S ⊕ ρ)}(Inv:S→Prop)(m:S→Nat)(Post:ρ→Prop)
  (h:∀s,Inv s→(∃s',step s=some (.inl s')∧Inv s'∧m s'<m s)∨∃r,step s=some (.inr r)∧Post r) {s:S} (hs:Inv s) (hm:m s<cV):∃r,loop step s=some r∧Post r:=by
 have key:∀n s,Inv s→m s<n→∃r,iter step n s=some r∧Post r:=by
  intro n
  induction n with
  | zero=>intro s _ h;omega
  | succ n ih =>
   intro s hs hm
   rcases h s hs with⟨s',h1,h2,h3⟩ | ⟨r,h1,h2⟩
   ·obtain⟨r,h4,h5⟩:=ih s' h2 (by omega)
    exact⟨r,by rw[sZ,h1];exact h4,h5⟩
   ·exact⟨r,by rw[sZ,h1],h2⟩
 exact key _ s hs hm
def apx{α σ ρ:Type}(body:Nat→α→σ→σ ⊕ ρ)(fin:σ→ρ):List α→Nat→σ→ρ
 | [],_,s=>fin s
 | y::ys,i,s=>match body i y s with
  | .inl s'=>apx body fin ys (i+1) s'
  | .inr r=>r
theorem aHX{α σ ρ S:Type}{step:S→Option (S ⊕ ρ)}(xs:List α)(emb:Nat→σ→S)(body:Nat→α→σ→σ ⊕ ρ)(fin:σ→ρ)(Inv:Nat→σ→Prop)(hl:xs.length<cV)
  (h1:∀i y s,xs[i]? = some y → Inv i s → step (emb i s)=some (match body i y s with | .inl s' => .inl (emb (i+1) s') | .inr r => .inr r) ∧ ∀s',body i y s = .inl s' → Inv (i+1) s')
  (h2:∀s,Inv xs.length s→step (emb xs.length s)=some (.inr (fin s))) {s:σ} (hs:Inv 0 s):loop step (emb 0 s)=some (apx body fin xs 0 s):=by
 have key:∀(ys:List α) (i:Nat) (s:σ),xs.drop i=ys→i+ys.length=xs.length→Inv i s→iter step (ys.length+1) (emb i s)=some (apx body fin ys i s):=by
  intro ys
  induction ys with
  | nil =>
   intro i s _ hi hs
   have:i=xs.length:=by simpa using hi
   subst this
   rw[sZ,h2 s hs];rfl
  | cons y ys ih =>
   intro i s hd hi hs
   have hy:xs[i]? = some y:=by
    have:=congrArg (·[0]?) hd
    simpa[List.getElem?_drop]using this
   obtain⟨g1,g2⟩:=h1 i y s hy hs
   rw[sZ,g1]
   simp only[apx]
   cases hb:body i y s with
   | inr r=>simp
   | inl s' =>
    simp only[]
    refine ih (i+1) s' ?_ (by simp at hi;omega) (g2 s' hb)
    rw[←List.drop_drop,hd];rfl
 exact abK (by omega) (key xs 0 s (by simp) (by simp) hs)
theorem avW{α σ ρ S:Type}{step:S→Option (S ⊕ ρ)}(xs:List α)(emb:Nat→σ→S)(body:Nat→α→σ→σ ⊕ ρ)(fin:σ→ρ)(hl:xs.length<cV)
  (h1:∀i y s,xs[i]? = some y → step (emb i s)=some (match body i y s with | .inl s' => .inl (emb (i+1) s') | .inr r => .inr r))
  (h2:∀s,step (emb xs.length s)=some (.inr (fin s))) (s:σ):loop step (emb 0 s)=some (apx body fin xs 0 s) :=
 aHX xs emb body fin (fun _ _=>True) hl (fun i y s hy _=>⟨h1 i y s hy,fun _ _=>trivial⟩) (fun s _=>h2 s) trivial
theorem dW{α:Type}(xs:List α)(i:Nat):idx xs (i:Int)=xs[i]?:=by simp[idx]
theorem cj{n:Int}(h : -9223372036854775808≤n∧n≤9223372036854775807):w64 n=n:=by
 have e:(2:Int) ^ (64:Nat)=18446744073709551616:=by decide
 have e2:(2:Int) ^ (64-1:Nat)=9223372036854775808:=by decide
 simp only[IntKind.wrap,IntKind.bits,IntKind.signed,e,e2,Bool.true_and,Dk]
 split<;>omega
end Go.VM
namespace Go.VM
abbrev kI(n:Int):Opd:=.con (.c (.imm (.sc (.int .i64 n))))
abbrev kB(b:Bool):Opd:=.con (.c (.imm (.sc (.bool b))))
instance opdNum (n:Nat):OfNat Opd n:=⟨.tmp n⟩
abbrev cI(x:Int):V:=.c (.imm (tI x))
abbrev cB(x:Bool):V:=.c (.imm (.sc (.bool x)))
abbrev cP(o:Oid)(k:Nat):V:=.c (.ptrO o k)
abbrev cO(o:Oid):V:=.c (.slO o)
abbrev cL{α:Type}(k:Nat)(f:α→List T)(xs:List α):V:=.c (.imm (.sl k (List.map f xs)))
abbrev jI(x:Int):C:=.imm (tI x)
abbrev jB(x:Bool):C:=.imm (.sc (.bool x))
abbrev jS(x:ByteArray):C:=.imm (.sc (.string x))
abbrev jL{α:Type}(k:Nat)(f:α→List T)(xs:List α):C:=.imm (.sl k (List.map f xs))
theorem oi{α:Type}{a b:α}(h:some a=some b):b=a:=(Option.some.inj h).symm
abbrev vo(n:Nat)(x:VO):VOp:=⟨some n,x,none⟩
abbrev vm(d:Nat)(x:Opd):VOp:=vo d (.mv x)
abbrev rg(l:List VOp):VC:=.region none l
abbrev vg(n k:Nat)(b:Bool)(x:VO):VOp:=⟨some n,x,some (k,b)⟩
section
variable {P:Program} {n:Nat} {I:Option (List Oid)} {l l':L} {m m':M} {Q:Exit→Env→Heap→Prop} {ops:List VOp} {y:VC}
theorem wA(h:M4 ops l m=some (l',m'))(hk:W P n I y Q (bJ l') (aZ m'))(hn:n≤1000:=by decide):W P n I (.seq (.region none ops) y) Q (bJ l) (aZ m):=a9 (SY hn (QV h hk))
theorem wB(h:M4 ops l m=some (l',m'))(hk:Q .normal (bJ l') (aZ m'))(hn:n≤1000:=by decide):W P n I (.region none ops) Q (bJ l) (aZ m):=SY hn (QV h hk)
theorem wC(k:Nat)(h:M4 (ops.take k) l m=some (l',m'))(hk:eW (Dq P n I) (ops.drop k) (bJ l') (aZ m') fun Γ h=>W P n I y Q Γ h)(hn:n≤1000:=by decide):W P n I (.seq (.region none ops) y) Q (bJ l) (aZ m) :=
 a9 (SY hn (a7 SV k h hk))
theorem wD(k:Nat)(h:M4 (ops.take k) l m=some (l',m'))(hk:eW (Dq P n I) (ops.drop k) (bJ l') (aZ m') fun Γ h=>Q .normal Γ h)(hn:n≤1000:=by decide):W P n I (.region none ops) Q (bJ l) (aZ m) :=
 SY hn (a7 SV k h hk)
theorem wE(hq:eW (Dq P n I) ops (bJ l) (aZ m) fun Γ h=>W P n I y Q Γ h)(hn:n≤1000:=by decide):W P n I (.seq (.region none ops) y) Q (bJ l) (aZ m):=a9 (SY hn hq)
theorem wIf{α:Type}{A B:Option α}{r:α}{c:Opd}{x:VC}{t:Bool}(hF:(bif t then A else B)=some r)(hc:ev (look l) c=bV t)(hx:t=true→A=some r→W P n I x Q (bJ l) (aZ m))(hy:t=false→B=some r→W P n I y Q (bJ l) (aZ m)):W P n I (.cond c x y) Q (bJ l) (aZ m) :=
 atj hc (fun h=>hx h (bT h hF)) (fun h=>hy h (bF h hF))
theorem L8{α γ:Type}{A B:Option α}{K:α→Option γ}{r:γ}{c:Opd}{x:VC}{t:Bool}(hF:(bif t then A else B).bind K=some r)(hc:ev (look l) c=bV t)(hx:t=true→A.bind K=some r→W P n I x Q (bJ l) (aZ m))(hy:t=false→B.bind K=some r→W P n I y Q (bJ l) (aZ m)):W P n I (.cond c x y) Q (bJ l) (aZ m) :=
 atj hc (fun h=>hx h (bT' h hF)) (fun h=>hy h (bF' h hF))
theorem sw(hl:AgL l l':=by repeat' first | constructor | (simp[look, *];done))(hm:AgM m m':=by repeat' first | constructor | (simp[bY, *];done)):Pz n I l m l' m':=aRX hl hm
theorem wR{rs:List VR}{fresh:Bool}{hin:Heap}{r:V}{xs:List V}(h1:P3 (bJ l) (aZ m) rs=some xs:=by rfl)(h2:xs.all kK=true:=by rfl)(h3:aFJ fresh hin (aZ m) noHeap (QK xs) r:=by exact⟨rfl,fun _=>rfl⟩):aoj rs fresh hin r noHeap .ret (bJ l) (aZ m) :=
 ⟨xs,h1,h2,h3,asK _⟩
theorem rS{dst:Option Nat}{op:VO}{rest:List VOp}{k:Env→Heap→Prop}(h:iW P dst op (bJ l) (aZ m) fun Γ h=>eW (Dq P n I) rest Γ h k):eW (Dq P n I) (⟨dst,op,none⟩::rest) (bJ l) (aZ m) k:=b8 SV trivial h
end
section
variable {P:Program}
theorem XW{D d:Nat}{e:TypeId}{i:TypeInfo}{she:List TypeDesc}(hi:P.info? e=some i)(he:eqTy P d e i.size=some she)(hd:d≤D)(xs ys:List Value)(w:World) :
  ∀(m k:Nat) (b:Bool),(k+m)*i.size=xs.length→xs.length=ys.length→fits (List.replicate m she).flatten (xs.drop (k*i.size))=true→eqL (xs.drop (k*i.size)) (ys.drop (k*i.size))=some b →
   (Op.eqItems D e i.size xs.toArray ys.toArray (List.range' k m)).run P w = .ok b w
 | 0,k,b,h1,h2,hf,hq=>by
  have hk0:k*i.size=xs.length:=by simpa using h1
  rw[List.drop_eq_nil_of_le (by omega),List.drop_eq_nil_of_le (by omega)]at hq
  simp[eqL]at hq
  subst hq
  rfl
 | m+1,k,b,h1,h2,hf,hq=>by
  have hla:=eqTy_len _ _ _ _ he
  have hm:(k+1)*i.size=k*i.size+i.size:=by rw[Nat.add_mul,Nat.one_mul]
  have hm2:(k+(m+1))*i.size=(k+1)*i.size+m*i.size:=by rw[←Nat.add_mul];congr 1;omega
  obtain⟨b1,b2,e1,e2,rfl⟩:=O3 i.size hq
  rw[List.replicate_succ,yk]at hf
  obtain⟨k1,k2⟩:=LK hf
  rw[hla]at k1 k2
  rw[List.drop_drop,←hm]at k2
  rw[List.drop_drop,List.drop_drop,←hm]at e2
  have r1:=J4 hi he xs (k*i.size) (by omega) w
  have r2:=J4 hi he ys (k*i.size) (by omega) w
  have r3:=acK d D e i.size she hd he _ _ b1 w k1 e1
  rw[List.range'_succ]
  simp only[Op.eqItems,Sem.run_bind,r1,r2,r3,Result.andThen_ok]
  cases b1 with
  | false=>simp
  | true=>simpa using XW hi he hd xs ys w m (k+1) b2 (by rw[←h1];congr 1;omega) h2 k2 e2
theorem eqOk_arr{t e:TypeId}{m n:Nat}{she sh:List TypeDesc}(hu:P.underlying t=some (.array m e))(hg:P.eqGuardType P.depth t=false)(hs:(P.info? e).map (·.size)=some n)(h:eqTy P 100 e n=some she)(hsh:(List.replicate m she).flatten=sh):QJ P t sh:=by
 subst hsh
 obtain⟨i,hi,rfl⟩:=aw.1 hs
 refine⟨hg,fun cs ds b w he hf=>?_⟩
 have hc:P.cellsOf e=i.size:=by simp[Program.cellsOf,hi]
 have hl:m*i.size=cs.length:=by
  rw[←fits_len hf,List.length_flatten,List.map_replicate,List.sum_replicate_nat,eqTy_len _ _ _ _ h]
 show(Op.equalIn (9999+1) t (.agg cs.toArray) (.agg ds.toArray)).run P w=_
 rw[Go.run_equalIn_array w 9999 cs.toArray ds.toArray hu hi,hc,List.range_eq_range']
 exact XW hi h (by omega) cs ds w m 0 b (by simpa using hl) (aaJ he) (by simpa using hf) (by simpa using he)
end
end Go.VM
namespace Go.VM
def o4:Code→List (List Nat)
 | .region _ ops true=>[BZ ops]
 | .seq a b=>o4 a++o4 b
 | .cond _ a b=>o4 a++o4 b
 | .block _ c=>o4 c
 | .loop c=>o4 c
 | _=>[]
@[irreducible] def bfT{fn:Func}(k:Nat):List Nat:=((fn.body.map o4).getD []).getD k []
def cU(P:Program){fn:Func}(n:Nat):Code→Nat→Option (VC×Nat)
 | .region _ ops draw,k=>some (match ops.toList.mapM (kq P n ops)with
  | some vl=>.region (bif draw then some (bfT (fn:=fn) k)else none) vl
  | none=>.bad,bif draw then k+1 else k)
 | .seq a b,k=>(cU P (fn:=fn) n a k).bind fun x=>(cU P (fn:=fn) n b x.2).map fun y=>(.seq x.1 y.1,y.2)
 | .cond c a b,k=>(bX c).bind fun c=>(cU P (fn:=fn) n a k).bind fun x=>(cU P (fn:=fn) n b x.2).map fun y=>(.cond c x.1 y.1,y.2)
 | .block id c,k=>(cU P (fn:=fn) n c k).map fun x=>(.block id x.1,x.2)
 | .loop c,k=>(cU P (fn:=fn) n c k).map fun x=>(.loop x.1,x.2)
 | .exit id,k=>some (.exit id,k)
 | .ret,k=>some (.ret,k)
 | .skip,k=>some (.skip,k)
 | _,k=>some (.bad,k)
def okU(P:Program)(n:Nat):Code→Bool
 | .region _ ops true=>match ops.toList.mapM (kq P n ops)with
  | some vl=>MJ ops vl&&P.follows .mixedOrders
  | none=>true
 | .seq a b=>okU P n a&&okU P n b
 | .cond _ a b=>okU P n a&&okU P n b
 | .block _ c=>okU P n c
 | .loop c=>okU P n c
 | _=>true
theorem aDK{P:Program}{fn:Func}{n:Nat}{T:List (List Nat)}(hT:∀k,bfT (fn:=fn) k=T.getD k []):∀(c:Code) (k:Nat) {vc:VC} {k':Nat} {pre post:List (List Nat)},T=pre++(o4 c++post)→pre.length=k→okU P n c=true→cU P (fn:=fn) n c k=some (vc,k') →
  gV P n c=some vc∧k'=k+(o4 c).length:=by
 intro c
 induction c with
 | region p ops draw =>
  intro k vc k' pre post hTe hk ho h
  cases draw with
  | false =>
   simp only[cU,cond_false,ek,Prod.mk.injEq]at h
   obtain⟨h1,rfl⟩:=h
   refine⟨?_,by simp[o4]⟩
   rw[←h1]
   simp only[gV,AW]
   cases ops.toList.mapM (kq P n ops)<;>simp
  | true =>
   simp only[cU,cond_true,ek,Prod.mk.injEq]at h
   obtain⟨h1,rfl⟩:=h
   refine⟨?_,by simp[o4]⟩
   rw[←h1]
   have hb:bfT (fn:=fn) k=BZ ops:=by
    rw[hT,hTe,←hk];simp[o4]
   simp only[okU]at ho
   simp only[gV,AW]
   cases hv:ops.toList.mapM (kq P n ops)with
   | none=>simp
   | some vl =>
    simp only[hv,gk]at ho
    simp[hb,ho.1,ho.2]
 | seq a b iha ihb =>
  intro k vc k' pre post hTe hk ho h
  simp only[okU,gk]at ho
  simp only[cU,ak,aw,Prod.mk.injEq]at h
  obtain⟨⟨va,ka⟩,ha,⟨vb,kb⟩,hb,rfl,rfl⟩:=h
  simp only[o4]at hTe ⊢
  obtain⟨a1,a2⟩:=iha k (pre:=pre) (post:=o4 b++post) (by rw[hTe];simp) hk ho.1 ha
  obtain⟨b1,b2⟩:=ihb ka (pre:=pre++o4 a) (post:=post) (by rw[hTe];simp) (by simp[a2,hk]) ho.2 hb
  exact⟨by simp[gV,a1,b1],by simp at b2 ⊢;omega⟩
 | cond o a b iha ihb =>
  intro k vc k' pre post hTe hk ho h
  simp only[okU,gk]at ho
  simp only[cU,ak,aw,Prod.mk.injEq]at h
  obtain⟨o',hoo,⟨va,ka⟩,ha,⟨vb,kb⟩,hb,rfl,rfl⟩:=h
  simp only[o4]at hTe ⊢
  obtain⟨a1,a2⟩:=iha k (pre:=pre) (post:=o4 b++post) (by rw[hTe];simp) hk ho.1 ha
  obtain⟨b1,b2⟩:=ihb ka (pre:=pre++o4 a) (post:=post) (by rw[hTe];simp) (by simp[a2,hk]) ho.2 hb
  exact⟨by simp[gV,hoo,a1,b1],by simp at b2 ⊢;omega⟩
 | block id c ih =>
  intro k vc k' pre post hTe hk ho h
  simp only[cU,aw,Prod.mk.injEq]at h
  obtain⟨⟨va,ka⟩,ha,rfl,rfl⟩:=h
  obtain⟨a1,a2⟩:=ih k hTe hk ho ha
  exact⟨by simp[gV,a1],a2⟩
 | loop c ih =>
  intro k vc k' pre post hTe hk ho h
  simp only[cU,aw,Prod.mk.injEq]at h
  obtain⟨⟨va,ka⟩,ha,rfl,rfl⟩:=h
  obtain⟨a1,a2⟩:=ih k hTe hk ho ha
  exact⟨by simp[gV,a1],a2⟩
 | _ =>
  intro k vc k' pre post hTe hk ho h
  simp only[cU,ek,Prod.mk.injEq]at h
  obtain⟨rfl,rfl⟩:=h
  exact⟨by simp[gV],by simp[o4]⟩
def okF(P:Program)(fn:Func)(n:Nat):Bool:=match fn.body with
 | some c=>okU P n c
 | none=>false
theorem arJ{P:Program}{fn:Func}{n:Nat}{vc:VC}{k:Nat}(ho:okF P fn n=true)(h:(fn.body.bind fun c=>cU P (fn:=fn) n c 0)=some (vc,k)):(fn.body.bind fun c=>gV P n c)=some vc:=by
 cases hb:fn.body with
 | none=>simp[okF,hb]at ho
 | some c =>
  simp only[okF,hb]at ho
  simp only[hb,dk]at h ⊢
  exact(aDK (T:=o4 c) (fun k=>by unfold bfT;simp[hb]) c 0 (pre:=[]) (post:=[]) (by simp) rfl ho h).1
theorem fW{P:Program}{f:FuncId}{fn:Func}{n k:Nat}{vc:VC}{rs:List VR}{fresh:Bool}{vs:List V}{r:V}(hf:P.funcs[f]? = some fn)(hW:W P n (some []) vc (aoj rs fresh noHeap r noHeap) (bJ (D3 0 vs)) (aZ []))
  (hn:n=vs.length+(fn.ntmps-vs.length):=by conv=>rhs;reduce) (ho:okF P fn n=true:=by kernel_rfl) (hc:(fn.body.bind fun c=>cU P (fn:=fn) n c 0)=some (vc,k):=by(refine Eq.trans (b:=?b) ?h1 ?h2;rotate_left;(conv=>lhs;reduce);(try dsimp only[Int.reduceOfNat,Int.reduceNegSucc]);all_goals rfl)) (hr:fn.results.toList.mapM (Cx P)=some rs:=by conv=>lhs;reduce):Fun P f fresh [] vs noHeap r noHeap :=
 Fun.of_walk0 hf (arJ ho hc) hn hr hW
theorem x6{P:Program}{f:FuncId}{fn:Func}{n k:Nat}{vc:VC}{rs:List VR}{fresh:Bool}{vs:List V}{m:M}{hout:Heap}{r:V}(pins:List Oid)(I:Option (List Oid))(hf:P.funcs[f]? = some fn)(hW:W P n I vc (aQQ n I (aoj rs fresh (aZ m) r hout)) (bJ (D3 0 vs)) (aZ m))
  (hn:n=vs.length+(fn.ntmps-vs.length):=by conv=>rhs;reduce) (ho:okF P fn n=true:=by kernel_rfl) (hc:(fn.body.bind fun c=>cU P (fn:=fn) n c 0)=some (vc,k):=by(refine Eq.trans (b:=?b) ?h1 ?h2;rotate_left;(conv=>lhs;reduce);(try dsimp only[Int.reduceOfNat,Int.reduceNegSucc]);all_goals rfl)) (hr:fn.results.toList.mapM (Cx P)=some rs:=by conv=>lhs;reduce)
  (hk:akV pins=true:=by rfl) (hb:P4 pins m=true:=by rfl) (hI:aUV pins m I=true:=by rfl):Fun P f fresh pins vs (aZ m) r hout :=
 Fun.of_walkM pins I hf (arJ ho hc) hn hr hk hb hI hW
end Go.VM
namespace Go.VM
section
variable {P:Program} {K:Ctx}
end
section
variable {P:Program} {K:Ctx} {n:Nat} {I:Option (List Oid)} {Q:Exit→Env→Heap→Prop}
end
section
variable {P:Program} {K:Ctx}
end
section
variable {P:Program} {n:Nat} {I:Option (List Oid)} {Q:Exit→Env→Heap→Prop} {Γ:Env} {h:Heap}
end
section
variable {P:Program} {n:Nat} {I:Option (List Oid)} {Q:Exit→Env→Heap→Prop} {l:L} {m:M}
end
end Go.VM
namespace Go.VM
section
variable {κ ν:Type}
variable {N:Nat} {kd:TypeDesc} {kv:κ→Value} {bx:Nat→ν→List C} {ars:Nat→ν→Option Ob} {es:List (κ×ν)}
end
end Go.VM
namespace Go.VM
section
variable {P:Program} {n:Nat} {I:Option (List Oid)} {l:L} {m:M} {kk:Env→Heap→Prop} {dst:Option Nat} {op:VO}
variable {κ ν:Type} [DecidableEq κ] {N:Nat} {kd:TypeDesc} {kv:κ→Value} {bx:Nat→ν→List C} {ars:Nat→ν→Option Ob} {es:List (κ×ν)}
end
end Go.VM
namespace Go.VM
theorem ne1{a b c d:Nat}(h:a≠c):((a,b):Oid)≠(c,d):=fun e=>h (congrArg Prod.fst e)
theorem ne2{a b c d:Nat}(h:b≠d):((a,b):Oid)≠(c,d):=fun e=>h (congrArg Prod.snd e)
def AsOk(m:M)(f:Nat→Option Ob):Nat→List Oid→Prop
 | j,[]=>∀k,j≤k→f k=none
 | j,a::r=>((f j).isSome=true∧bY m a=f j)∧AsOk m f (j+1) r
theorem AsOk.get{m:M}{f:Nat→Option Ob}:∀ {as:List Oid} {j:Nat},AsOk m f j as→∀k ob,f (j+k)=some ob→∃a,as[k]? = some a∧bY m a=some ob
 | [],j,h,k,ob,e=>by rw[h (j+k) (by omega)]at e;simp at e
 | a::r,j,h,0,ob,e=>⟨a,rfl,by rw[h.1.2];exact e⟩
 | a::r,j,h,k+1,ob,e=>by
  obtain⟨b,h1,h2⟩:=AsOk.get h.2 k ob (by rw[←e];congr 1;omega)
  exact⟨b,by simpa using h1,h2⟩
theorem AsOk.len{m:M}{f:Nat→Option Ob}:∀ {as:List Oid} {j:Nat},AsOk m f j as→∀k,k<as.length→(f (j+k)).isSome=true
 | [],j,h,k,e=>by simp at e
 | a::r,j,h,0,e=>h.1.1
 | a::r,j,h,k+1,e=>by
  have:=AsOk.len h.2 k (by simpa using e)
  rw[show j+(k+1)=j+1+k by omega];exact this
section
variable {P:Program} {n:Nat} {I:Option (List Oid)} {l:L} {m:M} {kk:Env→Heap→Prop} {dst:Option Nat} {op:VO}
variable {κ ν:Type} [DecidableEq κ] {N:Nat} {kd:TypeDesc} {kv:κ→Value} {bx:Nat→ν→List C} {ars:Nat→ν→Option Ob} {es:List (κ×ν)}
def ObsOk(f:Nat→Option Ob):Nat→List Ob→Prop
 | j,[]=>∀k,j≤k→f k=none
 | j,ob::r=>f j=some ob∧ObsOk f (j+1) r
theorem ObsOk.get{f:Nat→Option Ob}:∀ {obs:List Ob} {j:Nat},ObsOk f j obs→∀k,f (j+k)=obs[k]?
 | [],j,h,k=>by rw[h (j+k) (by omega)];rfl
 | ob::r,j,h,0=>h.1
 | ob::r,j,h,k+1=>by
  have:=ObsOk.get h.2 k
  rw[show j+(k+1)=j+1+k by omega,this];simp
end
end Go.VM
namespace Go.VM
section
variable {κ ν:Type} [DecidableEq κ] {N:Nat} {kd:TypeDesc} {kv:κ→Value} {bx:Nat→ν→List C} {ars:Nat→ν→Option Ob} {es:List (κ×ν)} {m:M}
def lookS(key:κ)(es:List (κ×ν)):Option (Unit ⊕ ν):=some (match aVz key es with
 | none=>.inl ()
 | some x=>.inr x)
end
section
variable {P:Program} {n:Nat} {I:Option (List Oid)} {l l':L} {m m':M} {kk:Env→Heap→Prop} {dst:Option Nat} {op:VO}
end
end Go.VM
