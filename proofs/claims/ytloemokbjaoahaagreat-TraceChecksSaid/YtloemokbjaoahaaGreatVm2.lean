/- The value machine, in parts: what a stretch of code comes to, jV value trees. -/
import Derived.Test.YtloemokbjaoahaaGreatVm1
import Derived.WalkKit
import Derived.MapKept
import Derived.MapFrom
import Derived.Great.BuildSlice
import Derived.LoopN
import Derived.Orders
import Derived.Laws.StructEq
import Derived.ProofKit
import Derived.OpenShut
import Derived.ChangeArms
import Derived.DataReads
import Derived.Carry
import Derived.SizedLaws
import Derived.ChangeCalls
import Derived.ChangeKeysEq
import Derived.KernelRfl
namespace Go.VM
theorem SW{e e':Opd→V}:∀(ps:List (Nat×Nat×Opd)) (cur:List C),(∀p∈ps,e p.2.2=e' p.2.2)→IQ e cur ps=IQ e' cur ps
  | [],cur,_=>rfl
  | (off,sz,x)::r,cur,hp=>by
    simp only[IQ]
    rw[←hp (off,sz,x) (by simp)]
    cases kW (e x)with
    | none=>rfl
    | some cs =>
      simp only
      split
      ·exact SW r _ fun p hm=>hp p (by simp[hm])
      ·rfl
theorem K5{e e':Opd→V}{xs:List Opd}(hp:∀x∈xs,e x=e' x):xs.map e=xs.map e':=List.map_congr_left hp
theorem a2V{P:Program}{h:Heap}{e e':Opd→V}{op:VO}(hp:∀x∈op.opds,e x=e' x){r:V}(hq:qP P h e op r):qP P h e' op r:=by
  cases op<;>simp only[VO.opds,iw,jk,Option.mem_toList,List.not_mem_nil,or_false,List.mem_map]at hp<;>simp only[qP]at hq ⊢
  case build z ps=>obtain⟨cs,h1,h2⟩:=hq;exact⟨cs,by rw[←SW (e:=e) ps z fun p hm=>hp _ ⟨p,hm,rfl⟩];exact h1,h2⟩
  case ext x i=>rw[←hp x rfl];exact hq
  case mm mx args=>rw[←K5 (e:=e) hp];exact hq
  case mkfn f caps=>rw[←K5 (e:=e) hp];exact hq
  case un op x=>cases op<;>simp only at hq ⊢<;>first | (rw[←hp x rfl];exact hq) | exact hq
  case sub k x lo hi =>
    obtain⟨rows,l,n,h1,b1,b2,h2⟩:=hq
    refine⟨rows,l,n,by rw[←hp x (.inl rfl)];exact h1,?_,?_,h2⟩
    ·cases lo with
     | none=>exact b1
     | some y=>simp only[Iq]at b1 ⊢;rw[←hp y (by simp)];exact b1
    ·cases hi with
     | none=>exact b2
     | some y=>simp only[Iq]at b2 ⊢;rw[←hp y (by simp)];exact b2
  case subS x lo hi =>
    obtain⟨str,l,n,h1,b1,b2,h2⟩:=hq
    refine⟨str,l,n,by rw[←hp x (.inl rfl)];exact h1,?_,?_,h2⟩
    ·cases lo with
     | none=>exact b1
     | some y=>simp only[Iq]at b1 ⊢;rw[←hp y (by simp)];exact b1
    ·cases hi with
     | none=>exact b2
     | some y=>simp only[Iq]at b2 ⊢;rw[←hp y (by simp)];exact b2
  all_goals first
    | exact hq
    | (rename_i x;rw[←hp x rfl];exact hq)
    | (rename_i x y;rw[←hp x (.inl rfl),←hp y (.inr rfl)];exact hq)
    | (rename_i x y z;rw[←hp x (.inl rfl),←hp y (.inr (.inl rfl)),←hp z (.inr (.inr rfl))];exact hq)
    | skip
structure CW(d:Oid)(h:Heap):Prop where
  heap:∀p ob,h p=some ob→p≠d∧d∉ob.refs
theorem Fresh.unsaid{d:Oid}{Γ:Env}{h:Heap}(hf:Fresh d Γ h):CW d h:=⟨hf.heap⟩
theorem R4{h:Heap}{d o:Oid}{ob:Ob}(hne:d≠o):(h.put d ob) o=h o:=by simp[Heap.put,Ne.symm hne]
theorem bfx{h:Heap}{d:Oid}{ob:Ob}{v:V}{n:Nat}(hv:d∉v.refs):rd (h.put d ob) v n=rd h v n:=by
  cases v with
  | c y=>cases y<;>simp only[rd]
         all_goals (simp only[V.refs,C.refs,ew]at hv;rw[R4 hv])
  | _=>rfl
theorem aQY{h:Heap}{d:Oid}{ob:Ob}{k:Nat}{v r:V}{n:Int}(hv:d∉v.refs):ixV (h.put d ob) k v n r=ixV h k v n r:=by
  cases v with
  | c y=>cases y<;>simp only[ixV]
         case slO=>simp only[V.refs,C.refs,ew]at hv;rw[R4 hv]
         case imm t=>cases t<;>rfl
  | _=>rfl
theorem a2Z{h:Heap}{d:Oid}{ob:Ob}{v:V}(hv:d∉v.refs):ayW (h.put d ob) v=ayW h v:=by
  cases v with
  | c y=>cases y<;>simp only[ayW]
         case slO=>simp only[V.refs,C.refs,ew]at hv;rw[R4 hv]
         case imm t=>cases t<;>rfl
  | _=>rfl
theorem aEX{h:Heap}{d:Oid}{ob:Ob}{kd:TypeDesc}{v:V}{es:List (Value×V)}(hv:d∉v.refs):azX (h.put d ob) kd v es=azX h kd v es:=by
  unfold azX
  split
  ·rfl
  ·rename_i o
   rw[R4 (fun e=>hv (by subst e;simp[V.refs,C.refs]))]
  ·rfl
theorem auJ{h:Heap}{d:Oid}{ob:Ob}{v:V}{n:Int}(hv:d∉v.refs):aqK (h.put d ob) v n=aqK h v n:=by
  unfold aqK
  split
  ·rfl
  ·rename_i o
   rw[R4 (fun e=>hv (by subst e;simp[V.refs,C.refs]))]
  ·rfl
theorem aCq{β:Type}{k:Value}{v:β}:∀ {es:List (Value×β)},L6 k es=some v→∃p∈es,p.2=v
  | [],h=>by simp[L6]at h
  | p::r,h=>by
    simp only[L6]at h
    split at h
    ·cases h;exact⟨p,by simp,rfl⟩
    ·obtain⟨q,h1,h2⟩:=aCq h;exact⟨q,by simp[h1],h2⟩
theorem aaz{P:Program}{h:Heap}{d:Oid}{ob:Ob}{e:Opd→V}{op:VO}{r:V}(hv:∀x∈op.opds,d∉(e x).refs):qP P (h.put d ob) e op r=qP P h e op r:=by
  cases op<;>simp only[VO.opds,iw,List.not_mem_nil,or_false]at hv<;>simp only[qP]
  case load n g x=>rw[bfx (hv x rfl)]
  case ixA k x i =>
    apply propext
    constructor
    ·rintro⟨n,h1,h2⟩;exact⟨n,h1,by rw[←aQY (h:=h) (ob:=ob) (hv x (.inl rfl))];exact h2⟩
    ·rintro⟨n,h1,h2⟩;exact⟨n,h1,by rw[aQY (h:=h) (ob:=ob) (hv x (.inl rfl))];exact h2⟩
  case lenS x=>rw[a2Z (hv x rfl)]
  case lenM x =>
    apply propext
    constructor
    ·rintro⟨n,h1,h2⟩;exact⟨n,by rw[←auJ (h:=h) (ob:=ob) (hv x rfl)];exact h1,h2⟩
    ·rintro⟨n,h1,h2⟩;exact⟨n,by rw[auJ (h:=h) (ob:=ob) (hv x rfl)];exact h1,h2⟩
  case look kd z ok x i =>
    apply propext
    constructor
    ·rintro⟨key,es,h1,h2,h3,h4⟩;exact⟨key,es,h1,h2,by rw[←aEX (h:=h) (ob:=ob) (hv x (.inl rfl))];exact h3,h4⟩
    ·rintro⟨key,es,h1,h2,h3,h4⟩;exact⟨key,es,h1,h2,by rw[aEX (h:=h) (ob:=ob) (hv x (.inl rfl))];exact h3,h4⟩
  case un op x=>cases op<;>rfl
theorem a3W{h:Heap}{d:Oid}{ob:Ob}{c:C}{t:T}(hv:d∉c.refs):subC.sub0 (h.put d ob) c t=subC.sub0 h c t:=by
  cases c<;>cases t<;>simp only[subC.sub0]
  simp only[C.refs,ew]at hv
  rw[R4 hv]
theorem V1{h:Heap}{d:Oid}{ob:Ob}:∀ {cs:List C} {ts:List T},(∀c∈cs,d∉c.refs)→subC.subCs0 (h.put d ob) cs ts=subC.subCs0 h cs ts
  | [],[],_=>by simp only[subC.subCs0]
  | [],_::_,_=>by simp only[subC.subCs0]
  | _::_,[],_=>by simp only[subC.subCs0]
  | c::cs,t::ts,hv=>by
    simp only[subC.subCs0]
    rw[a3W (hv c (by simp)),V1 fun c hc=>hv c (by simp[hc])]
theorem aAq{h:Heap}{d:Oid}{ob:Ob}{c c':C}(hv:d∉c.refs)(hh:CW d h):subC (h.put d ob) c c'=subC h c c':=by
  cases c<;>cases c'<;>simp only[subC]<;>try (rename_i t;cases t<;>rfl)
  case slO.imm o t =>
    cases t with
    | sc _=>rfl
    | sl k rows =>
      simp only[C.refs,ew]at hv
      show(∃e,h.put d ob o=some (Ob.arr e k rows))=(∃e,h o=some (Ob.arr e k rows))
      rw[R4 hv]
  case ptrO.ptrI o off ds =>
    simp only[C.refs,ew]at hv
    rw[R4 hv]
    apply propext
    constructor
    ·rintro⟨cs,h1,h2⟩
     have:=(hh.heap _ _ h1).2
     exact⟨cs,h1,by rw[←V1 (h:=h) (ob:=ob) (d:=d)];exact h2;intro c hc hm;exact this (by simp only[Ob.refs,nk];exact⟨c,List.mem_of_mem_drop hc,hm⟩)⟩
    ·rintro⟨cs,h1,h2⟩
     have:=(hh.heap _ _ h1).2
     exact⟨cs,h1,by rw[V1 (h:=h) (ob:=ob) (d:=d)];exact h2;intro c hc hm;exact this (by simp only[Ob.refs,nk];exact⟨c,List.mem_of_mem_drop hc,hm⟩)⟩
theorem asZ{h:Heap}{d:Oid}{ob:Ob}(hh:CW d h):∀ {cs ds:List C},(∀c∈cs,d∉c.refs)→RJ (h.put d ob) cs ds=RJ h cs ds
  | [],[],_=>by simp only[RJ]
  | [],_::_,_=>by simp only[RJ]
  | _::_,[],_=>by simp only[RJ]
  | c::cs,t::ts,hv=>by
    simp only[RJ]
    rw[aAq (hv c (by simp)) hh,asZ hh fun c hc=>hv c (by simp[hc])]
theorem aEK{h:Heap}{d:Oid}{ob:Ob}{x y:V}(hv:d∉x.refs)(hh:CW d h):aFj (h.put d ob) x y=aFj h x y:=by
  cases x<;>cases y<;>simp only[aFj]
  ·exact aAq hv hh
  ·exact asZ hh fun c hc hm=>hv (by simp only[V.refs,nk];exact⟨c,hc,hm⟩)
theorem arZ{h:Heap}{d:Oid}{ob:Ob}(hh:CW d h):∀ {xs ys:List V},(∀x∈xs,d∉x.refs)→H4 (h.put d ob) xs ys=H4 h xs ys
  | [],[],_=>by simp only[H4]
  | [],_::_,_=>by simp only[H4]
  | _::_,[],_=>by simp only[H4]
  | x::xs,y::ys,hv=>by
    simp only[H4]
    rw[aEK (hv x (by simp)) hh,arZ hh fun x hx=>hv x (by simp[hx])]
theorem aSz{P:Program}{f:FuncId}{vs:List V}{h:Heap}{d:Oid}{ob:Ob}{r:V}(hv:∀x∈vs,d∉x.refs)(hh:CW d h):aBW P f vs (h.put d ob) r=aBW P f vs h r:=by
  unfold aBW
  simp only[arZ hh hv]
theorem ZK{h:Heap}{d:Oid}{ob:Ob}(hh:CW d h):∀ {xs ys:List V},(∀x∈xs,d∉x.refs)→(J1 (h.put d ob) xs ys↔J1 h xs ys)
  | [],[],_=>Iff.rfl
  | [],_::_,_=>Iff.rfl
  | _::_,[],_=>Iff.rfl
  | x::xs,y::ys,hv=>by
    have ih:=ZK (ob:=ob) hh (xs:=xs) (ys:=ys) fun z hz=>hv z (List.mem_cons_of_mem _ hz)
    simp only[J1,bhX,aEK (hv x (by simp)) hh,ih]
theorem avq{h hin:Heap}{d:Oid}{ob:Ob}(hd:hin d=none):JQ (h.put d ob) hin=(JQ h hin).put d ob:=by
  funext o
  simp only[JQ,Heap.put]
  by_cases e:o=d
  ·subst e;simp[hd]
  ·simp only[e,gw]
theorem ayV{h hin:Heap}{d:Oid}(hh:CW d h):CW d (JQ h hin):=⟨fun p ob hp=>by
  unfold JQ at hp
  cases hi:hin p with
  | some _=>simp[hi]at hp
  | none=>simp only[hi]at hp;exact hh.heap p ob hp⟩
theorem aXx{P:Program}{f:FuncId}{vs:List V}{h:Heap}{d:Oid}{ob:Ob}{r:V}(hv:∀x∈vs,d∉x.refs)(hh:CW d h):aPK P f vs (h.put d ob) r↔aPK P f vs h r:=by
  have hu:=fun hin:Heap=>ayV (hin:=hin) hh
  constructor
  ·rintro⟨pins,us,hin,hF,h1,h2,h3⟩
   have hne:∀o ob1,hin o=some ob1→o≠d:=by
     rintro o ob1 ho rfl
     rcases(h1 _ _ ho).2.2.2 with⟨v,hvm,hm⟩ | ⟨p,ob',hp,hpd,hm⟩
     ·exact hv v hvm hm
     ·have:=(h1 p ob' hp).2.1
      simp only[Heap.put,hpd,gw]at this
      exact(hh.heap p ob' this).2 hm
   have hd:hin d=none:=by
     cases hx:hin d with
     | none=>rfl
     | some ob1=>exact absurd rfl (hne d ob1 hx)
   refine⟨pins,us,hin,hF,fun o ob1 ho=>?_,h2,?_⟩
   ·obtain⟨g1,g2,g3,g4⟩:=h1 o ob1 ho
    simp only[Heap.put,hne o ob1 ho,gw]at g2
    exact⟨g1,g2,g3,g4⟩
   ·rcases h3 with⟨g1,g2,g3⟩ | g
    ·refine .inl ⟨g1,g2,?_⟩
     rw[avq hd,ZK (hu hin) hv]at g3
     exact g3
    ·exact .inr g
  ·rintro⟨pins,us,hin,hF,h1,h2,h3⟩
   have hne:∀o ob1,hin o=some ob1→o≠d:=fun o ob1 ho=>(hh.heap o ob1 (h1 o ob1 ho).2.1).1
   have hd:hin d=none:=by
     cases hx:hin d with
     | none=>rfl
     | some ob1=>exact absurd rfl (hne d ob1 hx)
   refine⟨pins,us,hin,hF,fun o ob1 ho=>?_,h2,?_⟩
   ·obtain⟨g1,g2,g3,g4⟩:=h1 o ob1 ho
    exact⟨g1,by simp only[Heap.put,hne o ob1 ho,gw];exact g2,g3,g4⟩
   ·rcases h3 with⟨g1,g2,g3⟩ | g
    ·refine .inl ⟨g1,g2,?_⟩
     rw[avq hd,ZK (hu hin) hv]
     exact g3
    ·exact .inr g
theorem asz{P:Program}{f:FuncId}{vs:List V}{h:Heap}{d:Oid}{ob:Ob}{r:V}(hv:∀x∈vs,d∉x.refs)(hh:CW d h):NZ P f vs (h.put d ob) r=NZ P f vs h r:=by
  unfold NZ
  rw[aSz hv hh,propext (aXx hv hh)]
theorem aox{P:Program}{f:FuncId}{vs:List V}{h:Heap}{r:V}(hc:NZ P f vs h r):r.refs=[]:=by
  rcases hc with⟨_,_,_,_,hr,_⟩ | ⟨_,_,_,_,_,hr,_⟩<;>exact hr
theorem Wq{d:Oid}:∀ {cs cur:List C} {off:Nat},(∀c∈cur,d∉c.refs)→(∀c∈cs,d∉c.refs)→∀c∈setAt cur off cs,d∉c.refs
  | [],cur,off,h1,_=>h1
  | c::cs,cur,off,h1,h2=>by
    simp only[setAt]
    refine Wq (fun x hx=>?_) fun x hx=>h2 x (by simp[hx])
    rcases List.mem_or_eq_of_mem_set hx with hx | rfl
    ·exact h1 x hx
    ·exact h2 _ (by simp)
theorem VX{x:V}{cs:List C}{d:Oid}(h:kW x=some cs)(hx:d∉x.refs):∀c∈cs,d∉c.refs:=fun c hc hm=>hx (by
  cases x with
  | c y=>simp[kW]at h;subst h;simp at hc;subst hc;exact hm
  | agg ys=>simp[kW]at h;subst h;exact nk.2 ⟨c,hc,hm⟩
  | tup _=>simp[kW]at h
  | junk=>simp[kW]at h)
theorem aiV{e:Opd→V}{d:Oid}:∀(ps:List (Nat×Nat×Opd)) (cur zs:List C),(∀p∈ps,d∉(e p.2.2).refs)→(∀c∈cur,d∉c.refs)→IQ e cur ps=some zs→∀c∈zs,d∉c.refs
  | [],cur,zs,_,hc,hf=>by simp[IQ]at hf;subst hf;exact hc
  | (off,sz,x)::r,cur,zs,hp,hc,hf=>by
    simp only[IQ]at hf
    cases hcs:kW (e x)with
    | none=>simp[hcs]at hf
    | some cs =>
      simp only[hcs]at hf
      split at hf
      ·exact aiV r _ zs (fun p hm=>hp p (by simp[hm])) (Wq hc (VX hcs (hp (off,sz,x) (by simp)))) hf
      ·simp at hf
theorem ajK{g:Bool}{cs:List C}{d:Oid}(hc:∀c∈cs,d∉c.refs):d∉(mkV g cs).refs:=by
  unfold mkV
  split
  ·simp only[V.refs,nk,not_exists,not_and];exact hc
  ·simpa[V.refs]using hc
  ·simp[V.refs]
theorem a7K{h:Heap}{v:V}{n:Nat}{cs:List C}{d:Oid}(hr:rd h v n=some cs)(hh:CW d h):∀c∈cs,d∉c.refs:=by
  have imm:∀(l:List T),∀c∈l.map C.imm,d∉c.refs:=fun l c hc=>by
    obtain⟨t,_,rfl⟩:=List.mem_map.1 hc
    simp[C.refs]
  unfold rd at hr
  split at hr
  ·split at hr
   ·cases hr;exact imm _
   ·simp at hr
  ·split at hr
   ·rename_i bs d6
    split at hr
    ·cases hr
     intro c hc hm
     exact(hh.heap _ _ d6).2 (by simp only[Ob.refs,nk];exact⟨c,List.mem_of_mem_drop (List.mem_of_mem_take hc),hm⟩)
    ·simp at hr
   ·simp at hr
  ·split at hr
   ·split at hr
    ·simp only[ak]at hr
     obtain⟨row,_,hr⟩:=hr
     split at hr
     ·cases hr;exact imm _
     ·simp at hr
    ·simp at hr
   ·simp at hr
  ·simp at hr
theorem baJ{P:Program}{h:Heap}{d:Oid}{e:Opd→V}{op:VO}{r:V}(hq:qP P h e op r)(hpl:op.plain=true)(hv:∀x∈op.opds,d∉(e x).refs)(hh:CW d h):d∉r.refs:=by
  cases op<;>simp only[VO.opds,iw,List.not_mem_nil,or_false,List.mem_map]at hv<;>simp only[qP]at hq
  case mv x=>subst hq;exact hv x rfl
  case pick c x y=>obtain⟨t,_,rfl⟩:=hq;cases t<;>simp<;>first | exact hv y (by simp) | exact hv x (by simp)
  case build z ps =>
    obtain⟨cs,h1,rfl⟩:=hq
    simp only[VO.plain,cw,lw]at hpl
    have:=aiV (d:=d) ps z cs (fun p hm=>hv _ ⟨p,hm,rfl⟩) (fun c hc hm=>by have:=hpl.1 c hc;simp at this;rw[this]at hm;simp at hm) h1
    simp only[V.refs,nk,not_exists,not_and];exact this
  case load n g x=>obtain⟨cs,h1,rfl⟩:=hq;exact ajK (a7K h1 hh)
  case nilc x=>obtain⟨_,rfl⟩:=hq;exact hv x rfl
  case lenM x=>obtain⟨n,_,rfl⟩:=hq;simp[iV,V.refs,C.refs]
  case look kd z ok x i =>
    obtain⟨key,es,_,_,hm,rfl⟩:=hq
    simp only[VO.plain,cw,List.isEmpty_iff]at hpl
    have hz:d∉z.refs:=by rw[hpl.1.1];simp
    have tup1:∀(v:V) (b:Bool),d∉v.refs→d∉(V.tup [v,bV b]).refs:=by
      intro v b hv
      cases v<;>simp_all[V.refs,bV,C.refs]
    have hv:∀v,L6 key es=some v→d∉v.refs:=by
      intro v hg
      obtain⟨p,hp,rfl⟩:=aCq hg
      unfold azX at hm
      split at hm
      ·subst hm;simp at hp
      ·obtain⟨es0,_,rfl⟩:=hm
       obtain⟨q,_,rfl⟩:=List.mem_map.1 hp
       rw[MT.refs];simp
      ·exact hm.elim
    cases hg:L6 key es with
    | none=>cases ok<;>simp only[Lx,jw,ik,gw]<;>first | exact hz | exact tup1 _ _ hz
    | some v=>cases ok<;>simp only[Lx,jw,ik,gw]<;>first | exact hv v hg | exact tup1 _ _ (hv v hg)
  case fld off x =>
    have h0:=hv x rfl
    unfold azJ at hq
    split at hq
    ·cases hq;simp[V.refs,C.refs]
    ·rename_i heq;cases hq;rw[heq]at h0;exact h0
    ·rename_i heq;cases hq;rw[heq]at h0;exact h0
    ·simp at hq
  case ixAA n k x i =>
    obtain⟨j,_,_,_,hq⟩:=hq
    have h0:=hv x (by simp)
    unfold azJ at hq
    split at hq
    ·cases hq;simp[V.refs,C.refs]
    ·rename_i heq;cases hq;rw[heq]at h0;exact h0
    ·rename_i heq;cases hq;rw[heq]at h0;exact h0
    ·simp at hq
  case field off n g x =>
    obtain⟨cs,h1,_,rfl⟩:=hq
    refine ajK fun c hc hm=>hv x rfl ?_
    rw[h1];exact nk.2 ⟨c,List.mem_of_mem_drop (List.mem_of_mem_take hc),hm⟩
  case ixA k x i =>
    obtain⟨n,_,h2⟩:=hq
    have h0:=hv x (.inl rfl)
    unfold ixV at h2
    split at h2
    ·obtain⟨_,row,_,rfl⟩:=h2;simp[V.refs,C.refs]
    ·rename_i heq _;obtain⟨_,_,_,_,_,rfl⟩:=h2;rw[heq]at h0;exact h0
    ·exact h2.elim
  case ixS x i=>obtain⟨_,_,_,_,_,_,rfl⟩:=hq;simp[scV,V.refs,C.refs]
  case ixR n k g x i =>
    obtain⟨_,cs,j,h1,_,_,_,_,rfl⟩:=hq
    refine ajK fun c hc hm=>hv x (.inl rfl) ?_
    rw[h1];exact nk.2 ⟨c,List.mem_of_mem_drop (List.mem_of_mem_take hc),hm⟩
  case bin op x y =>
    unfold a4Y at hq
    split at hq
    ·simp only[aw]at hq;obtain⟨_,_,rfl⟩:=hq;simp[scV,V.refs,C.refs]
    ·simp at hq
  case beq ne x y=>obtain⟨_,_,_,_,rfl⟩:=hq;simp[bV,V.refs,C.refs]
  case peq ne x y=>obtain⟨_,_,rfl⟩:=hq;simp[bV,V.refs,C.refs]
  case meq ne x y=>obtain⟨_,_,rfl⟩:=hq;simp[bV,V.refs,C.refs]
  case aeq ne t x y=>obtain⟨_,_,_,_,_,_,_,_,_,rfl⟩:=hq;simp[bV,V.refs,C.refs]
  case un op x =>
    cases op<;>simp only at hq
    ·obtain⟨_,_,rfl⟩:=hq;simp[iV,V.refs,C.refs]
    ·obtain⟨_,_,rfl⟩:=hq;simp[bV,V.refs,C.refs]
  case cvi k x=>obtain⟨_,_,_,rfl⟩:=hq;simp[scV,V.refs,C.refs]
  case cvs x=>obtain⟨_,_,rfl⟩:=hq;exact hv x rfl
  case ext x i =>
    obtain⟨vs,h1,h2,h3⟩:=hq
    intro hm
    refine hv x rfl ?_
    rw[h1]
    simp only[V.refs]
    refine jx h2 ?_
    cases r with
    | c y=>exact hm
    | agg ys=>exact hm
    | tup ys=>simp[Bq]at h3
    | junk=>simp[V.refs]at hm
  case lenS x=>obtain⟨_,_,rfl⟩:=hq;simp[iV,V.refs,C.refs]
  case lenT x=>obtain⟨_,_,rfl⟩:=hq;simp[iV,V.refs,C.refs]
  case mm mx args =>
    unfold mmV at hq
    split at hq
    ·simp only[aw]at hq;obtain⟨_,_,rfl⟩:=hq;simp[scV,V.refs,C.refs]
    ·simp at hq
  case mkfn f caps =>
    obtain⟨cs,h1,rfl⟩:=hq
    simp only[V.refs,C.refs,nk,not_exists,not_and]
    have key:∀(xs:List V) (cs:List Cap),xs.mapM U4=some cs→(∀x∈xs,d∉x.refs)→∀c∈cs,d∉c.refs:=by
      intro xs
      induction xs with
      | nil=>intro cs h;simp at h;subst h;simp
      | cons x xs ih =>
        intro cs hm hx
        simp only[List.mapM_cons,Option.bind_eq_bind,Option.pure_def]at hm
        cases hc:U4 x with
        | none=>simp[hc]at hm
        | some c =>
          cases hr:xs.mapM U4 with
          | none=>simp[hc,hr]at hm
          | some r =>
            simp[hc,hr]at hm
            subst hm
            intro c' hc'
            rcases iw.1 hc' with rfl | hc'
            ·have h0:=hx x (by simp)
             unfold U4 at hc
             split at hc
             ·cases hc;exact h0
             ·cases hc;simp[Cap.refs]
             ·simp at hc
            ·exact ih r hr (fun x hm=>hx x (by simp[hm])) c' hc'
    refine key _ _ h1 fun x hx=>?_
    obtain⟨y,hy,rfl⟩:=List.mem_map.1 hx
    exact hv y hy
  case sub k x lo hi=>obtain⟨_,_,_,_,_,_,_,_,_,rfl⟩:=hq;simp[V.refs,C.refs]
  case subS x lo hi=>obtain⟨_,_,_,_,_,_,_,_,_,rfl⟩:=hq;simp[scV,V.refs,C.refs]
end Go.VM
namespace Go.VM
def CZ(P:Program)(dst:Option Nat)(op:VO)(Γ:Env)(h:Heap)(x:V)(h':Heap):Prop :=
 match op with
 | .call f args=>NZ P f (args.map (ev Γ)) h x∧h'=h
 | .callv q args=>(∃f caps,ev Γ q = .c (.fn f caps)∧OW P f=true∧NZ P f (args.map (ev Γ)++caps.map axQ) h x)∧h'=h
 | op=>if Dx op=true then eR (dst.getD 999,0) (ev Γ) h op x h' else qP P h (ev Γ) op x∧h'=h
def Pq(P:Program)(o:VOp)(Γ:Env)(h:Heap)(x:V)(h':Heap):Prop :=
 match o.guard with
 | none=>CZ P o.dst o.op Γ h x h'
 | some (t,b)=>(Γ t=bV b∧CZ P o.dst o.op Γ h x h')∨(Unw Γ t b∧x=Px∧h'=h)
section
variable {P:Program}
theorem aHW{Γ Γ':Env}{xs:List Opd}(h:∀t∈QQ xs,Γ t=Γ' t):∀x∈xs,ev Γ x=ev Γ' x:=by
 intro x hx
 cases x with
 | tmp t=>exact h t (by simp only[QQ,List.mem_filterMap];exact⟨_,hx,rfl⟩)
 | con _=>rfl
 | fn _=>rfl
theorem aXZ{d:Oid}{h:Heap}{e e':Opd→V}{op:VO}(hp:∀x∈op.opds,e x=e' x){r:V}{h':Heap}(hq:eR d e h op r h'):eR d e' h op r h':=by
 cases op<;>simp only[VO.opds,iw,List.not_mem_nil,or_false,List.mem_map]at hp<;>simp only[eR]at hq ⊢
 case alloc=>exact hq
 case box x y=>rw[←hp y rfl];exact hq
 case mksl _ _ _ _ l c=>rw[←hp l (.inl rfl),←hp c (.inr rfl)];exact hq
 case bsl t n len z ps =>
  obtain⟨cs,rows,h1,h2⟩:=hq
  exact⟨cs,rows,by rw[←SW (e:=e) ps _ fun p hm=>hp _ ⟨p,hm,rfl⟩];exact h1,h2⟩
 case store n y v=>rw[←hp y (.inl rfl),←hp v (.inr rfl)];exact hq
 case app t n b s y=>rw[←hp s (.inl rfl),←hp y (.inr rfl)];exact hq
 case mkmap=>exact hq
 case mupd kd m i v=>rw[←hp m (.inl rfl),←hp i (.inr (.inl rfl)),←hp v (.inr (.inr rfl))];exact hq
theorem ahK{dst:Option Nat}{op:VO}{Γ Γ':Env}{h h':Heap}{x:V}(hp:∀t∈QQ op.opds,Γ t=Γ' t)(ho:CZ P dst op Γ h x h'):CZ P dst op Γ' h x h':=by
 have ha:=aHW hp
 cases op
 case call f args =>
  simp only[CZ]at ho ⊢
  rw[←K5 (e:=ev Γ) (e':=ev Γ') (xs:=args) ha];exact ho
 case callv q args =>
  simp only[CZ]at ho ⊢
  obtain⟨⟨f,caps,h1,h2,h3⟩,h4⟩:=ho
  refine⟨⟨f,caps,by rw[←ha q (by simp[VO.opds])];exact h1,h2,?_⟩,h4⟩
  rw[←K5 (e:=ev Γ) (e':=ev Γ') (xs:=args) (fun y hy=>ha y (by simp[VO.opds,hy]))];exact h3
 all_goals
  simp only[CZ]at ho ⊢
  first
   | (simp only[Dx,jw]at ho ⊢;exact aXZ ha ho)
   | (simp only[Dx,ik,gw]at ho ⊢;exact⟨a2V ha ho.1,ho.2⟩)
theorem a9Y{h h0:Heap}{e:Opd→V}{op:VO}{r:V}(hc:cls op=0)(hq:qP P h e op r):qP P h0 e op r:=by
 cases op<;>first | (refine absurd hc ?_;simp[cls];done) | exact hq | (rename_i op x;cases op<;>exact hq)
theorem atK{dst:Option Nat}{op:VO}{Γ:Env}{h h' h0:Heap}{x:V}(hc:cls op=0)(ho:CZ P dst op Γ h x h'):h'=h∧CZ P dst op Γ h0 x h0:=by
 cases op<;>first
  | (refine absurd hc ?_;simp[cls];done)
  | (simp only[CZ,Dx,ik,gw]at ho ⊢;exact⟨ho.2,a9Y hc ho.1,trivial⟩)
theorem ZQ{dst:Option Nat}{op:VO}{Γ:Env}{h h':Heap}{x:V}(hc:cls op≤1)(ho:CZ P dst op Γ h x h'):h'=h:=by
 cases op<;>first
  | (refine absurd hc ?_;simp[cls];done)
  | (simp only[CZ,Dx,ik,gw]at ho;exact ho.2)
  | (simp only[CZ]at ho;exact ho.2)
theorem aGQ{dst:Option Nat}{op:VO}{Γ:Env}{h:Heap}{x:V}{d:Oid}{ob:Ob}(hc:cls op≤1)(hv:∀y∈op.opds,d∉(ev Γ y).refs)(hh:CW d h) :
  CZ P dst op Γ h x h↔CZ P dst op Γ (h.put d ob) x (h.put d ob):=by
 cases op
 case call f args =>
  simp only[CZ,and_true]
  rw[asz (h:=h) (ob:=ob) (fun y hy=>by obtain⟨z,hz,rfl⟩:=List.mem_map.1 hy;exact hv z hz) hh]
 case callv q args =>
  simp only[CZ,and_true]
  have key:∀f caps,ev Γ q = .c (.fn f caps)→(NZ P f (args.map (ev Γ)++caps.map axQ) (h.put d ob) x=NZ P f (args.map (ev Γ)++caps.map axQ) h x):=by
   intro f caps he
   refine asz (fun y hy=>?_) hh
   rcases jk.1 hy with hy | hy
   ·obtain⟨z,hz,rfl⟩:=List.mem_map.1 hy;exact hv z (by simp[VO.opds,hz])
   ·obtain⟨c,hc',rfl⟩:=List.mem_map.1 hy
    have h0:=hv q (by simp[VO.opds]);rw[he]at h0
    cases c with
    | ptr o=>intro hm;exact h0 (by simp only[axQ,V.refs,C.refs,ew]at hm ⊢;subst hm;exact nk.2 ⟨_,hc',by simp[Cap.refs]⟩)
    | imm t=>simp[axQ,V.refs,C.refs]
  constructor
  ·rintro⟨f,caps,h1,h2,h3⟩;exact⟨f,caps,h1,h2,by rw[key f caps h1];exact h3⟩
  ·rintro⟨f,caps,h1,h2,h3⟩;exact⟨f,caps,h1,h2,by rw[key f caps h1]at h3;exact h3⟩
 all_goals first
  | (refine absurd hc ?_;simp[cls];done)
  | (simp only[CZ,Dx,ik,gw,and_true];rw[aaz hv])
theorem amQ{dst:Option Nat}{op:VO}{Γ:Env}{h h':Heap}{x:V}(hc:cls op=2)(ho:CZ P dst op Γ h x h') :
  ∃ob,h'=h.put (dst.getD 999,0) ob∧∀h0,CZ P dst op Γ h0 x (h0.put (dst.getD 999,0) ob):=by
 cases op<;>try (refine absurd hc ?_;simp[cls];done)
 all_goals simp only[CZ,Dx,jw,eR]at ho ⊢
 case alloc=>obtain⟨rfl,rfl⟩:=ho;exact⟨_,rfl,fun h0=>⟨rfl,rfl⟩⟩
 case box=>obtain⟨cs,h1,rfl,rfl⟩:=ho;exact⟨_,rfl,fun h0=>⟨cs,h1,rfl,rfl⟩⟩
 case mksl=>obtain⟨m,zt,h1,h2,h3,h4,h5,h6,rfl,rfl⟩:=ho;exact⟨_,rfl,fun h0=>⟨m,zt,h1,h2,h3,h4,h5,h6,rfl,rfl⟩⟩
 case bsl=>obtain⟨cs,rows,h1,h2,h3,h4,rfl,rfl⟩:=ho;exact⟨_,rfl,fun h0=>⟨cs,rows,h1,h2,h3,h4,rfl,rfl⟩⟩
 case mkmap=>obtain⟨rfl,rfl⟩:=ho;exact⟨_,rfl,fun h0=>⟨rfl,rfl⟩⟩
theorem a2K{h:Heap}{d d':Oid}{ob ob':Ob}(hne:d≠d'):(h.put d ob).put d' ob'=(h.put d' ob').put d ob:=by
 funext p
 simp only[Heap.put]
 by_cases e:p=d
 ·subst e;simp[hne]
 ·by_cases e':p=d'
  ·subst e';simp[Ne.symm hne]
  ·simp[e,e']
theorem aXq{Γ:Env}{x y:Option Nat}{vx vy:V}(h:∀d,x=some d→y≠some d):putO x vx (putO y vy Γ)=putO y vy (putO x vx Γ):=by
 cases x with
 | none=>rfl
 | some d =>
  cases y with
  | none=>rfl
  | some d' =>
   have hne:d'≠d:=fun e=>h d rfl (by rw[e])
   funext u
   simp only[putO,Env.put]
   by_cases e:u=d
   ·subst e;simp[Ne.symm hne]
   ·simp[e]
theorem Q4{Γ:Env}{x:Option Nat}{v:V}{t:Nat}(h:x≠some t):(putO x v Γ) t=Γ t:=by
 cases x with
 | none=>rfl
 | some d =>
  have:t≠d:=fun e=>h (by rw[e])
  simp[putO,Env.put,this]
theorem Fresh.opd{d:Oid}{Γ:Env}{h:Heap}(hf:Fresh d Γ h){op:VO}(hp:op.plain=true):∀y∈op.opds,d∉(ev Γ y).refs:=by
 intro y hy
 cases y with
 | tmp t=>exact hf.env t
 | fn f=>simp[ev,V.refs,C.refs]
 | con x =>
  have:(Opd.con x).plain=true:=by
   cases op<;>simp only[VO.plain,VO.opds,cw,lw]at hp hy<;>first
    | exact hp _ hy
    | (simp only[iw,List.not_mem_nil,or_false]at hy;rcases hy with hy | hy<;>rw[hy]<;>first | exact hp.1.2 | exact hp.2)
    | (obtain⟨p,hpm,he⟩:=List.mem_map.1 hy;rw[←he];exact hp.2 p hpm)
    | (simp at hy)
    | (obtain⟨p,hpm,he⟩:=List.mem_map.1 hy;exact hp _ (List.mem_map.2 ⟨p,hpm,he⟩))
  simp only[Opd.plain,List.isEmpty_iff]at this
  simp[ev,this]
end
end Go.VM
namespace Go.VM
section
variable {P:Program}
def TJ(o:VOp)(Γ Γ':Env):Prop:=∀t b,o.guard=some (t,b)→Γ t=Γ' t
theorem Unw.congr{Γ Γ':Env}{t:Nat}{b:Bool}(h:Unw Γ t b)(e:Γ t=Γ' t):Unw Γ' t b:=by unfold Unw at h ⊢;rwa [←e]
theorem P0{o:VOp}{Γ:Env}{h h':Heap}{x:V}(ho:Pq P o Γ h x h') :
  (CZ P o.dst o.op Γ h x h'∧∀Γ' h0 h0',TJ o Γ Γ'→CZ P o.dst o.op Γ' h0 x h0'→Pq P o Γ' h0 x h0') ∨
  (x=Px∧h'=h∧∀Γ' h0,TJ o Γ Γ'→Pq P o Γ' h0 Px h0):=by
 unfold Pq at ho
 cases hg:o.guard with
 | none =>
  simp only[hg]at ho
  exact .inl ⟨ho,fun Γ' h0 h0' _ hr=>by unfold Pq;simp only[hg];exact hr⟩
 | some tb =>
  obtain⟨t,b⟩:=tb
  simp only[hg]at ho
  rcases ho with⟨hc,hr⟩ | ⟨hu,rfl,rfl⟩
  ·exact .inl ⟨hr,fun Γ' h0 h0' hs hr=>by unfold Pq;simp only[hg];exact .inl ⟨by rw[←hs t b hg];exact hc,hr⟩⟩
  ·exact .inr ⟨rfl,rfl,fun Γ' h0 hs=>by unfold Pq;simp only[hg];exact .inr ⟨hu.congr (hs t b hg),trivial,trivial⟩⟩
theorem O7{o:VOp}{t:Nat}(h:t∈QQ o.op.opds):t∈o.reads:=by simp[VOp.reads,h]
theorem abZ{o:VOp}{t:Nat}{b:Bool}(h:o.guard=some (t,b)):t∈o.reads:=by simp[VOp.reads,h]
def FootP(op:VO)(Γ:Env):Option O8→Prop
 | none=>True
 | some f=>(akz op=true→∀y∈op.opds,∀o∈(ev Γ y).refs,o∈f.1)∧(aCZ op=true→∀y∈op.opds,∀o∈(ev Γ y).refs,o∈f.2)
theorem FootP.congr{op:VO}{Γ Γ':Env}{f:Option O8}(h:FootP op Γ f)(hp:∀t∈QQ op.opds,Γ t=Γ' t):FootP op Γ' f:=by
 cases f with
 | none=>trivial
 | some f =>
  have ha:=aHW hp
  exact⟨fun hr y hy=>by rw[←ha y hy];exact h.1 hr y hy,fun hr y hy=>by rw[←ha y hy];exact h.2 hr y hy⟩
structure asx(x y:VOp)(fx fy:Option O8):Prop where
 xy:∀d,x.dst=some d→d∉y.reads∧y.dst≠some d
 yx:∀d,y.dst=some d→d∉x.reads
 cl:cls x.op=0∨cls y.op=0∨(cls x.op≤2∧cls y.op≤2) ∨
  ∃gx gy,fx=some gx∧fy=some gy∧((aCZ x.op=true∧akz y.op=true∧∀o∈gx.2,o∉gy.1)∨(akz x.op=true∧aCZ y.op=true∧∀o∈gy.2,o∉gx.1))
 px:x.op.plain=true
 py:y.op.plain=true
 dx:cls x.op=2→∃d,x.dst=some d
 dy:cls y.op=2→∃d,y.dst=some d
theorem bhj{a b:Oid}:a4q a b=true↔a=b:=by
 obtain⟨a1,a2⟩:=a
 obtain⟨b1,b2⟩:=b
 simp[a4q]
theorem Z9:∀ {a b:List Oid},a2x a b=true→∀o∈a,o∉b
 | [],_,_,o,ho=>by simp at ho
 | q::r,b,h,o,ho=>by
  simp only[a2x,cw,lw,mw]at h
  rcases iw.1 ho with rfl | ho
  ·intro hm
   have:=h.1 o hm
   rw[bhj.2 rfl]at this;simp at this
  ·exact Z9 h.2 o ho
theorem aMq{x y:VOp}{fx fy:Option O8}(h:aIK x y fx fy=true):asx x y fx fy:=by
 simp only[aIK,cw,Bool.or_eq_true,beq_iff_eq,bne_iff_ne,ne_eq,decide_eq_true_eq]at h
 obtain⟨⟨⟨⟨⟨⟨h1,h2⟩,h3⟩,h4⟩,h5⟩,h6⟩,h7⟩:=h
 refine⟨fun d hd=>?_,fun d hd=>?_,?_,h4,h5,fun hc=>?_,fun hc=>?_⟩
 ·simp only[hd,cw,mw,bne_iff_ne,ne_eq]at h1
  exact⟨by have:=h1.1;simpa using this,h1.2⟩
 ·simp only[hd,mw]at h2
  simpa using h2
 ·rcases h3 with ((h3 | h3) | h3) | h3
  ·exact .inl h3
  ·exact .inr (.inl h3)
  ·exact .inr (.inr (.inl h3))
  ·refine .inr (.inr (.inr ?_))
   cases fx with
   | none=>simp at h3
   | some gx=>cases fy with
    | none=>simp at h3
    | some gy =>
     simp only[Bool.or_eq_true,cw]at h3
     refine⟨gx,gy,rfl,rfl,?_⟩
     rcases h3 with⟨⟨g1,g2⟩,g3⟩ | ⟨⟨g1,g2⟩,g3⟩
     ·exact .inl ⟨g1,g2,Z9 g3⟩
     ·exact .inr ⟨g1,g2,Z9 g3⟩
 ·cases hd:x.dst with
  | none=>simp[hd,hc]at h6
  | some d=>exact⟨d,rfl⟩
 ·cases hd:y.dst with
  | none=>simp[hd,hc]at h7
  | some d=>exact⟨d,rfl⟩
theorem a9Z{h:Heap}{d:Oid}{ob:Ob}{e:Opd→V}{op:VO}{r:V}(hd:h d=some ob)(hv:∀x∈op.opds,d∉(e x).refs):qP P (h.drop d) e op r=qP P h e op r:=by
 have e1:(h.drop d).put d ob=h:=by
  funext p
  simp only[Heap.put,Heap.drop]
  by_cases hp:p=d
  ·subst hp;simp[hd]
  ·simp[hp]
 have:=aaz (P:=P) (h:=h.drop d) (d:=d) (ob:=ob) (e:=e) (op:=op) (r:=r) hv
 rw[e1]at this
 exact this.symm
theorem bcz{h h':Heap}{v:V}{cs:List C}(hw:wr h v cs h'):∃o ob,o∈v.refs∧h'=h.put o ob:=by
 unfold wr at hw
 split at hw
 ·obtain⟨bs,_,_,rfl⟩:=hw;exact⟨_,_,by simp[V.refs,C.refs],rfl⟩
 ·obtain⟨_,rows,row,ts,_,_,_,_,rfl⟩:=hw;exact⟨_,_,by simp[V.refs,C.refs],rfl⟩
 ·exact hw.elim
theorem aPj{dst:Option Nat}{op:VO}{Γ:Env}{h h':Heap}{x:V}(hr:akz op=true)(ho:CZ P dst op Γ h x h'):qP P h (ev Γ) op x∧h'=h:=by
 cases op<;>first
  | (refine absurd hr ?_;simp[akz];done)
  | (simpa only[CZ,Dx,ik,gw]using ho)
theorem aOx{dst:Option Nat}{op:VO}{Γ:Env}{h:Heap}{x:V}(hr:akz op=true)(hq:qP P h (ev Γ) op x):CZ P dst op Γ h x h:=by
 cases op<;>first
  | (refine absurd hr ?_;simp[akz];done)
  | (simp only[CZ,Dx,ik,gw];exact⟨hq,trivial⟩)
theorem ajZ{x y:VOp}{Γ:Env}{h h1:Heap}{vx vy:V}{gx gy:O8}(hx:aCZ x.op=true)(hy:akz y.op=true)(hdis:∀o∈gx.2,o∉gy.1)(hfx:J2 x.op=true→Fresh (x.dst.getD 999,0) Γ h)(hpy:y.op.plain=true)
  (fx:FootP x.op Γ (some gx)) (fy:FootP y.op Γ (some gy)) (ho:CZ P x.dst x.op Γ h vx h1):qP P h1 (ev Γ) y.op vy↔qP P h (ev Γ) y.op vy:=by
 have hin:=fx.2 hx
 have hout:=fy.1 hy
 have ne:∀v∈x.op.opds,∀o∈(ev Γ v).refs,∀z∈y.op.opds,o∉(ev Γ z).refs:=fun v hv o ho z hz hm=>hdis o (hin v hv o ho) (hout z hz o hm)
 revert ho ne hfx
 generalize hop:x.op=op at hx
 intro hfx ho ne
 cases op<;>try (refine absurd hx ?_;simp[aCZ];done)
 case store n a b =>
  simp only[CZ,Dx,jw,eR]at ho
  obtain⟨cs,_,_,hw,_⟩:=ho
  obtain⟨o,ob,ho,rfl⟩:=bcz hw
  rw[aaz fun z hz=>ne a (by simp[VO.opds]) o ho z hz]
 case mupd kd m i v =>
  simp only[CZ,Dx,jw,eR]at ho
  obtain⟨o,es,key,y0,h1,_,_,_,_,_,rfl⟩:=ho
  rw[aaz fun z hz=>ne m (by simp[VO.opds]) o (by rw[h1];simp[V.refs,C.refs]) z hz]
 case app t k b s y' =>
  simp only[CZ,Dx,jw,eR]at ho
  have hf:=hfx (by rfl)
  obtain⟨new,_,⟨_,_,_,_,rfl⟩ | ⟨o,rows,h1,h2,_,_,_,rfl⟩⟩:=ho
  ·rw[aaz (hf.opd hpy)]
  ·rw[aaz (hf.opd hpy),a9Z h2 fun z hz=>ne s (by simp[VO.opds]) o (by rw[h1];simp[V.refs,C.refs]) z hz]
theorem W7{op:VO}(h:cls op=2):J2 op=true:=by
 cases op<;>first | rfl | (simp[cls]at h;done)
theorem bkY{x y:VOp}{fx fy:Option O8}(hi:asx x y fx fy){Γ:Env}{h h1 h2:Heap}{vx vy:V}(hfx:J2 x.op=true→Fresh (x.dst.getD 999,0) Γ h)(hfy:J2 y.op=true→Fresh (y.dst.getD 999,0) Γ h)
  (hgx:FootP x.op Γ fx) (hgy:FootP y.op (putO x.dst vx Γ) fy) (ho1:Pq P x Γ h vx h1) (ho2:Pq P y (putO x.dst vx Γ) h1 vy h2) :
  ∃h1',Pq P y Γ h vy h1'∧Pq P x (putO y.dst vy Γ) h1' vx h2:=by
 have yx0:∀t∈y.reads,(putO x.dst vx Γ) t=Γ t:=fun t ht=>Q4 fun e=>(hi.xy t e).1 ht
 have xy0:∀t∈x.reads,Γ t=(putO y.dst vy Γ) t:=fun t ht=>(Q4 fun e=>hi.yx t e ht).symm
 have gy:TJ y (putO x.dst vx Γ) Γ:=fun t b hg=>yx0 t (abZ hg)
 have gx:TJ x Γ (putO y.dst vy Γ):=fun t b hg=>xy0 t (abZ hg)
 have cy:∀ {h0 h0':Heap},CZ P y.dst y.op (putO x.dst vx Γ) h0 vy h0'→CZ P y.dst y.op Γ h0 vy h0':=fun hr=>ahK (fun t ht=>yx0 t (O7 ht)) hr
 have cx:∀ {h0 h0':Heap},CZ P x.dst x.op Γ h0 vx h0'→CZ P x.dst x.op (putO y.dst vy Γ) h0 vx h0':=fun hr=>ahK (fun t ht=>xy0 t (O7 ht)) hr
 rcases P0 ho1 with⟨rx,bx⟩ | ⟨rfl,rfl,bx⟩
 ·rcases P0 ho2 with⟨ry,by'⟩ | ⟨rfl,rfl,by'⟩
  ·have ry:=cy ry
   rcases hi.cl with h0 | h0 | ⟨hx2,hy2⟩ | ⟨gx',gy',ex,ey,⟨w1,w2,w3⟩ | ⟨w1,w2,w3⟩⟩
   ·obtain⟨rfl,rx2⟩:=atK (h0:=h2) h0 rx
    exact⟨h2,by' Γ _ _ gy ry,bx _ _ _ gx (cx rx2)⟩
   ·obtain⟨rfl,ry2⟩:=atK (h0:=h) h0 ry
    exact⟨h,by' Γ _ _ gy ry2,bx _ _ _ gx (cx rx)⟩
   ·by_cases hx1:cls x.op≤1
    ·have e1:=ZQ hx1 rx
     subst e1
     by_cases hy1:cls y.op≤1
     ·have e2:=ZQ hy1 ry
      subst e2
      exact⟨_,by' Γ _ _ gy ry,bx _ _ _ gx (cx rx)⟩
     ·obtain⟨ob,rfl,rn⟩:=amQ (by omega) ry
      have hf:=hfy (W7 (by omega))
      refine⟨_,by' Γ _ _ gy (rn _),bx _ _ _ gx (cx ?_)⟩
      exact(aGQ hx1 (hf.opd hi.px) hf.unsaid).1 rx
    ·obtain⟨ob,rfl,rn⟩:=amQ (by omega) rx
     have hf:=hfx (W7 (by omega))
     by_cases hy1:cls y.op≤1
     ·have e2:=ZQ hy1 ry
      subst e2
      refine⟨h,by' Γ _ _ gy ?_,bx _ _ _ gx (cx (rn h))⟩
      exact(aGQ hy1 (hf.opd hi.py) hf.unsaid).2 ry
     ·obtain⟨ob',rfl,rn'⟩:=amQ (by omega) ry
      obtain⟨dx,hdx⟩:=hi.dx (by omega)
      obtain⟨dy,hdy⟩:=hi.dy (by omega)
      have hne:dx≠dy:=fun e=>(hi.xy dx hdx).2 (by rw[hdy,e])
      refine⟨_,by' Γ _ _ gy (rn' h),bx _ _ _ gx ?_⟩
      rw[a2K (by simp[hdx,hdy,hne])]
      exact cx (rn _)
   ·have hgy':FootP y.op Γ fy:=hgy.congr fun t ht=>yx0 t (O7 ht)
    obtain⟨hq,rfl⟩:=aPj w2 ry
    have hq':=(ajZ w1 w2 w3 hfx hi.py (ex▸hgx) (ey▸hgy') rx).1 hq
    exact⟨h,by' Γ _ _ gy (aOx w2 hq'),bx _ _ _ gx (cx rx)⟩
   ·have hgy':FootP y.op Γ fy:=hgy.congr fun t ht=>yx0 t (O7 ht)
    obtain⟨hq,rfl⟩:=aPj w1 rx
    have hq':=(ajZ w2 w1 w3 hfy hi.px (ey▸hgy') (ex▸hgx) ry).2 hq
    exact⟨h2,by' Γ _ _ gy ry,bx _ _ _ gx (cx (aOx w1 hq'))⟩
  ·exact⟨h,by' Γ h gy,bx _ _ _ gx (cx rx)⟩
 ·rcases P0 ho2 with⟨ry,by'⟩ | ⟨rfl,rfl,by'⟩
  ·exact⟨h2,by' Γ _ _ gy (cy ry),bx _ h2 gx⟩
  ·exact⟨_,by' Γ _ gy,bx _ _ gx⟩
theorem a2z{x y:VOp}{fx fy:Option O8}(hi:asx x y fx fy){Γ:Env}{vx vy:V}:putO x.dst vx (putO y.dst vy Γ)=putO y.dst vy (putO x.dst vx Γ) :=
 aXq fun d hd=>(hi.xy d hd).2
abbrev FOp:=VOp×Option O8
def aVj(P:Program):List FOp→Env→Heap→(Env→Heap→Prop)→Prop
 | [],Γ,h,k=>k Γ h
 | o::os,Γ,h,k=>∃x h',Pq P o.1 Γ h x h'∧FootP o.1.op Γ o.2∧aVj P os (putO o.1.dst x Γ) h' k
def vq(P:Program):List FOp→Env→Heap→(Env→Heap→Prop)→Prop
 | [],Γ,h,k=>k Γ h
 | o::os,Γ,h,k=>FootP o.1.op Γ o.2∧AQ o.1.guard Γ (l6 P o.1.dst o.1.op Γ h fun Γ' h'=>vq P os Γ' h' k) (vq P os (putO o.1.dst Px Γ) h k)
def anQ(os:List VOp):List FOp:=os.map fun o=>(o,none)
theorem abY{o:VOp}{Γ:Env}{h:Heap}{k:Env→Heap→Prop}(hp:l6 P o.dst o.op Γ h k):∃x h',CZ P o.dst o.op Γ h x h'∧k (putO o.dst x Γ) h':=by
 revert hp
 generalize o.op=op
 intro hp
 cases op
 case call f args=>obtain⟨r,h1,h2⟩:=hp;exact⟨r,h,⟨h1,rfl⟩,h2⟩
 case callv q args=>obtain⟨f,caps,h1,h2,r,h3,h4⟩:=hp;exact⟨r,h,⟨⟨f,caps,h1,h2,h3⟩,rfl⟩,h4⟩
 all_goals first
  | (obtain⟨_,x,h',h1,h2⟩:=hp;exact⟨x,h',h1,h2⟩)
  | (obtain⟨r,h1,h2⟩:=hp;exact⟨r,h,⟨h1,rfl⟩,h2⟩)
theorem I3:∀ {os:List FOp} {Γ:Env} {h:Heap} {k:Env→Heap→Prop},vq P os Γ h k→aVj P os Γ h k
 | [],_,_,_,hp=>hp
 | o::os,Γ,h,k,hp=>by
  simp only[vq]at hp
  obtain⟨hft,hp⟩:=hp
  simp only[aVj]
  cases hg:o.1.guard with
  | none =>
   simp only[AQ,hg]at hp
   obtain⟨x,h',h1,h2⟩:=abY hp
   exact⟨x,h',by unfold Pq;simp only[hg];exact h1,hft,I3 h2⟩
  | some tb =>
   obtain⟨t,b⟩:=tb
   simp only[AQ,hg]at hp
   rcases hp with⟨hc,hy⟩ | ⟨hu,hn⟩
   ·obtain⟨x,h',h1,h2⟩:=abY hy
    exact⟨x,h',by unfold Pq;simp only[hg];exact .inl ⟨hc,h1⟩,hft,I3 h2⟩
   ·exact⟨Px,h,by unfold Pq;simp only[hg];exact .inr ⟨hu,trivial,trivial⟩,hft,I3 hn⟩
theorem QZ:∀ {os:List VOp} {Γ:Env} {h:Heap} {k:Env→Heap→Prop},H1 P os Γ h k→vq P (anQ os) Γ h k
 | [],_,_,_,hp=>hp
 | o::os,Γ,h,k,hp=>by
  simp only[H1]at hp
  simp only[anQ,List.map_cons,vq]
  refine⟨trivial,?_⟩
  have e:(fun Γ' h'=>vq P (os.map fun o=>(o,none)) Γ' h' k)=fun Γ' h'=>vq P (anQ os) Γ' h' k:=rfl
  cases hg:o.guard with
  | none =>
   simp only[AQ,hg]at hp ⊢
   exact L0 hp fun Γ' h'=>QZ
  | some tb =>
   obtain⟨t,b⟩:=tb
   simp only[AQ,hg]at hp ⊢
   rcases hp with⟨hc,hy⟩ | ⟨hu,hn⟩
   ·exact .inl ⟨hc,L0 hy fun Γ' h'=>QZ⟩
   ·exact .inr ⟨hu,QZ hn⟩
where
 L0 {dst:Option Nat} {op:VO} {Γ:Env} {h:Heap} {k k':Env→Heap→Prop} (hp:l6 P dst op Γ h k) (hk:∀Γ h,k Γ h→k' Γ h):l6 P dst op Γ h k':=by
  cases op
  case call f args=>obtain⟨r,h1,h2⟩:=hp;exact⟨r,h1,hk _ _ h2⟩
  case callv q args=>obtain⟨f,caps,h1,h2,r,h3,h4⟩:=hp;exact⟨f,caps,h1,h2,r,h3,hk _ _ h4⟩
  all_goals first
   | (obtain⟨h0,x,h',h1,h2⟩:=hp;exact⟨h0,x,h',h1,hk _ _ h2⟩)
   | (obtain⟨r,h1,h2⟩:=hp;exact⟨r,h1,hk _ _ h2⟩)
def FreshAll(os:List VOp)(Γ:Env)(h:Heap):Prop:=∀o∈os,J2 o.op=true→Fresh (o.dst.getD 999,0) Γ h
theorem bbz{d d':Oid}{e:Opd→V}{h h':Heap}{op:VO}{x:V}(hr:eR d' e h op x h')(hpl:op.plain=true)(hne:d≠d')(hv:∀y∈op.opds,d∉(e y).refs)(hh:CW d h):d∉x.refs∧CW d h':=by
 have sl:d∉(V.c (C.slO d')).refs:=by simp[V.refs,C.refs,hne]
 have pt:d∉(V.c (C.ptrO d' 0)).refs:=by simp[V.refs,C.refs,hne]
 have pu:∀ {h0:Heap} {q:Oid} {ob:Ob},CW d h0→q≠d→d∉ob.refs→CW d (h0.put q ob):=fun {h0 q ob} hu hq ho=>⟨fun p ob' hp=>by
  simp only[Heap.put]at hp
  split at hp
  ·rename_i e;subst e;cases hp;exact⟨hq,ho⟩
  ·exact hu.heap p ob' hp⟩
 cases op<;>simp only[VO.opds,iw,List.not_mem_nil,or_false,List.mem_map]at hv<;>simp only[eR]at hr
 case alloc t z =>
  obtain⟨rfl,rfl⟩:=hr
  refine⟨pt,pu hh (Ne.symm hne) ?_⟩
  simp only[VO.plain,lw]at hpl
  simp only[Ob.refs,nk,not_exists,not_and]
  intro c hc hm
  have:=hpl c hc
  simp at this;rw[this]at hm;simp at hm
 case box t y =>
  obtain⟨cs,h1,rfl,rfl⟩:=hr
  refine⟨pt,pu hh (Ne.symm hne) ?_⟩
  simp only[Ob.refs,nk,not_exists,not_and]
  exact VX h1 (hv y rfl)
 case mksl=>obtain⟨m,zt,_,_,_,_,_,_,rfl,rfl⟩:=hr;exact⟨sl,pu hh (Ne.symm hne) (by simp[Ob.refs])⟩
 case bsl=>obtain⟨cs,rows,_,_,_,_,rfl,rfl⟩:=hr;exact⟨sl,pu hh (Ne.symm hne) (by simp[Ob.refs])⟩
 case store n y v =>
  obtain⟨cs,h1,_,h3,rfl⟩:=hr
  refine⟨by simp[V.refs],?_⟩
  have hcs:=VX h1 (hv v (.inr rfl))
  have hy:=hv y (.inl rfl)
  unfold wr at h3
  split at h3
  ·rename_i heq _
   obtain⟨bs,g1,_,rfl⟩:=h3
   rw[heq]at hy
   have hb:=hh.heap _ _ g1
   refine pu hh hb.1 ?_
   simp only[Ob.refs,nk,not_exists,not_and]at hb ⊢
   exact Wq hb.2 hcs
  ·obtain⟨_,rows,row,ts,g1,_,_,_,rfl⟩:=h3
   exact pu hh (hh.heap _ _ g1).1 (by simp[Ob.refs])
  ·exact h3.elim
 case app t n b s y =>
  obtain⟨new,_,⟨_,_,_,rfl,rfl⟩ | ⟨o,rows,_,_,_,_,rfl,rfl⟩⟩:=hr
  ·exact⟨sl,pu hh (Ne.symm hne) (by simp[Ob.refs])⟩
  ·refine⟨sl,pu ⟨fun p ob hp=>?_⟩ (Ne.symm hne) (by simp[Ob.refs])⟩
   simp only[Heap.drop]at hp
   split at hp
   ·simp at hp
   ·exact hh.heap p ob hp
 case mkmap=>obtain⟨rfl,rfl⟩:=hr;exact⟨by simp[V.refs,C.refs,hne],pu hh (Ne.symm hne) (by simp[Ob.refs])⟩
 case mupd kd m i v =>
  obtain⟨o,es,key,y,_,h2,_,_,_,rfl,rfl⟩:=hr
  exact⟨by simp[V.refs],pu hh (hh.heap _ _ h2).1 (by simp[Ob.refs])⟩
theorem aIY{o:VOp}{Γ:Env}{h h':Heap}{x:V}{d:Oid}(hf:Fresh d Γ h)(hpl:o.op.plain=true)(hne:Dx o.op=true→d≠(o.dst.getD 999,0))(ho:Pq P o Γ h x h'):Fresh d (putO o.dst x Γ) h':=by
 have fin:∀ {h0:Heap},d∉x.refs→CW d h0→Fresh d (putO o.dst x Γ) h0:=fun {h0} hx hu=>⟨fun t=>by
  cases o.dst with
  | none=>exact hf.env t
  | some u =>
   simp only[putO,Env.put]
   split
   ·exact hx
   ·exact hf.env t,hu.heap⟩
 rcases P0 ho with⟨hr,_⟩ | ⟨rfl,rfl,_⟩
 ·have hv:=hf.opd hpl
  revert hr hne hv hpl
  generalize o.op=op
  intro hpl hne hr hv
  cases op
  case call f args =>
   obtain⟨hcall,rfl⟩:=hr
   exact fin (by rw[aox hcall];simp) hf.unsaid
  case callv q args =>
   obtain⟨⟨f,caps,_,_,hcall⟩,rfl⟩:=hr
   exact fin (by rw[aox hcall];simp) hf.unsaid
  all_goals first
   | (obtain⟨hq,rfl⟩:=hr;exact fin (baJ hq hpl hv hf.unsaid) hf.unsaid)
   | (simp only[CZ,Dx,jw]at hr;have:=bbz (d:=d) hr hpl (hne rfl) hv hf.unsaid;exact fin this.1 this.2)
 ·exact fin (by simp[Px,V.refs]) hf.unsaid
theorem apx{x y:VOp}(h:EK x y=true)(hx:Dx x.op=true)(hy:J2 y.op=true):(y.dst.getD 999,0)≠((x.dst.getD 999,0):Oid):=by
 simp[EK,hx,hy]at h
 intro e
 exact h (by simpa using(Prod.mk.inj e).1.symm)
theorem FreshAll.step{o:VOp}{os:List VOp}{Γ:Env}{h h':Heap}{x:V}(hf:FreshAll os Γ h)(hpl:o.op.plain=true)(hap:∀y∈os,EK o y=true)(ho:Pq P o Γ h x h'):FreshAll os (putO o.dst x Γ) h' :=
 fun y hy hn=>aIY (hf y hy hn) hpl (fun he=>apx (hap y hy) he hn) ho
theorem auW{i:FOp}{C:List FOp}{k:Env→Heap→Prop}:∀(A:List FOp) (Γ:Env) (h:Heap),(∀a∈A,asx a.1 i.1 a.2 i.2) →
  (∀a∈A,EK a.1 i.1=true)→FreshAll ((A++[i]).map (·.1)) Γ h→(A.Pairwise fun a b=>EK a.1 b.1=true)→aVj P (A++i::C) Γ h k→∃x h',Pq P i.1 Γ h x h'∧FootP i.1.op Γ i.2∧aVj P (A++C) (putO i.1.dst x Γ) h' k
 | [],Γ,h,_,_,_,_,hr=>hr
 | a::A,Γ,h,hi,hai,hf,hpw,hr=>by
  obtain⟨va,h1,ho,hfa,hr⟩:=hr
  have hia:=hi a (by simp)
  rw[List.pairwise_cons]at hpw
  have hf1:FreshAll ((A++[i]).map (·.1)) (putO a.1.dst va Γ) h1:=by
   refine FreshAll.step (fun y hy => hf y (by simp at hy ⊢;rcases hy with hy | hy<;>simp[hy])) hia.px (fun y hy => ?_) ho
   obtain⟨z,hz,rfl⟩:=List.mem_map.1 hy
   rcases jk.1 hz with hz | hz
   ·exact hpw.1 z hz
   ·simp at hz;subst hz;exact hai a (by simp)
  obtain⟨x,h2,ho2,hf2,hr2⟩:=auW A (putO a.1.dst va Γ) h1 (fun b hb=>hi b (by simp[hb])) (fun b hb=>hai b (by simp[hb])) hf1 hpw.2 hr
  obtain⟨h1',g1,g2⟩:=bkY hia (hf a.1 (by simp)) (hf i.1 (by simp)) hfa hf2 ho ho2
  refine⟨x,h1',g1,hf2.congr fun t ht=>Q4 fun e=>(hia.xy t e).1 (O7 ht),va,h2,g2,hfa.congr fun t ht=>(Q4 fun e=>hia.yx t e (O7 ht)).symm,?_⟩
  rw[a2z hia]
  exact hr2
end
end Go.VM
namespace Go.VM
section
variable {P:Program} {K:Ctx}
theorem azV{o:VOp}{Γ:Env}{h h':Heap}{x:V}(hf:J2 o.op=true→Fresh (o.dst.getD 999,0) Γ h)(ho:CZ P o.dst o.op Γ h x h') :
  l6 P o.dst o.op Γ h fun Γ' h''=>Γ'=putO o.dst x Γ∧h''=h':=by
 revert ho hf
 generalize o.op=op
 intro hf ho
 cases op
 case call f args=>obtain⟨h1,rfl⟩:=ho;exact⟨x,h1,rfl,rfl⟩
 case callv q args=>obtain⟨⟨f,caps,h1,h2,h3⟩,rfl⟩:=ho;exact⟨f,caps,h1,h2,x,h3,rfl,rfl⟩
 all_goals first
  | (exact⟨hf,x,h',ho,rfl,rfl⟩)
  | (obtain⟨h1,rfl⟩:=ho;exact⟨x,h1,rfl,rfl⟩)
theorem aqV{o:VOp}{Γ:Env}{h h':Heap}{x:V}(ho:Pq P o Γ h x h'):AQ o.guard Γ (CZ P o.dst o.op Γ h x h') (x=Px∧h'=h):=by
 unfold Pq at ho
 cases hg:o.guard with
 | none=>simp only[hg]at ho;simp only[AQ];exact ho
 | some tb =>
  obtain⟨t,b⟩:=tb
  simp only[hg]at ho
  simp only[AQ]
  exact ho
def rest(n:Nat)(listed:Array Bool):List Nat:=(List.range n).filter fun i=>!listed.getD i true
theorem amJ{n i:Nat}{listed:Array Bool}(hs:n≤listed.size)(hi:i<n)(hl:listed.getD i true=false) :
  ∃A C,rest n listed=A++i::C∧rest n (listed.setIfInBounds i true)=A++C∧(∀a∈A,a<i∧listed.getD a true=false)∧(∀c∈C,i<c∧c<n):=by
 have hr:List.range n=List.range i++i::(List.range' (i+1) (n-i-1)):=by
  apply List.ext_getElem?
  intro j
  simp only[List.getElem?_append,List.length_range]
  by_cases h1:j<i
  ·have h2:j<n:=by omega
   simp[h1,h2]
  ·by_cases h2:j=i
   ·subst h2;simp[hi]
   ·obtain⟨m,hm⟩ : ∃m,j-i=m+1:=⟨j-i-1,by omega⟩
    simp only[h1,gw,hm,List.getElem?_cons_succ]
    by_cases h4:j<n
    ·rw[List.getElem?_range h4,List.getElem?_range' (by omega)]
     simp;omega
    ·rw[List.getElem?_eq_none (by simp;omega),List.getElem?_eq_none (by simp;omega)]
 have hg:∀j,(listed.setIfInBounds i true).getD j true=if j=i then true else listed.getD j true:=by
  intro j
  simp only[Array.getD_eq_getD_getElem?,Array.getElem?_setIfInBounds]
  by_cases e:i=j
  ·subst e;have:i<listed.size:=by omega
   simp[this]
  ·have e' : ¬j=i:=fun x=>e x.symm
   simp only[e,e',gw]
 refine⟨(List.range i).filter fun j=>!listed.getD j true,(List.range' (i+1) (n-i-1)).filter fun j=>!listed.getD j true,?_,?_,?_,?_⟩
 ·unfold rest
  rw[hr,List.filter_append,List.filter_cons]
  simp[hl]
 ·unfold rest
  rw[hr,List.filter_append,List.filter_cons]
  have e0:(!(listed.setIfInBounds i true).getD i true)=false:=by rw[hg];simp
  rw[e0]
  simp only[ik,gw]
  congr 1
  ·apply List.filter_congr
   intro j hj
   rw[hg]
   have:j≠i:=by have:=List.mem_range.1 hj;omega
   simp[this]
  ·apply List.filter_congr
   intro j hj
   rw[hg]
   have:j≠i:=by have:=List.mem_range'.1 hj;omega
   simp[this]
 ·intro a ha
  simp only[List.mem_filter,List.mem_range,mw]at ha
  exact ha
 ·intro c hc
  simp only[List.mem_filter,List.mem_range']at hc
  obtain⟨⟨j,h1,h2⟩,_⟩:=hc
  omega
structure W8(ops:Array Oper)(vl:List VOp)(fs:List (Option O8)):Prop where
 len:vl.length=ops.size
 edge:∀i,i<ops.size→∀e∈(ops.getD i default).after.toList,Region.binds .any e=true→e.on<i
 table:∀i,i<ops.size→∀a,a<ops.size→((Region.before ops).getD i 0).testBit a=true→∃e∈(ops.getD i default).after.toList,Region.binds .any e=true∧(a=e.on∨((Region.before ops).getD e.on 0).testBit a=true)
 pair:∀i,i<ops.size→∀a,a<i→(((Region.before ops).getD i 0).testBit a=true∨asx (vl.getD a default) (vl.getD i default) (fs.getD a none) (fs.getD i none))∧EK (vl.getD a default) (vl.getD i default)=true∧EK (vl.getD i default) (vl.getD a default)=true
 plain:∀o∈vl,o.op.plain=true
theorem baX{ops:Array Oper}{i:Nat}(hi:i<ops.size):(LZ ops).getD i 0=(Region.before ops).getD i 0:=by
 unfold LZ
 simp only[List.getD]
 rw[List.getElem?_append_left (by simpa using hi)]
 simp[hi]
theorem awK{ops:Array Oper}{vl:List VOp}{fs:List (Option O8)}(h:W9 ops vl=true)(h':T7 (LZ ops) vl fs=true):W8 ops vl fs:=by
 simp only[W9,cw,decide_eq_true_eq,lw,List.mem_range,Bool.or_eq_true,mw,List.any_eq_true,beq_iff_eq]at h
 simp only[T7,cw,lw,List.mem_range,Bool.or_eq_true]at h'
 obtain⟨⟨⟨h1,h2⟩,h3⟩,h5⟩:=h
 refine⟨h1,fun i hi e he hb=>?_,fun i hi a ha hb=>?_,fun i hi a ha=>?_,h5⟩
 ·rcases h2 i hi e he with h | h
  ·rw[hb]at h;simp at h
  ·exact h
 ·rcases h3 i hi a ha with h | h
  ·rw[hb]at h;simp at h
  ·obtain⟨e,he,h6,h7⟩:=h;exact⟨e,he,h6,h7⟩
 ·obtain⟨⟨g1,g2⟩,g3⟩:=h' i (by omega) a ha
  rw[baX (by omega)]at g1
  exact⟨g1.imp id aMq,g2,g3⟩
theorem awQ{n:Nat}{ops:Array Oper}:∀ {l:List Oper} {vl:List VOp},l.mapM (tY P n ops)=some vl→∀(i:Nat) o,l[i]? = some o→∃vo,vl[i]? = some vo∧tY P n ops o=some vo
 | [],vl,hm,i,o,hi=>by simp at hi
 | x::l,vl,hm,i,o,hi=>by
  simp only[List.mapM_cons,Option.bind_eq_bind,Option.pure_def]at hm
  cases hx:tY P n ops x with
  | none=>simp[hx]at hm
  | some vo =>
   cases hr:l.mapM (tY P n ops)with
   | none=>simp[hx,hr]at hm
   | some r =>
    simp[hx,hr]at hm
    subst hm
    cases i with
    | zero=>simp at hi;subst hi;exact⟨vo,rfl,hx⟩
    | succ i=>simpa using awQ hr i o (by simpa using hi)
theorem ZX{n:Nat}(hK:K.ntmps=n)(hn:n≤1000){ops:Array Oper}{vl:List VOp}{fs:List (Option O8)}(hm:ops.toList.mapM (tY P n ops)=some vl)(hok:W8 ops vl fs){Q:Exit→Act→World→Prop}{k:Env→Heap→Prop}
  (hk:∀Γ' h' a' w',k Γ' h'→St K Γ' h' a' w'→Q .normal a' w') :
  ∀(fuel:Nat) (listed:Array Bool) (Γ:Env) (h:Heap) (a:Act) (w:World),listed.size=ops.size→(rest ops.size listed).length≤fuel →
   (∀j,j<ops.size→listed.getD j true=true→∀b,b<ops.size→((Region.before ops).getD j 0).testBit b=true→listed.getD b true=true) →
   St K Γ h a w→aVj P ((rest ops.size listed).map fun i=>(vl.getD i default,fs.getD i none)) Γ h k→FreshAll ((rest ops.size listed).map fun i=>vl.getD i default) Γ h→wpAny P .any ops Q fuel listed a w:=by
 have ready_of:∀(listed:Array Bool) i,i∈Region.ready .any ops listed↔i<ops.size∧listed.getD i true=false∧∀e∈(ops.getD i default).after.toList,Region.binds .any e=true→listed.getD e.on false=true:=by
  intro listed i
  simp only[Region.ready,List.mem_filter,List.mem_range,cw,mw]
  constructor
  ·rintro⟨h1,h2,h3⟩
   refine⟨h1,h2,fun e he hb=>?_⟩
   simp only[Array.getElem?_eq_getElem h1,Option.map_some,Option.getD_some,Array.all_eq_true']at h3
   have:=h3 e (by simpa[Array.getD,h1]using he)
   simpa[hb]using this
  ·rintro⟨h1,h2,h3⟩
   refine⟨h1,h2,?_⟩
   simp only[Array.getElem?_eq_getElem h1,Option.map_some,Option.getD_some,Array.all_eq_true']
   intro e he
   by_cases hb:Region.binds .any e=true
   ·have:=h3 e (by simpa[Array.getD,h1]using he) hb
    simp[this]
   ·simp[hb]
 have done_of:∀(listed:Array Bool),listed.size=ops.size→Region.ready .any ops listed=[]→rest ops.size listed=[]:=by
  intro listed hs hr
  have all:∀j,j<ops.size→listed.getD j true=true:=by
   intro j
   induction j using Nat.strongRecOn with
   | _ j ih =>
    intro hj
    cases hb:listed.getD j true with
    | true=>rfl
    | false =>
     exfalso
     have hready:j∈Region.ready .any ops listed:=by
      rw[ready_of]
      refine⟨hj,hb,fun e he hbe=>?_⟩
      have hlt:=hok.edge j hj e he hbe
      have:=ih e.on hlt (by omega)
      have hsz:e.on<listed.size:=by omega
      simpa[Array.getD,hsz]using this
     rw[hr]at hready
     simp at hready
  unfold rest
  rw[List.filter_eq_nil_iff]
  intro j hj
  simp[all j (List.mem_range.1 hj)]
 intro fuel
 induction fuel with
 | zero =>
  intro listed Γ h a w hs hf hcl st hr hfr
  have hnil:rest ops.size listed=[]:=dk (by omega)
  rw[hnil]at hr
  refine⟨?_,hk _ _ _ _ hr st⟩
  cases hrd:Region.ready .any ops listed with
  | nil=>rfl
  | cons i r =>
   exfalso
   have hi:i∈Region.ready .any ops listed:=by rw[hrd];simp
   rw[ready_of]at hi
   have:i∈rest ops.size listed:=by simp only[rest,List.mem_filter,List.mem_range,hi.2.1];simp[hi.1]
   rw[hnil]at this;simp at this
 | succ fuel ih =>
  intro listed Γ h a w hs hf hcl st hr hfr
  refine⟨fun hrd=>?_,fun i hi=>?_⟩
  ·rw[done_of listed hs hrd]at hr
   exact hk _ _ _ _ hr st
  ·rw[ready_of]at hi
   obtain⟨hil,hiu,hie⟩:=hi
   obtain⟨A,C,h1,h2,h3,h4⟩:=amJ (by omega) hil hiu
   have htest:∀b,b<ops.size→((Region.before ops).getD i 0).testBit b=true→listed.getD b true=true:=by
    intro b hb ht
    obtain⟨e,he,hbe,hor⟩:=hok.table i hil b hb ht
    have hlist:=hie e he hbe
    have hon:e.on<ops.size:=by have:=hok.edge i hil e he hbe;omega
    have hon':listed.getD e.on true=true:=by
     have hsz:e.on<listed.size:=by omega
     simpa[Array.getD,hsz]using hlist
    rcases hor with rfl | hor
    ·exact hon'
    ·exact hcl e.on hon hon' b hb hor
   have hind:∀b∈A,asx (vl.getD b default) (vl.getD i default) (fs.getD b none) (fs.getD i none):=by
    intro b hb
    have hb':=h3 b hb
    rcases(hok.pair i hil b hb'.1).1 with ht | hx
    ·have:=htest b (by omega) ht
     rw[hb'.2]at this;simp at this
    ·exact hx
   rw[h1]at hr hfr
   simp only[List.map_append,List.map_cons]at hr hfr
   have hpw:(A.map fun i=>vl.getD i default).Pairwise fun a b=>EK a b=true:=by
    rw[List.pairwise_map]
    have hsub:A.Pairwise (· < ·):=by
     have hall:(rest ops.size listed).Pairwise (· < ·):=List.Pairwise.filter _ (by rw[List.range_eq_range'];exact List.pairwise_lt_range')
     rw[h1,List.pairwise_append]at hall
     exact hall.1
    refine hsub.imp_of_mem fun {x y} hx hy hlt=>?_
    have:=h3 y hy
    exact(hok.pair y (by omega) x hlt).2.1
   have hpw2:(A.map fun i=>(vl.getD i default,fs.getD i none)).Pairwise fun a b=>EK a.1 b.1=true:=by
    rw[List.pairwise_map]at hpw ⊢
    exact hpw
   obtain⟨x,h',ho,_,hr'⟩:=auW (A.map fun i=>(vl.getD i default,fs.getD i none)) Γ h (fun b hb=>by obtain⟨j,hj,rfl⟩:=List.mem_map.1 hb;exact hind j hj)
    (fun b hb=>by obtain⟨j,hj,rfl⟩:=List.mem_map.1 hb;exact(hok.pair i hil j (h3 j hj).1).2.1)
    (fun y hy=>hfr y (by
     obtain⟨z,hz,rfl⟩:=List.mem_map.1 hy
     rcases jk.1 hz with hz | hz
     ·obtain⟨q,hq,rfl⟩:=List.mem_map.1 hz
      exact jk.2 (.inl (List.mem_map.2 ⟨q,hq,rfl⟩))
     ·rw[ew.1 hz];exact jk.2 (.inr (by simp)))) hpw2 hr
   have hoi:ops[i]? = some ops[i]:=Array.getElem?_eq_getElem hil
   obtain⟨vo,hvo,hco⟩:=awQ hm i ops[i] (by simp)
   have hvl:vl.getD i default=vo:=by simp[List.getD,hvo]
   simp only[hvl]at ho hr'
   have hfi:J2 vo.op=true→Fresh (vo.dst.getD 999,0) Γ h:=by
    intro hn'
    have:=hfr (vl.getD i default) (by simp) (by rw[hvl];exact hn')
    rwa [hvl]at this
   have hpl:vo.op.plain=true:=hok.plain vo (ek hvo)
   obtain⟨hdst,hop,hd,hg⟩:=acK st hco
   have next:∀a' w',St K (putO vo.dst x Γ) h' a' w'→wpAny P .any ops Q fuel (listed.setIfInBounds i true) a' w':=by
    intro a' w' st'
    have hsz:(listed.setIfInBounds i true).size=ops.size:=by simpa using hs
    have hgd:∀j,(listed.setIfInBounds i true).getD j true=if j=i then true else listed.getD j true:=by
     intro j
     simp only[Array.getD_eq_getD_getElem?,Array.getElem?_setIfInBounds]
     by_cases e:i=j
     ·subst e;simp[hs,hil]
     ·have e' : ¬j=i:=fun x=>e x.symm
      simp only[e,e',gw]
    refine ih _ _ _ a' w' hsz ?_ ?_ st' ?_ ?_
    ·rw[h2];rw[h1]at hf;simp at hf ⊢;omega
    ·intro j hj hl b hb ht
     rw[hgd]at hl ⊢
     by_cases ebi:b=i
     ·simp[ebi]
     ·simp only[ebi,gw]
      by_cases eji:j=i
      ·subst eji;exact htest b hb ht
      ·simp only[eji,gw]at hl;exact hcl j hj hl b hb ht
    ·rw[h2];simpa using hr'
    ·rw[h2]
     have hfAC:FreshAll ((A++C).map fun i=>vl.getD i default) Γ h:=fun y hy hn'=>hfr y (by
      rw[List.map_append]at hy
      rcases jk.1 hy with hy | hy
      ·exact jk.2 (.inl hy)
      ·exact jk.2 (.inr (List.mem_cons_of_mem _ hy))) hn'
     refine FreshAll.step hfAC hpl (fun y hy=>?_) ho
     obtain⟨j,hj,rfl⟩:=List.mem_map.1 hy
     rw[←hvl]
     rcases jk.1 hj with hj | hj
     ·exact(hok.pair i hil j (h3 j hj).1).2.2
     ·have:=h4 j hj
      exact(hok.pair j this.2 i this.1).2.1
   unfold wpOp
   rw[hoi]
   simp only
   rcases hg (aqV ho)with⟨hw,hy⟩ | ⟨hw,hx,hh⟩
   ·simp only[hw,jw]
    left
    have hst:=azV (P:=P) hfi hy
    rw[hdst]at hst
    exact Mq st hop (by omega) (fun d he=>by rw[hK];exact hd d he) hst fun Γ' h'' a' w' hkk st'=>by
     obtain⟨rfl,rfl⟩:=hkk
     exact next a' w' (by rw[hdst];exact st')
   ·simp only[hw,ik,gw]
    subst hx;subst hh
    refine next _ _ ?_
    rw[hdst]
    obtain⟨B,s⟩:=st
    exact St.putO s (fun d he=>by rw[hK];exact hd d he) (show RepV w _ B undef Px from⟨#[],rfl,Pt.nil⟩)
end
end Go.VM
namespace Go.VM
section
variable {P:Program} {n:Nat} {I:Option (List Oid)} {Q:Exit→Env→Heap→Prop} {Γ:Env} {h:Heap}
theorem akK{α:Type}[Inhabited α](l:List α):(List.range l.length).map (fun i=>l.getD i default)=l:=by
 apply List.ext_getElem?
 intro i
 simp only[List.getElem?_map,List.getD_eq_getElem?_getD]
 by_cases hi:i<l.length
 ·rw[List.getElem?_range hi]
  simp[hi]
 ·rw[List.getElem?_eq_none (by simp;omega),List.getElem?_eq_none (by omega)]
  rfl
theorem aaX(n:Nat):rest n (Array.replicate n false)=List.range n:=by
 unfold rest
 rw[List.filter_eq_self]
 intro i hi
 have hi:=List.mem_range.1 hi
 simp[Array.getD,hi]
theorem aUK{os:List VOp}{fs:List (Option O8)}(hl:fs.length=os.length):(List.range os.length).map (fun i=>(os.getD i default,fs.getD i none))=os.zip fs:=by
 apply List.ext_getElem?
 intro i
 simp only[List.getElem?_map,List.getD_eq_getElem?_getD]
 by_cases hi:i<os.length
 ·rw[List.getElem?_range hi]
  have hi':i<fs.length:=by omega
  simp[List.zip,List.getElem?_zipWith,hi,hi']
 ·rw[List.getElem?_eq_none (by simp;omega),List.getElem?_eq_none (by simp;omega)]
  rfl
theorem U1{bs:List Nat}{ops:List VOp}(fs:List (Option O8))(hn:n≤1000)(hl:fs.length=ops.length)(hp:T7 bs ops fs=true)(hf:FreshAll ops Γ h)(hq:vq P (ops.zip fs) Γ h fun Γ' h'=>Q .normal Γ' h'):W P n I (.region (some bs) ops) Q Γ h:=by
 intro c hc K hK a w s
 obtain⟨id,ops',b,rfl,hvl,_,hord⟩:=Jz hc
 obtain⟨rfl,rfl,hoo,hmx⟩:=hord bs rfl
 have hok:=awK (fs:=fs) hoo hp
 refine wp_region_any hmx ?_
 have e1:(rest ops'.size (Array.replicate ops'.size false)).map (fun i=>(ops.getD i default,fs.getD i none))=ops.zip fs:=by
  rw[aaX,←hok.len,aUK hl]
 have e2:(rest ops'.size (Array.replicate ops'.size false)).map (fun i=>ops.getD i default)=ops:=by
  rw[aaX,←hok.len,akK]
 refine ZX (k:=fun Γ' h'=>Q .normal Γ' h') hK.1 hn hvl hok (fun Γ' h' a' w' hk s'=>⟨Γ',h',hk,s'⟩) ops'.size _ Γ h a _ (by simp) ?_ ?_ ?_ (by rw[e1];exact I3 hq) (by rw[e2];exact hf)
 ·rw[aaX];simp
 ·intro j hj hl
  simp[Array.getD,hj]at hl
 ·obtain⟨B,s⟩:=s
  exact⟨B,s.grow (Fr.drew w _)⟩
theorem avW:∀(os:List VOp) (fs:List (Option O8)),fs=List.replicate os.length none→os.zip fs=anQ os
 | [],fs,h=>by subst h;rfl
 | o::os,fs,h=>by
  subst h
  simp only[fk,List.replicate_succ,List.zip_cons_cons,anQ,List.map_cons]
  rw[avW os _ rfl];rfl
theorem aqX{bs:List Nat}{ops:List VOp}(hn:n≤1000)(hp:T7 bs ops (List.replicate ops.length none)=true)(hf:FreshAll ops Γ h)(hq:H1 P ops Γ h fun Γ' h'=>Q .normal Γ' h'):W P n I (.region (some bs) ops) Q Γ h :=
 U1 (List.replicate ops.length none) hn (by simp) hp hf (by rw[avW ops _ rfl];exact QZ hq)
end
end Go.VM
namespace Go.VM
def alQ(σ:Oid→Oid):Cap→Cap
 | .ptr o=>.ptr (σ o)
 | .imm t=>.imm t
def R2(σ:Oid→Oid):C→C
 | .slO o=>.slO (σ o)
 | .ptrO o off=>.ptrO (σ o) off
 | .elO o k i off=>.elO (σ o) k i off
 | .mapO o=>.mapO (σ o)
 | .fn f caps=>.fn f (caps.map (alQ σ))
 | .imm t=>.imm t
 | .nilS=>.nilS
 | .nilM=>.nilM
 | .ptrI cells=>.ptrI cells
 | .junk=>.junk
def axV(σ:Oid→Oid):V→V
 | .c x=>.c (R2 σ x)
 | .agg cs=>.agg (cs.map (R2 σ))
 | .tup vs=>.tup vs
 | .junk=>.junk
def G5(σ:Oid→Oid):V→V
 | .tup vs=>.tup (vs.map (axV σ))
 | x=>axV σ x
def F4(σ:Oid→Oid):Ob→Ob
 | .arr e k rows=>.arr e k rows
 | .box cs=>.box (cs.map (R2 σ))
 | .map kd es=>.map kd es
 | .mapC kd es=>.mapC kd (es.map fun p=>(p.1,R2 σ p.2))
 | .arrC e k rows=>.arrC e k (rows.map fun r=>r.map (R2 σ))
 | .fam G=>.fam G
section
variable {w:World} {ok:Nat→Prop} {B:Oid→Value} {σ:Oid→Oid}
theorem Pt.map{α β γ:Type}{R:α→β→Prop}{R':α→γ→Prop}{f:β→γ}{cs:List α}{xs:List β}(h:Pt R cs xs)(hr:∀v x,R v x→R' v (f x)):Pt R' cs (xs.map f) :=
 ⟨by simp[h.1],fun j v x hv hx=>by
  simp only[List.getElem?_map,aw]at hx
  obtain⟨y,hy,rfl⟩:=hx
  exact hr v y (h.2 j v y hv hy)⟩
theorem RepC.ren(hσ:∀o,σ (σ o)=o){v:Value}{x:C}(h:RepC w ok B v x):RepC w ok (fun o=>B (σ o)) v (R2 σ x):=by
 cases h with
 | imm v t h=>exact .imm v t h
 | nilS=>exact .nilS
 | nilM=>exact .nilM
 | slO o a len cap h=>exact .slO _ a len cap (by simp only[hσ];exact h)
 | ptrO o off b h=>exact .ptrO _ off b (by simp only[hσ];exact h)
 | elO o k i off b len cap h=>exact .elO _ k i off b len cap (by simp only[hσ];exact h)
 | mapO o r h=>exact .mapO _ r (by simp only[hσ];exact h)
 | ptrI b off cells h=>exact .ptrI b off cells h
 | fn f cs caps h=>exact .fn f cs _ (h.map fun v x hr=>by
   cases hr with
   | ptr o b h=>exact .ptr _ b (by simp only[hσ];exact h)
   | imm v t h=>exact .imm v t h)
 | junk v h=>exact .junk v h
theorem RepS.ren(hσ:∀o,σ (σ o)=o){v:Value}{x:V}(h:RepS w ok B v x):RepS w ok (fun o=>B (σ o)) v (axV σ x):=by
 cases x with
 | c x=>exact RepC.ren hσ h
 | agg xs=>obtain⟨cs,rfl,hp⟩:=h;exact⟨cs,rfl,hp.map fun v x hr=>hr.ren hσ⟩
 | tup _=>exact h.elim
 | junk=>trivial
theorem RepV.ren(hσ:∀o,σ (σ o)=o){v:Value}{x:V}(h:RepV w ok B v x):RepV w ok (fun o=>B (σ o)) v (G5 σ x):=by
 cases x with
 | c x=>exact RepC.ren hσ h
 | agg xs=>exact RepS.ren (x:=.agg xs) hσ h
 | junk=>trivial
 | tup xs =>
  obtain⟨vs,rfl,hp⟩:=h
  exact⟨vs,rfl,hp.map fun v x hr=>hr.ren hσ⟩
theorem ObR.ren(hσ:∀o,σ (σ o)=o){v:Value}{x:Ob}(h:ObR w ok B v x):ObR w ok (fun o=>B (σ o)) v (F4 σ x):=by
 cases x with
 | arr e k rows=>exact h
 | box cs =>
  obtain⟨b,c,t,rfl,hh,hp⟩:=h
  exact⟨b,c,t,rfl,hh,hp.map fun v x hr=>hr.ren hσ⟩
 | map kd es =>
  obtain⟨b,es',clock,rfl,hh,hc,hs,he⟩:=h
  refine⟨b,es',clock,rfl,hh,hc,hs,fun i e p hi hp=>?_⟩
  obtain⟨h1,h2,h3,h4⟩:=he i e p hi hp
  exact⟨h1,h2,h3,h4.mono (fun _ _=>rfl) (fun _ h=>h) fun o hm=>by rw[MT.refs]at hm;simp at hm⟩
 | mapC kd es =>
  obtain⟨b,es',clock,rfl,hh,hc,hs,he⟩:=h
  refine⟨b,es',clock,rfl,hh,by simpa using hc,by simpa using hs,fun i e p hi hp=>?_⟩
  rw[List.getElem?_map,aw]at hp
  obtain⟨q,hq,rfl⟩:=hp
  obtain⟨h1,h2,h3,h4⟩:=he i e q hi hq
  exact⟨h1,h2,h3,h4.ren hσ⟩
 | arrC e k rows =>
  obtain⟨h0,hk,cs,hown,hp⟩:=h
  refine⟨h0,fun row hr=>?_,cs,by simpa using hown,?_⟩
  ·obtain⟨r,h1,rfl⟩:=List.mem_map.1 hr
   simpa using hk r h1
  ·rw[←List.map_flatten];exact hp.map fun v x hr=>hr.ren hσ
 | fam G=>exact h.elim
end
section
variable {n:Nat} {I:Option (List Oid)} {Γ Γ':Env} {h h':Heap}
theorem Sim.ren(σ:Oid→Oid)(hσ:∀o,σ (σ o)=o)(hfix:∀o,1000≤o.1→σ o=o):Sim n I Γ h (fun t=>G5 σ (Γ t)) (fun o=>(h (σ o)).map (F4 σ)):=by
 rintro K hK a w ⟨B,s⟩
 have hok:∀b,wj K.w0.heap.size K.ok0 w B h b↔wj K.w0.heap.size K.ok0 w (fun o=>B (σ o)) (fun o=>(h (σ o)).map (F4 σ)) b:=by
  intro b
  unfold wj
  refine and_congr_right fun _=>and_congr_right fun _=>⟨fun hx o ob ho=>?_,fun hx o ob ho=>?_⟩
  ·simp only[aw]at ho
   obtain⟨ob',ho',_⟩:=ho
   exact hx (σ o) ob' ho'
  ·have:=hx (σ o) (F4 σ ob) (by simp[hσ,ho])
   simpa[hσ]using this
 have hmk:∀b,wj K.w0.heap.size K.ok0 w B h b→wj K.w0.heap.size K.ok0 w (fun o=>B (σ o)) (fun o=>(h (σ o)).map (F4 σ)) b:=fun b=>(hok b).1
 refine⟨fun o=>B (σ o),fun t=>?_,⟨fun o ob ho=>?_,fun o o' ob ob' b ho ho' hb hb'=>?_⟩,s.defers,s.size,s.fr,fun o ob b ho hb hlt=>?_,fun o ho=>?_⟩
 ·exact((s.slots t).mono (fun _ _=>rfl) hmk fun _ _=>rfl).ren hσ
 ·simp only[aw]at ho
  obtain⟨ob',ho',rfl⟩:=ho
  exact((s.objs.rep (σ o) ob' ho').mono (fun _ _=>rfl) hmk (fun _ _=>rfl) fun _ _=>rfl).ren hσ
 ·simp only[aw]at ho ho'
  obtain⟨ob1,ho1,_⟩:=ho
  obtain⟨ob2,ho2,_⟩:=ho'
  have:=s.objs.apart (σ o) (σ o') ob1 ob2 b ho1 ho2 hb hb'
  have h2:=congrArg σ this
  simpa[hσ]using h2
 ·simp only[aw]at ho
  obtain⟨ob',ho',_⟩:=ho
  exact s.own (σ o) ob' b ho' hb hlt
 ·obtain⟨h1,h2⟩:=s.pin o ho
  exact⟨h1,by simp only[hfix o h1];exact h2⟩
theorem StB.reslot{K:Ctx}{B:Oid→Value}{a:Act}{w:World}(s:StB K B Γ h a w){t:Nat}{x:V}(hx:RepV w (wj K.w0.heap.size K.ok0 w B h) B (a.tmps.getD t undef) x):StB K B (Γ.put t x) h a w:=by
 refine⟨fun u=>?_,s.objs,s.defers,s.size,s.fr,s.own,s.pin⟩
 unfold Env.put
 by_cases e:u=t
 ·subst e;simp only[jw];exact hx
 ·simp only[e,gw];exact s.slots u
theorem Sim.own{t:Nat}{o:Oid}(e k:Nat)(ht:Γ t = .c .nilS)(hk:0<k)(hf:Fresh o Γ h)(ho:o.1<1000):Sim n I Γ h (Γ.put t (.c (.slO o))) (h.put o (.arr e k [])):=by
 rintro K hK a w ⟨B,s⟩
 obtain⟨B',hBo,hB,hok,s'⟩:=s.new o (.arr e k []) (.slice none 0 0) (w':=w) hf (Lq s ho) (Fr.refl _ _) (fun b hb=>by simp[lj]at hb)
  (fun B' hB hBo hok=>⟨hk,by simp,[],⟨by simp,.inl ⟨rfl,rfl⟩⟩,Pt.nil⟩)
 refine⟨B',s'.reslot ?_⟩
 have hv:=s.slots t
 rw[ht]at hv
 generalize hgv:a.tmps.getD t undef=v at hv
 have hv2:v = .slice none 0 0:=by
  have:RepC w (wj K.w0.heap.size K.ok0 w B h) B v .nilS:=hv
  cases this;rfl
 rw[hv2]
 exact RepC.slO o none 0 0 hBo
end
end Go.VM
namespace Go.VM
section
variable {n:Nat} {I:Option (List Oid)} {Γ Γ':Env} {h h':Heap} {K:Ctx} {B:Oid→Value} {a:Act} {w:World}
theorem aZV{p:Oid}{ob ob':Ob}(hp:h p=some ob)(b:Nat):wj K.w0.heap.size K.ok0 w B h b↔wj K.w0.heap.size K.ok0 w B (h.put p ob') b:=by
 unfold wj
 refine and_congr_right fun _=>and_congr_right fun _=>⟨fun hx o ob1 ho=>?_,fun hx o ob1 ho=>?_⟩
 ·by_cases e:o=p
  ·subst e;exact hx _ ob hp
  ·simp only[Heap.put,e,gw]at ho;exact hx o ob1 ho
 ·by_cases e:o=p
  ·subst e;exact hx _ ob' (by simp[Heap.put])
  ·exact hx o ob1 (by simp[Heap.put,e,ho])
theorem StB.reob(s:StB K B Γ h a w){p:Oid}{ob ob':Ob}(hp:h p=some ob)(hr:ObR w (wj K.w0.heap.size K.ok0 w B h) B (B p) ob'):StB K B Γ (h.put p ob') a w:=by
 have hok:∀b,wj K.w0.heap.size K.ok0 w B h b→wj K.w0.heap.size K.ok0 w B (h.put p ob') b:=fun b=>(aZV hp b).1
 have old:∀o ob1,(h.put p ob') o=some ob1→∃ob2,h o=some ob2:=by
  intro o ob1 ho
  by_cases e:o=p
  ·subst e;exact⟨ob,hp⟩
  ·simp only[Heap.put,e,gw]at ho;exact⟨ob1,ho⟩
 refine⟨fun t=>(s.slots t).mono (fun _ _=>rfl) hok fun _ _=>rfl,⟨fun o ob1 ho=>?_,fun o o' ob1 ob2 b ho ho' hb hb'=>?_⟩,s.defers,s.size,s.fr,fun o ob1 b ho hb hlt=>?_,s.pin⟩
 ·by_cases e:o=p
  ·subst e
   simp only[Heap.put,jw,bw]at ho
   subst ho
   exact hr.mono (fun _ _=>rfl) hok (fun _ _=>rfl) fun _ _=>rfl
  ·simp only[Heap.put,e,gw]at ho
   exact(s.objs.rep o ob1 ho).mono (fun _ _=>rfl) hok (fun _ _=>rfl) fun _ _=>rfl
 ·obtain⟨x,hx⟩:=old o ob1 ho
  obtain⟨y,hy⟩:=old o' ob2 ho'
  exact s.objs.apart o o' x y b hx hy hb hb'
 ·obtain⟨x,hx⟩:=old o ob1 ho
  exact s.own o x b hx hb hlt
theorem Sim.ownBox{p:Oid}{cs:List C}{j:Nat}{o:Oid}(e k:Nat)(hp:h p=some (.box cs))(hj:cs[j]? = some .nilS)(hk:0<k)(hf:Fresh o Γ h)(ho:o.1<1000) :
  Sim n I Γ h Γ ((h.put o (.arr e k [])).put p (.box (cs.set j (.slO o)))):=by
 rintro K hK a w ⟨B,s⟩
 have hne:p≠o:=(hf.heap p _ hp).1
 obtain⟨B',hBo,hB,hok,s'⟩:=s.new o (.arr e k []) (.slice none 0 0) (w':=w) hf (Lq s ho) (Fr.refl _ _) (fun b hb=>by simp[lj]at hb)
  (fun B' hB hBo hok=>⟨hk,by simp,[],⟨by simp,.inl ⟨rfl,rfl⟩⟩,Pt.nil⟩)
 have hp':(h.put o (.arr e k [])) p=some (.box cs):=by simp[Heap.put,hne,hp]
 refine⟨B',s'.reob hp' ?_⟩
 obtain⟨b,c,t,hv,hh,hpt⟩:=s'.objs.rep p _ hp'
 refine⟨b,c,t,hv,hh,?_⟩
 refine⟨by simpa using hpt.1,fun i v x hv hx=>?_⟩
 rw[List.getElem?_set]at hx
 by_cases eq:j=i
 ·subst eq
  obtain⟨hlt,hnil⟩:=dw.1 hj
  simp only[jw,hlt]at hx
  cases hx
  have:=hpt.2 j v .nilS hv hj
  cases this
  exact .slO o none 0 0 hBo
 ·simp only[eq,gw]at hx
  exact hpt.2 i v x hv hx
def Q3(o:Oid)(t:T):C→C
 | .slO o'=>if o'=o then .imm t else .slO o'
 | .elO o' k i off=>if o'=o then .junk else .elO o' k i off
 | x=>x
def aLq(o:Oid)(t:T):V→V
 | .c x=>.c (Q3 o t x)
 | .agg cs=>.agg (cs.map (Q3 o t))
 | _=>.junk
def aSW(o:Oid)(t:T):V→V
 | .tup vs=>.tup (vs.map (aLq o t))
 | x=>aLq o t x
def UW(o:Oid)(t:T):Ob→Ob
 | .arr e k rows=>.arr e k rows
 | .box cs=>.box (cs.map (Q3 o t))
 | .map kd es=>.map kd es
 | .mapC kd es=>.mapC kd (es.map fun p=>(p.1,Q3 o t p.2))
 | .arrC e k rows=>.arrC e k (rows.map fun r=>r.map (Q3 o t))
 | .fam G=>.fam G
def Wx(o:Oid)(t:T)(h:Heap):Heap:=fun p=>if p=o then none else(h p).map (UW o t)
section
variable {ok ok':Nat→Prop} {o:Oid} {t:T}
theorem RepC.frz(hok:∀b,ok b→ok' b)(ht:∀v,RepC w ok B v (.slO o)→RepT w ok' v t){v:Value}{x:C}(h:RepC w ok B v x):RepC w ok' B v (Q3 o t x):=by
 have hm:=h.mono (w':=w) (ok':=ok') (B':=B) (fun _ _=>rfl) hok (fun _ _=>rfl)
 cases x with
 | slO o' =>
  simp only[Q3]
  split
  ·rename_i e;subst e;exact .imm _ _ (ht v h)
  ·exact hm
 | elO o' k i off =>
  simp only[Q3]
  split
  ·exact .junk v h.one
  ·exact hm
 | _=>exact hm
theorem RepS.frz(hok:∀b,ok b→ok' b)(ht:∀v,RepC w ok B v (.slO o)→RepT w ok' v t){v:Value}{x:V}(h:RepS w ok B v x):RepS w ok' B v (aLq o t x):=by
 cases x with
 | c x=>exact RepC.frz hok ht h
 | agg xs=>obtain⟨cs,rfl,hp⟩:=h;exact⟨cs,rfl,hp.map fun v x hr=>hr.frz hok ht⟩
 | tup _=>exact h.elim
 | junk=>trivial
theorem RepV.frz(hok:∀b,ok b→ok' b)(ht:∀v,RepC w ok B v (.slO o)→RepT w ok' v t){v:Value}{x:V}(h:RepV w ok B v x):RepV w ok' B v (aSW o t x):=by
 cases x with
 | c x=>exact RepC.frz hok ht h
 | agg xs=>exact RepS.frz (x:=.agg xs) hok ht h
 | junk=>trivial
 | tup xs =>
  obtain⟨vs,rfl,hp⟩:=h
  exact⟨vs,rfl,hp.map fun v x hr=>hr.frz hok ht⟩
theorem ObR.frz(hok:∀b,ok b→ok' b)(ht:∀v,RepC w ok B v (.slO o)→RepT w ok' v t){v:Value}{x:Ob}(h:ObR w ok B v x):ObR w ok' B v (UW o t x):=by
 cases x with
 | arr e k rows=>exact ObR.mono (x:=.arr e k rows) h (fun _ _=>rfl) hok (fun _ _=>rfl) fun _ _=>rfl
 | box cs =>
  obtain⟨b,c,t,rfl,hh,hp⟩:=h
  exact⟨b,c,t,rfl,hh,hp.map fun v x hr=>hr.frz hok ht⟩
 | map kd es =>
  obtain⟨b,es',clock,rfl,hh,hc,hs,he⟩:=h
  refine⟨b,es',clock,rfl,hh,hc,hs,fun i e p hi hp=>?_⟩
  obtain⟨h1,h2,h3,h4⟩:=he i e p hi hp
  exact⟨h1,h2,h3,h4.mono (fun _ _=>rfl) hok fun _ _=>rfl⟩
 | mapC kd es =>
  obtain⟨b,es',clock,rfl,hh,hc,hs,he⟩:=h
  refine⟨b,es',clock,rfl,hh,by simpa using hc,by simpa using hs,fun i e p hi hp=>?_⟩
  rw[List.getElem?_map,aw]at hp
  obtain⟨q,hq,rfl⟩:=hp
  obtain⟨h1,h2,h3,h4⟩:=he i e q hi hq
  exact⟨h1,h2,h3,h4.frz hok ht⟩
 | arrC e k rows =>
  obtain⟨h0,hk,cs,hown,hp⟩:=h
  refine⟨h0,fun row hr=>?_,cs,by simpa using hown,?_⟩
  ·obtain⟨r,h1,rfl⟩:=List.mem_map.1 hr
   simpa using hk r h1
  ·rw[←List.map_flatten];exact hp.map fun v x hr=>hr.frz hok ht
 | fam G=>exact h.elim
end
theorem Sim.frz{o:Oid}{e k:Nat}{rows:List (List T)}(d6:h o=some (.arr e k rows)){l:List Oid}(hI:I=some l)(hl:∀p∈l,∃cs,h p=some (.box cs)) :
  Sim n I Γ h (fun t=>aSW o (.sl k rows) (Γ t)) (Wx o (.sl k rows) h):=by
 rintro K hK a w ⟨B,s⟩
 have hdom:∀p ob,Wx o (.sl k rows) h p=some ob→p≠o∧∃ob1,h p=some ob1∧ob=UW o (.sl k rows) ob1:=by
  intro p ob hp
  unfold Wx at hp
  split at hp
  ·simp at hp
  ·rename_i hne
   obtain⟨ob1,h1,h2⟩:=aw.1 hp
   exact⟨hne,ob1,h1,h2.symm⟩
 have hmk:∀b,wj K.w0.heap.size K.ok0 w B h b→wj K.w0.heap.size K.ok0 w B (Wx o (.sl k rows) h) b:=fun b hb =>
  ⟨hb.1,hb.2.1,fun p ob hp=>by obtain⟨_,ob1,h1,_⟩:=hdom p ob hp;exact hb.2.2 p ob1 h1⟩
 have hblk:∀b,lj (B o)=some b→wj K.w0.heap.size K.ok0 w B (Wx o (.sl k rows) h) b:=by
  intro b hb
  refine⟨(s.objs.rep o _ d6).lt hb,fun hlt=>?_,fun p ob hp hpb=>?_⟩
  ·exfalso
   obtain⟨p,hpar⟩:=s.own o _ b d6 hb hlt
   obtain⟨hpl,hpin,hpb⟩:=hK.2 l hI p b hpar
   obtain⟨cs,hcs⟩:=hl p hpl
   have hB:=(s.pin p hpin).2
   have:=s.objs.apart p o _ _ b hcs d6 (by rw[hB];exact hpb) hb
   subst this
   rw[d6]at hcs;simp at hcs
  ·obtain⟨hne,ob1,h1,_⟩:=hdom p ob hp
   exact hne (s.objs.apart p o ob1 _ b h1 d6 hpb hb)
 have ht:∀v,RepC w (wj K.w0.heap.size K.ok0 w B h) B v (.slO o)→RepT w (wj K.w0.heap.size K.ok0 w B (Wx o (.sl k rows) h)) v (.sl k rows):=fun v hv =>
  ayQ s d6 hv hblk fun u i row j x _ _ hr=>hr.mono (fun _ _=>rfl) hmk
 refine⟨B,fun t=>(s.slots t).frz hmk ht,⟨fun p ob hp=>?_,fun p p' ob ob' b hp hp'=>?_⟩,s.defers,s.size,s.fr,fun p ob b hp=>?_,s.pin⟩
 ·obtain⟨_,ob1,h1,rfl⟩:=hdom p ob hp
  exact(s.objs.rep p ob1 h1).frz hmk ht
 ·obtain⟨_,ob1,h1,_⟩:=hdom p ob hp
  obtain⟨_,ob2,h2,_⟩:=hdom p' ob' hp'
  exact s.objs.apart p p' ob1 ob2 b h1 h2
 ·obtain⟨_,ob1,h1,_⟩:=hdom p ob hp
  exact s.own p ob1 b h1
end
end Go.VM
namespace Go.VM
def aPV(o:Oid)(Γ:Env)(h hin:Heap):Prop:=(∀t,o∉(Γ t).refs)∧∀p ob,h p=some ob→hin p=none→p≠o∧o∉ob.refs
def bkK(x y:V):Prop:=x=y∨aFj noHeap x y
def ahW:List V→List V→Prop
 | [],[]=>True
 | x::xs,y::ys=>bkK x y∧ahW xs ys
 | _,_=>False
def GY(h hin hout:Heap):Heap:=fun o=>match hout o with
 | some ob=>some ob
 | none=>match hin o with
  | some _=>none
  | none=>h o
structure bcX(P:Program)(f:FuncId)(pins:List Oid)(vs:List V)(Γ:Env)(h hin:Heap)(r:V)(hout:Heap):Prop where
 fn:∃us,ahW vs us∧Fun P f false pins us hin r hout
 sub:∀o ob,hin o=some ob→h o=some ob
 names:∀o ob,hout o=some ob→o∈pins∨(o.1<1000∧aPV o Γ h hin)
 closed:∀o ob,hout o=some ob→∀p∈ob.refs,(hout p).isSome=true∨p∈pins
 res:∀p∈r.refs,(hout p).isSome=true∨p∈pins
section
variable {P:Program} {K:Ctx} {B:Oid→Value} {Γ:Env} {h:Heap} {a:Act} {w:World}
theorem atq(s:StB K B Γ h a w):∀(vs:List Value) (xs ys:List V),Pt (RepV w (okS K w B h) B) vs xs→ahW xs ys→Pt (RepV w (okS K w B h) B) vs ys
 | [],cs,ts,hp,hm=>by
  have:cs=[]:=dk (by have:=hp.1;simpa using this.symm)
  subst this
  cases ts with
  | nil=>exact Pt.nil
  | cons _ _=>simp[ahW]at hm
 | v::vs,cs,ts,hp,hm=>by
  cases cs with
  | nil=>have:=hp.1;simp at this
  | cons c cs =>
   cases ts with
   | nil=>simp[ahW]at hm
   | cons t ts =>
    have ht:Pt (RepV w (okS K w B h) B) vs cs:=⟨by have:=hp.1;simpa using this,fun j u z hu hz=>hp.2 (j+1) u z (by simpa using hu) (by simpa using hz)⟩
    simp only[ahW]at hm
    have h0:=hp.2 0 v c rfl rfl
    refine Pt.cons ?_ (atq s vs cs ts ht hm.2)
    rcases hm.1 with rfl | hs
    ·exact h0
    ·exact anK (B0:=B) s (h0:=noHeap) (fun o ob hg=>by simp[noHeap]at hg) (fun b hb=>hb) (fun b ⟨o,ob,hg,_⟩=>by simp[noHeap]at hg) h0 hs
theorem aDK(s:StB K B Γ h a w){f:FuncId}{args:List Value}{vs:List V}{hin hout:Heap}{r:V}(hargs:Pt (RepV w (okS K w B h) B) args vs){pins:List Oid}(hc:bcX P f pins vs Γ h hin r hout) :
  Calls P f args.toArray w fun e w'=>∃v B',e = .returned v∧StB K B' Γ (GY h hin hout) a w'∧RepV w' (okS K w' B' (GY h hin hout)) B' v r:=by
 obtain⟨us,hsub,hF⟩:=hc.fn
 have hblt:∀b,BJ B h b→b<w.heap.size:=fun b ⟨o,ob,hg,hb⟩=>(s.objs.rep o ob hg).lt hb
 have hinh:∀b,BJ B hin b→BJ B h b:=fun b ⟨o,ob,hg,hb⟩=>⟨o,ob,hc.sub o ob hg,hb⟩
 refine(hF w (okS K w B h) B args (fun b hb=>hb.1) (fun b hb hx=>?_) (atq s _ _ _ hargs hsub) ⟨fun o ob hg=>s.objs.rep o ob (hc.sub o ob hg),fun o o' ob ob' b hg hg'=>s.objs.apart o o' ob ob' b (hc.sub o ob hg) (hc.sub o' ob' hg')⟩).mono fun e w' he=>?_
 ·obtain⟨o,ob,hg,hb'⟩:=hinh b hx
  exact hb.2.2 o ob hg hb'
 obtain⟨v,B',rfl,hfr,hrep,hobjs,hblk,hsame⟩:=he
 let B2:Oid → Value := fun o => match hout o with | some _ => B' o | none => B o
 have hB2o:∀o ob,hout o=some ob→B2 o=B' o:=fun o ob ho=>by simp only[B2,ho]
 have hB2n:∀o,hout o=none→B2 o=B o:=fun o ho=>by simp only[B2,ho]
 have hB2i:∀o,o∈pins→B2 o=B o:=fun o hi=>by
  cases ho:hout o with
  | none=>exact hB2n o ho
  | some ob'=>rw[hB2o o ob' ho,hsame o hi]
 have hB2':∀o,(hout o).isSome=true∨o∈pins→B2 o=B' o:=by
  intro o ho
  cases hg:hout o with
  | some ob=>exact hB2o o ob hg
  | none =>
   rw[hg]at ho
   simp at ho
   rw[hB2n o hg,hsame o ho]
 have cases2:∀o ob,GY h hin hout o=some ob→hout o=some ob∨(hout o=none∧hin o=none∧h o=some ob):=by
  intro o ob hm
  unfold GY at hm
  cases ho:hout o with
  | some ob'=>simp only[ho]at hm;exact .inl hm
  | none =>
   simp only[ho]at hm
   cases hi:hin o with
   | some _=>simp only[hi]at hm;simp at hm
   | none=>simp only[hi]at hm;exact .inr ⟨rfl,rfl,hm⟩
 have apartIn:∀o ob b,h o=some ob→hin o=none→lj (B o)=some b→¬BJ B hin b:=by
  rintro o ob b hg hi hb ⟨p,ob',hp,hpb⟩
  have:=s.objs.apart o p ob ob' b hg (hc.sub p ob' hp) hb hpb
  subst this
  rw[hi]at hp;simp at hp
 have hmono:∀b,okS K w B h b→w'.heap[b]? = w.heap[b]?:=fun b hb=>hfr.block b hb.1 fun hx=>by
  obtain⟨o,ob,hg,hb'⟩:=hinh b hx
  exact hb.2.2 o ob hg hb'
 have hok:∀b,okS K w B h b→okS K w' B2 (GY h hin hout) b:=by
  intro b hb
  refine⟨Nat.lt_of_lt_of_le hb.1 hfr.size,hb.2.1,fun o ob ho hbl=>?_⟩
  rcases cases2 o ob ho with h1 | ⟨h1,h2,h3⟩
  ·rw[hB2o o ob h1]at hbl
   obtain⟨p,ob',hp,hpb⟩:=hinh b (hblk o ob b h1 hbl hb.1)
   exact hb.2.2 p ob' hp hpb
  ·rw[hB2n o h1]at hbl
   exact hb.2.2 o ob h3 hbl
 have hok':∀b,wj w.heap.size (okS K w B h) w' B' hout b→okS K w' B2 (GY h hin hout) b:=by
  intro b hb
  refine⟨hb.1,fun hlt=>?_,fun o ob ho hbl=>?_⟩
  ·exact(hb.2.1 (by have:=s.fr.size;omega)).2.1 hlt
  ·rcases cases2 o ob ho with h1 | ⟨h1,h2,h3⟩
   ·rw[hB2o o ob h1]at hbl
    exact hb.2.2 o ob h1 hbl
   ·rw[hB2n o h1]at hbl
    have hlt:=hblt b ⟨o,ob,h3,hbl⟩
    exact(hb.2.1 hlt).2.2 o ob h3 hbl
 have hΓ:∀t,∀o∈(Γ t).refs,B2 o=B o:=by
  intro t o ho
  cases hg:hout o with
  | none=>exact hB2n o hg
  | some ob =>
   rcases hc.names o ob hg with h1 | ⟨_,h1⟩
   ·exact hB2i o h1
   ·exact absurd ho (h1.1 t)
 refine⟨v,B2,rfl,⟨fun t=>(s.slots t).mono hmono hok (hΓ t),⟨fun o ob ho=>?_,fun o o' ob ob' b ho ho' hb hb'=>?_⟩,s.defers,s.size,s.fr.trans hfr ?_,fun o ob b ho hb hlt=>?_,fun o ho=>?_⟩,?_⟩
 ·rcases cases2 o ob ho with h1 | ⟨h1,h2,h3⟩
  ·rw[hB2o o ob h1]
   exact(hobjs.rep o ob h1).mono (fun _ _=>rfl) hok' (fun p hp=>hB2' p (hc.closed o ob h1 p hp)) fun _ _=>rfl
  ·rw[hB2n o h1]
   refine(s.objs.rep o ob h3).mono hmono hok (fun p hp=>?_) fun b hb=>hfr.block b (hblt b ⟨o,ob,h3,hb⟩) (apartIn o ob b h3 h2 hb)
   cases hg:hout p with
   | none=>exact hB2n p hg
   | some ob' =>
    rcases hc.names p ob' hg with h4 | ⟨_,h4⟩
    ·exact hB2i p h4
    ·exact absurd hp (h4.2 o ob h3 h2).2
 ·rcases cases2 o ob ho with h1 | ⟨h1,h2,h3⟩
  ·rw[hB2o o ob h1]at hb
   rcases cases2 o' ob' ho' with g1 | ⟨g1,g2,g3⟩
   ·rw[hB2o o' ob' g1]at hb'
    exact hobjs.apart o o' ob ob' b h1 g1 hb hb'
   ·rw[hB2n o' g1]at hb'
    exact absurd (hblk o ob b h1 hb (hblt b ⟨o',ob',g3,hb'⟩)) (apartIn o' ob' b g3 g2 hb')
  ·rw[hB2n o h1]at hb
   rcases cases2 o' ob' ho' with g1 | ⟨g1,g2,g3⟩
   ·rw[hB2o o' ob' g1]at hb'
    exact absurd (hblk o' ob' b g1 hb' (hblt b ⟨o,ob,h3,hb⟩)) (apartIn o ob b h3 h2 hb)
   ·rw[hB2n o' g1]at hb'
    exact s.objs.apart o o' ob ob' b h3 g3 hb hb'
 ·intro b hb hx
  obtain⟨o,ob,hg,hb'⟩:=hinh b hx
  exact s.own o ob b hg hb' hb
 ·rcases cases2 o ob ho with h1 | ⟨h1,h2,h3⟩
  ·rw[hB2o o ob h1]at hb
   obtain⟨p,ob',hp,hpb⟩:=hinh b (hblk o ob b h1 hb (by have:=s.fr.size;omega))
   exact s.own p ob' b hp hpb hlt
  ·rw[hB2n o h1]at hb
   exact s.own o ob b h3 hb hlt
 ·obtain⟨h1,h2⟩:=s.pin o ho
  refine⟨h1,?_⟩
  cases hg:hout o with
  | none=>rw[hB2n o hg];exact h2
  | some ob =>
   rcases hc.names o ob hg with h4 | ⟨h4,_⟩
   ·rw[hB2i o h4];exact h2
   ·omega
 ·exact hrep.mono (fun _ _=>rfl) (fun b hb=>hok' b hb.1) fun p hp=>hB2' p (hc.res p hp)
end
end Go.VM
namespace Go.VM
abbrev L:=List (Nat×V)
abbrev M:=List (Oid×Ob)
def look:L→Nat→V
 | [],_=>.junk
 | p::r,t=>bif Nat.beq t p.1 then p.2 else look r t
def o5(a b:Oid):Bool:=Nat.beq a.1 b.1&&Nat.beq a.2 b.2
def d6:M→Oid→Option Ob
 | [],_=>none
 | p::r,o=>match sj p.2 with
  | some G=>bif A8 o then JV G o else d6 r o
  | none=>bif o5 o p.1 then some p.2 else d6 r o
def SQ:M→Oid→Ob→M
 | [],o,ob=>[(o,ob)]
 | p::r,o,ob=>match sj p.2 with
  | some _=>bif A8 o then(o,ob)::p::r else p::SQ r o ob
  | none=>bif o5 o p.1 then(o,ob)::r else p::SQ r o ob
def aEx:M→Oid→M
 | [],_=>[]
 | p::r,o=>match sj p.2 with
  | some G=>bif A8 o then(p.1,.fam (aAz G o))::aEx r o else p::aEx r o
  | none=>bif o5 o p.1 then aEx r o else p::aEx r o
theorem F0{a b:Oid}:o5 a b=true↔a=b:=by
 obtain⟨a1,a2⟩:=a
 obtain⟨b1,b2⟩:=b
 simp[o5]
theorem sV(l:L)(t:Nat):dV l t=look l t:=by
 induction l with
 | nil=>rfl
 | cons p r ih =>
  obtain⟨u,x⟩:=p
  simp only[dV,Env.put,look]
  cases h:Nat.beq t u with
  | true=>simp[Nat.eq_of_beq_eq_true h]
  | false=>simp[Nat.ne_of_beq_eq_false h,ih]
theorem fK(m:M)(o:Oid):aV m o=d6 m o:=by
 induction m with
 | nil=>rfl
 | cons p r ih =>
  obtain⟨u,x⟩:=p
  simp only[aV,d6]
  cases hx:sj x with
  | some G=>simp only[ih]
  | none =>
   simp only[Heap.put]
   cases h:o5 o u with
   | true=>simp[F0.1 h]
   | false =>
    have hne:o≠u:=fun e=>by rw[←F0,h]at e;simp at e
    simp[hne,ih]
theorem Q9(m:M)(o:Oid)(ob:Ob)(hob:sj ob=none):aV (SQ m o ob)=(aV m).put o ob:=by
 funext p
 simp only[Heap.put]
 induction m with
 | nil=>simp[SQ,aV,Heap.put,hob]
 | cons q r ih =>
  obtain⟨u,x⟩:=q
  simp only[SQ]
  cases hx:sj x with
  | some G =>
   cases hr:A8 o with
   | true=>simp only[cond_true,aV,hob,hx,Heap.put]
   | false =>
    simp only[cond_false,aV,hx,ih]
    by_cases e:p=o
    ·subst e;simp[hr]
    ·simp[e]
  | none =>
   cases h:o5 o u with
   | true =>
    have:=F0.1 h;subst this
    simp only[cond_true,aV,Heap.put,hob,hx]
    by_cases e:p=o<;>simp[e]
   | false =>
    have hne:o≠u:=fun e=>by rw[←F0,h]at e;simp at e
    simp only[cond_false,aV,hx,Heap.put,ih]
    by_cases e:p=u
    ·subst e;simp[Ne.symm hne]
    ·simp[e]
theorem aKz(m:M)(o:Oid):aV (aEx m o)=(aV m).drop o:=by
 funext p
 simp only[Heap.drop]
 induction m with
 | nil=>simp[aEx,aV,noHeap]
 | cons q r ih =>
  obtain⟨u,x⟩:=q
  simp only[aEx]
  cases hx:sj x with
  | some G =>
   cases hr:A8 o with
   | true =>
    simp only[cond_true,aV,show sj (.fam (aAz G o))=some (aAz G o)from rfl,ih]
    by_cases e:p=o
    ·subst e;simp[hr,JV,aAz]
    ·cases hp:A8 p<;>simp[hx,hp,e,JV,aAz]
   | false =>
    simp only[cond_false,aV,hx,ih]
    by_cases e:p=o
    ·subst e;simp[hr]
    ·simp[e]
  | none =>
   cases h:o5 o u with
   | true =>
    have:=F0.1 h;subst this
    simp only[cond_true,ih,aV,hx,Heap.put]
    by_cases e:p=o<;>simp[e]
   | false =>
    have hne:o≠u:=fun e=>by rw[←F0,h]at e;simp at e
    simp only[cond_false,aV,hx,Heap.put,ih]
    by_cases e:p=u
    ·subst e;simp[Ne.symm hne]
    ·simp[e]
def KK(o:Oid):List Oid→Bool
 | []=>false
 | p::r=>o5 o p||KK o r
theorem XY{o:Oid}{l:List Oid}(h:KK o l=false):o∉l:=by
 induction l with
 | nil=>simp
 | cons p r ih =>
  simp only[KK,Bool.or_eq_false_iff]at h
  simp only[iw,not_or]
  exact⟨fun e=>by rw[←F0,h.1]at e;simp at e,ih h.2⟩
def BV(o:Oid):L→Bool
 | []=>true
 | p::r=>bif KK o p.2.refs then false else BV o r
def AZ(o:Oid):M→Bool
 | []=>true
 | p::r=>match sj p.2 with
  | some _=>bif A8 o then false else AZ o r
  | none=>bif o5 o p.1||KK o p.2.refs then false else AZ o r
theorem SY{G:Oid→Option Ob}{o:Oid}{ob:Ob}(h:JV G o=some ob):G o=some ob∧sj ob=none∧∀p∈ob.refs,A8 p=true:=by
 unfold JV at h
 cases hg:G o with
 | none=>rw[hg]at h;simp at h
 | some x =>
  rw[hg]at h
  cases hb:(sj x).isNone&&x.refs.all A8 with
  | false=>simp[hb]at h
  | true =>
   simp only[hb,cond_true,bw]at h
   subst h
   simp only[cw,Option.isNone_iff_eq_none,lw]at hb
   exact⟨rfl,hb.1,hb.2⟩
theorem EX{o:Oid}{l:L}{m:M}(hl:BV o l=true)(hm:AZ o m=true):Fresh o (dV l) (aV m):=by
 constructor
 ·intro t
  rw[sV]
  induction l with
  | nil=>simp[look,V.refs]
  | cons p r ih =>
   simp only[BV]at hl
   cases hb:KK o p.2.refs with
   | true=>simp[hb]at hl
   | false =>
    simp only[hb,cond_false]at hl
    simp only[look]
    cases Nat.beq t p.1 with
    | true=>exact XY hb
    | false=>exact ih hl
 ·intro q ob hq
  rw[fK]at hq
  induction m with
  | nil=>simp[d6]at hq
  | cons p r ih =>
   simp only[AZ]at hm
   simp only[d6]at hq
   cases hx:sj p.2 with
   | some G =>
    simp only[hx]at hm hq
    cases hr:A8 o with
    | true=>simp[hr]at hm
    | false =>
     simp only[hr,cond_false]at hm
     cases hrq:A8 q with
     | true =>
      simp only[hrq,cond_true]at hq
      obtain⟨_,_,h3⟩:=SY hq
      exact⟨fun e=>by subst e;rw[hr]at hrq;simp at hrq,fun hm=>by have:=h3 o hm;rw[hr]at this;simp at this⟩
     | false=>simp only[hrq,cond_false]at hq;exact ih hm hq
   | none =>
   simp only[hx]at hm hq
   cases hb:(o5 o p.1||KK o p.2.refs)with
   | true=>simp[hb]at hm
   | false =>
    simp only[hb,cond_false]at hm
    rw[Bool.or_eq_false_iff]at hb
    cases hc:o5 q p.1 with
    | true =>
     simp only[hc,cond_true,bw]at hq
     have:=F0.1 hc;subst this;subst hq
     exact⟨fun e=>by subst e;rw[hc]at hb;simp at hb,XY hb.2⟩
    | false =>
     simp only[hc,cond_false]at hq
     exact ih hm hq
def aDY:C→C
 | .imm (.sc v)=>.imm (.sc v)
 | .imm (.sl k rows)=>.imm (.sl k rows)
 | .nilS=>.nilS
 | .nilM=>.nilM
 | .slO o=>.slO (o.1,o.2)
 | .ptrO o off=>.ptrO (o.1,o.2) off
 | .elO o k i off=>.elO (o.1,o.2) k i off
 | .mapO o=>.mapO (o.1,o.2)
 | .ptrI cells=>.ptrI cells
 | .fn f caps=>.fn f caps
 | .junk=>.junk
def QW:List C→List C
 | []=>[]
 | c::cs=>aDY c::QW cs
def a5W:V→V
 | .c x=>.c (aDY x)
 | .agg cs=>.agg (QW cs)
 | .tup vs=>.tup vs
 | .junk=>.junk
def azx:List V→List V
 | []=>[]
 | c::cs=>a5W c::azx cs
def acQ:V→V
 | .c x=>.c (aDY x)
 | .agg cs=>.agg (QW cs)
 | .tup vs=>.tup (azx vs)
 | .junk=>.junk
theorem YJ(c:C):aDY c=c:=by
 cases c<;>first | rfl | (rename_i t;cases t<;>rfl)
theorem K8(cs:List C):QW cs=cs:=by induction cs<;>simp_all[QW,YJ]
theorem aXV(v:V):a5W v=v:=by cases v<;>simp[a5W,YJ,K8]
theorem aTx(vs:List V):azx vs=vs:=by induction vs<;>simp_all[azx,aXV]
theorem L4(v:V):acQ v=v:=by cases v<;>simp[acQ,YJ,K8,aTx]
def wJ(m:M)(e:Opd→V):VO→Option V
 | .mv x=>some (e x)
 | .pick c a b=>match e c with
  | .c (.imm (.sc (.bool t)))=>some (bif t then e a else e b)
  | _=>none
 | .build z ps=>match IQ e z ps with
  | some cs=>some (.agg cs)
  | none=>none
 | .load n g x=>match rd (d6 m) (e x) n with
  | some cs=>some (mkV g cs)
  | none=>none
 | .nilc x=>bif aaQ (e x)then some (e x)else none
 | .fld off x=>azJ (e x) off
 | .field off n g x=>match e x with
  | .agg cs=>bif Nat.ble (off+n) cs.length then some (mkV g ((cs.drop off).take n))else none
  | _=>none
 | .bin op x y=>a4Y op (e x) (e y)
 | .beq ne x y=>match e x,e y with
  | .c (.imm (.sc (.bool a))),.c (.imm (.sc (.bool b)))=>some (bV (decide (a=b) != ne))
  | _,_=>none
 | .peq ne x y=>match a9j (e x) (e y)with
  | some b=>some (bV (b != ne))
  | none=>none
 | .meq ne x y=>match a8j (e x) (e y)with
  | some b=>some (bV (b != ne))
  | none=>none
 | .un .not x=>match e x with
  | .c (.imm (.sc (.bool b)))=>some (bV (!b))
  | _=>none
 | .un .neg x=>match e x with
  | .c (.imm (.sc (.int .i64 n)))=>some (iV (IntKind.i64.wrap (0-n)))
  | _=>none
 | .cvi k x=>match e x with
  | .c (.imm (.sc (.int _ n)))=>some (scV (.int k (k.wrap n)))
  | _=>none
 | .cvs x=>match e x with
  | .c (.imm (.sc (.string s)))=>some (.c (.imm (.sc (.string s))))
  | _=>none
 | .ext x i=>match e x with
  | .tup vs=>match vs[i]? with
   | some r=>bif Bq r then some r else none
   | none=>none
  | _=>none
 | .lenT x=>match e x with
  | .c (.imm (.sc (.string s)))=>some (iV s.size)
  | _=>none
 | .mm mx args=>mmV mx (args.map e)
 | .mkfn f caps=>match(caps.map e).mapM U4 with
  | some cs=>some (.c (.fn f cs))
  | none=>none
 | _=>none
theorem aNJ(m:M):aV m=d6 m:=funext (fK m)
theorem axK{P:Program}{m:M}{e:Opd→V}{op:VO}{r:V}(h:wJ m e op=some r):qP P (aV m) e op r:=by
 rw[aNJ]
 cases op
 case mv x=>simp only[wJ,bw]at h;exact h.symm
 case pick c a b =>
  simp only[wJ]at h
  split at h
  ·rename_i t hc
   cases h
   exact⟨t,hc,by cases t<;>rfl⟩
  ·simp at h
 case build z ps =>
  simp only[wJ]at h
  split at h
  ·rename_i cs hc;cases h;exact⟨cs,hc,rfl⟩
  ·simp at h
 case load n g x =>
  simp only[wJ]at h
  split at h
  ·rename_i cs hc;cases h;exact⟨cs,hc,rfl⟩
  ·simp at h
 case nilc x =>
  simp only[wJ]at h
  cases hb:aaQ (e x)with
  | true=>simp only[hb,cond_true,bw]at h;exact⟨hb,h.symm⟩
  | false=>simp[hb]at h
 case fld off x=>exact h
 case field off n g x =>
  simp only[wJ]at h
  split at h
  ·rename_i cs hc
   cases hb:Nat.ble (off+n) cs.length with
   | true=>simp only[hb,cond_true,bw]at h;exact⟨cs,hc,Nat.le_of_ble_eq_true hb,h.symm⟩
   | false=>simp[hb]at h
  ·simp at h
 case bin op x y=>exact h
 case beq ne x y =>
  simp only[wJ]at h
  split at h
  ·rename_i a b h1 h2;cases h;exact⟨a,b,h1,h2,rfl⟩
  ·simp at h
 case peq ne x y =>
  simp only[wJ]at h
  split at h
  ·rename_i b hb;cases h;exact⟨b,hb,rfl⟩
  ·simp at h
 case meq ne x y =>
  simp only[wJ]at h
  split at h
  ·rename_i b hb;cases h;exact⟨b,hb,rfl⟩
  ·simp at h
 case un op x =>
  cases op<;>simp only[wJ]at h<;>first | (simp at h;done) | skip
  ·split at h
   ·rename_i n hn;cases h;exact⟨n,hn,rfl⟩
   ·simp at h
  ·split at h
   ·rename_i n hn;cases h;exact⟨n,hn,rfl⟩
   ·simp at h
 case cvi k x =>
  simp only[wJ]at h
  split at h
  ·rename_i k' n hn;cases h;exact⟨k',n,hn,rfl⟩
  ·simp at h
 case cvs x =>
  simp only[wJ]at h
  split at h
  ·rename_i s hs;cases h;exact⟨s,hs,hs.symm⟩
  ·simp at h
 case ext x i =>
  simp only[wJ]at h
  split at h
  ·rename_i vs hv
   split at h
   ·rename_i r' hr
    cases hb:Bq r' with
    | true=>simp only[hb,cond_true,bw]at h;subst h;exact⟨vs,hv,hr,hb⟩
    | false=>simp[hb]at h
   ·simp at h
  ·simp at h
 case lenT x =>
  simp only[wJ]at h
  split at h
  ·rename_i s hs;cases h;exact⟨s,hs,rfl⟩
  ·simp at h
 case mm mx args=>exact h
 case mkfn f caps =>
  simp only[wJ]at h
  split at h
  ·rename_i cs hc;cases h;exact⟨cs,hc,rfl⟩
  ·simp at h
 all_goals (simp only[wJ,reduceCtorEq]at h)
end Go.VM
namespace Go.VM
abbrev a5z:=Option Nat→VO→Env→Heap→(Env→Heap→Prop)→Prop
def jX(S:a5z):List VOp→Env→Heap→(Env→Heap→Prop)→Prop
 | [],Γ,h,k=>k Γ h
 | o::os,Γ,h,k=>AQ o.guard Γ (S o.dst o.op Γ h fun Γ' h'=>jX S os Γ' h' k) (jX S os (putO o.dst Px Γ) h k)
theorem P2{P:Program}:∀(ops:List VOp) (Γ:Env) (h:Heap) (k:Env→Heap→Prop),jX (l6 P) ops Γ h k→H1 P ops Γ h k
 | [],_,_,_,hp=>hp
 | o::os,Γ,h,k,hp=>by
  simp only[jX]at hp
  simp only[H1]
  have e:(fun Γ' h'=>jX (l6 P) os Γ' h' k)=fun Γ' h'=>H1 P os Γ' h' k:=by
   funext Γ' h';exact propext ⟨P2 os Γ' h' k,regionP_back os Γ' h' k⟩
  rw[e]at hp
  unfold AQ at hp ⊢
  split<;>simp_all only
  rcases hp with hp | ⟨h1,h2⟩
  ·exact .inl hp
  ·exact .inr ⟨h1,P2 os _ _ k h2⟩
where
 regionP_back:∀(ops:List VOp) (Γ:Env) (h:Heap) (k:Env→Heap→Prop),H1 P ops Γ h k→jX (l6 P) ops Γ h k
 | [],_,_,_,hp=>hp
 | o::os,Γ,h,k,hp=>by
  simp only[H1]at hp
  simp only[jX]
  have e:(fun Γ' h'=>jX (l6 P) os Γ' h' k)=fun Γ' h'=>H1 P os Γ' h' k:=by
   funext Γ' h';exact propext ⟨P2 os Γ' h' k,regionP_back os Γ' h' k⟩
  rw[e]
  unfold AQ at hp ⊢
  split<;>simp_all only
  rcases hp with hp | ⟨h1,h2⟩
  ·exact .inl hp
  ·exact .inr ⟨h1,regionP_back os _ _ k h2⟩
section
variable {P:Program}
def azY:List C→Option (List T)
 | []=>some []
 | .imm t::cs=>match azY cs with
  | some ts=>some (t::ts)
  | none=>none
 | .nilS::cs=>match azY cs with
  | some ts=>some (.sl 0 []::ts)
  | none=>none
 | _::_=>none
theorem Zq:∀ {cs:List C} {ts:List T},azY cs=some ts→CTs cs ts
 | [],ts,h=>by simp[azY]at h;subst h;trivial
 | c::cs,ts,h=>by
  cases c with
  | imm t =>
   simp only[azY]at h
   split at h
   ·rename_i us hu;cases h;exact⟨rfl,Zq hu⟩
   ·simp at h
  | nilS =>
   simp only[azY]at h
   split at h
   ·rename_i us hu;cases h;exact⟨rfl,Zq hu⟩
   ·simp at h
  | _=>simp[azY]at h
def XJ(n:Nat):Nat→List T→List (List T)
 | 0,_=>[]
 | k+1,ts=>ts.take n::XJ n k (ts.drop n)
theorem aoW{n:Nat}:∀(k:Nat) (ts:List T),ts.length=k*n→(XJ n k ts).length=k∧(∀r∈XJ n k ts,r.length=n)∧(XJ n k ts).flatten=ts
 | 0,ts,h=>by
  have:ts=[]:=dk (by simpa using h)
  subst this;simp[XJ]
 | k+1,ts,h=>by
  have hl:ts.length=n+k*n:=by rw[h,Nat.add_mul];omega
  obtain⟨h1,h2,h3⟩:=aoW (n:=n) k (ts.drop n) (by simp;omega)
  refine⟨by simp[XJ,h1],?_,by simp[XJ,h3]⟩
  intro r hr
  simp only[XJ,iw]at hr
  rcases hr with rfl | hr
  ·simp;omega
  ·exact h2 r hr
def aEY(d:Oid)(l:L)(m:M):VO→Option (V×M)
 | .alloc _ z=>bif BV d l&&AZ d m then some (.c (.ptrO d 0),(d,.box z)::m)else none
 | .box _ x=>bif BV d l&&AZ d m then
   match kW (ev (look l) x)with
   | some cs=>some (.c (.ptrO d 0),(d,.box (QW cs))::m)
   | none=>none
  else none
 | .mkmap kd=>bif BV d l&&AZ d m then some (.c (.mapO d),(d,.map kd [])::m)else none
 | .bsl t n len z ps=>bif BV d l&&AZ d m then
   match IQ (ev (look l)) (List.replicate len z).flatten ps with
   | some cs=>match azY cs with
    | some ts=>bif Nat.beq ts.length (len*n)then some (.c (.slO d),(d,.arr t n (XJ n len ts))::m)else none
    | none=>none
   | none=>none
  else none
 | .store n x v=>match kW (ev (look l) v)with
  | some cs=>bif Nat.beq cs.length n then
    match ev (look l) x with
    | .c (.ptrO o off)=>match d6 m o with
     | some (.box bs)=>bif Nat.ble (off+cs.length) bs.length then some (.junk,SQ m o (.box (QW (setAt bs off cs))))else none
     | _=>none
    | _=>none
   else none
  | none=>none
 | _=>none
theorem jJ(l:L):ev (dV l)=ev (look l):=by
 funext x
 cases x<;>simp[ev,sV]
theorem aKY{dst:Option Nat}{l:L}{m:M}{op:VO}{x:V}{m':M}(h:aEY (dst.getD 999,0) l m op=some (x,m')){k:Env→Heap→Prop}(hk:k (putO dst x (dV l)) (aV m')):l6 P dst op (dV l) (aV m) k:=by
 cases op<;>try (simp only[aEY,reduceCtorEq]at h;done)
 all_goals simp only[aEY]at h
 case alloc t z =>
  cases hf:(BV (dst.getD 999,0) l&&AZ (dst.getD 999,0) m)with
  | false=>simp[hf]at h
  | true =>
   simp only[hf,cond_true,bw,Prod.mk.injEq]at h
   obtain⟨rfl,rfl⟩:=h
   rw[cw]at hf
   exact⟨fun _=>EX hf.1 hf.2,_,_,⟨rfl,rfl⟩,hk⟩
 case box t y =>
  cases hf:(BV (dst.getD 999,0) l&&AZ (dst.getD 999,0) m)with
  | false=>simp[hf]at h
  | true =>
   simp only[hf,cond_true]at h
   rw[cw]at hf
   split at h
   ·rename_i cs hcs
    simp only[bw,Prod.mk.injEq]at h
    obtain⟨rfl,rfl⟩:=h
    rw[K8]at hk
    exact⟨fun _=>EX hf.1 hf.2,_,_,⟨cs,by rw[jJ];exact hcs,rfl,rfl⟩,hk⟩
   ·simp at h
 case mkmap kd =>
  cases hf:(BV (dst.getD 999,0) l&&AZ (dst.getD 999,0) m)with
  | false=>simp[hf]at h
  | true =>
   simp only[hf,cond_true,bw,Prod.mk.injEq]at h
   obtain⟨rfl,rfl⟩:=h
   rw[cw]at hf
   exact⟨fun _=>EX hf.1 hf.2,_,_,⟨rfl,rfl⟩,hk⟩
 case bsl t n len z ps =>
  cases hf:(BV (dst.getD 999,0) l&&AZ (dst.getD 999,0) m)with
  | false=>simp[hf]at h
  | true =>
   simp only[hf,cond_true]at h
   rw[cw]at hf
   split at h
   ·rename_i cs hcs
    split at h
    ·rename_i ts hts
     cases hl:Nat.beq ts.length (len*n)with
     | false=>simp[hl]at h
     | true =>
      simp only[hl,cond_true,bw,Prod.mk.injEq]at h
      obtain⟨rfl,rfl⟩:=h
      obtain⟨h1,h2,h3⟩:=aoW len ts (Nat.eq_of_beq_eq_true hl)
      exact⟨fun _=>EX hf.1 hf.2,_,_,⟨cs,_,by rw[jJ];exact hcs,h1,h2,by rw[h3];exact Zq hts,rfl,rfl⟩,hk⟩
    ·simp at h
   ·simp at h
 case store n y v =>
  split at h
  ·rename_i cs hcs
   cases hl:Nat.beq cs.length n with
   | false=>simp[hl]at h
   | true =>
    simp only[hl,cond_true]at h
    split at h
    ·rename_i o off hy
     split at h
     ·rename_i bs hg
      cases hb:Nat.ble (off+cs.length) bs.length with
      | false=>simp[hb]at h
      | true =>
       simp only[hb,cond_true,bw,Prod.mk.injEq]at h
       obtain⟨rfl,rfl⟩:=h
       rw[K8,Q9 _ _ _ rfl]at hk
       refine⟨fun hx=>by simp[J2]at hx,_,_,⟨cs,by rw[jJ];exact hcs,Nat.eq_of_beq_eq_true hl,?_,rfl⟩,hk⟩
       rw[jJ,hy]
       exact⟨bs,by rw[fK];exact hg,Nat.le_of_ble_eq_true hb,rfl⟩
     ·simp at h
    ·simp at h
  ·simp at h
theorem aJY{dst:Option Nat}{op:VO}{l:L}{m:M}{r:V}(h:wJ m (ev (look l)) op=some r){k:Env→Heap→Prop}(hk:k (putO dst r (dV l)) (aV m)):l6 P dst op (dV l) (aV m) k:=by
 have hq:=axK (P:=P) h
 rw[←jJ]at hq
 cases op<;>first
  | (refine absurd h ?_;simp[wJ];done)
  | exact⟨r,hq,hk⟩
def Hj(dst:Option Nat)(x:V)(l:L):L :=
 match dst with
 | some d=>(d,x)::l
 | none=>l
theorem mV(dst:Option Nat)(x:V)(l:L):dV (Hj dst x l)=putO dst x (dV l):=by cases dst<;>rfl
def opF(dst:Option Nat)(op:VO)(l:L)(m:M):Option (L×M) :=
 bif Dx op then
  match aEY (dst.getD 999,0) l m op with
  | some (x,m')=>some (Hj dst x l,m')
  | none=>none
 else
  match wJ m (ev (look l)) op with
  | some r=>some (Hj dst (acQ r) l,m)
  | none=>none
theorem zz{dst:Option Nat}{op:VO}{l l':L}{m m':M}(h:opF dst op l m=some (l',m')){k:Env→Heap→Prop}(hk:k (dV l') (aV m')):l6 P dst op (dV l) (aV m) k:=by
 unfold opF at h
 cases he:Dx op with
 | true =>
  simp only[he,cond_true]at h
  split at h
  ·rename_i x m2 hx
   simp only[bw,Prod.mk.injEq]at h
   obtain⟨rfl,rfl⟩:=h
   exact aKY hx (by rw[←mV];exact hk)
  ·simp at h
 | false =>
  simp only[he,cond_false]at h
  split at h
  ·rename_i r hr
   simp only[bw,Prod.mk.injEq]at h
   obtain⟨rfl,rfl⟩:=h
   exact aJY hr (by rw[←mV,←L4 r];exact hk)
  ·simp at h
def PQ:List VOp→L→M→Option (L×M)
 | [],l,m=>some (l,m)
 | ⟨dst,op,none⟩::os,l,m=>match opF dst op l m with
  | some (l',m')=>PQ os l' m'
  | none=>none
 | ⟨dst,op,some (t,b)⟩::os,l,m=>match look l t with
  | .c (.imm (.sc (.bool c)))=>bif (c == b)then
    match opF dst op l m with
    | some (l',m')=>PQ os l' m'
    | none=>none
   else PQ os (Hj dst Px l) m
  | .tup []=>PQ os (Hj dst Px l) m
  | _=>none
theorem I0{S:a5z}(hS:∀dst op Γ h k,l6 P dst op Γ h k→S dst op Γ h k){k:Env→Heap→Prop}{rest:List VOp}:∀(os:List VOp) {l l':L} {m m':M},PQ os l m=some (l',m') →
  jX S rest (dV l') (aV m') k→jX S (os++rest) (dV l) (aV m) k
 | [],l,l',m,m',h,hk=>by
  simp only[PQ,bw,Prod.mk.injEq]at h
  obtain⟨rfl,rfl⟩:=h
  exact hk
 | ⟨dst,op,none⟩::os,l,l',m,m',h,hk=>by
  simp only[PQ]at h
  split at h
  ·rename_i l1 m1 h1
   simp only[List.cons_append,jX,AQ]
   exact hS _ _ _ _ _ (zz h1 (I0 hS os h hk))
  ·simp at h
 | ⟨dst,op,some (t,b)⟩::os,l,l',m,m',h,hk=>by
  simp only[PQ]at h
  simp only[List.cons_append,jX,AQ,Unw,sV]
  split at h
  ·rename_i c hc
   by_cases e:c=b
   ·subst e
    simp only[beq_self_eq_true,cond_true]at h
    split at h
    ·rename_i l1 m1 h1
     exact .inl ⟨hc,hS _ _ _ _ _ (zz h1 (I0 hS os h hk))⟩
    ·simp at h
   ·have:(c == b)=false:=by simp[e]
    simp only[this,cond_false]at h
    refine .inr ⟨.inl ?_,?_⟩
    ·rw[hc];cases c<;>cases b<;>first | rfl | simp at e
    ·rw[←mV];exact I0 hS os h hk
  ·rename_i hc
   refine .inr ⟨.inr hc,?_⟩
   rw[←mV];exact I0 hS os h hk
  ·simp at h
theorem bhK{S:a5z}(hS:∀dst op Γ h k,l6 P dst op Γ h k→S dst op Γ h k)(n:Nat){ops:List VOp}{l l':L}{m m':M}{k:Env→Heap→Prop}(h:PQ (ops.take n) l m=some (l',m'))
  (hk:jX S (ops.drop n) (dV l') (aV m') k):jX S ops (dV l) (aV m) k:=by
 have:=I0 hS (ops.take n) h hk
 rwa [List.take_append_drop]at this
end
end Go.VM
namespace Go.VM
section
variable {P:Program} {n:Nat} {I:Option (List Oid)} {Q:Exit→Env→Heap→Prop} {l l':L} {m m':M}
def PK:List VOp→L→M→Bool
 | [],_,_=>true
 | o::os,l,m=>bif J2 o.op then(bif BV (o.dst.getD 999,0) l&&AZ (o.dst.getD 999,0) m then PK os l m else false)else PK os l m
theorem KX:∀ {os:List VOp},PK os l m=true→FreshAll os (dV l) (aV m)
 | [],_,o,ho=>by simp at ho
 | o'::os,h,o,ho=>by
  simp only[PK]at h
  intro hn
  rcases iw.1 ho with rfl | ho
  ·simp only[hn,cond_true]at h
   cases hb:(BV (o.dst.getD 999,0) l&&AZ (o.dst.getD 999,0) m)with
   | false=>simp[hb]at h
   | true=>rw[cw]at hb;exact EX hb.1 hb.2
  ·cases hn':J2 o'.op with
   | false=>simp only[hn',cond_false]at h;exact KX h o ho hn
   | true =>
    simp only[hn',cond_true]at h
    cases hb:(BV (o'.dst.getD 999,0) l&&AZ (o'.dst.getD 999,0) m)with
    | false=>simp[hb]at h
    | true=>simp only[hb,cond_true]at h;exact KX h o ho hn
theorem f7{bs:List Nat}{ops:List VOp}(hn:n≤1000)(hp:T7 bs ops (List.replicate ops.length none)=true)(hf:PK ops l m=true)(hq:jX (l6 P) ops (dV l) (aV m) fun Γ' h'=>Q .normal Γ' h'):W P n I (.region (some bs) ops) Q (dV l) (aV m) :=
 aqX hn hp (KX hf) (P2 _ _ _ _ hq)
theorem RP{ops:List VOp}(h:PQ ops l m=some (l',m')){k:Env→Heap→Prop}(hk:k (dV l') (aV m')):jX (l6 P) ops (dV l) (aV m) k:=by
 have:=I0 (S:=l6 P) (rest:=[]) (fun _ _ _ _ _ h=>h) ops h hk
 rwa [List.append_nil]at this
def AgL(l:L):L→Prop
 | []=>True
 | p::r=>look l p.1=p.2∧AgL l r
def aIx:M→Option (Oid→Option Ob)
 | []=>none
 | p::r=>match sj p.2 with
  | some G=>some G
  | none=>bif A8 p.1 then none else aIx r
theorem auK{G:Oid→Option Ob}{o:Oid}(ho:A8 o=true):∀ {m:M},aIx m=some G→d6 m o=JV G o
 | [],h=>by simp[aIx]at h
 | p::r,h=>by
  simp only[aIx]at h
  simp only[d6]
  cases hx:sj p.2 with
  | some G'=>simp only[hx,bw]at h;subst h;simp only[ho,cond_true]
  | none =>
   simp only[hx]at h
   cases hr:A8 p.1 with
   | true=>simp[hr]at h
   | false =>
    simp only[hr,cond_false]at h
    cases hb:o5 o p.1 with
    | true=>rw[F0.1 hb,hr]at ho;simp at ho
    | false=>exact auK ho h
def AgM(m:M):M→Prop
 | []=>True
 | p::r => (match sj p.2 with | some G => aIx m=some G | none => d6 m p.1=some p.2) ∧ AgM m r
theorem AgL.weak:∀ {l':L},AgL l l'→∀t,dV l' t = .junk∨dV l' t=dV l t
 | [],_,t=>.inl rfl
 | p::r,h,t=>by
  rw[sV,sV]
  simp only[look]
  cases hb:Nat.beq t p.1 with
  | true=>have:=Nat.eq_of_beq_eq_true hb;subst this;exact .inr h.1.symm
  | false=>simp only[cond_false];rw[←sV,←sV];exact AgL.weak h.2 t
theorem AgM.weak:∀ {m':M},AgM m m'→∀o ob,aV m' o=some ob→aV m o=some ob
 | [],_,o,ob,h=>by simp[aV,noHeap]at h
 | p::r,h,o,ob,ho=>by
  rw[fK]at ho ⊢
  simp only[AgM]at h
  simp only[d6]at ho
  cases hx:sj p.2 with
  | some G =>
   simp only[hx]at ho h
   cases hr:A8 o with
   | true=>simp only[hr,cond_true]at ho;rw[auK hr h.1];exact ho
   | false =>
    simp only[hr,cond_false]at ho
    rw[←fK]
    exact AgM.weak h.2 o ob (by rw[fK];exact ho)
  | none =>
  simp only[hx]at ho h
  cases hb:o5 o p.1 with
  | true =>
   simp only[hb,cond_true,bw]at ho
   have:=F0.1 hb
   subst this;subst ho;exact h.1
  | false =>
   simp only[hb,cond_false]at ho
   rw[←fK]
   exact AgM.weak h.2 o ob (by rw[fK];exact ho)
theorem a6K(hl:AgL l l')(hm:AgM m m'):Weak (dV l) (aV m) (dV l') (aV m'):=⟨hl.weak,hm.weak⟩
def N1:Nat→List V→L
 | _,[]=>[]
 | i,v::vs=>(i,v)::N1 (i+1) vs
theorem a2Q(vs:List V):entry vs=dV (N1 0 vs):=by
 funext t
 rw[sV]
 have key:∀(vs:List V) (i:Nat),look (N1 i vs) t=if i≤t then(vs[t-i]?).getD .junk else .junk:=by
  intro vs
  induction vs with
  | nil=>intro i;simp[N1,look]
  | cons v vs ih =>
   intro i
   simp only[N1,look]
   cases h:Nat.beq t i with
   | true=>have:=Nat.eq_of_beq_eq_true h;subst this;simp
   | false =>
    have hne:=Nat.ne_of_beq_eq_false h
    simp only[cond_false,ih]
    by_cases hle:i≤t
    ·have h1:i+1≤t:=by omega
     have h2:t-i=(t-(i+1))+1:=by omega
     simp only[h1,hle,jw]
     rw[h2];simp
    ·have h1 : ¬i+1≤t:=by omega
     simp[h1,hle]
 rw[key];simp[entry]
theorem Fun.of_walk{f:FuncId}{fn:Func}{n:Nat}{vc:VC}{rs:List VR}{fresh:Bool}{vs:List V}{m:M}{hout:Heap}{r:V}(pins:List Oid)(I:Option (List Oid))(hf:P.funcs[f]? = some fn)(hc:(fn.body.bind fun c=>mJ P n c)=some vc)
  (hn:n=vs.length+(fn.ntmps-vs.length)) (hr:fn.results.toList.mapM (L3 P)=some rs) (hk:∀o∈pins,1000≤o.1) (hb':∀o cs,aV m o=some (.box cs)→o∈pins)
  (hI:∀l,I=some l→∀o ob,aV m o=some ob→o∈l∧o∈pins) (hW:W P n I vc (aJK rs fresh (aV m) r hout) (dV (N1 0 vs)) (aV m)):Fun P f fresh pins vs (aV m) r hout:=by
 obtain⟨c,hb,hc⟩:=ak.1 hc
 rw[←a2Q]at hW
 exact Fun.of_W hf hb hn hc hr hk hb' hI hW
theorem Fun.of_walk0{f:FuncId}{fn:Func}{n:Nat}{vc:VC}{rs:List VR}{fresh:Bool}{vs:List V}{r:V}(hf:P.funcs[f]? = some fn)(hc:(fn.body.bind fun c=>mJ P n c)=some vc)
  (hn:n=vs.length+(fn.ntmps-vs.length)) (hr:fn.results.toList.mapM (L3 P)=some rs)
  (hW:W P n (some []) vc (aJK rs fresh noHeap r noHeap) (dV (N1 0 vs)) (aV [])):Fun P f fresh [] vs noHeap r noHeap :=
 Fun.of_walk (m:=[]) [] (some []) hf hc hn hr (fun o h=>by simp at h) (fun o cs h=>by simp[aV,noHeap]at h) (fun l _ o ob h=>by simp[aV,noHeap]at h) hW
end
end Go.VM
namespace Go.VM
def gOk(l:L):Option (Nat×Bool)→Prop
 | none=>True
 | some (t,b)=>look l t=bV b
inductive SlV{α:Type}(m:M)(tc:α→List T)(k:Nat)(xs:List α):V→Prop
 | tree:SlV m tc k xs (.c (.imm (.sl k (xs.map tc))))
 | own (o:Oid) (e:TypeId):d6 m o=some (.arr e k (xs.map tc))→SlV m tc k xs (.c (.slO o))
 | nil:xs=[]→SlV m tc k xs (.c .nilS)
section
variable {P:Program} {l:L} {m:M} {α:Type} {tc:α→List T} {kk:Env→Heap→Prop}
theorem aW{S:a5z}(hS:∀dst op Γ h k,l6 P dst op Γ h k→S dst op Γ h k){dst:Option Nat}{op:VO}{g:Option (Nat×Bool)}{rest:List VOp}{k:Env→Heap→Prop}(hg:gOk l g)
  (h:l6 P dst op (dV l) (aV m) fun Γ h=>jX S rest Γ h k):jX S (⟨dst,op,g⟩::rest) (dV l) (aV m) k:=by
 simp only[jX,AQ]
 cases g with
 | none=>exact hS _ _ _ _ _ h
 | some tb =>
  obtain⟨t,b⟩:=tb
  exact .inl ⟨by rw[sV];exact hg,hS _ _ _ _ _ h⟩
theorem H5{dst:Option Nat}{op:VO}{r:V}(hq:qP P (aV m) (ev (dV l)) op r)(he:Dx op=false)(hc:∀f args,op ≠ .call f args)(hk:kk (dV (Hj dst r l)) (aV m)):l6 P dst op (dV l) (aV m) kk:=by
 rw[mV]at hk
 cases op<;>first
  | exact absurd rfl (hc _ _)
  | exact hq.elim
  | (refine absurd he ?_;simp[Dx];done)
  | exact⟨r,hq,hk⟩
theorem a6X{β:Type}(f:α→β){xs:List α}{j:Int}{y:α}(h:idx xs j=some y):idx (xs.map f) j=some (f y):=by
 unfold idx at h ⊢
 split at h
 ·rename_i h0;rw[if_pos h0];simp[h]
 ·simp at h
theorem iK{xs:List α}{j:Int}{y:α}(h:idx xs j=some y):0≤j∧xs[j.toNat]? = some y∧j.toNat<xs.length:=by
 unfold idx at h
 split at h
 ·rename_i h0;exact⟨h0,h,(dw.1 h).1⟩
 ·simp at h
theorem dz{dst:Option Nat}{k:Nat}{x i:Opd}{kk0:IntKind}(xs:List α){j:Int}{y:α}(hx:ev (look l) x = .c (.imm (.sl k (xs.map tc))))(hi:ev (look l) i=scV (.int kk0 j))(hy:idx xs j=some y)
  (hk:kk (dV (Hj dst (.c (.ptrI (tc y))) l)) (aV m)):l6 P dst (.ixA k x i) (dV l) (aV m) kk:=by
 refine H5 ⟨j,⟨kk0,by rw[jJ];exact hi⟩,?_⟩ rfl (by simp) hk
 rw[jJ,hx]
 exact⟨rfl,tc y,a6X tc hy,rfl⟩
theorem pW{dst:Option Nat}{k:Nat}{x i:Opd}{kk0:IntKind}(xs:List α){o:Oid}{e:TypeId}{j:Int}{y:α}(hx:ev (look l) x = .c (.slO o))(hm:d6 m o=some (.arr e k (xs.map tc)))(hi:ev (look l) i=scV (.int kk0 j))(hy:idx xs j=some y)
  (hk:kk (dV (Hj dst (.c (.elO o k j.toNat 0)) l)) (aV m)):l6 P dst (.ixA k x i) (dV l) (aV m) kk:=by
 obtain⟨h0,_,hlt⟩:=iK hy
 refine H5 ⟨j,⟨kk0,by rw[jJ];exact hi⟩,?_⟩ rfl (by simp) hk
 rw[jJ,hx]
 exact⟨e,_,by rw[fK];exact hm,h0,by simpa using hlt,rfl⟩
theorem zW{dst:Option Nat}{n:Nat}{g:Bool}{x:Opd}{o:Oid}{e:TypeId}{k i off:Nat}(xs:List α){y:α}(hx:ev (look l) x = .c (.elO o k i off))(hm:d6 m o=some (.arr e k (xs.map tc)))(hy:xs[i]? = some y)
  (hl:Nat.ble (off+n) (tc y).length=true) (hk:kk (dV (Hj dst (acQ (mkV g ((((tc y).drop off).take n).map .imm))) l)) (aV m)):l6 P dst (.load n g x) (dV l) (aV m) kk:=by
 rw[L4]at hk
 refine H5 ⟨_,?_,rfl⟩ rfl (by simp) hk
 rw[jJ,hx]
 simp only[rd,fK,hm,jw]
 simp[hy,Nat.le_of_ble_eq_true hl]
theorem OX{dst:Option Nat}{n:Nat}{x v:Opd}{o:Oid}{e:TypeId}{k i off:Nat}(xs:List α){y:α}(y':α){cs:List C}{ts:List T}(hx:ev (look l) x = .c (.elO o k i off))(hm:d6 m o=some (.arr e k (xs.map tc)))(hy:xs[i]? = some y)
  (hv:kW (ev (look l) v)=some cs) (hn:Nat.beq cs.length n=true) (ht:azY cs=some ts) (hl:Nat.ble (off+ts.length) (tc y).length=true) (hs:Oq (tc y) off ts=tc y')
  (hk:kk (dV (Hj dst .junk l)) (aV (SQ m o (.arr e k ((xs.set i y').map tc))))):l6 P dst (.store n x v) (dV l) (aV m) kk:=by
 rw[mV,Q9 _ _ _ rfl]at hk
 refine⟨fun hx=>by simp[J2]at hx,_,_,⟨cs,by rw[jJ];exact hv,Nat.eq_of_beq_eq_true hn,?_,rfl⟩,hk⟩
 rw[jJ,hx]
 refine⟨e,_,tc y,ts,by rw[fK];exact hm,by simp[hy],Zq ht,Nat.le_of_ble_eq_true hl,?_⟩
 rw[hs,List.map_set]
theorem d0{dst:Option Nat}{x:Opd}{k:Nat}(xs:List α)(hx:SlV m tc k xs (ev (look l) x))(hk:kk (dV (Hj dst (iV (xs.length:Int)) l)) (aV m)):l6 P dst (.lenS x) (dV l) (aV m) kk:=by
 refine H5 ⟨(xs.length:Int),?_,rfl⟩ rfl (by simp) hk
 rw[jJ]
 generalize ev (look l) x=v at hx
 cases hx with
 | tree=>simp[ayW]
 | own o e h=>simp[ayW,fK,h]
 | nil h=>subst h;simp[ayW]
theorem SlV.src{k:Nat}{xs:List α}{v:V}(h:SlV m tc k xs v):a4j (aV m) k v (xs.map tc):=by
 cases h with
 | tree=>exact⟨rfl,rfl⟩
 | own o e h=>exact⟨e,by rw[fK];exact h⟩
 | nil h=>subst h;rfl
def Ej(b:Nat)(n:Nat):Bool:=Nat.ble (n*b) 140737488355328&&Nat.ble n 9223372036854775807
theorem a4Q{b n:Nat}(h:Ej b n=true):n*b≤140737488355328∧n≤9223372036854775807:=by
 simp only[Ej,cw]at h
 exact⟨Nat.le_of_ble_eq_true h.1,Nat.le_of_ble_eq_true h.2⟩
theorem BK{dst:Option Nat}{e:TypeId}{k b:Nat}{s x:Opd}{o:Oid}(xs ys:List α)(hs:ev (look l) s = .c (.slO o))(hm:d6 m o=some (.arr e k (xs.map tc)))(hx:SlV m tc k ys (ev (look l) x))(hr:Ej b (xs.length+ys.length)=true)
  (hf:(BV (dst.getD 999,0) l&&AZ (dst.getD 999,0) m)=true) (hk:kk (dV (Hj dst (.c (.slO (dst.getD 999,0))) l)) (aV (((dst.getD 999,0),.arr e k ((xs++ys).map tc))::aEx m o))):l6 P dst (.app e k b s x) (dV l) (aV m) kk:=by
 rw[mV]at hk
 rw[cw]at hf
 obtain⟨h1,h2⟩:=a4Q hr
 refine⟨fun _=>EX hf.1 hf.2,_,_,⟨ys.map tc,?_,.inr ⟨o,xs.map tc,by rw[jJ];exact hs,by rw[fK];exact hm,by simpa using h1,by simpa using h2,rfl,rfl⟩⟩,?_⟩
 ·rw[jJ];exact hx.src
 ·rw[←aKz,←List.map_append];exact hk
theorem cJ{dst:Option Nat}{f:FuncId}{args:List Opd}{fresh:Bool}{us:List V}{r:V}(hF:Fun P f fresh [] us noHeap r noHeap)(hs:H4 (aV m) (args.map (ev (look l))) us)(hr:r.refs=[])
  (h3:fresh=true∨acj r=true∨H4 noHeap (args.map (ev (look l))) us) (hk:kk (dV (Hj dst r l)) (aV m)):l6 P dst (.call f args) (dV l) (aV m) kk:=by
 rw[mV]at hk
 refine⟨r,.inl ⟨fresh,us,hF,?_,hr,?_⟩,hk⟩
 ·rw[jJ];exact hs
 ·rw[jJ];exact h3
def Kz(xs:List α)(lo hi:Int):Option (List α):=if 0≤lo∧lo≤hi∧hi≤(xs.length:Int)then some ((xs.take hi.toNat).drop lo.toNat)else none
def bnd(e:Opd→V)(d:Int):Option Opd→Int→Prop:=Iq e d
theorem biQ{dst:Option Nat}{k:Nat}{x:Opd}{lo hi:Option Opd}(xs:List α){a b:Int}{ys:List α}(hx:ev (look l) x = .c (.imm (.sl k (xs.map tc))))(hlo:Iq (ev (look l)) 0 lo a)(hhi:Iq (ev (look l)) (xs.length:Int) hi b)
  (hp:Kz xs a b=some ys) (hk:kk (dV (Hj dst (.c (.imm (.sl k (ys.map tc)))) l)) (aV m)):l6 P dst (.sub k x lo hi) (dV l) (aV m) kk:=by
 unfold Kz at hp
 split at hp
 ·rename_i hc
  cases hp
  refine H5 ⟨xs.map tc,a,b,.inl (by rw[jJ];exact hx),by rw[jJ];exact hlo,by rw[jJ];simpa using hhi,hc.1,hc.2.1,by simpa using hc.2.2,rfl⟩ rfl (by simp) ?_
  rw[←List.map_take,←List.map_drop]
  exact hk
 ·simp at hp
end
section
variable {α β γ:Type}
theorem bT{e:Bool}{A B:Option α}{r:α}(h:e=true)(hF:(bif e then A else B)=some r):A=some r:=by subst h;exact hF
theorem bF{e:Bool}{A B:Option α}{r:α}(h:e=false)(hF:(bif e then A else B)=some r):B=some r:=by subst h;exact hF
theorem bB{o:Option β}{f:β→Option α}{r:α}(hF:o.bind f=some r):∃y,o=some y∧f y=some r:=ak.1 hF
theorem bT'{e:Bool}{A B:Option α}{K:α→Option γ}{r:γ}(h:e=true)(hF:(bif e then A else B).bind K=some r):A.bind K=some r:=by subst h;exact hF
theorem bF'{e:Bool}{A B:Option α}{K:α→Option γ}{r:γ}(h:e=false)(hF:(bif e then A else B).bind K=some r):B.bind K=some r:=by subst h;exact hF
theorem bB'{o:Option β}{f:β→Option α}{K:α→Option γ}{r:γ}(hF:(o.bind f).bind K=some r):∃y,o=some y∧(f y).bind K=some r:=by
 cases o with
 | none=>simp at hF
 | some y=>exact⟨y,rfl,hF⟩
end
end Go.VM
namespace Go.VM
theorem a2J(h:Heap):∀o ob,noHeap o=some ob→h o=some ob:=fun o ob h=>by simp[noHeap]at h
section
variable {P:Program} {n:Nat} {I:Option (List Oid)} {Q:Exit→Env→Heap→Prop} {l l':L} {m m':M}
def PJ(n:Nat)(I:Option (List Oid))(l:L)(m:M)(l':L)(m':M):Prop:=Sim n I (dV l) (aV m) (dV l') (aV m')
theorem P5(hl:AgL l l')(hm:AgM m m'):PJ n I l m l' m':=Weak.sim (a6K hl hm)
theorem cW{S β:Type}{F:Option S}{K:S→Option β}{r:β}{Q':Exit→Env→Heap→Prop}{x y:VC}(hQ:∀Γ h,W P n I y Q' Γ h→Q .normal Γ h)(hF:F.bind K=some r)(ls:S→L)(ms:S→M)
  (rest:∀s,K s=some r→W P n I y Q' (dV (ls s)) (aV (ms s)))
  (first:(∀s l0 m0,K s=some r→PJ n I l0 m0 (ls s) (ms s)→W P n I y Q' (dV l0) (aV m0))→F.bind K=some r→W P n I x Q (dV l) (aV m)) :
  W P n I x Q (dV l) (aV m) :=
 first (fun s _ _ hK hs=>bcj hs (rest s hK)) hF
theorem eZ{S τ ρ β:Type}{step:S→Option (S ⊕ ρ)}{K:ρ→Option β}{s0:S}{r:β}{Q':Exit→Env→Heap→Prop}{b y:VC}{id:Nat}(hQ:∀Γ h,W P n I y Q' Γ h→Q .normal Γ h)(hF:(loop step s0).bind K=some r)(inj:τ→ρ)(ls:S→L)(ms:S→M)(lx:τ→L)(mx:τ→M)
  (h0:PJ n I l m (ls s0) (ms s0))
  (rest:∀t,K (inj t)=some r→W P n I y Q' (dV (lx t)) (aV (mx t)))
  (body:∀s x,step s=some x →
   (∀s' l' m',x = .inl s'→PJ n I l' m' (ls s') (ms s')→∃s'',x = .inl s''∧Sim n I (dV l') (aV m') (dV (ls s'')) (aV (ms s''))) →
   (∀t l' m',x = .inr (inj t)→PJ n I l' m' (lx t) (mx t)→W P n I y Q' (dV l') (aV m'))→(∀t,x = .inr t→K t=some r) →
   W P n I b (aEz (fun Γ' h'=>∃s',x = .inl s'∧Sim n I Γ' h' (dV (ls s')) (aV (ms s'))) (aax id Q)) (dV (ls s)) (aV (ms s))) :
  W P n I (.block id (.loop b)) Q (dV l) (aV m):=by
 obtain⟨t,hL,hK⟩:=ak.1 hF
 refine c7 (a3Q hL (fun s=>dV (ls s)) (fun s=>aV (ms s)) h0 fun s x hs hr=>body s x hs ?_ ?_ ?_)
 ·intro s' l' m' hx hsim;exact⟨s',hx,hsim⟩
 ·intro t' l' m' hx hsim
  have:=hr _ hx
  rw[←this]at hK
  exact bcj hsim (rest _ hK)
 ·intro t' hx
  rw[hr _ hx];exact hK
theorem aMY{S ρ:Type}{step:S→Option (S ⊕ ρ)}{s0:S}{r:ρ}{b:VC}{id:Nat}(hF:loop step s0=some r)(ls:S→L)(ms:S→M)
  (h0:PJ n I l m (ls s0) (ms s0))
  (body:∀s x,step s=some x →
   (∀s' l' m',x = .inl s'→PJ n I l' m' (ls s') (ms s')→∃s'',x = .inl s''∧Sim n I (dV l') (aV m') (dV (ls s'')) (aV (ms s''))) →
   (∀t,x = .inr t→some t=some r) →
   W P n I b (aEz (fun Γ' h'=>∃s',x = .inl s'∧Sim n I Γ' h' (dV (ls s')) (aV (ms s'))) (aax id Q)) (dV (ls s)) (aV (ms s))) :
  W P n I (.block id (.loop b)) Q (dV l) (aV m):=by
 refine c7 (a3Q hF (fun s=>dV (ls s)) (fun s=>aV (ms s)) h0 fun s x hs hr=>body s x hs ?_ ?_)
 ·intro s' l' m' hx hsim;exact⟨s',hx,hsim⟩
 ·intro t' hx
  rw[hr _ hx]
theorem aq{k:Env→Heap→Prop}{id:Nat}{Γ:Env}{h:Heap}(hq:Q (.exit id) Γ h):aEz k Q (.exit id) Γ h:=hq
theorem bj{id:Nat}{Γ:Env}{h:Heap}(hq:Q .normal Γ h):aax id Q (.exit id) Γ h:=by simp only[aax,jw];exact hq
theorem SP:∀dst op Γ h k,l6 P dst op Γ h k→l6 P dst op Γ h k:=fun _ _ _ _ _ h=>h
theorem aOJ{c:Opd}{x y:VC}{t:Bool}(hc:ev (look l) c=bV t)(hx:t=true→W P n I x Q (dV l) (aV m))(hy:t=false→W P n I y Q (dV l) (aV m)):W P n I (.cond c x y) Q (dV l) (aV m) :=
 bhx (by rw[jJ];exact hc) hx hy
theorem bA{α β γ:Type}{T:Option α}{K1:α→Option β}{K2:β→Option γ}{r:γ}(h:(T.bind K1).bind K2=some r):T.bind (fun s=>(K1 s).bind K2)=some r:=by cases T with
 | none=>simp at h
 | some t=>exact h
theorem a0K{α:Type}{c:Bool}{A:Option α}{r:α}(h:(bif c then A else none)=some r):c=true∧A=some r:=by cases c<;>simp_all
theorem EW{α γ:Type}{c:Bool}{A:Option α}{K:α→Option γ}{r:γ}(h:(bif c then A else none).bind K=some r):c=true∧A.bind K=some r:=by cases c<;>simp_all
def Rq(a b o:Oid):Oid:=bif o5 o a then b else bif o5 o b then a else o
theorem avj(a b o:Oid):Rq a b (Rq a b o)=o:=by
 unfold Rq
 cases h1:o5 o a with
 | true =>
  have:=F0.1 h1;subst this
  simp only[cond_true]
  cases h2:o5 b o with
  | true=>have:=F0.1 h2;subst this;simp
  | false=>simp only[cond_false,show o5 b b=true from F0.2 rfl,cond_true]
 | false =>
  simp only[cond_false]
  cases h2:o5 o b with
  | true =>
   have:=F0.1 h2;subst this
   simp only[cond_true,show o5 a a=true from F0.2 rfl]
  | false=>simp only[cond_false,h1,h2]
def aJj(σ:Oid→Oid):L→L
 | []=>[]
 | p::r=>(p.1,acQ (G5 σ p.2))::aJj σ r
def Ez(σ:Oid→Oid):M→M
 | []=>[]
 | p::r=>(σ p.1,F4 σ p.2)::Ez σ r
theorem ayX(σ:Oid→Oid):∀l:L,(fun t=>G5 σ (dV l t))=dV (aJj σ l)
 | []=>rfl
 | p::r=>by
  funext t
  have ih:=congrFun (ayX σ r) t
  rw[sV]at ih ⊢
  rw[sV]at ih ⊢
  simp only[look,aJj,L4]
  cases Nat.beq t p.1 with
  | true=>rfl
  | false=>exact ih
theorem aDz{σ:Oid→Oid}{c:C}(h:∀o∈c.refs,σ o=o):R2 σ c=c:=by
 cases c with
 | slO o=>simp only[R2,h o (by simp[C.refs])]
 | ptrO o off=>simp only[R2,h o (by simp[C.refs])]
 | elO o k i off=>simp only[R2,h o (by simp[C.refs])]
 | mapO o=>simp only[R2,h o (by simp[C.refs])]
 | fn f caps =>
  simp only[R2]
  congr 1
  refine(List.map_congr_left (g:=id) (fun x hx=>?_)).trans (List.map_id _)
  cases x with
  | ptr o=>simp only[alQ,h o (by simp only[C.refs];exact nk.2 ⟨_,hx,by simp[Cap.refs]⟩)];rfl
  | imm t=>rfl
 | _=>rfl
theorem arz{σ:Oid→Oid}{cs:List C}(h:∀o∈cs.flatMap C.refs,σ o=o):cs.map (R2 σ)=cs :=
 (List.map_congr_left (g:=id) (fun x hx=>aDz fun o ho=>h o (nk.2 ⟨x,hx,ho⟩))).trans (List.map_id _)
theorem aWJ{σ:Oid→Oid}{ob:Ob}(h:∀o∈ob.refs,σ o=o):F4 σ ob=ob:=by
 cases ob with
 | arr=>rfl
 | map=>rfl
 | fam=>rfl
 | box cs=>simp only[F4];rw[arz h]
 | mapC kd es =>
  simp only[F4]
  congr 1
  exact(List.map_congr_left (g:=id) (fun p hp=>by rw[aDz fun o ho=>h o (by simp only[Ob.refs];exact nk.2 ⟨p,hp,ho⟩)];rfl)).trans (List.map_id _)
 | arrC e k rows =>
  simp only[F4]
  congr 1
  refine(List.map_congr_left (g:=id) (fun r hr=>?_)).trans (List.map_id _)
  exact arz fun o ho=>by
   obtain⟨c,hc,hco⟩:=nk.1 ho
   exact h o (by simp only[Ob.refs];exact nk.2 ⟨c,List.mem_flatten.2 ⟨r,hr,hc⟩,hco⟩)
theorem aRX(σ:Oid→Oid)(ob:Ob):sj (F4 σ ob)=sj ob:=by cases ob<;>rfl
theorem aKZ{σ:Oid→Oid}(hr:∀o,A8 o=true→σ o=o)(G:Oid→Option Ob)(o:Oid):(JV G o).map (F4 σ)=JV G o:=by
 cases h:JV G o with
 | none=>rfl
 | some ob =>
  obtain⟨_,_,h3⟩:=SY h
  simp only[Option.map_some]
  rw[aWJ fun p hp=>hr p (h3 p hp)]
theorem Nx(σ:Oid→Oid)(hσ:∀o,σ (σ o)=o)(hr:∀o,A8 o=true→σ o=o):∀m:M,(fun o=>(aV m (σ o)).map (F4 σ))=aV (Ez σ m)
 | []=>rfl
 | p::r=>by
  funext o
  have ih:(aV r (σ o)).map (F4 σ)=aV (Ez σ r) o:=congrFun (Nx σ hσ hr r) o
  rw[fK,fK]at ih ⊢
  simp only[d6,Ez]
  have e:o5 (σ o) p.1=o5 o (σ p.1):=by
   rw[Bool.eq_iff_iff,F0,F0]
   exact⟨fun h=>by rw[←h,hσ],fun h=>by rw[h,hσ]⟩
  rw[e,aRX]
  cases hx:sj p.2 with
  | some G =>
   cases ho:A8 o with
   | true=>simp only[hr o ho,ho,cond_true,aKZ hr]
   | false =>
    have:A8 (σ o)=false:=by
     cases h2:A8 (σ o)with
     | false=>rfl
     | true=>have:=hr _ h2;rw[hσ]at this;rw[←this,ho]at h2;simp at h2
    simp only[this,cond_false]
    exact ih
  | none =>
  cases o5 o (σ p.1)with
  | true=>rfl
  | false=>exact ih
theorem xz(a b:Oid)(ha:(Nat.blt a.1 1000 && !A8 a)=true)(hb:(Nat.blt b.1 1000 && !A8 b)=true)(h:PJ n I (aJj (Rq a b) l) (Ez (Rq a b) m) l' m'):PJ n I l m l' m':=by
 simp only[cw,mw]at ha hb
 have ha':a.1<1000:=by simpa using ha.1
 have hb':b.1<1000:=by simpa using hb.1
 have hres:∀o,A8 o=true→Rq a b o=o:=by
  intro o ho
  unfold Rq
  cases h1:o5 o a with
  | true=>rw[F0.1 h1,ha.2]at ho;simp at ho
  | false =>
   cases h2:o5 o b with
   | true=>rw[F0.1 h2,hb.2]at ho;simp at ho
   | false=>rfl
 refine Sim.trans (Γ':=dV (aJj (Rq a b) l)) (h':=aV (Ez (Rq a b) m)) ?_ h
 rw[←ayX,←Nx (Rq a b) (avj a b) hres]
 refine Sim.ren (Rq a b) (avj a b) fun o ho=>?_
 unfold Rq
 cases h1:o5 o a with
 | true=>have:=F0.1 h1;subst this;omega
 | false =>
  cases h2:o5 o b with
  | true=>have:=F0.1 h2;subst this;omega
  | false=>rfl
theorem Nq(t:Nat)(o:Oid)(e k:Nat)(ht:look l t = .c .nilS)(hk:Nat.blt 0 k=true)(hf:(BV o l&&AZ o m)=true)(ho:Nat.blt o.1 1000=true)(h:PJ n I ((t,.c (.slO o))::l) ((o,.arr e k [])::m) l' m'):PJ n I l m l' m':=by
 rw[cw]at hf
 have ho':o.1<1000:=by simpa using ho
 have hk':0<k:=by simpa using hk
 exact Sim.trans (Sim.own e k (by rw[sV];exact ht) hk' (EX hf.1 hf.2) ho') h
theorem pX(p:Oid)(cs:List C)(j:Nat)(o:Oid)(e k:Nat)(hp:d6 m p=some (.box cs))(hj:cs[j]? = some .nilS)(hk:Nat.blt 0 k=true)(hf:(BV o l&&AZ o m)=true)(ho:Nat.blt o.1 1000=true)
  (h:PJ n I l (SQ ((o,.arr e k [])::m) p (.box (cs.set j (.slO o)))) l' m'):PJ n I l m l' m':=by
 rw[cw]at hf
 have ho':o.1<1000:=by simpa using ho
 have hk':0<k:=by simpa using hk
 refine Sim.trans (Sim.ownBox e k (by rw[fK];exact hp) hj hk' (EX hf.1 hf.2) ho') ?_
 have:((aV m).put o (.arr e k [])).put p (.box (cs.set j (.slO o)))=aV (SQ ((o,.arr e k [])::m) p (.box (cs.set j (.slO o)))):=by rw[Q9 _ _ _ rfl];rfl
 rw[this];exact h
end
end Go.VM
namespace Go.VM
def aAx(P:Program)(E:TypeId→Nat→Option (List TypeDesc)):List Field→Nat→Nat→Option (List TypeDesc)
 | [],off,n=>if off=n then some []else none
 | f :: fs, off, n => if f.name ≠ "_" ∧ f.offset = off then (P.info? f.type).bind fun i => (E f.type i.size).bind fun a => (aAx P E fs (off + i.size) n).map (a ++ ·) else none
def eqTy(P:Program):Nat→TypeId→Nat→Option (List TypeDesc)
 | 0,_,_=>none
 | d+1,t,n=>match P.underlying t with
  | some .bool=>if n=1 then some [.bool]else none
  | some (.int k)=>if n=1 then some [.int k]else none
  | some .string=>if n=1 then some [.string]else none
  | some (.struct fs)=>if P.stoodInHeld t=true then none else aAx P (eqTy P d) fs.toList 0 n
  | _=>none
def vOf(P:Program)(t:TypeId)(cs:List Value):Value :=
 match P.underlying t with
 | some (.struct _)=>.agg cs.toArray
 | some (.array _ _)=>.agg cs.toArray
 | _=>cs.headD undef
theorem axX:∀ {cs ds:List Value} {b:Bool},eqL cs ds=some b→cs.length=ds.length
 | [],[],_,_=>rfl
 | [],_::_,_,h=>by simp[eqL]at h
 | _::_,[],_,h=>by simp[eqL]at h
 | _::cs,_::ds,b,h=>by
  simp only[eqL,ak,aw]at h
  obtain⟨_,_,y,hy,_⟩:=h
  simp[axX hy]
theorem aaZ:∀(k:Nat) {cs ds:List Value} {b:Bool},eqL cs ds=some b→∃b1 b2,eqL (cs.take k) (ds.take k)=some b1∧eqL (cs.drop k) (ds.drop k)=some b2∧b=(b1&&b2)
 | 0,cs,ds,b,h=>⟨true,b,rfl,by simpa using h,by simp⟩
 | k+1,[],[],b,h=>by simp[eqL]at h;subst h;exact⟨true,true,rfl,rfl,rfl⟩
 | k+1,[],_::_,_,h=>by simp[eqL]at h
 | k+1,_::_,[],_,h=>by simp[eqL]at h
 | k+1,c::cs,d::ds,b,h=>by
  simp only[eqL,ak,aw]at h
  obtain⟨x,hx,y,hy,rfl⟩:=h
  obtain⟨b1,b2,h1,h2,rfl⟩:=aaZ k hy
  exact⟨x&&b1,b2,by simp[eqL,hx,h1],by simpa using h2,by simp[Bool.and_assoc]⟩
theorem fits_len:∀ {sh:List TypeDesc} {cs:List Value},fits sh cs=true→sh.length=cs.length
 | [],[],_=>rfl
 | [],_::_,h=>by simp[fits]at h
 | _::_,[],h=>by simp[fits]at h
 | _::sh,_::cs,h=>by simp only[fits,cw]at h;simp[fits_len h.2]
theorem Vq:∀ {a b:List TypeDesc} {cs:List Value},fits (a++b) cs=true→fits a (cs.take a.length)=true∧fits b (cs.drop a.length)=true
 | [],b,cs,h=>⟨rfl,by simpa using h⟩
 | x::a,b,[],h=>by simp[fits]at h
 | x::a,b,c::cs,h=>by
  simp only[List.cons_append,fits,cw]at h
  obtain⟨h1,h2⟩:=Vq h.2
  exact⟨by simp[fits,h.1,h1],by simpa using h2⟩
section
variable {P:Program}
theorem aoX{E:TypeId→Nat→Option (List TypeDesc)}(hE:∀t n sh,E t n=some sh→sh.length=n):∀(fs:List Field) (off n:Nat) (sh:List TypeDesc),aAx P E fs off n=some sh→off+sh.length=n
 | [],off,n,sh,h=>by
  simp only[aAx]at h
  split at h
  ·cases h;simpa
  ·simp at h
 | f::fs,off,n,sh,h=>by
  simp only[aAx]at h
  split at h
  ·simp only[ak,aw]at h
   obtain⟨i,_,a,ha,b,hb,rfl⟩:=h
   have h1:=hE _ _ _ ha
   have h2:=aoX hE fs _ _ _ hb
   simp;omega
  ·simp at h
theorem eqTy_len:∀(d:Nat) (t:TypeId) (n:Nat) (sh:List TypeDesc),eqTy P d t n=some sh→sh.length=n
 | 0,_,_,_,h=>by simp[eqTy]at h
 | d+1,t,n,sh,h=>by
  simp only[eqTy]at h
  split at h
  ·split at h
   ·cases h;simp;omega
   ·simp at h
  ·split at h
   ·cases h;simp;omega
   ·simp at h
  ·split at h
   ·cases h;simp;omega
   ·simp at h
  ·split at h
   ·simp at h
   ·have:=aoX (eqTy_len d) _ _ _ _ h;omega
  ·simp at h
theorem TW{t:TypeId}{i:TypeInfo}(hi:P.info? t=some i){d:Nat}{sh:List TypeDesc}(he:eqTy P d t i.size=some sh)(xs:List Value)(off:Nat)(hl:off+i.size≤xs.length)(w:World) :
  (part t xs.toArray off).run P w = .ok (vOf P t ((xs.drop off).take i.size)) w:=by
 cases d with
 | zero=>simp[eqTy]at he
 | succ d =>
  unfold eqTy at he
  have one:∀dd,P.underlying t=some dd→(∀fs,dd ≠ .struct fs)→(∀m e,dd ≠ .array m e)→i.size=1→(part t xs.toArray off).run P w = .ok (vOf P t ((xs.drop off).take i.size)) w:=by
   intro dd hd h1 h2 hs
   have hlt:off<xs.length:=by omega
   have hv:vOf P t ((xs.drop off).take i.size)=xs[off]:=by
    unfold vOf
    rw[hd,hs]
    cases dd<;>first | exact absurd rfl (h1 _) | exact absurd rfl (h2 _ _) | (rw[List.drop_eq_getElem_cons hlt];rfl)
   rw[hv]
   have hag:(isAgg t).run P w = .ok false w:=by
    unfold isAgg
    cases dd<;>first | exact absurd rfl (h1 _) | exact absurd rfl (h2 _ _) | simp[run_underlying hd]
   simp[part,hag,hlt]
  split at he
  ·split at he
   ·exact one _ ‹_› (by simp) (by simp) ‹_›
   ·simp at he
  ·split at he
   ·exact one _ ‹_› (by simp) (by simp) ‹_›
   ·simp at he
  ·split at he
   ·exact one _ ‹_› (by simp) (by simp) ‹_›
   ·simp at he
  ·rename_i fs hd
   have hag:(isAgg t).run P w = .ok true w:=by simp[isAgg,run_underlying hd]
   have hv:vOf P t ((xs.drop off).take i.size) = .agg ((xs.drop off).take i.size).toArray:=by unfold vOf;rw[hd]
   rw[hv]
   simp[part,hag,sizeOf,typeInfo,hi]
  ·simp at he
theorem aAQ{D d:Nat}(ih:∀t n sh,eqTy P d t n=some sh→∀cs ds b w,fits sh cs=true→eqL cs ds=some b→(Op.equalIn D t (vOf P t cs) (vOf P t ds)).run P w = .ok b w)(xs ys:List Value)(n:Nat)(hx:xs.length=n)(hy:ys.length=n) :
  ∀(fs:List Field) (off:Nat) (sh:List TypeDesc) (b:Bool) (w:World),aAx P (eqTy P d) fs off n=some sh→fits sh (xs.drop off)=true→eqL (xs.drop off) (ys.drop off)=some b→(Op.eqFields D xs.toArray ys.toArray fs).run P w = .ok b w
 | [],off,sh,b,w,hf,hk,he=>by
  simp only[aAx]at hf
  split at hf
  ·rename_i e
   subst e
   rw[List.drop_eq_nil_of_le (by omega),List.drop_eq_nil_of_le (by omega)]at he
   simp[eqL]at he
   subst he
   rfl
  ·simp at hf
 | f::fs,off,sh,b,w,hf,hk,he=>by
  simp only[aAx]at hf
  split at hf
  ·rename_i hc
   simp only[ak,aw]at hf
   obtain⟨i,hi,a,ha,r,hr,rfl⟩:=hf
   have hla:=eqTy_len _ _ _ _ ha
   have hlr:=aoX (eqTy_len d) _ _ _ _ hr
   obtain⟨b1,b2,e1,e2,rfl⟩:=aaZ i.size he
   obtain⟨k1,k2⟩:=Vq hk
   rw[hla]at k1 k2
   rw[List.drop_drop]at k2
   rw[List.drop_drop,List.drop_drop]at e2
   have r1:=TW hi ha xs off (by omega) w
   have r2:=TW hi ha ys off (by omega) w
   have r3:=ih f.type i.size a ha _ _ b1 w k1 e1
   unfold Op.eqFields
   rw[if_pos hc.1,hc.2]
   simp only[Sem.run_bind,r1,r2,r3,Result.andThen_ok]
   cases b1 with
   | false=>simp
   | true=>simpa using aAQ ih xs ys n hx hy fs (off+i.size) r b2 w hr k2 e2
  ·simp at hf
theorem ayZ:∀(d D:Nat) (t:TypeId) (n:Nat) (sh:List TypeDesc),d≤D→eqTy P d t n=some sh→∀cs ds b w,fits sh cs=true→eqL cs ds=some b→(Op.equalIn D t (vOf P t cs) (vOf P t ds)).run P w = .ok b w
 | 0,_,_,_,_,_,h,_,_,_,_,_,_=>by simp[eqTy]at h
 | d+1,0,_,_,_,hd,_,_,_,_,_,_,_=>by omega
 | d+1,D+1,t,n,sh,hd,h,cs,ds,b,w,hk,he=>by
  have hlen:=fits_len hk
  have hshn:=eqTy_len _ _ _ _ h
  have hld:=axX he
  have single:∀kd,sh=[kd]→∃u v,cs=[u]∧ds=[v]∧keyOf kd u=true∧eqS u v=some b:=by
   intro kd hsh
   subst hsh
   match cs,ds,hlen,hld,hk,he with
   | [u],[v],_,_,hk,he =>
    simp only[fits,Bool.and_true]at hk
    simp only[eqL,ak,aw]at he
    obtain⟨x,hx,y,hy,rfl⟩:=he
    simp at hy;subst hy
    exact⟨u,v,rfl,rfl,hk,by simpa using hx⟩
  unfold eqTy at h
  split at h
  ·rename_i hu
   split at h
   ·cases h
    obtain⟨u,v,rfl,rfl,h1,h2⟩:=single _ rfl
    unfold vOf;rw[hu]
    cases u<;>simp[keyOf]at h1
    cases v<;>simp[eqS]at h2
    subst h2
    simp only[List.headD_cons]
    rw[run_equalIn_bool' w D t _ _ hu]
    congr 1
   ·simp at h
  ·rename_i k hu
   split at h
   ·cases h
    obtain⟨u,v,rfl,rfl,h1,h2⟩:=single _ rfl
    unfold vOf;rw[hu]
    cases u<;>simp[keyOf]at h1
    cases v<;>simp[eqS]at h2
    obtain⟨rfl,rfl⟩:=h2
    simp only[List.headD_cons]
    rw[run_equalIn_int w D t _ _ _ _ hu]
    congr 1
   ·simp at h
  ·rename_i hu
   split at h
   ·cases h
    obtain⟨u,v,rfl,rfl,h1,h2⟩:=single _ rfl
    unfold vOf;rw[hu]
    cases u<;>simp[keyOf]at h1
    cases v<;>simp[eqS]at h2
    subst h2
    rename_i x y
    simp only[List.headD_cons]
    rw[run_equalIn_string w D t _ _ hu,←beq_toListBytes]
    congr 1
    rw[Bool.eq_iff_iff,MapKept.bytes_beq];simp
   ·simp at h
  ·rename_i fs hu
   split at h
   ·simp at h
   ·rename_i hst
    have hfo:P.fieldsOf t=fs:=by simp[Program.fieldsOf,hu]
    have hv:∀l,vOf P t l = .agg l.toArray:=fun l=>by unfold vOf;rw[hu]
    rw[hv,hv,run_equalIn_struct w D t _ _ (by rw[hfo];exact hu) (by simpa using hst),hfo]
    exact aAQ (fun t n sh ht cs ds b w hk he=>ayZ d D t n sh (by omega) ht cs ds b w hk he) cs ds n (by omega) (by omega) fs.toList 0 sh b w h (by simpa using hk) (by simpa using he)
  ·simp at h
theorem eqOk_of{t:TypeId}{fs:Array Field}{n:Nat}{sh:List TypeDesc}(hu:P.underlying t=some (.struct fs))(hg:P.eqGuardType P.depth t=false)(h:eqTy P 100 t n=some sh):afK P t sh:=by
 refine⟨hg,fun cs ds b w he hf=>?_⟩
 have:=ayZ 100 10000 t n sh (by omega) h cs ds b w hf he
 unfold vOf at this
 rw[hu]at this
 exact this
theorem J0{l:L}{m:M}{kk:Env→Heap→Prop}{dst:Option Nat}{ne:Bool}{t:TypeId}{x y:Opd}{sh:List TypeDesc}{cs ds:List C}{b:Bool}(he:afK P t sh)(hx:ev (look l) x = .agg cs)(hy:ev (look l) y = .agg ds)(hf:aEZ sh cs=true)(hb:aqZ cs ds=some b)
  (hk:kk (dV (Hj dst (bV (b != ne)) l)) (aV m)):l6 P dst (.aeq ne t x y) (dV l) (aV m) kk :=
 H5 ⟨sh,he,cs,ds,b,by rw[jJ];exact hx,by rw[jJ];exact hy,hf,hb,rfl⟩ rfl (by simp) hk
end
end Go.VM
namespace Go.VM
section
variable {σ:Oid→Oid} (hσ:∀o,σ (σ o)=o)
include hσ
theorem aLX(c:Cap):alQ σ (alQ σ c)=c:=by cases c<;>simp[alQ,hσ]
theorem Yx(c:C):R2 σ (R2 σ c)=c:=by
 cases c<;>simp[R2,hσ]
 rename_i caps
 induction caps with
 | nil=>rfl
 | cons x r ih=>simp_all[aLX hσ x]
theorem T9(cs:List C):(cs.map (R2 σ)).map (R2 σ)=cs:=by
 induction cs with
 | nil=>rfl
 | cons x r ih=>simp only[List.map_cons,Yx hσ,ih]
theorem a3J(v:V):axV σ (axV σ v)=v:=by
 cases v with
 | c x=>simp[axV,Yx hσ]
 | agg cs=>simp only[axV,T9 hσ]
 | tup vs=>rfl
 | junk=>rfl
theorem a0Q(v:V):G5 σ (G5 σ v)=v:=by
 cases v with
 | c x=>simp[G5,axV,Yx hσ]
 | agg cs=>simp only[G5,axV,T9 hσ]
 | tup vs =>
  simp only[G5]
  congr 1
  induction vs with
  | nil=>rfl
  | cons x r ih=>simp only[List.map_cons,a3J hσ,ih]
 | junk=>rfl
theorem aVX(ob:Ob):F4 σ (F4 σ ob)=ob:=by
 cases ob with
 | arr e k rows=>rfl
 | box cs=>simp only[F4,T9 hσ]
 | map kd es=>rfl
 | mapC kd es =>
  simp only[F4,List.map_map]
  congr 1
  exact(List.map_congr_left (g:=id) (fun p _=>by simp only[Function.comp,Yx hσ];rfl)).trans (List.map_id _)
 | arrC e k rows =>
  simp only[F4,List.map_map]
  congr 1
  exact(List.map_congr_left (g:=id) (fun r _=>by simp only[Function.comp];exact T9 hσ r)).trans (List.map_id _)
 | fam G=>rfl
end
def RW(σ:Oid→Oid)(h:Heap):Heap:=fun o=>(h (σ o)).map (F4 σ)
theorem aEq{σ:Oid→Oid}(hσ:∀o,σ (σ o)=o)(h:Heap):RW σ (RW σ h)=h:=by
 funext o
 simp only[RW,hσ]
 cases h o with
 | none=>rfl
 | some ob=>simp[aVX hσ]
theorem Objs.ren{w:World}{ok:Nat→Prop}{B:Oid→Value}{h:Heap}{σ:Oid→Oid}(hσ:∀o,σ (σ o)=o)(ho:Objs w ok B h):Objs w ok (fun o=>B (σ o)) (RW σ h):=by
 refine⟨fun o ob hg=>?_,fun o o' ob ob' b hg hg' hb hb'=>?_⟩
 ·simp only[RW,aw]at hg
  obtain⟨ob',hg',rfl⟩:=hg
  exact(ho.rep (σ o) ob' hg').ren hσ
 ·simp only[RW,aw]at hg hg'
  obtain⟨ob1,h1,_⟩:=hg
  obtain⟨ob2,h2,_⟩:=hg'
  have:=congrArg σ (ho.apart _ _ ob1 ob2 b h1 h2 hb hb')
  simpa[hσ]using this
theorem aHx{B:Oid→Value}{h:Heap}{σ:Oid→Oid}(hσ:∀o,σ (σ o)=o)(b:Nat):BJ (fun o=>B (σ o)) (RW σ h) b↔BJ B h b:=by
 constructor
 ·rintro⟨o,ob,hg,hb⟩
  simp only[RW,aw]at hg
  obtain⟨ob',hg',_⟩:=hg
  exact⟨σ o,ob',hg',hb⟩
 ·rintro⟨o,ob,hg,hb⟩
  exact⟨σ o,F4 σ ob,by simp[RW,hσ,hg],by simpa[hσ]using hb⟩
theorem aEW{n0:Nat}{ok0:Nat→Prop}{w:World}{B:Oid→Value}{h:Heap}{σ:Oid→Oid}(hσ:∀o,σ (σ o)=o)(b:Nat):wj n0 ok0 w (fun o=>B (σ o)) (RW σ h) b↔wj n0 ok0 w B h b:=by
 unfold wj
 refine and_congr_right fun _=>and_congr_right fun _=>?_
 have:=aHx (B:=B) (h:=h) hσ b
 constructor
 ·intro hx o ob ho he;exact(let ⟨p,ob',hp,hb⟩:=this.2 ⟨o,ob,ho,he⟩;hx p ob' hp hb)
 ·intro hx o ob ho he;exact(let ⟨p,ob',hp,hb⟩:=this.1 ⟨o,ob,ho,he⟩;hx p ob' hp hb)
theorem Fun.ren{P:Program}{f:FuncId}{fresh:Bool}{pins:List Oid}{vs:List V}{hin hout:Heap}{r:V}(σ:Oid→Oid)(hσ:∀o,σ (σ o)=o)(hF:Fun P f fresh pins vs hin r hout) :
  Fun P f fresh (pins.map σ) (vs.map (G5 σ)) (RW σ hin) (G5 σ r) (RW σ hout):=by
 intro w ok B args hlt hbl hp hobjs
 have hp':Pt (RepV w ok fun o=>B (σ o)) args vs:=by
  have:=hp.map (R':=RepV w ok fun o=>B (σ o)) (f:=G5 σ) fun v x hr=>hr.ren hσ
  have e:(vs.map (G5 σ)).map (G5 σ)=vs:=by
   clear hF hp this
   induction vs with
   | nil=>rfl
   | cons x r ih=>simp only[List.map_cons,a0Q hσ,ih]
  rwa [e]at this
 have ho':=hobjs.ren hσ
 rw[aEq hσ]at ho'
 have hb1:∀b,BJ (fun o=>B (σ o)) hin b↔BJ B (RW σ hin) b:=fun b=>by
  have:=aHx (B:=B) (h:=RW σ hin) hσ b
  rwa [aEq hσ]at this
 refine(hF w ok (fun o=>B (σ o)) args hlt (fun b hb hx=>hbl b hb ((hb1 b).1 hx)) hp' ho').mono fun e w' he=>?_
 obtain⟨v,B',rfl,hfr,hrep,hobj,hblk,hpin⟩:=he
 refine⟨v,fun o=>B' (σ o),rfl,⟨hfr.os,hfr.tape,hfr.output,hfr.size,fun b hb hn=>hfr.block b hb fun hx=>hn ((hb1 b).1 hx)⟩,?_,?_,fun o ob b hg hb hl=>?_,fun o ho=>?_⟩
 ·refine(hrep.ren hσ).mono (fun _ _=>rfl) (fun b hb=>⟨(aEW hσ b).2 hb.1,hb.2⟩) fun _ _=>rfl
 ·have:=hobj.ren hσ
  exact⟨fun o ob hg=>(this.rep o ob hg).mono (fun _ _=>rfl) (fun b hb=>(aEW hσ b).2 hb) (fun _ _=>rfl) fun _ _=>rfl,this.apart⟩
 ·simp only[RW,aw]at hg
  obtain⟨ob',hg',_⟩:=hg
  exact(hb1 b).1 (hblk (σ o) ob' b hg' hb hl)
 ·obtain⟨p,hp,rfl⟩:=List.mem_map.1 ho
  simp only[hσ]
  rw[hpin p hp]
end Go.VM
namespace Go.VM
def FK:M→Bool
 | []=>true
 | p::r=>!(A8 p.1)&&(sj p.2).isNone&&FK r
theorem VQ{p:Oid×Ob}{r:M}(h:FK (p::r)=true):A8 p.1=false∧sj p.2=none∧FK r=true:=by
 simp only[FK,cw,mw,Option.isNone_iff_eq_none]at h
 exact⟨h.1.1,h.1.2,h.2⟩
theorem T8{o:Oid}(ho:A8 o=true):∀ {m:M},FK m=true→d6 m o=none
 | [],_=>rfl
 | p::r,h=>by
  obtain⟨h1,h2,h3⟩:=VQ h
  simp only[d6,h2]
  cases hb:o5 o p.1 with
  | true=>rw[F0.1 hb,h1]at ho;simp at ho
  | false=>exact T8 ho h3
def azQ(m mi mo:M):M:=mo++(m.filter fun p=>(sj p.2).isSome || !((d6 mi p.1).isSome||(d6 mo p.1).isSome))
theorem aFV(a b:M)(o:Oid)(ha:FK a=true):d6 (a ++ b) o=match d6 a o with | some x => some x | none => d6 b o := by
 induction a with
 | nil=>rfl
 | cons p r ih =>
  obtain⟨h1,h2,h3⟩:=VQ ha
  simp only[List.cons_append,d6,h2]
  cases o5 o p.1 with
  | true=>rfl
  | false=>exact ih h3
theorem acV(f:Oid→Bool)(hr:∀o,A8 o=true→f o=true)(m:M)(o:Oid):d6 (m.filter fun p=>(sj p.2).isSome||f p.1) o=if f o=true then d6 m o else none:=by
 induction m with
 | nil=>simp[d6]
 | cons p r ih =>
  simp only[List.filter_cons]
  cases hx:sj p.2 with
  | some G =>
   simp only[Option.isSome_some,Bool.true_or,jw,d6,hx]
   cases ho:A8 o with
   | true=>simp[hr o ho]
   | false=>simpa using ih
  | none =>
  simp only[Option.isSome_none,Bool.false_or]
  by_cases hf:f p.1=true
  ·rw[if_pos hf]
   simp only[d6,hx]
   cases hb:o5 o p.1 with
   | true=>have:=F0.1 hb;subst this;simp[hf]
   | false=>simpa using ih
  ·rw[if_neg hf,ih]
   simp only[d6,hx]
   cases hb:o5 o p.1 with
   | true=>have:=F0.1 hb;subst this;simp[hf]
   | false=>rfl
theorem auQ(m mi mo:M)(hi:FK mi=true)(ho:FK mo=true):aV (azQ m mi mo)=GY (aV m) (aV mi) (aV mo):=by
 funext o
 unfold azQ GY
 rw[fK,fK,fK,fK,aFV _ _ _ ho,acV (fun o=>!((d6 mi o).isSome||(d6 mo o).isSome)) (fun o h=>by simp[T8 h hi,T8 h ho])]
 cases d6 mo o with
 | some x=>rfl
 | none =>
  cases d6 mi o with
  | some y=>simp
  | none=>simp
def aJQ(o:Oid)(l:L)(m mi:M):Bool:=BV o l&&AZ o (m.filter fun p=>(sj p.2).isSome || !(d6 mi p.1).isSome)
theorem aBX{o:Oid}{l:L}{m mi:M}(hpl:FK mi=true)(h:aJQ o l m mi=true):aPV o (dV l) (aV m) (aV mi):=by
 simp only[aJQ,cw]at h
 have hf:=EX h.1 h.2
 refine⟨hf.env,fun p ob hp hi=>hf.heap p ob ?_⟩
 rw[fK]at hp hi ⊢
 rw[acV (fun o=>!(d6 mi o).isSome) (fun o h=>by simp[T8 h hpl]),if_pos (by simp[hi])]
 exact hp
def VY(pins:List Oid)(l:L)(m mi:M):M→Bool
 | []=>FK mi
 | p::r=>!(A8 p.1)&&(sj p.2).isNone&&(KK p.1 pins||(Nat.blt p.1.1 1000&&aJQ p.1 l m mi))&&VY pins l m mi r
theorem KW{pins:List Oid}{l:L}{m mi:M}:∀ {mo:M},VY pins l m mi mo=true→FK mi=true∧FK mo=true
 | [],h=>⟨h,rfl⟩
 | p::r,h=>by
  simp only[VY,cw]at h
  obtain⟨h1,h2⟩:=KW h.2
  exact⟨h1,by simp only[FK,cw];exact⟨h.1.1,h2⟩⟩
def TZ(pins:List Oid)(mo:M):List Oid→Bool
 | []=>true
 | p::r=>((d6 mo p).isSome||KK p pins)&&TZ pins mo r
def X8(pins:List Oid)(mo:M):M→Bool
 | []=>true
 | p::r=>TZ pins mo p.2.refs&&X8 pins mo r
theorem C7{o:Oid}:∀ {l:List Oid},KK o l=true→o∈l
 | [],h=>by simp[KK]at h
 | p::r,h=>by
  simp only[KK,Bool.or_eq_true]at h
  rcases h with h | h
  ·rw[F0.1 h];simp
  ·exact List.mem_cons_of_mem _ (C7 h)
theorem SZ{m:M}{o:Oid}{ob:Ob}(hp:FK m=true)(h:d6 m o=some ob):(o,ob)∈m:=by
 induction m with
 | nil=>simp[d6]at h
 | cons p r ih =>
  obtain⟨_,h2,h3⟩:=VQ hp
  simp only[d6,h2]at h
  cases hb:o5 o p.1 with
  | true=>simp only[hb,cond_true,bw]at h;rw[F0.1 hb,←h];simp
  | false=>simp only[hb,cond_false]at h;exact List.mem_cons_of_mem _ (ih h3 h)
theorem Sx{pins:List Oid}{l:L}{m mi:M}:∀ {mo:M},VY pins l m mi mo=true→∀p∈mo,p.1∈pins∨(p.1.1<1000∧aPV p.1 (dV l) (aV m) (aV mi))
 | [],_,p,hp=>by simp at hp
 | q::r,h,p,hp=>by
  have hpl:=(KW h).1
  simp only[VY,cw,Bool.or_eq_true]at h
  rcases iw.1 hp with rfl | hp
  ·rcases h.1.2 with h1 | ⟨h1,h2⟩
   ·exact .inl (C7 h1)
   ·exact .inr ⟨by simpa using h1,aBX hpl h2⟩
  ·exact Sx h.2 p hp
theorem KY{pins:List Oid}{mo:M}:∀ {rs:List Oid},TZ pins mo rs=true→∀p∈rs,(aV mo p).isSome=true∨p∈pins
 | [],_,p,hp=>by simp at hp
 | q::r,h,p,hp=>by
  simp only[TZ,cw,Bool.or_eq_true]at h
  rcases iw.1 hp with rfl | hp
  ·rcases h.1 with h1 | h1
   ·exact .inl (by rw[fK];exact h1)
   ·exact .inr (C7 h1)
  ·exact KY h.2 p hp
theorem P8{pins:List Oid}{mo:M}:∀ {ms:M},X8 pins mo ms=true→∀q∈ms,∀p∈q.2.refs,(aV mo p).isSome=true∨p∈pins
 | [],_,q,hq=>by simp at hq
 | x::r,h,q,hq=>by
  simp only[X8,cw]at h
  rcases iw.1 hq with rfl | hq
  ·exact KY h.1
  ·exact P8 h.2 q hq
end Go.VM
namespace Go.VM
structure bcJ(P:Program)(f:FuncId)(pins:List Oid)(vs:List V)(Γ:Env)(h hin:Heap)(r:V)(hout:Heap):Prop where
 fn:∃us,J1 (JQ h hin) vs us∧Fun P f false pins us hin r hout
 sub:∀o ob,hin o=some ob→h o=some ob
 names:∀o ob,hout o=some ob→o∈pins∨(o.1<1000∧aPV o Γ h hin)
 closed:∀o ob,hout o=some ob→∀p∈ob.refs,(hout p).isSome=true∨p∈pins
 res:∀p∈r.refs,(hout p).isSome=true∨p∈pins
 flatR:aJX r=true
 flatO:∀o ob,hout o=some ob→FlatOb ob
section
variable {P:Program} {K:Ctx} {B:Oid→Value} {Γ:Env} {h:Heap} {a:Act} {w:World}
theorem aAW(s:StB K B Γ h a w){f:FuncId}{args:List Value}{vs:List V}{hin hout:Heap}{r:V}(hargs:Pt (RepV w (okS K w B h) B) args vs){pins:List Oid}(hc:bcJ P f pins vs Γ h hin r hout) :
  Calls P f args.toArray w fun e w'=>∃v B',e = .returned v∧StB K B' Γ (GY h hin hout) a w'∧RepV w' (okS K w' B' (GY h hin hout)) B' v r:=by
 obtain⟨us,hsub,hF⟩:=hc.fn
 have hblt:∀b,BJ B h b→b<w.heap.size:=fun b ⟨o,ob,hg,hb⟩=>(s.objs.rep o ob hg).lt hb
 have hinh:∀b,BJ B hin b→BJ B h b:=fun b ⟨o,ob,hg,hb⟩=>⟨o,ob,hc.sub o ob hg,hb⟩
 have hlsub:∀o ob,JQ h hin o=some ob→h o=some ob∧hin o=none:=by
  intro o ob ho
  unfold JQ at ho
  cases hi:hin o with
  | some _=>simp[hi]at ho
  | none=>simp only[hi]at ho;exact⟨ho,rfl⟩
 have apartIn:∀o ob b,h o=some ob→hin o=none→lj (B o)=some b→¬BJ B hin b:=by
  rintro o ob b hg hi hb ⟨p,ob',hp,hpb⟩
  have:=s.objs.apart o p ob ob' b hg (hc.sub p ob' hp) hb hpb
  subst this
  rw[hi]at hp;simp at hp
 let ok2:Nat→Prop:=fun b=>okS K w B h b∨BJ B (JQ h hin) b
 have ok2lt:∀b,ok2 b→b<w.heap.size:=fun b hb=>hb.elim (fun h=>h.1) fun⟨o,ob,hg,hb⟩=>hblt b ⟨o,ob,(hlsub o ob hg).1,hb⟩
 have ok2in:∀b,ok2 b→¬BJ B hin b:=by
  rintro b (hb | ⟨o,ob,hg,hb⟩) hx
  ·obtain⟨p,ob,hg,hb'⟩:=hinh b hx;exact hb.2.2 p ob hg hb'
  ·exact apartIn o ob b (hlsub o ob hg).1 (hlsub o ob hg).2 hb hx
 refine(hF w ok2 B args ok2lt ok2in (T0 s (fun o ob ho=>(hlsub o ob ho).1) (fun b hb=>.inl hb) (fun b hb=>.inr hb) _ _ _ hargs hsub)
  ⟨fun o ob hg=>(s.objs.rep o ob (hc.sub o ob hg)).mono (fun _ _=>rfl) (fun b hb=>.inl hb) (fun _ _=>rfl) fun _ _=>rfl,fun o o' ob ob' b hg hg'=>s.objs.apart o o' ob ob' b (hc.sub o ob hg) (hc.sub o' ob' hg')⟩).mono fun e w' he=>?_
 obtain⟨v,B',rfl,hfr,hrep,hobjs,hblk,hsame⟩:=he
 let B2:Oid → Value := fun o => match hout o with | some _ => B' o | none => B o
 have hB2o:∀o ob,hout o=some ob→B2 o=B' o:=fun o ob ho=>by simp only[B2,ho]
 have hB2n:∀o,hout o=none→B2 o=B o:=fun o ho=>by simp only[B2,ho]
 have hB2i:∀o,o∈pins→B2 o=B o:=fun o hi=>by
  cases ho:hout o with
  | none=>exact hB2n o ho
  | some ob'=>rw[hB2o o ob' ho,hsame o hi]
 have hB2':∀o,(hout o).isSome=true∨o∈pins→B2 o=B' o:=by
  intro o ho
  cases hg:hout o with
  | some ob=>exact hB2o o ob hg
  | none =>
   rw[hg]at ho
   simp at ho
   rw[hB2n o hg,hsame o ho]
 have cases2:∀o ob,GY h hin hout o=some ob→hout o=some ob∨(hout o=none∧hin o=none∧h o=some ob):=by
  intro o ob hm
  unfold GY at hm
  cases ho:hout o with
  | some ob'=>simp only[ho]at hm;exact .inl hm
  | none =>
   simp only[ho]at hm
   cases hi:hin o with
   | some _=>simp only[hi]at hm;simp at hm
   | none=>simp only[hi]at hm;exact .inr ⟨rfl,rfl,hm⟩
 have hmono:∀b,okS K w B h b→w'.heap[b]? = w.heap[b]?:=fun b hb=>hfr.block b hb.1 fun hx=>by
  obtain⟨o,ob,hg,hb'⟩:=hinh b hx
  exact hb.2.2 o ob hg hb'
 have hok:∀b,okS K w B h b→okS K w' B2 (GY h hin hout) b:=by
  intro b hb
  refine⟨Nat.lt_of_lt_of_le hb.1 hfr.size,hb.2.1,fun o ob ho hbl=>?_⟩
  rcases cases2 o ob ho with h1 | ⟨h1,h2,h3⟩
  ·rw[hB2o o ob h1]at hbl
   obtain⟨p,ob',hp,hpb⟩:=hinh b (hblk o ob b h1 hbl hb.1)
   exact hb.2.2 p ob' hp hpb
  ·rw[hB2n o h1]at hbl
   exact hb.2.2 o ob h3 hbl
 have hΓ:∀t,∀o∈(Γ t).refs,B2 o=B o:=by
  intro t o ho
  cases hg:hout o with
  | none=>exact hB2n o hg
  | some ob =>
   rcases hc.names o ob hg with h1 | ⟨_,h1⟩
   ·exact hB2i o h1
   ·exact absurd ho (h1.1 t)
 refine⟨v,B2,rfl,⟨fun t=>(s.slots t).mono hmono hok (hΓ t),⟨fun o ob ho=>?_,fun o o' ob ob' b ho ho' hb hb'=>?_⟩,s.defers,s.size,s.fr.trans hfr ?_,fun o ob b ho hb hlt=>?_,fun o ho=>?_⟩,?_⟩
 ·rcases cases2 o ob ho with h1 | ⟨h1,h2,h3⟩
  ·rw[hB2o o ob h1]
   exact(hc.flatO o ob h1).rep (fun p hp=>hB2' p (hc.closed o ob h1 p hp)) (hobjs.rep o ob h1)
  ·rw[hB2n o h1]
   refine(s.objs.rep o ob h3).mono hmono hok (fun p hp=>?_) fun b hb=>hfr.block b (hblt b ⟨o,ob,h3,hb⟩) (apartIn o ob b h3 h2 hb)
   cases hg:hout p with
   | none=>exact hB2n p hg
   | some ob' =>
    rcases hc.names p ob' hg with h4 | ⟨_,h4⟩
    ·exact hB2i p h4
    ·exact absurd hp (h4.2 o ob h3 h2).2
 ·rcases cases2 o ob ho with h1 | ⟨h1,h2,h3⟩
  ·rw[hB2o o ob h1]at hb
   rcases cases2 o' ob' ho' with g1 | ⟨g1,g2,g3⟩
   ·rw[hB2o o' ob' g1]at hb'
    exact hobjs.apart o o' ob ob' b h1 g1 hb hb'
   ·rw[hB2n o' g1]at hb'
    exact absurd (hblk o ob b h1 hb (hblt b ⟨o',ob',g3,hb'⟩)) (apartIn o' ob' b g3 g2 hb')
  ·rw[hB2n o h1]at hb
   rcases cases2 o' ob' ho' with g1 | ⟨g1,g2,g3⟩
   ·rw[hB2o o' ob' g1]at hb'
    exact absurd (hblk o' ob' b g1 hb' (hblt b ⟨o,ob,h3,hb⟩)) (apartIn o ob b h3 h2 hb)
   ·rw[hB2n o' g1]at hb'
    exact s.objs.apart o o' ob ob' b h3 g3 hb hb'
 ·intro b hb hx
  obtain⟨o,ob,hg,hb'⟩:=hinh b hx
  exact s.own o ob b hg hb' hb
 ·rcases cases2 o ob ho with h1 | ⟨h1,h2,h3⟩
  ·rw[hB2o o ob h1]at hb
   obtain⟨p,ob',hp,hpb⟩:=hinh b (hblk o ob b h1 hb (by have:=s.fr.size;omega))
   exact s.own p ob' b hp hpb hlt
  ·rw[hB2n o h1]at hb
   exact s.own o ob b h3 hb hlt
 ·obtain⟨h1,h2⟩:=s.pin o ho
  refine⟨h1,?_⟩
  cases hg:hout o with
  | none=>rw[hB2n o hg];exact h2
  | some ob =>
   rcases hc.names o ob hg with h4 | ⟨h4,_⟩
   ·rw[hB2i o h4];exact h2
   ·omega
 ·exact aKV hc.flatR (fun p hp=>hB2' p (hc.res p hp)) hrep
end
end Go.VM
namespace Go.VM
open MapKept
section
variable {P:Program} {K:Ctx} {B:Oid→Value} {Γ:Env} {h:Heap} {a:Act} {w:World}
theorem aVJ{o:Oper}{kd:TypeDesc}{z:V}{ok:Bool}{x i:Opd}(hc:cOp P o=some (.look kd z ok x i)) :
  ∃t k e x0 i0 inf zv,o.op = .lookup t x0 i0 ok∧P.underlying t=some (.map k e)∧P.underlying k=some kd∧P.info? e=some inf∧inf.zero=some zv∧N0 zv=some z∧d5 x0=some x∧d5 i0=some i:=by
 cases hop:o.op
 case move x=>simp only[cOp,hop,aw]at hc;obtain⟨_,_,hc⟩:=hc;cases hc
 case assign x=>simp only[cOp,hop,aw]at hc;obtain⟨_,_,hc⟩:=hc;cases hc
 case nilCheck x=>simp only[cOp,hop,aw]at hc;obtain⟨_,_,hc⟩:=hc;cases hc
 case unOp op t x=>simp only[cOp,hop,aw]at hc;obtain⟨_,_,hc⟩:=hc;cases hc
 case extract x i=>simp only[cOp,hop,aw]at hc;obtain⟨_,_,hc⟩:=hc;cases hc
 case pick c x y =>
  simp only[cOp,hop,ak,aw]at hc
  obtain⟨_,_,_,_,_,_,hc⟩:=hc
  cases hc
 case build t parts =>
  simp only[cOp,hop,ak]at hc
  obtain⟨_,_,d',_,hc⟩:=hc
  cases d'<;>simp only[reduceCtorEq]at hc
  all_goals
   simp only[ak,aw]at hc
   obtain⟨_,_,_,_,hc⟩:=hc
   cases hc
 case load t x =>
  simp only[cOp,hop,ak]at hc
  obtain⟨⟨d',i⟩,_,x',_,hc⟩:=hc
  simp only at hc
  split at hc<;>cases hc
 case fieldAddr st x f =>
  simp only[cOp,hop,ak]at hc
  obtain⟨d',_,hc⟩:=hc
  cases d'<;>simp only[reduceCtorEq]at hc
  simp only[ak]at hc
  obtain⟨_,_,_,_,hc⟩:=hc
  split at hc
  ·simp at hc
  ·simp only[aw]at hc;obtain⟨_,_,hc⟩:=hc;cases hc
 case field st x f =>
  simp only[cOp,hop,ak]at hc
  obtain⟨d',_,hc⟩:=hc
  cases d'<;>simp only[reduceCtorEq]at hc
  simp only[ak,aw]at hc
  obtain⟨_,_,⟨d',i⟩,_,x',_,hc⟩:=hc
  split at hc<;>cases hc
 case indexAddr t x i =>
  simp only[cOp,hop,ak]at hc
  obtain⟨d',_,hc⟩:=hc
  cases d'<;>simp only[reduceCtorEq]at hc
  all_goals
   simp only[ak,aw]at hc
   obtain⟨_,_,_,_,_,_,hc⟩:=hc
   cases hc
 case index t x i =>
  simp only[cOp,hop,ak]at hc
  obtain⟨d',_,hc⟩:=hc
  cases d'<;>simp only[reduceCtorEq]at hc
  case string =>
   simp only[ak,aw]at hc
   obtain⟨_,_,_,_,hc⟩:=hc
   cases hc
  case array n e =>
   simp only[ak,aw]at hc
   obtain⟨⟨d',ie⟩,_,_,_,_,_,hc⟩:=hc
   split at hc<;>cases hc
 case binOp op t x y yt =>
  simp only[cOp,hop,ak]at hc
  obtain⟨d',_,_,_,_,_,hc⟩:=hc
  split at hc<;>first | (cases hc;done) | simp at hc
 case convert src dst x =>
  simp only[cOp,hop,ak]at hc
  obtain⟨_,_,d',_,hc⟩:=hc
  cases d'<;>simp only[reduceCtorEq]at hc
  all_goals
   simp only[aw]at hc
   obtain⟨_,_,hc⟩:=hc
   cases hc
 case makeFunc fn first caps =>
  cases fn with
  | func f =>
   simp only[cOp,hop]at hc
   split at hc
   ·simp only[aw]at hc;obtain⟨_,_,hc⟩:=hc;cases hc
   ·simp at hc
  | _=>simp[cOp,hop]at hc
 case slice t x lo hi mx =>
  cases mx with
  | some _=>simp[cOp,hop]at hc
  | none =>
   simp only[cOp,hop,ak]at hc
   obtain⟨d',hdd,hc⟩:=hc
   cases d'<;>simp only[reduceCtorEq]at hc
   case slice e =>
    simp only[ak,aw]at hc
    obtain⟨ie,hie,x',hx',lo',hlo',hi',hhi',hc⟩:=hc
    cases hc
   case string =>
    simp only[ak,aw]at hc
    obtain⟨_,_,_,_,_,_,hc⟩:=hc
    cases hc
 case alloc e=>simp only[cOp,hop,aw]at hc;obtain⟨_,_,hc⟩:=hc;cases hc
 case box e x=>simp only[cOp,hop,aw]at hc;obtain⟨_,_,hc⟩:=hc;cases hc
 case makeSlice t l c =>
  simp only[cOp,hop,ak]at hc
  obtain⟨d',_,hc⟩:=hc
  cases d'<;>simp only[reduceCtorEq]at hc
  simp only[ak]at hc
  obtain⟨_,_,_,_,hc⟩:=hc
  split at hc
  ·simp only[ak,aw]at hc
   obtain⟨_,_,_,_,hc⟩:=hc
   cases hc
  ·simp at hc
 case buildSlice t n ps =>
  simp only[cOp,hop,ak]at hc
  obtain⟨d',_,hc⟩:=hc
  cases d'<;>simp only[reduceCtorEq]at hc
  simp only[ak]at hc
  obtain⟨_,_,_,_,_,_,hc⟩:=hc
  split at hc
  ·cases hc
  ·simp at hc
 case store t x v =>
  simp only[cOp,hop,ak,aw]at hc
  obtain⟨_,_,_,_,_,_,hc⟩:=hc
  cases hc
 case call c =>
  simp only[cOp,hop]at hc
  split at hc
  ·rename_i f' hcal
   simp only[ak]at hc
   obtain⟨fn,hfn,hc⟩:=hc
   split at hc
   ·rename_i hcond
    simp only[aw]at hc
    obtain⟨ys,hys,he⟩:=hc
    cases he
   ·simp at hc
  ·simp only[ak,aw]at hc
   obtain⟨_,_,_,_,hc⟩:=hc
   cases hc
  ·split at hc
   ·simp only[ak]at hc
    obtain⟨d',_,hc⟩:=hc
    cases d'<;>simp only[reduceCtorEq]at hc
    all_goals
     split at hc
     ·simp only[aw]at hc;obtain⟨_,_,hc⟩:=hc;cases hc
     ·simp at hc
   ·simp at hc
  ·simp only[aw]at hc;obtain⟨_,_,hc⟩:=hc;cases hc
  ·simp only[aw]at hc;obtain⟨_,_,hc⟩:=hc;cases hc
  ·split at hc
   ·simp only[ak]at hc
    obtain⟨d',_,hc⟩:=hc
    cases d'<;>simp only[reduceCtorEq]at hc
    simp only[ak]at hc
    obtain⟨ie,_,hc⟩:=hc
    split at hc
    ·simp only[ak,aw]at hc
     obtain⟨_,_,_,_,hc⟩:=hc
     cases hc
    ·simp at hc
   ·simp at hc
  ·simp at hc
 case makeMap t rs =>
  cases rs with
  | some _=>simp[cOp,hop]at hc
  | none =>
   simp only[cOp,hop,ak]at hc
   obtain⟨d,_,hc⟩:=hc
   cases d<;>simp only[reduceCtorEq]at hc
   simp only[ak]at hc
   obtain⟨_,_,hc⟩:=hc
   split at hc<;>cases hc
 case lookup t x i ok' =>
  simp only[cOp,hop,ak]at hc
  obtain⟨d,hdd,hc⟩:=hc
  cases d<;>simp only[reduceCtorEq]at hc
  simp only[ak,aw]at hc
  obtain⟨kd',hkd,zv,⟨inf,hinf,hzv⟩,z',hz,x',hx',i',hi',hc⟩:=hc
  cases hc
  exact⟨t,_,_,x,i,inf,zv,rfl,hdd,hkd,hinf,hzv,hz,hx',hi'⟩
 case mapUpdate t x i v =>
  simp only[cOp,hop,ak]at hc
  obtain⟨d,_,hc⟩:=hc
  cases d<;>simp only[reduceCtorEq]at hc
  simp only[ak,aw]at hc
  obtain⟨_,_,_,_,_,_,_,_,hc⟩:=hc
  cases hc
 case insert t x i v =>
  simp only[cOp,hop,ak]at hc
  obtain⟨d,_,hc⟩:=hc
  cases d<;>simp only[reduceCtorEq]at hc
  simp only[ak,aw]at hc
  obtain⟨_,_,_,_,_,_,_,_,hc⟩:=hc
  cases hc
 all_goals (simp only[cOp,hop,reduceCtorEq]at hc)
theorem aTY{o:Oper}{kd:TypeDesc}{x i v:Opd}(hc:cOp P o=some (.mupd kd x i v)) :
  ∃t k e x0 i0 v0,(o.op = .mapUpdate t x0 i0 v0∨o.op = .insert t x0 i0 v0)∧P.underlying t=some (.map k e)∧P.underlying k=some kd∧d5 x0=some x∧d5 i0=some i∧d5 v0=some v:=by
 cases hop:o.op
 case move x=>simp only[cOp,hop,aw]at hc;obtain⟨_,_,hc⟩:=hc;cases hc
 case assign x=>simp only[cOp,hop,aw]at hc;obtain⟨_,_,hc⟩:=hc;cases hc
 case nilCheck x=>simp only[cOp,hop,aw]at hc;obtain⟨_,_,hc⟩:=hc;cases hc
 case unOp op t x=>simp only[cOp,hop,aw]at hc;obtain⟨_,_,hc⟩:=hc;cases hc
 case extract x i=>simp only[cOp,hop,aw]at hc;obtain⟨_,_,hc⟩:=hc;cases hc
 case pick c x y =>
  simp only[cOp,hop,ak,aw]at hc
  obtain⟨_,_,_,_,_,_,hc⟩:=hc
  cases hc
 case build t parts =>
  simp only[cOp,hop,ak]at hc
  obtain⟨_,_,d',_,hc⟩:=hc
  cases d'<;>simp only[reduceCtorEq]at hc
  all_goals
   simp only[ak,aw]at hc
   obtain⟨_,_,_,_,hc⟩:=hc
   cases hc
 case load t x =>
  simp only[cOp,hop,ak]at hc
  obtain⟨⟨d',i⟩,_,x',_,hc⟩:=hc
  simp only at hc
  split at hc<;>cases hc
 case fieldAddr st x f =>
  simp only[cOp,hop,ak]at hc
  obtain⟨d',_,hc⟩:=hc
  cases d'<;>simp only[reduceCtorEq]at hc
  simp only[ak]at hc
  obtain⟨_,_,_,_,hc⟩:=hc
  split at hc
  ·simp at hc
  ·simp only[aw]at hc;obtain⟨_,_,hc⟩:=hc;cases hc
 case field st x f =>
  simp only[cOp,hop,ak]at hc
  obtain⟨d',_,hc⟩:=hc
  cases d'<;>simp only[reduceCtorEq]at hc
  simp only[ak,aw]at hc
  obtain⟨_,_,⟨d',i⟩,_,x',_,hc⟩:=hc
  split at hc<;>cases hc
 case indexAddr t x i =>
  simp only[cOp,hop,ak]at hc
  obtain⟨d',_,hc⟩:=hc
  cases d'<;>simp only[reduceCtorEq]at hc
  all_goals
   simp only[ak,aw]at hc
   obtain⟨_,_,_,_,_,_,hc⟩:=hc
   cases hc
 case index t x i =>
  simp only[cOp,hop,ak]at hc
  obtain⟨d',_,hc⟩:=hc
  cases d'<;>simp only[reduceCtorEq]at hc
  case string =>
   simp only[ak,aw]at hc
   obtain⟨_,_,_,_,hc⟩:=hc
   cases hc
  case array n e =>
   simp only[ak,aw]at hc
   obtain⟨⟨d',ie⟩,_,_,_,_,_,hc⟩:=hc
   split at hc<;>cases hc
 case binOp op t x y yt =>
  simp only[cOp,hop,ak]at hc
  obtain⟨d',_,_,_,_,_,hc⟩:=hc
  split at hc<;>first | (cases hc;done) | simp at hc
 case convert src dst x =>
  simp only[cOp,hop,ak]at hc
  obtain⟨_,_,d',_,hc⟩:=hc
  cases d'<;>simp only[reduceCtorEq]at hc
  all_goals
   simp only[aw]at hc
   obtain⟨_,_,hc⟩:=hc
   cases hc
 case makeFunc fn first caps =>
  cases fn with
  | func f =>
   simp only[cOp,hop]at hc
   split at hc
   ·simp only[aw]at hc;obtain⟨_,_,hc⟩:=hc;cases hc
   ·simp at hc
  | _=>simp[cOp,hop]at hc
 case slice t x lo hi mx =>
  cases mx with
  | some _=>simp[cOp,hop]at hc
  | none =>
   simp only[cOp,hop,ak]at hc
   obtain⟨d',hdd,hc⟩:=hc
   cases d'<;>simp only[reduceCtorEq]at hc
   case slice e =>
    simp only[ak,aw]at hc
    obtain⟨ie,hie,x',hx',lo',hlo',hi',hhi',hc⟩:=hc
    cases hc
   case string =>
    simp only[ak,aw]at hc
    obtain⟨_,_,_,_,_,_,hc⟩:=hc
    cases hc
 case alloc e=>simp only[cOp,hop,aw]at hc;obtain⟨_,_,hc⟩:=hc;cases hc
 case box e x=>simp only[cOp,hop,aw]at hc;obtain⟨_,_,hc⟩:=hc;cases hc
 case makeSlice t l c =>
  simp only[cOp,hop,ak]at hc
  obtain⟨d',_,hc⟩:=hc
  cases d'<;>simp only[reduceCtorEq]at hc
  simp only[ak]at hc
  obtain⟨_,_,_,_,hc⟩:=hc
  split at hc
  ·simp only[ak,aw]at hc
   obtain⟨_,_,_,_,hc⟩:=hc
   cases hc
  ·simp at hc
 case buildSlice t n ps =>
  simp only[cOp,hop,ak]at hc
  obtain⟨d',_,hc⟩:=hc
  cases d'<;>simp only[reduceCtorEq]at hc
  simp only[ak]at hc
  obtain⟨_,_,_,_,_,_,hc⟩:=hc
  split at hc
  ·cases hc
  ·simp at hc
 case store t x v =>
  simp only[cOp,hop,ak,aw]at hc
  obtain⟨_,_,_,_,_,_,hc⟩:=hc
  cases hc
 case call c =>
  simp only[cOp,hop]at hc
  split at hc
  ·rename_i f' hcal
   simp only[ak]at hc
   obtain⟨fn,hfn,hc⟩:=hc
   split at hc
   ·rename_i hcond
    simp only[aw]at hc
    obtain⟨ys,hys,he⟩:=hc
    cases he
   ·simp at hc
  ·simp only[ak,aw]at hc
   obtain⟨_,_,_,_,hc⟩:=hc
   cases hc
  ·split at hc
   ·simp only[ak]at hc
    obtain⟨d',_,hc⟩:=hc
    cases d'<;>simp only[reduceCtorEq]at hc
    all_goals
     split at hc
     ·simp only[aw]at hc;obtain⟨_,_,hc⟩:=hc;cases hc
     ·simp at hc
   ·simp at hc
  ·simp only[aw]at hc;obtain⟨_,_,hc⟩:=hc;cases hc
  ·simp only[aw]at hc;obtain⟨_,_,hc⟩:=hc;cases hc
  ·split at hc
   ·simp only[ak]at hc
    obtain⟨d',_,hc⟩:=hc
    cases d'<;>simp only[reduceCtorEq]at hc
    simp only[ak]at hc
    obtain⟨ie,_,hc⟩:=hc
    split at hc
    ·simp only[ak,aw]at hc
     obtain⟨_,_,_,_,hc⟩:=hc
     cases hc
    ·simp at hc
   ·simp at hc
  ·simp at hc
 case makeMap t rs =>
  cases rs with
  | some _=>simp[cOp,hop]at hc
  | none =>
   simp only[cOp,hop,ak]at hc
   obtain⟨d,_,hc⟩:=hc
   cases d<;>simp only[reduceCtorEq]at hc
   simp only[ak]at hc
   obtain⟨_,_,hc⟩:=hc
   split at hc<;>cases hc
 case lookup t x i ok =>
  simp only[cOp,hop,ak]at hc
  obtain⟨d,_,hc⟩:=hc
  cases d<;>simp only[reduceCtorEq]at hc
  simp only[ak,aw]at hc
  obtain⟨_,_,_,_,_,_,_,_,_,_,hc⟩:=hc
  cases hc
 case mapUpdate t x i v =>
  simp only[cOp,hop,ak]at hc
  obtain⟨d,hdd,hc⟩:=hc
  cases d<;>simp only[reduceCtorEq]at hc
  simp only[ak,aw]at hc
  obtain⟨kd',hkd,x',hx',i',hi',v',hv',hc⟩:=hc
  cases hc
  exact⟨t,_,_,x,i,v,.inl rfl,hdd,hkd,hx',hi',hv'⟩
 case insert t x i v =>
  simp only[cOp,hop,ak]at hc
  obtain⟨d,hdd,hc⟩:=hc
  cases d<;>simp only[reduceCtorEq]at hc
  simp only[ak,aw]at hc
  obtain⟨kd',hkd,x',hx',i',hi',v',hv',hc⟩:=hc
  cases hc
  exact⟨t,_,_,x,i,v,.inr rfl,hdd,hkd,hx',hi',hv'⟩
 all_goals (simp only[cOp,hop,reduceCtorEq]at hc)
theorem aHQ(s:StB K B Γ h a w){t k e:TypeId}{kd:TypeDesc}(ht:P.underlying t=some (.map k e))(hk:P.underlying k=some kd){i:TypeInfo}{zv:Value}{z:V}(hi:P.info? e=some i)(hz:i.zero=some zv)(hc:N0 zv=some z)
  {m:Value} {o:Oid} {key:Value} {es0:List (Value×C)} (hx:RepV w (okS K w B h) B m (.c (.mapO o))) (hkey:keyOf kd key=true) (hm:h o=some (.mapC kd es0)) (ok:Bool) :
  O2 P K B h w (Instr.lookup t m key ok) (Lx ok z ((L6 key es0).map .c)):=by
 have hzr:RepV w (okS K w B h) B zv z:=GW hc
 have hzs:RepS w (okS K w B h) B zv z:=by
  unfold N0 at hc
  split at hc
  ·obtain⟨_,_,rfl⟩:=aw.1 hc;exact hzr
  ·obtain⟨_,_,rfl⟩:=aw.1 hc;exact hzr
 have hzrun:∀w:World,(zeroValue e).run P w = .ok zv w:=fun w=>by simp[zeroValue,typeInfo,hi,hz]
 have two:∀ {u:Value} {y:V} (b:Bool),RepS w (okS K w B h) B u y→RepV w (okS K w B h) B (.tuple #[u,.bool b]) (.tup [y,bV b]):=by
  intro u y b hu
  refine⟨#[u,.bool b],rfl,?_⟩
  refine Pt.cons hu (Pt.cons ?_ Pt.nil)
  exact RepC.imm _ _ (.sc _ rfl)
 have pack:∀ {u:Value} {y:V},RepS w (okS K w B h) B u y→RepV w (okS K w B h) B u y:=by
  intro u y hu
  cases y with
  | tup _=>exact hu.elim
  | c _=>exact hu
  | agg _=>exact hu
  | junk=>exact hu
 obtain⟨b,es',clock,hB,hh,hcl,hsz,he⟩:=s.objs.rep _ _ hm
 have hv:m = .map (some b):=by
  have:RepC w (okS K w B h) B m (.mapO o):=hx
  cases this with
  | mapO _ r hB'=>rw[hB]at hB';cases hB';rfl
 subst hv
 rcases I7 hkey es'.toList es0 0 (by simpa using hsz) (fun j e p g1 g2=>by
   obtain⟨h1,h2,_,_⟩:=he j e p (by simpa using g1) g2
   exact⟨h1,h2⟩)with⟨g1,g2,_⟩ | ⟨j,e',p,g1,g2,g3,g4,g5,_⟩
 ·rw[g1]
  cases ok
  ·refine⟨zv,?_,pack hzs⟩
   simp[Instr.lookup,run_underlying ht,MapKept.run_getObj_map hh,run_checkKey hk (keyOf_is hkey),run_findKey hk g2,hzrun,Result.andThen]
  ·refine⟨.tuple #[zv,.bool false],?_,two false hzs⟩
   simp[Instr.lookup,run_underlying ht,MapKept.run_getObj_map hh,run_checkKey hk (keyOf_is hkey),run_findKey hk g2,hzrun,Result.andThen]
 ·rw[g3]
  obtain⟨_,_,_,hrep⟩:=he j e' p (by simpa using g1) g2
  cases ok
  ·refine⟨e'.val,?_,pack (y:=.c p.2) hrep⟩
   simp[Instr.lookup,run_underlying ht,MapKept.run_getObj_map hh,run_checkKey hk (keyOf_is hkey),run_findKey hk g4,Result.andThen]
  ·refine⟨.tuple #[e'.val,.bool true],?_,two (y:=.c p.2) true hrep⟩
   simp[Instr.lookup,run_underlying ht,MapKept.run_getObj_map hh,run_checkKey hk (keyOf_is hkey),run_findKey hk g4,Result.andThen]
theorem aMV(s:StB K B Γ h a w){t k e:TypeId}{kd:TypeDesc}(ht:P.underlying t=some (.map k e))(hk:P.underlying k=some kd){o:Oid}{es:List (Value×C)}{m key v:Value}{x:C}
  (hm:RepV w (okS K w B h) B m (.c (.mapO o))) (hg:h o=some (.mapC kd es)) (hkey:keyOf kd key=true) (hx:RepV w (okS K w B h) B v (.c x)) :
  ∃w' B',(Instr.mapUpdate t m key v).run P w = .ok () w'∧StB K B' Γ (h.put o (.mapC kd (G6 key x es))) a w':=by
 obtain⟨b,es',clock,hB,hh,hcl,hsz,he⟩:=s.objs.rep _ _ hg
 have hv:m = .map (some b):=by
  have:RepC w (okS K w B h) B m (.mapO o):=hm
  cases this with
  | mapO _ r hB'=>rw[hB]at hB';cases hB';rfl
 subst hv
 have hxs:RepC w (okS K w B h) B v x:=hx
 have fin:∀(es2:Array MapEntry) (c2:Nat),(Instr.mapUpdate t (.map (some b)) key v).run P w = .ok () {w with heap:=w.heap.setIfInBounds b (.map es2 c2)} →
   c2=(G6 key x es).length→es2.size=(G6 key x es).length→(∀(i:Nat) e p,es2[i]? = some e→(G6 key x es)[i]? = some p→e.key=p.1∧keyOf kd p.1=true∧e.born=i∧RepC w (okS K w B h) B e.val p.2) →
   ∃w' B',(Instr.mapUpdate t (.map (some b)) key v).run P w = .ok () w'∧StB K B' Γ (h.put o (.mapC kd (G6 key x es))) a w':=by
  intro es2 c2 hrun hc2 hs2 he2
  obtain⟨SQ,hoth⟩:=heap_set (o':=.map es2 c2) hh
  obtain⟨B',hBo,hB',hok,s'⟩:=s.set o o (.mapC kd (G6 key x es)) (B o) (w':={w with heap:=w.heap.setIfInBounds b (.map es2 c2)}) (h':=h.put o (.mapC kd (G6 key x es)))
   ⟨rfl,rfl,rfl,by simp,fun b' hb' hn=>hoth b' fun e=>hn ⟨by rw[e,hB];rfl,by rw[hg];rfl⟩⟩
   (fun b' hb'=>by
    have hlt:=(s.objs.rep _ _ hg).lt hb'
    exact⟨by simpa using hlt,.inl ⟨hb',by rw[hg];rfl⟩⟩)
   (fun _ _=>rfl) (fun p ob' hp hne=>⟨hne,by simpa[Heap.put,hne]using hp,fun _=>rfl⟩) (fun _=>rfl) (by simp[Heap.put])
   (fun B' hB' hBo hok=>⟨b,es2,c2,hB,SQ,hc2,hs2,fun i e p g1 g2=>by
    obtain⟨q1,q2,q3,q4⟩:=he2 i e p g1 g2
    refine⟨q1,q2,q3,q4.mono (fun b' hb'=>hoth b' fun e=>hb'.2.2 o _ hg (by rw[e,hB];rfl)) hok fun p _=>?_⟩
    by_cases ep:p=o
    ·subst ep;exact hBo
    ·exact hB' p ep⟩)
  exact⟨_,B',hrun,s'⟩
 rcases I7 hkey es'.toList es 0 (by simpa using hsz) (fun j e p g1 g2=>by
   obtain⟨h1,h2,_,_⟩:=he j e p (by simpa using g1) g2
   exact⟨h1,h2⟩)with⟨g1,g2,g3⟩ | ⟨j,e',p,g1,g2,g3,g4,g5,g6⟩
 ·refine fin (es'.push ⟨key,v,clock⟩) (clock+1) ?_ (by rw[g3];simp[hcl]) (by rw[g3];simp[hsz]) fun i e p q1 q2=>?_
  ·simp[Instr.mapUpdate,run_underlying ht,MapKept.run_getObj_map hh,run_checkKey hk (keyOf_is hkey),run_findKey hk g2,MapKept.run_setObj_map _ hh,Result.andThen]
  ·rw[g3]at q2
   rw[Array.getElem?_push]at q1
   split at q1
   ·rename_i hi
    cases q1
    rw[List.getElem?_append_right (by omega)]at q2
    have:i-es.length=0:=by omega
    rw[this]at q2
    simp at q2
    subst q2
    exact⟨rfl,hkey,by rw[hcl];simp;omega,hxs⟩
   ·have hlt:i<es'.size:=(gk.1 q1).1
    rw[List.getElem?_append_left (by omega)]at q2
    exact he i e p q1 q2
 ·have hj:es'[j]? = some e':=by simpa using g1
  refine fin (es'.modify j fun e'=>{e' with key:=key,val:=v}) clock ?_ (by rw[g6];simp[hcl]) (by rw[g6];simp[hsz]) fun i e p q1 q2=>?_
  ·simp[Instr.mapUpdate,run_underlying ht,MapKept.run_getObj_map hh,run_checkKey hk (keyOf_is hkey),run_findKey hk g4,hj,g5,run_keyThatStays (keyOf_is hkey),MapKept.run_setObj_map _ hh,Result.andThen]
  ·rw[g6]at q2
   rw[Array.getElem?_modify]at q1
   rw[List.getElem?_set]at q2
   by_cases eij:j=i
   ·subst eij
    simp only[jw,hj,Option.map_some,bw]at q1
    have hlt:j<es.length:=(dw.1 g2).1
    simp only[jw,hlt,bw]at q2
    subst q1;subst q2
    obtain⟨_,_,hb3,_⟩:=he j e' _ hj g2
    exact⟨rfl,hkey,hb3,hxs⟩
   ·simp only[eij,gw]at q1 q2
    exact he i e p q1 q2
def xR(d:Oid)(e:Opd→V)(h:Heap)(op:VO)(x:V)(h':Heap):Prop :=
 (∃kd z ok m i o es key,op = .look kd z ok m i∧e m = .c (.mapO o)∧h o=some (.mapC kd es)∧e i=scV key∧keyOf kd key=true∧x=Lx ok z ((L6 key es).map .c)∧h'=h) ∨
 (∃kd m i v o es key c,op = .mupd kd m i v∧e m = .c (.mapO o)∧h o=some (.mapC kd es)∧e i=scV key∧keyOf kd key=true∧e v = .c c∧x = .junk∧h'=h.put o (.mapC kd (G6 key c es)))
theorem aXQ(s:StB K B Γ h a w){o:Oper}{vo:VO}(hc:cOp P o=some vo){d:Oid}{x:V}{h':Heap}(hq:xR d (ev Γ) h vo x h') :
  ∃nx v w' B',(execOp a.eval o).run P w = .ok nx w'∧(nx = .value v∨(nx = .skip∧v=undef))∧StB K B' Γ h' a w'∧RepV w' (okS K w' B' h') B' v x:=by
 rcases hq with⟨kd,z,ok,m,i,ob,es,key,rfl,hm,hg,hi,hk,rfl,rfl⟩ | ⟨kd,m,i,v,ob,es,key,c,rfl,hm,hg,hi,hk,hv,rfl,rfl⟩
 ·obtain⟨t,k,e,x0,i0,inf,zv,hop,ht,hkd,hinf,hzv,hz,hx0,hi0⟩:=aVJ hc
  have hkv:=i9 (hi▸bW s hi0)
  have hG:=aHQ s ht hkd hinf hzv hz (hm▸bW s hx0) hk hg ok
  obtain⟨v,hrun,hrep⟩:=hG
  refine⟨.value v,v,w,B,?_,.inl rfl,s,hrep⟩
  simp only[execOp,hop,hkv,Sem.run_bind,hrun,Result.andThen]
  rfl
 ·obtain⟨t,k,e,x0,i0,v0,hop,ht,hkd,hx0,hi0,hv0⟩:=aTY hc
  have hkv:=i9 (hi▸bW s hi0)
  obtain⟨w',B',hrun,s'⟩:=aMV s ht hkd (hm▸bW s hx0) hg hk (hv▸bW s hv0)
  refine⟨.skip,undef,w',B',?_,.inr ⟨rfl,rfl⟩,s',trivial⟩
  rcases hop with hop | hop
  all_goals
   simp only[execOp,hop,hkv,Sem.run_bind,hrun,Result.andThen]
   rfl
end
end Go.VM
namespace Go.VM
section
variable {P:Program} {K:Ctx} {B:Oid→Value} {Γ:Env} {h:Heap} {a:Act} {w:World}
inductive IK(P:Program)(Γ:Env):VO→FuncId→List V→Prop
 | named (f:FuncId) (args:List Opd):IK P Γ (.call f args) f (args.map (ev Γ))
 | value (f:FuncId) (x:Opd) (args:List Opd) (caps:List Cap):ev Γ x = .c (.fn f caps)→OW P f=true→IK P Γ (.callv x args) f (args.map (ev Γ)++caps.map axQ)
theorem amj(s:StB K B Γ h a w){o:Oper}{vo:VO}{f:FuncId}{vs:List V}(hc:cOp P o=some vo)(hcall:IK P Γ vo f vs) :
  ∃args:List Value,Pt (RepV w (okS K w B h) B) args vs∧(execOp a.eval o).run P w = .ok (.enter f args.toArray) w:=by
 cases hcall with
 | named f args =>
  obtain⟨c,fn,hop,hcal,hfn,hnone,hname,hys⟩:=asY hc
  refine⟨_,IJ _ _ hys s,?_⟩
  rw[←Array.toList_map,ow]
  simp[execOp,hop,resolve,hcal,Act.eval,Deferred.ofValue,invoke,callFunc,hfn,hname,hnone]
 | value f x args caps hx hok =>
  obtain⟨c,x0,hop,hcal,hx0,hys⟩:=amW hc
  have hxr:=bW s hx0
  rw[hx]at hxr
  generalize hval:a.eval x0=v at hxr
  have hxr':RepC w (okS K w B h) B v (.fn f caps):=hxr
  cases hxr' with
  | fn _ cs _ hp =>
   refine⟨_,(IJ _ _ hys s).append (a0W hp),?_⟩
   unfold OW at hok
   cases hfn:P.funcs[f]? with
   | none=>simp[hfn]at hok
   | some fn =>
    simp only[hfn,cw,mw,beq_eq_false_iff_ne,ne_eq]at hok
    have hnone : ¬fn.body=none:=by intro hx;rw[hx]at hok;simp at hok
    simp only[execOp,hop,resolve,hcal,hval,Deferred.ofValue]
    simp[invoke,callFunc,hfn,hok.2,hnone]
def biV(d:Oid)(Γ:Env)(h:Heap)(op:VO)(x:V)(h':Heap):Prop :=
 ∃k y hi o e rows n,op = .sub k y none hi∧ev Γ y = .c (.slO o)∧h o=some (.arr e k rows)∧Iq (ev Γ) rows.length hi n∧0≤n∧n≤rows.length∧x = .c (.slO d)∧h'=(h.drop o).put d (.arr e k (rows.take n.toNat))
theorem aqj{α:Type}(l:List α)(n m k:Nat)(h:n≤m):(l.take (m*k)).take (n*k)=l.take (n*k):=by
 rw[List.take_take,Nat.min_eq_left (Nat.mul_le_mul_right k h)]
theorem Y6{α:Type}{k:Nat}:∀(rows:List (List α)) (n:Nat),(∀r∈rows,r.length=k)→(rows.take n).flatten=rows.flatten.take (n*k)
 | [],n,_=>by simp
 | r::rows,0,_=>by simp
 | r::rows,n+1,h=>by
  have h0:=h r (by simp)
  have ih:=Y6 rows n fun x hx=>h x (by simp[hx])
  have e:(n+1)*k=r.length+n*k:=by rw[h0,Nat.add_mul];omega
  rw[List.take_succ_cons,nw,nw,ih,e,List.take_length_add_append]
theorem aMx(s:StB K B Γ h a w){o:Oper}{vo:VO}(hc:cOp P o=some vo){d:Oid}(hd:d.1<1000)(hf:Fresh d Γ h){x:V}{h':Heap}(hq:biV d Γ h vo x h') :
  ∃v B',(execOp a.eval o).run P w = .ok (.value v) w∧StB K B' Γ h' a w∧RepV w (okS K w B' h') B' v x:=by
 obtain⟨k,y,hi,ob,e,rows,n,rfl,hy,d6,hb,h0,hn,rfl,rfl⟩:=hq
 obtain⟨t,e',ie,x0,lo0,hi0,hop,ht,hie,rfl,hx0,hl,hh⟩:=a0z hc
 obtain⟨hk0,hkr,cs,hown,hp⟩:=s.objs.rep ob _ d6
 have hxr:=bW s hx0
 rw[hy]at hxr
 have hval:a.eval x0=B ob:=by
  generalize a.eval x0=v at hxr
  have hx':RepC w (okS K w B h) B v (.slO ob):=hxr
  cases hx' with
  | slO _ q l c hB=>exact hB.symm
 have hlen:(rows.take n.toNat).length=n.toNat:=by rw[pw];omega
 have hform:∃q cap v,B ob = .slice q rows.length cap∧rows.length≤cap∧v = .slice (if cap=0 then q else q.map (·.add (0*ie.size))) n.toNat cap∧(∀b,lj v=some b→lj (B ob)=some b)∧w.ownsRow 0 e ie.size v n.toNat (cs.take (n.toNat*ie.size)):=by
  obtain⟨hl1,hc1⟩:=hown
  rcases hc1 with⟨hv,hz⟩ | ⟨g,cap,cur,hv,hg,hhp,hle,hmx,hsz,htk⟩
  ·refine⟨none,0,_,by rw[hv,hz],by omega,rfl,fun b hb=>by simp[lj]at hb,?_⟩
   have hn0:n.toNat=0:=by omega
   rw[hn0]
   exact⟨by simp,.inl ⟨by simp,rfl⟩⟩
  ·refine⟨_,cap,_,hv,hle,rfl,fun b hb=>?_,?_⟩
   ·split at hb
    ·rw[hv];exact hb
    ·rw[hv];simpa[lj,lK]using hb
   ·have hvv:(Value.slice (if cap=0 then some ⟨g,0,none⟩else(some ⟨g,0,none⟩ : Option Addr).map (·.add (0*ie.size))) n.toNat cap) = .slice (some ⟨g,0,none⟩) n.toNat cap:=by
     split<;>simp[lK]
    rw[hvv]
    refine⟨?_,.inr ⟨g,cap,cur,rfl,hg,hhp,by omega,hmx,hsz,?_⟩⟩
    ·rw[pw,hl1,Nat.min_eq_left (Nat.mul_le_mul_right _ (by omega))]
    ·rw[←htk,aqj _ _ _ _ (by omega)]
 obtain⟨q,cap,v,hBv,hle,hvd,hblk,hown2⟩:=hform
 have hrun:(execOp a.eval o).run P w = .ok (.value v) w:=by
  have hl':lo0=none := by rcases hl with⟨h1,_⟩ | ⟨_,_,_,h2,_⟩;exact h1;cases h2
  subst hl'
  have hbd:=xV (P:=P) (w:=w) s (lo:=none) (lo':=none) (.inl ⟨rfl,rfl⟩) hh (l:=0) rfl hb (by omega) h0 hn hle true
  simp only[Option.map_none]at hbd
  simp only[execOp,hop,hval,hBv]
  simp[Instr.sliceAt,run_underlying ht,Instr.slice,hbd,sizeOf,typeInfo,hie,hvd]
 obtain⟨B',hBo,hB,hok,s'⟩:=s.set (w':=w) (h':=(h.drop ob).put d (.arr e ie.size (rows.take n.toNat))) ob d (.arr e ie.size (rows.take n.toNat)) v
  (Fr.refl _ _) (fun b hb=>⟨(s.objs.rep ob _ d6).lt (hblk b hb),.inl ⟨hblk b hb,by rw[d6];rfl⟩⟩)
  (fun t hm=>absurd hm (hf.env t))
  (fun p ob' hp hne=>by
   simp only[Heap.put,hne,gw,Heap.drop]at hp
   split at hp
   ·simp at hp
   ·rename_i hpo
    exact⟨hpo,hp,fun hm=>absurd hm (hf.heap p ob' hp).2⟩)
  (fun hp=>absurd hp (Lq s hd)) (by simp[Heap.put])
  (fun B' hB hBo hok=>by
   refine⟨hk0,fun row hrow=>hkr row (List.mem_of_mem_take hrow),cs.take (n.toNat*ie.size),by rw[hlen];exact hown2,?_⟩
   rw[Y6 rows _ hkr]
   exact(hp.take _).mono fun j v x hx hr=>hr.mono (fun _ _=>rfl) hok)
 refine⟨v,B',hrun,s',?_⟩
 rw[hvd]at hBo ⊢
 exact RepC.slO d _ _ _ hBo
def X7(P:Program)(dst:Option Nat)(op:VO)(Γ:Env)(h:Heap)(k:Env→Heap→Prop):Prop :=
 l6 P dst op Γ h k ∨
 (∃f vs r,IK P Γ op f vs∧NZ P f vs h r∧k (putO dst r Γ) h) ∨
 (∃f vs pins hin r hout,IK P Γ op f vs∧bcX P f pins vs Γ h hin r hout∧k (putO dst r Γ) (GY h hin hout)) ∨
 (∃f vs pins hin r hout,IK P Γ op f vs∧bcJ P f pins vs Γ h hin r hout∧k (putO dst r Γ) (GY h hin hout)) ∨
 (Fresh (dst.getD 999,0) Γ h∧∃x h',biV (dst.getD 999,0) Γ h op x h'∧k (putO dst x Γ) h') ∨
 (∃x h',xR (dst.getD 999,0) (ev Γ) h op x h'∧k (putO dst x Γ) h')
def aPW(n:Nat)(I:Option (List Oid))(k:Env→Heap→Prop)(Γ:Env)(h:Heap):Prop:=∃Γ' h',Sim n I Γ h Γ' h'∧k Γ' h'
def J4(P:Program)(n:Nat)(I:Option (List Oid))(dst:Option Nat)(op:VO)(Γ:Env)(h:Heap)(k:Env→Heap→Prop):Prop :=
 ∃Γ' h',Sim n I Γ h Γ' h'∧X7 P dst op Γ' h' (aPW n I k)
theorem aCQ(s:St K Γ h a w){o:Oper}{vo:VO}(hc:cOp P o=some vo)(hn:K.ntmps≤1000)(hd:∀d,o.dst=some d→d<K.ntmps){k:Env→Heap→Prop}{Q:Exit→Act→World→Prop}(hp:X7 P o.dst vo Γ h k)
  {next:Act→World→Prop} (hk:∀Γ' h' a' w',k Γ' h'→St K Γ' h' a' w'→next a' w'):o.wp P a w next Q:=by
 rcases hp with hp | ⟨f,vs,r,hcall,hg,hkk⟩ | ⟨f,vs,pins,hin,r,hout,hcall,hg,hkk⟩ | ⟨f,vs,pins,hin,r,hout,hcall,hg,hkk⟩ | ⟨hf,x,h',hq,hkk⟩ | ⟨x,h',hq,hkk⟩
 ·exact Mq s hc hn hd hp hk
 all_goals obtain⟨B,s⟩:=s
 ·obtain⟨args,hargs,hrun⟩:=amj s hc hcall
  have hcalls:=V3 s hargs hg
  unfold Oper.wp
  rw[hrun,Oper.upon_enter]
  refine hcalls.mono fun e w' he=>?_
  obtain⟨v,rfl,s',hx⟩:=he
  exact hk _ _ _ _ hkk (St.putO s' hd hx)
 ·obtain⟨args,hargs,hrun⟩:=amj s hc hcall
  have hcalls:=aDK s hargs hg
  unfold Oper.wp
  rw[hrun,Oper.upon_enter]
  refine hcalls.mono fun e w' he=>?_
  obtain⟨v,B',rfl,s',hx⟩:=he
  exact hk _ _ _ _ hkk (St.putO s' hd hx)
 ·obtain⟨args,hargs,hrun⟩:=amj s hc hcall
  have hcalls:=aAW s hargs hg
  unfold Oper.wp
  rw[hrun,Oper.upon_enter]
  refine hcalls.mono fun e w' he=>?_
  obtain⟨v,B',rfl,s',hx⟩:=he
  exact hk _ _ _ _ hkk (St.putO s' hd hx)
 ·obtain⟨v,B',hrun,s',hx⟩:=aMx s hc (a1K hn hd) hf hq
  unfold Oper.wp
  rw[hrun]
  exact hk _ _ _ _ hkk (St.putO s' hd hx)
 ·obtain⟨nx,v,w',B',hrun,hnx,s',hx⟩:=aXQ s hc hq
  unfold Oper.wp
  rw[hrun]
  rcases hnx with rfl | ⟨rfl,rfl⟩
  ·exact hk _ _ _ _ hkk (St.putO s' hd hx)
  ·exact hk _ _ _ _ hkk (St.putO s' hd hx)
variable {n:Nat} {I:Option (List Oid)}
theorem N9(hK:auX K n I)(hn:n≤1000){ops:Array Oper}{Q:Exit→Act→World→Prop}{k:Env→Heap→Prop}(hk:∀Γ' h' a' w',k Γ' h'→St K Γ' h' a' w'→Q .normal a' w') :
  ∀(l:List Oper) (vl:List VOp) (Γ:Env) (h:Heap) (a:Act) (w:World),l.mapM (tY P n ops)=some vl→St K Γ h a w→jX (J4 P n I) vl Γ h k→wpList P ops Q l a w
 | [],vl,Γ,h,a,w,hm,s,hp=>by
  simp at hm;subst hm
  exact hk _ _ _ _ hp s
 | o::l,vl,Γ,h,a,w,hm,s,hp=>by
  simp only[List.mapM_cons,Option.bind_eq_bind,Option.pure_def]at hm
  cases hv:tY P n ops o with
  | none=>simp[hv]at hm
  | some vo =>
   cases hr:l.mapM (tY P n ops)with
   | none=>simp[hv,hr]at hm
   | some rest =>
    simp[hv,hr]at hm
    subst hm
    obtain⟨hdst,hop,hd,hg⟩:=acK s hv
    simp only[jX]at hp
    rcases hg hp with⟨hw,hy⟩ | ⟨hw,hno⟩
    ·simp only[wpList,hw,jw]
     rw[hdst]at hy
     obtain⟨Γ1,h1,hs,hx⟩:=hy
     exact .inl (aCQ (hs K hK a w s) hop (by rw[hK.1];omega) (fun d he=>by rw[hK.1];exact hd d he) hx fun Γ' h' a' w' ⟨Γ2,h2,hs2,hk'⟩ s'=>N9 hK hn hk l rest Γ2 h2 a' w' hr (hs2 K hK a' w' s') hk')
    ·simp only[wpList,hw,ik,gw]
     refine N9 hK hn hk l rest (putO vo.dst Px Γ) h _ w hr ?_ hno
     rw[hdst]
     obtain⟨B,s⟩:=s
     exact St.putO s (fun d he=>by rw[hK.1];exact hd d he) (show RepV w _ B undef Px from⟨#[],rfl,Pt.nil⟩)
theorem aUj{Q:Exit→Env→Heap→Prop}{ops:List VOp}(hn:n≤1000)(hq:jX (J4 P n I) ops Γ h fun Γ' h'=>Q .normal Γ' h'):W P n I (.region none ops) Q Γ h:=by
 intro c hc K hK a w s
 obtain⟨id,ops',b,rfl,hvl,hb,_⟩:=Jz hc
 obtain rfl:=hb rfl
 refine wp_region ?_
 have e:=wpOps_eq_wpList (P:=P) (ops:=ops') (Q:=bgY K Q) ops'.toList 0 (fun j=>by simp)
 rw[Array.length_toList]at e
 rw[List.range_eq_range',e]
 exact N9 hK hn (fun Γ' h' a' w' hk s'=>⟨Γ',h',hk,s'⟩) _ _ _ _ _ _ hvl s hq
end
end Go.VM
namespace Go.VM
def eQ:List (Oid×Oid)→Oid→Oid
  | [],o=>o
  | p::r,o=>bif o5 o p.1 then p.2 else bif o5 o p.2 then p.1 else eQ r o
def I4:List (Oid×Oid)→List Oid
  | []=>[]
  | p::r=>p.1::p.2::I4 r
def ahZ:List (Oid×Oid)→Bool
  | []=>true
  | p::r=>!(KK p.1 (I4 r)) && !(KK p.2 (I4 r)) && !(A8 p.1) && !(A8 p.2)&&ahZ r
theorem Qx:∀(l:List (Oid×Oid)) (o:Oid),eQ l o=o∨eQ l o∈I4 l
  | [],o=>.inl rfl
  | p::r,o=>by
    simp only[eQ,I4]
    cases h1:o5 o p.1 with
    | true=>exact .inr (by simp)
    | false =>
      cases h2:o5 o p.2 with
      | true=>exact .inr (by simp)
      | false =>
        rcases Qx r o with h | h
        ·exact .inl (by simpa using h)
        ·exact .inr (by simp[h])
def aAK:List (Oid×Oid)→Bool
  | []=>true
  | p::r=>!(KK p.1 (I4 r)) && !(KK p.2 (I4 r))&&aAK r
theorem adx:∀(l:List (Oid×Oid)),aAK l=true→∀o,eQ l (eQ l o)=o
  | [],_,o=>rfl
  | p::r,h,o=>by
    simp only[aAK,cw,mw]at h
    obtain⟨⟨h1,h2⟩,h3⟩:=h
    have n1:=XY h1
    have n2:=XY h2
    have ih:=adx r h3 o
    cases e1:o5 o p.1 with
    | true =>
      have:=F0.1 e1;subst this
      simp only[eQ,e1,cond_true]
      cases e3:o5 p.2 p.1 with
      | true=>have:=F0.1 e3;simp[this]
      | false=>simp[show o5 p.2 p.2=true from F0.2 rfl]
    | false =>
      cases e2:o5 o p.2 with
      | true =>
        have:=F0.1 e2;subst this
        simp only[eQ,e1,e2,cond_true,cond_false,show o5 p.1 p.1=true from F0.2 rfl]
      | false =>
        have e:eQ (p::r) o=eQ r o:=by simp only[eQ,e1,e2,cond_false]
        rw[e]
        have g1:o5 (eQ r o) p.1=false:=by
          cases hx:o5 (eQ r o) p.1 with
          | false=>rfl
          | true =>
            exfalso
            have hx:=F0.1 hx
            rcases Qx r o with h | h
            ·rw[h]at hx;rw[hx,show o5 p.1 p.1=true from F0.2 rfl]at e1;simp at e1
            ·rw[hx]at h;exact n1 h
        have g2:o5 (eQ r o) p.2=false:=by
          cases hx:o5 (eQ r o) p.2 with
          | false=>rfl
          | true =>
            exfalso
            have hx:=F0.1 hx
            rcases Qx r o with h | h
            ·rw[h]at hx;rw[hx,show o5 p.2 p.2=true from F0.2 rfl]at e2;simp at e2
            ·rw[hx]at h;exact n2 h
        simp only[eQ,g1,g2,cond_false]
        exact ih
theorem aZZ:∀ {l:List (Oid×Oid)},ahZ l=true→aAK l=true
  | [],_=>rfl
  | p::r,h=>by
    simp only[ahZ,cw]at h
    simp only[aAK,cw]
    exact⟨h.1.1.1,aZZ h.2⟩
theorem Lj(l:List (Oid×Oid))(h:ahZ l=true)(o:Oid):eQ l (eQ l o)=o:=adx l (aZZ h) o
theorem G9:∀(l:List (Oid×Oid)),ahZ l=true→∀o,A8 o=true→eQ l o=o
  | [],_,_,_=>rfl
  | p::r,h,o,ho=>by
    simp only[ahZ,cw,mw]at h
    obtain⟨⟨⟨⟨_,_⟩,h1⟩,h2⟩,h3⟩:=h
    simp only[eQ]
    cases e1:o5 o p.1 with
    | true=>rw[F0.1 e1,h1]at ho;simp at ho
    | false =>
      cases e2:o5 o p.2 with
      | true=>rw[F0.1 e2,h2]at ho;simp at ho
      | false=>exact G9 r h3 o ho
def FlatM:M→Prop
  | []=>True
  | p::r=>FlatOb p.2∧FlatM r
theorem FlatM.get:∀ {m:M},FlatM m→∀o ob,aV m o=some ob→FlatOb ob
  | [],_,o,ob,h=>by simp[aV,noHeap]at h
  | p::r,hf,o,ob,ho=>by
    rw[fK]at ho
    simp only[d6]at ho
    cases hx:sj p.2 with
    | some G =>
      have:=hf.1
      cases hp:p.2<;>rw[hp]at hx<;>first | (simp at hx;done) | (rw[hp]at this;exact this.elim)
    | none =>
    simp only[hx]at ho
    cases hb:o5 o p.1 with
    | true=>simp only[hb,cond_true,bw]at ho;subst ho;exact hf.1
    | false=>simp only[hb,cond_false]at ho;exact hf.2.get o ob (by rw[fK];exact ho)
section
variable {P:Program} {n:Nat} {I:Option (List Oid)} {Q:Exit→Env→Heap→Prop} {l l':L} {m m':M} {kk:Env→Heap→Prop} {dst:Option Nat} {op:VO} {f:FuncId} {vs:List V}
theorem anZ{ops:List VOp}(hn:n≤1000)(hq:jX (J4 P n I) ops (dV l) (aV m) fun Γ' h'=>Q .normal Γ' h'):W P n I (.region none ops) Q (dV l) (aV m):=aUj hn hq
theorem L0{dst:Option Nat}{op:VO}{Γ:Env}{h:Heap}{k k':Env→Heap→Prop}(hk:∀Γ h,k Γ h→k' Γ h)(hs:l6 P dst op Γ h k):l6 P dst op Γ h k':=by
  unfold l6 at hs ⊢
  split at hs
  ·obtain⟨r,h1,h2⟩:=hs;exact⟨r,h1,hk _ _ h2⟩
  ·obtain⟨f,caps,h1,h2,r,h3,h4⟩:=hs;exact⟨f,caps,h1,h2,r,h3,hk _ _ h4⟩
  ·split at hs
   ·rename_i he
    rw[if_pos he]
    obtain⟨h1,x,h',h2,h3⟩:=hs;exact⟨h1,x,h',h2,hk _ _ h3⟩
   ·rename_i he
    rw[if_neg he]
    obtain⟨r,h1,h2⟩:=hs;exact⟨r,h1,hk _ _ h2⟩
theorem Q5{dst:Option Nat}{op:VO}{Γ:Env}{h:Heap}{k k':Env→Heap→Prop}(hk:∀Γ h,k Γ h→k' Γ h)(hs:X7 P dst op Γ h k):X7 P dst op Γ h k':=by
  rcases hs with hp | ⟨f,vs,r,hcall,hg,hkk⟩ | ⟨f,vs,pins,hin,r,hout,hcall,hg,hkk⟩ | ⟨f,vs,pins,hin,r,hout,hcall,hg,hkk⟩ | ⟨hf,x,h',hq,hkk⟩ | ⟨x,h',hq,hkk⟩
  ·exact .inl (L0 hk hp)
  ·exact .inr (.inl ⟨f,vs,r,hcall,hg,hk _ _ hkk⟩)
  ·exact .inr (.inr (.inl ⟨f,vs,pins,hin,r,hout,hcall,hg,hk _ _ hkk⟩))
  ·exact .inr (.inr (.inr (.inl ⟨f,vs,pins,hin,r,hout,hcall,hg,hk _ _ hkk⟩)))
  ·exact .inr (.inr (.inr (.inr (.inl ⟨hf,x,h',hq,hk _ _ hkk⟩))))
  ·exact .inr (.inr (.inr (.inr (.inr ⟨x,h',hq,hk _ _ hkk⟩))))
theorem aHX{k:Env→Heap→Prop}:∀Γ h,k Γ h→aPW n I k Γ h:=fun _ _ h=>⟨_,_,Sim.refl _ _,h⟩
theorem SV:∀dst op Γ h k,l6 P dst op Γ h k→J4 P n I dst op Γ h k:=fun _ _ _ _ _ h=>⟨_,_,Sim.refl _ _,.inl (L0 aHX h)⟩
theorem RV{ops:List VOp}(h:PQ ops l m=some (l',m')){k:Env→Heap→Prop}(hk:k (dV l') (aV m')):jX (J4 P n I) ops (dV l) (aV m) k:=by
  have:=I0 (S:=J4 P n I) (rest:=[]) SV ops h hk
  rwa [List.append_nil]at this
theorem jj{g:Option (Nat×Bool)}{rest:List VOp}{k:Env→Heap→Prop}(hg:gOk l g)
    (h:X7 P dst op (dV l) (aV m) fun Γ h=>jX (J4 P n I) rest Γ h k):jX (J4 P n I) (⟨dst,op,g⟩::rest) (dV l) (aV m) k:=by
  simp only[jX,AQ]
  cases g with
  | none=>exact⟨_,_,Sim.refl _ _,Q5 aHX h⟩
  | some tb =>
    obtain⟨t,b⟩:=tb
    exact .inl ⟨by rw[sV];exact hg,_,_,Sim.refl _ _,Q5 aHX h⟩
theorem a8Y{g:Option (Nat×Bool)}{rest:List VOp}{k:Env→Heap→Prop}(hg:gOk l g)(hs:PJ n I l m l' m')
    (h:X7 P dst op (dV l') (aV m') fun Γ h=>jX (J4 P n I) rest Γ h k):jX (J4 P n I) (⟨dst,op,g⟩::rest) (dV l) (aV m) k:=by
  simp only[jX,AQ]
  cases g with
  | none=>exact⟨_,_,hs,Q5 aHX h⟩
  | some tb =>
    obtain⟨t,b⟩:=tb
    exact .inl ⟨by rw[sV];exact hg,_,_,hs,Q5 aHX h⟩
theorem fq:PJ n I l m l m:=Sim.refl _ _
theorem AY(args:List Opd):IK P (dV l) (.call f args) f (args.map (ev (look l))):=by
  rw[←jJ];exact .named f args
theorem I8{x:Opd}{caps:List Cap}(args:List Opd)(hx:ev (look l) x = .c (.fn f caps))(hok:OW P f=true):IK P (dV l) (.callv x args) f (args.map (ev (look l))++caps.map axQ):=by
  rw[←jJ]at hx ⊢;exact .value f x args caps hx hok
theorem IX(hC:IK P (dV l) op f vs){fresh:Bool}{us:List V}{r:V}(hF:Fun P f fresh [] us noHeap r noHeap)(hs:H4 (aV m) vs us)(hr:r.refs=[])
    (h3:fresh=true∨acj r=true∨H4 noHeap vs us) (hk:kk (dV (Hj dst r l)) (aV m)):X7 P dst op (dV l) (aV m) kk:=by
  rw[mV]at hk
  exact .inr (.inl ⟨f,vs,r,hC,.inl ⟨fresh,us,hF,hs,hr,h3⟩,hk⟩)
theorem oz(σl:List (Oid×Oid))(hσ:ahZ σl=true)(hC:IK P (dV l) op f vs){pins:List Oid}{us:List V}{mi mo:M}{r:V}(hF:Fun P f false pins us (aV mi) r (aV mo))
    (ha:AgM m (Ez (eQ σl) mi)) (hs:ahW vs (us.map (G5 (eQ σl)))) (hn:VY (pins.map (eQ σl)) l m (Ez (eQ σl) mi) (Ez (eQ σl) mo)=true)
    (hc:X8 (pins.map (eQ σl)) (Ez (eQ σl) mo) (Ez (eQ σl) mo)=true) (hr:TZ (pins.map (eQ σl)) (Ez (eQ σl) mo) (G5 (eQ σl) r).refs=true)
    (hk:kk (dV (Hj dst (acQ (G5 (eQ σl) r)) l)) (aV (azQ m (Ez (eQ σl) mi) (Ez (eQ σl) mo)))):X7 P dst op (dV l) (aV m) kk:=by
  obtain⟨pl1,pl2⟩:=KW hn
  rw[mV,L4,auQ _ _ _ pl1 pl2]at hk
  have hi:=Lj σl hσ
  have hF':=hF.ren (eQ σl) hi
  unfold RW at hF'
  rw[Nx _ hi (G9 σl hσ),Nx _ hi (G9 σl hσ)]at hF'
  refine .inr (.inr (.inl ⟨f,vs,_,_,_,_,hC,⟨⟨_,hs,hF'⟩,AgM.weak ha,fun o ob ho=>?_,fun o ob ho=>?_,KY hr⟩,hk⟩))
  ·rw[fK]at ho;exact Sx hn _ (SZ pl2 ho)
  ·rw[fK]at ho;exact P8 hc _ (SZ pl2 ho)
theorem a9q(σl:List (Oid×Oid))(hσ:ahZ σl=true)(hC:IK P (dV l) op f vs){pins:List Oid}{us:List V}{mi mo:M}{r:V}(hF:Fun P f false pins us (aV mi) r (aV mo))
    (ha:AgM m (Ez (eQ σl) mi)) (hs:J1 (JQ (aV m) (aV (Ez (eQ σl) mi))) vs (us.map (G5 (eQ σl)))) (hn:VY (pins.map (eQ σl)) l m (Ez (eQ σl) mi) (Ez (eQ σl) mo)=true)
    (hc:X8 (pins.map (eQ σl)) (Ez (eQ σl) mo) (Ez (eQ σl) mo)=true) (hr:TZ (pins.map (eQ σl)) (Ez (eQ σl) mo) (G5 (eQ σl) r).refs=true)
    (hfr:aJX (G5 (eQ σl) r)=true) (hfo:FlatM (Ez (eQ σl) mo))
    (hk:kk (dV (Hj dst (acQ (G5 (eQ σl) r)) l)) (aV (azQ m (Ez (eQ σl) mi) (Ez (eQ σl) mo)))):X7 P dst op (dV l) (aV m) kk:=by
  obtain⟨pl1,pl2⟩:=KW hn
  rw[mV,L4,auQ _ _ _ pl1 pl2]at hk
  have hi:=Lj σl hσ
  have hF':=hF.ren (eQ σl) hi
  unfold RW at hF'
  rw[Nx _ hi (G9 σl hσ),Nx _ hi (G9 σl hσ)]at hF'
  refine .inr (.inr (.inr (.inl ⟨f,vs,_,_,_,_,hC,⟨⟨_,hs,hF'⟩,AgM.weak ha,fun o ob ho=>?_,fun o ob ho=>?_,KY hr,hfr,hfo.get⟩,hk⟩)))
  ·rw[fK]at ho;exact Sx hn _ (SZ pl2 ho)
  ·rw[fK]at ho;exact P8 hc _ (SZ pl2 ho)
variable {α:Type} {tc:α→List T}
end
def acq(o:Oid)(t:T):C→C
  | .slO o'=>bif o5 o' o then .imm t else .slO o'
  | .elO o' k i off=>bif o5 o' o then .junk else .elO o' k i off
  | x=>x
theorem akW(o:Oid)(t:T)(c:C):acq o t c=Q3 o t c:=by
  cases c with
  | slO o'=>simp only[acq,Q3];cases h:o5 o' o with
    | true=>simp[F0.1 h]
    | false=>have : ¬o'=o:=fun e=>by rw[←F0,h]at e;simp at e
             simp[this]
  | elO o' k i off=>simp only[acq,Q3];cases h:o5 o' o with
    | true=>simp[F0.1 h]
    | false=>have : ¬o'=o:=fun e=>by rw[←F0,h]at e;simp at e
             simp[this]
  | _=>rfl
def asj(o:Oid)(t:T):V→V
  | .c x=>.c (aDY (acq o t x))
  | .agg cs=>.agg (QW (cs.map (acq o t)))
  | _=>.junk
theorem Xj(o:Oid)(t:T)(v:V):asj o t v=aLq o t v:=by
  cases v with
  | c x=>simp only[asj,aLq,YJ,akW]
  | agg cs=>simp only[asj,aLq,K8,show acq o t=Q3 o t from funext (akW o t)]
  | _=>rfl
def a1V(o:Oid)(t:T):V→V
  | .tup vs=>.tup (vs.map (asj o t))
  | x=>asj o t x
theorem a2W(o:Oid)(t:T)(v:V):a1V o t v=aSW o t v:=by
  cases v with
  | tup vs=>simp only[a1V,aSW,show asj o t=aLq o t from funext (Xj o t)]
  | c x=>exact Xj o t (.c x)
  | agg x=>exact Xj o t (.agg x)
  | junk=>exact Xj o t .junk
def awW(o:Oid)(t:T):Ob→Ob
  | .arr e k rows=>.arr e k rows
  | .box cs=>.box (QW (cs.map (acq o t)))
  | .map kd es=>.map kd es
  | .mapC kd es=>.mapC kd (es.map fun p=>(p.1,Q3 o t p.2))
  | .arrC e k rows=>.arrC e k (rows.map fun r=>r.map (Q3 o t))
  | .fam G=>.fam G
theorem aWV(o:Oid)(t:T)(ob:Ob):awW o t ob=UW o t ob:=by
  cases ob with
  | arr=>rfl
  | box cs=>simp only[awW,UW,K8,show acq o t=Q3 o t from funext (akW o t)]
  | map kd es=>rfl
  | mapC kd es=>rfl
  | arrC e k rows=>rfl
  | fam G=>rfl
def baZ(o:Oid)(t:T):L→L
  | []=>[]
  | p::r=>(p.1,a1V o t p.2)::baZ o t r
def aLx(o:Oid)(t:T):M→M
  | []=>[]
  | p::r=>match sj p.2 with
    | some _=>p::aLx o t r
    | none=>bif o5 p.1 o then aLx o t r else(p.1,awW o t p.2)::aLx o t r
theorem aAV{o:Oid}{t:T}{c:C}(h:o∉c.refs):Q3 o t c=c:=by
  cases c with
  | slO o'=>simp only[Q3];rw[if_neg (fun e=>h (by simp[C.refs,e]))]
  | elO o' k i off=>simp only[Q3];rw[if_neg (fun e=>h (by simp[C.refs,e]))]
  | _=>rfl
theorem atZ{o:Oid}{t:T}{cs:List C}(h:o∉cs.flatMap C.refs):cs.map (Q3 o t)=cs :=
  (List.map_congr_left (g:=id) (fun x hx=>aAV fun ho=>h (nk.2 ⟨x,hx,ho⟩))).trans (List.map_id _)
theorem aWq{o:Oid}{t:T}{ob:Ob}(h:o∉ob.refs):UW o t ob=ob:=by
  cases ob with
  | arr=>rfl
  | map=>rfl
  | fam=>rfl
  | box cs=>simp only[UW];rw[atZ h]
  | mapC kd es =>
    simp only[UW]
    congr 1
    exact(List.map_congr_left (g:=id) (fun p hp=>by rw[aAV fun ho=>h (by simp only[Ob.refs];exact nk.2 ⟨p,hp,ho⟩)];rfl)).trans (List.map_id _)
  | arrC e k rows =>
    simp only[UW]
    congr 1
    refine(List.map_congr_left (g:=id) (fun r hr=>?_)).trans (List.map_id _)
    exact atZ fun ho=>by
      obtain⟨c,hc,hco⟩:=nk.1 ho
      exact h (by simp only[Ob.refs];exact nk.2 ⟨c,List.mem_flatten.2 ⟨r,hr,hc⟩,hco⟩)
theorem aSj(o:Oid)(t:T)(ob:Ob):sj (awW o t ob)=sj ob:=by cases ob<;>rfl
theorem aRz(o:Oid)(t:T):∀l:L,(fun u=>aSW o t (dV l u))=dV (baZ o t l)
  | []=>by funext u;rfl
  | p::r=>by
    funext u
    have ih:=congrFun (aRz o t r) u
    rw[sV]at ih ⊢
    rw[sV]at ih ⊢
    simp only[look,baZ,a2W]
    cases Nat.beq u p.1 with
    | true=>rfl
    | false=>exact ih
theorem aNW(o:Oid)(t:T)(ho:A8 o=false):∀m:M,Wx o t (aV m)=aV (aLx o t m)
  | []=>by funext p;simp[Wx,aV,noHeap,aLx]
  | q::r=>by
    funext p
    have ih:=congrFun (aNW o t ho r) p
    unfold Wx at ih ⊢
    rw[fK,fK]at ih ⊢
    simp only[d6,aLx]
    cases hx:sj q.2 with
    | some G =>
      simp only[d6,hx]
      cases hp:A8 p with
      | true =>
        have hne : ¬p=o:=fun e=>by rw[e,ho]at hp;simp at hp
        rw[if_neg hne]
        simp only[cond_true]
        cases hg:JV G p with
        | none=>rfl
        | some ob =>
          obtain⟨_,_,h3⟩:=SY hg
          simp only[Option.map_some]
          rw[aWq fun hm=>by have:=h3 o hm;rw[ho]at this;simp at this]
      | false=>simp only[cond_false];exact ih
    | none =>
    cases hq:o5 q.1 o with
    | true =>
      have e:=F0.1 hq
      rw[cond_true]
      rw[←ih]
      by_cases hp:p=o
      ·simp[hp]
      ·simp only[hp,gw]
       have:o5 p q.1=false:=by
         cases hx:o5 p q.1 with
         | false=>rfl
         | true=>exact absurd ((F0.1 hx).trans e) hp
       rw[this,cond_false]
    | false =>
      rw[cond_false]
      simp only[d6,aSj,hx]
      cases hpq:o5 p q.1 with
      | true =>
        have e:=F0.1 hpq
        have hne : ¬p=o:=fun h=>by rw[←h,e,show o5 q.1 q.1=true from F0.2 rfl]at hq;simp at hq
        simp[hne,aWV]
      | false=>simpa using ih
section
variable {P:Program} {K:Ctx} {n:Nat} {I:Option (List Oid)} {Γ:Env} {h:Heap}
theorem Sim.frz2{o:Oid}{e k:Nat}{rows:List (List T)}(d6:h o=some (.arr e k rows)){l:List Oid}(hI:I=some l)(hl:∀p∈l,p≠o∧∃ob,h p=some ob) :
    Sim n I Γ h (fun t=>aSW o (.sl k rows) (Γ t)) (Wx o (.sl k rows) h):=by
  rintro K hK a w ⟨B,s⟩
  have hdom:∀p ob,Wx o (.sl k rows) h p=some ob→p≠o∧∃ob1,h p=some ob1∧ob=UW o (.sl k rows) ob1:=by
    intro p ob hp
    unfold Wx at hp
    split at hp
    ·simp at hp
    ·rename_i hne
     obtain⟨ob1,h1,h2⟩:=aw.1 hp
     exact⟨hne,ob1,h1,h2.symm⟩
  have hmk:∀b,wj K.w0.heap.size K.ok0 w B h b→wj K.w0.heap.size K.ok0 w B (Wx o (.sl k rows) h) b:=fun b hb =>
    ⟨hb.1,hb.2.1,fun p ob hp=>by obtain⟨_,ob1,h1,_⟩:=hdom p ob hp;exact hb.2.2 p ob1 h1⟩
  have hblk:∀b,lj (B o)=some b→wj K.w0.heap.size K.ok0 w B (Wx o (.sl k rows) h) b:=by
    intro b hb
    refine⟨(s.objs.rep o _ d6).lt hb,fun hlt=>?_,fun p ob hp hpb=>?_⟩
    ·exfalso
     obtain⟨p,hpar⟩:=s.own o _ b d6 hb hlt
     obtain⟨hpl,hpin,hpb⟩:=hK.2 l hI p b hpar
     obtain⟨hne,ob,hcs⟩:=hl p hpl
     have hB:=(s.pin p hpin).2
     exact hne (s.objs.apart p o _ _ b hcs d6 (by rw[hB];exact hpb) hb)
    ·obtain⟨hne,ob1,h1,_⟩:=hdom p ob hp
     exact hne (s.objs.apart p o ob1 _ b h1 d6 hpb hb)
  have ht:∀v,RepC w (wj K.w0.heap.size K.ok0 w B h) B v (.slO o)→RepT w (wj K.w0.heap.size K.ok0 w B (Wx o (.sl k rows) h)) v (.sl k rows):=fun v hv =>
    ayQ s d6 hv hblk fun u i row j x _ _ hr=>hr.mono (fun _ _=>rfl) hmk
  refine⟨B,fun t=>(s.slots t).frz hmk ht,⟨fun p ob hp=>?_,fun p p' ob ob' b hp hp'=>?_⟩,s.defers,s.size,s.fr,fun p ob b hp=>?_,s.pin⟩
  ·obtain⟨_,ob1,h1,rfl⟩:=hdom p ob hp
   exact(s.objs.rep p ob1 h1).frz hmk ht
  ·obtain⟨_,ob1,h1,_⟩:=hdom p ob hp
   obtain⟨_,ob2,h2,_⟩:=hdom p' ob' hp'
   exact s.objs.apart p p' ob1 ob2 b h1 h2
  ·obtain⟨_,ob1,h1,_⟩:=hdom p ob hp
   exact s.own p ob1 b h1
def ajz(o:Oid)(m:M):List Oid→Bool
  | []=>!(A8 o)
  | p::r=>!(o5 p o)&&(d6 m p).isSome&&ajz o m r
theorem akQ{o:Oid}{m:M}:∀ {l:List Oid},ajz o m l=true→∀p∈l,p≠o∧∃ob,aV m p=some ob
  | [],_,p,hp=>by simp at hp
  | q::r,h,p,hp=>by
    simp only[ajz,cw,mw]at h
    rcases iw.1 hp with rfl | hp
    ·refine⟨fun e=>by rw[←F0,h.1.1]at e;simp at e,?_⟩
     obtain⟨ob,hob⟩:=Option.isSome_iff_exists.1 h.1.2
     exact⟨ob,by rw[fK];exact hob⟩
    ·exact akQ h.2 p hp
theorem avV{o:Oid}{m:M}:∀ {l:List Oid},ajz o m l=true→A8 o=false
  | [],h=>by simpa[ajz]using h
  | q::r,h=>by
    simp only[ajz,cw]at h
    exact avV h.2
variable {l l':L} {m m':M}
theorem aCY(o:Oid){e k:Nat}{rows:List (List T)}(hget':d6 m o=some (.arr e k rows)){ps:List Oid}(hl:ajz o m ps=true)(h:PJ n (some ps) (baZ o (.sl k rows) l) (aLx o (.sl k rows) m) l' m'):PJ n (some ps) l m l' m':=by
  refine Sim.trans ?_ h
  rw[←aRz,←aNW _ _ (avV hl)]
  exact Sim.frz2 (by rw[fK];exact hget') rfl (akQ hl)
end
end Go.VM
namespace Go.VM
def xZ{κ ν:Type}[DecidableEq κ](k:κ):List (κ×ν)→Option ν
 | []=>none
 | p::r=>if k=p.1 then some p.2 else xZ k r
def alj{κ ν:Type}[DecidableEq κ](k:κ)(v:ν):List (κ×ν)→List (κ×ν)
 | []=>[(k,v)]
 | p::r=>if k=p.1 then(k,v)::r else p::alj k v r
structure aSQ{κ:Type}[DecidableEq κ](kd:TypeDesc)(kv:κ→Value):Prop where
 key:∀a,keyOf kd (kv a)=true
 eqv:∀a b,keyB (kv a) (kv b)=decide (a=b)
theorem anj(k:IntKind):aSQ (.int k) (fun n:Int=>.int k n):=⟨fun _=>by simp[keyOf],fun _ _=>rfl⟩
section
variable {κ ν:Type} {kd:TypeDesc} {kv:κ→Value} {vv:ν→MT}
def sW(kd:TypeDesc)(kv:κ→Value)(vv:ν→MT)(es:List (κ×ν)):Ob:=.map kd (es.map fun p=>(kv p.1,vv p.2))
inductive MaV(m:M)(kd:TypeDesc)(kv:κ→Value)(vv:ν→MT)(es:List (κ×ν)):V→Prop
 | own (o:Oid):d6 m o=some (sW kd kv vv es)→MaV m kd kv vv es (.c (.mapO o))
 | nil:es=[]→MaV m kd kv vv es (.c .nilM)
theorem MaV.src{m:M}{es:List (κ×ν)}{v:V}(h:MaV m kd kv vv es v):azX (aV m) kd v (es.map fun p=>(kv p.1,(vv p.2).v)):=by
 cases h with
 | own o h=>simp only[azX,fK];exact⟨_,h,by simp⟩
 | nil h=>subst h;rfl
variable {P:Program} {l:L} {m:M} {kk:Env→Heap→Prop} {dst:Option Nat}
theorem aQZ(hf:(BV (dst.getD 999,0) l&&AZ (dst.getD 999,0) m)=true)(hkk:kk (dV (Hj dst (.c (.mapO (dst.getD 999,0))) l)) (aV (((dst.getD 999,0),sW kd kv vv ([]:List (κ×ν)))::m))):l6 P dst (.mkmap kd) (dV l) (aV m) kk:=by
 rw[mV]at hkk
 rw[cw]at hf
 exact⟨fun _=>EX hf.1 hf.2,_,_,⟨rfl,rfl⟩,hkk⟩
variable [DecidableEq κ]
theorem ajQ{β:Type}{g:ν→β}(hk:aSQ kd kv)(k:κ):∀es:List (κ×ν),L6 (kv k) (es.map fun p=>(kv p.1,g p.2))=(xZ k es).map g
 | []=>rfl
 | p::r=>by
  simp only[List.map_cons,L6,xZ,hk.eqv]
  by_cases h:k=p.1
  ·simp[h]
  ·simp[h,ajQ hk k r]
theorem aHJ(hk:aSQ kd kv)(k:κ)(v:ν):∀es:List (κ×ν),G6 (kv k) (vv v) (es.map fun p=>(kv p.1,vv p.2))=(alj k v es).map fun p=>(kv p.1,vv p.2)
 | []=>rfl
 | p::r=>by
  simp only[List.map_cons,G6,alj,hk.eqv]
  by_cases h:k=p.1
  ·simp[h]
  ·simp[h,aHJ hk k v r]
theorem beV(hk:aSQ kd kv){x i:Opd}{z:V}(es:List (κ×ν))(key:κ)(z0:ν)(hx:MaV m kd kv vv es (ev (look l) x))(hi:ev (look l) i=scV (kv key))(hz:z=(vv z0).v)
  (hkk:kk (dV (Hj dst (vv ((xZ key es).getD z0)).v l)) (aV m)):l6 P dst (.look kd z false x i) (dV l) (aV m) kk:=by
 refine H5 ⟨kv key,_,by rw[jJ];exact hi,hk.key key,by rw[jJ];exact hx.src,rfl⟩ rfl (by simp) ?_
 rw[ajQ (g:=fun y=>(vv y).v) hk,hz]
 cases hm:xZ key es with
 | none=>simpa[hm,Lx]using hkk
 | some v=>simpa[hm,Lx]using hkk
theorem MQ(hk:aSQ kd kv){x i:Opd}{z:V}(es:List (κ×ν))(key:κ)(z0:ν)(hx:MaV m kd kv vv es (ev (look l) x))(hi:ev (look l) i=scV (kv key))(hz:z=(vv z0).v)
  (hkk:kk (dV (Hj dst (.tup [(vv ((xZ key es).getD z0)).v,bV (xZ key es).isSome]) l)) (aV m)):l6 P dst (.look kd z true x i) (dV l) (aV m) kk:=by
 refine H5 ⟨kv key,_,by rw[jJ];exact hi,hk.key key,by rw[jJ];exact hx.src,rfl⟩ rfl (by simp) ?_
 rw[ajQ (g:=fun y=>(vv y).v) hk,hz]
 cases hm:xZ key es with
 | none=>simpa[hm,Lx]using hkk
 | some v=>simpa[hm,Lx]using hkk
theorem aMX(hk:aSQ kd kv){x i v:Opd}{o:Oid}(es:List (κ×ν))(key:κ)(y:ν)(hx:ev (look l) x = .c (.mapO o))(hm:d6 m o=some (sW kd kv vv es))(hi:ev (look l) i=scV (kv key))(hv:ev (look l) v=(vv y).v)
  (hkk:kk (dV (Hj dst .junk l)) (aV (SQ m o (sW kd kv vv (alj key y es))))):l6 P dst (.mupd kd x i v) (dV l) (aV m) kk:=by
 rw[mV,Q9 _ _ _ rfl]at hkk
 refine⟨fun hx=>by simp[J2]at hx,_,_,⟨o,_,kv key,vv y,by rw[jJ];exact hx,by rw[fK];exact hm,by rw[jJ];exact hi,hk.key key,by rw[jJ];exact hv,rfl,rfl⟩,?_⟩
 rw[aHJ hk]
 exact hkk
end
section
variable {P:Program} {n:Nat} {I:Option (List Oid)} {l l':L} {m m':M} {kk:Env→Heap→Prop} {dst:Option Nat}
theorem a1x{x i:Opd}(s:ByteArray){j:Int}{y:UInt8}{kk0:IntKind}(hx:ev (look l) x=scV (.string s))(hi:ev (look l) i=scV (.int kk0 j))(hy:idx s.data.toList j=some y)
  (hkk:kk (dV (Hj dst (scV (.int .u8 (y.toNat:Int))) l)) (aV m)):l6 P dst (.ixS x i) (dV l) (aV m) kk:=by
 refine H5 ⟨s,j,y,by rw[jJ];exact hx,⟨kk0,by rw[jJ];exact hi⟩,hy,rfl⟩ rfl (by simp) hkk
theorem a7W{α:Type}{tc:α→List T}{e:TypeId}{k:Nat}{xs:List α}(h:∀x,(tc x).all XQ=true):FlatOb (.arr e k (List.map tc xs)):=by
 intro row hrow t ht
 obtain⟨x,_,rfl⟩:=List.mem_map.1 hrow
 exact lw.1 (h x) t ht
theorem flatMap{κ ν:Type}{kd:TypeDesc}{kv:κ→Value}{vv:ν→MT}{es:List (κ×ν)}(h:∀y,ahY (vv y).v=true):FlatOb (sW kd kv vv es):=by
 intro p hp
 obtain⟨q,_,rfl⟩:=List.mem_map.1 hp
 exact h q.2
end
end Go.VM
namespace Go.VM
abbrev tI(n:Int):T:=.sc (.int .i64 n)
abbrev w64(n:Int):Int:=IntKind.i64.wrap n
def bhz(n:Nat)(I:Option (List Oid))(Q:Exit→Env→Heap→Prop)(e:Exit)(Γ:Env)(h:Heap):Prop:=∃Γ' h',Sim n I Γ h Γ' h'∧Q e Γ' h'
theorem bgV{P:Program}{n:Nat}{I:Option (List Oid)}{v:VC}{Q:Exit→Env→Heap→Prop}{Γ:Env}{h:Heap}(hW:W P n I v (bhz n I Q) Γ h):W P n I v Q Γ h :=
 fun c hc K hK a w s=>wp_mono (hW c hc K hK a w s) fun _ _ _ ⟨_,_,⟨Γ',h',hs,hq⟩,s'⟩=>⟨Γ',h',hq,hs K hK _ _ s'⟩
def abJ(pins:List Oid):M→Bool
 | []=>true
 | (o,.box _)::r=>KK o pins&&abJ pins r
 | (_,.fam _)::_=>false
 | _::r=>abJ pins r
theorem ajW{pins:List Oid}:∀ {m:M},abJ pins m=true→∀o cs,aV m o=some (.box cs)→o∈pins
 | [],_,o,cs,h=>by simp[aV,noHeap]at h
 | (q,ob)::r,hb,o,cs,h=>by
  rw[fK]at h
  cases hx:sj ob with
  | some G=>cases ob<;>simp[abJ]at hb hx
  | none =>
  simp only[d6,hx]at h
  cases ho:o5 o q with
  | true =>
   simp only[ho,cond_true,bw]at h
   subst h
   simp only[abJ,cw]at hb
   rw[F0.1 ho];exact C7 hb.1
  | false =>
   simp only[ho,cond_false]at h
   refine ajW (m:=r) ?_ o cs (by rw[fK];exact h)
   cases ob<;>simp_all[abJ]
def aQX(l pins:List Oid):M→Bool
 | []=>true
 | p::r=>(sj p.2).isNone&&(KK p.1 l&&KK p.1 pins)&&aQX l pins r
theorem alq{l pins:List Oid}:∀ {m:M},aQX l pins m=true→∀o ob,aV m o=some ob→o∈l∧o∈pins
 | [],_,o,ob,h=>by simp[aV,noHeap]at h
 | q::r,hb,o,ob,h=>by
  rw[fK]at h
  simp only[aQX,cw,Option.isNone_iff_eq_none]at hb
  simp only[d6,hb.1.1]at h
  cases ho:o5 o q.1 with
  | true=>rw[F0.1 ho];exact⟨C7 hb.1.2.1,C7 hb.1.2.2⟩
  | false =>
   simp only[ho,cond_false]at h
   exact alq (m:=r) hb.2 o ob (by rw[fK];exact h)
def aGZ:List Oid→Bool
 | []=>true
 | p::r=>Nat.ble 1000 p.1&&aGZ r
theorem akx:∀ {l:List Oid},aGZ l=true→∀o∈l,1000≤o.1
 | [],_,o,h=>by simp at h
 | p::r,hb,o,h=>by
  simp only[aGZ,cw]at hb
  rcases iw.1 h with rfl | h
  ·exact Nat.le_of_ble_eq_true hb.1
  ·exact akx hb.2 o h
def biJ(pins:List Oid)(m:M):Option (List Oid)→Bool
 | none=>true
 | some l=>aQX l pins m
theorem Fun.of_walkM{P:Program}{f:FuncId}{fn:Func}{n:Nat}{vc:VC}{rs:List VR}{fresh:Bool}{vs:List V}{m:M}{hout:Heap}{r:V}(pins:List Oid)(I:Option (List Oid))(hf:P.funcs[f]? = some fn)(hc:(fn.body.bind fun c=>mJ P n c)=some vc)
  (hn:n=vs.length+(fn.ntmps-vs.length)) (hr:fn.results.toList.mapM (L3 P)=some rs) (hk:aGZ pins=true) (hb:abJ pins m=true) (hI:biJ pins m I=true)
  (hW:W P n I vc (bhz n I (aJK rs fresh (aV m) r hout)) (dV (N1 0 vs)) (aV m)):Fun P f fresh pins vs (aV m) r hout :=
 Fun.of_walk pins I hf hc hn hr (akx hk) (ajW hb) (fun l hl o ob ho=>by subst hl;exact alq hI o ob ho) (bgV hW)
section
variable {P:Program} {l:L} {m:M} {kk:Env→Heap→Prop} {dst:Option Nat}
end
end Go.VM
namespace Go.VM
section
variable {α:Type}
def bcQ(v:Value)(k:Value→α):α:=match v with
 | .int a n=>k (.int a n)
 | .bool b=>k (.bool b)
 | .string s=>k (.string s)
 | v=>k v
theorem aZz(v:Value)(k:Value→α):bcQ v k=k v:=by cases v<;>rfl
def fcT(t:T)(k:T→α):α:=match t with
 | .sc v=>bcQ v fun v=>k (.sc v)
 | .sl n rows=>k (.sl n rows)
theorem a0V(t:T)(k:T→α):fcT t k=k t:=by cases t<;>simp[fcT,aZz]
def bax(ts:List T)(k:List T→α):α:=match ts with
 | []=>k []
 | t::r=>fcT t fun t=>bax r fun r=>k (t::r)
theorem aQJ:∀(ts:List T) (k:List T→α),bax ts k=k ts
 | [],_=>rfl
 | t::r,k=>by simp only[bax,a0V,aQJ r]
def fcO(o:Oid)(k:Oid→α):α:=match o with
 | (a,b)=>k (a,b)
theorem bfZ(o:Oid)(k:Oid→α):fcO o k=k o:=rfl
def fcC(c:C)(k:C→α):α:=match c with
 | .imm t=>fcT t fun t=>k (.imm t)
 | .nilS=>k .nilS
 | .nilM=>k .nilM
 | .slO o=>fcO o fun o=>k (.slO o)
 | .ptrO o off=>fcO o fun o=>k (.ptrO o off)
 | .elO o n i off=>fcO o fun o=>k (.elO o n i off)
 | .mapO o=>fcO o fun o=>k (.mapO o)
 | .ptrI cells=>bax cells fun cells=>k (.ptrI cells)
 | .fn f caps=>k (.fn f caps)
 | .junk=>k .junk
theorem aLY(c:C)(k:C→α):fcC c k=k c:=by cases c<;>simp[fcC,a0V,aQJ,fcO]
def aIW(cs:List C)(k:List C→α):α:=match cs with
 | []=>k []
 | c::r=>fcC c fun c=>aIW r fun r=>k (c::r)
theorem YV:∀(cs:List C) (k:List C→α),aIW cs k=k cs
 | [],_=>rfl
 | c::r,k=>by simp only[aIW,aLY,YV r]
def fcS(v:V)(k:V→α):α:=match v with
 | .c x=>fcC x fun x=>k (.c x)
 | .agg cs=>aIW cs fun cs=>k (.agg cs)
 | .tup vs=>k (.tup vs)
 | .junk=>k .junk
theorem bhq(v:V)(k:V→α):fcS v k=k v:=by cases v<;>simp[fcS,aLY,YV]
def a6V(vs:List V)(k:List V→α):α:=match vs with
 | []=>k []
 | v::r=>fcS v fun v=>a6V r fun r=>k (v::r)
theorem aOz:∀(vs:List V) (k:List V→α),a6V vs k=k vs
 | [],_=>rfl
 | v::r,k=>by simp only[a6V,bhq,aOz r]
def fcV(v:V)(k:V→α):α:=match v with
 | .c x=>fcC x fun x=>k (.c x)
 | .agg cs=>aIW cs fun cs=>k (.agg cs)
 | .tup vs=>a6V vs fun vs=>k (.tup vs)
 | .junk=>k .junk
theorem aXY(v:V)(k:V→α):fcV v k=k v:=by cases v<;>simp[fcV,aLY,YV,aOz]
def fcL(l:L)(k:L→α):α:=match l with
 | []=>k []
 | (t,v)::r=>fcV v fun v=>fcL r fun r=>k ((t,v)::r)
theorem a1W:∀(l:L) (k:L→α),fcL l k=k l
 | [],_=>rfl
 | (t,v)::r,k=>by simp only[fcL,aXY,a1W r]
def bdx(ob:Ob)(k:Ob→α):α:=match ob with
 | .arr e n rows=>k (.arr e n rows)
 | .box cs=>aIW cs fun cs=>k (.box cs)
 | .map kd es=>k (.map kd es)
 | .mapC kd es=>k (.mapC kd es)
 | .arrC e n rows=>k (.arrC e n rows)
 | .fam G=>k (.fam G)
theorem bbZ(ob:Ob)(k:Ob→α):bdx ob k=k ob:=by cases ob<;>simp[bdx,YV]
def fcM(m:M)(k:M→α):α:=match m with
 | []=>k []
 | (o,ob)::r=>fcO o fun o=>bdx ob fun ob=>fcM r fun r=>k ((o,ob)::r)
theorem aIJ:∀(m:M) (k:M→α),fcM m k=k m
 | [],_=>rfl
 | (o,ob)::r,k=>by simp only[fcM,bfZ,bbZ,aIJ r]
end
def aFK(dst:Option Nat)(x:V)(l:L)(m:M)(k:L→M→Option (L×M)):Option (L×M) :=
 match dst with
 | some d=>fcV x fun x=>k ((d,x)::l) m
 | none=>k l m
def aeK:List VOp→L→M→Option (L×M)
 | [],l,m=>some (l,m)
 | ⟨dst,op,none⟩::os,l,m =>
  bif Dx op then
   match aEY (dst.getD 999,0) l m op with
   | some (x,m')=>fcM m' fun m'=>aFK dst x l m' fun l m=>aeK os l m
   | none=>none
  else
   match wJ m (ev (look l)) op with
   | some r=>aFK dst r l m fun l m=>aeK os l m
   | none=>none
 | ⟨dst,op,some (t,b)⟩::os,l,m=>match look l t with
  | .c (.imm (.sc (.bool c)))=>bif (c == b)then
    bif Dx op then
     match aEY (dst.getD 999,0) l m op with
     | some (x,m')=>fcM m' fun m'=>aFK dst x l m' fun l m=>aeK os l m
     | none=>none
    else
     match wJ m (ev (look l)) op with
     | some r=>aFK dst r l m fun l m=>aeK os l m
     | none=>none
   else aeK os (Hj dst Px l) m
  | .tup []=>aeK os (Hj dst Px l) m
  | _=>none
def S1(os:List VOp)(l:L)(m:M):Option (L×M):=fcL l fun l=>fcM m fun m=>aeK os l m
theorem a7X(dst:Option Nat)(x:V)(l:L)(m:M)(k:L→M→Option (L×M)):aFK dst x l m k=k (Hj dst x l) m:=by
 cases dst<;>simp[aFK,Hj,aXY]
theorem agK:∀(os:List VOp) (l:L) (m:M),aeK os l m=PQ os l m
 | [],_,_=>rfl
 | ⟨dst,op,g⟩::os,l,m=>by
  have key:(bif Dx op then
    match aEY (dst.getD 999,0) l m op with
    | some (x,m')=>fcM m' fun m'=>aFK dst x l m' fun l m=>aeK os l m
    | none=>none
   else
    match wJ m (ev (look l)) op with
    | some r=>aFK dst r l m fun l m=>aeK os l m
    | none=>none)=match opF dst op l m with
   | some (l',m')=>PQ os l' m'
   | none=>none:=by
   simp only[opF,aIJ,a7X]
   cases Dx op with
   | true =>
    simp only[cond_true]
    cases aEY (dst.getD 999,0) l m op with
    | none=>rfl
    | some p=>simp only[agK os]
   | false =>
    simp only[cond_false]
    cases wJ m (ev (look l)) op with
    | none=>rfl
    | some p=>simp only[agK os,L4]
  cases g with
  | none=>simp only[aeK,PQ];exact key
  | some tb =>
   obtain⟨t,b⟩:=tb
   simp only[aeK,PQ]
   rw[key,agK os]
   try rfl
theorem S3(os:List VOp)(l:L)(m:M):S1 os l m=PQ os l m:=by simp only[S1,a1W,aIJ,agK]
section
variable {P:Program} {n:Nat} {I:Option (List Oid)} {l l':L} {m m':M} {ops:List VOp}
theorem aQ{S:a5z}(hS:∀dst op Γ h k,l6 P dst op Γ h k→S dst op Γ h k)(n:Nat){k:Env→Heap→Prop}(h:S1 (ops.take n) l m=some (l',m'))
  (hk:jX S (ops.drop n) (dV l') (aV m') k):jX S ops (dV l) (aV m) k:=bhK hS n (by rw[←S3];exact h) hk
theorem QV(h:S1 ops l m=some (l',m')){k:Env→Heap→Prop}(hk:k (dV l') (aV m')):jX (J4 P n I) ops (dV l) (aV m) k:=RV (by rw[←S3];exact h) hk
theorem QP(h:S1 ops l m=some (l',m')){k:Env→Heap→Prop}(hk:k (dV l') (aV m')):jX (l6 P) ops (dV l) (aV m) k:=RP (by rw[←S3];exact h) hk
end
end Go.VM
namespace Go.VM
theorem bcZ{w:World}{ok:Nat→Prop}{B:Oid→Value}:∀ {args vs:List Value},Pt (RepV w ok B) args (vs.map scV)→args=vs
 | [],[],_=>rfl
 | [],_::_,h=>by have:=h.1;simp at this
 | _::_,[],h=>by have:=h.1;simp at this
 | a::as,v::vs,h=>by
  have h0:=i9 (h.2 0 a (scV v) rfl rfl)
  have ht:Pt (RepV w ok B) as (vs.map scV):=⟨by have:=h.1;simpa using this,fun j u z hu hz=>h.2 (j+1) u z (by simpa using hu) (by simpa using hz)⟩
  rw[h0,bcZ ht]
theorem Fun.of_plain{P:Program}{f:FuncId}(vs:List Value)(r:Value)(h:∀w,Calls P f vs.toArray w fun e w'=>e = .returned r∧w'=w)(hr:r.oneCell'=true):Fun P f true [] (vs.map scV) noHeap (scV r) noHeap:=by
 intro w ok B args hlt hbl hp ho
 have e:=bcZ hp
 subst e
 refine(h w).mono fun e w' ⟨he,hw⟩=>?_
 subst hw
 refine⟨r,B,he,Fr.refl _ _,HV hr,⟨fun o ob hg=>by simp[noHeap]at hg,fun o o' ob ob' b hg=>by simp[noHeap]at hg⟩,fun o ob b hg=>by simp[noHeap]at hg,fun o ho=>by simp at ho⟩
end Go.VM
namespace Go.VM
section
variable {P:Program} {n:Nat} {I:Option (List Oid)} {Q:Exit→Env→Heap→Prop} {l l':L} {m m':M} {kk:Env→Heap→Prop} {dst:Option Nat}
theorem a5V{bs:List Nat}{ops:List VOp}(fs:List (Option O8))(hn:n≤1000)(hl:Nat.beq fs.length ops.length=true)(hp:T7 bs ops fs=true)(hf:PK ops l m=true)(hq:vq P (ops.zip fs) (dV l) (aV m) fun Γ' h'=>Q .normal Γ' h') :
  W P n I (.region (some bs) ops) Q (dV l) (aV m) :=
 U1 fs hn (Nat.eq_of_beq_eq_true hl) hp (KX hf) hq
def awj:List FOp→Bool
 | []=>true
 | o::r=>o.2.isNone&&awj r
theorem asV{k:Env→Heap→Prop}{rest:List FOp}:∀(os:List FOp) {l l':L} {m m':M},awj os=true→PQ (os.map (·.1)) l m=some (l',m') →
  vq P rest (dV l') (aV m') k→vq P (os++rest) (dV l) (aV m) k
 | [],l,l',m,m',_,h,hk=>by
  simp only[List.map_nil,PQ,bw,Prod.mk.injEq]at h
  obtain⟨rfl,rfl⟩:=h
  exact hk
 | (⟨dst,op,none⟩,f)::os,l,l',m,m',hn,h,hk=>by
  simp only[awj,cw]at hn
  obtain rfl:=Option.isNone_iff_eq_none.1 hn.1
  simp only[List.map_cons,PQ]at h
  split at h
  ·rename_i l1 m1 h1
   simp only[List.cons_append,vq,AQ]
   exact⟨trivial,zz h1 (asV os hn.2 h hk)⟩
  ·simp at h
 | (⟨dst,op,some (t,b)⟩,f)::os,l,l',m,m',hn,h,hk=>by
  simp only[awj,cw]at hn
  obtain rfl:=Option.isNone_iff_eq_none.1 hn.1
  simp only[List.map_cons,PQ]at h
  simp only[List.cons_append,vq,AQ,Unw,sV]
  refine⟨trivial,?_⟩
  split at h
  ·rename_i c hc
   by_cases e:c=b
   ·subst e
    simp only[beq_self_eq_true,cond_true]at h
    split at h
    ·rename_i l1 m1 h1
     exact .inl ⟨hc,zz h1 (asV os hn.2 h hk)⟩
    ·simp at h
   ·have:(c == b)=false:=by simp[e]
    simp only[this,cond_false]at h
    refine .inr ⟨.inl ?_,?_⟩
    ·rw[hc];cases c<;>cases b<;>first | rfl | simp at e
    ·rw[←mV];exact asV os hn.2 h hk
  ·rename_i hc
   refine .inr ⟨.inr hc,?_⟩
   rw[←mV];exact asV os hn.2 h hk
  ·simp at h
theorem acY(n:Nat){os:List FOp}{k:Env→Heap→Prop}(hn:awj (os.take n)=true)(h:S1 ((os.take n).map (·.1)) l m=some (l',m'))(hk:vq P (os.drop n) (dV l') (aV m') k):vq P os (dV l) (aV m) k:=by
 rw[S3]at h
 have:=asV (os.take n) hn h hk
 rwa [List.take_append_drop]at this
theorem ZE{os:List FOp}{k:Env→Heap→Prop}(hn:awj os=true)(h:S1 (os.map (·.1)) l m=some (l',m'))(hk:k (dV l') (aV m')):vq P os (dV l) (aV m) k:=by
 rw[S3]at h
 have:=asV (P:=P) (rest:=[]) os hn h hk
 rwa [List.append_nil]at this
def aOX(a b:List Oid):Bool:=a.all fun o=>KK o b
def a3X(op:VO)(e:Opd→V):Option O8→Bool
 | none=>true
 | some f=>(bif akz op then op.opds.all fun y=>aOX (e y).refs f.1 else true)&&(bif aCZ op then op.opds.all fun y=>aOX (e y).refs f.2 else true)
theorem aKK{op:VO}{f:Option O8}(h:a3X op (ev (look l)) f=true):FootP op (dV l) f:=by
 cases f with
 | none=>trivial
 | some f =>
  simp only[a3X,cw]at h
  obtain⟨h1,h2⟩:=h
  refine⟨fun hr y hy o ho=>?_,fun hr y hy o ho=>?_⟩
  ·rw[hr,cond_true,lw]at h1
   have:=h1 y hy
   simp only[aOX,lw]at this
   rw[jJ]at ho
   exact C7 (this o ho)
  ·rw[hr,cond_true,lw]at h2
   have:=h2 y hy
   simp only[aOX,lw]at this
   rw[jJ]at ho
   exact C7 (this o ho)
theorem Sj{op:VO}{g:Option (Nat×Bool)}{f:Option O8}{rest:List FOp}{k:Env→Heap→Prop}(hg:gOk l g)(hf:a3X op (ev (look l)) f=true)
  (h:l6 P dst op (dV l) (aV m) fun Γ h=>vq P rest Γ h k):vq P ((⟨dst,op,g⟩,f)::rest) (dV l) (aV m) k:=by
 simp only[vq,AQ]
 refine⟨aKK hf,?_⟩
 cases g with
 | none=>exact h
 | some tb =>
  obtain⟨t,b⟩:=tb
  exact .inl ⟨by rw[sV];exact hg,h⟩
def a4Z(o:Oid):List V→Bool
 | []=>false
 | v::r=>KK o v.refs||a4Z o r
def aHj(o:Oid)(m:M):M→Bool
 | []=>false
 | p::r => (!(o5 p.1 o)&&(match d6 m p.1 with | some ob => KK o ob.refs | none => false))||aHj o m r
def V6(pins:List Oid)(vs:List V)(m0:M):M→Bool
 | []=>true
 | p::r=>!(A8 p.1)&&(sj p.2).isNone&&KK p.1 pins&&(p.2.refs.all fun q=>KK q pins)&&(a4Z p.1 vs||aHj p.1 m0 m0)&&V6 pins vs m0 r
theorem awx{o:Oid}:∀ {vs:List V},a4Z o vs=true→∃v∈vs,o∈v.refs
 | [],h=>by simp[a4Z]at h
 | v::r,h=>by
  simp only[a4Z,Bool.or_eq_true]at h
  rcases h with h | h
  ·exact⟨v,by simp,C7 h⟩
  ·obtain⟨w,hw,ho⟩:=awx h
   exact⟨w,by simp[hw],ho⟩
theorem amx{o:Oid}{m0:M}:∀ {mi:M},aHj o m0 mi=true→∃p ob',aV m0 p=some ob'∧p≠o∧o∈ob'.refs
 | [],h=>by simp[aHj]at h
 | p::r,h=>by
  simp only[aHj,Bool.or_eq_true,cw,mw]at h
  rcases h with⟨h1,h2⟩ | h
  ·cases hg:d6 m0 p.1 with
   | none=>simp[hg]at h2
   | some ob' =>
    simp only[hg]at h2
    exact⟨p.1,ob',by rw[fK];exact hg,fun e=>by rw[←F0,h1]at e;simp at e,C7 h2⟩
  ·exact amx h
theorem XK{pins:List Oid}{vs:List V}{m0:M}:∀ {mi:M},V6 pins vs m0 mi=true→FK mi=true
 | [],_=>rfl
 | p::r,h=>by
  simp only[V6,cw]at h
  simp only[FK,cw]
  exact⟨h.1.1.1.1,XK h.2⟩
theorem abW{pins:List Oid}{vs:List V}{m0:M}:∀ {mi:M},V6 pins vs m0 mi=true→∀q∈mi,q.1∈pins∧(∀p∈q.2.refs,p∈pins)∧((∃v∈vs,q.1∈v.refs)∨∃p ob',aV m0 p=some ob'∧p≠q.1∧q.1∈ob'.refs)
 | [],_,q,hq=>by simp at hq
 | p::r,h,q,hq=>by
  simp only[V6,cw,Bool.or_eq_true,lw]at h
  rcases iw.1 hq with rfl | hq
  ·exact⟨C7 h.1.1.1.2,fun p hp=>C7 (h.1.1.2 p hp),h.1.2.imp awx amx⟩
  ·exact abW h.2 q hq
theorem a5q{f:FuncId}{vs:List V}(σl:List (Oid×Oid))(hσ:ahZ σl=true){pins:List Oid}{us:List V}{mi:M}{r:V}(hF:Fun P f false pins us (aV mi) r (aV mi))
  (ha:AgM m (Ez (eQ σl) mi)) (hs:V6 (pins.map (eQ σl)) vs (Ez (eQ σl) mi) (Ez (eQ σl) mi)=true) (hr:(G5 (eQ σl) r).refs=[])
  (h3:(acj (G5 (eQ σl) r)=true∧FlatM (Ez (eQ σl) mi)∧J1 (JQ (aV m) (aV (Ez (eQ σl) mi))) vs (us.map (G5 (eQ σl))))∨J1 noHeap vs (us.map (G5 (eQ σl)))) :
  NZ P f vs (aV m) (G5 (eQ σl) r):=by
 have hi:=Lj σl hσ
 have hF':=hF.ren (eQ σl) hi
 unfold RW at hF'
 rw[Nx _ hi (G9 σl hσ)]at hF'
 refine .inr ⟨_,_,_,hF',fun o ob ho=>?_,hr,h3.imp (fun⟨g1,g2,g3⟩=>⟨g1,fun o ob ho=>g2.get o ob ho,g3⟩) id⟩
 have ho':=ho
 rw[fK]at ho'
 obtain⟨g1,g2,g3⟩:=abW hs _ (SZ (XK hs) ho')
 exact⟨g1,AgM.weak ha o ob ho,g2,g3⟩
theorem vj{f:FuncId}{args:List Opd}(σl:List (Oid×Oid))(hσ:ahZ σl=true){pins:List Oid}{us:List V}{mi:M}{r:V}(hF:Fun P f false pins us (aV mi) r (aV mi))
  (ha:AgM m (Ez (eQ σl) mi)) (hs:V6 (pins.map (eQ σl)) (args.map (ev (look l))) (Ez (eQ σl) mi) (Ez (eQ σl) mi)=true) (hr:(G5 (eQ σl) r).refs=[])
  (h3:(acj (G5 (eQ σl) r)=true∧FlatM (Ez (eQ σl) mi)∧J1 (JQ (aV m) (aV (Ez (eQ σl) mi))) (args.map (ev (look l))) (us.map (G5 (eQ σl))))∨J1 noHeap (args.map (ev (look l))) (us.map (G5 (eQ σl))))
  (hk:kk (dV (Hj dst (acQ (G5 (eQ σl) r)) l)) (aV m)):l6 P dst (.call f args) (dV l) (aV m) kk:=by
 rw[mV,L4]at hk
 exact⟨_,by rw[jJ];exact a5q σl hσ hF ha hs hr h3,hk⟩
theorem apZ{op:VO}{f:FuncId}{vs:List V}{r:V}(hC:IK P (dV l) op f vs)(hc:NZ P f vs (aV m) r)(hk:kk (putO dst r (dV l)) (aV m)):l6 P dst op (dV l) (aV m) kk:=by
 cases hC with
 | named f args=>exact⟨r,hc,hk⟩
 | value f x args caps hx hok=>exact⟨f,caps,hx,hok,r,hc,hk⟩
theorem agW{op:VO}{f:FuncId}{vs:List V}(hC:IK P (dV l) op f vs){fresh:Bool}{us:List V}{r:V}(hF:Fun P f fresh [] us noHeap r noHeap)(hs:H4 (aV m) vs us)(hr:r.refs=[])
  (h3:fresh=true∨acj r=true∨H4 noHeap vs us) (hk:kk (dV (Hj dst r l)) (aV m)):l6 P dst op (dV l) (aV m) kk:=by
 rw[mV]at hk
 exact apZ hC (.inl ⟨fresh,us,hF,hs,hr,h3⟩) hk
end
end Go.VM
namespace Go.VM
section
variable {β:Type}
def H7:List C→Nat→List C→(List C→Option β)→Option β
 | cur,0,[],k=>k cur
 | _::cur,0,d::ds,k=>H7 cur 0 ds fun r=>k (d::r)
 | c::cur,n+1,cs,k=>H7 cur n cs fun r=>k (c::r)
 | [],_,_,_=>none
theorem WV(c:C):∀(cs:List C) (cur:List C) (n:Nat),setAt (c::cur) (n+1) cs=c::setAt cur n cs
 | [],_,_=>rfl
 | d::ds,cur,n=>by
  simp only[setAt,List.set_cons_succ]
  exact WV c ds (cur.set n d) (n+1)
theorem V9:∀(cur:List C) (n:Nat) (cs:List C) (k:List C→Option β) (r:β),H7 cur n cs k=some r→k (setAt cur n cs)=some r
 | [],0,[],k,r,h=>by simpa[H7,setAt]using h
 | _::_,0,[],k,r,h=>by simpa[H7,setAt]using h
 | c::cur,0,d::ds,k,r,h=>by
  simp only[H7]at h
  have:=V9 cur 0 ds _ r h
  simp only[setAt,List.set_cons_zero]
  rw[WV]
  exact this
 | c::cur,n+1,cs,k,r,h=>by
  have e:H7 (c::cur) (n+1) cs k=H7 cur n cs fun r=>k (c::r):=by
   cases cs<;>rfl
  rw[e]at h
  have:=V9 cur n cs _ r h
  rw[WV]
  exact this
 | [],_+1,_,k,r,h=>by simp[H7]at h
 | [],0,_::_,k,r,h=>by simp[H7]at h
def aOK(e:Opd→V):List C→List (Nat×Nat×Opd)→(List C→Option β)→Option β
 | cur,[],k=>k cur
 | cur,(off,n,x)::ps,k=>match kW (e x)with
  | some cs=>bif Nat.beq cs.length n&&Nat.ble (off+n) cur.length then H7 cur off cs fun cur'=>aOK e cur' ps k else none
  | none=>none
theorem aBV{e:Opd→V}:∀(ps:List (Nat×Nat×Opd)) (cur:List C) (k:List C→Option β) (r:β),aOK e cur ps k=some r→∃cs,IQ e cur ps=some cs∧k cs=some r
 | [],cur,k,r,h=>⟨cur,by simp[IQ],h⟩
 | (off,n,x)::ps,cur,k,r,h=>by
  simp only[aOK]at h
  cases hc:kW (e x)with
  | none=>simp[hc]at h
  | some cs =>
   simp only[hc]at h
   cases hb:(Nat.beq cs.length n&&Nat.ble (off+n) cur.length)with
   | false=>simp[hb]at h
   | true =>
    simp only[hb,cond_true]at h
    rw[cw]at hb
    have h1:=Nat.eq_of_beq_eq_true hb.1
    have h2:=Nat.le_of_ble_eq_true hb.2
    have h3:=V9 cur off cs _ r h
    obtain⟨ds,h4,h5⟩:=aBV ps _ k r h3
    exact⟨ds,by simp[IQ,hc,h1,h2,h4],h5⟩
end
def RowsP:List C→List T→Prop
 | [],[]=>True
 | .imm t::cs,t'::ts=>t=t'∧RowsP cs ts
 | .nilS::cs,.sl _ rows::ts=>rows=[]∧RowsP cs ts
 | _,_=>False
theorem RowsP.cts:∀ {cs:List C} {ts:List T},RowsP cs ts→CTs cs ts
 | [],[],_=>trivial
 | [],_::_,h=>h.elim
 | c::cs,[],h=>by cases c<;>exact h.elim
 | c::cs,t::ts,h=>by
  cases c with
  | imm t'=>exact⟨h.1,RowsP.cts h.2⟩
  | nilS=>cases t with
   | sc _=>exact h.elim
   | sl _ rows=>exact⟨h.1,RowsP.cts h.2⟩
  | _=>exact h.elim
def bjJ(e:Opd→V)(z:List C)(ps:List (Nat×Nat×Opd)):Option (List C):=aOK e z ps fun cs=>aIW cs some
section
variable {P:Program} {l:L} {m:M} {kk:Env→Heap→Prop} {dst:Option Nat} {α:Type} {tc:α→List T}
theorem E5{e:TypeId}{k n:Nat}{z:List C}{ps:List (Nat×Nat×Opd)}{cs:List C}(xs:List α)(h:bjJ (ev (look l)) (List.replicate n z).flatten ps=some cs)(hr:RowsP cs (xs.map tc).flatten)
  (hn:xs.length=n) (hk:∀x,(tc x).length=k) (hf:(BV (dst.getD 999,0) l&&AZ (dst.getD 999,0) m)=true)
  (hkk:kk (dV (Hj dst (.c (.slO (dst.getD 999,0))) l)) (aV (((dst.getD 999,0),.arr e k (xs.map tc))::m))):l6 P dst (.bsl e k n z ps) (dV l) (aV m) kk:=by
 rw[mV]at hkk
 rw[cw]at hf
 obtain⟨ds,h1,h2⟩:=aBV ps _ _ _ h
 rw[YV]at h2
 cases h2
 refine⟨fun _=>EX hf.1 hf.2,_,_,⟨cs,xs.map tc,by rw[jJ];exact h1,by simpa using hn,?_,hr.cts,rfl,rfl⟩,hkk⟩
 intro row hrow
 obtain⟨x,_,rfl⟩:=List.mem_map.1 hrow
 exact hk x
end
end Go.VM
namespace Go.VM
open Go.ChangeShapes Go.WideShapes Go.ChangeAt Go.RowKit
inductive Sh where
 | int (k:IntKind)
 | bool
 | str
 | sl (row:List Sh)
inductive WT:Sh→T→Prop
 | int (k:IntKind) (n:Int) (h:(Lit.int k n).wf=true):WT (.int k) (.sc (.int k n))
 | bool (b:Bool):WT .bool (.sc (.bool b))
 | str (s:ByteArray) (h:s.size≤reachBytes):WT .str (.sc (.string s))
 | sl (row:List Sh) (rows:List (List T)) (hl:rows.length≤reachBytes) (hk:∀r∈rows,r.length=row.length) (h:∀r∈rows,∀(j:Nat) s t,row[j]? = some s→r[j]? = some t→WT s t):WT (.sl row) (.sl row.length rows)
def WTs(row:List Sh)(r:List T):Prop:=r.length=row.length∧∀(j:Nat) s t,row[j]? = some s→r[j]? = some t→WT s t
theorem WTs.nil:WTs [] []:=⟨rfl,fun j s t h=>by simp at h⟩
theorem WTs.cons{s:Sh}{t:T}{row:List Sh}{r:List T}(h0:WT s t)(h:WTs row r):WTs (s::row) (t::r):=by
 refine⟨by simp[h.1],fun j s' t' hs ht=>?_⟩
 cases j with
 | zero=>simp at hs ht;subst hs;subst ht;exact h0
 | succ j=>exact h.2 j s' t' (by simpa using hs) (by simpa using ht)
theorem WTs.append{a b:List Sh}{r s:List T}(h:WTs a r)(h':WTs b s):WTs (a++b) (r++s):=by
 refine⟨by simp[h.1,h'.1],fun j x t hx ht=>?_⟩
 rw[List.getElem?_append]at hx ht
 rw[h.1]at ht
 split at hx
 ·rename_i hlt;rw[if_pos hlt]at ht;exact h.2 j x t hx ht
 ·rename_i hlt;rw[if_neg hlt]at ht;exact h'.2 _ x t hx ht
theorem WTs.one{s:Sh}{t:T}(h:WT s t):WTs [s] [t]:=.cons h .nil
theorem WTs.inv0{r:List T}(h:WTs [] r):r=[]:=dk h.1
theorem WTs.inv{s:Sh}{row:List Sh}{r:List T}(h:WTs (s::row) r):∃t r',r=t::r'∧WT s t∧WTs row r':=by
 cases r with
 | nil=>have:=h.1;simp at this
 | cons t r'=>exact⟨t,r',rfl,h.2 0 s t rfl rfl,by have:=h.1;simpa using this,fun j s' t' hs ht=>h.2 (j+1) s' t' (by simpa using hs) (by simpa using ht)⟩
section
variable (P:Program)
mutual
def ajY:Nat→TypeId→Option (List Sh)
 | 0,_=>none
 | n+1,t=>match P.underlying t with
  | some (.int k)=>some [.int k]
  | some .bool=>some [.bool]
  | some .string=>some [.str]
  | some (.slice e)=>(ajY n e).bind fun r=>if(P.cellsOf e=r.length∧0<r.length)∧0<P.bytesOf e then some [.sl r]else none
  | some (.struct fs)=>(PY n 0 fs.toList).bind fun r=>if P.cellsOf t=r.length then some r else none
  | some (.array m e)=>(ajY n e).bind fun r=>if P.cellsOf e=r.length∧P.cellsOf t=m*r.length then some (List.replicate m r).flatten else none
  | _=>none
def PY:Nat→Nat→List Field→Option (List Sh)
 | 0,_,_=>none
 | _+1,_,[]=>some []
 | n+1,off,f::fs=>(ajY n f.type).bind fun r=>if f.offset=off∧P.cellsOf f.type=r.length then(PY n (off+r.length) fs).map (r++·)else none
end
end
theorem aKQ{w:World}{a:Addr}{v:Value}(h:w.cell? a=some v):a.block<w.heap.size:=by
 unfold World.cell? at h
 cases hb:w.heap[a.block]? with
 | none=>simp[hb]at h
 | some o=>exact(gk.1 hb).1
section
variable {H:Type} {enc:TypeId×Value→H} {P:Program} {w:World} {base:Nat} {sp:Nat→Bool} {held:Bool}
theorem aPJ{ok:Nat→Prop}{r:List Sh}:∀(m:Nat) (cs:List Value),cs.length=m*r.length→(∀i,i<m→∃ts,Pt (RepT w ok) ((cs.drop (i*r.length)).take r.length) ts∧WTs r ts) →
  ∃ts,Pt (RepT w ok) cs ts∧WTs (List.replicate m r).flatten ts
 | 0,cs,hl,_=>by
  have:cs=[]:=dk (by simpa using hl)
  subst this
  exact⟨[],Pt.nil,.nil⟩
 | m+1,cs,hl,h=>by
  obtain⟨ts0,h1,h2⟩:=h 0 (by omega)
  simp only[Nat.zero_mul,List.drop_zero]at h1
  obtain⟨ts,h3,h4⟩:=aPJ (r:=r) m (cs.drop r.length) (by rw[List.length_drop,hl,Nat.add_mul];omega) fun i hi=>by
   obtain⟨ts,g1,g2⟩:=h (i+1) (by omega)
   refine⟨ts,?_,g2⟩
   rw[List.drop_drop]
   rwa [show r.length+i*r.length=(i+1)*r.length from by rw[Nat.add_mul];omega]
  refine⟨ts0++ts,?_,?_⟩
  ·have:=h1.append h3
   rwa [List.take_append_drop]at this
  ·simpa[List.replicate_succ]using h2.append h4
theorem L2{e:TypeId}{d:DataW H}{k:Nat}:∀ {ds:List (DataW H)},d∈ds→k∈d.weights P e→k∈DataW.weightsAll P e ds
 | d'::ds,hd,hk=>by
  simp only[DataW.weightsAll,jk]
  rcases iw.1 hd with rfl | hd
  ·exact .inl hk
  ·exact .inr (L2 hd hk)
mutual
theorem YW:∀(n:Nat) (t:TypeId) (shs:List Sh),ajY P n t=some shs→∀(fuel:Nat) (cs:List Value) (x:DataW H×List MemPlace),DataW.trod enc P w base sp held fuel t cs=some x→(∀k∈x.1.weights P t,k≤reachBytes) →
  ∃ts,Pt (RepT w fun b=>b<w.heap.size) cs ts∧WTs shs ts
 | 0,t,shs,h=>by simp[ajY]at h
 | n+1,t,shs,h=>by
  intro fuel cs x hx hwt
  rw[ajY]at h
  cases ht:P.underlying t with
  | none=>simp[ht]at h
  | some d =>
   simp only[ht]at h
   cases d with
   | int k =>
    simp only[bw]at h;subst h
    obtain⟨m,rfl,_,hw⟩:=DataW.trod_int ht hx
    exact⟨[.sc (.int k m)],Pt.cons (.sc _ rfl) Pt.nil,.one (.int k m hw)⟩
   | bool =>
    simp only[bw]at h;subst h
    obtain⟨b,rfl,_⟩:=DataW.trod_bool ht hx
    exact⟨[.sc (.bool b)],Pt.cons (.sc _ rfl) Pt.nil,.one (.bool b)⟩
   | string =>
    simp only[bw]at h;subst h
    obtain⟨s,rfl,hxe,hs⟩:=DataW.trod_string ht hx
    subst hxe
    have:=hwt s.data.toList.length (by simp[DataW.weights])
    exact⟨[.sc (.string s)],Pt.cons (.sc _ rfl) Pt.nil,.one (.str s (by simpa using this))⟩
   | slice e =>
    simp only[ak]at h
    obtain⟨r,hr,h⟩:=h
    split at h
    ·rename_i hc0
     obtain⟨hc,hby⟩:=hc0
     cases h
     rcases DataW.trod_slice ht hx with⟨rfl,_⟩ | ⟨a,len,cap,elems,rest,m,_,rfl,hxe,_,hlc,hcm,hlen,hel,_,_⟩
     ·exact⟨[.sl r.length []],Pt.cons (.nil _ _ _) Pt.nil,.one (.sl r [] (by simp) (by simp) (by simp))⟩
     ·subst hxe
      have htop:len≤reachBytes:=by
       have:=hwt (((elems.map (·.1)).length+(rest.map (·.1)).length)*P.bytesOf e) (by simp[DataW.weights,ht])
       simp only[List.length_map]at this
       have h2:elems.length*1≤(elems.length+rest.length)*P.bytesOf e:=Nat.mul_le_mul (by omega) hby
       omega
      have each:∀i,i<len→∃cs' ts,(∀j,j<r.length→w.cell? ((a.add (i*r.length)).add j)=cs'[j]?)∧cs'.length=r.length∧Pt (RepT w fun b=>b<w.heap.size) cs' ts∧WTs r ts:=by
       intro i hi
       have h1:=hel i hi
       have hi':i<elems.length:=by omega
       rw[bk hi',ak]at h1
       obtain⟨cs',hcs,htr⟩:=h1
       obtain⟨_,h2,h3⟩:=World.cells?_some hcs
       rw[hc.1]at h2 h3
       obtain⟨ts,h4,h5⟩:=YW n e r hr _ _ _ htr (fun k hk=>hwt k (by
        have hm:elems[i].1∈elems.map (·.1):=List.mem_map.2 ⟨_,List.getElem_mem hi',rfl⟩
        simp only[DataW.weights,ht,iw,jk]
        exact .inr (.inl (L2 hm hk))))
       exact⟨cs',ts,fun j hj=>h3 j hj,h2,h4,h5⟩
      by_cases hz:len=0
      ·subst hz
       exact⟨[.sl r.length []],Pt.cons (.nil _ _ _) Pt.nil,.one (.sl r [] (by simp) (by simp) (by simp))⟩
      ·obtain⟨ab,ao,asp⟩:=a
       have hspot:asp=none:=by
        obtain⟨cs',ts,h1,h2,_,_⟩:=each 0 (by omega)
        have h3:=h1 0 hc.2
        rw[bk (by omega)]at h3
        have:=World.cell?_spot h3
        simpa[Addr.add]using this
       subst hspot
       have hblk:ab<w.heap.size:=by
        obtain⟨cs',ts,h1,h2,_,_⟩:=each 0 (by omega)
        have h3:=h1 0 hc.2
        rw[bk (by omega)]at h3
        have:=aKQ h3
        simpa[lK]using this
       classical
       let rows:List (List T):=(List.range len).map fun i=>if hi:i<len then Classical.choose (Classical.choose_spec (each i hi))else[]
       let f:Nat→Nat→Value:=fun i j=>(w.cell? ⟨ab,ao+i*r.length+j,none⟩).getD undef
       have hrow:∀i row,rows[i]? = some row→∃hi:i<len,row=Classical.choose (Classical.choose_spec (each i hi)):=by
        intro i row hr'
        have hi:i<len:=by
         have:=(dw.1 hr').1
         simpa[rows]using this
        refine⟨hi,?_⟩
        simp only[rows,List.getElem?_map,List.getElem?_range hi,Option.map_some,bw,dif_pos hi]at hr'
        exact hr'.symm
       have hfact:∀i (hi:i<len),∃cs',(∀j,j<r.length→w.cell? ⟨ab,ao+i*r.length+j,none⟩=cs'[j]?)∧cs'.length=r.length∧Pt (RepT w fun b=>b<w.heap.size) cs' (Classical.choose (Classical.choose_spec (each i hi)))∧WTs r (Classical.choose (Classical.choose_spec (each i hi))):=by
        intro i hi
        have:=Classical.choose_spec (Classical.choose_spec (each i hi))
        refine⟨_,fun j hj=>?_,this.2⟩
        have:=this.1 j hj
        rw[←this]
        simp[lK,Nat.add_assoc]
       have hrl:rows.length=len:=by simp[rows]
       have hwf:∀row∈rows,WTs r row:=by
        intro row hm
        obtain⟨i,hi⟩:=List.getElem?_of_mem hm
        obtain⟨hi',rfl⟩:=hrow i row hi
        obtain⟨cs',_,_,_,h4⟩:=hfact i hi'
        exact h4
       refine⟨[.sl r.length rows],Pt.cons ?_ Pt.nil,.one (.sl r rows (by omega) (fun row hm=>(hwf row hm).1) fun row hm=>(hwf row hm).2)⟩
       have hrep:=RepT.sl (w:=w) (ok:=fun b=>b<w.heap.size) ab ao cap r.length rows f hblk (by omega) (fun row hm=>(hwf row hm).1) ?_ ?_
       ·rw[hrl]at hrep;exact hrep
       ·intro i row j x hi hj
        obtain⟨hi',rfl⟩:=hrow i row hi
        obtain⟨cs',h1,h2,h3,h4⟩:=hfact i hi'
        have hj':j<r.length:=by rw[←h4.1];exact(dw.1 hj).1
        simp only[f]
        rw[h1 j hj',bk (by omega)]
        rfl
       ·intro i row j x hi hj
        obtain⟨hi',rfl⟩:=hrow i row hi
        obtain⟨cs',h1,h2,h3,h4⟩:=hfact i hi'
        have hj':j<r.length:=by rw[←h4.1];exact(dw.1 hj).1
        simp only[f]
        rw[h1 j hj',bk (by omega)]
        exact h3.2 j _ x (bk (by omega)) hj
    ·simp at h
   | struct fs =>
    simp only[ak]at h
    obtain⟨r,hr,h⟩:=h
    split at h
    ·rename_i hc
     cases h
     obtain⟨xs,m,_,hxe,hlen,hxl,hel⟩:=DataW.trod_struct ht hx
     have key:=akq n 0 fs.toList shs hr cs (fun i f hf=>by
      have hf':fs[i]? = some f:=by simpa using hf
      have:=hel i f hf'
      have hlt:i<xs.length:=by
       have:=(gk.1 hf').1
       omega
      rw[bk hlt]at this
      refine⟨_,_,this,fun k hk=>hwt k ?_⟩
      rw[hxe]
      simp only[DataW.weights,ht]
      exact DataW.weights_mem_each (j:=i) (t:=f.type) (d:=xs[i].1) (by simp[hf']) (by simp[hlt]) k hk) (by omega)
     simpa using key
    ·simp at h
   | array m e =>
    simp only[ak]at h
    obtain⟨r,hr,h⟩:=h
    split at h
    ·rename_i hc
     cases h
     obtain⟨xs,m',_,hxe,hlen,hxl,hel⟩:=DataW.trod_array ht hx
     refine aPJ m cs (by omega) fun i hi=>?_
     have h1:=hel i hi
     rw[bk (by omega),hc.1]at h1
     refine YW n e r hr _ _ _ h1 (fun k hk=>hwt k ?_)
     rw[hxe]
     simp only[DataW.weights,ht]
     exact L2 (List.mem_map.2 ⟨_,List.getElem_mem (by omega),rfl⟩) hk
    ·simp at h
   | _=>simp at h
theorem akq:∀(n off:Nat) (fs:List Field) (shs:List Sh),PY P n off fs=some shs→∀(cs:List Value),(∀(i:Nat) f,fs[i]? = some f→∃fuel x,DataW.trod enc P w base sp held fuel f.type ((cs.drop f.offset).take (P.cellsOf f.type))=some x∧∀k∈x.1.weights P f.type,k≤reachBytes) →
  cs.length=off+shs.length→∃ts,Pt (RepT w fun b=>b<w.heap.size) (cs.drop off) ts∧WTs shs ts
 | 0,off,fs,shs,h=>by simp[PY]at h
 | n+1,off,[],shs,h=>by
  intro cs _ hl
  simp only[PY,bw]at h;subst h
  refine⟨[],?_,.nil⟩
  rw[List.drop_of_length_le (by simp at hl;omega)]
  exact Pt.nil
 | n+1,off,f::fs,shs,h=>by
  intro cs hx hl
  simp only[PY,ak]at h
  obtain⟨r,hr,h⟩:=h
  split at h
  ·rename_i hc
   simp only[aw]at h
   obtain⟨rest,hrest,rfl⟩:=h
   obtain⟨fuel,x,hf,hwf⟩:=hx 0 f rfl
   rw[hc.1,hc.2]at hf
   obtain⟨ts0,h1,h2⟩:=YW n f.type r hr _ _ _ hf hwf
   rw[ck]at hl
   obtain⟨ts,h3,h4⟩:=akq n (off+r.length) fs rest hrest cs (fun i f hf=>hx (i+1) f (by simpa using hf)) (by omega)
   refine⟨ts0++ts,?_,h2.append h4⟩
   have:=h1.append h3
   rw[←List.drop_drop,List.take_append_drop]at this
   exact this
  ·simp at h
end
end
end Go.VM
namespace Go.VM
open Go.ChangeShapes Go.WideShapes Go.ChangeAt Go.RowKit
def axq(P:Program)(t:TypeId):Bool:=match P.underlying t with
 | some d=>gq d
 | none=>false
def aRq:Bool→List T→V
 | true,ts=>.agg (ts.map .imm)
 | false,[t]=>.c (.imm t)
 | false,_=>.junk
def bdQ:List Bool→List (List T)→List V
 | b::bs,ts::tss=>aRq b ts::bdQ bs tss
 | _,_=>[]
def bdY:List (List Sh)→List (List T)→Prop
 | [],[]=>True
 | s::ss,t::tt=>WTs s t∧bdY ss tt
 | _,_=>False
section
variable {H:Type} {enc:TypeId×Value→H} {P:Program} {W W':World} {base:Nat} {sp:Nat→Bool} {held:Bool}
theorem bfJ{ok:Nat→Prop}{B:Oid→Value}{cs:List Value}{ts:List T}(h:Pt (RepT W ok) cs ts):Pt (RepC W ok B) cs (ts.map .imm):=h.map fun v x hr=>.imm v x hr
theorem baq{B:Oid→Value}{t:TypeId}{v:Value}{d:DataW H}{ps:List MemPlace}{n:Nat}{shs:List Sh}(hval:Value.okWide P W .any base t v)(hd:DataW.Trod enc P W 0 sp held t v d ps)(hwt:∀k∈d.weights P t,k≤reachBytes)(hs:ajY P n t=some shs) :
  ∃ts,RepV W (fun b=>b<W.heap.size) B v (aRq (axq P t) ts)∧WTs shs ts:=by
 obtain⟨fuel,hf⟩:=hd
 obtain⟨ts,hp,hw⟩:=YW n t shs hs fuel _ _ hf hwt
 refine⟨ts,?_,hw⟩
 have agg:(∃cs,v = .agg cs)→RepV W (fun b=>b<W.heap.size) B v (aRq true ts):=by
  rintro⟨cs,rfl⟩
  exact⟨cs,rfl,bfJ hp⟩
 have one:v.cells = #[v]→shs.length=1→RepV W (fun b=>b<W.heap.size) B v (aRq false ts):=by
  intro hc h1
  rw[hc]at hp
  have hl:=hw.1
  match ts,hp,hl with
  | [t0],hp,_=>exact RepC.imm _ _ (hp.2 0 v t0 rfl rfl)
  | [],_,hl=>simp at hl;omega
  | _::_::_,_,hl=>simp at hl;omega
 cases n with
 | zero=>simp[ajY]at hs
 | succ n =>
  rw[ajY]at hs
  unfold Value.okWide at hval
  unfold axq
  cases ht:P.underlying t with
  | none=>simp[ht]at hs
  | some td =>
   simp only[ht]at hs hval ⊢
   cases td with
   | struct fs=>obtain⟨cs,rfl,_⟩:=hval;exact agg ⟨cs,rfl⟩
   | array m e=>obtain⟨cs,rfl,_⟩:=hval;exact agg ⟨cs,rfl⟩
   | int k =>
    refine one ?_ (by simp at hs;subst hs;rfl)
    cases v<;>first | rfl | (simp[Cell.okWide,Cell.ok,ht]at hval)
   | bool =>
    refine one ?_ (by simp at hs;subst hs;rfl)
    cases v<;>first | rfl | (simp[Cell.okWide,Cell.ok,ht]at hval)
   | string =>
    refine one ?_ (by simp at hs;subst hs;rfl)
    cases v<;>first | rfl | (simp[Cell.okWide,Cell.ok,ht]at hval)
   | slice e =>
    refine one ?_ (by
     simp only[ak]at hs
     obtain⟨r,_,h⟩:=hs
     split at h
     ·cases h;rfl
     ·simp at h)
    cases v<;>first | rfl | (simp[Cell.okWide,Cell.ok,ht]at hval)
   | _=>simp at hs
theorem aBQ{B:Oid→Value}{n:Nat}:∀(ts:List TypeId) (vs:List Value) (ds:List (DataW H)) (ps:List MemPlace) (shs:List (List Sh)),DataW.TrodAll enc P W 0 sp held ts vs ds ps →
  (∀(j:Nat) t v,ts[j]? = some t→vs[j]? = some v→Value.okWide P W .any base t v)→(∀(j:Nat) t d,ts[j]? = some t→ds[j]? = some d→∀k∈d.weights P t,k≤reachBytes)→ts.mapM (ajY P n)=some shs →
  ∃tss,Pt (RepV W (fun b=>b<W.heap.size) B) vs (bdQ (ts.map (axq P)) tss)∧bdY shs tss
 | [],vs,ds,ps,shs,h,_,_,hs=>by
  obtain⟨rfl,_,_⟩:=trodAll_nil h
  simp at hs;subst hs
  exact⟨[],Pt.nil,trivial⟩
 | t::ts,vs,ds,ps,shs,h,hv,hwt,hs=>by
  obtain⟨v,vs',d,ds',p,q,rfl,rfl,rfl,h1,h2⟩:=trodAll_cons h
  simp only[List.mapM_cons,Option.bind_eq_bind,Option.pure_def,ak,bw]at hs
  obtain⟨s0,hs0,ss,hss,rfl⟩:=hs
  obtain⟨t0,g1,g2⟩:=baq (B:=B) (hv 0 t v rfl rfl) h1 (hwt 0 t d rfl rfl) hs0
  obtain⟨tss,g3,g4⟩:=aBQ ts vs' ds' q ss h2 (fun j t v ht hv'=>hv (j+1) t v (by simpa using ht) (by simpa using hv')) (fun j t d ht hd=>hwt (j+1) t d (by simpa using ht) (by simpa using hd)) hss
  exact⟨t0::tss,Pt.cons g1 g3,g2,g4⟩
theorem atj(hl:laidOutB P=true){W':World}(hb:Below W.heap.size W W'){sp':Nat→Bool}:∀(ts:List TypeId) (vs:List Value) (ds:List (DataW H)) (ps:List MemPlace),DataW.TrodAll enc P W 0 (fun _=>true) true ts vs ds ps →
  (∀t∈ts,P.readableRec t=true∧t<P.types.size)→(∀x∈ps,x.block<W.heap.size)→(∀x∈ps,sp' x.block=true)→DataW.TrodAll enc P W' 0 sp' true ts vs ds ps
 | [],vs,ds,ps,h,_,_,_=>by
  obtain⟨rfl,rfl,rfl⟩:=trodAll_nil h
  exact rfl
 | t::ts,vs,ds,ps,h,hr,hlt,hsp=>by
  obtain⟨v,vs',d,ds',p,q,rfl,rfl,rfl,h1,h2⟩:=trodAll_cons h
  obtain⟨r1,r2⟩:=hr t (by simp)
  refine⟨p,q,WideElems.Trod_stays hl r1 r2 h1 (fun x hx=>hb.same (hlt x (by simp[hx]))) (fun x hx=>hsp x (by simp[hx])),?_,rfl⟩
  exact atj hl hb ts vs' ds' q h2 (fun t ht=>hr t (by simp[ht])) (fun x hx=>hlt x (by simp[hx])) fun x hx=>hsp x (by simp[hx])
theorem aqz{f:Func}{s:ChangeSpec}{ts:List TypeId}{tb:TypeId}{args:Array Value}{ds gs:List (DataW H)}{before:List MemPlace}(hfp:f.params.toList=ts)(hfr:f.resultTypes = #[tb])(htb:P.underlying tb=some .bool)(hsv:s.vars=[])
  (hl:laidOutB P=true) (hread:∀t∈ts,P.readableRec t=true∧t<P.types.size) (hs:∀ds:List (DataW H),ds.length=ts.length→(s.fn H ds).results=[.lit (.bool true)]∧(s.fn H ds).args=ds∧(s.fn H ds).vars=[])
  (hW:DataW.Whole enc P f.params.toList s.vars false W args.toList ds gs before) (hb:Below W.heap.size W W') :
  s.post enc P f false true false false W args (.bool true) W':=by
 have hW':=hW
 have hlt:∀x∈before,x.block<W.heap.size:=fun x hx=>by simpa using hW'.lt x hx
 obtain⟨p,q,hA,hV,rfl,hz,hn⟩:=hW
 have hV':=hV
 rw[hsv]at hV'
 obtain⟨rfl,rfl⟩:=trodVars_none hV'
 have hdl:ds.length=ts.length:=by rw[←hfp];exact(trodAll_length hA).2
 obtain⟨hs1,hs2,hs3⟩:=hs ds hdl
 have hres:∀(b:Nat) (sp:Nat→Bool) (hd:Bool),DataW.TrodAll enc P W' b sp hd f.resultTypes.toList ((Value.bool true).resultList f.resultTypes.size) (s.fn H (ds++[])).results []:=by
  intro b sp hd
  rw[List.append_nil,hs1,hfr]
  exact trodAll_cons_mk (shut_bool htb _) trodAll_mk0
 have hargs:∀sp:Nat→Bool,(∀p'∈p++[],sp p'.block=true)→DataW.TrodAll enc P W' 0 sp true f.params.toList args.toList (s.fn H (ds++[])).args (p++[]):=by
  intro sp hsp
  rw[List.append_nil,hs2,List.append_nil,hfp]
  rw[hfp]at hA
  rw[List.append_nil]at hsp hlt
  exact atj hl hb ts _ _ _ hA hread hlt hsp
 have hvars:∀sp:Nat→Bool,DataW.TrodVars enc P W' sp s.vars (s.fn H (ds++[])).vars []:=by
  intro sp
  rw[List.append_nil,hs3,hsv]
  rfl
 have hok:∀(j:Nat) (t:TypeId) (r:Value),f.resultTypes[j]? = some t→((Value.bool true).resultList f.resultTypes.size)[j]? = some r→Value.okWide P W' .any 0 t r:=by
  intro j t r hj hr
  exact ok_one hfr rfl (okWide_bool_mk htb _) j t r hj hr
 refine⟨ds,[],p++[],[],p++[],[],hW',hres _ _ _,hargs _ (fun x hx=>by simpa using hlt x hx),hvars _,World.keptBut_mono (fun x hx=>⟨hx,.inr (.inl hx)⟩) (hb.frame (·∈p++[])),fun _=>?_⟩
 refine⟨hok,_,_,([]++(p++[]))++[],⟨[]++(p++[]),[],trodAll_append (hargs _ fun _ _=>rfl) (hres _ _ _),hvars _,rfl,?_,?_⟩,?_⟩
 ·intro b off hp
  have hm:MemPlace.cell b off∈p++[]:=by simpa using hp
  have hlt':b<W.heap.size:=hlt _ hm
  rw[hb.frozen (p:=⟨b,off,none⟩) hlt']
  exact hz b off hm
 ·intro h;simp at h
 ·intro x hx _
  simpa using hx
theorem aSJ{f:FuncId}{fn:Func}{s:ChangeSpec}{ts:List TypeId}{tb:TypeId}{n:Nat}{shs:List (List Sh)}(hfp:fn.params.toList=ts)(hfr:fn.resultTypes = #[tb])(htb:P.underlying tb=some .bool)(hsv:s.vars=[])
  (hl:laidOutB P=true) (hread:ts.all (fun t=>P.readableRec t&&decide (t<P.types.size))=true) (hs:∀ds:List (DataW H),ds.length=ts.length→(s.fn H ds).results=[.lit (.bool true)]∧(s.fn H ds).args=ds∧(s.fn H ds).vars=[])
  (hsh:ts.mapM (ajY P n)=some shs) {bs:List Bool} (hbs:ts.map (axq P)=bs) {fresh:Bool} (hF:∀tss:List (List T),bdY shs tss→Fun P f fresh [] (bdQ bs tss) noHeap (.c (.imm (.sc (.bool true)))) noHeap)
  {args:Array Value} {ds gs:List (DataW H)} {before:List MemPlace} (hval:∀(j:Nat) t v,fn.params[j]? = some t→args[j]? = some v→Value.okWide P W .any base t v)
  (hW:DataW.Whole enc P fn.params.toList s.vars false W args.toList ds gs before)
  (hz:(DataW.weightsEach P (fn.params.toList++s.plain.varTypes P) (ds++gs)).all (·≤reachBytes)=true) :
  Calls P f args W fun e W'=>∃v,e = .returned v∧s.post enc P fn false true false false W args v W':=by
 have hread':∀t∈ts,P.readableRec t=true∧t<P.types.size:=fun t ht=>by
  have:=lw.1 hread t ht
  simpa using this
 have hA:=hW
 obtain⟨p,q,hA,_,_,_,_⟩:=hA
 rw[hfp]at hA
 obtain⟨tss,h1,h2⟩:=aBQ (B:=fun _=>undef) (n:=n) ts args.toList ds p shs hA (fun j t v ht hv=>hval j t v (by
  have:fn.params.toList[j]? = some t:=by rw[hfp];exact ht
  simpa using this) (by simpa using hv)) (fun j t d ht hd k hk=>by
   have hjt:(fn.params.toList++s.plain.varTypes P)[j]? = some t:=by
    rw[hfp,List.getElem?_append_left (dw.1 ht).1];exact ht
   have hjd:(ds++gs)[j]? = some d:=by
    rw[List.getElem?_append_left (dw.1 hd).1];exact hd
   simpa using lw.1 hz k (DataW.weights_mem_each hjt hjd k hk)) hsh
 rw[hbs]at h1
 have nob:∀(B:Oid→Value) (b:Nat),¬BJ B noHeap b:=fun B b ⟨o,ob,hg,_⟩=>by simp[noHeap]at hg
 have:=hF tss h2 W (fun b=>b<W.heap.size) (fun _=>undef) args.toList (fun _ h=>h) (fun b _=>nob _ b) h1 ⟨fun o ob hg=>by simp[noHeap]at hg,fun o o' ob ob' b hg=>by simp[noHeap]at hg⟩
 rw[ow]at this
 refine this.mono fun e W' he=>?_
 obtain⟨v,B',rfl,hfr',hrep,_⟩:=he
 have hv:v = .bool true:=i9 hrep
 subst hv
 refine⟨_,rfl,aqz hfp hfr htb hsv hl hread' hs hW ⟨hfr'.os,hfr'.tape,hfr'.output,hfr'.size,fun k hk=>hfr'.block k hk (nob _ k)⟩⟩
end
def inI(k:IntKind)(n:Int):Prop:=(Lit.int k n).wf=true
theorem lV{k:IntKind}{t:T}(h:WT (.int k) t):∃n:Int,t = .sc (.int k n)∧inI k n:=by
 cases h with
 | int _ n h=>exact⟨n,rfl,h⟩
theorem aRj{t:T}(h:WT .bool t):∃b:Bool,t = .sc (.bool b)∧True:=by
 cases h with
 | bool b=>exact⟨b,rfl,trivial⟩
theorem ayJ{t:T}(h:WT .str t):∃s:ByteArray,t = .sc (.string s)∧s.size≤reachBytes:=by
 cases h with
 | str s h=>exact⟨s,rfl,h⟩
def okL{α:Type}(ok:α→Prop)(xs:List α):Prop:=xs.length≤reachBytes∧∀x∈xs,ok x
theorem I5{α:Type}{tc:α→List T}{ok:α→Prop}{row:List Sh}(hx:∀ts,WTs row ts→∃x,tc x=ts∧ok x){t:T}(h:WT (.sl row) t):∃xs:List α,t = .sl row.length (xs.map tc)∧okL ok xs:=by
 cases h with
 | sl _ rows hl hk h =>
  have key:∀rows:List (List T),(∀r∈rows,WTs row r)→∃xs:List α,xs.map tc=rows∧∀x∈xs,ok x:=by
   intro rows
   induction rows with
   | nil=>intro _;exact⟨[],rfl,by simp⟩
   | cons r rows ih =>
    intro h
    obtain⟨xs,h1,h2⟩:=ih fun r hr=>h r (by simp[hr])
    obtain⟨x,h3,h4⟩:=hx r (h r (by simp))
    refine⟨x::xs,by simp[h1,h3],?_⟩
    intro y hy
    rcases iw.1 hy with rfl | hy
    ·exact h4
    ·exact h2 y hy
  obtain⟨xs,rfl,h2⟩:=key rows fun r hr=>⟨hk r hr,h r hr⟩
  exact⟨xs,rfl,by simpa using hl,h2⟩
end Go.VM
namespace Go.VM
theorem DZ{S ρ:Type}{step:S→Option (S ⊕ ρ)}{n:Nat}{s:S}:iter step (n+1) s=match step s with
  | none=>none
  | some (.inl s')=>iter step n s'
  | some (.inr r)=>some r:=rfl
theorem aYj{S ρ:Type}{step:S→Option (S ⊕ ρ)}(Inv:S→Prop)(m:S→Nat)(Post:ρ→Prop)
  (h:∀s,Inv s→(∃s',step s=some (.inl s')∧Inv s'∧m s'<m s)∨∃r,step s=some (.inr r)∧Post r) {s:S} (hs:Inv s) (hm:m s<fY):∃r,loop step s=some r∧Post r:=by
 have key:∀n s,Inv s→m s<n→∃r,iter step n s=some r∧Post r:=by
  intro n
  induction n with
  | zero=>intro s _ h;omega
  | succ n ih =>
   intro s hs hm
   rcases h s hs with⟨s',h1,h2,h3⟩ | ⟨r,h1,h2⟩
   ·obtain⟨r,h4,h5⟩:=ih s' h2 (by omega)
    exact⟨r,by rw[DZ,h1];exact h4,h5⟩
   ·exact⟨r,by rw[DZ,h1],h2⟩
 exact key _ s hs hm
def aqY{α σ ρ:Type}(body:Nat→α→σ→σ ⊕ ρ)(fin:σ→ρ):List α→Nat→σ→ρ
 | [],_,s=>fin s
 | y::ys,i,s=>match body i y s with
  | .inl s'=>aqY body fin ys (i+1) s'
  | .inr r=>r
theorem a1j{α σ ρ S:Type}{step:S→Option (S ⊕ ρ)}(xs:List α)(emb:Nat→σ→S)(body:Nat→α→σ→σ ⊕ ρ)(fin:σ→ρ)(Inv:Nat→σ→Prop)(hl:xs.length<fY)
  (h1:∀i y s,xs[i]? = some y → Inv i s → step (emb i s)=some (match body i y s with | .inl s' => .inl (emb (i+1) s') | .inr r => .inr r) ∧ ∀s',body i y s = .inl s' → Inv (i+1) s')
  (h2:∀s,Inv xs.length s→step (emb xs.length s)=some (.inr (fin s))) {s:σ} (hs:Inv 0 s):loop step (emb 0 s)=some (aqY body fin xs 0 s):=by
 have key:∀(ys:List α) (i:Nat) (s:σ),xs.drop i=ys→i+ys.length=xs.length→Inv i s→iter step (ys.length+1) (emb i s)=some (aqY body fin ys i s):=by
  intro ys
  induction ys with
  | nil =>
   intro i s _ hi hs
   have:i=xs.length:=by simpa using hi
   subst this
   rw[DZ,h2 s hs];rfl
  | cons y ys ih =>
   intro i s hd hi hs
   have hy:xs[i]? = some y:=by
    have:=congrArg (·[0]?) hd
    simpa[List.getElem?_drop]using this
   obtain⟨g1,g2⟩:=h1 i y s hy hs
   rw[DZ,g1]
   simp only[aqY]
   cases hb:body i y s with
   | inr r=>simp
   | inl s' =>
    simp only[]
    refine ih (i+1) s' ?_ (by simp at hi;omega) (g2 s' hb)
    rw[←List.drop_drop,hd];rfl
 exact Q1 (by omega) (key xs 0 s (by simp) (by simp) hs)
theorem atV{α σ ρ S:Type}{step:S→Option (S ⊕ ρ)}(xs:List α)(emb:Nat→σ→S)(body:Nat→α→σ→σ ⊕ ρ)(fin:σ→ρ)(hl:xs.length<fY)
  (h1:∀i y s,xs[i]? = some y → step (emb i s)=some (match body i y s with | .inl s' => .inl (emb (i+1) s') | .inr r => .inr r))
  (h2:∀s,step (emb xs.length s)=some (.inr (fin s))) (s:σ):loop step (emb 0 s)=some (aqY body fin xs 0 s) :=
 a1j xs emb body fin (fun _ _=>True) hl (fun i y s hy _=>⟨h1 i y s hy,fun _ _=>trivial⟩) (fun s _=>h2 s) trivial
theorem dY{α:Type}(xs:List α)(i:Nat):idx xs (i:Int)=xs[i]?:=by simp[idx]
theorem cX{n:Int}(h : -9223372036854775808≤n∧n≤9223372036854775807):w64 n=n:=by
 have e:(2:Int) ^ (64:Nat)=18446744073709551616:=by decide
 have e2:(2:Int) ^ (64-1:Nat)=9223372036854775808:=by decide
 simp only[IntKind.wrap,IntKind.bits,IntKind.signed,e,e2,Bool.true_and,decide_eq_true_eq]
 split<;>omega
end Go.VM
