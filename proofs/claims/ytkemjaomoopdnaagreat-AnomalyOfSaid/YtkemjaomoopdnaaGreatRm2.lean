/- The raw machine, in parts: a walk that is reckoned, kx an explicit memory. -/
import Derived.Test.YtkemjaomoopdnaaGreatRm1
import Derived.Lib.Bytealg
import Derived.Laws.Externs
import Derived.KernelRfl
import Derived.MapFrom
import Derived.Maps.RangeRun
import Derived.RangeFuncLeaves
import Derived.RangeFuncCalls
import Derived.LoopNIn
import Derived.OrdersIn
import Derived.TacticsIn
namespace Go.RM
section
variable (orc:mz) (T:Tr RF)
def opP(F:Nat→Prop)(D:Prop)(e:Opd→V)(s:S)(k:V→S→Prop):RO→Prop
 | .call f args=>Cp orc T f (args.map e) s F D k
 | .callv x args=>match e x with
  | .c (.fn f caps)=>Cp orc T f (args.map e++caps.map .c) s F D k
  | _=>False
 | op=>match d6 e op with
  | some v=>k v s
  | none=>match gK e s op with
   | some (v,s',r)=>(∀j,r.testBit j=true→F j)∧k v s'
   | none=>False
def oq(F:Nat→Prop)(D:Prop):List (ROp×Nat)→Tr V→S→(Tr V→S→Prop)→Prop
 | [],Γ,s,k=>k Γ s
 | o::os,Γ,s,k=>match iZ Γ o.1.guard with
  | some true=>opP orc T F D (ev Γ) s (fun v s'=>oq F D os (putO o.1.dst v Γ) s' k) o.1.op
  | some false=>oq F D os (putO o.1.dst H3 Γ) s k
  | none=>False
end
section
variable {orc:mz} {T:Tr RF} {Γ:Tr V} {s:S} {F:Nat→Prop} {D:Prop}
theorem a0j{e:Opd→V}{k:V→S→Prop}{ro:RO}(h:opP orc T F D e s k ro):Op orc T ro e s F D k:=by
 have rest:ro.plainOp=true→(match d6 e ro with
  | some v=>k v s
  | none=>match gK e s ro with
   | some (v,s',r)=>(∀j,r.testBit j=true→F j)∧k v s'
   | none=>False)→Op orc T ro e s F D k:=by
  intro hpl h
  split at h
  ·rename_i v hv
   exact aUj hv h
  ·rename_i hn
   split at h
   ·rename_i v s' r hm
    exact aYV hn hm h.1 h.2
   ·exact h.elim
 cases ro
 case call f args=>exact h
 case callv x args =>
  simp only[opP]at h
  split at h
  ·rename_i f caps hx
   exact aIY hx h
  ·exact h.elim
 all_goals exact rest rfl h
theorem aIZ:∀ {os:List (ROp×Nat)} {Γ:Tr V} {s:S} {k:Tr V→S→Prop},oq orc T F D os Γ s k→Sq orc T os Γ s F D k
 | [],Γ,s,k,h=>aYZ h
 | (o,m)::os,Γ,s,k,h=>by
  simp only[oq]at h
  split at h
  ·rename_i hw
   exact aTW hw (Ev.mono (a0j h) (fun _ h=>h) (fun h=>h) fun p hp=>aIZ hp)
  ·rename_i hw
   exact aTY hw (aIZ h)
  ·exact h.elim
theorem VW{os:List (ROp×Nat)}{Q:Ex→Tr V→S→Prop}(h:oq orc T F D os Γ s fun Γ s=>Q .normal Γ s):Wp orc T (.region none os) Γ s F D Q:=aFV (aIZ h)
end
theorem dQ(d:Nat)(v:V)(Γ:Tr V)(t:Nat):look (putO (some d) v Γ) t=if d=t then v else look Γ t:=by
 have:=congrFun (UX (some d) v Γ) t
 rw[this]
 simp[acV]
theorem dj(v:V)(Γ:Tr V)(t:Nat):look (putO none v Γ) t=look Γ t:=rfl
theorem gJ(Γ:Tr V)(t:Nat):ev Γ (.tmp t)=look Γ t:=rfl
theorem gV(Γ:Tr V)(x:V):ev Γ (.con x)=x:=rfl
end Go.RM
namespace Go.RM
structure Fp where
 i:Nat
 R:Nat→Prop
 W:Nat→Prop
def apO(b:Nat)(x:Fp)(R W:Nat→Prop):Prop:=Nat.testBit b x.i=true∨∀k,¬(x.W k∧R k)∧¬(W k∧x.R k)∧¬(x.W k∧W k)
def aJJ(b i tr tw tr' tw':Nat):Bool:=Nat.testBit b i||(Nat.beq (Nat.land tw tr') 0&&(Nat.beq (Nat.land tw' tr) 0&&Nat.beq (Nat.land tw tw') 0))
def N4:List (ROp×Nat)→List Nat→Nat→List (Nat×Nat×Nat)→Bool
 | [],_,_,_=>true
 | _::_,[],_,_=>false
 | o::os,b::tab,i,ds=>ds.all (fun x=>aJJ b x.1 x.2.1 x.2.2 o.2 (zx o.1.dst))&&N4 os tab (i+1) (ds++[(i,o.2,zx o.1.dst)])
def bits(r:Nat):Nat→Prop:=fun k=>r.testBit k=true
section
variable {orc:mz} {T:Tr RF} {F:Nat→Prop} {D:Prop}
def Cov(ds:List Fp)(sl:List (Nat×Nat×Nat))(cs:List Did):Prop :=
 sl=cs.map (fun d=>(d.i,d.tr,d.tw))∧∀c∈cs,(c.r=0∧c.w=0)∨∃d∈ds,d.i=c.i∧(∀k,c.r.testBit k=true→d.R k)∧(∀k,c.w.testBit k=true→d.W k)
theorem G0{a b:Nat}(h:∀k,¬(a.testBit k=true∧b.testBit k=true)):Nat.beq (Nat.land a b) 0=true:=by
 have:Nat.land a b=0:=by
  apply Nat.eq_of_testBit_eq
  intro k
  show(a &&& b).testBit k=_
  rw[Nat.testBit_and,Nat.zero_testBit]
  cases ha:a.testBit k with
  | false=>rfl
  | true =>
   cases hb:b.testBit k with
   | false=>rfl
   | true=>exact absurd ⟨ha,hb⟩ (h k)
 rw[this];rfl
theorem Vx{ds:List Fp}{sl:List (Nat×Nat×Nat)}{cs:List Did}(hc:Cov ds sl cs){b tr tw:Nat}(hs:sl.all (fun x=>aJJ b x.1 x.2.1 x.2.2 tr tw)=true){R W:Nat→Prop}(ho:∀x∈ds,apO b x R W){y:Did}(ht:y.tr=tr)(hw:y.tw=tw)(hr:∀k,y.r.testBit k=true→R k)(hww:∀k,y.w.testBit k=true→W k):cs.all (fun x=>JX b x y)=true:=by
 rw[List.all_eq_true]
 intro c hcm
 rw[hc.1,List.all_map,List.all_eq_true]at hs
 have h1:=hs c hcm
 simp only[Function.comp,aJJ]at h1
 unfold JX
 rw[ht,hw]
 cases hb:Nat.testBit b c.i with
 | true=>rfl
 | false =>
  rw[hb,Bool.false_or]at h1
  simp only[bw]at h1
  rw[Bool.false_or,h1.1,h1.2.1,h1.2.2,Bool.true_and,Bool.true_and,Bool.true_and]
  rcases hc.2 c hcm with⟨hr0,hw0⟩ | ⟨d,hd,hi,hdr,hdw⟩
  ·rw[hr0,hw0]
   rw[G0 (a:=0) (fun k h=>by simp at h),G0 (b:=0) (fun k h=>by simp at h),G0 (a:=0) (fun k h=>by simp at h)]
   rfl
  ·rcases ho d hd with e | e
   ·rw[hi,hb]at e;simp at e
   ·rw[G0 (fun k h=>(e k).1 ⟨hdw k h.1,hr k h.2⟩),G0 (fun k h=>(e k).2.1 ⟨hww k h.1,hdr k h.2⟩),G0 (fun k h=>(e k).2.2 ⟨hdw k h.1,hww k h.2⟩)]
    rfl
theorem Cov.snoc{ds:List Fp}{sl:List (Nat×Nat×Nat)}{cs:List Did}(hc:Cov ds sl cs){y:Did}{R W:Nat→Prop}(hr:∀k,y.r.testBit k=true→R k)(hw:∀k,y.w.testBit k=true→W k):Cov (ds++[⟨y.i,R,W⟩]) (sl++[(y.i,y.tr,y.tw)]) (cs++[y]):=by
 refine⟨by rw[hc.1,List.map_append];rfl,fun c h=>?_⟩
 rcases nw.1 h with h | h
 ·rcases hc.2 c h with h | ⟨d,hd,h⟩
  ·exact .inl h
  ·exact .inr ⟨d,List.mem_append_left _ hd,h⟩
 ·rw[ew.1 h]
  exact .inr ⟨_,List.mem_append_right _ (ew.2 rfl),rfl,hr,hw⟩
theorem Cov.pure{ds:List Fp}{sl:List (Nat×Nat×Nat)}{cs:List Did}(hc:Cov ds sl cs){y:Did}(hr:y.r=0)(hw:y.w=0):Cov ds (sl++[(y.i,y.tr,y.tw)]) (cs++[y]):=by
 refine⟨by rw[hc.1,List.map_append];rfl,fun c h=>?_⟩
 rcases nw.1 h with h | h
 ·exact hc.2 c h
 ·rw[ew.1 h];exact .inl ⟨hr,hw⟩
theorem V6{call:mz}{o:ROp}{Γ:Tr V}{s:S}{v:V}{s':S}{r:Nat}(hw:iZ Γ o.guard=some true)(h:opX call (ev Γ) s o.op=some ([(v,s')],r)):∃r',xX call o Γ s=some ([(putO o.dst v Γ,s')],r')∧∀k,r'.testBit k=true→r.testBit k=true:=by
 refine⟨Nat.lor r 0,?_,fun k hk=>?_⟩
 ·simp only[xX,hw,h,xj,DV,one]
  rfl
 ·rw[s6,Bool.or_eq_true]at hk
  rcases hk with h | h
  ·exact h
  ·simp at h
def Dr(orc:mz)(T:Tr RF)(F:Nat→Prop)(D:Prop)(os:List (ROp×Nat))(tab:List Nat)(i:Nat)(ds:List Fp)(Γ:Tr V)(s:S)(k:Tr V→S→Prop):Prop :=
 ∀(sl:List (Nat×Nat×Nat)) (cs:List Did) (r:Nat),N4 os tab i sl=true→Cov ds sl cs→(∀j,r.testBit j=true→F j)→Ev (fun n=>D1 (oY orc T n) os tab i cs Γ s r) F D fun p=>k p.1 p.2
section
variable {os:List (ROp×Nat)} {o:ROp×Nat} {b:Nat} {tab:List Nat} {i:Nat} {ds:List Fp} {Γ:Tr V} {s:S} {k:Tr V→S→Prop}
theorem aMJ(h:k Γ s):Dr orc T F D [] tab i ds Γ s k:=fun sl cs r _ _ hr=>⟨0,[(Γ,s)],r,by simp only[D1],fun p hp=>by rw[ew.1 hp];exact h,hr,fun _=>⟨_,rfl⟩⟩
theorem ajK{sl:List (Nat×Nat×Nat)}{cs:List Did}{r:Nat}(hs:N4 (o::os) (b::tab) i sl=true)(hr:∀j,r.testBit j=true→F j){v:V}{s':S}{r1 n1:Nat}{ds':List Fp}(h1:xX (oY orc T n1) o.1 Γ {s with w:=0}=some ([(putO o.1.dst v Γ,s')],r1))(hr1:∀j,r1.testBit j=true→F j)
  (hap:cs.all (fun x=>JX b x ⟨i,o.2,zx o.1.dst,r1,s'.w⟩)=true) (hcov:Cov ds' (sl++[(i,o.2,zx o.1.dst)]) (cs++[⟨i,o.2,zx o.1.dst,r1,s'.w⟩])) (hk:Dr orc T F D os tab (i+1) ds' (putO o.1.dst v Γ) {s' with w:=Nat.lor s.w s'.w} k) :
  Ev (fun n=>D1 (oY orc T n) (o::os) (b::tab) i cs Γ s r) F D fun p=>k p.1 p.2:=by
 simp only[N4,bw]at hs
 obtain⟨n2,outs,r2,e2,q2,f2,d2⟩:=hk _ _ (Nat.lor r r1) hs.2 hcov (fun j hj=>by
  rw[s6,Bool.or_eq_true]at hj
  exact hj.elim (hr j) (hr1 j))
 refine⟨max n1 n2,outs,r2,?_,q2,f2,d2⟩
 have m1:xX (oY orc T (max n1 n2)) o.1 Γ {s with w:=0}=some ([(putO o.1.dst v Γ,s')],r1) :=
  (Mono.le (g:=fun n=>xX (oY orc T n) o.1 Γ {s with w:=0}) (fun n=>OW (B3 orc T n) _ _ _) (Nat.le_max_left n1 n2)) _ h1
 have m2:=(Mono.le (g:=fun n=>D1 (oY orc T n) os tab (i+1) (cs++[⟨i,o.2,zx o.1.dst,r1,s'.w⟩]) (putO o.1.dst v Γ) {s' with w:=Nat.lor s.w s'.w} (Nat.lor r r1)) (fun n=>T5 (B3 orc T n) _ _ _ _ _ _ _) (Nat.le_max_right n1 n2)) _ e2
 simp only[D1,m1,hap,cond_true]
 exact m2
theorem aAx{v:V}(h1:∃r n,xX (oY orc T n) o.1 Γ {s with w:=0}=some ([(putO o.1.dst v Γ,{s with w:=0})],r)∧r=0)(h:Dr orc T F D os tab (i+1) ds (putO o.1.dst v Γ) s k):Dr orc T F D (o::os) (b::tab) i ds Γ s k:=by
 intro sl cs r hs hc hr
 obtain⟨r1,n1,h1,rfl⟩:=h1
 have hs':=hs
 simp only[N4,bw]at hs'
 refine ajK hs hr h1 (fun j hj=>by simp at hj) (Vx hc hs'.1 (R:=fun _=>False) (W:=fun _=>False) (fun x _=>.inr fun j=>⟨fun h=>h.2,fun h=>h.1,fun h=>h.2⟩) rfl rfl (fun j hj=>by simp at hj) (fun j hj=>by simp at hj)) (hc.pure (y:=⟨i,o.2,zx o.1.dst,0,0⟩) rfl rfl) ?_
 have:Nat.lor s.w 0=s.w:=Nat.or_zero _
 show Dr orc T F D os tab (i+1) ds (putO o.1.dst v Γ) {s with w:=Nat.lor s.w 0} k
 rw[this];exact h
theorem Z0{call:mz}{o:ROp}{Γ:Tr V}{s:S}{v:V}{s':S}(hw:iZ Γ o.guard=some true)(h:opX call (ev Γ) s o.op=some ([(v,s')],0)):xX call o Γ s=some ([(putO o.dst v Γ,s')],0):=by
 obtain⟨r1,h1,h2⟩:=V6 hw h
 have hz:r1=0:=Nat.eq_of_testBit_eq fun j=>by
  cases hj:r1.testBit j with
  | false=>simp
  | true=>have:=h2 j hj;simp at this
 rw[←hz];exact h1
theorem DY{v:V}(hw:iZ Γ o.1.guard=some true)(hp:d6 (ev Γ) o.1.op=some v)(h:Dr orc T F D os tab (i+1) ds (putO o.1.dst v Γ) s k):Dr orc T F D (o::os) (b::tab) i ds Γ s k:=by
 have hpl:o.1.op.plainOp=true:=by cases ho:o.1.op<;>rw[ho]at hp<;>first | rfl | simp[d6]at hp
 exact aAx ⟨0,0,Z0 hw (by rw[GK hpl,hp];rfl),rfl⟩ h
theorem aAX{v:V}(hw:iZ Γ o.1.guard=some true)(hn:d6 (ev Γ) o.1.op=none)(hm:gK (ev Γ) {s with w:=0} o.1.op=some (v,{s with w:=0},0))(h:Dr orc T F D os tab (i+1) ds (putO o.1.dst v Γ) s k):Dr orc T F D (o::os) (b::tab) i ds Γ s k:=by
 have hpl:o.1.op.plainOp=true:=by cases ho:o.1.op<;>rw[ho]at hm<;>first | rfl | simp[gK]at hm
 exact aAx ⟨0,0,Z0 hw (by rw[GK hpl,hn,hm]),rfl⟩ h
theorem auK{v:V}{s':S}{r1:Nat}(hw:iZ Γ o.1.guard=some true)(hn:d6 (ev Γ) o.1.op=none)(hm:gK (ev Γ) {s with w:=0} o.1.op=some (v,s',r1))(hF:∀j,bits r1 j→F j)(ha:∀x∈ds,apO b x (bits r1) (bits s'.w))
  (h:Dr orc T F D os tab (i+1) (ds++[⟨i,bits r1,bits s'.w⟩]) (putO o.1.dst v Γ) {s' with w:=Nat.lor s.w s'.w} k):Dr orc T F D (o::os) (b::tab) i ds Γ s k:=by
 have hpl:o.1.op.plainOp=true:=by cases ho:o.1.op<;>rw[ho]at hm<;>first | rfl | simp[gK]at hm
 intro sl cs r hs hc hr
 have hs':=hs
 simp only[N4,bw]at hs'
 obtain⟨r1',h1,h2⟩:=V6 (call:=oY orc T 0) (o:=o.1) (v:=v) (s':=s') (r:=r1) hw (by rw[GK hpl,hn,hm])
 exact ajK hs hr h1 (fun j hj=>hF j (h2 j hj)) (Vx hc hs'.1 ha rfl rfl h2 (fun j hj=>hj)) (hc.snoc (y:=⟨i,o.2,zx o.1.dst,r1',s'.w⟩) h2 (fun j hj=>hj)) h
theorem aPX{f:FuncId}{args:List V}(R W:Nat→Prop)(hw:iZ Γ o.1.guard=some true)(hX:∀n,opX (oY orc T n) (ev Γ) {s with w:=0} o.1.op=oY orc T n f args {s with w:=0})(hF:∀j,R j→F j)(ha:∀x∈ds,apO b x R W)
  (hC:Cp orc T f args {s with w:=0} R True fun v s'=>(∀j,s'.w.testBit j=true→W j)∧Dr orc T F D os tab (i+1) (ds++[⟨i,R,W⟩]) (putO o.1.dst v Γ) {s' with w:=Nat.lor s.w s'.w} k):Dr orc T F D (o::os) (b::tab) i ds Γ s k:=by
 intro sl cs r hs hc hr
 have hs':=hs
 simp only[N4,bw]at hs'
 obtain⟨n1,outs,r1,e1,q1,f1,d1⟩:=hC
 obtain⟨⟨v,s'⟩,rfl⟩:=d1 trivial
 obtain⟨hW,hk⟩:=q1 _ (ew.2 rfl)
 obtain⟨r1',h1,h2⟩:=V6 (v:=v) (s':=s') (r:=r1) hw ((hX n1).trans e1)
 exact ajK hs hr h1 (fun j hj=>hF j (f1 j (h2 j hj))) (Vx hc hs'.1 ha rfl rfl (fun j hj=>f1 j (h2 j hj)) hW) (hc.snoc (y:=⟨i,o.2,zx o.1.dst,r1',s'.w⟩) (fun j hj=>f1 j (h2 j hj)) hW) hk
theorem aRq{d:Option Nat}{g:Option (Nat×Bool)}{m:Nat}{f:FuncId}{as:List Opd}{args:List V}(R W:Nat→Prop)(hw:iZ Γ g=some true)(hargs:as.map (ev Γ)=args)(hF:∀j,R j→F j)(ha:∀x∈ds,apO b x R W)
  (hC:Cp orc T f args {s with w:=0} R True fun v s'=>(∀j,s'.w.testBit j=true→W j)∧Dr orc T F D os tab (i+1) (ds++[⟨i,R,W⟩]) (putO d v Γ) {s' with w:=Nat.lor s.w s'.w} k):Dr orc T F D ((⟨d,.call f as,g⟩,m)::os) (b::tab) i ds Γ s k:=by
 subst hargs
 exact aPX (o:=(⟨d,.call f as,g⟩,m)) R W hw (fun n=>rfl) hF ha hC
end
theorem aRJ{os:List (ROp×Nat)}{tab:List Nat}{Γ:Tr V}{s:S}{Q:Ex→Tr V→S→Prop}(hs:N4 os tab 0 []=true)(h:Dr orc T F D os tab 0 [] Γ s fun Γ s=>Q .normal Γ s):Wp orc T (.region (some tab) os) Γ s F D Q:=by
 refine Ev.shift (Ev.congr (Ev.bind (g:=fun n=>D1 (oY orc T n) os tab 0 [] Γ s 0) (f:=fun _ (p:Tr V×S)=>one (Ex.normal,p.1,p.2)) (fun n=>T5 (B3 orc T n) _ _ _ _ _ _ _) (fun p=>Mono.const _) (Ev.mono (h [] [] 0 hs ⟨rfl,fun c h=>by simp at h⟩ (fun j hj=>by simp at hj)) (fun _ h=>h) (fun h=>h) fun p hp=>Ev.one hp)) fun n=>GW orc T n (.region (some tab) os) Γ s)
end
end Go.RM
