/- The raw machine, in parts: a walk that is reckoned, eK an explicit memory. -/
import Derived.Test.YtinhkpcgdfppkaaRm1
import Derived.Lib.Bytealg
import Derived.Laws.Externs
import Derived.KernelRfl
import Derived.MapFrom
import Derived.Maps.RangeRun
import Derived.RangeFuncLeaves
import Derived.RangeFuncCalls
import Derived.LoopNIn
import Derived.OrdersIn
import Derived.TacticsIn
import Derived.RangeFuncNested
namespace Go.RM
open Go.VM (Pt Fr)
structure Tra(call:cK)(os:List (ROp×Nat))(tab:List Nat)(i0:Nat)(Γs:Nat→Tr V)(ss:Nat→S)(rs ws:Nat→Nat):Prop where
 step:∀(k:Nat) o,os[k]? = some o→∃t,oY call o.1 (Γs k) {ss k with w:=0}=some ([(Γs (k+1),t)],rs k)∧ss (k+1) = {t with w:=Nat.lor (ss k).w t.w}∧ws k=t.w
 apart:∀(j k:Nat) oj ok b,j<k→os[j]? = some oj→os[k]? = some ok→tab[k]? = some b→DY b ⟨i0+j,oj.2,qY oj.1.dst,rs j,ws j⟩ ⟨i0+k,ok.2,qY ok.1.dst,rs k,ws k⟩=true
 tabs:∀(k:Nat) o,os[k]? = some o→∃b,tab[k]? = some b
theorem Pq{call:cK}:∀(os:List (ROp×Nat)) (tab:List Nat) (i:Nat) (ds:List Did) (Γ:Tr V) (s:S) (r0:Nat) (outs:List (Tr V×S)) (re:Nat),wY call os tab i ds Γ s r0=some (outs,re) →
  ∃Γs ss rs ws,Γs 0=Γ∧ss 0=s∧outs=[(Γs os.length,ss os.length)]∧Tra call os tab i Γs ss rs ws∧(∀k,k<os.length→∀n,(rs k).testBit n=true→re.testBit n=true)∧(∀n,r0.testBit n=true→re.testBit n=true) ∧
   ∀(k:Nat) ok b,os[k]? = some ok→tab[k]? = some b→∀d∈ds,DY b d ⟨i+k,ok.2,qY ok.1.dst,rs k,ws k⟩=true
 | [],tab,i,ds,Γ,s,r0,outs,re,h=>by
  simp only[wY]at h
  cases h
  exact⟨fun _=>Γ,fun _=>s,fun _=>0,fun _=>0,rfl,rfl,rfl,⟨fun k o hk=>by simp at hk,fun j k oj ok b _ hj=>by simp at hj,fun k o hk=>by simp at hk⟩,fun k hk=>by simp at hk,fun n hn=>hn,fun k ok b hk=>by simp at hk⟩
 | o::os,tab,i,ds,Γ,s,r0,outs,re,h=>by
  cases tab with
  | nil=>simp[wY]at h
  | cons b tab =>
   simp only[wY]at h
   split at h
   ·rename_i Γ' s' r' hst
    cases hall:ds.all (fun x=>DY b x ⟨i,o.2,qY o.1.dst,r',s'.w⟩)with
    | false=>simp[hall]at h
    | true =>
     simp only[hall,cond_true]at h
     obtain⟨Γs,ss,rs,ws,e1,e2,e3,ht,hr,hr0,hd⟩:=Pq os tab (i+1) _ Γ' _ _ outs re h
     refine⟨fun k => match k with | 0 => Γ | k+1 => Γs k,fun k => match k with | 0 => s | k+1 => ss k,fun k => match k with | 0 => r' | k+1 => rs k,fun k => match k with | 0 => s'.w | k+1 => ws k,rfl,rfl,?_,⟨?_,?_,?_⟩,?_,?_,?_⟩
     ·simpa using e3
     ·intro k o' hk
      cases k with
      | zero =>
       simp only[List.getElem?_cons_zero,ek]at hk
       subst hk
       exact⟨s',by show oY call o.1 Γ {s with w:=0}=some ([(Γs 0,s')],r');rw[e1];exact hst,by show ss 0 = {s' with w:=Nat.lor s.w s'.w};rw[e2],rfl⟩
      | succ k =>
       exact ht.step k o' (by simpa using hk)
     ·intro j k oj ok b' hjk hj hk hb
      cases k with
      | zero=>omega
      | succ k =>
       simp only[List.getElem?_cons_succ]at hk hb
       cases j with
       | zero =>
        simp only[List.getElem?_cons_zero,ek]at hj
        subst hj
        have:=hd k ok b' hk hb ⟨i,o.2,qY o.1.dst,r',s'.w⟩ (by simp)
        have e:i+(k+1)=i+1+k:=by omega
        rw[e]
        exact this
       | succ j =>
        simp only[List.getElem?_cons_succ]at hj
        have:=ht.apart j k oj ok b' (by omega) hj hk hb
        have e:i+(k+1)=i+1+k:=by omega
        have e':i+(j+1)=i+1+j:=by omega
        rw[e,e']
        exact this
     ·intro k o' hk
      cases k with
      | zero=>exact⟨b,rfl⟩
      | succ k=>simpa using ht.tabs k o' (by simpa using hk)
     ·intro k hk n hn
      cases k with
      | zero=>exact hr0 n (G6 hn)
      | succ k=>exact hr k (by simpa using hk) n hn
     ·intro n hn;exact hr0 n (DX hn)
     ·intro k ok b' hk hb d hdm
      cases k with
      | zero =>
       simp only[List.getElem?_cons_zero,ek]at hk hb
       subst hk;subst hb
       exact List.all_eq_true.1 hall d hdm
      | succ k =>
       simp only[List.getElem?_cons_succ]at hk hb
       have:=hd k ok b' hk hb d (ow.2 (.inl hdm))
       have e:i+(k+1)=i+1+k:=by omega
       rw[e]
       exact this
   ·simp at h
theorem I8{a b n:Nat}(h:Nat.beq (Nat.land a b) 0=true)(ha:a.testBit n=true)(hb:b.testBit n=true):False:=by
 have h0:=oz h
 have:(Nat.land a b).testBit n=true:=by
  show(a &&& b).testBit n=true
  rw[Nat.testBit_and,ha,hb];rfl
 rw[h0]at this;simp at this
structure Kj(x y:Did):Prop where
 twr:∀n,x.tw.testBit n=true→y.tr.testBit n=true→False
 trw:∀n,y.tw.testBit n=true→x.tr.testBit n=true→False
 tww:∀n,x.tw.testBit n=true→y.tw.testBit n=true→False
 wr:∀n,x.w.testBit n=true→y.r.testBit n=true→False
 rw':∀n,y.w.testBit n=true→x.r.testBit n=true→False
 ww:∀n,x.w.testBit n=true→y.w.testBit n=true→False
theorem aiW{b:Nat}{x y:Did}(h:DY b x y=true):b.testBit x.i=true∨Kj x y:=by
 unfold DY at h
 simp only[Bw,gk]at h
 rcases h with h | ⟨h1,h2,h3,h4,h5,h6⟩
 ·exact .inl h
 ·exact .inr ⟨fun n=>I8 h1,fun n=>I8 h2,fun n=>I8 h3,fun n=>I8 h4,fun n=>I8 h5,fun n=>I8 h6⟩
theorem ayY{p q:Nat→Bool}{i:Nat}(hp:∀j,p j=(q j && !decide (j=i)))(hi:q i=true):∀(l:List Nat),i∈l→(l.filter p).length<(l.filter q).length:=by
 have mono:∀(l:List Nat),(l.filter p).length≤(l.filter q).length:=by
  intro l
  induction l with
  | nil=>simp
  | cons z l ihz =>
   simp only[List.filter_cons,hp z]
   cases h1:q z<;>cases h2:decide (z=i)<;>simp[h1,h2]<;>omega
 intro l
 induction l with
 | nil=>intro h;simp at h
 | cons y l ihl =>
  intro hm
  by_cases e:y=i
  ·subst e
   have:=mono l
   simp only[List.filter_cons,hp y,hi]
   simp
   omega
  ·have:=ihl ((List.mem_cons.1 hm).resolve_left fun h=>e h.symm)
   simp only[List.filter_cons,hp y]
   cases h1:q y<;>simp[h1,e]<;>omega
structure M6(ops:Array Oper):Prop where
 edge:∀i,i<ops.size→∀e∈(ops.getD i default).after.toList,Region.binds .any e=true→e.on<i
 table:∀i,i<ops.size→∀a,a<ops.size→((Region.before ops).getD i 0).testBit a=true→∃e∈(ops.getD i default).after.toList,Region.binds .any e=true∧(a=e.on∨((Region.before ops).getD e.on 0).testBit a=true)
theorem apJ{ops:Array Oper}(h:ajx ops=true):M6 ops:=by
 simp only[ajx,gk,Dk,List.all_eq_true,List.mem_range,Bw,Cw,List.any_eq_true,beq_iff_eq]at h
 obtain⟨h2,h3⟩:=h
 refine⟨fun i hi e he hb=>?_,fun i hi a ha hb=>?_⟩
 ·rcases h2 i hi e he with h | h
  ·rw[hb]at h;simp at h
  ·exact h
 ·rcases h3 i hi a ha with h | h
  ·rw[hb]at h;simp at h
  ·obtain⟨e,he,h6,h7⟩:=h;exact⟨e,he,h6,h7⟩
section
variable {P:Program} {w0:World} {g h2:Hp} {a:Act} {w:World} {call:cK}
theorem PK(hcall:A5 P w0 call)(hinv:sW call){fr:Option Nat}{dn:Nat}{ds:List Deferred}{n:Nat}{φ0:Ren}{ops:Array Oper}{vl:List (ROp×Nat)}(hm:ops.toList.mapM (kq P n ops)=some vl)(hok:M6 ops)
  {Γs:Nat→Tr V} {ss:Nat→S} {rs ws:Nat→Nat} (ht:Tra call vl (BZ ops) 0 Γs ss rs ws) (hr:∀k,k<vl.length→∀n,(rs k).testBit n=true→h2 n=g n) (hi:Inv g (ss 0)) {Q:Exit→Act→World→Prop}
  (hk:∀a' w',StR ds w0 n g h2 φ0 (look (Γs vl.length)) (ss vl.length) a' w'→Q .normal a' w') :
  ∀(fuel:Nat) (listed:Array Bool) (φ:Ren) (a:Act) (w:World),listed.size=ops.size→((List.range ops.size).filter fun i=>!listed.getD i false).length≤fuel →
   (∀j,j<ops.size→listed.getD j false=true→∀b,b<ops.size→((Region.before ops).getD j 0).testBit b=true→listed.getD b false=true) →
   φ0.le φ→EnvR φ a (cur (fun k t=>look (Γs k) t) (fun k t=>(qY ((vl.getD k default).1.dst)).testBit t) ops.size (look (Γs 0)) (fun j=>listed.getD j false)) →
   Rel w0 φ (cur (fun k n=>(ss k).h.get n) (fun k n=>(ws k).testBit n) ops.size (eK h2 (ss 0)) (fun j=>listed.getD j false)) w→a.defers=ds→n≤a.tmps.size→wpAnyIn (FW fr) dn P .any ops Q fuel listed a w:=by
 have hlen:vl.length=ops.size:=by
  have:∀(l:List Oper) (vl:List (ROp×Nat)),l.mapM (kq P n ops)=some vl→vl.length=l.length:=by
   intro l
   induction l with
   | nil=>intro vl h;simp at h;subst h;rfl
   | cons x l ih =>
    intro vl h
    simp only[List.mapM_cons,Option.bind_eq_bind,Option.pure_def]at h
    cases hx:kq P n ops x with
    | none=>simp[hx]at h
    | some y =>
     cases hr:l.mapM (kq P n ops)with
     | none=>simp[hx,hr]at h
     | some r=>simp[hx,hr]at h;subst h;simp[ih r hr]
  rw[this _ _ hm,Array.length_toList]
 have bY:∀i,i<ops.size→∃p,vl[i]? = some p∧OpC P n ops (ops.getD i default) p.1 p.2:=by
  intro i hi
  have:∀(l:List Oper) (vl:List (ROp×Nat)),l.mapM (kq P n ops)=some vl→∀(i:Nat) o,l[i]? = some o→∃vo,vl[i]? = some vo∧kq P n ops o=some vo:=by
   intro l
   induction l with
   | nil=>intro vl h i o hi;simp at hi
   | cons x l ih =>
    intro vl h i o hi
    simp only[List.mapM_cons,Option.bind_eq_bind,Option.pure_def]at h
    cases hx:kq P n ops x with
    | none=>simp[hx]at h
    | some y =>
     cases hr:l.mapM (kq P n ops)with
     | none=>simp[hx,hr]at h
     | some r =>
      simp[hx,hr]at h
      subst h
      cases i with
      | zero=>simp at hi;subst hi;exact⟨y,rfl,hx⟩
      | succ i=>simpa using ih r hr i o (by simpa using hi)
  obtain⟨p,h1,h2⟩:=this _ _ hm i (ops.getD i default) (by simp[Array.getD,hi])
  exact⟨p,h1,R4 h2⟩
 have htab:∀i,i<ops.size→(BZ ops)[i]? = some ((Region.before ops).getD i 0):=by
  intro i hi
  simp[BZ,hi]
 have hstW:∀k n,k<ops.size→(ws k).testBit n=false→(ss (k+1)).h.get n=(ss k).h.get n:=by
  intro k n hk hw
  obtain⟨p,hp,_⟩:=bY k hk
  obtain⟨t,h1,h2,h3⟩:=ht.step k p hp
  have:=Jq (g:=(ss k).h.get) hinv h1 (fun _ _=>rfl) _ (fw.2 rfl)
  rw[h2]
  exact this n (by rw[←h3];exact hw)
 have hstE:∀k t,k<ops.size→(qY ((vl.getD k default).1.dst)).testBit t=false→look (Γs (k+1)) t=look (Γs k) t:=by
  intro k t hk hw
  obtain⟨p,hp,_⟩:=bY k hk
  obtain⟨t',h1,h2,h3⟩:=ht.step k p hp
  obtain⟨x,hx⟩:=apZ h1 _ (fw.2 rfl)
  simp only at hx
  rw[hx,MV]
  unfold T1
  have : ¬p.1.dst=some t:=fun e=>by
   have:=(O9 p.1.dst t).2 e
   simp only[List.getD,hp,Option.getD_some]at hw
   rw[this]at hw;simp at hw
  simp[this]
 have hpair:∀j k,j<k→k<ops.size→((Region.before ops).getD k 0).testBit j=true∨Kj ⟨j,(vl.getD j default).2,qY (vl.getD j default).1.dst,rs j,ws j⟩ ⟨k,(vl.getD k default).2,qY (vl.getD k default).1.dst,rs k,ws k⟩:=by
  intro j k hjk hk
  obtain⟨pj,hj,_⟩:=bY j (by omega)
  obtain⟨pk,hkk,_⟩:=bY k hk
  have:=aiW (ht.apart j k pj pk _ hjk hj hkk (htab k hk))
  simp only[List.getD,hj,hkk,Option.getD_some]
  simpa only[Nat.zero_add]using this
 have hwS:∀k,k≤ops.size→∀n,(ss k).w.testBit n=true↔(ss 0).w.testBit n=true∨∃m,m<k∧(ws m).testBit n=true:=by
  intro k
  induction k with
  | zero=>intro _ n;simp
  | succ k ih =>
   intro hk n
   obtain⟨p,hp,_⟩:=bY k (by omega)
   obtain⟨t,h1,h2,h3⟩:=ht.step k p hp
   rw[h2]
   simp only[ij,Bw]
   rw[ih (by omega) n,←h3]
   constructor
   ·rintro ((h | ⟨m,hm,h⟩) | h)
    ·exact .inl h
    ·exact .inr ⟨m,by omega,h⟩
    ·exact .inr ⟨k,by omega,h⟩
   ·rintro (h | ⟨m,hm,h⟩)
    ·exact .inl (.inl h)
    ·by_cases e:m=k
     ·subst e;exact .inr h
     ·exact .inl (.inr ⟨m,by omega,h⟩)
 have ready_of:∀(listed:Array Bool) i,listed.size=ops.size→(i∈Region.ready .any ops listed↔i<ops.size∧listed.getD i false=false∧∀e∈(ops.getD i default).after.toList,Region.binds .any e=true→listed.getD e.on false=true):=by
  intro listed i hs
  simp only[Region.ready,List.mem_filter,List.mem_range,gk,Cw]
  constructor
  ·rintro⟨h1,h2,h3⟩
   refine⟨h1,?_,fun e he hb=>?_⟩
   ·have:i<listed.size:=by omega
    simpa[Array.getD,this]using h2
   ·simp only[Array.getElem?_eq_getElem h1,qw,Option.getD_some,Array.all_eq_true']at h3
    have:=h3 e (by simpa[Array.getD,h1]using he)
    simpa[hb]using this
  ·rintro⟨h1,h2,h3⟩
   refine⟨h1,?_,?_⟩
   ·have:i<listed.size:=by omega
    simpa[Array.getD,this]using h2
   ·simp only[Array.getElem?_eq_getElem h1,qw,Option.getD_some,Array.all_eq_true']
    intro e he
    by_cases hb:Region.binds .any e=true
    ·have:=h3 e (by simpa[Array.getD,h1]using he) hb
     simp[this]
    ·simp[hb]
 have M1:∀(listed:Array Bool),listed.size=ops.size→Region.ready .any ops listed=[]→∀j,j<ops.size→listed.getD j false=true:=by
  intro listed hs hr j
  induction j using Nat.strongRecOn with
  | _ j ih =>
   intro hj
   cases hb:listed.getD j false with
   | true=>rfl
   | false =>
    exfalso
    have hready:j∈Region.ready .any ops listed:=by
     rw[ready_of _ _ hs]
     refine⟨hj,hb,fun e he hbe=>?_⟩
     have hlt:=hok.edge j hj e he hbe
     exact ih e.on hlt (by omega)
    rw[hr]at hready
    simp at hready
 have fin:∀(listed:Array Bool) (φ:Ren) (a:Act) (w:World),(∀j,j<ops.size→listed.getD j false=true)→φ0.le φ→EnvR φ a (cur (fun k t=>look (Γs k) t) (fun k t=>(qY ((vl.getD k default).1.dst)).testBit t) ops.size (look (Γs 0)) (fun j=>listed.getD j false)) →
   Rel w0 φ (cur (fun k n=>(ss k).h.get n) (fun k n=>(ws k).testBit n) ops.size (eK h2 (ss 0)) (fun j=>listed.getD j false)) w→a.defers=ds→n≤a.tmps.size→Q .normal a w:=by
  intro listed φ a w hall hle he R hd hs
  refine hk a w ⟨φ,hle,?_,?_,?_,hd,hs⟩
  ·have:cur (fun k t=>look (Γs k) t) (fun k t=>(qY ((vl.getD k default).1.dst)).testBit t) ops.size (look (Γs 0)) (fun j=>listed.getD j false)=look (Γs vl.length):=by
    funext t
    rw[hlen]
    rcases arX (f := fun k t => look (Γs k) t) (Wr := fun k t => (qY ((vl.getD k default).1.dst)).testBit t) (base := look (Γs 0)) (L := fun j => listed.getD j false) (n := t) hstE hall with⟨h,_⟩ | ⟨h,_,h2⟩
    ·exact h
    ·rw[h];exact h2.symm
   rw[←this];exact he
  ·have:cur (fun k n=>(ss k).h.get n) (fun k n=>(ws k).testBit n) ops.size (eK h2 (ss 0)) (fun j=>listed.getD j false)=eK h2 (ss vl.length):=by
    funext n
    rw[hlen]
    rcases arX (f := fun k n => (ss k).h.get n) (Wr := fun k n => (ws k).testBit n) (base := eK h2 (ss 0)) (L := fun j => listed.getD j false) (n := n) hstW hall with⟨h,m,hm,hw⟩ | ⟨h,hno,h2'⟩
    ·rw[h]
     unfold eK
     rw[(hwS ops.size (mw _) n).2 (.inr ⟨m,hm,hw⟩)]
     rfl
    ·rw[h]
     unfold eK
     have e:(ss ops.size).w.testBit n=(ss 0).w.testBit n:=by
      rw[Bool.eq_iff_iff,hwS ops.size (mw _) n]
      constructor
      ·rintro (h | ⟨m,hm,h⟩)
       ·exact h
       ·rw[hno m hm]at h;simp at h
      ·exact .inl
     rw[e]
     rw[h2']
   rw[←this];exact R
  ·rw[hlen]
   intro n hn
   have hno:∀m,m<ops.size→(ws m).testBit n=false:=fun m hm=>by
    cases h:(ws m).testBit n with
    | false=>rfl
    | true=>rw[(hwS ops.size (mw _) n).2 (.inr ⟨m,hm,h⟩)]at hn;simp at hn
   have h0:(ss 0).w.testBit n=false:=by
    cases h:(ss 0).w.testBit n with
    | false=>rfl
    | true=>rw[(hwS ops.size (mw _) n).2 (.inl h)]at hn;simp at hn
   have:=O0 (f:=fun k n=>(ss k).h.get n) (n:=n) hstW ops.size 0 (by omega) (fun j _ hj=>hno j (by omega))
   rw[Nat.zero_add]at this
   rw[this];exact hi n h0
 intro fuel
 induction fuel with
 | zero =>
  intro listed φ a w hs hf hcl hle he R hd hsz
  have hall:∀j,j<ops.size→listed.getD j false=true:=by
   intro j hj
   have hnil:=fk (Nat.le_zero.1 hf)
   rw[List.filter_eq_nil_iff]at hnil
   have:=hnil j (List.mem_range.2 hj)
   simpa using this
  refine⟨?_,fin listed φ a w hall hle he R hd hsz⟩
  cases hrd:Region.ready .any ops listed with
  | nil=>rfl
  | cons i r =>
   exfalso
   have hi:i∈Region.ready .any ops listed:=by rw[hrd];simp
   rw[ready_of _ _ hs]at hi
   have:=hall i hi.1
   rw[hi.2.1]at this;simp at this
 | succ fuel ih =>
  intro listed φ a w hs hf hcl hle he R hd hsz
  refine⟨fun hrd=>fin listed φ a w (M1 listed hs hrd) hle he R hd hsz,fun i hi=>?_⟩
  rw[ready_of _ _ hs]at hi
  obtain⟨hil,hiu,hie⟩:=hi
  have htest:∀b,b<ops.size→((Region.before ops).getD i 0).testBit b=true→listed.getD b false=true:=by
   intro b hb ht
   obtain⟨e,he,hbe,hor⟩:=hok.table i hil b hb ht
   have hlist:=hie e he hbe
   have hon:e.on<ops.size:=by have:=hok.edge i hil e he hbe;omega
   rcases hor with rfl | hor
   ·exact hlist
   ·exact hcl e.on hon hlist b hb hor
  obtain⟨p,hp,hc⟩:=bY i hil
  have hpD:vl.getD i default=p:=by simp[List.getD,hp]
  obtain⟨t,hst,hs2,hws⟩:=ht.step i p hp
  have before:∀j,j<i→(listed.getD j false=true)∨Kj ⟨j,(vl.getD j default).2,qY (vl.getD j default).1.dst,rs j,ws j⟩ ⟨i,p.2,qY p.1.dst,rs i,ws i⟩:=by
   intro j hj
   rcases hpair j i hj hil with h | h
   ·exact .inl (htest j (by omega) h)
   ·rw[hpD]at h;exact .inr h
  have behind:∀m,i<m→m<ops.size→listed.getD m false=true→Kj ⟨i,p.2,qY p.1.dst,rs i,ws i⟩ ⟨m,(vl.getD m default).2,qY (vl.getD m default).1.dst,rs m,ws m⟩:=by
   intro m hm hml hlm
   rcases hpair i m hm hml with h | h
   ·have:=hcl m hml hlm i hil h
    rw[hiu]at this;simp at this
   ·rw[hpD]at h;exact h
  have hag:∀q,p.2.testBit q=true→cur (fun k t=>look (Γs k) t) (fun k t=>(qY ((vl.getD k default).1.dst)).testBit t) ops.size (look (Γs 0)) (fun j=>listed.getD j false) q=look (Γs i) q:=by
   intro q hq
   refine aiK (f:=fun k t=>look (Γs k) t) (Wr:=fun k t=>(qY ((vl.getD k default).1.dst)).testBit t) hstE hil rfl (fun j hj hw=>?_) (fun m hm hml hlm=>?_) hiu
   ·rcases before j hj with h | h
    ·exact h
    ·exact(h.twr q hw hq).elim
   ·cases hw:(qY ((vl.getD m default).1.dst)).testBit q with
    | false=>rfl
    | true=>exact((behind m hm hml hlm).trw q hw hq).elim
  have hread:∀n,(rs i).testBit n=true→cur (fun k n=>(ss k).h.get n) (fun k n=>(ws k).testBit n) ops.size (eK h2 (ss 0)) (fun j=>listed.getD j false) n=(ss i).h.get n:=by
   intro n hn
   refine aiK (f:=fun k n=>(ss k).h.get n) (Wr:=fun k n=>(ws k).testBit n) hstW hil ?_ (fun j hj hw=>?_) (fun m hm hml hlm=>?_) hiu
   ·exact f7 hi (hr i (by omega) n hn)
   ·rcases before j hj with h | h
    ·exact h
    ·exact(h.wr n hw hn).elim
   ·cases hw:(ws m).testBit n with
    | false=>rfl
    | true=>exact((behind m hm hml hlm).rw' n hw hn).elim
  have hlist':(fun j=>(listed.setIfInBounds i true).getD j false)=fun j=>decide (j=i)||listed.getD j false:=by
   funext j
   simp only[Array.getD_eq_getD_getElem?,Array.getElem?_setIfInBounds]
   by_cases e:i=j
   ·subst e
    have:i<listed.size:=by omega
    simp[this]
   ·have e' : ¬j=i:=fun x=>e x.symm
    simp[e,e']
  have hov0:∀(H:Hp) (s:S),eK H {s with w:=0}=H:=by
   intro H s;funext n;simp[eK]
  have next:∀x v φ' w',Γs (i+1)=putO p.1.dst x (Γs i)→φ.le φ'→Rel w0 φ' (eK (cur (fun k n=>(ss k).h.get n) (fun k n=>(ws k).testBit n) ops.size (eK h2 (ss 0)) (fun j=>listed.getD j false)) t) w'→RepV φ' v x →
    wpAnyIn (FW fr) dn P .any ops Q fuel (listed.setIfInBounds i true) (a.put (ops.getD i default).dst v) w':=by
   intro x v φ' w' hx hle' R' hrep
   refine ih _ φ' _ w' (by simpa using hs) ?_ ?_ (Ren.le_trans hle hle') ?_ ?_ (by rw[(M7 _ _ _).2];exact hd) (by rw[(M7 _ _ _).1];exact hsz)
   ·have hsub:∀j,(!(listed.setIfInBounds i true).getD j false)=((!listed.getD j false) && !decide (j=i)):=by
     intro j
     have:=congrFun hlist' j
     rw[this]
     cases decide (j=i)<;>cases listed.getD j false<;>rfl
    exact Nat.le_of_lt_succ (Nat.lt_of_lt_of_le (ayY hsub (by rw[hiu];rfl) _ (List.mem_range.2 hil)) hf)
   ·intro j hj hl b hb htb
    have hl':=congrFun hlist' j
    have hb':=congrFun hlist' b
    rw[hl']at hl
    rw[hb']
    simp only[Bw,Dk]at hl ⊢
    rcases hl with rfl | hl
    ·exact .inr (htest b hb htb)
    ·exact .inr (hcl j hj hl b hb htb)
   ·rw[hlist']
    have:cur (fun k t=>look (Γs k) t) (fun k t=>(qY ((vl.getD k default).1.dst)).testBit t) ops.size (look (Γs 0)) (fun j=>decide (j=i)||listed.getD j false)=T1 (ops.getD i default).dst x (cur (fun k t=>look (Γs k) t) (fun k t=>(qY ((vl.getD k default).1.dst)).testBit t) ops.size (look (Γs 0)) (fun j=>listed.getD j false)):=by
     funext q
     rw[aqX hil (fun m hm hml hlm hw=>by
      cases hw2:(qY ((vl.getD m default).1.dst)).testBit q with
      | false=>rfl
      | true=>rw[hpD]at hw;exact((behind m hm hml hlm).tww q hw hw2).elim) hiu]
     rw[hpD]
     unfold T1
     rw[←hc.dst]
     by_cases e:p.1.dst=some q
     ·rw[if_pos ((O9 _ _).2 e),if_pos e,hx,MV]
      simp[T1,e]
     ·have e' : ¬(qY p.1.dst).testBit q=true:=fun h=>e ((O9 _ _).1 h)
      rw[if_neg e',if_neg e]
    rw[this]
    exact(he.mono hle').put hrep fun q hq=>Nat.lt_of_lt_of_le (hc.lt q hq) hsz
   ·rw[hlist']
    have:cur (fun k n=>(ss k).h.get n) (fun k n=>(ws k).testBit n) ops.size (eK h2 (ss 0)) (fun j=>decide (j=i)||listed.getD j false)=eK (cur (fun k n=>(ss k).h.get n) (fun k n=>(ws k).testBit n) ops.size (eK h2 (ss 0)) (fun j=>listed.getD j false)) t:=by
     funext q
     rw[aqX hil (fun m hm hml hlm hw=>by
      cases hw2:(ws m).testBit q with
      | false=>rfl
      | true=>exact((behind m hm hml hlm).ww q hw hw2).elim) hiu]
     unfold eK
     rw[hs2,hws]
     cases t.w.testBit q<;>simp
    rw[this];exact R'
  have hoi:ops[i]? = some (ops.getD i default):=by simp[Array.getD,hil]
  unfold wpOpIn
  rw[hoi]
  simp only
  have R0:Rel w0 φ (eK (cur (fun k n=>(ss k).h.get n) (fun k n=>(ws k).testBit n) ops.size (eK h2 (ss 0)) (fun j=>listed.getD j false)) {ss i with w:=0}) w:=by rw[hov0];exact R
  rcases B8 (g:=(ss i).h.get) hcall R0 (fun _ _=>rfl) he hc hag hst hread (next:=wpAnyIn (FW fr) dn P .any ops Q fuel (listed.setIfInBounds i true)) (Q:=Q) (fun q hq x v φ' w' hpx hle' R' hrep=>by
    rw[fw.1 hq]at hpx R'
    exact next x v φ' w' hpx hle' R' hrep)with⟨hw,hh⟩ | ⟨hw,hh⟩
  ·simp only[hw,if_true]
   exact hh
  ·simp only[hw,rk,sk]
   exact⟨fun _ _=>trivial,hh⟩
end
end Go.RM
namespace Go.RM
open Go.VM (Pt Fr c6 jK)
def XM:Exit→Ex→Prop
 | .normal,.normal=>True
 | .exit i,.exit j=>i=j
 | .ret,.ret=>True
 | _,_=>False
def TOk (P : Program) (T : Tr RF) : Prop := ∀ f rf, T.get f = some rf → ∃ fn c, P.funcs[f]? = some fn ∧ fn.body = some c ∧ gV P fn.ntmps c = some rf.code ∧ fn.results.toList.mapM (Cx P) = some rf.res ∧ (fn.name == "runtime.NumGoroutine") = false
section
variable {P:Program} {w0:World} {φ:Ren} {g h2:Hp} {s:S} {Γ:Tr V} {a:Act} {w:World} {call:cK}
theorem tz{n:Nat}{ops:Array Oper}{draw:Bool}:(AW P n ops draw).getD .bad = .bad∨∃d vl,(AW P n ops draw).getD .bad = .region d vl:=by
 unfold AW
 cases ops.toList.mapM (kq P n ops)with
 | none=>exact .inl rfl
 | some vl =>
  simp only[dk]
  split
  ·exact .inr ⟨_,_,rfl⟩
  ·exact .inl rfl
theorem F0{n:Nat}{ops:Array Oper}{draw:Bool}{c:RC}(h:(AW P n ops draw).getD .bad=c):c = .bad∨∃d vl,c = .region d vl:=by
 rw[←h];exact tz
theorem zq{n:Nat}{c:Code}{d:Option (List Nat)}{vl:List (ROp×Nat)}(hc:gV P n c=some (.region d vl)) :
  ∃id ops draw,c = .region id ops draw∧ops.toList.mapM (kq P n ops)=some vl∧(d=none→draw=false)∧(∀bs,d=some bs→draw=true∧bs=BZ ops∧ajx ops=true∧P.follows .mixedOrders=true):=by
 cases c<;>simp only[gV,ak,aw,ek,reduceCtorEq,and_false,exists_false]at hc
 rename_i id ops draw
 unfold AW at hc
 cases hm:ops.toList.mapM (kq P n ops)with
 | none=>rw[hm]at hc;simp at hc
 | some vl' =>
  rw[hm]at hc
  simp only[dk]at hc
  split at hc
  ·rename_i hd
   simp only[Option.getD_some,RC.region.injEq]at hc
   obtain⟨h1,rfl⟩:=hc
   refine⟨id,ops,draw,rfl,hm,fun h=>?_,fun bs hbs=>?_⟩
   ·subst h
    cases draw with
    | false=>rfl
    | true=>simp at h1
   ·subst hbs
    cases draw with
    | false=>simp at h1
    | true =>
     simp only[if_true,ek]at h1
     exact⟨rfl,h1.symm,hd rfl⟩
  ·simp at hc
theorem aiY(hcall:A5 P w0 call)(hinv:sW call){fr:Option Nat}{dn:Nat}{ds:List Deferred}{n:Nat}{φ0:Ren}{ops:Array Oper}{vl:List (ROp×Nat)}(hm:ops.toList.mapM (kq P n ops)=some vl)(hok:ajx ops=true)(hf:P.follows .mixedOrders=true){id:Nat}
  {outs:List (Tr V×S)} {r:Nat} (hx:wY call vl (BZ ops) 0 [] Γ s 0=some (outs,r)) (hr:∀n,r.testBit n=true→h2 n=g n) (st:StR ds w0 n g h2 φ0 (look Γ) s a w) {Q:Exit→Act→World→Prop}
  (hk:∀p∈outs,∀a' w',StR ds w0 n g h2 φ0 (look p.1) p.2 a' w'→Q .normal a' w'):(Code.region id ops true).wpIn (FW fr) dn P Q a w:=by
 obtain⟨Γs,ss,rs,ws,e1,e2,e3,ht,hrr,_,_⟩:=Pq vl (BZ ops) 0 [] Γ s 0 outs r hx
 obtain⟨φ,hle,he,R,hi,hd,hs⟩:=st
 have hnone:∀j,(Array.replicate ops.size false).getD j false=false:=by
  intro j
  by_cases hj:j<ops.size<;>simp[Array.getD,hj]
 have hc0:∀ {β:Type} (f:Nat→Nat→β) (Wr:Nat→Nat→Bool) (base:Nat→β),cur f Wr ops.size base (fun j=>(Array.replicate ops.size false).getD j false)=base:=by
  intro β f Wr base
  funext q
  unfold cur
  have:C4 (fun m=>(Array.replicate ops.size false).getD m false&&Wr m q) ops.size=none:=by
   cases h:C4 (fun m=>(Array.replicate ops.size false).getD m false&&Wr m q) ops.size with
   | none=>rfl
   | some m=>obtain⟨_,h2,_⟩:=B6 h;rw[hnone m]at h2;simp at h2
  rw[this]
 refine wpIn_region_any hf (PK (Q:=Q) hcall hinv hm (apJ hok) ht (fun k hk n hn=>hr n (hrr k hk n hn)) (by rw[e2];exact hi) (fun a' w' st'=>hk _ (by rw[e3];exact fw.2 rfl) a' w' st') ops.size _ φ a _ (by simp) ?_ ?_ hle ?_ ?_ hd hs)
 ·refine Nat.le_trans (List.length_filter_le _ _) (by simp)
 ·intro j hj hl;rw[hnone j]at hl;simp at hl
 ·rw[hc0,e1];exact he
 ·rw[hc0,e2]
  exact R.turn (fun _ => False) (Ren.le_refl φ) (fun _ _ => rfl) (fun n l h1 h2 => by rw[h1]at h2;simp at h2) (Fr.drew w _) (fun _ _ h => h.elim) (fun _ _ _ h => h.elim) (fun _ _ _ _ _ h => h.elim) (fun _ _ _ _ _ h => by rcases h with h | h<;>exact h.elim) (fun _ _ _ _ _ _ _ h => h.elim) (fun _ h => h.elim) (fun _ _ h => h.elim)
theorem UJ{E:Nat→V}(he:EnvR φ a (look Γ))(R:Rel w0 φ (eK h2 s) w)(hi:Inv g s){rv:ResultVar}{vr:RR}(hc:Cx P rv=some vr){x:V}{r:Nat}(hr:∀n,r.testBit n=true→h2 n=g n){xs:List V}{vrs:List RR}(hx:HJ Γ s (vr::vrs)=some (x::xs,r)) :
  ∃v,Sem.run P (match rv with | .tmp t => (pure (a.tmps.getD t undef):Sem Value) | .cell p t => (do loadVar t (←asAddr (a.tmps.getD p undef)))) w = .ok v w ∧ RepS φ v x ∧ ∃r',HJ Γ s vrs=some (xs,r') ∧ ∀n,r'.testBit n=true → h2 n=g n := by
 cases rv with
 | tmp t =>
  simp only[Cx,ek]at hc
  subst hc
  simp only[HJ]at hx
  rw[b9]at hx
  obtain⟨hp,hx⟩:=hx
  simp only[aw]at hx
  obtain⟨⟨xs',r'⟩,h1,h2'⟩:=hx
  cases h2'
  exact⟨_,rfl,F3 hp (he t),_,h1,hr⟩
 | cell p t =>
  simp only[Cx,Hq,aw,ak]at hc
  obtain⟨⟨d,i⟩,⟨d',hd,i',hti,hee⟩,hc⟩:=hc
  cases hee
  have key:∀n,n=(if c6 d then i.size else 1)→HJ Γ s (.cell p n (c6 d)::vrs)=some (x::xs,r) →
    ∃v,Sem.run P (do loadVar t (←asAddr (a.tmps.getD p undef))) w = .ok v w∧RepS φ v x∧∃r',HJ Γ s vrs=some (xs,r')∧∀n,r'.testBit n=true→h2 n=g n:=by
   intro n hn hx
   simp only[HJ]at hx
   split at hx
   ·rename_i m off heq
    simp only[ak]at hx
    obtain⟨q,hg,cs,hcut,hx⟩:=hx
    rw[b9]at hx
    obtain⟨hp,hx⟩:=hx
    simp only[aw]at hx
    obtain⟨⟨xs',r'⟩,h1,h2'⟩:=hx
    cases h2'
    have hs0:=he p
    have hl:look Γ p = .c (.ptr m off):=heq
    rw[hl]at hs0
    obtain⟨b,β,lim,hφ,hv⟩:=m9 hs0
    have hrep:=R.rep m _ ((f7 hi (hr m (DX (eJ m)))).trans (Fj hg))
    obtain⟨vs,hlen,hlie,hpt⟩:=I0 hrep hφ hcut
    have hrun:=jK (P:=P) hd hti hlie
    refine⟨if c6 d then .agg vs.toArray else vs.headD undef,?_,?_,r',h1,fun n hn=>hr n (G6 hn)⟩
    ·cases hag:c6 d with
     | true =>
      simp[hag]at hn
      simp only[hv,asAddr,Sem.run_bind,Sem.run_pure,Result.andThen_ok,if_true];exact hrun.1 hag (hlen.trans hn)
     | false =>
      simp[hag]at hn
      match vs,hlen.trans hn with
      | [v],_ =>
       simp only[hv,asAddr,Sem.run_bind,Sem.run_pure,Result.andThen_ok,rk,sk];exact hrun.2 hag v rfl
    ·cases hag:c6 d with
     | true =>
      rw[hag]at hp
      exact F3 hp (JY hpt)
     | false =>
      simp[hag]at hn
      match vs,hlen.trans hn with
      | [v],_ =>
       rw[hag]at hp
       exact F3 hp (zz hpt)
   ·simp at hx
  cases hg:c6 d with
  | true=>simp only[hg,if_true]at hc;subst hc;exact key i.size (by simp[hg]) (by rw[hg];exact hx)
  | false=>simp only[hg,rk,sk]at hc;subst hc;exact key 1 (by simp[hg]) (by rw[hg];exact hx)
theorem aJx{vr:RR}{vrs:List RR}{xs:List V}{r:Nat}(hx:HJ Γ s (vr::vrs)=some (xs,r)):∃x xs',xs=x::xs':=by
 cases vr with
 | tmp t =>
  simp only[HJ]at hx
  rw[b9]at hx
  obtain⟨_,hx⟩:=hx
  simp only[aw]at hx
  obtain⟨_,_,h⟩:=hx
  cases h;exact⟨_,_,rfl⟩
 | cell t n g =>
  simp only[HJ]at hx
  split at hx
  ·simp only[ak]at hx
   obtain⟨_,_,_,_,hx⟩:=hx
   rw[b9]at hx
   obtain⟨_,hx⟩:=hx
   simp only[aw]at hx
   obtain⟨_,_,h⟩:=hx
   cases h;exact⟨_,_,rfl⟩
  ·simp at hx
theorem H9(he:EnvR φ a (look Γ))(R:Rel w0 φ (eK h2 s) w)(hi:Inv g s):∀(rs:List ResultVar) (vrs:List RR) (xs:List V) (r:Nat),rs.mapM (Cx P)=some vrs→HJ Γ s vrs=some (xs,r)→(∀n,r.testBit n=true→h2 n=g n) →
  ∃vs,Sem.run P (rs.mapM fun rv => (match rv with | .tmp t => (pure (a.tmps.getD t undef):Sem Value) | .cell p t => (do loadVar t (←asAddr (a.tmps.getD p undef))))) w = .ok vs w ∧ Pt (RepS φ) vs xs
 | [],vrs,xs,r,hm,hx,hr=>by
  simp at hm;subst hm
  simp only[HJ]at hx;cases hx
  exact⟨[],by simp,Go.VM.Pt.nil⟩
 | rv::rs,vrs,xs,r,hm,hx,hr=>by
  simp only[List.mapM_cons,Option.bind_eq_bind,Option.pure_def]at hm
  cases hrv:Cx P rv with
  | none=>simp[hrv]at hm
  | some vr =>
   cases hrs:rs.mapM (Cx P)with
   | none=>simp[hrv,hrs]at hm
   | some vrs' =>
    simp[hrv,hrs]at hm
    subst hm
    obtain⟨x,xs',rfl⟩:=aJx hx
    obtain⟨v,hv,hrep,r',h1,h2'⟩:=UJ (E:=look Γ) (P:=P) he R hi hrv hr hx
    obtain⟨vs,hvs,hreps⟩:=H9 he R hi rs vrs' xs' r' hrs h1 h2'
    refine⟨v::vs,?_,Go.VM.Pt.cons hrep hreps⟩
    rw[List.mapM_cons,Sem.run_bind,hv,Result.andThen_ok,Sem.run_bind,hvs]
    rfl
theorem HZ(he:EnvR φ a (look Γ))(R:Rel w0 φ (eK h2 s) w)(hi:Inv g s){fn:Func}{vrs:List RR}{outs:List (V×S)}{r:Nat}(hm:fn.results.toList.mapM (Cx P)=some vrs)(hx:Xx vrs Γ s=some (outs,r))(hr:∀n,r.testBit n=true→h2 n=g n) :
  ∃v,(results fn a.tmps).run P w = .ok v w∧∃p∈outs,p.2=s∧RepV φ v p.1:=by
 unfold Xx at hx
 split at hx
 ·simp at hx
 ·rename_i xs r' hl
  cases hx
  obtain⟨vs,hvs,hp⟩:=H9 (P:=P) he R hi fn.results.toList vrs xs r hm hl hr
  have hrun:(results fn a.tmps).run P w = .ok (if h:vs.toArray.size=1 then vs.toArray[0]else .tuple vs.toArray) w:=by
   unfold results
   rw[←Ck (xs:=fn.results),List.mapM_toArray]
   simp only[Sem.run_bind,Sem.run_map]
   exact(congrArg (fun r:Result (List Value)=>((r.andThen fun a w'=>Result.ok a.toArray w').andThen fun a w'=>Sem.run P (pure (if h:a.size=1 then a[0]else Value.tuple a)) w')) hvs).trans rfl
  refine⟨_,hrun,_,fw.2 rfl,rfl,?_⟩
  match vs,xs,hp with
  | [],[],hp=>exact⟨#[],by simp,Go.VM.Pt.nil⟩
  | [v],[x],hp =>
   simp only[QK]
   simpa using G2 (hp.2 0 v x rfl rfl)
  | v::v'::vs,x::x'::xs,hp =>
   simp only[QK]
   exact⟨(v::v'::vs).toArray,by simp,hp⟩
  | [],_::_,hp=>have:=hp.1;simp at this
  | [_],[],hp=>have:=hp.1;simp at this
  | [_],_::_::_,hp=>have:=hp.1;simp at this
  | _::_::_,[],hp=>have:=hp.1;simp at this
  | _::_::_,[_],hp=>have:=hp.1;simp at this
theorem aeV{vrs:List RR}{outs:List (V×S)}{r:Nat}(hx:Xx vrs Γ s=some (outs,r)):∀p∈outs,p.2=s:=by
 unfold Xx at hx
 split at hx
 ·simp at hx
 ·cases hx;intro p hp;rw[fw.1 hp]
theorem asQ{α:Type}:∀(xs:List α) (i:Nat) (t:Tr α) (m:Nat),(ofL xs i t).get m=if i≤m then(match xs[m-i]? with | some x => some x | none => t.get m)else t.get m
 | [],i,t,m=>by simp[ofL]
 | x::xs,i,t,m=>by
  simp only[ofL]
  rw[asQ xs (i+1) _ m,Tr.get_set]
  by_cases h1:i+1≤m
  ·have h2:i≤m:=by omega
   have h3 : ¬m=i:=by omega
   obtain⟨d,hd⟩ : ∃d,m-i=d+1:=⟨m-i-1,by omega⟩
   have h4:m-(i+1)=d:=by omega
   simp[h1,h2,h3,hd,h4]
  ·by_cases h2:m=i
   ·subst h2
    have h3 : ¬m+1≤m:=by omega
    simp[h3]
   ·have h3 : ¬i≤m:=by omega
    simp[h1,h2,h3]
theorem auK{α:Type}(xs:List α)(m:Nat):(ofL xs 0 .lf).get m=xs[m]?:=by
 rw[asQ]
 simp only[Nat.zero_le,if_true,Nat.sub_zero,Tr.get]
 cases xs[m]?<;>rfl
end
section
variable {P:Program} {w0:World} {orc:cK} {T:Tr RF}
theorem vX(orc:cK)(T:Tr RF)(n:Nat)(rc:RC)(Γ:Tr V)(s:S):exec orc T (n+1) rc Γ s=match rc with
 | .skip=>one (.normal,Γ,s)
 | .region none ops=>o8 (J7 (jZ orc T n) ops Γ s) fun p=>one (.normal,p.1,p.2)
 | .region (some tab) ops=>o8 (wY (jZ orc T n) ops tab 0 [] Γ s 0) fun p=>one (.normal,p.1,p.2)
 | .seq a b=>o8 (exec orc T n a Γ s) fun p=>match p.1 with
  | .normal=>exec orc T n b p.2.1 p.2.2
  | _=>one p
 | .cond c a b=>match isB (ev Γ c)with
  | none=>none
  | some true=>exec orc T n a Γ s
  | some false=>exec orc T n b Γ s
 | .block id b=>o8 (exec orc T n b Γ s) fun p=>match p.1 with
  | .exit id'=>bif Nat.beq id' id then one (.normal,p.2.1,p.2.2)else one p
  | _=>one p
 | .loop b=>o8 (exec orc T n b Γ s) fun p=>match p.1 with
  | .normal=>exec orc T n (.loop b) p.2.1 p.2.2
  | _=>one p
 | .exit id=>one (.exit id,Γ,s)
 | .ret=>one (.ret,Γ,s)
 | .bad=>none:=by cases rc<;>rfl
theorem P5{P:Program}{fr:Option Nat}{dn:Nat}{c:Code}{Q Q':Exit→Act→World→Prop}(hq:∀e a w,Q e a w→Q' e a w):∀(m:Nat) (a:Act) (w:World),Code.roundsIn (FW fr) dn P c Q m a w→Code.roundsIn (FW fr) dn P c Q' m a w
 | 0,_,_,h=>h
 | m+1,a,w,h=>by
  rw[roundsIn_succ]at h ⊢
  refine wpIn_mono h fun e a' w' hh=>?_
  cases e with
  | normal=>exact P5 hq m a' w' hh
  | _=>exact hq _ _ _ hh
def aDV(P:Program)(w0:World)(orc:cK)(T:Tr RF)(n:Nat):Prop :=
 ∀rc Γ s outs r,exec orc T n rc Γ s=some (outs,r)→(∀g,Inv g s→∀p∈outs,Inv g p.2.2) ∧
  ∀nt c,gV P nt c=some rc→∀fr dn ds g h2 φ0 a w,(∀n,r.testBit n=true→h2 n=g n)→StR ds w0 nt g h2 φ0 (look Γ) s a w →
   c.wpIn (FW fr) dn P (fun e a' w'=>∃p∈outs,XM e p.1∧StR ds w0 nt g h2 φ0 (look p.2.1) p.2.2 a' w') a w ∧
   ∀b,c = .loop b→Code.roundsIn (FW fr) dn P b (fun e a' w'=>∃p∈outs,XM e p.1∧StR ds w0 nt g h2 φ0 (look p.2.1) p.2.2 a' w') n a w
theorem MW(hT:TOk P T)(ho:A5 P w0 orc)(hoi:sW orc){n:Nat}(hE:aDV P w0 orc T n):A5 P w0 (jZ orc T n)∧sW (jZ orc T n):=by
 refine⟨fun f args s outs r hx=>?_,fun f args s outs r hx g hi p hp=>?_⟩
 ·unfold jZ at hx
  split at hx
  ·exact ho f args s outs r hx
  ·rename_i rf bY
   obtain⟨fn,c,hfn,hb,hc,hres,hnm⟩:=hT f rf bY
   refine⟨⟨fn,hfn,by rw[hb];rfl,hnm⟩,fun g h2 φ w vs hr hi R hargs=>?_⟩
   obtain⟨l,r0,hl,hr0,hmem⟩:=vJ hx
   have hwp:=(hE rf.code (ofL args 0 .lf) s l r0 hl).2 fn.ntmps c hc none 0 [] g h2 φ {tmps:=vs.toArray++Array.replicate (fn.ntmps-vs.toArray.size) undef,defers:=[]} w (fun n hn=>hr n (hr0 n hn)) (by
    refine⟨φ,Ren.le_refl φ,fun t=>?_,R,hi,rfl,by simp;omega⟩
    unfold look
    rw[auK]
    cases hx:args[t]? with
    | none=>trivial
    | some x =>
     have hlt:t<vs.length:=by rw[hargs.1];exact(bw.1 hx).1
     have bY:(vs.toArray++Array.replicate (fn.ntmps-vs.toArray.size) undef).getD t undef=vs[t]:=by
      simp[Array.getD,hlt]
      intro hh;omega
     rw[bY]
     exact hargs.2 t _ x (cw hlt) hx)
   refine calls_of_wp hfn hb (wp_mono ((wpIn_wide (n:=0)).1 hwp.1) fun e a' w' hq=>?_)
   obtain⟨p,hp,hxm,φ',hle,he,R',hi',hd,_⟩:=hq
   obtain⟨zs,q,hz,hzs,hq⟩:=hmem p hp
   have fin:(p.1 = .normal∨p.1 = .ret)→a'.defers=[]∧∃v,(results fn a'.tmps).run P w' = .ok v w'∧∃v',Ending.returned v = .returned v'∧∃p∈outs,∃φ',φ.le φ'∧Rel w0 φ' (eK h2 p.2) w'∧RepV φ' v' p.1:=by
    intro hpe
    have hz':Xx rf.res p.2.1 p.2.2=some (zs,q) := by rcases hpe with h | h<;>(rw[h]at hz;exact hz)
    obtain⟨v,hv,p2,hp2,hs2,hrep⟩:=HZ (P:=P) he R' hi' hres hz' (fun n hn=>hr n (hq n hn))
    exact⟨hd,v,hv,v,rfl,p2,hzs p2 hp2,φ',hle,by rw[hs2];exact R',hrep⟩
   cases e with
   | normal=>exact fin (.inl (by revert hxm;cases p.1<;>simp[XM]))
   | ret=>exact fin (.inr (by revert hxm;cases p.1<;>simp[XM]))
   | exit id =>
    exfalso
    revert hxm hz
    cases p.1<;>simp[XM]
   | goto _=>exact hxm.elim
   | panic _=>exact hxm.elim
   | outgrown=>exact hxm.elim
 ·unfold jZ at hx
  split at hx
  ·exact hoi f args s outs r hx g hi p hp
  ·rename_i rf bY
   refine sK (C:=fun p=>Inv g p.2) hx (fun l r0 hl a ha zs q hz z hzm=>?_) p hp
   have h1:=(hE rf.code (ofL args 0 .lf) s l r0 hl).1 g hi a ha
   split at hz
   ·rw[aeV hz z hzm];exact h1
   ·rw[aeV hz z hzm];exact h1
   ·simp at hz
theorem ajY{call:cK}(hinv:sW call){g:Hp}:∀(vl:List (ROp×Nat)) (Γ:Tr V) (s:S) (outs:List (Tr V×S)) (r:Nat),J7 call vl Γ s=some (outs,r)→Inv g s→∀p∈outs,Inv g p.2
 | [],Γ,s,outs,r,h,hi=>by simp only[J7]at h;cases h;intro p hp;rw[fw.1 hp];exact hi
 | o::os,Γ,s,outs,r,h,hi=>by
  simp only[J7]at h
  exact sK (C:=fun p=>Inv g p.2) h fun l r0 hl a ha zs q hz z hzm=>ajY hinv os a.1 a.2 zs q hz (Jq hinv hl hi a ha) z hzm
theorem ayV{call:cK}(hinv:sW call){g:Hp}{vl:List (ROp×Nat)}{tab:List Nat}{Γ:Tr V}{s:S}{outs:List (Tr V×S)}{r:Nat}(h:wY call vl tab 0 [] Γ s 0=some (outs,r))(hi:Inv g s):∀p∈outs,Inv g p.2:=by
 obtain⟨Γs,ss,rs,ws,e1,e2,e3,ht,_,_,_⟩:=Pq vl tab 0 [] Γ s 0 outs r h
 have key:∀k,k≤vl.length→Inv g (ss k):=by
  intro k
  induction k with
  | zero=>intro _;rw[e2];exact hi
  | succ k ih =>
   intro hk n hn
   obtain⟨t,h1,h2,h3⟩:=ht.step k vl[k] (cw (by omega))
   have hi1:=Jq (g:=(ss k).h.get) hinv h1 (fun _ _=>rfl) _ (fw.2 rfl)
   rw[h2]at hn ⊢
   simp only[ij,Bool.or_eq_false_iff]at hn
   rw[hi1 n hn.2]
   exact ih (by omega) n hn.1
 intro p hp
 rw[e3]at hp
 rw[fw.1 hp]
 exact key _ (mw _)
theorem aqW(hT:TOk P T)(ho:A5 P w0 orc)(hoi:sW orc):∀n,aDV P w0 orc T n
 | 0=>fun rc Γ s outs r h=>by simp[exec]at h
 | n+1=>by
  have ih:=aqW hT ho hoi n
  obtain⟨hcall,hinv⟩:=MW hT ho hoi ih
  intro rc Γ s outs r hx
  rw[vX]at hx
  cases rc with
  | skip =>
   cases hx
   refine⟨fun g hi p hp=>by rw[fw.1 hp];exact hi,fun nt c hc fr dn ds g h2 φ0 a w hr st=>?_⟩
   cases c<;>simp only[gV,ak,aw,ek,reduceCtorEq,and_false,exists_false]at hc
   ·exact⟨wpIn_skip ⟨_,fw.2 rfl,trivial,st⟩,fun b h=>by simp at h⟩
   ·rcases F0 hc with h | ⟨_,_,h⟩<;>simp at h
  | ret =>
   cases hx
   refine⟨fun g hi p hp=>by rw[fw.1 hp];exact hi,fun nt c hc fr dn ds g h2 φ0 a w hr st=>?_⟩
   cases c<;>simp only[gV,ak,aw,ek,reduceCtorEq,and_false,exists_false]at hc
   ·rcases F0 hc with h | ⟨_,_,h⟩<;>simp at h
   ·exact⟨wpIn_ret ⟨_,fw.2 rfl,trivial,st⟩,fun b h=>by simp at h⟩
  | exit id =>
   cases hx
   refine⟨fun g hi p hp=>by rw[fw.1 hp];exact hi,fun nt c hc fr dn ds g h2 φ0 a w hr st=>?_⟩
   cases c<;>simp only[gV,ak,aw,ek,reduceCtorEq,and_false,exists_false,RC.exit.injEq]at hc
   ·rcases F0 hc with h | ⟨_,_,h⟩<;>simp at h
   ·subst hc;exact⟨wpIn_exit ⟨_,fw.2 rfl,rfl,st⟩,fun b h=>by simp at h⟩
  | bad=>simp at hx
  | region d ops =>
   cases d with
   | none =>
    obtain⟨l,r0,hl,hr0,hmem⟩:=vJ hx
    have hin:∀p∈l,((Ex.normal,p.1,p.2):Ex×Tr V×S)∈outs:=fun p hp=>by
     obtain⟨zs,q,hz,hzs,_⟩:=hmem p hp
     cases hz;exact hzs _ (fw.2 rfl)
    refine⟨fun g hi=>?_,fun nt c hc fr dn ds g h2 φ0 a w hr st=>?_⟩
    ·exact sK (C:=fun p=>Inv g p.2.2) hx fun l' r' hl' b hb zs q hz z hzm=>by
      cases hz;rw[fw.1 hzm]
      exact ajY hinv ops Γ s l' r' hl' hi b hb
    ·obtain⟨id,ops',dr,rfl,hm,hd,_⟩:=zq hc
     obtain rfl:=hd rfl
     refine⟨wpIn_region_list (X8 (φ0:=φ0) (ops:=ops') hcall hinv ops'.toList ops Γ s a w l r0 hm hl (fun n hn=>hr n (hr0 n hn)) st fun p hp a' w' st'=>⟨_,hin p hp,trivial,st'⟩),fun b h=>by simp at h⟩
   | some tab =>
    obtain⟨l,r0,hl,hr0,hmem⟩:=vJ hx
    have hin:∀p∈l,((Ex.normal,p.1,p.2):Ex×Tr V×S)∈outs:=fun p hp=>by
     obtain⟨zs,q,hz,hzs,_⟩:=hmem p hp
     cases hz;exact hzs _ (fw.2 rfl)
    refine⟨fun g hi=>?_,fun nt c hc fr dn ds g h2 φ0 a w hr st=>?_⟩
    ·exact sK (C:=fun p=>Inv g p.2.2) hx fun l' r' hl' b hb zs q hz z hzm=>by
      cases hz;rw[fw.1 hzm]
      exact ayV hinv hl' hi b hb
    ·obtain⟨id,ops',dr,rfl,hm,_,hd⟩:=zq hc
     obtain⟨rfl,rfl,hoo,hmx⟩:=hd tab rfl
     exact⟨aiY hcall hinv hm hoo hmx hl (fun n hn=>hr n (hr0 n hn)) st fun p hp a' w' st'=>⟨_,hin p hp,trivial,st'⟩,fun b h=>by simp at h⟩
  | seq x y =>
   obtain⟨l,r0,hl,hr0,hmem⟩:=vJ hx
   have hi1:=ih x Γ s l r0 hl
   refine⟨fun g hi=>?_,fun nt c hc fr dn ds g h2 φ0 a w hr st=>?_⟩
   ·refine sK (C:=fun p=>Inv g p.2.2) hx fun l' r' hl' b hb zs q hz z hzm=>?_
    have h1:=(ih x Γ s l' r' hl').1 g hi b hb
    split at hz
    ·exact(ih y _ _ zs q hz).1 g h1 z hzm
    ·cases hz;rw[fw.1 hzm];exact h1
   ·cases c<;>simp only[gV,ak,aw,ek,reduceCtorEq,and_false,exists_false,RC.seq.injEq]at hc
    ·rcases F0 hc with h | ⟨_,_,h⟩<;>simp at h
    ·obtain⟨x',hx',y',hy',rfl,rfl⟩:=hc
     refine⟨wpIn_seq (wpIn_mono (hi1.2 nt _ hx' fr dn ds g h2 φ0 a w (fun n hn=>hr n (hr0 n hn)) st).1 fun e a' w' hq=>?_),fun b h=>by simp at h⟩
     obtain⟨p,hp,hxm,st'⟩:=hq
     obtain⟨zs,q,hz,hzs,hq⟩:=hmem p hp
     cases e with
     | normal =>
      have hpe:p.1 = .normal:=by revert hxm;cases p.1<;>simp[XM]
      rw[hpe]at hz
      exact wpIn_mono ((ih y' p.2.1 p.2.2 zs q hz).2 nt _ hy' fr dn ds g h2 φ0 a' w' (fun n hn=>hr n (hq n hn)) st').1 fun e2 a2 w2 ⟨p2,hp2,hx2,st2⟩=>⟨p2,hzs p2 hp2,hx2,st2⟩
     | exit id =>
      have hz:one p=some (zs,q):=by revert hz hxm;cases p.1<;>first | exact fun h _=>h | simp[XM]
      cases hz
      exact⟨p,hzs p (fw.2 rfl),hxm,st'⟩
     | ret =>
      have hz:one p=some (zs,q):=by revert hz hxm;cases p.1<;>first | exact fun h _=>h | simp[XM]
      cases hz
      exact⟨p,hzs p (fw.2 rfl),hxm,st'⟩
     | goto _=>exact hxm.elim
     | panic _=>exact hxm.elim
     | outgrown=>exact hxm.elim
  | cond q x y =>
   simp only at hx
   cases hb:isB (ev Γ q)with
   | none=>rw[hb]at hx;simp at hx
   | some t =>
    have hsel:exec orc T n (if t=true then x else y) Γ s=some (outs,r):=by
     rw[hb]at hx
     cases t<;>simpa using hx
    have hi1:=ih _ Γ s outs r hsel
    refine⟨hi1.1,fun nt c hc fr dn ds g h2 φ0 a w hr st=>?_⟩
    cases c<;>simp only[gV,ak,aw,ek,reduceCtorEq,and_false,exists_false,RC.cond.injEq]at hc
    ·rcases F0 hc with h | ⟨_,_,h⟩<;>simp at h
    ·obtain⟨c',hc',x',hx',y',hy',rfl,rfl,rfl⟩:=hc
     have hv:=(fun(st:StR ds w0 nt g h2 φ0 (look Γ) s a w)=>let ⟨φ,_,he,_⟩:=st;NW (aX he hc') hb) st
     refine⟨wpIn_cond_split hv (fun ht=>?_) (fun ht=>?_),fun b h=>by simp at h⟩
     ·subst ht
      exact(hi1.2 nt _ (by simpa using hx') fr dn ds g h2 φ0 a w hr st).1
     ·subst ht
      exact(hi1.2 nt _ (by simpa using hy') fr dn ds g h2 φ0 a w hr st).1
  | block id b =>
   obtain⟨l,r0,hl,hr0,hmem⟩:=vJ hx
   have hi1:=ih b Γ s l r0 hl
   refine⟨fun g hi=>?_,fun nt c hc fr dn ds g h2 φ0 a w hr st=>?_⟩
   ·refine sK (C:=fun p=>Inv g p.2.2) hx fun l' r' hl' b' hb zs q hz z hzm=>?_
    have h1:=(ih b Γ s l' r' hl').1 g hi b' hb
    split at hz
    ·rename_i id' _
     cases hbq:Nat.beq id' id with
     | true=>rw[hbq]at hz;cases hz;rw[fw.1 hzm];exact h1
     | false=>rw[hbq]at hz;cases hz;rw[fw.1 hzm];exact h1
    ·cases hz;rw[fw.1 hzm];exact h1
   ·cases c<;>simp only[gV,ak,aw,ek,reduceCtorEq,and_false,exists_false,RC.block.injEq]at hc
    ·rcases F0 hc with h | ⟨_,_,h⟩<;>simp at h
    ·rename_i id0 cb
     obtain⟨b',hb',hid,hbe⟩:=hc
     subst hbe
     rw[hid]
     refine⟨wpIn_block (wpIn_mono (hi1.2 nt _ hb' fr dn ds g h2 φ0 a w (fun n hn=>hr n (hr0 n hn)) st).1 fun e a' w' hq=>?_),fun b h=>by simp at h⟩
     obtain⟨p,hp,hxm,st'⟩:=hq
     obtain⟨zs,q,hz,hzs,hq⟩:=hmem p hp
     cases e with
     | normal =>
      have hz:one p=some (zs,q):=by revert hz hxm;cases p.1<;>first | exact fun h _=>h | simp[XM]
      cases hz
      exact⟨p,hzs p (fw.2 rfl),hxm,st'⟩
     | ret =>
      have hz:one p=some (zs,q):=by revert hz hxm;cases p.1<;>first | exact fun h _=>h | simp[XM]
      cases hz
      exact⟨p,hzs p (fw.2 rfl),hxm,st'⟩
     | exit id' =>
      have hpe:p.1 = .exit id':=by revert hxm;cases p.1<;>simp[XM];exact fun h=>h.symm
      rw[hpe]at hz
      simp only[Exit.inBlock]
      by_cases e:id'=id
      ·subst e
       have hz:one (Ex.normal,p.2.1,p.2.2)=some (zs,q):=by simpa using hz
       cases hz
       rw[if_pos rfl]
       exact⟨_,hzs _ (fw.2 rfl),trivial,st'⟩
      ·have hbq:Nat.beq id' id=false:=by
        cases h:Nat.beq id' id with
        | false=>rfl
        | true=>exact absurd (oz h) e
       simp only[hbq,cond_false]at hz
       cases hz
       rw[if_neg e]
       exact⟨_,hzs _ (fw.2 rfl),by rw[hpe];rfl,st'⟩
     | goto _=>exact hxm.elim
     | panic _=>exact hxm.elim
     | outgrown=>exact hxm.elim
  | loop b =>
   obtain⟨l,r0,hl,hr0,hmem⟩:=vJ hx
   have hi1:=ih b Γ s l r0 hl
   refine⟨fun g hi=>?_,fun nt c hc fr dn ds g h2 φ0 a w hr st=>?_⟩
   ·refine sK (C:=fun p=>Inv g p.2.2) hx fun l' r' hl' b' hb zs q hz z hzm=>?_
    have h1:=(ih b Γ s l' r' hl').1 g hi b' hb
    split at hz
    ·exact(ih (.loop b) _ _ zs q hz).1 g h1 z hzm
    ·cases hz;rw[fw.1 hzm];exact h1
   ·have hc':=hc
    cases c<;>simp only[gV,ak,aw,ek,reduceCtorEq,and_false,exists_false,RC.loop.injEq]at hc
    ·rcases F0 hc with h | ⟨_,_,h⟩<;>simp at h
    ·rename_i cb
     obtain⟨b',hb',hbe⟩:=hc
     have hbe:=hbe.symm
     subst hbe
     have key:Code.roundsIn (FW fr) dn P cb (fun e a' w'=>∃p∈outs,XM e p.1∧StR ds w0 nt g h2 φ0 (look p.2.1) p.2.2 a' w') (n+1) a w:=by
      rw[roundsIn_succ]
      refine wpIn_mono (hi1.2 nt _ hb' fr dn ds g h2 φ0 a w (fun n hn=>hr n (hr0 n hn)) st).1 fun e a' w' hq=>?_
      obtain⟨p,hp,hxm,st'⟩:=hq
      obtain⟨zs,q,hz,hzs,hq⟩:=hmem p hp
      cases e with
      | normal =>
       have hpe:p.1 = .normal:=by revert hxm;cases p.1<;>simp[XM]
       rw[hpe]at hz
       exact P5 (fun e2 a2 w2 ⟨p2,hp2,hx2,st2⟩=>⟨p2,hzs p2 hp2,hx2,st2⟩) n a' w' (((ih (.loop b) p.2.1 p.2.2 zs q hz).2 nt _ hc' fr dn ds g h2 φ0 a' w' (fun n hn=>hr n (hq n hn)) st').2 cb rfl)
      | exit id =>
       have hz:one p=some (zs,q):=by revert hz hxm;cases p.1<;>first | exact fun h _=>h | simp[XM]
       cases hz
       exact⟨p,hzs p (fw.2 rfl),hxm,st'⟩
      | ret =>
       have hz:one p=some (zs,q):=by revert hz hxm;cases p.1<;>first | exact fun h _=>h | simp[XM]
       cases hz
       exact⟨p,hzs p (fw.2 rfl),hxm,st'⟩
      | goto _=>exact hxm.elim
      | panic _=>exact hxm.elim
      | outgrown=>exact hxm.elim
     exact⟨wpIn_loop_rounds (n+1) key,fun b'' h=>by cases h;exact key⟩
end
end Go.RM
namespace Go.RM
open Go.VM (Pt Fr T RepT RepC Fun noHeap n6 xq mK Oid Lies)
def toX:Go.VM.C→Option X
 | .imm t=>some (imX t)
 | .nilS=>some (.sc cW)
 | .nilM=>some (.sc (.map none))
 | _=>none
def toV:Go.VM.V→Option V
 | .c x=>(toX x).map .c
 | .agg cs=>(cs.mapM toX).map .agg
 | _=>none
theorem atK{w:World}{ok:Nat→Prop}{B:Oid→Value}{φ:Ren}(hw:φ.w0=w)(hk:φ.ok=ok){v:Value}{c:Go.VM.C}{x:X}(h:RepC w ok B v c)(hx:toX c=some x):RepX φ v x:=by
 subst hw;subst hk
 cases h<;>simp only[toX,ek,reduceCtorEq]at hx
 ·subst hx;exact arW ‹_›
 ·subst hx;exact .sc _ rfl
 ·subst hx;exact .sc _ rfl
theorem aiQ{w:World}{ok:Nat→Prop}{B:Oid→Value}{φ:Ren}(hw:φ.w0=w)(hk:φ.ok=ok):∀(vs:List Value) (cs:List Go.VM.C) (xs:List X),Pt (RepC w ok B) vs cs→cs.mapM toX=some xs→Pt (RepX φ) vs xs
 | [],cs,xs,hp,hx=>by
  have:cs=[]:=fk (by have:=hp.1;simpa using this.symm)
  subst this
  simp at hx;subst hx;exact Go.VM.Pt.nil
 | v::vs,cs,xs,hp,hx=>by
  cases cs with
  | nil=>have:=hp.1;simp at this
  | cons c cs =>
   simp only[List.mapM_cons,Option.bind_eq_bind,Option.pure_def]at hx
   cases h1:toX c with
   | none=>simp[h1]at hx
   | some x =>
    cases h2:cs.mapM toX with
    | none=>simp[h1,h2]at hx
    | some r =>
     simp[h1,h2]at hx
     subst hx
     have ht:Pt (RepC w ok B) vs cs:=⟨by have:=hp.1;simpa using this,fun j u z hu hz=>hp.2 (j+1) u z (by simpa using hu) (by simpa using hz)⟩
     exact Go.VM.Pt.cons (atK hw hk (hp.2 0 v c rfl rfl) h1) (aiQ hw hk vs cs r ht h2)
theorem aNJ{w:World}{ok:Nat→Prop}{B:Oid→Value}{φ:Ren}(hw:φ.w0=w)(hk:φ.ok=ok){v:Value}{c:Go.VM.V}{x:V}(h:Go.VM.RepV w ok B v c)(hx:toV c=some x):RepV φ v x:=by
 cases c with
 | c y =>
  simp only[toV,aw]at hx
  obtain⟨z,hz,rfl⟩:=hx
  exact atK (B:=B) hw hk h hz
 | agg cs =>
  simp only[toV,aw]at hx
  obtain⟨z,hz,rfl⟩:=hx
  obtain⟨us,rfl,hp⟩:=h
  exact⟨us,rfl,aiQ hw hk _ _ _ hp hz⟩
 | tup _=>simp[toV]at hx
 | junk=>simp[toV]at hx
theorem afx{w:World}{ok:Nat→Prop}{B:Oid→Value}{φ:Ren}(hw:φ.w0=w)(hk:φ.ok=ok):∀(vs:List Value) (cs:List Go.VM.V) (xs:List V),Pt (Go.VM.RepV w ok B) vs cs→cs.mapM toV=some xs→Pt (RepV φ) vs xs
 | [],cs,xs,hp,hx=>by
  have:cs=[]:=fk (by have:=hp.1;simpa using this.symm)
  subst this
  simp at hx;subst hx;exact Go.VM.Pt.nil
 | v::vs,cs,xs,hp,hx=>by
  cases cs with
  | nil=>have:=hp.1;simp at this
  | cons c cs =>
   simp only[List.mapM_cons,Option.bind_eq_bind,Option.pure_def]at hx
   cases h1:toV c with
   | none=>simp[h1]at hx
   | some x =>
    cases h2:cs.mapM toV with
    | none=>simp[h1,h2]at hx
    | some r =>
     simp[h1,h2]at hx
     subst hx
     have ht:Pt (Go.VM.RepV w ok B) vs cs:=⟨by have:=hp.1;simpa using this,fun j u z hu hz=>hp.2 (j+1) u z (by simpa using hu) (by simpa using hz)⟩
     exact Go.VM.Pt.cons (aNJ hw hk (hp.2 0 v c rfl rfl) h1) (afx hw hk vs cs r ht h2)
inductive TreeX(h:Hp)(fresh:Bool):X→T→Prop
 | sc (v:Value):TreeX h fresh (.sc v) (.sc v)
 | nil (k:Nat):TreeX h fresh (.sc cW) (.sl k [])
 | es (k:Nat):TreeX h fresh .es (.sl k [])
 | ez (k:Nat):TreeX h fresh .ez (.sl k [])
 | im (k:Nat) (rows:List (List T)):fresh=false→TreeX h fresh (.im k rows) (.sl k rows)
 | im0 (k k':Nat):TreeX h fresh (.im k []) (.sl k' [])
 | sl0 (n k off k':Nat):TreeX h fresh (.sl n k off 0) (.sl k' [])
 | sl (n k off:Nat) (rows:List (List T)) (e:TypeId) (cs xs:List X):h n=some (.cells e cs)→cut cs off (rows.length*k)=some xs→(∀row∈rows,row.length=k)→xs.length=rows.flatten.length →
   (∀(j:Nat) x t,xs[j]? = some x→rows.flatten[j]? = some t→TreeX h fresh x t)→TreeX h fresh (.sl n k off rows.length) (.sl k rows)
def TreeS(h:Hp)(fresh:Bool):V→Go.VM.V→Prop
 | .c x,.c (.imm t)=>TreeX h fresh x t
 | .agg xs,.agg cs=>Pt (fun x c=>∃t,c = .imm t∧TreeX h fresh x t) xs cs
 | _,_=>False
def TreeV(h:Hp)(fresh:Bool):V→Go.VM.V→Prop
 | .tup xs,.tup ys=>Pt (TreeS h fresh) xs ys
 | x,y=>TreeS h fresh x y
section
variable {w0 w:World} {φ:Ren} {h:Hp} {fresh:Bool} {B:Oid→Value}
theorem Z4(R:Rel w0 φ h w){v:Value}{x:X}{t:T}(hx:RepX φ v x)(ht:TreeX h fresh x t):RepT w (xq fresh w0.heap.size φ.ok w B noHeap) v t:=by
 induction ht generalizing v with
 | sc u => cases hx with | sc _ h => exact .sc _ h
 | nil k=>cases hx;exact .nil _ _ _
 | es k=>cases hx;exact .nil _ _ _
 | ez k=>cases hx;exact .nil _ _ _
 | im k rows hf =>
  cases hx with
  | im _ _ _ hrt =>
   rw[R.w0e]at hrt
   exact hrt.mono (fun b hb=>R.fr.block b (R.okl b hb) id) fun b hb=>⟨⟨Nat.lt_of_lt_of_le (R.okl b hb) R.fr.size,fun _=>hb,fun o ob ho=>by simp[noHeap]at ho⟩,fun h=>by rw[hf]at h;simp at h⟩
 | im0 k k' =>
  rcases I7 (φ := φ) hx with⟨_,a,cap,rfl⟩ | ⟨b,off,cap,rfl,_⟩
  ·exact .nil _ _ _
  ·exact .nil _ _ _
 | sl0 n k off k' =>
  cases hx with
  | sl=>exact .nil _ _ _
 | sl n k off rows e cs xs hn hcut hk hl _ ih =>
  cases hx with
  | sl _ _ _ _ b β lim o cap hφ hlen ho hlim =>
   by_cases h0:rows=[]
   ·subst h0;exact .nil _ _ _
   ·have hpos:0<rows.length:=List.length_pos_iff.2 h0
    have ho:=ho hpos
    subst ho
    obtain⟨vs,hvl,hlie,hp⟩:=I0 (R.rep n _ hn) hφ hcut
    have hb:w0.heap.size≤b:=R.old n _ b hn rfl ⟨_,_,hφ⟩
    have bY:∀(i:Nat) row (j:Nat) x,rows[i]? = some row→row[j]? = some x→rows.flatten[i*k+j]? = some x:=by
     intro i row j x hi hj
     have hrl:=hk row (nw hi)
     have hjl:j<k:=by rw[←hrl];exact(bw.1 hj).1
     have hf:=Go.VM.flatten_get rows i row hk hi
     have:((rows.flatten.drop (i*k)).take k)[j]? = some x:=by rw[hf];exact hj
     simpa[zw,hjl,List.getElem?_drop]using this
    have hval:∀(i:Nat) row (j:Nat) x,rows[i]? = some row→row[j]? = some x→∃u,vs[i*k+j]? = some u∧RepT w (xq fresh w0.heap.size φ.ok w B noHeap) u x:=by
     intro i row j x hi hj
     have hx:=bY i row j x hi hj
     have hlt:i*k+j<xs.length:=by rw[hl];exact(bw.1 hx).1
     have hlt':i*k+j<vs.length:=by rw[hp.1];exact hlt
     exact⟨vs[i*k+j],cw hlt',ih _ _ _ (cw hlt) hx (hp.2 _ _ _ (cw hlt') (cw hlt))⟩
    refine .sl b (β+off) cap k rows (fun i j=>vs.getD (i*k+j) undef) ⟨⟨R.lt n b ⟨_,_,hφ⟩,fun hlt=>by omega,fun o ob ho=>by simp[noHeap]at ho⟩,fun _=>hb⟩ hlen hk ?_ ?_
    ·intro i row j x hi hj
     obtain⟨u,hu,_⟩:=hval i row j x hi hj
     have:=hlie _ u hu
     simp only[List.getD,hu,Option.getD_some]
     rw[Nat.add_assoc];exact this
    ·intro i row j x hi hj
     obtain⟨u,hu,hr⟩:=hval i row j x hi hj
     simp only[List.getD,hu,Option.getD_some]
     exact hr
theorem P0(R:Rel w0 φ h w){v:Value}{x:V}{y:Go.VM.V}(hx:RepS φ v x)(ht:TreeS h fresh x y):Go.VM.RepS w (xq fresh w0.heap.size φ.ok w B noHeap) B v y:=by
 unfold TreeS at ht
 split at ht
 ·exact RepC.imm _ _ (Z4 R hx ht)
 ·obtain⟨cs,rfl,hp⟩:=hx
  refine⟨cs,rfl,hp.1.trans ht.1,fun j u c hu hc=>?_⟩
  have hlt:j<cs.toList.length:=(bw.1 hu).1
  have hlt':j<_:=hp.1▸hlt
  obtain⟨t,rfl,hx⟩:=ht.2 j _ c (cw hlt') hc
  exact RepC.imm _ _ (Z4 R (hp.2 j u _ hu (cw hlt')) hx)
 ·exact ht.elim
theorem auJ(R:Rel w0 φ h w){v:Value}{x:V}{y:Go.VM.V}(hx:RepV φ v x)(ht:TreeV h fresh x y):Go.VM.RepV w (xq fresh w0.heap.size φ.ok w B noHeap) B v y:=by
 unfold TreeV at ht
 split at ht
 ·obtain⟨vs,rfl,hp⟩:=hx
  refine⟨vs,rfl,hp.1.trans ht.1,fun j u c hu hc=>?_⟩
  have hlt:j<vs.toList.length:=(bw.1 hu).1
  have hlt':j<_:=hp.1▸hlt
  exact P0 R (hp.2 j u _ hu (cw hlt')) (ht.2 j _ c (cw hlt') hc)
 ·cases x with
  | c _ =>
   cases y with
   | c _=>exact P0 R (x:=.c _) (y:=.c _) hx ht
   | _=>simp[TreeS]at ht
  | agg _ =>
   cases y with
   | agg _=>exact P0 R (x:=.agg _) (y:=.agg _) hx ht
   | _=>simp[TreeS]at ht
  | tup _=>simp[TreeS]at ht
  | junk=>simp[TreeS]at ht
end
def F8:List (Nat×RF)→Tr RF
 | []=>.lf
 | p::r=>(F8 r).set p.1 p.2
theorem P6:∀ {l:List (Nat×RF)} {f:Nat} {rf:RF},(F8 l).get f=some rf→(f,rf)∈l
 | [],f,rf,h=>by simp[F8,Tr.get]at h
 | p::l,f,rf,h=>by
  simp only[F8,Tr.get_set]at h
  by_cases e:f=p.1
  ·rw[if_pos e]at h
   cases h
   rw[e];exact zk
  ·rw[if_neg e]at h
   exact Aw _ (P6 h)
def oV(P:Program)(f:FuncId):Bool:=match P.funcs[f]? with
 | some fn => !(fn.name == "runtime.NumGoroutine")
 | none=>false
theorem aGj{P:Program}{l:List (Nat×RF)}(h:∀p∈l,FQ P p.1=some p.2∧oV P p.1=true):TOk P (F8 l):=by
 intro f rf hf
 obtain⟨h1,h2⟩:=h _ (P6 hf)
 simp only[FQ,ak,aw]at h1
 obtain⟨fn,hfn,c,hc,rc,hrc,rs,hrs,rfl⟩:=h1
 refine⟨fn,c,hfn,hc,hrc,hrs,?_⟩
 simp only[oV,hfn,Cw]at h2
 exact h2
def aVJ(P:Program)(l:List Nat):Tr RF:=F8 (l.filterMap fun f=>(FQ P f).map fun r=>(f,r))
theorem aJQ{P:Program}{l:List Nat}(h:(l.all fun f=>oV P f)=true):TOk P (aVJ P l):=aGj fun p hp=>by
 obtain⟨f,hf,h1⟩:=List.mem_filterMap.1 hp
 obtain⟨r,h2,rfl⟩:=aw.1 h1
 refine⟨h2,?_⟩
 exact List.all_eq_true.1 h f hf
def s0:S:=⟨.lf,0,0⟩
def ajW:cK:=fun _ _ _=>none
theorem aeK(P:Program)(w0:World):A5 P w0 ajW:=fun _ _ _ _ _ h=>by simp[ajW]at h
theorem YV:sW ajW:=fun _ _ _ _ _ h=>by simp[ajW]at h
theorem U0{P:Program}{orc:cK}{T:Tr RF}(hT:TOk P T)(ho:∀w0,A5 P w0 orc)(hoi:sW orc){f:FuncId}{vs:List Go.VM.V}{us:List V}(hus:vs.mapM toV=some us){fresh:Bool}{r:Go.VM.V}
  {n:Nat} {outs:List (V×S)} {rr:Nat} (hx:jZ orc T n f us s0=some (outs,rr)) (hr:∀p∈outs,TreeV p.2.h.get fresh p.1 r):Fun P f fresh [] vs noHeap r noHeap:=by
 intro w ok B args hlt hbl hp hobjs
 obtain⟨hcall,hinv⟩:=MW hT (ho w) hoi (aqW hT (ho w) hoi n)
 let φ:Ren:=⟨fun _=>none,w,ok,fun _=>none⟩
 have R:Rel w φ (eK (fun _=>none) s0) w:=by
  have hn:∀m,eK (fun _=>none) s0 m=none:=fun m=>by simp[eK,s0]
  exact⟨fun m o h=>by rw[hn]at h;simp at h,fun m _ o _ _ h=>by rw[hn]at h;simp at h,fun m o _ h=>by rw[hn]at h;simp at h,fun m _ _ _ h=>by rw[hn]at h;simp at h,fun _ _=>rfl,fun m b ⟨_,_,h⟩=>by simp[φ]at h,Fr.refl _ _,rfl,hlt,fun D o h=>by simp[φ]at h⟩
 refine((hcall f us s0 outs rr hx).2 (fun _=>none) (fun _=>none) φ w args (fun _ _=>rfl) (fun m _=>rfl) R (afx rfl rfl _ _ _ hp hus)).mono fun e w' hh=>?_
 obtain⟨v,rfl,p,hpm,φ',hle,R',hrep⟩:=hh
 have hov:eK (fun _=>none) p.2=p.2.h.get:=by
  funext m
  unfold eK
  cases hb:p.2.w.testBit m with
  | true=>rfl
  | false=>exact(hinv f us s0 outs rr hx (fun _=>none) (fun _ _=>rfl) p hpm m hb).symm
 rw[hov]at R'
 have hok:φ'.ok=ok:=hle.ok
 refine⟨v,B,rfl,⟨R'.fr.os,R'.fr.tape,R'.fr.output,R'.fr.size,fun b hb _=>R'.fr.block b hb id⟩,?_,⟨fun o ob h=>by simp[noHeap]at h,fun o o' ob ob' b h=>by simp[noHeap]at h⟩,fun o ob b h=>by simp[noHeap]at h,fun o h=>by simp at h⟩
 have:=auJ (B:=B) (fresh:=fresh) R' hrep (hr p hpm)
 rw[hok]at this
 exact this
def aLz:List (V×S)→Bool
 | []=>true
 | p::r=>match p.1 with
  | .c (.sc (.bool true))=>aLz r
  | _=>false
theorem afJ:∀ {l:List (V×S)},aLz l=true→∀p∈l,p.1 = .c (.sc (.bool true))
 | [],_,p,h=>by simp at h
 | q::r,h,p,hp=>by
  simp only[aLz]at h
  split at h
  ·rename_i hq
   rcases List.mem_cons.1 hp with rfl | hp
   ·exact hq
   ·exact afJ h p hp
  ·simp at h
def isT:Out (V×S)→Bool
 | some (l,_)=>aLz l
 | none=>false
theorem aGQ{P:Program}{T:Tr RF}(hT:TOk P T){f:FuncId}(fresh:Bool)(n:Nat)(h:isT (jZ ajW T n f [] s0)=true):Fun P f fresh [] [] noHeap (.c (.imm (.sc (.bool true)))) noHeap:=by
 unfold isT at h
 split at h
 ·rename_i heq
  exact U0 hT (fun w0=>aeK P w0) YV (vs:=[]) (us:=[]) rfl heq fun p hp=>by
   rw[afJ h p hp]
   exact TreeX.sc _
 ·simp at h
end Go.RM
namespace Go.RM
def Up{α:Type}(f f':Option α):Prop:=∀x,f=some x→f'=some x
theorem Up.refl{α:Type}(f:Option α):Up f f:=fun _ h=>h
theorem Up.trans{α:Type}{f f' f'':Option α}(h:Up f f')(h':Up f' f''):Up f f'':=fun x hx=>h' x (h x hx)
theorem Oj{α β:Type}{f f':α→Out β}:∀(l:List α) (r:Nat),(∀a∈l,Up (f a) (f' a))→Up (wV f l r) (wV f' l r)
 | [],r,_=>fun x h=>h
 | a::l,r,h=>fun x hx=>by
  simp only[wV]at hx ⊢
  split at hx
  ·simp at hx
  ·rename_i ys r1 hf
   rw[h a zk _ hf]
   split at hx
   ·simp at hx
   ·rename_i zs r2 he
    rw[Oj l _ (fun b hb=>h b (Aw _ hb)) _ he]
    exact hx
theorem tJ{α β:Type}{x x':Out α}{f f':α→Out β}(hx:Up x x')(h:∀a,Up (f a) (f' a)):Up (o8 x f) (o8 x' f'):=by
 intro y hy
 unfold o8 at hy ⊢
 split at hy
 ·simp at hy
 ·rename_i l r
  rw[hx _ rfl]
  exact Oj l r (fun a _=>h a) y hy
def PZ(call call':cK):Prop:=∀f args s,Up (call f args s) (call' f args s)
theorem aFK{call call':cK}(h:PZ call call')(e:Opd→V)(s:S)(ro:RO):Up (opX call e s ro) (opX call' e s ro):=by
 intro x hx
 cases ro
 case call f args=>exact h _ _ _ x hx
 case callv y args =>
  simp only[opX]at hx ⊢
  split at hx
  ·exact h _ _ _ x hx
  ·simp at hx
 all_goals exact hx
theorem H8{call call':cK}(h:PZ call call')(o:ROp)(Γ:Tr V)(s:S):Up (oY call o Γ s) (oY call' o Γ s):=by
 intro x hx
 unfold oY at hx ⊢
 split at hx
 ·simp at hx
 ·exact hx
 ·exact tJ (aFK h _ _ _) (fun a=>Up.refl _) x hx
theorem N6{call call':cK}(h:PZ call call'):∀(os:List (ROp×Nat)) (Γ:Tr V) (s:S),Up (J7 call os Γ s) (J7 call' os Γ s)
 | [],_,_=>Up.refl _
 | o::os,Γ,s=>by
  intro x hx
  simp only[J7]at hx ⊢
  exact tJ (H8 h _ _ _) (fun a=>N6 h os a.1 a.2) x hx
theorem Mj{call call':cK}(h:PZ call call'):∀(os:List (ROp×Nat)) (tab:List Nat) (i:Nat) (ds:List Did) (Γ:Tr V) (s:S) (r:Nat),Up (wY call os tab i ds Γ s r) (wY call' os tab i ds Γ s r)
 | [],_,_,_,_,_,_=>Up.refl _
 | o::os,[],i,ds,Γ,s,r=>by intro x hx;simp[wY]at hx
 | o::os,b::tab,i,ds,Γ,s,r=>by
  intro x hx
  simp only[wY]at hx ⊢
  split at hx
  ·rename_i Γ' s' r' hst
   rw[H8 h _ _ _ _ hst]
   simp only
   cases hall:ds.all (fun x=>DY b x ⟨i,o.2,qY o.1.dst,r',s'.w⟩)with
   | false=>simp[hall]at hx
   | true =>
    simp only[hall,cond_true]at hx ⊢
    exact Mj h os tab _ _ _ _ _ x hx
  ·simp at hx
theorem x8(orc:cK)(T:Tr RF):∀(n:Nat) (c:RC) (Γ:Tr V) (s:S),Up (exec orc T n c Γ s) (exec orc T (n+1) c Γ s)
 | 0,_,_,_=>fun x h=>by simp[exec]at h
 | n+1,c,Γ,s=>by
  have hc:PZ (jZ orc T n) (jZ orc T (n+1)):=by
   intro f args s x hx
   unfold jZ at hx ⊢
   split at hx
   ·exact hx
   ·exact tJ (x8 orc T n _ _ _) (fun a=>Up.refl _) x hx
  intro x hx
  rw[vX]at hx ⊢
  cases c with
  | skip=>exact hx
  | ret=>exact hx
  | exit _=>exact hx
  | bad=>exact hx
  | region d ops =>
   cases d with
   | none=>exact tJ (N6 hc _ _ _) (fun a=>Up.refl _) x hx
   | some tab=>exact tJ (Mj hc _ _ _ _ _ _ _) (fun a=>Up.refl _) x hx
  | seq a b =>
   refine tJ (x8 orc T n a Γ s) (fun p=>?_) x hx
   intro y hy
   split at hy
   ·exact x8 orc T n b _ _ y hy
   ·exact hy
  | cond q a b =>
   simp only at hx ⊢
   split at hx
   ·simp at hx
   ·rename_i hb
    exact x8 orc T n a _ _ x hx
   ·rename_i hb
    exact x8 orc T n b _ _ x hx
  | block id b=>exact tJ (x8 orc T n b Γ s) (fun a=>Up.refl _) x hx
  | loop b =>
   refine tJ (x8 orc T n b Γ s) (fun p=>?_) x hx
   intro y hy
   split at hy
   ·exact x8 orc T n (.loop b) _ _ y hy
   ·exact hy
theorem uQ(orc:cK)(T:Tr RF)(n:Nat):PZ (jZ orc T n) (jZ orc T (n+1)):=by
 intro f args s x hx
 unfold jZ at hx ⊢
 split at hx
 ·exact hx
 ·exact tJ (x8 orc T n _ _ _) (fun a=>Up.refl _) x hx
def Mono{α:Type}(g:Nat→Out α):Prop:=∀n,Up (g n) (g (n+1))
theorem Mono.le{α:Type}{g:Nat→Out α}(h:Mono g){n m:Nat}(hnm:n≤m):Up (g n) (g m):=by
 obtain⟨d,rfl⟩:=Nat.le.dest hnm
 clear hnm
 induction d with
 | zero=>exact Up.refl _
 | succ d ih=>exact ih.trans (h (n+d))
theorem Mono.exec(orc:cK)(T:Tr RF)(c:RC)(Γ:Tr V)(s:S):Mono fun n=>exec orc T n c Γ s:=fun n=>x8 orc T n c Γ s
theorem Mono.call(orc:cK)(T:Tr RF)(f:FuncId)(args:List V)(s:S):Mono fun n=>jZ orc T n f args s:=fun n=>uQ orc T n f args s
theorem Mono.const{α:Type}(x:Out α):Mono fun _=>x:=fun _=>Up.refl _
theorem Mono.bind{α β:Type}{g:Nat→Out α}{f:Nat→α→Out β}(h:Mono g)(h':∀a,Mono fun n=>f n a):Mono fun n=>o8 (g n) (f n):=fun n=>tJ (h n) fun a=>h' a n
def Ev{α:Type}(g:Nat→Out α)(F:Nat→Prop)(D:Prop)(Q:α→Prop):Prop :=
 ∃n outs r,g n=some (outs,r)∧(∀p∈outs,Q p)∧(∀k,r.testBit k=true→F k)∧(D→∃p,outs=[p])
theorem Ev.mono{α:Type}{g:Nat→Out α}{F F':Nat→Prop}{D D':Prop}{Q Q':α→Prop}(h:Ev g F D Q)(hF:∀k,F k→F' k)(hD:D'→D)(hQ:∀p,Q p→Q' p):Ev g F' D' Q':=by
 obtain⟨n,outs,r,h1,h2,h3,h4⟩:=h
 exact⟨n,outs,r,h1,fun p hp=>hQ p (h2 p hp),fun k hk=>hF k (h3 k hk),fun d=>h4 (hD d)⟩
theorem Ev.congr{α:Type}{g g':Nat→Out α}{F:Nat→Prop}{D:Prop}{Q:α→Prop}(h:Ev g F D Q)(e:∀n,g' n=g n):Ev g' F D Q:=by
 obtain⟨n,outs,r,h1,h2⟩:=h
 exact⟨n,outs,r,(e n).trans h1,h2⟩
theorem Ev.shift{α:Type}{g:Nat→Out α}{F:Nat→Prop}{D:Prop}{Q:α→Prop}(h:Ev (fun n=>g (n+1)) F D Q):Ev g F D Q:=by
 obtain⟨n,outs,r,h1,h2⟩:=h
 exact⟨n+1,outs,r,h1,h2⟩
theorem Ev.one{α:Type}{x:α}{F:Nat→Prop}{D:Prop}{Q:α→Prop}(h:Q x):Ev (fun _=>one x) F D Q :=
 ⟨0,[x],0,rfl,fun p hp=>by rw[fw.1 hp];exact h,fun k hk=>by simp at hk,fun _=>⟨x,rfl⟩⟩
theorem Ev.some{α:Type}{x:α}{r:Nat}{F:Nat→Prop}{D:Prop}{Q:α→Prop}(h:Q x)(hr:∀k,r.testBit k=true→F k):Ev (fun _=>some ([x],r)) F D Q :=
 ⟨0,[x],r,rfl,fun p hp=>by rw[fw.1 hp];exact h,hr,fun _=>⟨x,rfl⟩⟩
theorem ahK{α β:Type}{f:Nat→α→Out β}(hm:∀a,Mono fun n=>f n a){F:Nat→Prop}{D:Prop}{Q:β→Prop}:∀(l:List α) (r0:Nat),(∀k,r0.testBit k=true→F k)→(∀a∈l,Ev (fun n=>f n a) F D Q)→(D→∃p,l=[p]) →
  ∃n outs r,wV (f n) l r0=Option.some (outs,r)∧(∀p∈outs,Q p)∧(∀k,r.testBit k=true→F k)∧(D→∃p,outs=[p])
 | [],r0,h0,_,hD=>⟨0,[],r0,rfl,by simp,h0,fun d=>by obtain⟨p,hp⟩:=hD d;simp at hp⟩
 | a::l,r0,h0,h,hD=>by
  obtain⟨n1,o1,r1,e1,q1,f1,d1⟩:=h a zk
  have hD':D→l=[]:=fun d=>by obtain⟨p,hp⟩:=hD d;cases hp;rfl
  have h1:∀k,(Nat.lor r0 r1).testBit k=true→F k:=fun k hk=>by
   rw[ij,Bw]at hk
   exact hk.elim (h0 k) (f1 k)
  by_cases hl:l=[]
  ·subst hl
   refine⟨n1,o1,Nat.lor r0 r1,?_,q1,h1,d1⟩
   simp[wV,e1]
  ·obtain⟨n2,o2,r2,e2,q2,f2,_⟩:=ahK (D:=False) hm l (Nat.lor r0 r1) h1 (fun b hb=>(h b (Aw _ hb)).mono (fun _ h=>h) (fun h=>h.elim) (fun _ h=>h)) (fun h=>h.elim)
   refine⟨max n1 n2,o1++o2,r2,?_,fun p hp=>(ow.1 hp).elim (q1 p) (q2 p),f2,fun d=>absurd (hD' d) hl⟩
   simp only[wV]
   rw[(hm a).le (Nat.le_max_left n1 n2) _ e1]
   simp only
   have:Up (wV (f n2) l (Nat.lor r0 r1)) (wV (f (max n1 n2)) l (Nat.lor r0 r1)):=Oj l _ fun b _=>(hm b).le (Nat.le_max_right n1 n2)
   rw[this _ e2]
theorem Ev.bind{α β:Type}{g:Nat→Out α}{f:Nat→α→Out β}(hg:Mono g)(hm:∀a,Mono fun n=>f n a){F:Nat→Prop}{D:Prop}{Q:β→Prop}(h:Ev g F D fun a=>Ev (fun n=>f n a) F D Q):Ev (fun n=>o8 (g n) (f n)) F D Q:=by
 obtain⟨n1,l,r0,e1,q1,f1,d1⟩:=h
 obtain⟨n2,outs,r,e2,q2,f2,d2⟩:=ahK hm l r0 f1 q1 d1
 refine⟨max n1 n2,outs,r,?_,q2,f2,d2⟩
 show o8 (g (max n1 n2)) (f (max n1 n2))=_
 rw[hg.le (Nat.le_max_left n1 n2) _ e1]
 simp only[o8]
 have:Up (wV (f n2) l r0) (wV (f (max n1 n2)) l r0):=Oj l _ fun b _=>(hm b).le (Nat.le_max_right n1 n2)
 exact this _ e2
section
variable (orc:cK) (T:Tr RF)
def Wp(c:RC)(Γ:Tr V)(s:S)(F:Nat→Prop)(D:Prop)(Q:Ex→Tr V→S→Prop):Prop:=Ev (fun n=>exec orc T n c Γ s) F D fun p=>Q p.1 p.2.1 p.2.2
def Cp(f:FuncId)(args:List V)(s:S)(F:Nat→Prop)(D:Prop)(Q:V→S→Prop):Prop:=Ev (fun n=>jZ orc T n f args s) F D fun p=>Q p.1 p.2
def Op(ro:RO)(e:Opd→V)(s:S)(F:Nat→Prop)(D:Prop)(Q:V→S→Prop):Prop:=Ev (fun n=>opX (jZ orc T n) e s ro) F D fun p=>Q p.1 p.2
def Sq(os:List (ROp×Nat))(Γ:Tr V)(s:S)(F:Nat→Prop)(D:Prop)(Q:Tr V→S→Prop):Prop:=Ev (fun n=>J7 (jZ orc T n) os Γ s) F D fun p=>Q p.1 p.2
end
section
variable {orc:cK} {T:Tr RF} {Γ:Tr V} {s:S} {F:Nat→Prop} {D:Prop} {Q:Ex→Tr V→S→Prop}
theorem Wp.mono{c:RC}{F':Nat→Prop}{D':Prop}{Q':Ex→Tr V→S→Prop}(h:Wp orc T c Γ s F D Q)(hF:∀k,F k→F' k)(hD:D'→D)(hQ:∀e Γ s,Q e Γ s→Q' e Γ s):Wp orc T c Γ s F' D' Q':=Ev.mono h hF hD fun p=>hQ _ _ _
theorem Cp.mono{f:FuncId}{args:List V}{F':Nat→Prop}{D':Prop}{Q Q':V→S→Prop}(h:Cp orc T f args s F D Q)(hF:∀k,F k→F' k)(hD:D'→D)(hQ:∀v s,Q v s→Q' v s):Cp orc T f args s F' D' Q':=Ev.mono h hF hD fun p=>hQ _ _
theorem eX(h:Q .normal Γ s):Wp orc T .skip Γ s F D Q:=Ev.shift (Ev.one (x:=(Ex.normal,Γ,s)) h)
theorem sx(h:Q .ret Γ s):Wp orc T .ret Γ s F D Q:=Ev.shift (Ev.one (x:=(Ex.ret,Γ,s)) h)
theorem i9{id:Nat}(h:Q (.exit id) Γ s):Wp orc T (.exit id) Γ s F D Q:=Ev.shift (Ev.one (x:=(Ex.exit id,Γ,s)) h)
def aY(k:Tr V→S→Prop)(Q:Ex→Tr V→S→Prop):Ex→Tr V→S→Prop
 | .normal,Γ,s=>k Γ s
 | e,Γ,s=>Q e Γ s
theorem aJ{a b:RC}(h:Wp orc T a Γ s F D (aY (fun Γ s=>Wp orc T b Γ s F D Q) Q)):Wp orc T (.seq a b) Γ s F D Q:=by
 refine Ev.shift (Ev.congr (Ev.bind (g:=fun n=>exec orc T n a Γ s) (f:=fun n (p:Ex×Tr V×S)=>match p.1 with
   | .normal=>exec orc T n b p.2.1 p.2.2
   | _=>one p) (Mono.exec orc T a Γ s) (fun p=>?_) (Ev.mono h (fun _ h=>h) (fun h=>h) fun p hp=>?_)) fun n=>vX orc T n (.seq a b) Γ s)
 ·obtain⟨e,Γ',s'⟩:=p
  cases e
  ·exact Mono.exec orc T b Γ' s'
  ·exact Mono.const _
  ·exact Mono.const _
 ·obtain⟨e,Γ',s'⟩:=p
  cases e
  ·exact hp
  ·exact Ev.one hp
  ·exact Ev.one hp
theorem bq{q:Opd}{a b:RC}{t:Bool}(hb:isB (ev Γ q)=some t)(h:Wp orc T (bif t then a else b) Γ s F D Q):Wp orc T (.cond q a b) Γ s F D Q:=by
 refine Ev.shift (Ev.congr h fun n=>?_)
 rw[vX]
 simp only[hb]
 cases t<;>rfl
theorem cX{id:Nat}{b:RC}(h:Wp orc T b Γ s F D fun e Γ s=>match e with
  | .exit i=>bif Nat.beq i id then Q .normal Γ s else Q (.exit i) Γ s
  | e=>Q e Γ s):Wp orc T (.block id b) Γ s F D Q:=by
 refine Ev.shift (Ev.congr (Ev.bind (g:=fun n=>exec orc T n b Γ s) (f:=fun _ (p:Ex×Tr V×S)=>match p.1 with
   | .exit id'=>bif Nat.beq id' id then one (.normal,p.2.1,p.2.2)else one p
   | _=>one p) (Mono.exec orc T b Γ s) (fun p=>Mono.const _) (Ev.mono h (fun _ h=>h) (fun h=>h) fun p hp=>?_)) fun n=>vX orc T n (.block id b) Γ s)
 obtain⟨e,Γ',s'⟩:=p
 cases e with
 | normal=>exact Ev.one hp
 | ret=>exact Ev.one hp
 | exit i =>
  simp only at hp ⊢
  cases hi:Nat.beq i id with
  | true=>rw[hi]at hp;exact Ev.one hp
  | false=>rw[hi]at hp;exact Ev.one hp
theorem Nj{b:RC}(h:Wp orc T b Γ s F D (aY (fun Γ s=>Wp orc T (.loop b) Γ s F D Q) Q)):Wp orc T (.loop b) Γ s F D Q:=by
 refine Ev.shift (Ev.congr (Ev.bind (g:=fun n=>exec orc T n b Γ s) (f:=fun n (p:Ex×Tr V×S)=>match p.1 with
   | .normal=>exec orc T n (.loop b) p.2.1 p.2.2
   | _=>one p) (Mono.exec orc T b Γ s) (fun p=>?_) (Ev.mono h (fun _ h=>h) (fun h=>h) fun p hp=>?_)) fun n=>vX orc T n (.loop b) Γ s)
 ·obtain⟨e,Γ',s'⟩:=p
  cases e
  ·exact Mono.exec orc T _ Γ' s'
  ·exact Mono.const _
  ·exact Mono.const _
 ·obtain⟨e,Γ',s'⟩:=p
  cases e
  ·exact hp
  ·exact Ev.one hp
  ·exact Ev.one hp
theorem aj{os:List (ROp×Nat)}(h:Sq orc T os Γ s F D fun Γ s=>Q .normal Γ s):Wp orc T (.region none os) Γ s F D Q:=by
 refine Ev.shift (Ev.congr (Ev.bind (g:=fun n=>J7 (jZ orc T n) os Γ s) (f:=fun _ (p:Tr V×S)=>one (Ex.normal,p.1,p.2)) (fun n=>N6 (uQ orc T n) _ _ _) (fun p=>Mono.const _) (Ev.mono h (fun _ h=>h) (fun h=>h) fun p hp=>Ev.one hp)) fun n=>vX orc T n (.region none os) Γ s)
theorem aV{Q:Tr V→S→Prop}(h:Q Γ s):Sq orc T [] Γ s F D Q:=Ev.one (x:=(Γ,s)) h
theorem RQ{o:ROp}{m:Nat}{os:List (ROp×Nat)}{Q:Tr V→S→Prop}(hw:bK Γ o.guard=some true)(h:Op orc T o.op (ev Γ) s F D fun v s'=>Sq orc T os (putO o.dst v Γ) s' F D Q):Sq orc T ((o,m)::os) Γ s F D Q:=by
 have h1:Ev (fun n=>oY (jZ orc T n) o Γ s) F D fun p=>Sq orc T os p.1 p.2 F D Q:=by
  refine Ev.congr (Ev.bind (g:=fun n=>opX (jZ orc T n) (ev Γ) s o.op) (f:=fun _ (p:V×S)=>one (putO o.dst p.1 Γ,p.2)) (fun n=>aFK (uQ orc T n) _ _ _) (fun p=>Mono.const _) (Ev.mono h (fun _ h=>h) (fun h=>h) fun p hp=>Ev.one hp)) fun n=>?_
  simp only[oY,hw]
 refine Ev.congr (Ev.bind (g:=fun n=>oY (jZ orc T n) o Γ s) (f:=fun n (p:Tr V×S)=>J7 (jZ orc T n) os p.1 p.2) (fun n=>H8 (uQ orc T n) _ _ _) (fun p n=>N6 (uQ orc T n) _ _ _) (Ev.mono h1 (fun _ h=>h) (fun h=>h) fun p hp=>hp)) fun n=>rfl
theorem AZ{o:ROp}{m:Nat}{os:List (ROp×Nat)}{Q:Tr V→S→Prop}(hw:bK Γ o.guard=some false)(h:Sq orc T os (putO o.dst B1 Γ) s F D Q):Sq orc T ((o,m)::os) Γ s F D Q:=by
 have h1:Ev (fun n=>oY (jZ orc T n) o Γ s) F D fun p=>Sq orc T os p.1 p.2 F D Q:=by
  refine Ev.congr (Ev.one (x:=(putO o.dst B1 Γ,s)) h) fun n=>?_
  simp only[oY,hw]
 refine Ev.congr (Ev.bind (g:=fun n=>oY (jZ orc T n) o Γ s) (f:=fun n (p:Tr V×S)=>J7 (jZ orc T n) os p.1 p.2) (fun n=>H8 (uQ orc T n) _ _ _) (fun p n=>N6 (uQ orc T n) _ _ _) (Ev.mono h1 (fun _ h=>h) (fun h=>h) fun p hp=>hp)) fun n=>rfl
theorem aMj{ro:RO}{e:Opd→V}{Q:V→S→Prop}{v:V}(hp:bj e ro=some v)(h:Q v s):Op orc T ro e s F D Q:=by
 have hpl:ro.plainOp=true:=by cases ro<;>first | rfl | simp[bj]at hp
 refine Ev.congr (Ev.one (x:=(v,s)) h) fun n=>?_
 rw[FY hpl,hp]
theorem aSZ{ro:RO}{e:Opd→V}{Q:V→S→Prop}{v:V}{s':S}{r:Nat}(hn:bj e ro=none)(hp:fX e s ro=some (v,s',r))(hr:∀k,r.testBit k=true→F k)(h:Q v s'):Op orc T ro e s F D Q:=by
 have hpl:ro.plainOp=true:=by cases ro<;>first | rfl | simp[fX]at hp
 refine Ev.congr (Ev.some (x:=(v,s')) h hr) fun n=>?_
 rw[FY hpl,hn,hp]
theorem aLq{f:FuncId}{as:List Opd}{e:Opd→V}{Q:V→S→Prop}(h:Cp orc T f (as.map e) s F D Q):Op orc T (.call f as) e s F D Q:=h
theorem lj{f:FuncId}{args:List V}{rf:RF}{Q:V→S→Prop}(hf:T.get f=some rf)
  (h:Wp orc T rf.code (ofL args 0 .lf) s F D fun e Γ s=>(e = .normal∨e = .ret)∧∃vs r,HJ Γ s rf.res=some (vs,r)∧(∀k,r.testBit k=true→F k)∧Q (QK vs) s):Cp orc T f args s F D Q:=by
 refine Ev.congr (Ev.bind (g:=fun n=>exec orc T n rf.code (ofL args 0 .lf) s) (f:=fun _ (p:Ex×Tr V×S)=>match p.1 with
   | .normal | .ret=>Xx rf.res p.2.1 p.2.2
   | .exit _=>none) (Mono.exec orc T _ _ _) (fun p=>Mono.const _) (Ev.mono h (fun _ h=>h) (fun h=>h) fun p hp=>?_)) fun n=>?_
 ·obtain⟨he,vs,r,h1,h2,h3⟩:=hp
  have:(fun _:Nat=>(match p.1 with
   | .normal | .ret=>Xx rf.res p.2.1 p.2.2
   | .exit _=>none:Out (V×S)))=fun _=>some ([(QK vs,p.2.2)],r):=by
   funext _
   rcases he with he | he<;>simp only[he,Xx,h1]
  rw[this]
  exact Ev.some h3 h2
 ·simp only[jZ,hf]
  all_goals exact congrArg _ (funext fun p=>by cases p.1<;>rfl)
end
end Go.RM
namespace Go.RM
section
variable (orc:cK) (T:Tr RF)
end
section
variable {orc:cK} {T:Tr RF} {Γ:Tr V} {s:S} {F:Nat→Prop} {D:Prop}
end
theorem awK(d:Nat)(v:V)(Γ:Tr V)(t:Nat):look (putO (some d) v Γ) t=if d=t then v else look Γ t:=by
 have:=congrFun (MV (some d) v Γ) t
 rw[this]
 simp[T1]
theorem avQ(v:V)(Γ:Tr V)(t:Nat):look (putO none v Γ) t=look Γ t:=rfl
theorem apQ(Γ:Tr V)(t:Nat):ev Γ (.tmp t)=look Γ t:=rfl
theorem aPK(Γ:Tr V)(x:V):ev Γ (.con x)=x:=rfl
theorem aUZ(Γ:Tr V)(f:FuncId):ev Γ (.fn f) = .c (.fn f []):=rfl
end Go.RM
namespace Go.RM
structure Fp where
 i:Nat
 R:Nat→Prop
 W:Nat→Prop
def apO(b:Nat)(x:Fp)(R W:Nat→Prop):Prop:=Nat.testBit b x.i=true∨∀k,¬(x.W k∧R k)∧¬(W k∧x.R k)∧¬(x.W k∧W k)
def aBV(b i tr tw tr' tw':Nat):Bool:=Nat.testBit b i||(Nat.beq (Nat.land tw tr') 0&&(Nat.beq (Nat.land tw' tr) 0&&Nat.beq (Nat.land tw tw') 0))
def HK:List (ROp×Nat)→List Nat→Nat→List (Nat×Nat×Nat)→Bool
 | [],_,_,_=>true
 | _::_,[],_,_=>false
 | o::os,b::tab,i,ds=>ds.all (fun x=>aBV b x.1 x.2.1 x.2.2 o.2 (qY o.1.dst))&&HK os tab (i+1) (ds++[(i,o.2,qY o.1.dst)])
def bits(r:Nat):Nat→Prop:=fun k=>r.testBit k=true
section
variable {orc:cK} {T:Tr RF} {F:Nat→Prop} {D:Prop}
def Cov(ds:List Fp)(sl:List (Nat×Nat×Nat))(cs:List Did):Prop :=
 sl=cs.map (fun d=>(d.i,d.tr,d.tw))∧∀c∈cs,(c.r=0∧c.w=0)∨∃d∈ds,d.i=c.i∧(∀k,c.r.testBit k=true→d.R k)∧(∀k,c.w.testBit k=true→d.W k)
theorem A2{a b:Nat}(h:∀k,¬(a.testBit k=true∧b.testBit k=true)):Nat.beq (Nat.land a b) 0=true:=by
 have:Nat.land a b=0:=by
  apply Nat.eq_of_testBit_eq
  intro k
  show(a &&& b).testBit k=_
  rw[Nat.testBit_and,Nat.zero_testBit]
  cases ha:a.testBit k with
  | false=>rfl
  | true =>
   cases hb:b.testBit k with
   | false=>rfl
   | true=>exact absurd ⟨ha,hb⟩ (h k)
 rw[this];rfl
theorem PQ{ds:List Fp}{sl:List (Nat×Nat×Nat)}{cs:List Did}(hc:Cov ds sl cs){b tr tw:Nat}(hs:sl.all (fun x=>aBV b x.1 x.2.1 x.2.2 tr tw)=true){R W:Nat→Prop}(ho:∀x∈ds,apO b x R W){y:Did}(ht:y.tr=tr)(hw:y.tw=tw)(hr:∀k,y.r.testBit k=true→R k)(hww:∀k,y.w.testBit k=true→W k):cs.all (fun x=>DY b x y)=true:=by
 rw[List.all_eq_true]
 intro c hcm
 rw[hc.1,List.all_map,List.all_eq_true]at hs
 have h1:=hs c hcm
 simp only[Function.comp,aBV]at h1
 unfold DY
 rw[ht,hw]
 cases hb:Nat.testBit b c.i with
 | true=>rfl
 | false =>
  rw[hb,Bool.false_or]at h1
  simp only[gk]at h1
  rw[Bool.false_or,h1.1,h1.2.1,h1.2.2,Bool.true_and,Bool.true_and,Bool.true_and]
  rcases hc.2 c hcm with⟨hr0,hw0⟩ | ⟨d,hd,hi,hdr,hdw⟩
  ·rw[hr0,hw0]
   rw[A2 (a:=0) (fun k h=>by simp at h),A2 (b:=0) (fun k h=>by simp at h),A2 (a:=0) (fun k h=>by simp at h)]
   rfl
  ·rcases ho d hd with e | e
   ·rw[hi,hb]at e;simp at e
   ·rw[A2 (fun k h=>(e k).1 ⟨hdw k h.1,hr k h.2⟩),A2 (fun k h=>(e k).2.1 ⟨hww k h.1,hdr k h.2⟩),A2 (fun k h=>(e k).2.2 ⟨hdw k h.1,hww k h.2⟩)]
    rfl
theorem Cov.snoc{ds:List Fp}{sl:List (Nat×Nat×Nat)}{cs:List Did}(hc:Cov ds sl cs){y:Did}{R W:Nat→Prop}(hr:∀k,y.r.testBit k=true→R k)(hw:∀k,y.w.testBit k=true→W k):Cov (ds++[⟨y.i,R,W⟩]) (sl++[(y.i,y.tr,y.tw)]) (cs++[y]):=by
 refine⟨by rw[hc.1,List.map_append];rfl,fun c h=>?_⟩
 rcases ow.1 h with h | h
 ·rcases hc.2 c h with h | ⟨d,hd,h⟩
  ·exact .inl h
  ·exact .inr ⟨d,List.mem_append_left _ hd,h⟩
 ·rw[fw.1 h]
  exact .inr ⟨_,List.mem_append_right _ (fw.2 rfl),rfl,hr,hw⟩
theorem Cov.pure{ds:List Fp}{sl:List (Nat×Nat×Nat)}{cs:List Did}(hc:Cov ds sl cs){y:Did}(hr:y.r=0)(hw:y.w=0):Cov ds (sl++[(y.i,y.tr,y.tw)]) (cs++[y]):=by
 refine⟨by rw[hc.1,List.map_append];rfl,fun c h=>?_⟩
 rcases ow.1 h with h | h
 ·exact hc.2 c h
 ·rw[fw.1 h];exact .inl ⟨hr,hw⟩
theorem Px{call:cK}{o:ROp}{Γ:Tr V}{s:S}{v:V}{s':S}{r:Nat}(hw:bK Γ o.guard=some true)(h:opX call (ev Γ) s o.op=some ([(v,s')],r)):∃r',oY call o Γ s=some ([(putO o.dst v Γ,s')],r')∧∀k,r'.testBit k=true→r.testBit k=true:=by
 refine⟨Nat.lor r 0,?_,fun k hk=>?_⟩
 ·simp only[oY,hw,h,o8,wV,one]
  rfl
 ·rw[ij,Bw]at hk
  rcases hk with h | h
  ·exact h
  ·simp at h
def Dr(orc:cK)(T:Tr RF)(F:Nat→Prop)(D:Prop)(os:List (ROp×Nat))(tab:List Nat)(i:Nat)(ds:List Fp)(Γ:Tr V)(s:S)(k:Tr V→S→Prop):Prop :=
 ∀(sl:List (Nat×Nat×Nat)) (cs:List Did) (r:Nat),HK os tab i sl=true→Cov ds sl cs→(∀j,r.testBit j=true→F j)→Ev (fun n=>wY (jZ orc T n) os tab i cs Γ s r) F D fun p=>k p.1 p.2
section
variable {os:List (ROp×Nat)} {o:ROp×Nat} {b:Nat} {tab:List Nat} {i:Nat} {ds:List Fp} {Γ:Tr V} {s:S} {k:Tr V→S→Prop}
theorem oq(h:k Γ s):Dr orc T F D [] tab i ds Γ s k:=fun sl cs r _ _ hr=>⟨0,[(Γ,s)],r,by simp only[wY],fun p hp=>by rw[fw.1 hp];exact h,hr,fun _=>⟨_,rfl⟩⟩
theorem acV{sl:List (Nat×Nat×Nat)}{cs:List Did}{r:Nat}(hs:HK (o::os) (b::tab) i sl=true)(hr:∀j,r.testBit j=true→F j){v:V}{s':S}{r1 n1:Nat}{ds':List Fp}(h1:oY (jZ orc T n1) o.1 Γ {s with w:=0}=some ([(putO o.1.dst v Γ,s')],r1))(hr1:∀j,r1.testBit j=true→F j)
  (hap:cs.all (fun x=>DY b x ⟨i,o.2,qY o.1.dst,r1,s'.w⟩)=true) (hcov:Cov ds' (sl++[(i,o.2,qY o.1.dst)]) (cs++[⟨i,o.2,qY o.1.dst,r1,s'.w⟩])) (hk:Dr orc T F D os tab (i+1) ds' (putO o.1.dst v Γ) {s' with w:=Nat.lor s.w s'.w} k) :
  Ev (fun n=>wY (jZ orc T n) (o::os) (b::tab) i cs Γ s r) F D fun p=>k p.1 p.2:=by
 simp only[HK,gk]at hs
 obtain⟨n2,outs,r2,e2,q2,f2,d2⟩:=hk _ _ (Nat.lor r r1) hs.2 hcov (fun j hj=>by
  rw[ij,Bw]at hj
  exact hj.elim (hr j) (hr1 j))
 refine⟨max n1 n2,outs,r2,?_,q2,f2,d2⟩
 have m1:oY (jZ orc T (max n1 n2)) o.1 Γ {s with w:=0}=some ([(putO o.1.dst v Γ,s')],r1) :=
  (Mono.le (g:=fun n=>oY (jZ orc T n) o.1 Γ {s with w:=0}) (fun n=>H8 (uQ orc T n) _ _ _) (Nat.le_max_left n1 n2)) _ h1
 have m2:=(Mono.le (g:=fun n=>wY (jZ orc T n) os tab (i+1) (cs++[⟨i,o.2,qY o.1.dst,r1,s'.w⟩]) (putO o.1.dst v Γ) {s' with w:=Nat.lor s.w s'.w} (Nat.lor r r1)) (fun n=>Mj (uQ orc T n) _ _ _ _ _ _ _) (Nat.le_max_right n1 n2)) _ e2
 simp only[wY,m1,hap,cond_true]
 exact m2
theorem arj{v:V}(h1:∃r n,oY (jZ orc T n) o.1 Γ {s with w:=0}=some ([(putO o.1.dst v Γ,{s with w:=0})],r)∧r=0)(h:Dr orc T F D os tab (i+1) ds (putO o.1.dst v Γ) s k):Dr orc T F D (o::os) (b::tab) i ds Γ s k:=by
 intro sl cs r hs hc hr
 obtain⟨r1,n1,h1,rfl⟩:=h1
 have hs':=hs
 simp only[HK,gk]at hs'
 refine acV hs hr h1 (fun j hj=>by simp at hj) (PQ hc hs'.1 (R:=fun _=>False) (W:=fun _=>False) (fun x _=>.inr fun j=>⟨fun h=>h.2,fun h=>h.1,fun h=>h.2⟩) rfl rfl (fun j hj=>by simp at hj) (fun j hj=>by simp at hj)) (hc.pure (y:=⟨i,o.2,qY o.1.dst,0,0⟩) rfl rfl) ?_
 have:Nat.lor s.w 0=s.w:=Nat.or_zero _
 show Dr orc T F D os tab (i+1) ds (putO o.1.dst v Γ) {s with w:=Nat.lor s.w 0} k
 rw[this];exact h
theorem alJ{call:cK}{o:ROp}{Γ:Tr V}{s:S}{v:V}{s':S}(hw:bK Γ o.guard=some true)(h:opX call (ev Γ) s o.op=some ([(v,s')],0)):oY call o Γ s=some ([(putO o.dst v Γ,s')],0):=by
 obtain⟨r1,h1,h2⟩:=Px hw h
 have hz:r1=0:=Nat.eq_of_testBit_eq fun j=>by
  cases hj:r1.testBit j with
  | false=>simp
  | true=>have:=h2 j hj;simp at this
 rw[←hz];exact h1
theorem ej{v:V}(hw:bK Γ o.1.guard=some true)(hp:bj (ev Γ) o.1.op=some v)(h:Dr orc T F D os tab (i+1) ds (putO o.1.dst v Γ) s k):Dr orc T F D (o::os) (b::tab) i ds Γ s k:=by
 have hpl:o.1.op.plainOp=true:=by cases ho:o.1.op<;>rw[ho]at hp<;>first | rfl | simp[bj]at hp
 exact arj ⟨0,0,alJ hw (by rw[FY hpl,hp];rfl),rfl⟩ h
theorem eY(hw:bK Γ o.1.guard=some false)(h:Dr orc T F D os tab (i+1) ds (putO o.1.dst B1 Γ) s k):Dr orc T F D (o::os) (b::tab) i ds Γ s k :=
 arj ⟨0,0,by simp only[oY,hw];rfl,rfl⟩ h
theorem akZ{f:FuncId}{args:List V}(R W:Nat→Prop)(hw:bK Γ o.1.guard=some true)(hX:∀n,opX (jZ orc T n) (ev Γ) {s with w:=0} o.1.op=jZ orc T n f args {s with w:=0})(hF:∀j,R j→F j)(ha:∀x∈ds,apO b x R W)
  (hC:Cp orc T f args {s with w:=0} R True fun v s'=>(∀j,s'.w.testBit j=true→W j)∧Dr orc T F D os tab (i+1) (ds++[⟨i,R,W⟩]) (putO o.1.dst v Γ) {s' with w:=Nat.lor s.w s'.w} k):Dr orc T F D (o::os) (b::tab) i ds Γ s k:=by
 intro sl cs r hs hc hr
 have hs':=hs
 simp only[HK,gk]at hs'
 obtain⟨n1,outs,r1,e1,q1,f1,d1⟩:=hC
 obtain⟨⟨v,s'⟩,rfl⟩:=d1 trivial
 obtain⟨hW,hk⟩:=q1 _ (fw.2 rfl)
 obtain⟨r1',h1,h2⟩:=Px (v:=v) (s':=s') (r:=r1) hw ((hX n1).trans e1)
 exact acV hs hr h1 (fun j hj=>hF j (f1 j (h2 j hj))) (PQ hc hs'.1 ha rfl rfl (fun j hj=>f1 j (h2 j hj)) hW) (hc.snoc (y:=⟨i,o.2,qY o.1.dst,r1',s'.w⟩) (fun j hj=>f1 j (h2 j hj)) hW) hk
theorem adj{d:Option Nat}{g:Option (Nat×Bool)}{m:Nat}{f:FuncId}{as:List Opd}{args:List V}(R W:Nat→Prop)(hw:bK Γ g=some true)(hargs:as.map (ev Γ)=args)(hF:∀j,R j→F j)(ha:∀x∈ds,apO b x R W)
  (hC:Cp orc T f args {s with w:=0} R True fun v s'=>(∀j,s'.w.testBit j=true→W j)∧Dr orc T F D os tab (i+1) (ds++[⟨i,R,W⟩]) (putO d v Γ) {s' with w:=Nat.lor s.w s'.w} k):Dr orc T F D ((⟨d,.call f as,g⟩,m)::os) (b::tab) i ds Γ s k:=by
 subst hargs
 exact akZ (o:=(⟨d,.call f as,g⟩,m)) R W hw (fun n=>rfl) hF ha hC
end
theorem asJ{d:Option Nat}{g:Option (Nat×Bool)}{m:Nat}{f:FuncId}{as:List Opd}{args:List V}{os:List (ROp×Nat)}{Γ:Tr V}{s:S}{Q:Tr V→S→Prop}(hw:bK Γ g=some true)(hargs:as.map (ev Γ)=args)(h:Cp orc T f args s F D fun v s'=>Sq orc T os (putO d v Γ) s' F D Q):Sq orc T ((⟨d,.call f as,g⟩,m)::os) Γ s F D Q:=by
 subst hargs
 exact RQ hw (aLq h)
theorem eV{o:ROp}{m:Nat}{os:List (ROp×Nat)}{Γ:Tr V}{s:S}{Q:Tr V→S→Prop}{v:V}(hw:bK Γ o.guard=some true)(hp:bj (ev Γ) o.op=some v)(h:Sq orc T os (putO o.dst v Γ) s F D Q):Sq orc T ((o,m)::os) Γ s F D Q:=RQ hw (aMj hp h)
theorem apV{o:ROp}{m:Nat}{os:List (ROp×Nat)}{Γ:Tr V}{s s':S}{Q:Tr V→S→Prop}{v:V}{r:Nat}(hw:bK Γ o.guard=some true)(hn:bj (ev Γ) o.op=none)(hp:fX (ev Γ) s o.op=some (v,s',r))(hr:∀k,r.testBit k=true→F k)(h:Sq orc T os (putO o.dst v Γ) s' F D Q):Sq orc T ((o,m)::os) Γ s F D Q:=RQ hw (aSZ hn hp hr h)
theorem kj{os:List (ROp×Nat)}{tab:List Nat}{Γ:Tr V}{s:S}{Q:Ex→Tr V→S→Prop}(hs:HK os tab 0 []=true)(h:Dr orc T F D os tab 0 [] Γ s fun Γ s=>Q .normal Γ s):Wp orc T (.region (some tab) os) Γ s F D Q:=by
 refine Ev.shift (Ev.congr (Ev.bind (g:=fun n=>wY (jZ orc T n) os tab 0 [] Γ s 0) (f:=fun _ (p:Tr V×S)=>one (Ex.normal,p.1,p.2)) (fun n=>Mj (uQ orc T n) _ _ _ _ _ _ _) (fun p=>Mono.const _) (Ev.mono (h [] [] 0 hs ⟨rfl,fun c h=>by simp at h⟩ (fun j hj=>by simp at hj)) (fun _ h=>h) (fun h=>h) fun p hp=>Ev.one hp)) fun n=>vX orc T n (.region (some tab) os) Γ s)
end
end Go.RM
namespace Go.RM
open Go.VM (Pt Fr T RepT RepC Fun noHeap n6 xq mK Oid Lies)
section
variable {w0 w w':World} {φ:Ren} {h h':Hp}
theorem TreeX.mono{fresh:Bool}{x:X}{t:T}(hh:∀n o,h n=some o→h' n=some o)(ht:TreeX h fresh x t):TreeX h' fresh x t:=by
 induction ht with
 | sc v=>exact .sc v
 | nil k=>exact .nil k
 | es k=>exact .es k
 | ez k=>exact .ez k
 | im k rows hf=>exact .im k rows hf
 | im0 k k'=>exact .im0 k k'
 | sl0 n k off k'=>exact .sl0 n k off k'
 | sl n k off rows e cs xs hn hcut hk hl _ ih=>exact .sl n k off rows e cs xs (hh _ _ hn) hcut hk hl ih
theorem Pt.imp{α β:Type}{r r':α→β→Prop}(h:∀a b,r a b→r' a b){xs:List α}{ys:List β}(hp:Pt r xs ys):Pt r' xs ys:=⟨hp.1,fun j a b ha hb=>h a b (hp.2 j a b ha hb)⟩
theorem TreeS.mono{fresh:Bool}{x:V}{t:Go.VM.V}(hh:∀n o,h n=some o→h' n=some o)(ht:TreeS h fresh x t):TreeS h' fresh x t:=by
 cases x<;>cases t<;>simp only[TreeS]at ht ⊢
 case c.c x y =>
  cases y<;>simp only at ht ⊢
  exact ht.mono hh
 case agg.agg xs ys=>exact Pt.imp (fun a b ⟨t,e,ht⟩=>⟨t,e,ht.mono hh⟩) ht
theorem TreeV.mono{fresh:Bool}{x:V}{t:Go.VM.V}(hh:∀n o,h n=some o→h' n=some o)(ht:TreeV h fresh x t):TreeV h' fresh x t:=by
 unfold TreeV at ht ⊢
 split at ht
 ·exact Pt.imp (fun a b=>TreeS.mono hh) ht
 ·exact TreeS.mono hh ht
end
end Go.RM
namespace Go.RM
open Go.VM (T zZ)
def o7(s:S)(n:Nat)(o:O):S:={s with h:=s.h.set n o,w:=Nat.lor s.w (bit n)}
def zJ(s:S)(o:O):S:={h:=s.h.set s.c o,c:=s.c+1,w:=Nat.lor s.w (bit s.c)}
structure Sb(b:Nat)(s:S):Prop where
 le:b≤s.c
 free:∀k,s.c≤k→s.h.get k=none
 own:∀k,s.w.testBit k=true→b≤k∧k<s.c
structure St(s s1:S)(n:Nat)(o:O):Prop where
 self:s1.h.get n=some o
 keep:∀k,k≠n→s1.h.get k=s.h.get k
theorem St.at{s s1:S}{n k:Nat}{o o':O}(h:St s s1 n o)(hk:s.h.get k=some o')(hne:k≠n):s1.h.get k=some o':=(h.keep k hne).trans hk
theorem Sb.lt{b k:Nat}{s:S}{o:O}(h:Sb b s)(hk:s.h.get k=some o):k<s.c:=by
 rcases Nat.lt_or_ge k s.c with h1 | h1
 ·exact h1
 ·rw[h.free k h1]at hk;simp at hk
theorem D0(s:S)(n:Nat)(o:O):St s (o7 s n o) n o:=⟨by simp[o7,Tr.get_set],fun k hk=>by simp[o7,Tr.get_set,hk]⟩
theorem vV(s:S)(o:O):St s (zJ s o) s.c o:=⟨by simp[zJ,Tr.get_set],fun k hk=>by simp[zJ,Tr.get_set,hk]⟩
theorem Sb.put{b n:Nat}{s:S}(h:Sb b s)(hb:b≤n)(hn:n<s.c)(o:O):Sb b (o7 s n o) :=
 ⟨h.le,fun k hk=>by rw[(D0 s n o).keep k (by have:s.c≤k:=hk;omega)];exact h.free k hk,fun k hk=>by
  simp only[o7,ij,yY,Bw,Dk]at hk
  rcases hk with hk | rfl
  ·exact h.own k hk
  ·exact⟨hb,hn⟩⟩
theorem Sb.new{b:Nat}{s:S}(h:Sb b s)(o:O):Sb b (zJ s o) :=
 ⟨Nat.le_succ_of_le h.le,fun k hk=>by have hk:s.c+1≤k:=hk;rw[(vV s o).keep k (by omega)];exact h.free k (by omega),fun k hk=>by
  simp only[zJ,ij,yY,Bw,Dk]at hk
  rcases hk with hk | rfl
  ·exact⟨(h.own k hk).1,Nat.lt_succ_of_lt (h.own k hk).2⟩
  ·exact⟨h.le,Nat.lt_succ_self _⟩⟩
def MS(e:Opd→V)(s:S)(op:RO)(v:V)(s':S)(R W:Nat→Prop):Prop :=
 ∃r wm,bj e op=none∧(∀w0,fX e {s with w:=w0} op=some (v,{s' with w:=Nat.lor w0 wm},r))∧s'.w=Nat.lor s.w wm∧(∀k,r.testBit k=true→R k)∧(∀k,wm.testBit k=true→W k)
theorem wz(w:Nat):Nat.lor w 0=w:=Nat.or_zero w
theorem Tz(a b c:Nat):Nat.lor (Nat.lor a b) c=Nat.lor a (Nat.lor b c):=Nat.or_assoc a b c
theorem MS.plain{e:Opd→V}{s s':S}{op:RO}{v:V}{R W:Nat→Prop}(h:MS e s op v s' R W):op.plainOp=true:=by
 obtain⟨r,wm,_,h2,_⟩:=h
 have h2:=h2 0
 cases op<;>first | rfl | simp[fX]at h2
theorem MS.one{e:Opd→V}{s s':S}{op:RO}{v:V}{R W:Nat→Prop}(h:MS e s op v s' R W):∃r,bj e op=none∧fX e s op=some (v,s',r)∧∀k,r.testBit k=true→R k:=by
 obtain⟨r,wm,h1,h2,h3,h4,_⟩:=h
 refine⟨r,h1,?_,h4⟩
 have:=h2 s.w
 rw[←h3]at this
 exact this
section
variable {orc:cK} {T:Tr RF} {F:Nat→Prop} {D:Prop}
theorem zx{d:Option Nat}{op:RO}{g:Option (Nat×Bool)}{m:Nat}{os:List (ROp×Nat)}{Γ:Tr V}{s s':S}{Q:Tr V→S→Prop}{v:V}{R W:Nat→Prop}(hw:bK Γ g=some true)(h:MS (ev Γ) s op v s' R W)(hF:∀k,R k→F k)(hk:Sq orc T os (putO d v Γ) s' F D Q):Sq orc T ((⟨d,op,g⟩,m)::os) Γ s F D Q:=by
 obtain⟨r,h1,h2,h3⟩:=h.one
 exact apV (o:=⟨d,op,g⟩) hw h1 h2 (fun k hk=>hF k (h3 k hk)) hk
theorem aSW{o:ROp×Nat}{os:List (ROp×Nat)}{b:Nat}{tab:List Nat}{i:Nat}{ds:List Fp}{Γ:Tr V}{s s':S}{k:Tr V→S→Prop}{v:V}{R W:Nat→Prop}(hw:bK Γ o.1.guard=some true)(h:MS (ev Γ) s o.1.op v s' R W)(hF:∀k,R k→F k)(ha:∀x∈ds,apO b x R W)
  (hk:Dr orc T F D os tab (i+1) (ds++[⟨i,R,W⟩]) (putO o.1.dst v Γ) s' k):Dr orc T F D (o::os) (b::tab) i ds Γ s k:=by
 have hpl:=h.plain
 obtain⟨r,wm,h1,h2,h3,h4,h5⟩:=h
 have h2:=h2 0
 intro sl cs rr hs hc hr
 have hs':=hs
 simp only[HK,gk]at hs'
 have hz:Nat.lor 0 wm=wm:=Nat.zero_or wm
 rw[hz]at h2
 obtain⟨r1',g1,g2⟩:=Px (call:=jZ orc T 0) (o:=o.1) (s:={s with w:=0}) (v:=v) (s':={s' with w:=wm}) (r:=r) hw (by rw[FY hpl,h1];simp only[h2])
 refine acV (s':={s' with w:=wm}) hs hr g1 (fun j hj=>hF j (h4 j (g2 j hj))) (PQ hc hs'.1 ha rfl rfl (fun j hj=>h4 j (g2 j hj)) h5) (hc.snoc (y:=⟨i,o.2,qY o.1.dst,r1',wm⟩) (fun j hj=>h4 j (g2 j hj)) h5) ?_
 have e:({s' with w:=Nat.lor s.w wm}:S)=s':=by rw[←h3]
 show Dr orc T F D os tab (i+1) _ _ {s' with w:=Nat.lor s.w wm} k
 rw[e]
 exact hk
theorem tQ{d:Option Nat}{op:RO}{g:Option (Nat×Bool)}{m:Nat}{os:List (ROp×Nat)}{b:Nat}{tab:List Nat}{i:Nat}{ds:List Fp}{Γ:Tr V}{s s':S}{k:Tr V→S→Prop}{v:V}{R W:Nat→Prop}(hw:bK Γ g=some true)(h:MS (ev Γ) s op v s' R W)(hF:∀k,R k→F k)(ha:∀x∈ds,apO b x R W)
  (hk:Dr orc T F D os tab (i+1) (ds++[⟨i,R,W⟩]) (putO d v Γ) s' k):Dr orc T F D ((⟨d,op,g⟩,m)::os) (b::tab) i ds Γ s k :=
 aSW (o:=(⟨d,op,g⟩,m)) hw h hF ha hk
end
section
variable {e:Opd→V} {s:S} {b:Nat}
theorem aLV{xs:List X}{off:Nat}{y:X}(h:xs[off]? = some y):cut xs off 1=some [y]:=by
 unfold cut
 have hlt:=(bw.1 h).1
 have:(xs.drop off).take 1=[y]:=by
  rw[List.drop_eq_getElem_cons hlt]
  have:=(bw.1 h).2
  rw[this];rfl
 simp[this,gd]
theorem axZ(xs:List X)(off:Nat)(y:X)(h:off<xs.length):setAt xs off [y]=xs.set off y:=by
 unfold setAt
 simp only[List.length_singleton]
 rw[List.set_eq_take_append_cons_drop,if_pos h]
 rfl
theorem dX{P:Nat→Prop}:∀k,(0:Nat).testBit k=true→P k:=fun k h=>by simp at h
theorem dQ{n:Nat}:∀k,(bit n).testBit k=true→k=n:=fun k h=>by rw[yY]at h;exact of_decide_eq_true h
theorem MS.load1{x:Opd}{m off:Nat}{t:TypeId}{xs:List X}{y:X}(hx:e x = .c (.ptr m off))(hm:s.h.get m=some (.cells t xs))(hy:xs[off]? = some y):MS e s (.load 1 false x) (.c y) s (fun k=>k=m) (fun _=>False) :=
 ⟨bit m,0,rfl,fun w0=>by simp only[fX,hx,Kx,hm,dk,aLV hy,qw,wz];rfl,(wz _).symm,dQ,dX⟩
theorem MS.loadA{x:Opd}{n m off:Nat}{t:TypeId}{xs cs:List X}(hx:e x = .c (.ptr m off))(hm:s.h.get m=some (.cells t xs))(hc:cut xs off n=some cs):MS e s (.load n true x) (.agg cs) s (fun k=>k=m) (fun _=>False) :=
 ⟨bit m,0,rfl,fun w0=>by simp only[fX,hx,Kx,hm,dk,hc,qw,wz];rfl,(wz _).symm,dQ,dX⟩
theorem MS.loadI{x:Opd}{n:Nat}{ag:Bool}{cs:List T}(hx:e x = .c (.pI cs))(hl:Nat.ble n cs.length=true):MS e s (.load n ag x) (mkV ag ((cs.take n).map imX)) s (fun _=>False) (fun _=>False) :=
 ⟨0,0,rfl,fun w0=>by simp only[fX,hx,hl,gd,cond_true,wz],(wz _).symm,dX,dX⟩
theorem MS.store1{x v:Opd}{m off:Nat}{t:TypeId}{xs:List X}{y:X}(hx:e x = .c (.ptr m off))(hv:e v = .c y)(hm:s.h.get m=some (.cells t xs))(hl:off<xs.length):MS e s (.store 1 x v) .junk (o7 s m (.cells t (xs.set off y))) (fun k=>k=m) (fun k=>k=m) :=
 ⟨bit m,bit m,rfl,fun w0=>by
  have h2:Nat.ble (off+1) xs.length=true:=by rw[Nat.ble_eq];omega
  simp only[fX,hx,hv,c5,Kx,hm,dk,List.length_singleton,h2,Nat.beq_refl,Bool.and_self,gd,cond_true,put,qw,axZ xs off y hl,o7],rfl,dQ,dQ⟩
theorem MS.storeA{n:Nat}{x v:Opd}{m off:Nat}{t:TypeId}{xs ys:List X}(hx:e x = .c (.ptr m off))(hv:c5 (e v)=some ys)(hm:s.h.get m=some (.cells t xs))(hn:ys.length=n)(hl:off+n≤xs.length):MS e s (.store n x v) .junk (o7 s m (.cells t (setAt xs off ys))) (fun k=>k=m) (fun k=>k=m) :=
 ⟨bit m,bit m,rfl,fun w0=>by
  have h2:Nat.ble (off+n) xs.length=true:=by rw[Nat.ble_eq];exact hl
  have h3:Nat.beq ys.length n=true:=by rw[hn];exact Nat.beq_refl n
  simp only[fX,hx,hv,Kx,hm,dk,h2,h3,Bool.and_self,gd,cond_true,put,qw,o7],rfl,dQ,dQ⟩
theorem C9{o:O}(h:s.h.get s.c=none)(w0:Nat):new {s with w:=w0} o=some {zJ s o with w:=Nat.lor w0 (bit s.c)}:=by
 unfold new
 simp only[h,Option.isNone_none,gd,cond_true]
 rfl
theorem MS.alloc{t:TypeId}{z:List X}(hS:Sb b s):MS e s (.alloc t z) (.c (.ptr s.c 0)) (zJ s (.cells t z)) (fun k=>k=s.c) (fun k=>k=s.c) :=
 ⟨bit s.c,bit s.c,rfl,fun w0=>by simp only[fX,C9 (hS.free _ (mw _)),qw],rfl,dQ,dQ⟩
theorem MS.box{t:TypeId}{x:Opd}{cs:List X}(hS:Sb b s)(hx:c5 (e x)=some cs):MS e s (.box t x) (.c (.ptr s.c 0)) (zJ s (.cells t cs)) (fun k=>k=s.c) (fun k=>k=s.c) :=
 ⟨bit s.c,bit s.c,rfl,fun w0=>by simp only[fX,hx,dk,C9 (hS.free _ (mw _)),qw],rfl,dQ,dQ⟩
theorem MS.mksl{t:TypeId}{k bytes:Nat}{z:List X}{l c:Opd}{m mc:Nat}(hS:Sb b s)(hl:e l=iV (m:Int))(hc:e c=iV (mc:Int))(hle:m≤mc)(hr:rY bytes mc=true):MS e s (.mksl t k bytes z l c) (.c (.sl s.c k 0 m)) (zJ s (.cells t (List.replicate m z).flatten)) (fun k=>k=s.c) (fun k=>k=s.c) :=
 ⟨bit s.c,bit s.c,rfl,fun w0=>by
  have h1:Nat.ble m mc=true:=by rw[Nat.ble_eq];exact hle
  have h2:∀k:Nat,DJ (k:Int)=some k:=fun k=>rfl
  simp only[fX,hl,hc,iV,iz,dk,h2,h1,hr,Bool.and_self,gd,cond_true,C9 (hS.free _ (mw _)),qw],rfl,dQ,dQ⟩
theorem MS.bsl{t:TypeId}{k len:Nat}{z:List X}{ps:List (Nat×Nat×Opd)}{cs:List X}(hS:Sb b s)(hf:fill e (List.replicate len z).flatten ps=some cs):MS e s (.bsl t k len z ps) (.c (.sl s.c k 0 len)) (zJ s (.cells t cs)) (fun k=>k=s.c) (fun k=>k=s.c) :=
 ⟨bit s.c,bit s.c,rfl,fun w0=>by simp only[fX,hf,dk,C9 (hS.free _ (mw _)),qw],rfl,dQ,dQ⟩
theorem MS.bsl1{t:TypeId}{z y:X}{x:Opd}(hS:Sb b s)(hx:e x = .c y):MS e s (.bsl t 1 1 [z] [(0,1,x)]) (.c (.sl s.c 1 0 1)) (zJ s (.cells t [y])) (fun k=>k=s.c) (fun k=>k=s.c) :=
 MS.bsl hS (by simp only[List.replicate_succ,List.replicate_zero,yk,List.flatten_nil,vk,fill,hx,c5,dk,setAt];rfl)
theorem MS.mkmap{kd:TypeDesc}(hS:Sb b s):MS e s (.mkmap kd) (.c (.mp s.c)) (zJ s (.map kd false [])) (fun k=>k=s.c) (fun k=>k=s.c) :=
 ⟨bit s.c,bit s.c,rfl,fun w0=>by simp only[fX,C9 (hS.free _ (mw _)),qw],rfl,dQ,dQ⟩
theorem MS.app_nil{t:TypeId}{k bytes:Nat}{sl x:Opd}{m len:Nat}{t2:TypeId}{ys zs:List X}(hS:Sb b s)(hs:e sl = .c (.sc cW))(hx:e x = .c (.sl m k 0 len))(hm:s.h.get m=some (.cells t2 ys))(hc:cut ys 0 (len*k)=some zs)(h0:Nat.beq len 0=false)(hr:rY bytes len=true) :
  MS e s (.app t k bytes sl x) (.c (.sl s.c k 0 len)) (zJ s (.cells t zs)) (fun k=>k=m∨k=s.c) (fun k=>k=s.c) :=
 ⟨Nat.lor (bit m) (bit s.c),bit s.c,rfl,fun w0=>by
  simp only[fX,avj,hx,Kx,hm,Nat.beq_refl,gd,cond_true,dk,hc,qw,hs,cW,h0,cond_false,hr,C9 (hS.free _ (mw _))],rfl,fun j hj=>by
   rw[ij,Bw]at hj
   exact hj.imp (dQ j) (dQ j),dQ⟩
theorem MS.app_own{t:TypeId}{k bytes:Nat}{sl x:Opd}{n off ln m len:Nat}{t2:TypeId}{xs os ys zs:List X}(hS:Sb b s)(hs:e sl = .c (.sl n k off ln))(hn:s.h.get n=some (.cells t xs))(hcs:cut xs off (ln*k)=some os)(hx:e x = .c (.sl m k 0 len))(hm:s.h.get m=some (.cells t2 ys))(hc:cut ys 0 (len*k)=some zs)(h0:Nat.beq len 0=false)(hr:rY bytes (ln+len)=true) :
  MS e s (.app t k bytes sl x) (.c (.sl s.c k 0 (ln+len))) (zJ (o7 s n .dead) (.cells t (os++zs))) (fun k=>k=m∨k=n∨k=s.c) (fun k=>k=n∨k=s.c) :=
 ⟨Nat.lor (Nat.lor (bit m) (bit n)) (bit s.c),Nat.lor (bit n) (bit s.c),rfl,fun w0=>by
  have hnc:((o7 s n .dead).h.get (o7 s n .dead).c)=none:=by
   have hlt:=hS.lt hn
   show(o7 s n .dead).h.get s.c=none
   rw[(D0 s n .dead).keep s.c (by omega)]
   exact hS.free _ (mw _)
  have hnew:∀o,new ({h:=s.h.set n .dead,c:=s.c,w:=Nat.lor w0 (bit n)}:S) o=some {zJ (o7 s n .dead) o with w:=Nat.lor (Nat.lor w0 (bit n)) (bit s.c)}:=fun o=>C9 (s:=o7 s n .dead) hnc (Nat.lor w0 (bit n))
  simp only[fX,avj,hx,Kx,hm,Nat.beq_refl,gd,cond_true,dk,hc,qw,hs,hn,hcs,h0,cond_false,hr,Bool.and_self,put,hnew,Tz],by show Nat.lor (Nat.lor s.w (bit n)) (bit s.c)=_;rw[Tz],fun j hj=>by
   rw[ij,ij,Bw,Bw]at hj
   rcases hj with (hj | hj) | hj
   ·exact .inl (dQ j hj)
   ·exact .inr (.inl (dQ j hj))
   ·exact .inr (.inr (dQ j hj)),fun j hj=>by
   rw[ij,Bw]at hj
   exact hj.imp (dQ j) (dQ j)⟩
structure Sa(s s1:S)(n:Nat)(o:O):Prop where
 self:s1.h.get s.c=some o
 dead:s1.h.get n=some .dead
 keep:∀k,k≠n→k≠s.c→s1.h.get k=s.h.get k
 c:s1.c=s.c+1
theorem abq{n:Nat}{o:O}(hn:n<s.c):Sa s (zJ (o7 s n .dead) o) n o :=
 ⟨(vV (o7 s n .dead) o).self,by rw[(vV (o7 s n .dead) o).keep n (by show n≠s.c;omega)];exact(D0 s n .dead).self,fun k h1 h2=>by rw[(vV (o7 s n .dead) o).keep k h2];exact(D0 s n .dead).keep k h1,rfl⟩
theorem MS.look{kd:TypeDesc}{z:V}{ok:Bool}{x i:Opd}{m:Nat}{key:Value}{kd':TypeDesc}{es:List (Value×V)}(hx:e x = .c (.mp m))(hi:D8 kd (e i)=some key)(hm:I4 s m=some (kd',es))(hk:SQ kd' kd=true):MS e s (.look kd z ok x i) (FX ok z (Go.VM.getK key es)) s (fun k=>k=m) (fun _=>False) :=
 ⟨bit m,0,rfl,fun w0=>by
  have h2:I4 {s with w:=w0} m=some (kd',es):=hm
  simp only[fX,hi,hx,dk,h2,hk,gd,cond_true,wz],(wz _).symm,dQ,dX⟩
theorem MS.mupd{kd:TypeDesc}{x i v:Opd}{m:Nat}{key:Value}{kd':TypeDesc}{es:List (Value×V)}(hx:e x = .c (.mp m))(hi:D8 kd (e i)=some key)(hm:s.h.get m=some (.map kd' false es))(hk:SQ kd' kd=true)(hv:kK (e v)=true):MS e s (.mupd kd x i v) .junk (o7 s m (.map kd false (Go.VM.putK key (e v) es))) (fun k=>k=m) (fun k=>k=m) :=
 ⟨bit m,bit m,rfl,fun w0=>by
  simp only[fX,hi,hx,dk,akq,hm,hk,hv,gw,Bool.and_self,gd,cond_true,put,qw,o7],rfl,dQ,dQ⟩
theorem MS.mdel{kd:TypeDesc}{x i:Opd}{m:Nat}{key:Value}{kd':TypeDesc}{es:List (Value×V)}(hx:e x = .c (.mp m))(hi:D8 kd (e i)=some key)(hm:getD s m=some (kd',es))(hk:SQ kd' kd=true):MS e s (.mdel kd x i) .junk (o7 s m (.dmap kd (akX key es))) (fun k=>k=m) (fun k=>k=m) :=
 ⟨bit m,bit m,rfl,fun w0=>by
  have h2:getD {s with w:=w0} m=some (kd',es):=hm
  simp only[fX,hi,hx,dk,h2,hk,gd,cond_true,put,qw,o7],rfl,dQ,dQ⟩
end
section
variable {orc:cK} {T:Tr RF} {F:Nat→Prop} {D:Prop} {os:List (ROp×Nat)} {Γ:Tr V} {s:S} {b n:Nat} {o:O}
theorem rz{Q:Tr V→S→Prop}(hS:Sb b s)(hb:b≤n)(hn:n<s.c)(h:∀s1,St s s1 n o→s1.c=s.c→Sb b s1→Sq orc T os Γ s1 F D Q):Sq orc T os Γ (o7 s n o) F D Q:=h _ (D0 s n o) rfl (hS.put hb hn o)
theorem uK{Q:Tr V→S→Prop}(hS:Sb b s)(h:∀s1,St s s1 s.c o→s1.c=s.c+1→Sb b s1→Sq orc T os Γ s1 F D Q):Sq orc T os Γ (zJ s o) F D Q:=h _ (vV s o) rfl (hS.new o)
variable {tab:List Nat} {i:Nat} {ds:List Fp}
theorem u3{k:Tr V→S→Prop}(hS:Sb b s)(hb:b≤n)(hn:n<s.c)(h:∀s1,St s s1 n o→s1.c=s.c→Sb b s1→Dr orc T F D os tab i ds Γ s1 k):Dr orc T F D os tab i ds Γ (o7 s n o) k:=h _ (D0 s n o) rfl (hS.put hb hn o)
theorem aaW{k:Tr V→S→Prop}(hS:Sb b s)(h:∀s1,St s s1 s.c o→s1.c=s.c+1→Sb b s1→Dr orc T F D os tab i ds Γ s1 k):Dr orc T F D os tab i ds Γ (zJ s o) k:=h _ (vV s o) rfl (hS.new o)
theorem Sa.at{s1:S}{k:Nat}{o':O}(h:Sa s s1 n o)(hk:s.h.get k=some o')(hne:k≠n)(hc:k≠s.c):s1.h.get k=some o':=(h.keep k hne hc).trans hk
theorem Sb.zero{b':Nat}(h:Sb b s)(hle:b'≤s.c):Sb b' {s with w:=0}:=⟨hle,h.free,fun k hk=>by simp at hk⟩
theorem Sb.join{s1:S}{b':Nat}(h:Sb b s)(h1:Sb b' s1)(hc:b≤b')(hl:s.c≤s1.c):Sb b {s1 with w:=Nat.lor s.w s1.w}:=⟨Nat.le_trans hc h1.le,h1.free,fun k hk=>by
 simp only[ij,Bw]at hk
 rcases hk with hk | hk
 ·exact⟨(h.own k hk).1,Nat.lt_of_lt_of_le (h.own k hk).2 hl⟩
 ·exact⟨Nat.le_trans hc (h1.own k hk).1,(h1.own k hk).2⟩⟩
theorem ahW{d:Option Nat}{g:Option (Nat×Bool)}{m bb:Nat}{f:FuncId}{as:List Opd}{args:List V}{k:Tr V→S→Prop}(R:Nat→Prop)(hw:bK Γ g=some true)(hargs:as.map (ev Γ)=args)(hS:Sb b s)(hF:∀j,R j→F j)(ha:∀x∈ds,apO bb x R R)
  (hC:Cp orc T f args {s with w:=0} R True fun v s'=>Sb s.c s'∧(∀j,s.c≤j→j<s'.c→R j)∧∀s1,s1.h=s'.h→s1.c=s'.c→Sb b s1→Dr orc T F D os tab (i+1) (ds++[⟨i,R,R⟩]) (putO d v Γ) s1 k):Dr orc T F D ((⟨d,.call f as,g⟩,m)::os) (bb::tab) i ds Γ s k:=by
 refine adj R R hw hargs hF ha (Cp.mono hC (fun _ h=>h) (fun h=>h) fun v s' hq=>?_)
 obtain⟨h1,h2,h3⟩:=hq
 exact⟨fun j hj=>h2 j (h1.own j hj).1 (h1.own j hj).2,h3 _ rfl rfl (hS.join h1 hS.le h1.le)⟩
end
section
variable {e:Opd→V}
theorem azZ{x i:Opd}{n j len:Nat}(hx:e x = .c (.sl n 1 0 len))(hi:e i=iV (j:Int))(hj:j<len):bj e (.ixA 1 x i)=some (.c (.ptr n j)):=by
 have h2:∀k:Nat,DJ (k:Int)=some k:=fun k=>rfl
 have h3:Nat.blt j len=true:=by rw[Nat.blt_eq];exact hj
 simp only[bj,hx,hi,iV,isI,dk,h2,Nat.beq_refl,h3,Bool.and_self,gd,cond_true,Nat.mul_one,Nat.zero_add]
theorem Xz{x i:Opd}{n k off j len:Nat}(hx:e x = .c (.sl n k off len))(hi:e i=iV (j:Int))(hj:j<len):bj e (.ixA k x i)=some (.c (.ptr n (off+j*k))):=by
 have h2:∀k:Nat,DJ (k:Int)=some k:=fun k=>rfl
 have h3:Nat.blt j len=true:=by rw[Nat.blt_eq];exact hj
 simp only[bj,hx,hi,iV,isI,dk,h2,Nat.beq_refl,h3,Bool.and_self,gd,cond_true]
theorem W1{x i:Opd}{k j:Nat}{rows:List (List T)}{row:List T}(hx:e x = .c (.im k rows))(hi:e i=iV (j:Int))(hj:rows[j]? = some row):bj e (.ixA k x i)=some (.c (.pI row)):=by
 have h2:∀k:Nat,DJ (k:Int)=some k:=fun k=>rfl
 simp only[bj,hx,hi,iV,isI,dk,h2,Nat.beq_refl,gd,cond_true,hj,qw]
end
def RowN(h:Hp)(t:TypeId)(x:X)(cs:List X)(n:Nat):Prop:=(x = .sc cW∧cs=[])∨(x = .sl n 1 0 cs.length∧h n=some (.cells t cs))
theorem RowN.keep{h h':Hp}{t:TypeId}{x:X}{cs:List X}{n:Nat}(hr:RowN h t x cs n)(hk:h' n=h n):RowN h' t x cs n:=by
 rcases hr with hr | ⟨h1,h2⟩
 ·exact .inl hr
 ·exact .inr ⟨h1,hk.trans h2⟩
structure SaN(s s1:S)(n:Nat)(o:O):Prop where
 self:s1.h.get s.c=some o
 keep:∀k,k≠n→k≠s.c→s1.h.get k=s.h.get k
 c:s1.c=s.c+1
theorem SaN.at{s s1:S}{n k:Nat}{o o':O}(h:SaN s s1 n o)(hk:s.h.get k=some o')(hne:k≠n)(hc:k≠s.c):s1.h.get k=some o':=(h.keep k hne hc).trans hk
section
variable {orc:cK} {T:Tr RF} {F:Nat→Prop} {D:Prop} {os:List (ROp×Nat)} {Γ:Tr V} {s:S} {b n m:Nat} {d:Option Nat} {g:Option (Nat×Bool)} {mk:Nat} {t t2:TypeId} {bytes:Nat} {sl x:Opd} {xv y:X} {cs:List X}
end
section
variable {e:Opd→V} {s:S}
theorem MS.loadI1{x:Opd}{v:Value}{cs:List T}(hx:e x = .c (.pI (.sc v::cs))):MS e s (.load 1 false x) (.c (.sc v)) s (fun _=>False) (fun _=>False):=MS.loadI hx rfl
theorem MS.loadI2{x:Opd}{k:Nat}{rows:List (List T)}{cs:List T}(hx:e x = .c (.pI (.sl k rows::cs))):MS e s (.load 1 false x) (.c (.im k rows)) s (fun _=>False) (fun _=>False):=MS.loadI hx rfl
theorem MS.loadIA{x:Opd}{n:Nat}{cs:List T}{ys:List X}(hx:e x = .c (.pI cs))(hl:Nat.ble n cs.length=true)(hy:(cs.take n).map imX=ys):MS e s (.load n true x) (.agg ys) s (fun _=>False) (fun _=>False):=by subst hy;exact MS.loadI hx hl
end
theorem evS:(∀(Γ:Tr V) t,ev Γ (.tmp t)=look Γ t)∧(∀(Γ:Tr V) x,ev Γ (.con x)=x)∧(∀(Γ:Tr V) f,ev Γ (.fn f) = .c (.fn f []))∧(∀d v (Γ:Tr V) t,look (putO (some d) v Γ) t=if d=t then v else look Γ t)∧(∀v (Γ:Tr V) t,look (putO none v Γ) t=look Γ t):=⟨apQ,aPK,aUZ,awK,avQ⟩
theorem aRx{e:Opd→V}{x h:Opd}{n len m:Nat}(hx:e x = .c (.sl n 1 0 len))(hh:e h=iV (m:Int))(hm:m≤len):bj e (.sub 1 x none (some h))=some (.c (.sl n 1 0 m)):=by
 have h2:DJ (m:Int)=some m:=rfl
 have h3:Nat.ble m len=true:=by rw[Nat.ble_eq];exact hm
 have h4:Nat.ble 0 m=true:=by rw[Nat.ble_eq];omega
 simp only[bj,hx,bnd,hh,iV,iz,dk,h2,Nat.beq_refl,h3,h4,Bool.and_self,gd,cond_true,Nat.zero_mul,Nat.add_zero,Nat.sub_zero]
end Go.RM
namespace Go.RM
open Go.VM (Pt Fr T RepT RepC Fun noHeap n6 xq mK Oid Lies)
end Go.RM
namespace Go.RM
open Go.VM (Pt Fr T RepT RepC Fun noHeap n6 xq mK Oid Lies)
theorem avK{P:Program}{orc:cK}{T:Tr RF}(hT:TOk P T)(ho:∀w0,A5 P w0 orc)(hoi:sW orc){f:FuncId}{vs:List Go.VM.V}{us:List V}(hus:vs.mapM toV=some us){fresh:Bool}{r:Go.VM.V}{F:Nat→Prop}{D:Prop}{Q:V→S→Prop}
  (h:Cp orc T f us s0 F D Q) (hQ:∀v s,Q v s→TreeV s.h.get fresh v r):Fun P f fresh [] vs noHeap r noHeap:=by
 obtain⟨n,outs,rr,h1,h2,_,_⟩:=h
 exact U0 hT ho hoi hus h1 fun p hp=>hQ _ _ (h2 p hp)
end Go.RM
namespace Go.RM
open Go.VM (Pt Fr T RepT RepC Fun noHeap n6 xq mK Oid aZ)
end Go.RM
namespace Go.RM
open Go.VM (T zZ)
abbrev kI(n:Int):Opd:=.con (.c (.sc (.int .i64 n)))
theorem PU:(∀a b:Int,zZ .lss (.int .i64 a) (.int .i64 b)=some (.bool (decide (a<b))))∧(∀a b:Int,zZ .geq (.int .i64 a) (.int .i64 b)=some (.bool (decide (b≤a))))∧(∀a b:Int,zZ .leq (.int .i64 a) (.int .i64 b)=some (.bool (decide (a≤b))))∧(∀a b:Int,zZ .gtr (.int .i64 a) (.int .i64 b)=some (.bool (decide (b<a)))) ∧
  (∀a b:Int,zZ .eql (.int .i64 a) (.int .i64 b)=some (.bool (decide (a=b))))∧(∀a b:Int,zZ .neq (.int .i64 a) (.int .i64 b)=some (.bool (!decide (a=b))))∧(∀a b:Int,zZ .add (.int .i64 a) (.int .i64 b)=some (.int .i64 (IntKind.i64.wrap (a+b))))∧(∀a b:Int,zZ .sub (.int .i64 a) (.int .i64 b)=some (.int .i64 (IntKind.i64.wrap (a-b)))) ∧
  (∀ {α β:Type} (f:α→β) (a:α),Option.map f (some a)=some (f a))∧(∀ {α β:Type} (f:α→Option β) (a:α),(some a).bind f=f a)∧(∀k:Nat,DJ (k:Int)=some k)∧(∀ {α:Type} (x:Option α),gd true x=x)∧(∀n:Nat,0+n=n)∧(∀n:Nat,n+0=n)∧(∀ {α:Type} (a b:α),(bif true then a else b)=a)∧(∀ {α:Type} (a b:α),(bif false then a else b)=b) ∧
  (∀b:Bool,Bool.xor b false=b)∧(!true)=false∧(!false)=true∧(∀ {α:Type} (l:List α),l.drop 0=l)∧(∀ {α:Type} (n:Nat) (a:α) (l:List α),(a::l).drop (n+1)=l.drop n)∧(∀ {α β:Type} (f:α→β) (a:α) (l:List α),(a::l).map f=f a::l.map f)∧(∀ {α β:Type} (f:α→β),([]:List α).map f=[]) :=
 ⟨fun _ _=>rfl,fun _ _=>rfl,fun _ _=>rfl,fun _ _=>rfl,fun _ _=>rfl,fun _ _=>rfl,fun _ _=>rfl,fun _ _=>rfl,fun _ _=>rfl,fun _ _=>rfl,fun _=>rfl,fun _=>rfl,fun n=>Nat.zero_add n,fun _=>rfl,fun _ _=>rfl,fun _ _=>rfl,fun b=>ik b,rfl,rfl,fun _=>rfl,fun _ _ _=>rfl,fun _ _ _=>rfl,fun _=>rfl⟩
theorem Aq{α:Type}{a b:α}(h:a=b:=by simp only[evS,Nat.reduceEqDiff,reduceIte,G];first | done | rfl):a=b:=h
theorem DZ{α:Type}{a b:α}(h:a=b:=by simp only[evS,Nat.reduceEqDiff,reduceIte,ew,G];first | done | rfl):a=b:=h
theorem aPj{α:Type}{a b:α}(h:a=b:=by simp only[evS,Nat.reduceEqDiff,reduceIte,PU,bj,scV,bV,iV,cW,isB,isI,iz,kZ,mkV,G];first | done | rfl):a=b:=h
theorem aPQ{α:Type}{a b:α}(h:a=b:=by simp only[evS,Nat.reduceEqDiff,reduceIte,PU,bj,scV,bV,iV,cW,isB,isI,iz,kZ,mkV,ew,G];first | done | rfl):a=b:=h
theorem aVQ{α:Type}{a b:α}(h:a=b:=by simp only[qk,List.map_nil,List.cons_append,List.nil_append,evS,Nat.reduceEqDiff,reduceIte,G];first | done | rfl):a=b:=h
theorem aTj{α:Type}{a b:α}(h:a=b:=by simp only[qk,List.map_nil,List.cons_append,List.nil_append,evS,Nat.reduceEqDiff,reduceIte,ew,G];first | done | rfl):a=b:=h
theorem EY{R F:Nat→Prop}(h:∀k,R k→F k:=by intro k hk;first | exact False.elim hk | (dsimp only at hk ⊢;omega) | omega):∀k,R k→F k:=h
theorem aOV{e:Opd→V}{s:S}{op:RO}{v:V}{R:Nat→Prop}(h:MS e s op v s R (fun _=>False):=by first | exact MS.load1 Aq (by assumption) (by first | rfl | assumption | (simp only[kw,jw,G];done) | simp) | exact MS.loadI1 Aq | exact MS.loadI2 Aq):MS e s op v s R (fun _=>False):=h
theorem aOK{e:Opd→V}{s:S}{op:RO}{v:V}{R:Nat→Prop}(h:MS e s op v s R (fun _=>False):=by first | exact MS.loadA Aq (by assumption) (by first | rfl | assumption) | exact MS.loadIA Aq rfl rfl):MS e s op v s R (fun _=>False):=h
theorem aOW{e:Opd→V}{s s':S}{op:RO}{v:V}{R W:Nat→Prop}(h:MS e s op v s' R W:=by exact MS.store1 Aq Aq (by assumption) (by first | (simp only[List.length_set,ew,uw,List.length_nil,List.length_replicate,dw];omega) | (simp;done) | omega)):MS e s op v s' R W:=h
theorem aOY{e:Opd→V}{op:RO}{v:V}(h:bj e op=some v:=by first | exact azZ Aq Aq (by first | assumption | omega) | exact W1 Aq Aq (by assumption) | exact Xz Aq Aq (by first | assumption | omega)):bj e op=some v:=h
theorem aGq{e:Opd→V}{s:S}{op:RO}{v:V}{R:Nat→Prop}(h:MS e s op v s R (fun _=>False):=by first | exact MS.load1 DZ (by assumption) (by first | rfl | assumption | (simp only[kw,jw,ew,G];done) | simp) | exact MS.loadI1 DZ | exact MS.loadI2 DZ):MS e s op v s R (fun _=>False):=h
theorem aRY{e:Opd→V}{s s':S}{op:RO}{v:V}{R W:Nat→Prop}(h:MS e s op v s' R W:=by exact MS.store1 DZ DZ (by assumption) (by first | (simp only[List.length_set,ew,uw,List.length_nil,List.length_replicate,dw];omega) | (simp;done) | omega)):MS e s op v s' R W:=h
theorem aSz{e:Opd→V}{op:RO}{v:V}(h:bj e op=some v:=by first | exact azZ DZ DZ (by first | assumption | omega) | exact W1 DZ DZ (by assumption) | exact Xz DZ DZ (by first | assumption | omega)):bj e op=some v:=h
theorem aez{b:Nat}{ds:List Fp}{R W:Nat → Prop}(h:∀x ∈ ds,apO b x R W := by intro x hx;simp only[List.nil_append,List.cons_append,List.mem_cons,List.not_mem_nil,or_false]at hx;first | exact hx.elim | ((first | (rcases hx with rfl) | (rcases hx with rfl | rfl) | (rcases hx with rfl | rfl | rfl) | (rcases hx with rfl | rfl | rfl | rfl) | (rcases hx with rfl | rfl | rfl | rfl | rfl) | (rcases hx with rfl | rfl | rfl | rfl | rfl | rfl) | (rcases hx with rfl | rfl | rfl | rfl | rfl | rfl | rfl) | (rcases hx with rfl | rfl | rfl | rfl | rfl | rfl | rfl | rfl) | (rcases hx with rfl | rfl | rfl | rfl | rfl | rfl | rfl | rfl | rfl) | (rcases hx with rfl | rfl | rfl | rfl | rfl | rfl | rfl | rfl | rfl | rfl) | (rcases hx with rfl | rfl | rfl | rfl | rfl | rfl | rfl | rfl | rfl | rfl | rfl) | (rcases hx with rfl | rfl | rfl | rfl | rfl | rfl | rfl | rfl | rfl | rfl | rfl | rfl) | (rcases hx with rfl | rfl | rfl | rfl | rfl | rfl | rfl | rfl | rfl | rfl | rfl | rfl | rfl) | (rcases hx with rfl | rfl | rfl | rfl | rfl | rfl | rfl | rfl | rfl | rfl | rfl | rfl | rfl | rfl) | (rcases hx with rfl | rfl | rfl | rfl | rfl | rfl | rfl | rfl | rfl | rfl | rfl | rfl | rfl | rfl | rfl))<;>(first | exact .inl (by dsimp only;decide) | (refine .inr fun k => ?_;refine⟨?_,?_,?_⟩<;>(intro hk;(try dsimp only at hk);first | exact hk.1.elim | exact hk.2.elim | omega))))):∀x ∈ ds,apO b x R W := h
theorem pmv{e:Opd→V}{x:Opd}{v:V}(h:e x=v):bj e (.mv x)=some v:=by rw[←h];rfl
theorem lk{Γ:Tr V}{t:Nat}{v:V}(h:look Γ t=v:=by exact Aq):look Γ t=v:=h
section
variable {orc:cK} {T:Tr RF} {F:Nat→Prop} {D:Prop} {d:Option Nat} {m:Nat} {os:List (ROp×Nat)} {Γ:Tr V} {s:S} {Q:Tr V→S→Prop} {v:V}
theorem qV{x:Opd}(h:Sq orc T os (putO d v Γ) s F D Q)(hx:ev Γ x=v:=by exact Aq):Sq orc T ((⟨d,.mv x,none⟩,m)::os) Γ s F D Q:=eV rfl (pmv hx) h
theorem qP{op:RO}(h:Sq orc T os (putO d v Γ) s F D Q)(hp:bj (ev Γ) op=some v:=by exact aPj):Sq orc T ((⟨d,op,none⟩,m)::os) Γ s F D Q:=eV rfl hp h
theorem qX{op:RO}(h:Sq orc T os (putO d v Γ) s F D Q)(hp:bj (ev Γ) op=some v:=by exact aOY):Sq orc T ((⟨d,op,none⟩,m)::os) Γ s F D Q:=eV rfl hp h
theorem qL{op:RO}{R:Nat→Prop}(h:Sq orc T os (putO d v Γ) s F D Q)(hm:MS (ev Γ) s op v s R (fun _=>False):=by exact aOV)(hF:∀k,R k→F k:=by exact EY):Sq orc T ((⟨d,op,none⟩,m)::os) Γ s F D Q:=zx rfl hm hF h
theorem qA{op:RO}{R:Nat→Prop}(h:Sq orc T os (putO d v Γ) s F D Q)(hm:MS (ev Γ) s op v s R (fun _=>False):=by exact aOK)(hF:∀k,R k→F k:=by exact EY):Sq orc T ((⟨d,op,none⟩,m)::os) Γ s F D Q:=zx rfl hm hF h
theorem qT{op:RO}{s':S}{R W:Nat→Prop}(h:Sq orc T os (putO d v Γ) s' F D Q)(hm:MS (ev Γ) s op v s' R W:=by exact aOW)(hF:∀k,R k→F k:=by exact EY):Sq orc T ((⟨d,op,none⟩,m)::os) Γ s F D Q:=zx rfl hm hF h
theorem qC{f:FuncId}{as:List Opd}{args:List V}{F1:Nat→Prop}{Q1:V→S→Prop}(ha:as.map (ev Γ)=args:=by exact aVQ)(hC:Cp orc T f args s F1 D Q1)(h:∀v s',Q1 v s'→Sq orc T os (putO d v Γ) s' F D Q)(hF:∀k,F1 k→F k:=by exact EY):Sq orc T ((⟨d,.call f as,none⟩,m)::os) Γ s F D Q:=asJ rfl ha (Cp.mono hC hF (fun h=>h) h)
variable {b:Nat} {tab:List Nat} {i:Nat} {ds:List Fp} {k:Tr V→S→Prop}
theorem rV{x:Opd}(h:Dr orc T F D os tab (i+1) ds (putO d v Γ) s k)(hx:ev Γ x=v:=by exact Aq):Dr orc T F D ((⟨d,.mv x,none⟩,m)::os) (b::tab) i ds Γ s k:=ej rfl (pmv hx) h
theorem rP{op:RO}(h:Dr orc T F D os tab (i+1) ds (putO d v Γ) s k)(hp:bj (ev Γ) op=some v:=by exact aPj):Dr orc T F D ((⟨d,op,none⟩,m)::os) (b::tab) i ds Γ s k:=ej rfl hp h
theorem rX{op:RO}(h:Dr orc T F D os tab (i+1) ds (putO d v Γ) s k)(hp:bj (ev Γ) op=some v:=by exact aOY):Dr orc T F D ((⟨d,op,none⟩,m)::os) (b::tab) i ds Γ s k:=ej rfl hp h
theorem rL{op:RO}{R:Nat→Prop}(h:Dr orc T F D os tab (i+1) (ds++[⟨i,R,fun _=>False⟩]) (putO d v Γ) s k)(hm:MS (ev Γ) s op v s R (fun _=>False):=by exact aOV)(hF:∀k,R k→F k:=by exact EY)(ha:∀x∈ds,apO b x R (fun _=>False):=by exact aez):Dr orc T F D ((⟨d,op,none⟩,m)::os) (b::tab) i ds Γ s k:=tQ rfl hm hF ha h
theorem rA{op:RO}{R:Nat→Prop}(h:Dr orc T F D os tab (i+1) (ds++[⟨i,R,fun _=>False⟩]) (putO d v Γ) s k)(hm:MS (ev Γ) s op v s R (fun _=>False):=by exact aOK)(hF:∀k,R k→F k:=by exact EY)(ha:∀x∈ds,apO b x R (fun _=>False):=by exact aez):Dr orc T F D ((⟨d,op,none⟩,m)::os) (b::tab) i ds Γ s k:=tQ rfl hm hF ha h
theorem rT{op:RO}{s':S}{R W:Nat→Prop}(h:Dr orc T F D os tab (i+1) (ds++[⟨i,R,W⟩]) (putO d v Γ) s' k)(hm:MS (ev Γ) s op v s' R W:=by exact aOW)(hF:∀k,R k→F k:=by exact EY)(ha:∀x∈ds,apO b x R W:=by exact aez):Dr orc T F D ((⟨d,op,none⟩,m)::os) (b::tab) i ds Γ s k:=tQ rfl hm hF ha h
theorem qM{op:RO}{s':S}{R W:Nat→Prop}(hm:MS (ev Γ) s op v s' R W)(h:Sq orc T os (putO d v Γ) s' F D Q)(hF:∀k,R k→F k:=by exact EY):Sq orc T ((⟨d,op,none⟩,m)::os) Γ s F D Q:=zx rfl hm hF h
theorem rM{op:RO}{s':S}{R W:Nat→Prop}(hm:MS (ev Γ) s op v s' R W)(h:Dr orc T F D os tab (i+1) (ds++[⟨i,R,W⟩]) (putO d v Γ) s' k)(hF:∀k,R k→F k:=by exact EY)(ha:∀x∈ds,apO b x R W:=by exact aez):Dr orc T F D ((⟨d,op,none⟩,m)::os) (b::tab) i ds Γ s k:=tQ rfl hm hF ha h
end
theorem lkL{Γ:Tr V}{t:Nat}{v:V}(h:look Γ t=v:=by exact DZ):look Γ t=v:=h
section
variable {orc:cK} {T:Tr RF} {F:Nat→Prop} {D:Prop} {d:Option Nat} {m:Nat} {os:List (ROp×Nat)} {Γ:Tr V} {s:S} {Q:Tr V→S→Prop} {v:V}
theorem qVL{x:Opd}(h:Sq orc T os (putO d v Γ) s F D Q)(hx:ev Γ x=v:=by exact DZ):Sq orc T ((⟨d,.mv x,none⟩,m)::os) Γ s F D Q:=eV rfl (pmv hx) h
theorem qPL{op:RO}(h:Sq orc T os (putO d v Γ) s F D Q)(hp:bj (ev Γ) op=some v:=by exact aPQ):Sq orc T ((⟨d,op,none⟩,m)::os) Γ s F D Q:=eV rfl hp h
theorem qXL{op:RO}(h:Sq orc T os (putO d v Γ) s F D Q)(hp:bj (ev Γ) op=some v:=by exact aSz):Sq orc T ((⟨d,op,none⟩,m)::os) Γ s F D Q:=eV rfl hp h
theorem qLL{op:RO}{R:Nat→Prop}(h:Sq orc T os (putO d v Γ) s F D Q)(hm:MS (ev Γ) s op v s R (fun _=>False):=by exact aGq)(hF:∀k,R k→F k:=by exact EY):Sq orc T ((⟨d,op,none⟩,m)::os) Γ s F D Q:=zx rfl hm hF h
theorem qTL{op:RO}{s':S}{R W:Nat→Prop}(h:Sq orc T os (putO d v Γ) s' F D Q)(hm:MS (ev Γ) s op v s' R W:=by exact aRY)(hF:∀k,R k→F k:=by exact EY):Sq orc T ((⟨d,op,none⟩,m)::os) Γ s F D Q:=zx rfl hm hF h
theorem qCL{f:FuncId}{as:List Opd}{args:List V}{F1:Nat→Prop}{Q1:V→S→Prop}(ha:as.map (ev Γ)=args:=by exact aTj)(hC:Cp orc T f args s F1 D Q1)(h:∀v s',Q1 v s'→Sq orc T os (putO d v Γ) s' F D Q)(hF:∀k,F1 k→F k:=by exact EY):Sq orc T ((⟨d,.call f as,none⟩,m)::os) Γ s F D Q:=asJ rfl ha (Cp.mono hC hF (fun h=>h) h)
variable {b:Nat} {tab:List Nat} {i:Nat} {ds:List Fp} {k:Tr V→S→Prop}
theorem rVL{x:Opd}(h:Dr orc T F D os tab (i+1) ds (putO d v Γ) s k)(hx:ev Γ x=v:=by exact DZ):Dr orc T F D ((⟨d,.mv x,none⟩,m)::os) (b::tab) i ds Γ s k:=ej rfl (pmv hx) h
theorem rPL{op:RO}(h:Dr orc T F D os tab (i+1) ds (putO d v Γ) s k)(hp:bj (ev Γ) op=some v:=by exact aPQ):Dr orc T F D ((⟨d,op,none⟩,m)::os) (b::tab) i ds Γ s k:=ej rfl hp h
theorem rLL{op:RO}{R:Nat→Prop}(h:Dr orc T F D os tab (i+1) (ds++[⟨i,R,fun _=>False⟩]) (putO d v Γ) s k)(hm:MS (ev Γ) s op v s R (fun _=>False):=by exact aGq)(hF:∀k,R k→F k:=by exact EY)(ha:∀x∈ds,apO b x R (fun _=>False):=by exact aez):Dr orc T F D ((⟨d,op,none⟩,m)::os) (b::tab) i ds Γ s k:=tQ rfl hm hF ha h
end
end Go.RM
