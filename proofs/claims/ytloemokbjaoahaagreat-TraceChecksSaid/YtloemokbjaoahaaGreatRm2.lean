/- The raw machine, in parts: a walk that is reckoned, jV an explicit memory. -/
import Derived.Test.YtloemokbjaoahaaGreatRm1
import Derived.Lib.Bytealg
import Derived.Laws.Externs
import Derived.KernelRfl
import Derived.MapFrom
import Derived.Maps.RangeRun
import Derived.RangeFuncLeaves
import Derived.RangeFuncCalls
import Derived.LoopNIn
import Derived.OrdersIn
import Derived.TacticsIn
namespace Go.RM
noncomputable section
open Go.VM (Pt Fr)
structure Tra(call:qX)(os:List (ROp×Nat))(tab:List Nat)(i0:Nat)(Γs:Nat→Tr V)(ss:Nat→S)(rs ws:Nat→Nat):Prop where
 step:∀(k:Nat) o,os[k]? = some o→∃t,PZ call o.1 (Γs k) {ss k with w:=0}=some ([(Γs (k+1),t)],rs k)∧ss (k+1) = {t with w:=Nat.lor (ss k).w t.w}∧ws k=t.w
 apart:∀(j k:Nat) oj ok b,j<k→os[j]? = some oj→os[k]? = some ok→tab[k]? = some b→Wj b ⟨i0+j,oj.2,H9 oj.1.dst,rs j,ws j⟩ ⟨i0+k,ok.2,H9 ok.1.dst,rs k,ws k⟩=true
 tabs:∀(k:Nat) o,os[k]? = some o→∃b,tab[k]? = some b
theorem Z2{call:qX}:∀(os:List (ROp×Nat)) (tab:List Nat) (i:Nat) (ds:List Did) (Γ:Tr V) (s:S) (r0:Nat) (outs:List (Tr V×S)) (re:Nat),PX call os tab i ds Γ s r0=some (outs,re) →
  ∃Γs ss rs ws,Γs 0=Γ∧ss 0=s∧outs=[(Γs os.length,ss os.length)]∧Tra call os tab i Γs ss rs ws∧(∀k,k<os.length→∀n,(rs k).testBit n=true→re.testBit n=true)∧(∀n,r0.testBit n=true→re.testBit n=true) ∧
   ∀(k:Nat) ok b,os[k]? = some ok→tab[k]? = some b→∀d∈ds,Wj b d ⟨i+k,ok.2,H9 ok.1.dst,rs k,ws k⟩=true
 | [],tab,i,ds,Γ,s,r0,outs,re,h=>by
  simp only[PX]at h
  cases h
  exact⟨fun _=>Γ,fun _=>s,fun _=>0,fun _=>0,rfl,rfl,rfl,⟨fun k o hk=>by simp at hk,fun j k oj ok b _ hj=>by simp at hj,fun k o hk=>by simp at hk⟩,fun k hk=>by simp at hk,fun n hn=>hn,fun k ok b hk=>by simp at hk⟩
 | o::os,tab,i,ds,Γ,s,r0,outs,re,h=>by
  cases tab with
  | nil=>simp[PX]at h
  | cons b tab =>
   simp only[PX]at h
   split at h
   ·rename_i Γ' s' r' hst
    cases hall:ds.all (fun x=>Wj b x ⟨i,o.2,H9 o.1.dst,r',s'.w⟩)with
    | false=>simp[hall]at h
    | true =>
     simp only[hall,cond_true]at h
     obtain⟨Γs,ss,rs,ws,e1,e2,e3,ht,hr,hr0,hd⟩:=Z2 os tab (i+1) _ Γ' _ _ outs re h
     refine⟨fun k => match k with | 0 => Γ | k+1 => Γs k,fun k => match k with | 0 => s | k+1 => ss k,fun k => match k with | 0 => r' | k+1 => rs k,fun k => match k with | 0 => s'.w | k+1 => ws k,rfl,rfl,?_,⟨?_,?_,?_⟩,?_,?_,?_⟩
     ·simpa using e3
     ·intro k o' hk
      cases k with
      | zero =>
       simp only[List.getElem?_cons_zero,bw]at hk
       subst hk
       exact⟨s',by show PZ call o.1 Γ {s with w:=0}=some ([(Γs 0,s')],r');rw[e1];exact hst,by show ss 0 = {s' with w:=Nat.lor s.w s'.w};rw[e2],rfl⟩
      | succ k =>
       exact ht.step k o' (by simpa using hk)
     ·intro j k oj ok b' hjk hj hk hb
      cases k with
      | zero=>omega
      | succ k =>
       simp only[List.getElem?_cons_succ]at hk hb
       cases j with
       | zero =>
        simp only[List.getElem?_cons_zero,bw]at hj
        subst hj
        have:=hd k ok b' hk hb ⟨i,o.2,H9 o.1.dst,r',s'.w⟩ (by simp)
        have e:i+(k+1)=i+1+k:=by omega
        rw[e]
        exact this
       | succ j =>
        simp only[List.getElem?_cons_succ]at hj
        have:=ht.apart j k oj ok b' (by omega) hj hk hb
        have e:i+(k+1)=i+1+k:=by omega
        have e':i+(j+1)=i+1+j:=by omega
        rw[e,e']
        exact this
     ·intro k o' hk
      cases k with
      | zero=>exact⟨b,rfl⟩
      | succ k=>simpa using ht.tabs k o' (by simpa using hk)
     ·intro k hk n hn
      cases k with
      | zero=>exact hr0 n (RY hn)
      | succ k=>exact hr k (by simpa using hk) n hn
     ·intro n hn;exact hr0 n (M6 hn)
     ·intro k ok b' hk hb d hdm
      cases k with
      | zero =>
       simp only[List.getElem?_cons_zero,bw]at hk hb
       subst hk;subst hb
       exact lw.1 hall d hdm
      | succ k =>
       simp only[List.getElem?_cons_succ]at hk hb
       have:=hd k ok b' hk hb d (jk.2 (.inl hdm))
       have e:i+(k+1)=i+1+k:=by omega
       rw[e]
       exact this
   ·simp at h
theorem T6{a b n:Nat}(h:Nat.beq (Nat.land a b) 0=true)(ha:a.testBit n=true)(hb:b.testBit n=true):False:=by
 have h0:=AV h
 have:(Nat.land a b).testBit n=true:=by
  show(a &&& b).testBit n=true
  rw[Nat.testBit_and,ha,hb];rfl
 rw[h0]at this;simp at this
structure Tx(x y:Did):Prop where
 twr:∀n,x.tw.testBit n=true→y.tr.testBit n=true→False
 trw:∀n,y.tw.testBit n=true→x.tr.testBit n=true→False
 tww:∀n,x.tw.testBit n=true→y.tw.testBit n=true→False
 wr:∀n,x.w.testBit n=true→y.r.testBit n=true→False
 rw':∀n,y.w.testBit n=true→x.r.testBit n=true→False
 ww:∀n,x.w.testBit n=true→y.w.testBit n=true→False
theorem aIq{b:Nat}{x y:Did}(h:Wj b x y=true):b.testBit x.i=true∨Tx x y:=by
 unfold Wj at h
 simp only[Bool.or_eq_true,cw]at h
 rcases h with h | ⟨h1,h2,h3,h4,h5,h6⟩
 ·exact .inl h
 ·exact .inr ⟨fun n=>T6 h1,fun n=>T6 h2,fun n=>T6 h3,fun n=>T6 h4,fun n=>T6 h5,fun n=>T6 h6⟩
theorem aTJ{p q:Nat→Bool}{i:Nat}(hp:∀j,p j=(q j && !decide (j=i)))(hi:q i=true):∀(l:List Nat),i∈l→(l.filter p).length<(l.filter q).length:=by
 have mono:∀(l:List Nat),(l.filter p).length≤(l.filter q).length:=by
  intro l
  induction l with
  | nil=>simp
  | cons z l ihz =>
   simp only[List.filter_cons,hp z]
   cases h1:q z<;>cases h2:decide (z=i)<;>simp[h1,h2]<;>omega
 intro l
 induction l with
 | nil=>intro h;simp at h
 | cons y l ihl =>
  intro hm
  by_cases e:y=i
  ·subst e
   have:=mono l
   simp only[List.filter_cons,hp y,hi]
   simp
   omega
  ·have:=ihl ((iw.1 hm).resolve_left fun h=>e h.symm)
   simp only[List.filter_cons,hp y]
   cases h1:q y<;>simp[h1,e]<;>omega
structure W8(ops:Array Oper):Prop where
 edge:∀i,i<ops.size→∀e∈(ops.getD i default).after.toList,Region.binds .any e=true→e.on<i
 table:∀i,i<ops.size→∀a,a<ops.size→((Region.before ops).getD i 0).testBit a=true→∃e∈(ops.getD i default).after.toList,Region.binds .any e=true∧(a=e.on∨((Region.before ops).getD e.on 0).testBit a=true)
theorem aKJ{ops:Array Oper}(h:aHV ops=true):W8 ops:=by
 simp only[aHV,cw,decide_eq_true_eq,lw,List.mem_range,Bool.or_eq_true,mw,List.any_eq_true,beq_iff_eq]at h
 obtain⟨h2,h3⟩:=h
 refine⟨fun i hi e he hb=>?_,fun i hi a ha hb=>?_⟩
 ·rcases h2 i hi e he with h | h
  ·rw[hb]at h;simp at h
  ·exact h
 ·rcases h3 i hi a ha with h | h
  ·rw[hb]at h;simp at h
  ·obtain⟨e,he,h6,h7⟩:=h;exact⟨e,he,h6,h7⟩
section
variable {P:Program} {w0:World} {g h2:Hp} {a:Act} {w:World} {call:qX}
theorem ZX(hcall:L9 P w0 call)(hinv:Fz call){fr:Option Nat}{dn:Nat}{ds:List Deferred}{n:Nat}{φ0:Ren}{ops:Array Oper}{vl:List (ROp×Nat)}(hm:ops.toList.mapM (tY P n ops)=some vl)(hok:W8 ops)
  {Γs:Nat→Tr V} {ss:Nat→S} {rs ws:Nat→Nat} (ht:Tra call vl (LZ ops) 0 Γs ss rs ws) (hr:∀k,k<vl.length→∀n,(rs k).testBit n=true→h2 n=g n) (hi:Inv g (ss 0)) {Q:Exit→Act→World→Prop}
  (hk:∀a' w',StR ds w0 n g h2 φ0 (look (Γs vl.length)) (ss vl.length) a' w'→Q .normal a' w') :
  ∀(fuel:Nat) (listed:Array Bool) (φ:Ren) (a:Act) (w:World),listed.size=ops.size→((List.range ops.size).filter fun i=>!listed.getD i false).length≤fuel →
   (∀j,j<ops.size→listed.getD j false=true→∀b,b<ops.size→((Region.before ops).getD j 0).testBit b=true→listed.getD b false=true) →
   φ0.le φ→EnvR φ a (cur (fun k t=>look (Γs k) t) (fun k t=>(H9 ((vl.getD k default).1.dst)).testBit t) ops.size (look (Γs 0)) (fun j=>listed.getD j false)) →
   Rel w0 φ (cur (fun k n=>(ss k).h.get n) (fun k n=>(ws k).testBit n) ops.size (jV h2 (ss 0)) (fun j=>listed.getD j false)) w→a.defers=ds→n≤a.tmps.size→wpAnyIn (FW fr) dn P .any ops Q fuel listed a w:=by
 have hlen:vl.length=ops.size:=by
  have:∀(l:List Oper) (vl:List (ROp×Nat)),l.mapM (tY P n ops)=some vl→vl.length=l.length:=by
   intro l
   induction l with
   | nil=>intro vl h;simp at h;subst h;rfl
   | cons x l ih =>
    intro vl h
    simp only[List.mapM_cons,Option.bind_eq_bind,Option.pure_def]at h
    cases hx:tY P n ops x with
    | none=>simp[hx]at h
    | some y =>
     cases hr:l.mapM (tY P n ops)with
     | none=>simp[hx,hr]at h
     | some r=>simp[hx,hr]at h;subst h;simp[ih r hr]
  rw[this _ _ hm,Array.length_toList]
 have d6:∀i,i<ops.size→∃p,vl[i]? = some p∧OpC P n ops (ops.getD i default) p.1 p.2:=by
  intro i hi
  have:∀(l:List Oper) (vl:List (ROp×Nat)),l.mapM (tY P n ops)=some vl→∀(i:Nat) o,l[i]? = some o→∃vo,vl[i]? = some vo∧tY P n ops o=some vo:=by
   intro l
   induction l with
   | nil=>intro vl h i o hi;simp at hi
   | cons x l ih =>
    intro vl h i o hi
    simp only[List.mapM_cons,Option.bind_eq_bind,Option.pure_def]at h
    cases hx:tY P n ops x with
    | none=>simp[hx]at h
    | some y =>
     cases hr:l.mapM (tY P n ops)with
     | none=>simp[hx,hr]at h
     | some r =>
      simp[hx,hr]at h
      subst h
      cases i with
      | zero=>simp at hi;subst hi;exact⟨y,rfl,hx⟩
      | succ i=>simpa using ih r hr i o (by simpa using hi)
  obtain⟨p,h1,h2⟩:=this _ _ hm i (ops.getD i default) (by simp[Array.getD,hi])
  exact⟨p,h1,amZ h2⟩
 have htab:∀i,i<ops.size→(LZ ops)[i]? = some ((Region.before ops).getD i 0):=by
  intro i hi
  simp[LZ,hi]
 have hstW:∀k n,k<ops.size→(ws k).testBit n=false→(ss (k+1)).h.get n=(ss k).h.get n:=by
  intro k n hk hw
  obtain⟨p,hp,_⟩:=d6 k hk
  obtain⟨t,h1,h2,h3⟩:=ht.step k p hp
  have:=TK (g:=(ss k).h.get) hinv h1 (fun _ _=>rfl) _ (ew.2 rfl)
  rw[h2]
  exact this n (by rw[←h3];exact hw)
 have hstE:∀k t,k<ops.size→(H9 ((vl.getD k default).1.dst)).testBit t=false→look (Γs (k+1)) t=look (Γs k) t:=by
  intro k t hk hw
  obtain⟨p,hp,_⟩:=d6 k hk
  obtain⟨t',h1,h2,h3⟩:=ht.step k p hp
  obtain⟨x,hx⟩:=aNq h1 _ (ew.2 rfl)
  simp only at hx
  rw[hx,aoz]
  unfold apz
  have : ¬p.1.dst=some t:=fun e=>by
   have:=(ZY p.1.dst t).2 e
   simp only[List.getD,hp,Option.getD_some]at hw
   rw[this]at hw;simp at hw
  simp[this]
 have hpair:∀j k,j<k→k<ops.size→((Region.before ops).getD k 0).testBit j=true∨Tx ⟨j,(vl.getD j default).2,H9 (vl.getD j default).1.dst,rs j,ws j⟩ ⟨k,(vl.getD k default).2,H9 (vl.getD k default).1.dst,rs k,ws k⟩:=by
  intro j k hjk hk
  obtain⟨pj,hj,_⟩:=d6 j (by omega)
  obtain⟨pk,hkk,_⟩:=d6 k hk
  have:=aIq (ht.apart j k pj pk _ hjk hj hkk (htab k hk))
  simp only[List.getD,hj,hkk,Option.getD_some]
  simpa only[Nat.zero_add]using this
 have hwS:∀k,k≤ops.size→∀n,(ss k).w.testBit n=true↔(ss 0).w.testBit n=true∨∃m,m<k∧(ws m).testBit n=true:=by
  intro k
  induction k with
  | zero=>intro _ n;simp
  | succ k ih =>
   intro hk n
   obtain⟨p,hp,_⟩:=d6 k (by omega)
   obtain⟨t,h1,h2,h3⟩:=ht.step k p hp
   rw[h2]
   simp only[JX,Bool.or_eq_true]
   rw[ih (by omega) n,←h3]
   constructor
   ·rintro ((h | ⟨m,hm,h⟩) | h)
    ·exact .inl h
    ·exact .inr ⟨m,by omega,h⟩
    ·exact .inr ⟨k,by omega,h⟩
   ·rintro (h | ⟨m,hm,h⟩)
    ·exact .inl (.inl h)
    ·by_cases e:m=k
     ·subst e;exact .inr h
     ·exact .inl (.inr ⟨m,by omega,h⟩)
 have ready_of:∀(listed:Array Bool) i,listed.size=ops.size→(i∈Region.ready .any ops listed↔i<ops.size∧listed.getD i false=false∧∀e∈(ops.getD i default).after.toList,Region.binds .any e=true→listed.getD e.on false=true):=by
  intro listed i hs
  simp only[Region.ready,List.mem_filter,List.mem_range,cw,mw]
  constructor
  ·rintro⟨h1,h2,h3⟩
   refine⟨h1,?_,fun e he hb=>?_⟩
   ·have:i<listed.size:=by omega
    simpa[Array.getD,this]using h2
   ·simp only[Array.getElem?_eq_getElem h1,Option.map_some,Option.getD_some,Array.all_eq_true']at h3
    have:=h3 e (by simpa[Array.getD,h1]using he)
    simpa[hb]using this
  ·rintro⟨h1,h2,h3⟩
   refine⟨h1,?_,?_⟩
   ·have:i<listed.size:=by omega
    simpa[Array.getD,this]using h2
   ·simp only[Array.getElem?_eq_getElem h1,Option.map_some,Option.getD_some,Array.all_eq_true']
    intro e he
    by_cases hb:Region.binds .any e=true
    ·have:=h3 e (by simpa[Array.getD,h1]using he) hb
     simp[this]
    ·simp[hb]
 have done_of:∀(listed:Array Bool),listed.size=ops.size→Region.ready .any ops listed=[]→∀j,j<ops.size→listed.getD j false=true:=by
  intro listed hs hr j
  induction j using Nat.strongRecOn with
  | _ j ih =>
   intro hj
   cases hb:listed.getD j false with
   | true=>rfl
   | false =>
    exfalso
    have hready:j∈Region.ready .any ops listed:=by
     rw[ready_of _ _ hs]
     refine⟨hj,hb,fun e he hbe=>?_⟩
     have hlt:=hok.edge j hj e he hbe
     exact ih e.on hlt (by omega)
    rw[hr]at hready
    simp at hready
 have fin:∀(listed:Array Bool) (φ:Ren) (a:Act) (w:World),(∀j,j<ops.size→listed.getD j false=true)→φ0.le φ→EnvR φ a (cur (fun k t=>look (Γs k) t) (fun k t=>(H9 ((vl.getD k default).1.dst)).testBit t) ops.size (look (Γs 0)) (fun j=>listed.getD j false)) →
   Rel w0 φ (cur (fun k n=>(ss k).h.get n) (fun k n=>(ws k).testBit n) ops.size (jV h2 (ss 0)) (fun j=>listed.getD j false)) w→a.defers=ds→n≤a.tmps.size→Q .normal a w:=by
  intro listed φ a w hall hle he R hd hs
  refine hk a w ⟨φ,hle,?_,?_,?_,hd,hs⟩
  ·have:cur (fun k t=>look (Γs k) t) (fun k t=>(H9 ((vl.getD k default).1.dst)).testBit t) ops.size (look (Γs 0)) (fun j=>listed.getD j false)=look (Γs vl.length):=by
    funext t
    rw[hlen]
    rcases aOZ (f := fun k t => look (Γs k) t) (Wr := fun k t => (H9 ((vl.getD k default).1.dst)).testBit t) (base := look (Γs 0)) (L := fun j => listed.getD j false) (n := t) hstE hall with⟨h,_⟩ | ⟨h,_,h2⟩
    ·exact h
    ·rw[h];exact h2.symm
   rw[←this];exact he
  ·have:cur (fun k n=>(ss k).h.get n) (fun k n=>(ws k).testBit n) ops.size (jV h2 (ss 0)) (fun j=>listed.getD j false)=jV h2 (ss vl.length):=by
    funext n
    rw[hlen]
    rcases aOZ (f := fun k n => (ss k).h.get n) (Wr := fun k n => (ws k).testBit n) (base := jV h2 (ss 0)) (L := fun j => listed.getD j false) (n := n) hstW hall with⟨h,m,hm,hw⟩ | ⟨h,hno,h2'⟩
    ·rw[h]
     unfold jV
     rw[(hwS ops.size (kw _) n).2 (.inr ⟨m,hm,hw⟩)]
     rfl
    ·rw[h]
     unfold jV
     have e:(ss ops.size).w.testBit n=(ss 0).w.testBit n:=by
      rw[Bool.eq_iff_iff,hwS ops.size (kw _) n]
      constructor
      ·rintro (h | ⟨m,hm,h⟩)
       ·exact h
       ·rw[hno m hm]at h;simp at h
      ·exact .inl
     rw[e]
     rw[h2']
   rw[←this];exact R
  ·rw[hlen]
   intro n hn
   have hno:∀m,m<ops.size→(ws m).testBit n=false:=fun m hm=>by
    cases h:(ws m).testBit n with
    | false=>rfl
    | true=>rw[(hwS ops.size (kw _) n).2 (.inr ⟨m,hm,h⟩)]at hn;simp at hn
   have h0:(ss 0).w.testBit n=false:=by
    cases h:(ss 0).w.testBit n with
    | false=>rfl
    | true=>rw[(hwS ops.size (kw _) n).2 (.inl h)]at hn;simp at hn
   have:=Z8 (f:=fun k n=>(ss k).h.get n) (n:=n) hstW ops.size 0 (by omega) (fun j _ hj=>hno j (by omega))
   rw[Nat.zero_add]at this
   rw[this];exact hi n h0
 intro fuel
 induction fuel with
 | zero =>
  intro listed φ a w hs hf hcl hle he R hd hsz
  have hall:∀j,j<ops.size→listed.getD j false=true:=by
   intro j hj
   have hnil:=dk (Nat.le_zero.1 hf)
   rw[List.filter_eq_nil_iff]at hnil
   have:=hnil j (List.mem_range.2 hj)
   simpa using this
  refine⟨?_,fin listed φ a w hall hle he R hd hsz⟩
  cases hrd:Region.ready .any ops listed with
  | nil=>rfl
  | cons i r =>
   exfalso
   have hi:i∈Region.ready .any ops listed:=by rw[hrd];simp
   rw[ready_of _ _ hs]at hi
   have:=hall i hi.1
   rw[hi.2.1]at this;simp at this
 | succ fuel ih =>
  intro listed φ a w hs hf hcl hle he R hd hsz
  refine⟨fun hrd=>fin listed φ a w (done_of listed hs hrd) hle he R hd hsz,fun i hi=>?_⟩
  rw[ready_of _ _ hs]at hi
  obtain⟨hil,hiu,hie⟩:=hi
  have htest:∀b,b<ops.size→((Region.before ops).getD i 0).testBit b=true→listed.getD b false=true:=by
   intro b hb ht
   obtain⟨e,he,hbe,hor⟩:=hok.table i hil b hb ht
   have hlist:=hie e he hbe
   have hon:e.on<ops.size:=by have:=hok.edge i hil e he hbe;omega
   rcases hor with rfl | hor
   ·exact hlist
   ·exact hcl e.on hon hlist b hb hor
  obtain⟨p,hp,hc⟩:=d6 i hil
  have hpD:vl.getD i default=p:=by simp[List.getD,hp]
  obtain⟨t,hst,hs2,hws⟩:=ht.step i p hp
  have before:∀j,j<i→(listed.getD j false=true)∨Tx ⟨j,(vl.getD j default).2,H9 (vl.getD j default).1.dst,rs j,ws j⟩ ⟨i,p.2,H9 p.1.dst,rs i,ws i⟩:=by
   intro j hj
   rcases hpair j i hj hil with h | h
   ·exact .inl (htest j (by omega) h)
   ·rw[hpD]at h;exact .inr h
  have behind:∀m,i<m→m<ops.size→listed.getD m false=true→Tx ⟨i,p.2,H9 p.1.dst,rs i,ws i⟩ ⟨m,(vl.getD m default).2,H9 (vl.getD m default).1.dst,rs m,ws m⟩:=by
   intro m hm hml hlm
   rcases hpair i m hm hml with h | h
   ·have:=hcl m hml hlm i hil h
    rw[hiu]at this;simp at this
   ·rw[hpD]at h;exact h
  have hag:∀q,p.2.testBit q=true→cur (fun k t=>look (Γs k) t) (fun k t=>(H9 ((vl.getD k default).1.dst)).testBit t) ops.size (look (Γs 0)) (fun j=>listed.getD j false) q=look (Γs i) q:=by
   intro q hq
   refine aFJ (f:=fun k t=>look (Γs k) t) (Wr:=fun k t=>(H9 ((vl.getD k default).1.dst)).testBit t) hstE hil rfl (fun j hj hw=>?_) (fun m hm hml hlm=>?_) hiu
   ·rcases before j hj with h | h
    ·exact h
    ·exact(h.twr q hw hq).elim
   ·cases hw:(H9 ((vl.getD m default).1.dst)).testBit q with
    | false=>rfl
    | true=>exact((behind m hm hml hlm).trw q hw hq).elim
  have hread:∀n,(rs i).testBit n=true→cur (fun k n=>(ss k).h.get n) (fun k n=>(ws k).testBit n) ops.size (jV h2 (ss 0)) (fun j=>listed.getD j false) n=(ss i).h.get n:=by
   intro n hn
   refine aFJ (f:=fun k n=>(ss k).h.get n) (Wr:=fun k n=>(ws k).testBit n) hstW hil ?_ (fun j hj hw=>?_) (fun m hm hml hlm=>?_) hiu
   ·exact lz hi (hr i (by omega) n hn)
   ·rcases before j hj with h | h
    ·exact h
    ·exact(h.wr n hw hn).elim
   ·cases hw:(ws m).testBit n with
    | false=>rfl
    | true=>exact((behind m hm hml hlm).rw' n hw hn).elim
  have hlist':(fun j=>(listed.setIfInBounds i true).getD j false)=fun j=>decide (j=i)||listed.getD j false:=by
   funext j
   simp only[Array.getD_eq_getD_getElem?,Array.getElem?_setIfInBounds]
   by_cases e:i=j
   ·subst e
    have:i<listed.size:=by omega
    simp[this]
   ·have e' : ¬j=i:=fun x=>e x.symm
    simp[e,e']
  have hov0:∀(H:Hp) (s:S),jV H {s with w:=0}=H:=by
   intro H s;funext n;simp[jV]
  have next:∀x v φ' w',Γs (i+1)=putO p.1.dst x (Γs i)→φ.le φ'→Rel w0 φ' (jV (cur (fun k n=>(ss k).h.get n) (fun k n=>(ws k).testBit n) ops.size (jV h2 (ss 0)) (fun j=>listed.getD j false)) t) w'→RepV φ' v x →
    wpAnyIn (FW fr) dn P .any ops Q fuel (listed.setIfInBounds i true) (a.put (ops.getD i default).dst v) w':=by
   intro x v φ' w' hx hle' R' hrep
   refine ih _ φ' _ w' (by simpa using hs) ?_ ?_ (Ren.le_trans hle hle') ?_ ?_ (by rw[(XW _ _ _).2];exact hd) (by rw[(XW _ _ _).1];exact hsz)
   ·have hsub:∀j,(!(listed.setIfInBounds i true).getD j false)=((!listed.getD j false) && !decide (j=i)):=by
     intro j
     have:=congrFun hlist' j
     rw[this]
     cases decide (j=i)<;>cases listed.getD j false<;>rfl
    exact Nat.le_of_lt_succ (Nat.lt_of_lt_of_le (aTJ hsub (by rw[hiu];rfl) _ (List.mem_range.2 hil)) hf)
   ·intro j hj hl b hb htb
    have hl':=congrFun hlist' j
    have hb':=congrFun hlist' b
    rw[hl']at hl
    rw[hb']
    simp only[Bool.or_eq_true,decide_eq_true_eq]at hl ⊢
    rcases hl with rfl | hl
    ·exact .inr (htest b hb htb)
    ·exact .inr (hcl j hj hl b hb htb)
   ·rw[hlist']
    have:cur (fun k t=>look (Γs k) t) (fun k t=>(H9 ((vl.getD k default).1.dst)).testBit t) ops.size (look (Γs 0)) (fun j=>decide (j=i)||listed.getD j false)=apz (ops.getD i default).dst x (cur (fun k t=>look (Γs k) t) (fun k t=>(H9 ((vl.getD k default).1.dst)).testBit t) ops.size (look (Γs 0)) (fun j=>listed.getD j false)):=by
     funext q
     rw[aOV hil (fun m hm hml hlm hw=>by
      cases hw2:(H9 ((vl.getD m default).1.dst)).testBit q with
      | false=>rfl
      | true=>rw[hpD]at hw;exact((behind m hm hml hlm).tww q hw hw2).elim) hiu]
     rw[hpD]
     unfold apz
     rw[←hc.dst]
     by_cases e:p.1.dst=some q
     ·rw[if_pos ((ZY _ _).2 e),if_pos e,hx,aoz]
      simp[apz,e]
     ·have e' : ¬(H9 p.1.dst).testBit q=true:=fun h=>e ((ZY _ _).1 h)
      rw[if_neg e',if_neg e]
    rw[this]
    exact(he.mono hle').put hrep fun q hq=>Nat.lt_of_lt_of_le (hc.lt q hq) hsz
   ·rw[hlist']
    have:cur (fun k n=>(ss k).h.get n) (fun k n=>(ws k).testBit n) ops.size (jV h2 (ss 0)) (fun j=>decide (j=i)||listed.getD j false)=jV (cur (fun k n=>(ss k).h.get n) (fun k n=>(ws k).testBit n) ops.size (jV h2 (ss 0)) (fun j=>listed.getD j false)) t:=by
     funext q
     rw[aOV hil (fun m hm hml hlm hw=>by
      cases hw2:(ws m).testBit q with
      | false=>rfl
      | true=>exact((behind m hm hml hlm).ww q hw hw2).elim) hiu]
     unfold jV
     rw[hs2,hws]
     cases t.w.testBit q<;>simp
    rw[this];exact R'
  have hoi:ops[i]? = some (ops.getD i default):=by simp[Array.getD,hil]
  unfold wpOpIn
  rw[hoi]
  simp only
  have R0:Rel w0 φ (jV (cur (fun k n=>(ss k).h.get n) (fun k n=>(ws k).testBit n) ops.size (jV h2 (ss 0)) (fun j=>listed.getD j false)) {ss i with w:=0}) w:=by rw[hov0];exact R
  rcases Mq (g:=(ss i).h.get) hcall R0 (fun _ _=>rfl) he hc hag hst hread (next:=wpAnyIn (FW fr) dn P .any ops Q fuel (listed.setIfInBounds i true)) (Q:=Q) (fun q hq x v φ' w' hpx hle' R' hrep=>by
    rw[ew.1 hq]at hpx R'
    exact next x v φ' w' hpx hle' R' hrep)with⟨hw,hh⟩ | ⟨hw,hh⟩
  ·simp only[hw,jw]
   exact hh
  ·simp only[hw,ik,gw]
   exact⟨fun _ _=>trivial,hh⟩
end
end
end Go.RM
namespace Go.RM
noncomputable section
open Go.VM (Pt Fr gq tJ)
def XM:Exit→Ex→Prop
 | .normal,.normal=>True
 | .exit i,.exit j=>i=j
 | .ret,.ret=>True
 | _,_=>False
def TOk (P : Program) (T : Tr RF) : Prop := ∀ f rf, T.get f = some rf → ∃ fn c, P.funcs[f]? = some fn ∧ fn.body = some c ∧ mJ P fn.ntmps c = some rf.code ∧ fn.results.toList.mapM (L3 P) = some rf.res ∧ (fn.name == "runtime.NumGoroutine") = false
section
variable {P:Program} {w0:World} {φ:Ren} {g h2:Hp} {s:S} {Γ:Tr V} {a:Act} {w:World} {call:qX}
theorem Fq{n:Nat}{ops:Array Oper}{draw:Bool}:(Kx P n ops draw).getD .bad = .bad∨∃d vl,(Kx P n ops draw).getD .bad = .region d vl:=by
 unfold Kx
 cases ops.toList.mapM (tY P n ops)with
 | none=>exact .inl rfl
 | some vl =>
  simp only[Option.bind_some]
  split
  ·exact .inr ⟨_,_,rfl⟩
  ·exact .inl rfl
theorem Q2{n:Nat}{ops:Array Oper}{draw:Bool}{c:RC}(h:(Kx P n ops draw).getD .bad=c):c = .bad∨∃d vl,c = .region d vl:=by
 rw[←h];exact Fq
theorem Jz{n:Nat}{c:Code}{d:Option (List Nat)}{vl:List (ROp×Nat)}(hc:mJ P n c=some (.region d vl)) :
  ∃id ops draw,c = .region id ops draw∧ops.toList.mapM (tY P n ops)=some vl∧(d=none→draw=false)∧(∀bs,d=some bs→draw=true∧bs=LZ ops∧aHV ops=true∧P.follows .mixedOrders=true):=by
 cases c<;>simp only[mJ,ak,aw,bw,reduceCtorEq,and_false,exists_false]at hc
 rename_i id ops draw
 unfold Kx at hc
 cases hm:ops.toList.mapM (tY P n ops)with
 | none=>rw[hm]at hc;simp at hc
 | some vl' =>
  rw[hm]at hc
  simp only[Option.bind_some]at hc
  split at hc
  ·rename_i hd
   simp only[Option.getD_some,RC.region.injEq]at hc
   obtain⟨h1,rfl⟩:=hc
   refine⟨id,ops,draw,rfl,hm,fun h=>?_,fun bs hbs=>?_⟩
   ·subst h
    cases draw with
    | false=>rfl
    | true=>simp at h1
   ·subst hbs
    cases draw with
    | false=>simp at h1
    | true =>
     simp only[jw,bw]at h1
     exact⟨rfl,h1.symm,hd rfl⟩
  ·simp at hc
theorem aFQ(hcall:L9 P w0 call)(hinv:Fz call){fr:Option Nat}{dn:Nat}{ds:List Deferred}{n:Nat}{φ0:Ren}{ops:Array Oper}{vl:List (ROp×Nat)}(hm:ops.toList.mapM (tY P n ops)=some vl)(hok:aHV ops=true)(hf:P.follows .mixedOrders=true){id:Nat}
  {outs:List (Tr V×S)} {r:Nat} (hx:PX call vl (LZ ops) 0 [] Γ s 0=some (outs,r)) (hr:∀n,r.testBit n=true→h2 n=g n) (st:StR ds w0 n g h2 φ0 (look Γ) s a w) {Q:Exit→Act→World→Prop}
  (hk:∀p∈outs,∀a' w',StR ds w0 n g h2 φ0 (look p.1) p.2 a' w'→Q .normal a' w'):(Code.region id ops true).wpIn (FW fr) dn P Q a w:=by
 obtain⟨Γs,ss,rs,ws,e1,e2,e3,ht,hrr,_,_⟩:=Z2 vl (LZ ops) 0 [] Γ s 0 outs r hx
 obtain⟨φ,hle,he,R,hi,hd,hs⟩:=st
 have hnone:∀j,(Array.replicate ops.size false).getD j false=false:=by
  intro j
  by_cases hj:j<ops.size<;>simp[Array.getD,hj]
 have hc0:∀ {β:Type} (f:Nat→Nat→β) (Wr:Nat→Nat→Bool) (base:Nat→β),cur f Wr ops.size base (fun j=>(Array.replicate ops.size false).getD j false)=base:=by
  intro β f Wr base
  funext q
  unfold cur
  have:Nj (fun m=>(Array.replicate ops.size false).getD m false&&Wr m q) ops.size=none:=by
   cases h:Nj (fun m=>(Array.replicate ops.size false).getD m false&&Wr m q) ops.size with
   | none=>rfl
   | some m=>obtain⟨_,h2,_⟩:=MZ h;rw[hnone m]at h2;simp at h2
  rw[this]
 refine wpIn_region_any hf (ZX (Q:=Q) hcall hinv hm (aKJ hok) ht (fun k hk n hn=>hr n (hrr k hk n hn)) (by rw[e2];exact hi) (fun a' w' st'=>hk _ (by rw[e3];exact ew.2 rfl) a' w' st') ops.size _ φ a _ (by simp) ?_ ?_ hle ?_ ?_ hd hs)
 ·refine Nat.le_trans (List.length_filter_le _ _) (by simp)
 ·intro j hj hl;rw[hnone j]at hl;simp at hl
 ·rw[hc0,e1];exact he
 ·rw[hc0,e2]
  exact R.turn (fun _ => False) (Ren.le_refl φ) (fun _ _ => rfl) (fun n l h1 h2 => by rw[h1]at h2;simp at h2) (Fr.drew w _) (fun _ _ h => h.elim) (fun _ _ _ h => h.elim) (fun _ _ _ _ _ h => h.elim) (fun _ _ _ _ _ h => by rcases h with h | h<;>exact h.elim) (fun _ _ _ _ _ _ _ h => h.elim) (fun _ h => h.elim) (fun _ _ h => h.elim)
theorem aiW{E:Nat→V}(he:EnvR φ a (look Γ))(R:Rel w0 φ (jV h2 s) w)(hi:Inv g s){rv:ResultVar}{vr:RR}(hc:L3 P rv=some vr){x:V}{r:Nat}(hr:∀n,r.testBit n=true→h2 n=g n){xs:List V}{vrs:List RR}(hx:Y0 Γ s (vr::vrs)=some (x::xs,r)) :
  ∃v,Sem.run P (match rv with | .tmp t => (pure (a.tmps.getD t undef):Sem Value) | .cell p t => (do loadVar t (←asAddr (a.tmps.getD p undef)))) w = .ok v w ∧ RepS φ v x ∧ ∃r',Y0 Γ s vrs=some (xs,r') ∧ ∀n,r'.testBit n=true → h2 n=g n := by
 cases rv with
 | tmp t =>
  simp only[L3,bw]at hc
  subst hc
  simp only[Y0]at hx
  rw[fZ]at hx
  obtain⟨hp,hx⟩:=hx
  simp only[aw]at hx
  obtain⟨⟨xs',r'⟩,h1,h2'⟩:=hx
  cases h2'
  exact⟨_,rfl,P7 hp (he t),_,h1,hr⟩
 | cell p t =>
  simp only[L3,RK,aw,ak]at hc
  obtain⟨⟨d,i⟩,⟨d',hd,i',hti,hee⟩,hc⟩:=hc
  cases hee
  have key:∀n,n=(if gq d then i.size else 1)→Y0 Γ s (.cell p n (gq d)::vrs)=some (x::xs,r) →
    ∃v,Sem.run P (do loadVar t (←asAddr (a.tmps.getD p undef))) w = .ok v w∧RepS φ v x∧∃r',Y0 Γ s vrs=some (xs,r')∧∀n,r'.testBit n=true→h2 n=g n:=by
   intro n hn hx
   simp only[Y0]at hx
   split at hx
   ·rename_i m off heq
    simp only[ak]at hx
    obtain⟨q,hg,cs,hcut,hx⟩:=hx
    rw[fZ]at hx
    obtain⟨hp,hx⟩:=hx
    simp only[aw]at hx
    obtain⟨⟨xs',r'⟩,h1,h2'⟩:=hx
    cases h2'
    have hs0:=he p
    have hl:look Γ p = .c (.ptr m off):=heq
    rw[hl]at hs0
    obtain⟨b,β,lim,hφ,hv⟩:=yq hs0
    have hrep:=R.rep m _ ((lz hi (hr m (M6 (jY m)))).trans (Pz hg))
    obtain⟨vs,hlen,hlie,hpt⟩:=Sq hrep hφ hcut
    have hrun:=tJ (P:=P) hd hti hlie
    refine⟨if gq d then .agg vs.toArray else vs.headD undef,?_,?_,r',h1,fun n hn=>hr n (RY hn)⟩
    ·cases hag:gq d with
     | true =>
      simp[hag]at hn
      simp only[hv,asAddr,Sem.run_bind,Sem.run_pure,Result.andThen_ok,jw];exact hrun.1 hag (hlen.trans hn)
     | false =>
      simp[hag]at hn
      match vs,hlen.trans hn with
      | [v],_ =>
       simp only[hv,asAddr,Sem.run_bind,Sem.run_pure,Result.andThen_ok,ik,gw];exact hrun.2 hag v rfl
    ·cases hag:gq d with
     | true =>
      rw[hag]at hp
      exact P7 hp (TV hpt)
     | false =>
      simp[hag]at hn
      match vs,hlen.trans hn with
      | [v],_ =>
       rw[hag]at hp
       exact P7 hp (Jj hpt)
   ·simp at hx
  cases hg:gq d with
  | true=>simp only[hg,jw]at hc;subst hc;exact key i.size (by simp[hg]) (by rw[hg];exact hx)
  | false=>simp only[hg,ik,gw]at hc;subst hc;exact key 1 (by simp[hg]) (by rw[hg];exact hx)
theorem a8Q{vr:RR}{vrs:List RR}{xs:List V}{r:Nat}(hx:Y0 Γ s (vr::vrs)=some (xs,r)):∃x xs',xs=x::xs':=by
 cases vr with
 | tmp t =>
  simp only[Y0]at hx
  rw[fZ]at hx
  obtain⟨_,hx⟩:=hx
  simp only[aw]at hx
  obtain⟨_,_,h⟩:=hx
  cases h;exact⟨_,_,rfl⟩
 | cell t n g =>
  simp only[Y0]at hx
  split at hx
  ·simp only[ak]at hx
   obtain⟨_,_,_,_,hx⟩:=hx
   rw[fZ]at hx
   obtain⟨_,hx⟩:=hx
   simp only[aw]at hx
   obtain⟨_,_,h⟩:=hx
   cases h;exact⟨_,_,rfl⟩
  ·simp at hx
theorem R5(he:EnvR φ a (look Γ))(R:Rel w0 φ (jV h2 s) w)(hi:Inv g s):∀(rs:List ResultVar) (vrs:List RR) (xs:List V) (r:Nat),rs.mapM (L3 P)=some vrs→Y0 Γ s vrs=some (xs,r)→(∀n,r.testBit n=true→h2 n=g n) →
  ∃vs,Sem.run P (rs.mapM fun rv => (match rv with | .tmp t => (pure (a.tmps.getD t undef):Sem Value) | .cell p t => (do loadVar t (←asAddr (a.tmps.getD p undef))))) w = .ok vs w ∧ Pt (RepS φ) vs xs
 | [],vrs,xs,r,hm,hx,hr=>by
  simp at hm;subst hm
  simp only[Y0]at hx;cases hx
  exact⟨[],by simp,Go.VM.Pt.nil⟩
 | rv::rs,vrs,xs,r,hm,hx,hr=>by
  simp only[List.mapM_cons,Option.bind_eq_bind,Option.pure_def]at hm
  cases hrv:L3 P rv with
  | none=>simp[hrv]at hm
  | some vr =>
   cases hrs:rs.mapM (L3 P)with
   | none=>simp[hrv,hrs]at hm
   | some vrs' =>
    simp[hrv,hrs]at hm
    subst hm
    obtain⟨x,xs',rfl⟩:=a8Q hx
    obtain⟨v,hv,hrep,r',h1,h2'⟩:=aiW (E:=look Γ) (P:=P) he R hi hrv hr hx
    obtain⟨vs,hvs,hreps⟩:=R5 he R hi rs vrs' xs' r' hrs h1 h2'
    refine⟨v::vs,?_,Go.VM.Pt.cons hrep hreps⟩
    rw[List.mapM_cons,Sem.run_bind,hv,Result.andThen_ok,Sem.run_bind,hvs]
    rfl
theorem Sz(he:EnvR φ a (look Γ))(R:Rel w0 φ (jV h2 s) w)(hi:Inv g s){fn:Func}{vrs:List RR}{outs:List (V×S)}{r:Nat}(hm:fn.results.toList.mapM (L3 P)=some vrs)(hx:aMQ vrs Γ s=some (outs,r))(hr:∀n,r.testBit n=true→h2 n=g n) :
  ∃v,(results fn a.tmps).run P w = .ok v w∧∃p∈outs,p.2=s∧RepV φ v p.1:=by
 unfold aMQ at hx
 split at hx
 ·simp at hx
 ·rename_i xs r' hl
  cases hx
  obtain⟨vs,hvs,hp⟩:=R5 (P:=P) he R hi fn.results.toList vrs xs r hm hl hr
  have hrun:(results fn a.tmps).run P w = .ok (if h:vs.toArray.size=1 then vs.toArray[0]else .tuple vs.toArray) w:=by
   unfold results
   rw[←ow (xs:=fn.results),List.mapM_toArray]
   simp only[Sem.run_bind,Sem.run_map]
   exact(congrArg (fun r:Result (List Value)=>((r.andThen fun a w'=>Result.ok a.toArray w').andThen fun a w'=>Sem.run P (pure (if h:a.size=1 then a[0]else Value.tuple a)) w')) hvs).trans rfl
  refine⟨_,hrun,_,ew.2 rfl,rfl,?_⟩
  match vs,xs,hp with
  | [],[],hp=>exact⟨#[],by simp,Go.VM.Pt.nil⟩
  | [v],[x],hp =>
   simp only[apJ]
   simpa using P1 (hp.2 0 v x rfl rfl)
  | v::v'::vs,x::x'::xs,hp =>
   simp only[apJ]
   exact⟨(v::v'::vs).toArray,by simp,hp⟩
  | [],_::_,hp=>have:=hp.1;simp at this
  | [_],[],hp=>have:=hp.1;simp at this
  | [_],_::_::_,hp=>have:=hp.1;simp at this
  | _::_::_,[],hp=>have:=hp.1;simp at this
  | _::_::_,[_],hp=>have:=hp.1;simp at this
theorem aCJ{vrs:List RR}{outs:List (V×S)}{r:Nat}(hx:aMQ vrs Γ s=some (outs,r)):∀p∈outs,p.2=s:=by
 unfold aMQ at hx
 split at hx
 ·simp at hx
 ·cases hx;intro p hp;rw[ew.1 hp]
theorem aOW{α:Type}:∀(xs:List α) (i:Nat) (t:Tr α) (m:Nat),(ofL xs i t).get m=if i≤m then(match xs[m-i]? with | some x => some x | none => t.get m)else t.get m
 | [],i,t,m=>by simp[ofL]
 | x::xs,i,t,m=>by
  simp only[ofL]
  rw[aOW xs (i+1) _ m,Tr.get_set]
  by_cases h1:i+1≤m
  ·have h2:i≤m:=by omega
   have h3 : ¬m=i:=by omega
   obtain⟨d,hd⟩ : ∃d,m-i=d+1:=⟨m-i-1,by omega⟩
   have h4:m-(i+1)=d:=by omega
   simp[h1,h2,h3,hd,h4]
  ·by_cases h2:m=i
   ·subst h2
    have h3 : ¬m+1≤m:=by omega
    simp[h3]
   ·have h3 : ¬i≤m:=by omega
    simp[h1,h2,h3]
theorem aUY{α:Type}(xs:List α)(m:Nat):(ofL xs 0 .lf).get m=xs[m]?:=by
 rw[aOW]
 simp only[Nat.zero_le,jw,Nat.sub_zero,Tr.get]
 cases xs[m]?<;>rfl
end
section
variable {P:Program} {w0:World} {orc:qX} {T:Tr RF}
theorem arX(orc:qX)(T:Tr RF)(n:Nat)(rc:RC)(Γ:Tr V)(s:S):J5 orc T (n+1) rc Γ s=match rc with
 | .skip=>one (.normal,Γ,s)
 | .region none ops=>Dj (afz (Iz orc T n) ops Γ s) fun p=>one (.normal,p.1,p.2)
 | .region (some tab) ops=>Dj (PX (Iz orc T n) ops tab 0 [] Γ s 0) fun p=>one (.normal,p.1,p.2)
 | .seq a b=>Dj (J5 orc T n a Γ s) fun p=>match p.1 with
  | .normal=>J5 orc T n b p.2.1 p.2.2
  | _=>one p
 | .cond c a b=>match isB (ev Γ c)with
  | none=>none
  | some true=>J5 orc T n a Γ s
  | some false=>J5 orc T n b Γ s
 | .block id b=>Dj (J5 orc T n b Γ s) fun p=>match p.1 with
  | .exit id'=>bif Nat.beq id' id then one (.normal,p.2.1,p.2.2)else one p
  | _=>one p
 | .loop b=>Dj (J5 orc T n b Γ s) fun p=>match p.1 with
  | .normal=>J5 orc T n (.loop b) p.2.1 p.2.2
  | _=>one p
 | .exit id=>one (.exit id,Γ,s)
 | .ret=>one (.ret,Γ,s)
 | .bad=>none:=by cases rc<;>rfl
theorem abK{P:Program}{fr:Option Nat}{dn:Nat}{c:Code}{Q Q':Exit→Act→World→Prop}(hq:∀e a w,Q e a w→Q' e a w):∀(m:Nat) (a:Act) (w:World),Code.roundsIn (FW fr) dn P c Q m a w→Code.roundsIn (FW fr) dn P c Q' m a w
 | 0,_,_,h=>h
 | m+1,a,w,h=>by
  rw[roundsIn_succ]at h ⊢
  refine wpIn_mono h fun e a' w' hh=>?_
  cases e with
  | normal=>exact abK hq m a' w' hh
  | _=>exact hq _ _ _ hh
def a5X(P:Program)(w0:World)(orc:qX)(T:Tr RF)(n:Nat):Prop :=
 ∀rc Γ s outs r,J5 orc T n rc Γ s=some (outs,r)→(∀g,Inv g s→∀p∈outs,Inv g p.2.2) ∧
  ∀nt c,mJ P nt c=some rc→∀fr dn ds g h2 φ0 a w,(∀n,r.testBit n=true→h2 n=g n)→StR ds w0 nt g h2 φ0 (look Γ) s a w →
   c.wpIn (FW fr) dn P (fun e a' w'=>∃p∈outs,XM e p.1∧StR ds w0 nt g h2 φ0 (look p.2.1) p.2.2 a' w') a w ∧
   ∀b,c = .loop b→Code.roundsIn (FW fr) dn P b (fun e a' w'=>∃p∈outs,XM e p.1∧StR ds w0 nt g h2 φ0 (look p.2.1) p.2.2 a' w') n a w
theorem YX(hT:TOk P T)(ho:L9 P w0 orc)(hoi:Fz orc){n:Nat}(hE:a5X P w0 orc T n):L9 P w0 (Iz orc T n)∧Fz (Iz orc T n):=by
 refine⟨fun f args s outs r hx=>?_,fun f args s outs r hx g hi p hp=>?_⟩
 ·unfold Iz at hx
  split at hx
  ·exact ho f args s outs r hx
  ·rename_i rf d6
   obtain⟨fn,c,hfn,hb,hc,hres,hnm⟩:=hT f rf d6
   refine⟨⟨fn,hfn,by rw[hb];rfl,hnm⟩,fun g h2 φ w vs hr hi R hargs=>?_⟩
   obtain⟨l,r0,hl,hr0,hmem⟩:=Hz hx
   have hwp:=(hE rf.code (ofL args 0 .lf) s l r0 hl).2 fn.ntmps c hc none 0 [] g h2 φ {tmps:=vs.toArray++Array.replicate (fn.ntmps-vs.toArray.size) undef,defers:=[]} w (fun n hn=>hr n (hr0 n hn)) (by
    refine⟨φ,Ren.le_refl φ,fun t=>?_,R,hi,rfl,by simp;omega⟩
    unfold look
    rw[aUY]
    cases hx:args[t]? with
    | none=>trivial
    | some x =>
     have hlt:t<vs.length:=by rw[hargs.1];exact(dw.1 hx).1
     have d6:(vs.toArray++Array.replicate (fn.ntmps-vs.toArray.size) undef).getD t undef=vs[t]:=by
      simp[Array.getD,hlt]
      intro hh;omega
     rw[d6]
     exact hargs.2 t _ x (bk hlt) hx)
   refine calls_of_wp hfn hb (wp_mono ((wpIn_wide (n:=0)).1 hwp.1) fun e a' w' hq=>?_)
   obtain⟨p,hp,hxm,φ',hle,he,R',hi',hd,_⟩:=hq
   obtain⟨zs,q,hz,hzs,hq⟩:=hmem p hp
   have fin:(p.1 = .normal∨p.1 = .ret)→a'.defers=[]∧∃v,(results fn a'.tmps).run P w' = .ok v w'∧∃v',Ending.returned v = .returned v'∧∃p∈outs,∃φ',φ.le φ'∧Rel w0 φ' (jV h2 p.2) w'∧RepV φ' v' p.1:=by
    intro hpe
    have hz':aMQ rf.res p.2.1 p.2.2=some (zs,q) := by rcases hpe with h | h<;>(rw[h]at hz;exact hz)
    obtain⟨v,hv,p2,hp2,hs2,hrep⟩:=Sz (P:=P) he R' hi' hres hz' (fun n hn=>hr n (hq n hn))
    exact⟨hd,v,hv,v,rfl,p2,hzs p2 hp2,φ',hle,by rw[hs2];exact R',hrep⟩
   cases e with
   | normal=>exact fin (.inl (by revert hxm;cases p.1<;>simp[XM]))
   | ret=>exact fin (.inr (by revert hxm;cases p.1<;>simp[XM]))
   | exit id =>
    exfalso
    revert hxm hz
    cases p.1<;>simp[XM]
   | goto _=>exact hxm.elim
   | panic _=>exact hxm.elim
   | outgrown=>exact hxm.elim
 ·unfold Iz at hx
  split at hx
  ·exact hoi f args s outs r hx g hi p hp
  ·rename_i rf d6
   refine FQ (C:=fun p=>Inv g p.2) hx (fun l r0 hl a ha zs q hz z hzm=>?_) p hp
   have h1:=(hE rf.code (ofL args 0 .lf) s l r0 hl).1 g hi a ha
   split at hz
   ·rw[aCJ hz z hzm];exact h1
   ·rw[aCJ hz z hzm];exact h1
   ·simp at hz
theorem aBx{call:qX}(hinv:Fz call){g:Hp}:∀(vl:List (ROp×Nat)) (Γ:Tr V) (s:S) (outs:List (Tr V×S)) (r:Nat),afz call vl Γ s=some (outs,r)→Inv g s→∀p∈outs,Inv g p.2
 | [],Γ,s,outs,r,h,hi=>by simp only[afz]at h;cases h;intro p hp;rw[ew.1 hp];exact hi
 | o::os,Γ,s,outs,r,h,hi=>by
  simp only[afz]at h
  exact FQ (C:=fun p=>Inv g p.2) h fun l r0 hl a ha zs q hz z hzm=>aBx hinv os a.1 a.2 zs q hz (TK hinv hl hi a ha) z hzm
theorem aSq{call:qX}(hinv:Fz call){g:Hp}{vl:List (ROp×Nat)}{tab:List Nat}{Γ:Tr V}{s:S}{outs:List (Tr V×S)}{r:Nat}(h:PX call vl tab 0 [] Γ s 0=some (outs,r))(hi:Inv g s):∀p∈outs,Inv g p.2:=by
 obtain⟨Γs,ss,rs,ws,e1,e2,e3,ht,_,_,_⟩:=Z2 vl tab 0 [] Γ s 0 outs r h
 have key:∀k,k≤vl.length→Inv g (ss k):=by
  intro k
  induction k with
  | zero=>intro _;rw[e2];exact hi
  | succ k ih =>
   intro hk n hn
   obtain⟨t,h1,h2,h3⟩:=ht.step k vl[k] (bk (by omega))
   have hi1:=TK (g:=(ss k).h.get) hinv h1 (fun _ _=>rfl) _ (ew.2 rfl)
   rw[h2]at hn ⊢
   simp only[JX,Bool.or_eq_false_iff]at hn
   rw[hi1 n hn.2]
   exact ih (by omega) n hn.1
 intro p hp
 rw[e3]at hp
 rw[ew.1 hp]
 exact key _ (kw _)
theorem aPY(hT:TOk P T)(ho:L9 P w0 orc)(hoi:Fz orc):∀n,a5X P w0 orc T n
 | 0=>fun rc Γ s outs r h=>by simp[J5]at h
 | n+1=>by
  have ih:=aPY hT ho hoi n
  obtain⟨hcall,hinv⟩:=YX hT ho hoi ih
  intro rc Γ s outs r hx
  rw[arX]at hx
  cases rc with
  | skip =>
   cases hx
   refine⟨fun g hi p hp=>by rw[ew.1 hp];exact hi,fun nt c hc fr dn ds g h2 φ0 a w hr st=>?_⟩
   cases c<;>simp only[mJ,ak,aw,bw,reduceCtorEq,and_false,exists_false]at hc
   ·exact⟨wpIn_skip ⟨_,ew.2 rfl,trivial,st⟩,fun b h=>by simp at h⟩
   ·rcases Q2 hc with h | ⟨_,_,h⟩<;>simp at h
  | ret =>
   cases hx
   refine⟨fun g hi p hp=>by rw[ew.1 hp];exact hi,fun nt c hc fr dn ds g h2 φ0 a w hr st=>?_⟩
   cases c<;>simp only[mJ,ak,aw,bw,reduceCtorEq,and_false,exists_false]at hc
   ·rcases Q2 hc with h | ⟨_,_,h⟩<;>simp at h
   ·exact⟨wpIn_ret ⟨_,ew.2 rfl,trivial,st⟩,fun b h=>by simp at h⟩
  | exit id =>
   cases hx
   refine⟨fun g hi p hp=>by rw[ew.1 hp];exact hi,fun nt c hc fr dn ds g h2 φ0 a w hr st=>?_⟩
   cases c<;>simp only[mJ,ak,aw,bw,reduceCtorEq,and_false,exists_false,RC.exit.injEq]at hc
   ·rcases Q2 hc with h | ⟨_,_,h⟩<;>simp at h
   ·subst hc;exact⟨wpIn_exit ⟨_,ew.2 rfl,rfl,st⟩,fun b h=>by simp at h⟩
  | bad=>simp at hx
  | region d ops =>
   cases d with
   | none =>
    obtain⟨l,r0,hl,hr0,hmem⟩:=Hz hx
    have hin:∀p∈l,((Ex.normal,p.1,p.2):Ex×Tr V×S)∈outs:=fun p hp=>by
     obtain⟨zs,q,hz,hzs,_⟩:=hmem p hp
     cases hz;exact hzs _ (ew.2 rfl)
    refine⟨fun g hi=>?_,fun nt c hc fr dn ds g h2 φ0 a w hr st=>?_⟩
    ·exact FQ (C:=fun p=>Inv g p.2.2) hx fun l' r' hl' b hb zs q hz z hzm=>by
      cases hz;rw[ew.1 hzm]
      exact aBx hinv ops Γ s l' r' hl' hi b hb
    ·obtain⟨id,ops',dr,rfl,hm,hd,_⟩:=Jz hc
     obtain rfl:=hd rfl
     refine⟨wpIn_region_list (atW (φ0:=φ0) (ops:=ops') hcall hinv ops'.toList ops Γ s a w l r0 hm hl (fun n hn=>hr n (hr0 n hn)) st fun p hp a' w' st'=>⟨_,hin p hp,trivial,st'⟩),fun b h=>by simp at h⟩
   | some tab =>
    obtain⟨l,r0,hl,hr0,hmem⟩:=Hz hx
    have hin:∀p∈l,((Ex.normal,p.1,p.2):Ex×Tr V×S)∈outs:=fun p hp=>by
     obtain⟨zs,q,hz,hzs,_⟩:=hmem p hp
     cases hz;exact hzs _ (ew.2 rfl)
    refine⟨fun g hi=>?_,fun nt c hc fr dn ds g h2 φ0 a w hr st=>?_⟩
    ·exact FQ (C:=fun p=>Inv g p.2.2) hx fun l' r' hl' b hb zs q hz z hzm=>by
      cases hz;rw[ew.1 hzm]
      exact aSq hinv hl' hi b hb
    ·obtain⟨id,ops',dr,rfl,hm,_,hd⟩:=Jz hc
     obtain⟨rfl,rfl,hoo,hmx⟩:=hd tab rfl
     exact⟨aFQ hcall hinv hm hoo hmx hl (fun n hn=>hr n (hr0 n hn)) st fun p hp a' w' st'=>⟨_,hin p hp,trivial,st'⟩,fun b h=>by simp at h⟩
  | seq x y =>
   obtain⟨l,r0,hl,hr0,hmem⟩:=Hz hx
   have hi1:=ih x Γ s l r0 hl
   refine⟨fun g hi=>?_,fun nt c hc fr dn ds g h2 φ0 a w hr st=>?_⟩
   ·refine FQ (C:=fun p=>Inv g p.2.2) hx fun l' r' hl' b hb zs q hz z hzm=>?_
    have h1:=(ih x Γ s l' r' hl').1 g hi b hb
    split at hz
    ·exact(ih y _ _ zs q hz).1 g h1 z hzm
    ·cases hz;rw[ew.1 hzm];exact h1
   ·cases c<;>simp only[mJ,ak,aw,bw,reduceCtorEq,and_false,exists_false,RC.seq.injEq]at hc
    ·rcases Q2 hc with h | ⟨_,_,h⟩<;>simp at h
    ·obtain⟨x',hx',y',hy',rfl,rfl⟩:=hc
     refine⟨wpIn_seq (wpIn_mono (hi1.2 nt _ hx' fr dn ds g h2 φ0 a w (fun n hn=>hr n (hr0 n hn)) st).1 fun e a' w' hq=>?_),fun b h=>by simp at h⟩
     obtain⟨p,hp,hxm,st'⟩:=hq
     obtain⟨zs,q,hz,hzs,hq⟩:=hmem p hp
     cases e with
     | normal =>
      have hpe:p.1 = .normal:=by revert hxm;cases p.1<;>simp[XM]
      rw[hpe]at hz
      exact wpIn_mono ((ih y' p.2.1 p.2.2 zs q hz).2 nt _ hy' fr dn ds g h2 φ0 a' w' (fun n hn=>hr n (hq n hn)) st').1 fun e2 a2 w2 ⟨p2,hp2,hx2,st2⟩=>⟨p2,hzs p2 hp2,hx2,st2⟩
     | exit id =>
      have hz:one p=some (zs,q):=by revert hz hxm;cases p.1<;>first | exact fun h _=>h | simp[XM]
      cases hz
      exact⟨p,hzs p (ew.2 rfl),hxm,st'⟩
     | ret =>
      have hz:one p=some (zs,q):=by revert hz hxm;cases p.1<;>first | exact fun h _=>h | simp[XM]
      cases hz
      exact⟨p,hzs p (ew.2 rfl),hxm,st'⟩
     | goto _=>exact hxm.elim
     | panic _=>exact hxm.elim
     | outgrown=>exact hxm.elim
  | cond q x y =>
   simp only at hx
   cases hb:isB (ev Γ q)with
   | none=>rw[hb]at hx;simp at hx
   | some t =>
    have hsel:J5 orc T n (if t=true then x else y) Γ s=some (outs,r):=by
     rw[hb]at hx
     cases t<;>simpa using hx
    have hi1:=ih _ Γ s outs r hsel
    refine⟨hi1.1,fun nt c hc fr dn ds g h2 φ0 a w hr st=>?_⟩
    cases c<;>simp only[mJ,ak,aw,bw,reduceCtorEq,and_false,exists_false,RC.cond.injEq]at hc
    ·rcases Q2 hc with h | ⟨_,_,h⟩<;>simp at h
    ·obtain⟨c',hc',x',hx',y',hy',rfl,rfl,rfl⟩:=hc
     have hv:=(fun(st:StR ds w0 nt g h2 φ0 (look Γ) s a w)=>let ⟨φ,_,he,_⟩:=st;Y5 (bW he hc') hb) st
     refine⟨wpIn_cond_split hv (fun ht=>?_) (fun ht=>?_),fun b h=>by simp at h⟩
     ·subst ht
      exact(hi1.2 nt _ (by simpa using hx') fr dn ds g h2 φ0 a w hr st).1
     ·subst ht
      exact(hi1.2 nt _ (by simpa using hy') fr dn ds g h2 φ0 a w hr st).1
  | block id b =>
   obtain⟨l,r0,hl,hr0,hmem⟩:=Hz hx
   have hi1:=ih b Γ s l r0 hl
   refine⟨fun g hi=>?_,fun nt c hc fr dn ds g h2 φ0 a w hr st=>?_⟩
   ·refine FQ (C:=fun p=>Inv g p.2.2) hx fun l' r' hl' b' hb zs q hz z hzm=>?_
    have h1:=(ih b Γ s l' r' hl').1 g hi b' hb
    split at hz
    ·rename_i id' _
     cases hbq:Nat.beq id' id with
     | true=>rw[hbq]at hz;cases hz;rw[ew.1 hzm];exact h1
     | false=>rw[hbq]at hz;cases hz;rw[ew.1 hzm];exact h1
    ·cases hz;rw[ew.1 hzm];exact h1
   ·cases c<;>simp only[mJ,ak,aw,bw,reduceCtorEq,and_false,exists_false,RC.block.injEq]at hc
    ·rcases Q2 hc with h | ⟨_,_,h⟩<;>simp at h
    ·rename_i id0 cb
     obtain⟨b',hb',hid,hbe⟩:=hc
     subst hbe
     rw[hid]
     refine⟨wpIn_block (wpIn_mono (hi1.2 nt _ hb' fr dn ds g h2 φ0 a w (fun n hn=>hr n (hr0 n hn)) st).1 fun e a' w' hq=>?_),fun b h=>by simp at h⟩
     obtain⟨p,hp,hxm,st'⟩:=hq
     obtain⟨zs,q,hz,hzs,hq⟩:=hmem p hp
     cases e with
     | normal =>
      have hz:one p=some (zs,q):=by revert hz hxm;cases p.1<;>first | exact fun h _=>h | simp[XM]
      cases hz
      exact⟨p,hzs p (ew.2 rfl),hxm,st'⟩
     | ret =>
      have hz:one p=some (zs,q):=by revert hz hxm;cases p.1<;>first | exact fun h _=>h | simp[XM]
      cases hz
      exact⟨p,hzs p (ew.2 rfl),hxm,st'⟩
     | exit id' =>
      have hpe:p.1 = .exit id':=by revert hxm;cases p.1<;>simp[XM];exact fun h=>h.symm
      rw[hpe]at hz
      simp only[Exit.inBlock]
      by_cases e:id'=id
      ·subst e
       have hz:one (Ex.normal,p.2.1,p.2.2)=some (zs,q):=by simpa using hz
       cases hz
       rw[if_pos rfl]
       exact⟨_,hzs _ (ew.2 rfl),trivial,st'⟩
      ·have hbq:Nat.beq id' id=false:=by
        cases h:Nat.beq id' id with
        | false=>rfl
        | true=>exact absurd (AV h) e
       simp only[hbq,cond_false]at hz
       cases hz
       rw[if_neg e]
       exact⟨_,hzs _ (ew.2 rfl),by rw[hpe];rfl,st'⟩
     | goto _=>exact hxm.elim
     | panic _=>exact hxm.elim
     | outgrown=>exact hxm.elim
  | loop b =>
   obtain⟨l,r0,hl,hr0,hmem⟩:=Hz hx
   have hi1:=ih b Γ s l r0 hl
   refine⟨fun g hi=>?_,fun nt c hc fr dn ds g h2 φ0 a w hr st=>?_⟩
   ·refine FQ (C:=fun p=>Inv g p.2.2) hx fun l' r' hl' b' hb zs q hz z hzm=>?_
    have h1:=(ih b Γ s l' r' hl').1 g hi b' hb
    split at hz
    ·exact(ih (.loop b) _ _ zs q hz).1 g h1 z hzm
    ·cases hz;rw[ew.1 hzm];exact h1
   ·have hc':=hc
    cases c<;>simp only[mJ,ak,aw,bw,reduceCtorEq,and_false,exists_false,RC.loop.injEq]at hc
    ·rcases Q2 hc with h | ⟨_,_,h⟩<;>simp at h
    ·rename_i cb
     obtain⟨b',hb',hbe⟩:=hc
     have hbe:=hbe.symm
     subst hbe
     have key:Code.roundsIn (FW fr) dn P cb (fun e a' w'=>∃p∈outs,XM e p.1∧StR ds w0 nt g h2 φ0 (look p.2.1) p.2.2 a' w') (n+1) a w:=by
      rw[roundsIn_succ]
      refine wpIn_mono (hi1.2 nt _ hb' fr dn ds g h2 φ0 a w (fun n hn=>hr n (hr0 n hn)) st).1 fun e a' w' hq=>?_
      obtain⟨p,hp,hxm,st'⟩:=hq
      obtain⟨zs,q,hz,hzs,hq⟩:=hmem p hp
      cases e with
      | normal =>
       have hpe:p.1 = .normal:=by revert hxm;cases p.1<;>simp[XM]
       rw[hpe]at hz
       exact abK (fun e2 a2 w2 ⟨p2,hp2,hx2,st2⟩=>⟨p2,hzs p2 hp2,hx2,st2⟩) n a' w' (((ih (.loop b) p.2.1 p.2.2 zs q hz).2 nt _ hc' fr dn ds g h2 φ0 a' w' (fun n hn=>hr n (hq n hn)) st').2 cb rfl)
      | exit id =>
       have hz:one p=some (zs,q):=by revert hz hxm;cases p.1<;>first | exact fun h _=>h | simp[XM]
       cases hz
       exact⟨p,hzs p (ew.2 rfl),hxm,st'⟩
      | ret =>
       have hz:one p=some (zs,q):=by revert hz hxm;cases p.1<;>first | exact fun h _=>h | simp[XM]
       cases hz
       exact⟨p,hzs p (ew.2 rfl),hxm,st'⟩
      | goto _=>exact hxm.elim
      | panic _=>exact hxm.elim
      | outgrown=>exact hxm.elim
     exact⟨wpIn_loop_rounds (n+1) key,fun b'' h=>by cases h;exact key⟩
end
end
end Go.RM
namespace Go.RM
noncomputable section
open Go.VM (Pt Fr T RepT RepC Fun noHeap BJ J3 wj Oid Lies)
def toX:Go.VM.C→Option X
 | .imm t=>some (imX t)
 | .nilS=>some (.sc aQq)
 | .nilM=>some (.sc (.map none))
 | _=>none
def toV:Go.VM.V→Option V
 | .c x=>(toX x).map .c
 | .agg cs=>(cs.mapM toX).map .agg
 | _=>none
theorem aQQ{w:World}{ok:Nat→Prop}{B:Oid→Value}{φ:Ren}(hw:φ.w0=w)(hk:φ.ok=ok){v:Value}{c:Go.VM.C}{x:X}(h:RepC w ok B v c)(hx:toX c=some x):RepX φ v x:=by
 subst hw;subst hk
 cases h<;>simp only[toX,bw,reduceCtorEq]at hx
 ·subst hx;exact aOY ‹_›
 ·subst hx;exact .sc _ rfl
 ·subst hx;exact .sc _ rfl
theorem aAZ{w:World}{ok:Nat→Prop}{B:Oid→Value}{φ:Ren}(hw:φ.w0=w)(hk:φ.ok=ok):∀(vs:List Value) (cs:List Go.VM.C) (xs:List X),Pt (RepC w ok B) vs cs→cs.mapM toX=some xs→Pt (RepX φ) vs xs
 | [],cs,xs,hp,hx=>by
  have:cs=[]:=dk (by have:=hp.1;simpa using this.symm)
  subst this
  simp at hx;subst hx;exact Go.VM.Pt.nil
 | v::vs,cs,xs,hp,hx=>by
  cases cs with
  | nil=>have:=hp.1;simp at this
  | cons c cs =>
   simp only[List.mapM_cons,Option.bind_eq_bind,Option.pure_def]at hx
   cases h1:toX c with
   | none=>simp[h1]at hx
   | some x =>
    cases h2:cs.mapM toX with
    | none=>simp[h1,h2]at hx
    | some r =>
     simp[h1,h2]at hx
     subst hx
     have ht:Pt (RepC w ok B) vs cs:=⟨by have:=hp.1;simpa using this,fun j u z hu hz=>hp.2 (j+1) u z (by simpa using hu) (by simpa using hz)⟩
     exact Go.VM.Pt.cons (aQQ hw hk (hp.2 0 v c rfl rfl) h1) (aAZ hw hk vs cs r ht h2)
theorem a8Z{w:World}{ok:Nat→Prop}{B:Oid→Value}{φ:Ren}(hw:φ.w0=w)(hk:φ.ok=ok){v:Value}{c:Go.VM.V}{x:V}(h:Go.VM.RepV w ok B v c)(hx:toV c=some x):RepV φ v x:=by
 cases c with
 | c y =>
  simp only[toV,aw]at hx
  obtain⟨z,hz,rfl⟩:=hx
  exact aQQ (B:=B) hw hk h hz
 | agg cs =>
  simp only[toV,aw]at hx
  obtain⟨z,hz,rfl⟩:=hx
  obtain⟨us,rfl,hp⟩:=h
  exact⟨us,rfl,aAZ hw hk _ _ _ hp hz⟩
 | tup _=>simp[toV]at hx
 | junk=>simp[toV]at hx
theorem aFq{w:World}{ok:Nat→Prop}{B:Oid→Value}{φ:Ren}(hw:φ.w0=w)(hk:φ.ok=ok):∀(vs:List Value) (cs:List Go.VM.V) (xs:List V),Pt (Go.VM.RepV w ok B) vs cs→cs.mapM toV=some xs→Pt (RepV φ) vs xs
 | [],cs,xs,hp,hx=>by
  have:cs=[]:=dk (by have:=hp.1;simpa using this.symm)
  subst this
  simp at hx;subst hx;exact Go.VM.Pt.nil
 | v::vs,cs,xs,hp,hx=>by
  cases cs with
  | nil=>have:=hp.1;simp at this
  | cons c cs =>
   simp only[List.mapM_cons,Option.bind_eq_bind,Option.pure_def]at hx
   cases h1:toV c with
   | none=>simp[h1]at hx
   | some x =>
    cases h2:cs.mapM toV with
    | none=>simp[h1,h2]at hx
    | some r =>
     simp[h1,h2]at hx
     subst hx
     have ht:Pt (Go.VM.RepV w ok B) vs cs:=⟨by have:=hp.1;simpa using this,fun j u z hu hz=>hp.2 (j+1) u z (by simpa using hu) (by simpa using hz)⟩
     exact Go.VM.Pt.cons (a8Z hw hk (hp.2 0 v c rfl rfl) h1) (aFq hw hk vs cs r ht h2)
inductive TreeX(h:Hp)(fresh:Bool):X→T→Prop
 | sc (v:Value):TreeX h fresh (.sc v) (.sc v)
 | nil (k:Nat):TreeX h fresh (.sc aQq) (.sl k [])
 | es (k:Nat):TreeX h fresh .es (.sl k [])
 | ez (k:Nat):TreeX h fresh .ez (.sl k [])
 | im (k:Nat) (rows:List (List T)):fresh=false→TreeX h fresh (.im k rows) (.sl k rows)
 | im0 (k k':Nat):TreeX h fresh (.im k []) (.sl k' [])
 | sl0 (n k off k':Nat):TreeX h fresh (.sl n k off 0) (.sl k' [])
 | sl (n k off:Nat) (rows:List (List T)) (e:TypeId) (cs xs:List X):h n=some (.cells e cs)→cut cs off (rows.length*k)=some xs→(∀row∈rows,row.length=k)→xs.length=rows.flatten.length →
   (∀(j:Nat) x t,xs[j]? = some x→rows.flatten[j]? = some t→TreeX h fresh x t)→TreeX h fresh (.sl n k off rows.length) (.sl k rows)
def TreeS(h:Hp)(fresh:Bool):V→Go.VM.V→Prop
 | .c x,.c (.imm t)=>TreeX h fresh x t
 | .agg xs,.agg cs=>Pt (fun x c=>∃t,c = .imm t∧TreeX h fresh x t) xs cs
 | _,_=>False
def TreeV(h:Hp)(fresh:Bool):V→Go.VM.V→Prop
 | .tup xs,.tup ys=>Pt (TreeS h fresh) xs ys
 | x,y=>TreeS h fresh x y
section
variable {w0 w:World} {φ:Ren} {h:Hp} {fresh:Bool} {B:Oid→Value}
theorem arW(R:Rel w0 φ h w){v:Value}{x:X}{t:T}(hx:RepX φ v x)(ht:TreeX h fresh x t):RepT w (J3 fresh w0.heap.size φ.ok w B noHeap) v t:=by
 induction ht generalizing v with
 | sc u => cases hx with | sc _ h => exact .sc _ h
 | nil k=>cases hx;exact .nil _ _ _
 | es k=>cases hx;exact .nil _ _ _
 | ez k=>cases hx;exact .nil _ _ _
 | im k rows hf =>
  cases hx with
  | im _ _ _ hrt =>
   rw[R.w0e]at hrt
   exact hrt.mono (fun b hb=>R.fr.block b (R.okl b hb) id) fun b hb=>⟨⟨Nat.lt_of_lt_of_le (R.okl b hb) R.fr.size,fun _=>hb,fun o ob ho=>by simp[noHeap]at ho⟩,fun h=>by rw[hf]at h;simp at h⟩
 | im0 k k' =>
  rcases TY (φ := φ) hx with⟨_,a,cap,rfl⟩ | ⟨b,off,cap,rfl,_⟩
  ·exact .nil _ _ _
  ·exact .nil _ _ _
 | sl0 n k off k' =>
  cases hx with
  | sl=>exact .nil _ _ _
 | sl n k off rows e cs xs hn hcut hk hl _ ih =>
  cases hx with
  | sl _ _ _ _ b β lim o cap hφ hlen ho hlim =>
   by_cases h0:rows=[]
   ·subst h0;exact .nil _ _ _
   ·have hpos:0<rows.length:=List.length_pos_iff.2 h0
    have ho:=ho hpos
    subst ho
    obtain⟨vs,hvl,hlie,hp⟩:=Sq (R.rep n _ hn) hφ hcut
    have hb:w0.heap.size≤b:=R.old n _ b hn rfl ⟨_,_,hφ⟩
    have d6:∀(i:Nat) row (j:Nat) x,rows[i]? = some row→row[j]? = some x→rows.flatten[i*k+j]? = some x:=by
     intro i row j x hi hj
     have hrl:=hk row (ek hi)
     have hjl:j<k:=by rw[←hrl];exact(dw.1 hj).1
     have hf:=Go.VM.flatten_get rows i row hk hi
     have:((rows.flatten.drop (i*k)).take k)[j]? = some x:=by rw[hf];exact hj
     simpa[lk,hjl,List.getElem?_drop]using this
    have hval:∀(i:Nat) row (j:Nat) x,rows[i]? = some row→row[j]? = some x→∃u,vs[i*k+j]? = some u∧RepT w (J3 fresh w0.heap.size φ.ok w B noHeap) u x:=by
     intro i row j x hi hj
     have hx:=d6 i row j x hi hj
     have hlt:i*k+j<xs.length:=by rw[hl];exact(dw.1 hx).1
     have hlt':i*k+j<vs.length:=by rw[hp.1];exact hlt
     exact⟨vs[i*k+j],bk hlt',ih _ _ _ (bk hlt) hx (hp.2 _ _ _ (bk hlt') (bk hlt))⟩
    refine .sl b (β+off) cap k rows (fun i j=>vs.getD (i*k+j) undef) ⟨⟨R.lt n b ⟨_,_,hφ⟩,fun hlt=>by omega,fun o ob ho=>by simp[noHeap]at ho⟩,fun _=>hb⟩ hlen hk ?_ ?_
    ·intro i row j x hi hj
     obtain⟨u,hu,_⟩:=hval i row j x hi hj
     have:=hlie _ u hu
     simp only[List.getD,hu,Option.getD_some]
     rw[Nat.add_assoc];exact this
    ·intro i row j x hi hj
     obtain⟨u,hu,hr⟩:=hval i row j x hi hj
     simp only[List.getD,hu,Option.getD_some]
     exact hr
theorem abj(R:Rel w0 φ h w){v:Value}{x:V}{y:Go.VM.V}(hx:RepS φ v x)(ht:TreeS h fresh x y):Go.VM.RepS w (J3 fresh w0.heap.size φ.ok w B noHeap) B v y:=by
 unfold TreeS at ht
 split at ht
 ·exact RepC.imm _ _ (arW R hx ht)
 ·obtain⟨cs,rfl,hp⟩:=hx
  refine⟨cs,rfl,hp.1.trans ht.1,fun j u c hu hc=>?_⟩
  have hlt:j<cs.toList.length:=(dw.1 hu).1
  have hlt':j<_:=hp.1▸hlt
  obtain⟨t,rfl,hx⟩:=ht.2 j _ c (bk hlt') hc
  exact RepC.imm _ _ (arW R (hp.2 j u _ hu (bk hlt')) hx)
 ·exact ht.elim
theorem atQ(R:Rel w0 φ h w){v:Value}{x:V}{y:Go.VM.V}(hx:RepV φ v x)(ht:TreeV h fresh x y):Go.VM.RepV w (J3 fresh w0.heap.size φ.ok w B noHeap) B v y:=by
 unfold TreeV at ht
 split at ht
 ·obtain⟨vs,rfl,hp⟩:=hx
  refine⟨vs,rfl,hp.1.trans ht.1,fun j u c hu hc=>?_⟩
  have hlt:j<vs.toList.length:=(dw.1 hu).1
  have hlt':j<_:=hp.1▸hlt
  exact abj R (hp.2 j u _ hu (bk hlt')) (ht.2 j _ c (bk hlt') hc)
 ·cases x with
  | c _ =>
   cases y with
   | c _=>exact abj R (x:=.c _) (y:=.c _) hx ht
   | _=>simp[TreeS]at ht
  | agg _ =>
   cases y with
   | agg _=>exact abj R (x:=.agg _) (y:=.agg _) hx ht
   | _=>simp[TreeS]at ht
  | tup _=>simp[TreeS]at ht
  | junk=>simp[TreeS]at ht
end
def T2:List (Nat×RF)→Tr RF
 | []=>.lf
 | p::r=>(T2 r).set p.1 p.2
theorem acZ:∀ {l:List (Nat×RF)} {f:Nat} {rf:RF},(T2 l).get f=some rf→(f,rf)∈l
 | [],f,rf,h=>by simp[T2,Tr.get]at h
 | p::l,f,rf,h=>by
  simp only[T2,Tr.get_set]at h
  by_cases e:f=p.1
  ·rw[if_pos e]at h
   cases h
   rw[e];exact List.mem_cons_self
  ·rw[if_neg e]at h
   exact List.mem_cons_of_mem _ (acZ h)
def aIX(P:Program)(f:FuncId):Bool:=match P.funcs[f]? with
 | some fn => !(fn.name == "runtime.NumGoroutine")
 | none=>false
theorem bdj{P:Program}{l:List (Nat×RF)}(h:∀p∈l,bdX P p.1=some p.2∧aIX P p.1=true):TOk P (T2 l):=by
 intro f rf hf
 obtain⟨h1,h2⟩:=h _ (acZ hf)
 simp only[bdX,ak,aw]at h1
 obtain⟨fn,hfn,c,hc,rc,hrc,rs,hrs,rfl⟩:=h1
 refine⟨fn,c,hfn,hc,hrc,hrs,?_⟩
 simp only[aIX,hfn,mw]at h2
 exact h2
def bkj(P:Program)(l:List Nat):Tr RF:=T2 (l.filterMap fun f=>(bdX P f).map fun r=>(f,r))
theorem aQj{P:Program}{l:List Nat}(h:(l.all fun f=>aIX P f)=true):TOk P (bkj P l):=bdj fun p hp=>by
 obtain⟨f,hf,h1⟩:=List.mem_filterMap.1 hp
 obtain⟨r,h2,rfl⟩:=aw.1 h1
 refine⟨h2,?_⟩
 exact lw.1 h f hf
def s0:S:=⟨.lf,0,0⟩
def aBJ:qX:=fun _ _ _=>none
theorem aXK(P:Program)(w0:World):L9 P w0 aBJ:=fun _ _ _ _ _ h=>by simp[aBJ]at h
theorem aVQ:Fz aBJ:=fun _ _ _ _ _ h=>by simp[aBJ]at h
theorem aoV{P:Program}{orc:qX}{T:Tr RF}(hT:TOk P T)(ho:∀w0,L9 P w0 orc)(hoi:Fz orc){f:FuncId}{vs:List Go.VM.V}{us:List V}(hus:vs.mapM toV=some us){fresh:Bool}{r:Go.VM.V}
  {n:Nat} {outs:List (V×S)} {rr:Nat} (hx:Iz orc T n f us s0=some (outs,rr)) (hr:∀p∈outs,TreeV p.2.h.get fresh p.1 r):Fun P f fresh [] vs noHeap r noHeap:=by
 intro w ok B args hlt hbl hp hobjs
 obtain⟨hcall,hinv⟩:=YX hT (ho w) hoi (aPY hT (ho w) hoi n)
 let φ:Ren:=⟨fun _=>none,w,ok,fun _=>none⟩
 have R:Rel w φ (jV (fun _=>none) s0) w:=by
  have hn:∀m,jV (fun _=>none) s0 m=none:=fun m=>by simp[jV,s0]
  exact⟨fun m o h=>by rw[hn]at h;simp at h,fun m _ o _ _ h=>by rw[hn]at h;simp at h,fun m o _ h=>by rw[hn]at h;simp at h,fun m _ _ _ h=>by rw[hn]at h;simp at h,fun _ _=>rfl,fun m b ⟨_,_,h⟩=>by simp[φ]at h,Fr.refl _ _,rfl,hlt,fun D o h=>by simp[φ]at h⟩
 refine((hcall f us s0 outs rr hx).2 (fun _=>none) (fun _=>none) φ w args (fun _ _=>rfl) (fun m _=>rfl) R (aFq rfl rfl _ _ _ hp hus)).mono fun e w' hh=>?_
 obtain⟨v,rfl,p,hpm,φ',hle,R',hrep⟩:=hh
 have hov:jV (fun _=>none) p.2=p.2.h.get:=by
  funext m
  unfold jV
  cases hb:p.2.w.testBit m with
  | true=>rfl
  | false=>exact(hinv f us s0 outs rr hx (fun _=>none) (fun _ _=>rfl) p hpm m hb).symm
 rw[hov]at R'
 have hok:φ'.ok=ok:=hle.ok
 refine⟨v,B,rfl,⟨R'.fr.os,R'.fr.tape,R'.fr.output,R'.fr.size,fun b hb _=>R'.fr.block b hb id⟩,?_,⟨fun o ob h=>by simp[noHeap]at h,fun o o' ob ob' b h=>by simp[noHeap]at h⟩,fun o ob b h=>by simp[noHeap]at h,fun o h=>by simp at h⟩
 have:=atQ (B:=B) (fresh:=fresh) R' hrep (hr p hpm)
 rw[hok]at this
 exact this
def bbV:List (V×S)→Bool
 | []=>true
 | p::r=>match p.1 with
  | .c (.sc (.bool true))=>bbV r
  | _=>false
theorem aFx:∀ {l:List (V×S)},bbV l=true→∀p∈l,p.1 = .c (.sc (.bool true))
 | [],_,p,h=>by simp at h
 | q::r,h,p,hp=>by
  simp only[bbV]at h
  split at h
  ·rename_i hq
   rcases iw.1 hp with rfl | hp
   ·exact hq
   ·exact aFx h p hp
  ·simp at h
def isT:Out (V×S)→Bool
 | some (l,_)=>bbV l
 | none=>false
end
end Go.RM
namespace Go.RM
noncomputable section
def Up{α:Type}(f f':Option α):Prop:=∀x,f=some x→f'=some x
theorem Up.refl{α:Type}(f:Option α):Up f f:=fun _ h=>h
theorem Up.trans{α:Type}{f f' f'':Option α}(h:Up f f')(h':Up f' f''):Up f f'':=fun x hx=>h' x (h x hx)
theorem XV{α β:Type}{f f':α→Out β}:∀(l:List α) (r:Nat),(∀a∈l,Up (f a) (f' a))→Up (Ij f l r) (Ij f' l r)
 | [],r,_=>fun x h=>h
 | a::l,r,h=>fun x hx=>by
  simp only[Ij]at hx ⊢
  split at hx
  ·simp at hx
  ·rename_i ys r1 hf
   rw[h a List.mem_cons_self _ hf]
   split at hx
   ·simp at hx
   ·rename_i zs r2 he
    rw[XV l _ (fun b hb=>h b (List.mem_cons_of_mem _ hb)) _ he]
    exact hx
theorem F3{α β:Type}{x x':Out α}{f f':α→Out β}(hx:Up x x')(h:∀a,Up (f a) (f' a)):Up (Dj x f) (Dj x' f'):=by
 intro y hy
 unfold Dj at hy ⊢
 split at hy
 ·simp at hy
 ·rename_i l r
  rw[hx _ rfl]
  exact XV l r (fun a _=>h a) y hy
def Z4(call call':qX):Prop:=∀f args s,Up (call f args s) (call' f args s)
theorem bex{call call':qX}(h:Z4 call call')(e:Opd→V)(s:S)(ro:RO):Up (opX call e s ro) (opX call' e s ro):=by
 intro x hx
 cases ro
 case call f args=>exact h _ _ _ x hx
 case callv y args =>
  simp only[opX]at hx ⊢
  split at hx
  ·exact h _ _ _ x hx
  ·simp at hx
 all_goals exact hx
theorem aGX{call call':qX}(h:Z4 call call')(o:ROp)(Γ:Tr V)(s:S):Up (PZ call o Γ s) (PZ call' o Γ s):=by
 intro x hx
 unfold PZ at hx ⊢
 split at hx
 ·simp at hx
 ·exact hx
 ·exact F3 (bex h _ _ _) (fun a=>Up.refl _) x hx
theorem aPQ{call call':qX}(h:Z4 call call'):∀(os:List (ROp×Nat)) (Γ:Tr V) (s:S),Up (afz call os Γ s) (afz call' os Γ s)
 | [],_,_=>Up.refl _
 | o::os,Γ,s=>by
  intro x hx
  simp only[afz]at hx ⊢
  exact F3 (aGX h _ _ _) (fun a=>aPQ h os a.1 a.2) x hx
theorem aAj{call call':qX}(h:Z4 call call'):∀(os:List (ROp×Nat)) (tab:List Nat) (i:Nat) (ds:List Did) (Γ:Tr V) (s:S) (r:Nat),Up (PX call os tab i ds Γ s r) (PX call' os tab i ds Γ s r)
 | [],_,_,_,_,_,_=>Up.refl _
 | o::os,[],i,ds,Γ,s,r=>by intro x hx;simp[PX]at hx
 | o::os,b::tab,i,ds,Γ,s,r=>by
  intro x hx
  simp only[PX]at hx ⊢
  split at hx
  ·rename_i Γ' s' r' hst
   rw[aGX h _ _ _ _ hst]
   simp only
   cases hall:ds.all (fun x=>Wj b x ⟨i,o.2,H9 o.1.dst,r',s'.w⟩)with
   | false=>simp[hall]at hx
   | true =>
    simp only[hall,cond_true]at hx ⊢
    exact aAj h os tab _ _ _ _ _ x hx
  ·simp at hx
theorem Kq(orc:qX)(T:Tr RF):∀(n:Nat) (c:RC) (Γ:Tr V) (s:S),Up (J5 orc T n c Γ s) (J5 orc T (n+1) c Γ s)
 | 0,_,_,_=>fun x h=>by simp[J5]at h
 | n+1,c,Γ,s=>by
  have hc:Z4 (Iz orc T n) (Iz orc T (n+1)):=by
   intro f args s x hx
   unfold Iz at hx ⊢
   split at hx
   ·exact hx
   ·exact F3 (Kq orc T n _ _ _) (fun a=>Up.refl _) x hx
  intro x hx
  rw[arX]at hx ⊢
  cases c with
  | skip=>exact hx
  | ret=>exact hx
  | exit _=>exact hx
  | bad=>exact hx
  | region d ops =>
   cases d with
   | none=>exact F3 (aPQ hc _ _ _) (fun a=>Up.refl _) x hx
   | some tab=>exact F3 (aAj hc _ _ _ _ _ _ _) (fun a=>Up.refl _) x hx
  | seq a b =>
   refine F3 (Kq orc T n a Γ s) (fun p=>?_) x hx
   intro y hy
   split at hy
   ·exact Kq orc T n b _ _ y hy
   ·exact hy
  | cond q a b =>
   simp only at hx ⊢
   split at hx
   ·simp at hx
   ·rename_i hb
    exact Kq orc T n a _ _ x hx
   ·rename_i hb
    exact Kq orc T n b _ _ x hx
  | block id b=>exact F3 (Kq orc T n b Γ s) (fun a=>Up.refl _) x hx
  | loop b =>
   refine F3 (Kq orc T n b Γ s) (fun p=>?_) x hx
   intro y hy
   split at hy
   ·exact Kq orc T n (.loop b) _ _ y hy
   ·exact hy
theorem aZJ(orc:qX)(T:Tr RF)(n:Nat):Z4 (Iz orc T n) (Iz orc T (n+1)):=by
 intro f args s x hx
 unfold Iz at hx ⊢
 split at hx
 ·exact hx
 ·exact F3 (Kq orc T n _ _ _) (fun a=>Up.refl _) x hx
def Mono{α:Type}(g:Nat→Out α):Prop:=∀n,Up (g n) (g (n+1))
theorem Mono.le{α:Type}{g:Nat→Out α}(h:Mono g){n m:Nat}(hnm:n≤m):Up (g n) (g m):=by
 obtain⟨d,rfl⟩:=Nat.le.dest hnm
 clear hnm
 induction d with
 | zero=>exact Up.refl _
 | succ d ih=>exact ih.trans (h (n+d))
theorem Mono.call(orc:qX)(T:Tr RF)(f:FuncId)(args:List V)(s:S):Mono fun n=>Iz orc T n f args s:=fun n=>aZJ orc T n f args s
theorem Mono.const{α:Type}(x:Out α):Mono fun _=>x:=fun _=>Up.refl _
theorem Mono.bind{α β:Type}{g:Nat→Out α}{f:Nat→α→Out β}(h:Mono g)(h':∀a,Mono fun n=>f n a):Mono fun n=>Dj (g n) (f n):=fun n=>F3 (h n) fun a=>h' a n
def Ev{α:Type}(g:Nat→Out α)(F:Nat→Prop)(D:Prop)(Q:α→Prop):Prop :=
 ∃n outs r,g n=some (outs,r)∧(∀p∈outs,Q p)∧(∀k,r.testBit k=true→F k)∧(D→∃p,outs=[p])
theorem Ev.mono{α:Type}{g:Nat→Out α}{F F':Nat→Prop}{D D':Prop}{Q Q':α→Prop}(h:Ev g F D Q)(hF:∀k,F k→F' k)(hD:D'→D)(hQ:∀p,Q p→Q' p):Ev g F' D' Q':=by
 obtain⟨n,outs,r,h1,h2,h3,h4⟩:=h
 exact⟨n,outs,r,h1,fun p hp=>hQ p (h2 p hp),fun k hk=>hF k (h3 k hk),fun d=>h4 (hD d)⟩
theorem Ev.one{α:Type}{x:α}{F:Nat→Prop}{D:Prop}{Q:α→Prop}(h:Q x):Ev (fun _=>one x) F D Q :=
 ⟨0,[x],0,rfl,fun p hp=>by rw[ew.1 hp];exact h,fun k hk=>by simp at hk,fun _=>⟨x,rfl⟩⟩
theorem Ev.some{α:Type}{x:α}{r:Nat}{F:Nat→Prop}{D:Prop}{Q:α→Prop}(h:Q x)(hr:∀k,r.testBit k=true→F k):Ev (fun _=>some ([x],r)) F D Q :=
 ⟨0,[x],r,rfl,fun p hp=>by rw[ew.1 hp];exact h,hr,fun _=>⟨x,rfl⟩⟩
theorem aBz{α β:Type}{f:Nat→α→Out β}(hm:∀a,Mono fun n=>f n a){F:Nat→Prop}{D:Prop}{Q:β→Prop}:∀(l:List α) (r0:Nat),(∀k,r0.testBit k=true→F k)→(∀a∈l,Ev (fun n=>f n a) F D Q)→(D→∃p,l=[p]) →
  ∃n outs r,Ij (f n) l r0=Option.some (outs,r)∧(∀p∈outs,Q p)∧(∀k,r.testBit k=true→F k)∧(D→∃p,outs=[p])
 | [],r0,h0,_,hD=>⟨0,[],r0,rfl,by simp,h0,fun d=>by obtain⟨p,hp⟩:=hD d;simp at hp⟩
 | a::l,r0,h0,h,hD=>by
  obtain⟨n1,o1,r1,e1,q1,f1,d1⟩:=h a List.mem_cons_self
  have hD':D→l=[]:=fun d=>by obtain⟨p,hp⟩:=hD d;cases hp;rfl
  have h1:∀k,(Nat.lor r0 r1).testBit k=true→F k:=fun k hk=>by
   rw[JX,Bool.or_eq_true]at hk
   exact hk.elim (h0 k) (f1 k)
  by_cases hl:l=[]
  ·subst hl
   refine⟨n1,o1,Nat.lor r0 r1,?_,q1,h1,d1⟩
   simp[Ij,e1]
  ·obtain⟨n2,o2,r2,e2,q2,f2,_⟩:=aBz (D:=False) hm l (Nat.lor r0 r1) h1 (fun b hb=>(h b (List.mem_cons_of_mem _ hb)).mono (fun _ h=>h) (fun h=>h.elim) (fun _ h=>h)) (fun h=>h.elim)
   refine⟨max n1 n2,o1++o2,r2,?_,fun p hp=>(jk.1 hp).elim (q1 p) (q2 p),f2,fun d=>absurd (hD' d) hl⟩
   simp only[Ij]
   rw[(hm a).le (Nat.le_max_left n1 n2) _ e1]
   simp only
   have:Up (Ij (f n2) l (Nat.lor r0 r1)) (Ij (f (max n1 n2)) l (Nat.lor r0 r1)):=XV l _ fun b _=>(hm b).le (Nat.le_max_right n1 n2)
   rw[this _ e2]
theorem Ev.bind{α β:Type}{g:Nat→Out α}{f:Nat→α→Out β}(hg:Mono g)(hm:∀a,Mono fun n=>f n a){F:Nat→Prop}{D:Prop}{Q:β→Prop}(h:Ev g F D fun a=>Ev (fun n=>f n a) F D Q):Ev (fun n=>Dj (g n) (f n)) F D Q:=by
 obtain⟨n1,l,r0,e1,q1,f1,d1⟩:=h
 obtain⟨n2,outs,r,e2,q2,f2,d2⟩:=aBz hm l r0 f1 q1 d1
 refine⟨max n1 n2,outs,r,?_,q2,f2,d2⟩
 show Dj (g (max n1 n2)) (f (max n1 n2))=_
 rw[hg.le (Nat.le_max_left n1 n2) _ e1]
 simp only[Dj]
 have:Up (Ij (f n2) l r0) (Ij (f (max n1 n2)) l r0):=XV l _ fun b _=>(hm b).le (Nat.le_max_right n1 n2)
 exact this _ e2
section
variable (orc:qX) (T:Tr RF)
def Wp(c:RC)(Γ:Tr V)(s:S)(F:Nat→Prop)(D:Prop)(Q:Ex→Tr V→S→Prop):Prop:=Ev (fun n=>J5 orc T n c Γ s) F D fun p=>Q p.1 p.2.1 p.2.2
def Cp(f:FuncId)(args:List V)(s:S)(F:Nat→Prop)(D:Prop)(Q:V→S→Prop):Prop:=Ev (fun n=>Iz orc T n f args s) F D fun p=>Q p.1 p.2
def Op(ro:RO)(e:Opd→V)(s:S)(F:Nat→Prop)(D:Prop)(Q:V→S→Prop):Prop:=Ev (fun n=>opX (Iz orc T n) e s ro) F D fun p=>Q p.1 p.2
end
section
variable {orc:qX} {T:Tr RF} {Γ:Tr V} {s:S} {F:Nat→Prop} {D:Prop} {Q:Ex→Tr V→S→Prop}
theorem Wp.mono{c:RC}{F':Nat→Prop}{D':Prop}{Q':Ex→Tr V→S→Prop}(h:Wp orc T c Γ s F D Q)(hF:∀k,F k→F' k)(hD:D'→D)(hQ:∀e Γ s,Q e Γ s→Q' e Γ s):Wp orc T c Γ s F' D' Q':=Ev.mono h hF hD fun p=>hQ _ _ _
theorem Cp.mono{f:FuncId}{args:List V}{F':Nat→Prop}{D':Prop}{Q Q':V→S→Prop}(h:Cp orc T f args s F D Q)(hF:∀k,F k→F' k)(hD:D'→D)(hQ:∀v s,Q v s→Q' v s):Cp orc T f args s F' D' Q':=Ev.mono h hF hD fun p=>hQ _ _
end
end
end Go.RM
namespace Go.RM
noncomputable section
section
variable (orc:qX) (T:Tr RF)
end
section
variable {orc:qX} {T:Tr RF} {Γ:Tr V} {s:S} {F:Nat→Prop} {D:Prop}
end
end
end Go.RM
namespace Go.RM
noncomputable section
structure Fp where
 i:Nat
 R:Nat→Prop
 W:Nat→Prop
def bits(r:Nat):Nat→Prop:=fun k=>r.testBit k=true
section
variable {orc:qX} {T:Tr RF} {F:Nat→Prop} {D:Prop}
section
variable {os:List (ROp×Nat)} {o:ROp×Nat} {b:Nat} {tab:List Nat} {i:Nat} {ds:List Fp} {Γ:Tr V} {s:S} {k:Tr V→S→Prop}
end
end
end
end Go.RM
namespace Go.RM
noncomputable section
open Go.VM (Pt Fr T RepT RepC Fun noHeap BJ J3 wj Oid Lies)
section
variable {w0 w w':World} {φ:Ren} {h h':Hp}
theorem Rel.later(R:Rel w0 φ h w)(hfr:Fr w w' fun _=>False):Rel w0 φ h w' :=
 ⟨fun n o hn=>(R.rep n o hn).keep (Ren.le_refl φ) (fun b _ hb=>hfr.block b (R.lt n b hb) id) (fun m _ _ b _ hb=>hfr.block b (R.lt m b hb) id),R.inj,R.old,R.iters,R.dom,
  fun n b hb=>Nat.lt_of_lt_of_le (R.lt n b hb) hfr.size,R.fr.trans hfr (fun _ _ h=>h),R.w0e,R.okl,fun D o hD=>⟨(hfr.block D (gk.1 (R.fz D o hD).1).1 id).trans (R.fz D o hD).1,(R.fz D o hD).2⟩⟩
theorem TreeX.mono{fresh:Bool}{x:X}{t:T}(hh:∀n o,h n=some o→h' n=some o)(ht:TreeX h fresh x t):TreeX h' fresh x t:=by
 induction ht with
 | sc v=>exact .sc v
 | nil k=>exact .nil k
 | es k=>exact .es k
 | ez k=>exact .ez k
 | im k rows hf=>exact .im k rows hf
 | im0 k k'=>exact .im0 k k'
 | sl0 n k off k'=>exact .sl0 n k off k'
 | sl n k off rows e cs xs hn hcut hk hl _ ih=>exact .sl n k off rows e cs xs (hh _ _ hn) hcut hk hl ih
theorem Pt.imp{α β:Type}{r r':α→β→Prop}(h:∀a b,r a b→r' a b){xs:List α}{ys:List β}(hp:Pt r xs ys):Pt r' xs ys:=⟨hp.1,fun j a b ha hb=>h a b (hp.2 j a b ha hb)⟩
theorem TreeS.mono{fresh:Bool}{x:V}{t:Go.VM.V}(hh:∀n o,h n=some o→h' n=some o)(ht:TreeS h fresh x t):TreeS h' fresh x t:=by
 cases x<;>cases t<;>simp only[TreeS]at ht ⊢
 case c.c x y =>
  cases y<;>simp only at ht ⊢
  exact ht.mono hh
 case agg.agg xs ys=>exact Pt.imp (fun a b ⟨t,e,ht⟩=>⟨t,e,ht.mono hh⟩) ht
theorem TreeV.mono{fresh:Bool}{x:V}{t:Go.VM.V}(hh:∀n o,h n=some o→h' n=some o)(ht:TreeV h fresh x t):TreeV h' fresh x t:=by
 unfold TreeV at ht ⊢
 split at ht
 ·exact Pt.imp (fun a b=>TreeS.mono hh) ht
 ·exact TreeS.mono hh ht
end
def a1Q:Go.VM.V→Option V
 | .c (.imm (.sc v))=>some (.c (.sc v))
 | _=>none
def toR:Go.VM.V→Option V
 | .tup ys=>(ys.mapM a1Q).map .tup
 | y=>a1Q y
theorem aBZ{w:World}{ok:Nat→Prop}{B:Oid→Value}{φ:Ren}{v:Value}{y:Go.VM.V}{x:V}(h:Go.VM.RepS w ok B v y)(hx:a1Q y=some x):RepS φ v x:=by
 unfold a1Q at hx
 split at hx
 ·cases hx
  cases h with
  | imm _ _ hrt => cases hrt with | sc _ h1 => exact RepX.sc _ h1
 ·simp at hx
theorem bbY{w:World}{ok:Nat→Prop}{B:Oid→Value}{φ:Ren}{v:Value}{y:Go.VM.V}{x:V}(h:Go.VM.RepV w ok B v y)(hx:toR y=some x):RepV φ v x:=by
 unfold toR at hx
 split at hx
 ·rename_i ys
  obtain⟨xs,hxs,rfl⟩:=aw.1 hx
  obtain⟨vs,rfl,hp⟩:=h
  refine⟨vs,rfl,?_⟩
  have key:∀(ys:List Go.VM.V) (xs:List V) (us:List Value),ys.mapM a1Q=some xs→Pt (Go.VM.RepS w ok B) us ys→Pt (RepS φ) us xs:=by
   intro ys
   induction ys with
   | nil =>
    intro xs us h1 h2
    simp at h1;subst h1
    have:us=[]:=dk (by have:=h2.1;simpa using this)
    subst this
    exact Go.VM.Pt.nil
   | cons y ys ih =>
    intro xs us h1 h2
    cases us with
    | nil=>have:=h2.1;simp at this
    | cons u us =>
     simp only[List.mapM_cons,Option.bind_eq_bind,Option.pure_def,ak]at h1
     obtain⟨x1,g1,xs1,g2,g3⟩:=h1
     cases g3
     exact Go.VM.Pt.cons (aBZ (h2.2 0 u y rfl rfl) g1) (ih _ _ g2 ⟨by have:=h2.1;simpa using this,fun j u z hu hz=>h2.2 (j+1) u z (by simpa using hu) (by simpa using hz)⟩)
  exact key _ _ _ hxs hp
 ·rename_i hne
  have h1:Go.VM.RepS w ok B v y:=by
   cases y with
   | tup ys=>exact absurd rfl (hne ys)
   | c _=>exact h
   | agg _=>exact h
   | junk=>exact h
  have h2:=aBZ (φ:=φ) h1 hx
  cases x with
  | tup xs=>exact h2.elim
  | c _=>exact h2
  | agg _=>exact h2
  | junk=>exact h2
structure auX(P:Program)(f:FuncId)(args:List V)(s:S)(mask:Nat)(res:V):Prop where
 fn : ∃ fn, P.funcs[f]? = some fn ∧ fn.body.isSome = true ∧ (fn.name == "runtime.NumGoroutine") = false
 run:∃vs r fresh,Pt (TreeV (fun n=>bif mask.testBit n then s.h.get n else none) false) args vs∧Fun P f fresh [] vs noHeap r noHeap∧toR r=some res
def a2q(K:FuncId→List V→S→Option (V×Nat)):qX:=fun f args s=>(K f args s).map fun p=>([(p.1,s)],p.2)
theorem aWW(K:FuncId→List V→S→Option (V×Nat)):Fz (a2q K):=by
 intro f args s outs r h g hi p hp
 obtain⟨q,_,e⟩:=aw.1 h
 cases e
 rw[ew.1 hp];exact hi
theorem aKj{w0 w:World}{φ:Ren}{h:Hp}{fresh:Bool}{B:Oid→Value}(R:Rel w0 φ h w){vs:List Value}{xs:List V}{ys:List Go.VM.V}(hx:Pt (RepV φ) vs xs)(ht:Pt (TreeV h fresh) xs ys):Pt (Go.VM.RepV w (J3 fresh w0.heap.size φ.ok w B noHeap) B) vs ys:=by
 refine⟨hx.1.trans ht.1,fun j u c hu hc=>?_⟩
 have hlt:j<vs.length:=(dw.1 hu).1
 have hlt':j<xs.length:=hx.1▸hlt
 exact atQ R (hx.2 j u _ hu (bk hlt')) (ht.2 j _ c (bk hlt') hc)
theorem a0Z{P:Program}{K:FuncId→List V→S→Option (V×Nat)}(hK:∀f args s res mask,K f args s=some (res,mask)→auX P f args s mask res):∀w0,L9 P w0 (a2q K):=by
 intro w0 f args s outs r h
 obtain⟨⟨res,mask⟩,hq,e⟩:=aw.1 h
 cases e
 obtain⟨hfn,vs',y,fresh,hargs,hfun,hres⟩:=hK f args s res mask hq
 refine⟨hfn,fun g h2 φ w vs hr hi R hp=>?_⟩
 have hargs':Pt (TreeV (jV h2 s) false) args vs':=Pt.imp (fun a b=>TreeV.mono fun n o hn=>by
  cases hm:mask.testBit n with
  | false=>rw[hm]at hn;simp at hn
  | true =>
   rw[hm]at hn
   simp only[cond_true]at hn
   unfold jV
   cases hw:s.w.testBit n with
   | true=>exact hn
   | false =>
    simp only[cond_false]
    rw[hr n hm,←hi n hw];exact hn) hargs
 have hrep:=aKj (B:=fun _=>undef) R hp hargs'
 refine(hfun w _ (fun _=>undef) vs (fun b hb=>hb.1.1) (fun b _ ⟨o,ob,ho,_⟩=>by simp[noHeap]at ho) hrep ⟨fun o ob ho=>by simp[noHeap]at ho,fun o o' ob ob' b ho=>by simp[noHeap]at ho⟩).mono fun e w' hh=>?_
 obtain⟨v,B',rfl,hfr,hv,_⟩:=hh
 have hfr':Fr w w' fun _=>False:=⟨hfr.os,hfr.tape,hfr.output,hfr.size,fun b hb _=>hfr.block b hb (fun⟨o,ob,ho,_⟩=>by simp[noHeap]at ho)⟩
 exact⟨v,rfl,(res,s),ew.2 rfl,φ,Ren.le_refl φ,R.later hfr',bbY hv hres⟩
end
end Go.RM
namespace Go.RM
noncomputable section
open Go.VM (T Pt Fun noHeap)
def a7x:Value→Value→Bool
 | .int k n,.int k' n'=>decide (k=k')&&decide (n=n')
 | .bool a,.bool b=>decide (a=b)
 | .string a,.string b=>decide (a=b)
 | _,_=>false
theorem aOq{a b:Value}(h:a7x a b=true):a=b:=by
 unfold a7x at h
 split at h
 ·simp only[cw,decide_eq_true_eq]at h;rw[h.1,h.2]
 ·rw[of_decide_eq_true h]
 ·rw[of_decide_eq_true h]
 ·cases h
def axz{α β:Type}(p:α→β→Bool):List α→List β→Bool
 | [],[]=>true
 | a::as,b::bs=>p a b&&axz p as bs
 | _,_=>false
theorem ahQ{α β:Type}{p:α→β→Bool}{q:α→β→Prop}(h:∀a b,p a b=true→q a b):∀ {as:List α} {bs:List β},axz p as bs=true→Pt q as bs
 | [],[],_=>Go.VM.Pt.nil
 | a::as,b::bs,e=>by
  simp only[axz,cw]at e
  exact Go.VM.Pt.cons (h a b e.1) (ahQ h e.2)
 | [],_::_,e=>by simp[axz]at e
 | _::_,[],e=>by simp[axz]at e
def mX(h:Hp):Nat→X→T→Bool
 | 0,_,_=>false
 | _+1,.sc v,.sc u=>a7x v u
 | _+1,.sc (.slice none 0 0),.sl _ []=>true
 | n+1,.sl m k off len,.sl k' rows=>match h m with
  | some (.cells _ cs)=>match cut cs off (rows.length*k)with
   | some xs=>decide (len=rows.length)&&(decide (k=k')&&((rows.all fun r=>decide (r.length=k))&&axz (mX h n) xs rows.flatten))
   | none=>false
  | _=>false
 | _,_,_=>false
theorem aZq{h:Hp}:∀(n:Nat) (x:X) (t:T),mX h n x t=true→TreeX h false x t
 | 0,_,_,e=>by simp[mX]at e
 | n+1,x,t,e=>by
  unfold mX at e
  split at e
  ·rename_i h0;simp at h0
  ·rw[aOq e];exact .sc _
  ·exact .nil _
  ·rename_i m k off len k' rows he
   cases he
   split at e
   ·rename_i ty cs hm
    split at e
    ·rename_i xs hc
     simp only[cw,decide_eq_true_eq]at e
     obtain⟨rfl,rfl,hr,ha⟩:=e
     have hp:=ahQ (fun a b=>aZq _ a b) ha
     exact .sl _ _ _ _ _ _ _ hm hc (fun r hr2=>of_decide_eq_true (lw.1 hr r hr2)) hp.1 hp.2
    ·cases e
   ·cases e
  ·cases e
def mS(h:Hp)(n:Nat):V→Go.VM.V→Bool
 | .c x,.c (.imm t)=>mX h n x t
 | .agg xs,.agg cs => axz (fun x c => match c with | .imm t => mX h n x t | _ => false) xs cs
 | _,_=>false
theorem bjz{h:Hp}{n:Nat}{x:V}{t:Go.VM.V}(e:mS h n x t=true):TreeV h false x t:=by
 unfold mS at e
 split at e
 ·exact aZq _ _ _ e
 ·refine ahQ (fun a b hb=>?_) e
  split at hb
  ·exact⟨_,rfl,aZq _ _ _ hb⟩
  ·cases hb
 ·cases e
def aAX:List (FuncId×List Go.VM.V×V)→FuncId→List V→S→Option (V×Nat)
 | [],_,_,_=>none
 | e::L,f,args,s=>bif Nat.beq f e.1 then(let mask:=2 ^ s.c-1;bif axz (mS (fun n=>bif mask.testBit n then s.h.get n else none) 20) args e.2.1 then some (e.2.2,mask)else none)else aAX L f args s
def a5Z (P : Program) (e : FuncId × List Go.VM.V × V) : Prop := ((P.funcs[e.1]?).map fun fn => fn.body.isSome && !(fn.name == "runtime.NumGoroutine")) = some true ∧ ∃ r fresh, Fun P e.1 fresh [] e.2.1 noHeap r noHeap ∧ toR r = some e.2.2
theorem abV{P:Program}:∀ {L:List (FuncId×List Go.VM.V×V)},(∀e∈L,a5Z P e)→∀f args s q mask,aAX L f args s=some (q,mask)→auX P f args s mask q
 | [],_,f,args,s,q,mask,h=>by simp[aAX]at h
 | e::L,hL,f,args,s,q,mask,h=>by
  unfold aAX at h
  cases hb:Nat.beq f e.1 with
  | false =>
   rw[hb]at h
   exact abV (fun e he=>hL e (List.mem_cons_of_mem _ he)) f args s q mask h
  | true =>
   have:=Nat.eq_of_beq_eq_true hb
   subst this
   simp only[hb,cond_true]at h
   cases hc:axz (mS (fun n=>bif (2 ^ s.c-1).testBit n then s.h.get n else none) 20) args e.2.1 with
   | false=>rw[hc]at h;cases h
   | true =>
    rw[hc]at h
    cases h
    obtain⟨hn,r,fresh,hF,hr⟩:=hL e List.mem_cons_self
    refine⟨?_,e.2.1,r,fresh,ahQ (fun a b hb=>bjz hb) hc,hF,hr⟩
    obtain⟨fn,h1,h2⟩:=aw.1 hn
    simp only[cw,mw]at h2
    exact⟨fn,h1,h2.1,h2.2⟩
theorem aSX{P:Program}{T:Tr RF}(hT:TOk P T){f:FuncId}{L:List (FuncId×List Go.VM.V×V)}(hL:∀e∈L,a5Z P e)(fresh:Bool)(n:Nat)(h:isT (Iz (a2q (aAX L)) T n f [] s0)=true):Fun P f fresh [] [] noHeap (.c (.imm (.sc (.bool true)))) noHeap:=by
 unfold isT at h
 split at h
 ·rename_i heq
  exact aoV hT (a0Z (abV hL)) (aWW _) (vs:=[]) (us:=[]) rfl heq fun p hp=>by
   rw[aFx h p hp]
   exact TreeX.sc _
 ·simp at h
def a9X(v:Value):List (V×S)→Bool
 | []=>true
 | p::r => (match p.1 with | .c (.sc u) => a7x u v | _ => false)&&a9X v r
theorem aEJ{v:Value}:∀ {l:List (V×S)},a9X v l=true→∀p∈l,p.1 = .c (.sc v)
 | [],_,p,hp=>by cases hp
 | q::l,h,p,hp=>by
  simp only[a9X,cw]at h
  rcases iw.1 hp with rfl | hp
  ·have h1:=h.1
   split at h1
   ·rename_i u hu;rw[hu,aOq h1]
   ·cases h1
  ·exact aEJ h.2 p hp
def isV(v:Value):Out (V×S)→Bool
 | some (l,_)=>a9X v l
 | none=>false
theorem awY{P:Program}{T:Tr RF}(hT:TOk P T){f:FuncId}{vs:List Go.VM.V}(v:Value)(fresh:Bool)(n:Nat)(h:((vs.mapM toV).map fun us=>isV v (Iz aBJ T n f us s0))=some true):Fun P f fresh [] vs noHeap (.c (.imm (.sc v))) noHeap:=by
 obtain⟨us,hus,h⟩:=aw.1 h
 unfold isV at h
 split at h
 ·rename_i heq
  exact aoV hT (fun w0=>aXK P w0) aVQ hus heq fun p hp=>by
   rw[aEJ h p hp]
   exact TreeX.sc _
 ·cases h
end
end Go.RM
