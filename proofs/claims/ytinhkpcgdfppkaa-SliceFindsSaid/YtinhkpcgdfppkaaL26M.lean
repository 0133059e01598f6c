/- The law holds: plain mathematics on what the functions compute. -/
import Derived.Test.YtinhkpcgdfppkaaL26B
namespace Go.VM
theorem R5(s:dK):yX s=some (decide (0≤s.z8∧s.z8<s.j6∧s.j6≤1000000000000)):=by
 unfold yX
 by_cases h1:0≤s.z8<;>by_cases h2:s.z8<s.j6<;>by_cases h3:s.j6≤1000000000000<;>simp[h1,h2,h3]
def Up(l:List az)(n:Int):Prop:=∀(j:Nat) y,(j:Int)<n→l[j]? = some y→-1≤y.q8∧y.q8<(j:Int)
theorem agX{α:Type}[DecidableEq α]:∀(xs ys:List α),xs.Nodup→(∀x∈xs,x∈ys)→xs.length≤ys.length
 | [],_,_,_=>by simp
 | x::xs,ys,hn,hs=>by
  have hx:x∈ys:=hs x (by simp)
  have h1:=agX xs (ys.erase x) (List.nodup_cons.1 hn).2 (fun z hz=>by
   have hne:z≠x:=fun e=>(List.nodup_cons.1 hn).1 (e▸hz)
   exact(List.mem_erase_of_ne hne).2 (hs z (by simp[hz])))
  have h2:=List.length_erase_of_mem hx
  have h3:=List.length_pos_of_mem hx
  simp only[uw];omega
theorem awY(y:UInt8):tV (y.toNat:Int)=gY (y.toNat:Int):=by
 have h:(List.range 256).all (fun n=>decide (tV (n:Int)=gY (n:Int)))=true:=by kernel_rfl
 exact of_decide_eq_true (List.all_eq_true.1 h y.toNat (List.mem_range.2 (UInt8.toNat_lt y)))
theorem auW(s:ByteArray):s=⟨#[]⟩↔(s.size:Int)<1:=by
 constructor
 ·intro h;subst h;decide
 ·intro h
  cases s with
  | mk a =>
   have:a.size=0:=by
    have:(ByteArray.mk a).size=a.size:=rfl
    omega
   rw[Array.eq_empty_of_size_eq_zero this]
theorem aLK(s:ByteArray):vZ s=fJ s:=by
 unfold vZ fJ
 have h1:wq s=jj s:=by
  funext i
  simp only[wq,jj,awY]
 have h2:decide (s=⟨#[]⟩)=decide ((ByteArray.size s:Int)<1):=decide_eq_decide.2 (auW s)
 rw[h1,h2]<;>rfl
theorem aLJ(a b:Int):lV a b=some (if a<b then -1 else if b<a then 1 else 0):=by
 unfold lV uX
 by_cases h1:a<b<;>by_cases h2:b<a<;>simp[h1,h2]
def orI:List Int→Int
 | []=>0
 | x::r=>if x=0 then orI r else x
theorem YQ:∀(l:List Int) (i:Nat),(match(Mq (fun _ y => if y=0 then none else some (.inr y)) l i).getD (.inl ())with | (.inl _:Unit ⊕ Int) => 0 | .inr rv => rv)=orI l
 | [],_=>rfl
 | x::r,i=>by
  simp only[Mq,orI]
  by_cases h:x=0
  ·simp only[h,if_true];exact YQ r (i+1)
  ·simp[h]
theorem aGJ(l:List Int)(hl:l.length≤9223372036854775807):A7 l=some (orI l):=by
 unfold A7
 rw[anY l (fun _ y=>if y=0 then none else some (.inr y)) (.inl ()) (by simp[cV];omega) (fun i y hy=>?_) (by simp[x7])]
 ·rw[dk,←YQ l 0]
  generalize (Mq _ l 0).getD (Sum.inl ())=q
  cases q<;>rfl
 ·have hi:=oW hy
  have h1:(i:Int)<l.length:=by omega
  simp only[x7,h1,decide_true,cond_true,dW,hy,dk]
  by_cases h:y=0<;>simp[h,aKz (i:=i) (by omega)]
theorem apq(a b:az):∃c,tW a b=some c∧c4 b a=some (decide (0<c)):=by
 refine⟨orI [if a.z3.z8<b.z3.z8 then -1 else if b.z3.z8<a.z3.z8 then 1 else 0,if b.z3.j6<a.z3.j6 then -1 else if a.z3.j6<b.z3.j6 then 1 else 0,if a.q6<b.q6 then -1 else if b.q6<a.q6 then 1 else 0],?_,?_⟩
 ·unfold tW
  simp only[aLJ,dk]
  rw[aGJ _ (Nat.le_of_ble_eq_true rfl),dk]
 ·unfold c4
  simp only[orI]
  by_cases h1:a.z3.z8<b.z3.z8
  ·have h2 : ¬b.z3.z8=a.z3.z8:=by omega
   have h3 : ¬b.z3.z8<a.z3.z8:=by omega
   simp[h1,h2,h3]
  ·by_cases h2:b.z3.z8<a.z3.z8
   ·have h3 : ¬b.z3.z8=a.z3.z8:=by omega
    simp[h1,h2,h3]
   ·have h3:b.z3.z8=a.z3.z8:=by omega
    simp only[h1,h2,h3,decide_true,iw,cond_false,sk,if_true]
    by_cases h4:b.z3.j6<a.z3.j6
    ·have h5 : ¬b.z3.j6=a.z3.j6:=by omega
     have h6 : ¬a.z3.j6<b.z3.j6:=by omega
     simp[h4,h5,h6]
    ·by_cases h5:a.z3.j6<b.z3.j6
     ·have h6 : ¬b.z3.j6=a.z3.j6:=by omega
      simp[h4,h5,h6]
     ·have h6:b.z3.j6=a.z3.j6:=by omega
      by_cases h7:a.q6<b.q6
      ·have h8 : ¬b.q6<a.q6:=by omega
       simp[h6,h7,h8]
      ·by_cases h8:b.q6<a.q6<;>simp[h6,h7,h8]
inductive Desc(l:List az)(j:Int):Int→Prop
 | self:Desc l j j
 | up {a:Int} {y:az}:0≤a→l[a.toNat]? = some y→Desc l j y.q8→Desc l j a
theorem Desc.le{l:List az}(hu:Up l l.length){j a:Int}(h:Desc l j a):j≤a:=by
 induction h with
 | self=>omega
 | up h0 hy _ ih =>
  have:=hu _ _ (by have:=oW hy;omega) hy
  omega
theorem Desc.step{l:List az}{j a:Int}{y:az}(h0:0≤a)(hy:l[a.toNat]? = some y)(hne:j≠a):Desc l j a↔Desc l j y.q8:=by
 constructor
 ·intro h
  cases h with
  | self=>exact absurd rfl hne
  | up _ hy' h=>rw[hy]at hy';cases hy';exact h
 ·exact Desc.up h0 hy
theorem aGZ(l:List az)(h:l.length≤9223372036854775807)(hu:Up l l.length)(j i:Int)(hj:0≤j)(hi:i<l.length):Ok (yV l j i) (fun r=>r=true↔Desc l j i):=by
 unfold yV
 refine p6 (Q:=xK (fun _=>¬Desc l j i) (fun r=>r=true∧Desc l j i)) (nQ (fun s:Int=>s<l.length∧(Desc l j s↔Desc l j i)) (fun s:Int=>(s+1).toNat) (fun s hs=>?_) ⟨hi,Iff.rfl⟩ (by simp[cV];omega)) (fun _ hq=>aW ⟨fun e=>by simp at e,fun e=>absurd e hq⟩) (fun r hr=>aW ⟨fun _=>hr.2,fun _=>hr.1⟩)
 obtain⟨h1,h2⟩:=hs
 unfold B4
 refine b6 (fun h0=>?_) (fun h0=>f6 (fun e=>?_))
 ·refine b6 (fun e=>f6 ⟨rfl,h2.1 (e▸Desc.self)⟩) (fun hne=>?_)
  refine bz (zQ h0 h1) (fun y hy=>?_)
  have:=hu s.toNat y (by omega) hy
  exact iJ ⟨⟨by omega,(Desc.step h0 hy hne).symm.trans h2⟩,by omega⟩
 ·have:=(h2.2 e).le hu;omega
def E3(l:List az)(i s0:Int):Nat→Int
 | 0=>s0
 | n+1=>match l[n]? with
  | some z=>if z.q8=i then w64 (E3 l i s0 n-w64 (z.z3.j6-z.z3.z8))else E3 l i s0 n
  | none=>E3 l i s0 n
def Bad(l:List az)(j i:Int)(z y:az):Prop:=z.q6=y.q6∧y.z3.z8<z.z3.j6∧z.z3.z8<y.z3.j6∧¬Desc l j i
def Kj(l:List az):Prop:=∀(i:Nat) y,l[i]? = some y→y.z7=E3 l i (w64 (y.z3.j6-y.z3.z8)) l.length∧∀(j:Nat) z,j<i→l[j]? = some z→¬Bad l j i z y
theorem aoZ{l:List az}{i s0:Int}{n:Nat}{z:az}(hz:l[n]? = some z):Ok (bif decide (z.q8=i)then some (w64 (E3 l i s0 n-w64 (z.z3.j6-z.z3.z8)))else some (E3 l i s0 n)) (fun v=>v=E3 l i s0 (n+1)):=by
 refine b6 (fun e=>aW ?_) (fun e=>aW ?_)<;>simp[E3,hz,e]
theorem Dj{σ ρ:Type}{step:σ×Int→Option ((σ×Int) ⊕ ρ)}(n:Nat)(Inv:σ→Nat→Prop){Post:ρ→Prop}(hn:n≤9223372036854775807){s0:σ}(h0:Inv s0 0)
  (h:∀(s:σ) (i:Nat),Inv s i→i≤n→Ok (step (s,(i:Int))) (xK (fun a=>i<n∧a.2=((i+1:Nat):Int)∧Inv a.1 (i+1)) Post)):Ok (loop step (s0,0)) Post:=by
 refine aBZ n (fun s i=>Inv s i.toNat) hn h0 (fun s i hI h1 h2=>?_)
 obtain⟨k,rfl⟩:=Int.eq_ofNat_of_zero_le h1
 refine(h s k hI (by omega)).mono ?_
 rintro (⟨a,b⟩ | b) hr
 ·obtain⟨h3,h4,h5⟩ : k<n∧b=((k+1:Nat):Int)∧Inv a (k+1):=hr
  refine⟨by omega,by omega,?_⟩
  rw[show((k:Int)+1).toNat=k+1 by omega];exact h5
 ·exact hr
theorem Pj{ρ:Type}{step:Int→Option (Int ⊕ ρ)}(n:Nat)(Inv:Nat→Prop){Post:ρ→Prop}(hn:n≤9223372036854775807)(h0:Inv 0)
  (h:∀i:Nat,Inv i→i≤n→Ok (step (i:Int)) (xK (fun a=>i<n∧a=((i+1:Nat):Int)∧Inv (i+1)) Post)):Ok (loop step 0) Post:=by
 refine aRj n (fun i=>Inv i.toNat) hn h0 (fun i hI h1 h2=>?_)
 obtain⟨k,rfl⟩:=Int.eq_ofNat_of_zero_le h1
 refine(h k hI (by omega)).mono ?_
 rintro (b | b) hr
 ·obtain⟨h3,h4,h5⟩ : k<n∧b=((k+1:Nat):Int)∧Inv (k+1):=hr
  refine⟨by omega,by omega,?_⟩
  rw[show((k:Int)+1).toNat=k+1 by omega];exact h5
 ·exact hr
theorem H2{α:Type}{xs:List α}{i:Nat}(h:i<xs.length):Ok (idx xs (i:Int)) (fun y=>xs[i]? = some y):=by
 rw[dW];exact⟨xs[i],by simp[h],by simp[h]⟩
theorem C7{i n:Nat}(h:i<n)(hn:n≤9223372036854775807):w64 ((i:Int)+1)=((i+1:Nat):Int):=by rw[cj (by omega)];omega
theorem aBj(l:List az)(h:l.length≤9223372036854775807)(hu:Up l l.length):Ok (yK l) (fun b=>b=true↔Kj l):=by
 unfold yK
 let A:Nat→Prop:=fun n=>∀(i:Nat) y,i<n→l[i]? = some y→y.z7=E3 l i (w64 (y.z3.j6-y.z3.z8)) l.length∧∀(j:Nat) z,j<i→l[j]? = some z→¬Bad l j i z y
 refine p6 (Q:=xK (fun _=>Kj l) (fun b=>b=false∧¬Kj l)) (Pj l.length A h (by intro i y hi;omega) (fun i hI h2=>?_)) (fun _ hq=>aW ⟨fun _=>hq,fun _=>rfl⟩) (fun r hr=>aW ⟨fun e=>by rw[hr.1]at e;simp at e,fun e=>absurd e hr.2⟩)
 unfold Cq
 refine b6 (fun hi=>?_) (fun hi=>f6 (fun i' y hy=>hI i' y (by have:=oW hy;omega) hy))
 refine bz (H2 (by omega)) (fun y hy=>?_)
 refine p6 (Q:=xK (fun e=>e=E3 l i (w64 (y.z3.j6-y.z3.z8)) l.length∧∀(j:Nat) z,j<i→l[j]? = some z→¬Bad l j i z y) (xK (fun _=>False) (fun r=>r = .inr false∧¬Kj l))) (Dj l.length (fun a n=>a=E3 l i (w64 (y.z3.j6-y.z3.z8)) n∧∀(j:Nat) z,j<n→j<i→l[j]? = some z→¬Bad l j i z y) h ⟨rfl,by intro j z hj;omega⟩ (fun a j hJ h4=>?_)) (fun e he=>?_) (fun r hr=>?_)
 ·unfold B9
  dsimp only
  refine b6 (fun hj=>?_) (fun hj=>f6 ⟨?_,fun j' z hj' hz=>hJ.2 j' z (by have:=oW hz;omega) hj' hz⟩)
  ·refine bz (H2 (by omega)) (fun z hz=>?_)
   rw[hJ.1]
   refine bz (aoZ hz) (fun v hv=>?_)
   refine bz (Q:=fun b=>b=true↔(j<i∧Bad l j i z y)) ?_ (fun b hb=>?_)
   ·refine b6 (fun h5=>?_) (fun h5=>aW ⟨fun e=>by simp at e,fun e=>absurd e.1 (by omega)⟩)
    refine b6 (fun h6=>?_) (fun h6=>aW ⟨fun e=>by simp at e,fun e=>absurd e.2.1 h6⟩)
    refine b6 (fun h7=>?_) (fun h7=>aW ⟨fun e=>by simp at e,fun e=>absurd e.2.2.1 h7⟩)
    refine b6 (fun h8=>?_) (fun h8=>aW ⟨fun e=>by simp at e,fun e=>absurd e.2.2.2.1 h8⟩)
    refine bz (aGZ l h hu j i (by omega) (by omega)) (fun r hr=>aW ?_)
    constructor
    ·intro e
     refine⟨by omega,h6,h7,h8,fun hd=>?_⟩
     rw[hr.2 hd]at e;simp at e
    ·intro e
     cases r with
     | false=>rfl
     | true=>exact absurd (hr.1 rfl) e.2.2.2.2
   ·refine lz (fun e=>f6 ⟨rfl,fun hA=>?_⟩) (fun e=>?_)
    ·obtain⟨g1,g2⟩:=hb.1 e
     exact(hA i y hy).2 j z g1 hz g2
    ·rw[C7 (n:=l.length) (by omega) h]
     refine iJ ⟨by omega,rfl,hv,fun j' z' hj' hji hz' hbad=>?_⟩
     by_cases e2:j'=j
     ·subst e2;rw[hz]at hz';cases hz'
      rw[hb.2 ⟨hji,hbad⟩]at e;simp at e
     ·exact hJ.2 j' z' (by omega) hji hz' hbad
  ·rw[hJ.1,show j=l.length by omega]
 ·dsimp only
  refine lQ (fun hne=>f6 ⟨rfl,fun hA=>hne ((hA i y hy).1.trans he.1.symm)⟩) (fun heq=>?_)
  rw[C7 (n:=l.length) (by omega) h]
  refine iJ ⟨by omega,rfl,fun i' y' hi' hy'=>?_⟩
  by_cases e2:i'=i
  ·subst e2;rw[hy]at hy';cases hy'
   exact⟨heq.trans he.1,he.2⟩
  ·exact hI i' y' (by omega) hy'
 ·rcases r with r | r
  ·exact(hr:False).elim
  ·obtain⟨e1,e2⟩ : r = .inr false∧¬Kj l:=hr
   subst e1
   exact f6 ⟨rfl,e2⟩
def aSQ(l:List az)(i:Nat)(y:az):Prop :=
 (y.q8 = -1∧y.z4=0)∨∃p z,y.q8=((p:Nat):Int)∧p<i∧l[p]? = some z∧z.q6=y.q6∧z.z3.z8≤y.z3.z8∧y.z3.j6≤z.z3.j6∧y.z4=w64 (z.z4+1)
def Nest(l:List az):Prop:=∀(i:Nat) y,l[i]? = some y→aSQ l i y
theorem Nest.up{l:List az}(h:Nest l):Up l l.length:=by
 intro j y hj hy
 rcases h j y hy with⟨e,_⟩ | ⟨p,z,e,hp,_⟩<;>omega
end Go.VM
namespace Go.VM
inductive PD(pcs:List Pc)(j:Nat):Nat→Prop
 | self:PD pcs j j
 | up {i k:Nat} {p:Pc}:pcs[i]? = some p→p.ar=(k:Int)→PD pcs j k→PD pcs j i
theorem PD.mono{pcs pcs':List Pc}(h:∀(i:Nat) p,pcs[i]? = some p→∃p',pcs'[i]? = some p'∧p'.ar=p.ar){j i:Nat}(hd:PD pcs j i):PD pcs' j i:=by
 induction hd with
 | self=>exact .self
 | up hp har _ ih =>
  obtain⟨p',h1,h2⟩:=h _ _ hp
  exact .up h1 (h2.trans har) ih
structure InvL(pcs:List Pc)(tks:List (Int×Tk)):Prop where
 chn:∀th t,jx th tks=some t→∀j k,j∈t.opn→k∈t.opn→j<k→PD pcs j k
 lam:∀(i j:Nat) (p q:Pc),pcs[i]? = some p→pcs[j]? = some q→j<i→q.th=p.th→PD pcs j i∨((∀t,jx p.th tks=some t→j∉t.opn)∧q.to≤p.fr)
theorem aMq(pcs:List Pc)(l:List Nat)(a:Int):∀(i:Nat) p,pcs[i]? = some p→∃p',(sV pcs l a)[i]? = some p'∧p'.ar=p.ar:=fun i p hp=>by
 refine⟨_,by rw[tZ,hp];rfl,?_⟩
 split<;>rfl
theorem aNQ(pcs:List Pc)(j:Nat)(a:Int)(o:Bool):∀(i:Nat) p,pcs[i]? = some p→∃p',(D5 pcs j a o)[i]? = some p'∧p'.ar=p.ar:=fun i p hp=>by
 refine⟨_,by rw[I3,hp];rfl,?_⟩
 split<;>rfl
theorem InvL.close{o:List EvS}{tm:Int}{pcs:List Pc}{tks:List (Int×Tk)}(hB:InvB o tm pcs tks)(h:InvL pcs tks)(th e:Int){t:Tk}(ht:jx th tks=some t):InvL (sV pcs t.opn t.la) (iq th ⟨[],e,t.la⟩ tks):=by
 have mono:=aMq pcs t.opn t.la
 constructor
 ·intro th' t' ht' j k hj hk hlt
  rw[c8]at ht'
  split at ht'
  ·cases ht';simp at hj
  ·exact(h.chn th' t' ht' j k hj hk hlt).mono mono
 ·intro i j p q hp hq hlt hth
  rw[tZ]at hp hq
  obtain⟨p0,hp0,rfl⟩:=aw.1 hp
  obtain⟨q0,hq0,rfl⟩:=aw.1 hq
  have ep:∀(b:Prop) [Decidable b],(if b then {p0 with to:=t.la,op:=true} else p0).th=p0.th∧(if b then {p0 with to:=t.la,op:=true} else p0).fr=p0.fr:=fun b _=>by split<;>exact⟨rfl,rfl⟩
  have eq:∀(b:Prop) [Decidable b],(if b then {q0 with to:=t.la,op:=true} else q0).th=q0.th:=fun b _=>by split<;>rfl
  rw[(ep _).1,eq]at hth
  rcases h.lam i j p0 q0 hp0 hq0 hlt hth with h1 | ⟨h1,h2⟩
  ·exact .inl (h1.mono mono)
  ·have hj:j∉t.opn:=fun hm=>by
    obtain⟨q',hq',hth'⟩:=(hB.stk th t ht).1 j hm
    rw[hq0]at hq';cases hq'
    exact h1 t (by rw[←hth,hth'];exact ht) hm
   refine .inr ⟨fun t' ht'=>?_,?_⟩
   ·rw[(ep _).1,c8]at ht'
    split at ht'
    ·cases ht';simp
    ·exact h1 t' ht'
   ·rw[if_neg hj,(ep _).2];exact h2
theorem InvL.fresh{pcs:List Pc}{tks:List (Int×Tk)}(h:InvL pcs tks)(th:Int):jx th tks=none→InvL pcs (iq th tk0 tks):=fun _=>by
 constructor
 ·intro th' t' ht' j k hj
  rw[c8]at ht'
  split at ht'
  ·cases ht';simp[tk0]at hj
  ·exact h.chn th' t' ht' j k hj
 ·intro i j p q hp hq hlt hth
  rcases h.lam i j p q hp hq hlt hth with h1 | ⟨h1,h2⟩
  ·exact .inl h1
  ·refine .inr ⟨fun t' ht'=>?_,h2⟩
   rw[c8]at ht'
   split at ht'
   ·cases ht';simp[tk0]
   ·exact h1 t' ht'
theorem InvL.other{pcs:List Pc}{tks:List (Int×Tk)}(h:InvL pcs tks)(th e l:Int){t:Tk}(ht:jx th tks=some t):InvL pcs (iq th ⟨t.opn,e,l⟩ tks):=by
 constructor
 ·intro th' t' ht' j k hj hk
  rw[c8]at ht'
  split at ht'
  ·cases ht';exact h.chn th t ht j k hj hk
  ·exact h.chn th' t' ht' j k hj hk
 ·intro i j p q hp hq hlt hth
  rcases h.lam i j p q hp hq hlt hth with h1 | ⟨h1,h2⟩
  ·exact .inl h1
  ·refine .inr ⟨fun t' ht'=>?_,h2⟩
   rw[c8]at ht'
   split at ht'
   ·rename_i g
    cases ht';exact h1 t (by rw[←g];exact ht)
   ·exact h1 t' ht'
theorem InvL.pop{pcs:List Pc}{tks:List (Int×Tk)}(h:InvL pcs tks)(th e l a:Int){t:Tk}(ht:jx th tks=some t){j0:Nat}(hj0:t.opn.getLast? = some j0){o:List EvS}{tm:Int}(hB:InvB o tm pcs tks):InvL (D5 pcs j0 a false) (iq th ⟨t.opn.dropLast,e,l⟩ tks):=by
 have mono:=aNQ pcs j0 a false
 have hmem:∀i,i∈t.opn↔i∈t.opn.dropLast∨i=j0:=fun i=>i5 hj0
 constructor
 ·intro th' t' ht' j k hj hk hlt
  rw[c8]at ht'
  split at ht'
  ·cases ht';exact(h.chn th t ht j k ((hmem j).2 (.inl hj)) ((hmem k).2 (.inl hk)) hlt).mono mono
  ·exact(h.chn th' t' ht' j k hj hk hlt).mono mono
 ·intro i j p q hp hq hlt hth
  rw[I3]at hp hq
  obtain⟨p0,hp0,rfl⟩:=aw.1 hp
  obtain⟨q0,hq0,rfl⟩:=aw.1 hq
  have ep:∀(b:Prop) [Decidable b],(if b then {p0 with to:=a,op:=false} else p0).th=p0.th∧(if b then {p0 with to:=a,op:=false} else p0).fr=p0.fr:=fun b _=>by split<;>exact⟨rfl,rfl⟩
  have eq:∀(b:Prop) [Decidable b],(if b then {q0 with to:=a,op:=false} else q0).th=q0.th:=fun b _=>by split<;>rfl
  rw[(ep _).1,eq]at hth
  rcases h.lam i j p0 q0 hp0 hq0 hlt hth with h1 | ⟨h1,h2⟩
  ·exact .inl (h1.mono mono)
  ·have hj:j0≠j:=fun e=>by
    subst e
    obtain⟨q',hq',hth'⟩:=(hB.stk th t ht).1 j0 ((hmem j0).2 (.inr rfl))
    rw[hq0]at hq';cases hq'
    exact h1 t (by rw[←hth,hth'];exact ht) ((hmem j0).2 (.inr rfl))
   refine .inr ⟨fun t' ht'=>?_,?_⟩
   ·rw[(ep _).1,c8]at ht'
    split at ht'
    ·rename_i g
     cases ht'
     exact fun hm=>h1 t (by rw[←g];exact ht) ((hmem j).2 (.inl hm))
    ·exact h1 t' ht'
   ·rw[if_neg hj,(ep _).2];exact h2
theorem InvL.begin{o:List EvS}{tm:Int}{pcs:List Pc}{tks:List (Int×Tk)}(hB:InvB o tm pcs tks)(h:InvL pcs tks){x:EvS}(e:Int){t:Tk}(ht:jx x.th tks=some t)(hle:tm≤bZ x.lo) :
  InvL (pcs++[⟨x.th,x.nm,bZ x.lo,0,false,kY t.opn⟩]) (iq x.th ⟨t.opn++[pcs.length],e,bZ x.lo⟩ tks):=by
 obtain⟨s1,s2,s3⟩:=hB.stk x.th t ht
 have old:∀(i:Nat) p,pcs[i]? = some p→i<pcs.length:=fun i p hp=>(bw.1 hp).1
 have mono:∀(i:Nat) p,pcs[i]? = some p→∃p',(pcs++[(⟨x.th,x.nm,bZ x.lo,0,false,kY t.opn⟩ : Pc)])[i]? = some p'∧p'.ar=p.ar:=fun i p hp=>⟨p,by rw[lw (old i p hp)];exact hp,rfl⟩
 have get:∀(i:Nat) p,(pcs++[(⟨x.th,x.nm,bZ x.lo,0,false,kY t.opn⟩ : Pc)])[i]? = some p→(i<pcs.length∧pcs[i]? = some p)∨(i=pcs.length∧p=⟨x.th,x.nm,bZ x.lo,0,false,kY t.opn⟩):=by
  intro i p hp
  rcases Nat.lt_or_ge i pcs.length with g | g
  ·rw[lw g]at hp;exact .inl ⟨g,hp⟩
  ·rw[List.getElem?_append_right g]at hp
   have:i-pcs.length=0:=by
    rcases Nat.eq_zero_or_pos (i-pcs.length)with z | z
    ·exact z
    ·rw[vw (by simp only[List.length_singleton];omega)]at hp;cases hp
   rw[this]at hp
   cases hp
   exact .inr ⟨by omega,rfl⟩
 have inb:∀i∈t.opn,i<pcs.length:=fun i hi=>by
  obtain⟨p,hp,_⟩:=s1 i hi
  exact old i p hp
 have around:∀j∈t.opn,PD (pcs++[(⟨x.th,x.nm,bZ x.lo,0,false,kY t.opn⟩ : Pc)]) j pcs.length:=fun j hj=>by
  cases hl:t.opn.getLast? with
  | none=>rw[List.getLast?_eq_none_iff.1 hl]at hj;simp at hj
  | some k =>
   have hk:k∈t.opn:=List.mem_of_getLast? hl
   have hlk:kY t.opn=(k:Int):=by unfold kY;rw[hl]
   refine .up List.getElem?_concat_length hlk ?_
   rcases(i5 hl (i := j)).1 hj with h1 | rfl
   ·exact(h.chn x.th t ht j k hj hk ((IK s2 hl).1 j h1)).mono mono
   ·exact .self
 constructor
 ·intro th' t' ht' j k hj hk hlt
  rw[c8]at ht'
  split at ht'
  ·cases ht'
   have hj:j∈t.opn++[pcs.length]:=hj
   have hk:k∈t.opn++[pcs.length]:=hk
   rcases ow.1 hj with hj | hj<;>rcases ow.1 hk with hk | hk
   ·exact(h.chn x.th t ht j k hj hk hlt).mono mono
   ·rw[fw.1 hk];exact around j hj
   ·have:=inb k hk;rw[fw.1 hj]at hlt;omega
   ·rw[fw.1 hj,fw.1 hk]at hlt;omega
  ·exact(h.chn th' t' ht' j k hj hk hlt).mono mono
 ·intro i j p q hp hq hlt hth
  rcases get j q hq with⟨g2,hq⟩ | ⟨g2,_⟩
  ·rcases get i p hp with⟨g1,hp⟩ | ⟨g1,rfl⟩
   ·rcases h.lam i j p q hp hq hlt hth with h1 | ⟨h1,h2⟩
    ·exact .inl (h1.mono mono)
    ·refine .inr ⟨fun t' ht'=>?_,h2⟩
     rw[c8]at ht'
     split at ht'
     ·rename_i g
      cases ht'
      intro hm
      have hm:j∈t.opn++[pcs.length]:=hm
      rcases ow.1 hm with hm | hm
      ·exact h1 t (by rw[←g];exact ht) hm
      ·rw[fw.1 hm]at g2;omega
     ·exact h1 t' ht'
   ·have hth:q.th=x.th:=hth
    by_cases hj:j∈t.opn
    ·rw[g1];exact .inl (around j hj)
    ·refine .inr ⟨fun t' ht'=>?_,?_⟩
     ·have ht':jx x.th _=some t':=ht'
      rw[c8,if_pos rfl]at ht'
      cases ht'
      intro hm
      have hm:j∈t.opn++[pcs.length]:=hm
      rcases ow.1 hm with hm | hm
      ·exact hj hm
      ·rw[fw.1 hm]at g2;omega
     ·obtain⟨t',k1,k2,k3⟩:=hB.has j q hq
      rw[hth,ht]at k1
      cases k1
      have:=(k3 hj).2.2
      show q.to≤bZ x.lo
      omega
  ·rcases get i p hp with⟨g1,_⟩ | ⟨g1,_⟩<;>omega
theorem InvL.event{o:List EvS}{tm:Int}{b:Bd}(hB:InvB o tm b.pcs b.tks)(h:InvL b.pcs b.tks)(htm:0≤tm)(x:EvS)(hle:tm≤bZ x.lo):InvL (gW b x).pcs (gW b x).tks:=by
 obtain⟨t,ht,tk1,hB1,h1,hat,hput⟩ : ∃t,(jx x.th b.tks).getD tk0=t∧∃tk1,InvB o tm b.pcs tk1∧InvL b.pcs tk1∧jx x.th tk1=some t∧∀t',iq x.th t' tk1=iq x.th t' b.tks:=by
  cases e:jx x.th b.tks with
  | none=>exact⟨tk0,rfl,_,hB.fresh htm x.th e,h.fresh x.th e,by rw[c8,if_pos rfl],fun t'=>EK ..⟩
  | some t=>exact⟨t,rfl,b.tks,hB,h,e,fun _=>rfl⟩
 obtain⟨tk2,hB2,h2,hat2,hput2⟩ : ∃tk2,InvB o tm (qW b.pcs t x.ser).1 tk2∧InvL (qW b.pcs t x.ser).1 tk2∧jx x.th tk2=some ⟨(qW b.pcs t x.ser).2,t.ex,t.la⟩∧∀t',iq x.th t' tk2=iq x.th t' b.tks:=by
  unfold qW
  by_cases e:x.ser=t.ex
  ·rw[if_pos e];exact⟨tk1,hB1,h1,hat,hput⟩
  ·rw[if_neg e]
   exact⟨_,hB1.close x.th t.ex hat,InvL.close hB1 h1 x.th t.ex hat,by rw[c8,if_pos rfl],fun t'=>by rw[EK,hput]⟩
 unfold gW
 simp only[ht]
 generalize qW b.pcs t x.ser=q at hB2 h2 hat2
 rw[←hput2]
 unfold qK
 by_cases e1:x.kd=1
 ·rw[if_pos e1]
  exact InvL.begin hB2 h2 _ hat2 hle
 ·rw[if_neg e1]
  by_cases e2:x.kd=2
  ·rw[if_pos e2]
   cases hl:q.2.getLast? with
   | none=>exact h2.other x.th _ _ hat2
   | some i=>exact h2.pop x.th _ _ _ hat2 hl hB2
  ·rw[if_neg e2]
   exact h2.other x.th _ _ hat2
end Go.VM
namespace Go.VM
theorem YY:∀(o2:List EvS) (o1:List EvS) (tm:Int) (b:Bd),InvB o1 tm b.pcs b.tks→InvL b.pcs b.tks→0≤tm→(∀x∈o2,tm≤bZ x.lo)→o2.Pairwise (fun x y=>bZ x.lo≤bZ y.lo) →
  ∃tm',InvB (o1++o2) tm' (o2.foldl gW b).pcs (o2.foldl gW b).tks∧InvL (o2.foldl gW b).pcs (o2.foldl gW b).tks
 | [],o1,tm,b,h,hL,h0,_,_=>⟨tm,by rw[vk];exact h,hL⟩
 | x::o2,o1,tm,b,h,hL,h0,h1,h2=>by
  obtain⟨g1,g2⟩:=List.pairwise_cons.1 h2
  obtain⟨tm',k1,k2⟩:=YY o2 (o1++[x]) (bZ x.lo) (gW b x) (h.event h0 x (h1 x zk)) (InvL.event h hL h0 x (h1 x zk)) (wx _).1 g1 g2
  exact⟨tm',by rw[uk]at k1;exact k1,k2⟩
def Lam(pcs:List Pc):Prop:=∀(i j:Nat) (p q:Pc),pcs[i]? = some p→pcs[j]? = some q→j<i→q.th=p.th→PD pcs j i∨q.to≤p.fr
theorem aQq(o:List EvS)(e:Int)(hp:o.Pairwise (fun x y=>bZ x.lo≤bZ y.lo)):Lam (lZ (o.foldl gW ⟨[],[]⟩) e):=by
 have h0:InvB [] 0 [] []:=⟨fun i p h=>by simp at h,rfl,fun th t h=>by simp[jx]at h,fun i p h=>by simp at h,fun i p h=>by simp at h⟩
 have hL0:InvL [] []:=⟨fun th t h=>by simp[jx]at h,fun i j p q h=>by simp at h⟩
 obtain⟨tm,hB,hL⟩:=YY o [] 0 ⟨[],[]⟩ h0 hL0 (Int.le_refl _) (fun x _=>(wx _).1) hp
 have hk:=JW o ⟨[],[]⟩ (by simp[KeysN])
 generalize o.foldl gW ⟨[],[]⟩=b at hB hL hk
 have mono:∀(i:Nat) p,b.pcs[i]? = some p→∃p',(lZ b e)[i]? = some p'∧p'.ar=p.ar:=fun i p hp=>by
  unfold lZ
  refine⟨_,by rw[xQ,hp];rfl,?_⟩
  split<;>rfl
 intro i j p q hp hq hlt hth
 unfold lZ at hp hq
 rw[xQ]at hp hq
 obtain⟨p0,hp0,rfl⟩:=aw.1 hp
 obtain⟨q0,hq0,rfl⟩:=aw.1 hq
 have ep:∀(c:Prop) [Decidable c],(if c then {p0 with to:=e,op:=true} else p0).th=p0.th∧(if c then {p0 with to:=e,op:=true} else p0).fr=p0.fr:=fun c _=>by split<;>exact⟨rfl,rfl⟩
 have eq:∀(c:Prop) [Decidable c],(if c then {q0 with to:=e,op:=true} else q0).th=q0.th:=fun c _=>by split<;>rfl
 rw[(ep _).1,eq]at hth
 rcases hL.lam i j p0 q0 hp0 hq0 hlt hth with h1 | ⟨h1,h2⟩
 ·exact .inl (h1.mono mono)
 ·refine .inr ?_
  rw[(ep _).2,if_neg]
  ·exact h2
  ·rintro⟨t,g1,g2⟩
   have g3:=hk.at g1
   obtain⟨q',hq',hth'⟩:=(hB.stk t.1 t.2 g3).1 j g2
   rw[hq0]at hq';cases hq'
   exact h1 t.2 (by rw[←hth,hth'];exact g3) g2
def BW(l:List Sl8)(i:Nat)(s0:Int):Nat→Int
 | 0=>s0
 | n+1=>match l[n]? with
  | some z=>if z.par=(i:Int)then w64 (BW l i s0 n-w64 (z.to-z.fr))else BW l i s0 n
  | none=>BW l i s0 n
theorem VJ{l l':List Sl8}(i:Nat)(s0:Int):∀n:Nat,(∀m,m<n→(l[m]?).map (fun x:Sl8=>(x.par,x.fr,x.to))=(l'[m]?).map (fun x:Sl8=>(x.par,x.fr,x.to)))→BW l i s0 n=BW l' i s0 n
 | 0,_=>rfl
 | n+1,h=>by
  have ih:=VJ (l:=l) (l':=l') i s0 n fun m hm=>h m (by omega)
  have hn:=h n (by omega)
  simp only[BW]
  cases h1:l[n]? with
  | none =>
   rw[h1]at hn
   cases h2:l'[n]? with
   | none=>exact ih
   | some y=>rw[h2]at hn;cases hn
  | some x =>
   rw[h1]at hn
   cases h2:l'[n]? with
   | none=>rw[h2]at hn;cases hn
   | some y =>
    rw[h2]at hn
    simp only[qw,ek,Prod.mk.injEq]at hn
    obtain⟨e1,e2,e3⟩:=hn
    simp only[e1,e2,e3,ih]
structure OutJ(pcs:List Pc)(K1:List Nat)(out:List Sl8):Prop where
 par:∀(m k:Nat) x p,K1[m]? = some k→out[m]? = some x→pcs[k]? = some p→∃n,nV pcs (pcs.length+1) p.ar=some n∧((n = -1∧x.par = -1∧x.dep=0)∨∃(m' k':Nat) (y:Sl8),m'<m∧n=(k':Int)∧K1[m']? = some k'∧out[m']? = some y∧x.par=(m':Int)∧x.dep=w64 (y.dep+1))
 self:∀(m:Nat) x,out[m]? = some x→x.self=BW out m (w64 (x.to-x.fr)) out.length
theorem PJ{l:List Sl8}{i:Nat}{s0:Int}:∀n:Nat,(∀(c:Nat) x,c<n→l[c]? = some x→x.par≠(i:Int))→BW l i s0 n=s0
 | 0,_=>rfl
 | n+1,h=>by
  simp only[BW]
  have ih:=PJ (s0:=s0) n fun c x hc hx=>h c x (by omega) hx
  cases hx:l[n]? with
  | none=>exact ih
  | some x=>simp only[if_neg (h n x (by omega) hx)];exact ih
theorem E9{α:Type}{l:List α}{x y:α}{i:Nat}(h:(l++[x])[i]? = some y):(i<l.length∧l[i]? = some y)∨(i=l.length∧y=x):=by
 rcases Nat.lt_or_ge i l.length with g | g
 ·rw[lw g]at h;exact .inl ⟨g,h⟩
 ·rw[List.getElem?_append_right g]at h
  have:i-l.length=0:=by
   rcases Nat.eq_zero_or_pos (i-l.length)with z | z
   ·exact z
   ·rw[vw (by simp only[List.length_singleton];omega)]at h;cases h
  rw[this]at h
  exact .inr ⟨by omega,(Option.some.inj h).symm⟩
theorem aLZ{o:List EvS}{pcs:List Pc}(h:Dn o pcs){K1 K2:List Nat}{k:Nat}(hperm:(K1++k::K2).Perm (n4 pcs))(hord:(K1++k::K2).Pairwise (Ord pcs)){pl:List (Int×Int)}{out:List Sl8}(hI:OutI pcs K1 (pl,out)){p:Pc}(hp:pcs[k]? = some p){n:Int}(hn:nV pcs (pcs.length+1) p.ar=some n) :
  (n = -1∧E7 n (BX k out.length pl) = -1)∨∃(j m:Nat),n=(j:Int)∧K1[m]? = some j∧E7 n (BX k out.length pl)=(m:Int)∧m<out.length:=by
 obtain⟨p',hp',hlt⟩:=aVj.1 (hperm.mem_iff.1 (List.mem_append_right K1 zk))
 rw[hp]at hp';cases hp'
 obtain⟨n',hn',hn2⟩:=Jz h (pcs.length+1) k p hp (by have:=(bw.1 hp).1;omega)
 rw[hn]at hn';cases hn'
 have hl:=hI.len
 simp only at hl
 rcases hn2 with rfl | ⟨j,q,rfl,h1,h2,h3,h4,h5,h6⟩
 ·exact .inl ⟨rfl,by rw[B3,if_neg (by omega)];exact hI.at1⟩
 ·have hjK:j∈K1:=by
   have hj:j∈K1++k::K2:=hperm.mem_iff.2 (aVj.2 ⟨q,h2,h6⟩)
   rcases ow.1 hj with hj | hj
   ·exact hj
   ·rcases List.mem_cons.1 hj with rfl | hj
    ·omega
    ·have:=(List.pairwise_append.1 hord).2.1
     have:=(List.pairwise_cons.1 this).1 j hj
     unfold Ord at this
     rw[uY hp,uY h2]at this
     unfold HQ at this
     omega
  obtain⟨m,hm⟩:=List.getElem?_of_mem hjK
  have hmlt:=(bw.1 hm).1
  exact .inr ⟨j,m,rfl,hm,by rw[B3,if_neg (by omega)];exact hI.at2 m j hm,by omega⟩
theorem OutJ.up{pcs:List Pc}{K1:List Nat}{out:List Sl8}(hJ:OutJ pcs K1 out)(hK:∀k∈K1,∃p,pcs[k]? = some p)(hl:out.length=K1.length){c:Nat}{x:Sl8}(hx:out[c]? = some x):x.par<c:=by
 have hc:=(bw.1 hx).1
 obtain⟨k,hk⟩ : ∃k,K1[c]? = some k:=⟨_,cw (by omega)⟩
 obtain⟨p,hp⟩:=hK k (nw hk)
 obtain⟨n,_,h | ⟨m',k',y,h1,_,_,_,h2,_⟩⟩:=hJ.par c k x p hk hx hp
 ·omega
 ·omega
theorem aAj{o:List EvS}{pcs:List Pc}(h:Dn o pcs){K1 K2:List Nat}{k:Nat}(hperm:(K1++k::K2).Perm (n4 pcs))(hord:(K1++k::K2).Pairwise (Ord pcs)){s s':List (Int×Int)×List Sl8}(hI:OutI pcs K1 s)(hJ:OutJ pcs K1 s.2)(hst:aaZ pcs s k=some s'):OutJ pcs (K1++[k]) s'.2:=by
 obtain⟨pl,out⟩:=s
 obtain⟨p,hp,hlt⟩:=aVj.1 (hperm.mem_iff.1 (List.mem_append_right K1 zk))
 have hl:=hI.len
 simp only at hl hJ
 have hK:∀k∈K1,∃p,pcs[k]? = some p:=fun k hk=>by
  obtain⟨p,hp,_⟩:=aVj.1 (hperm.mem_iff.1 (List.mem_append_left _ hk))
  exact⟨p,hp⟩
 unfold aaZ at hst
 rw[hp,dk]at hst
 simp only at hst
 obtain⟨n,hn,hst⟩:=ak.1 hst
 have key:∀(out':List Sl8) (x:Sl8),out'.length=out.length→(∀m:Nat,(out'[m]?).map (fun x:Sl8=>(x.par,x.fr,x.to))=(out[m]?).map (fun x:Sl8=>(x.par,x.fr,x.to)))→(∀m:Nat,(out'[m]?).map (fun x:Sl8=>x.dep)=(out[m]?).map (fun x:Sl8=>x.dep)) →
   (∀(m:Nat) y,out'[m]? = some y→y.self=if x.par=(m:Int)then w64 (BW out m (w64 (y.to-y.fr)) out.length-w64 (x.to-x.fr))else BW out m (w64 (y.to-y.fr)) out.length)→x.self=w64 (x.to-x.fr)→x.par<out.length →
   ((n = -1∧x.par = -1∧x.dep=0)∨∃(m' k':Nat) (y:Sl8),n=(k':Int)∧K1[m']? = some k'∧out[m']? = some y∧x.par=(m':Int)∧x.dep=w64 (y.dep+1))→OutJ pcs (K1++[k]) (out'++[x]):=by
  intro out' x hlen hsame hdep hself hxs hxp hpar
  have old:∀(m:Nat) y,out'[m]? = some y→∃z,out[m]? = some z∧y.par=z.par∧y.fr=z.fr∧y.to=z.to∧y.dep=z.dep:=fun m y hy=>by
   have h1:=hsame m
   have h2:=hdep m
   rw[hy]at h1 h2
   cases hz:out[m]? with
   | none=>rw[hz]at h1;cases h1
   | some z =>
    rw[hz]at h1 h2
    simp only[qw,ek,Prod.mk.injEq]at h1 h2
    exact⟨z,rfl,h1.1,h1.2.1,h1.2.2,h2⟩
  have new:∀(m:Nat) z,out[m]? = some z→∃y,out'[m]? = some y∧y.dep=z.dep:=fun m z hz=>by
   have h2:=hdep m
   rw[hz]at h2
   cases hy:out'[m]? with
   | none=>rw[hy]at h2;cases h2
   | some y =>
    rw[hy]at h2
    simp only[qw,ek]at h2
    exact⟨y,rfl,h2⟩
  have ayq:∀(m:Nat) y,out'[m]? = some y→(out'++[x])[m]? = some y:=fun m y hy=>by
   rw[lw (bw.1 hy).1];exact hy
  have liftK:∀(m:Nat) y,K1[m]? = some y→(K1++[k])[m]? = some y:=fun m y hy=>by
   rw[lw (bw.1 hy).1];exact hy
  constructor
  ·intro m k' y p' hk' hy hp'
   rcases E9 hy with⟨g1,hy⟩ | ⟨g1,rfl⟩
   ·rcases E9 hk' with⟨g2,hk'⟩ | ⟨g2,_⟩
    ·obtain⟨z,hz,e1,e2,e3,e4⟩:=old m y hy
     obtain⟨n',hn',hd⟩:=hJ.par m k' z p' hk' hz hp'
     refine⟨n',hn',?_⟩
     rcases hd with⟨a1,a2,a3⟩ | ⟨m',k2,w,a1,a2,a3,a4,a5,a6⟩
     ·exact .inl ⟨a1,e1.trans a2,e4.trans a3⟩
     ·obtain⟨w',hw',e5⟩:=new m' w a4
      exact .inr ⟨m',k2,w',a1,a2,liftK _ _ a3,ayq _ _ hw',e1.trans a5,by rw[e4,a6,e5]⟩
    ·omega
   ·rcases E9 hk' with⟨g2,_⟩ | ⟨g2,rfl⟩
    ·omega
    ·rw[hp]at hp';cases hp'
     refine⟨n,hn,?_⟩
     rcases hpar with⟨a1,a2,a3⟩ | ⟨m',k2,w,a2,a3,a4,a5,a6⟩
     ·exact .inl ⟨a1,a2,a3⟩
     ·obtain⟨w',hw',e5⟩:=new m' w a4
      exact .inr ⟨m',k2,w',by have:=(bw.1 a4).1;omega,a2,liftK _ _ a3,ayq _ _ hw',a5,by rw[a6,e5]⟩
  ·intro m y hy
   have hsum:∀(i:Nat) (s0:Int),BW (out'++[x]) i s0 out.length=BW out i s0 out.length:=fun i s0=>by
    refine VJ i s0 _ fun c hc=>?_
    rw[lw (by omega)]
    exact hsame c
   rw[dw,List.length_singleton,hlen]
   simp only[BW]
   rw[←hlen,List.getElem?_concat_length,hlen]
   simp only[hsum]
   rcases E9 hy with⟨g1,hy⟩ | ⟨g1,rfl⟩
   ·exact hself m y hy
   ·rw[if_neg (by omega),hxs,PJ]
    intro c z hc hz
    have:=hJ.up hK hl hz
    omega
 rcases aLZ h hperm hord hI hp hn with⟨rfl,hpl⟩ | ⟨j,m,rfl,hm,hpl,hml⟩
 ·rw[hpl,if_neg (by omega)]at hst
  cases hst
  refine key out ⟨p.th,-1,0,p.nm,p.fr,p.to,w64 (p.to-p.fr),p.op⟩ rfl (fun _=>rfl) (fun _=>rfl) (fun c y hy=>?_) rfl (by show(-1:Int)<_;omega) (.inl ⟨rfl,rfl,rfl⟩)
  rw[if_neg (by show ¬((-1:Int)=(c:Int));omega)]
  exact hJ.self c y hy
 ·rw[hpl,if_pos (by omega),dW]at hst
  obtain⟨q,hq,hst⟩:=ak.1 hst
  rw[Int.toNat_natCast]at hst
  cases hst
  have Hx:∀c:Nat,(out.set m {q with self:=w64 (q.self-w64 (p.to-p.fr))})[c]? = if m=c then some {q with self:=w64 (q.self-w64 (p.to-p.fr))} else out[c]?:=fun c=>by
   rw[kw]
   by_cases e:m=c
   ·rw[if_pos e,if_pos e,if_pos hml]
   ·rw[if_neg e,if_neg e]
  refine key (out.set m {q with self:=w64 (q.self-w64 (p.to-p.fr))}) ⟨p.th,(m:Int),w64 (q.dep+1),p.nm,p.fr,p.to,w64 (p.to-p.fr),p.op⟩ (List.length_set ..) (fun c=>?_) (fun c=>?_) (fun c y hy=>?_) rfl (by show(m:Int)<_;omega) (.inr ⟨m,j,q,rfl,hm,hq,rfl,rfl⟩)
  ·rw[Hx]
   by_cases e:m=c
   ·subst e;rw[if_pos rfl,hq];rfl
   ·rw[if_neg e]
  ·rw[Hx]
   by_cases e:m=c
   ·subst e;rw[if_pos rfl,hq];rfl
   ·rw[if_neg e]
  ·rw[Hx]at hy
   by_cases e:m=c
   ·subst e
    rw[if_pos rfl]at hy
    cases hy
    rw[if_pos rfl]
    show w64 (q.self-w64 (p.to-p.fr))=w64 (BW out m (w64 (q.to-q.fr)) out.length-w64 (p.to-p.fr))
    rw[hJ.self m q hq]
   ·rw[if_neg e]at hy
    rw[if_neg (by show ¬((m:Int)=(c:Int));omega)]
    exact hJ.self c y hy
theorem YW{o:List EvS}{pcs:List Pc}(h:Dn o pcs):∀(K2 K1:List Nat) (s s':List (Int×Int)×List Sl8),(K1++K2).Perm (n4 pcs)→(K1++K2).Pairwise (Ord pcs)→OutI pcs K1 s→OutJ pcs K1 s.2→K2.foldlM (aaZ pcs) s=some s'→OutJ pcs (K1++K2) s'.2
 | [],K1,s,s',_,_,_,hJ,hf=>by
  simp only[List.foldlM_nil,Option.pure_def,ek]at hf
  subst hf
  rw[vk];exact hJ
 | k::K2,K1,s,s',hp,ho,hI,hJ,hf=>by
  rw[List.foldlM_cons]at hf
  obtain⟨s1,h1,hf⟩:=ak.1 hf
  obtain⟨s1',h1',h2⟩:=ajz h hp ho hI
  rw[h1]at h1';cases h1'
  have:=YW h K2 (K1++[k]) s1 s' (by rw[uk];exact hp) (by rw[uk];exact ho) h2 (aAj h hp ho hI hJ h1) hf
  rw[uk]at this
  exact this
end Go.VM
namespace Go.VM
inductive YZ(l:List Sl8)(a:Nat):Nat→Prop
 | self:YZ l a a
 | up {b c:Nat} {x:Sl8}:l[b]? = some x→x.par=(c:Int)→YZ l a c→YZ l a b
theorem ZJ{o:List EvS}{pcs:List Pc}(h:Dn o pcs){ka:Nat}{pa:Pc}(ha:pcs[ka]? = some pa)(hne:pa.fr<pa.to):∀(f kb:Nat) (p:Pc) (n:Int),pcs[kb]? = some p→PD pcs ka kb→ka≠kb→nV pcs f p.ar=some n→∃j:Nat,n=(j:Int)∧PD pcs ka j
 | 0,kb,p,n,_,_,_,hf=>by simp[nV]at hf
 | f+1,kb,p,n,hp,hd,hk,hf=>by
  cases hd with
  | self=>exact absurd rfl hk
  | @up _ k p' hp' har hd =>
   rw[hp]at hp';cases hp'
   rcases h.up kb p hp with e | ⟨j,q,e,h1,h2,_⟩
   ·omega
   ·have:j=k:=by omega
    subst this
    unfold nV at hf
    rw[har,if_pos (by omega),dW,h2,dk]at hf
    by_cases g:q.fr=q.to
    ·rw[if_pos g]at hf
     refine ZJ h ha hne f j q n h2 hd (fun e=>?_) hf
     subst e
     rw[ha]at h2;cases h2
     omega
    ·rw[if_neg g]at hf
     cases hf
     exact⟨j,rfl,hd⟩
structure OutF(o:List EvS)(pcs:List Pc)(K:List Nat)(out:List Sl8):Prop where
 dn:Dn o pcs
 lam:Lam pcs
 sml:Sml pcs
 perm:K.Perm (n4 pcs)
 ord:K.Pairwise (Ord pcs)
 len:out.length=K.length
 ofp:∀(m k:Nat) x,K[m]? = some k→out[m]? = some x→Ofp pcs k x
 j:OutJ pcs K out
theorem OutF.at{o:List EvS}{pcs:List Pc}{K:List Nat}{out:List Sl8}(h:OutF o pcs K out){m:Nat}{x:Sl8}(hx:out[m]? = some x):∃k p,K[m]? = some k∧pcs[k]? = some p∧p.fr<p.to∧x.th=p.th∧x.nm=p.nm∧x.fr=p.fr∧x.to=p.to∧x.op=p.op:=by
 have hm:=(bw.1 hx).1
 obtain⟨k,hk⟩ : ∃k,K[m]? = some k:=⟨_,cw (by rw[←h.len];exact hm)⟩
 obtain⟨p,hp,e⟩:=h.ofp m k x hk hx
 obtain⟨p',hp',hlt⟩:=aVj.1 (h.perm.mem_iff.1 (nw hk))
 rw[hp]at hp';cases hp'
 exact⟨k,p,hk,hp,hlt,e⟩
theorem OutF.nodup{o:List EvS}{pcs:List Pc}{K:List Nat}{out:List Sl8}(h:OutF o pcs K out){a b k:Nat}(ha:K[a]? = some k)(hb:K[b]? = some k):a=b:=by
 have hnd:K.Nodup:=h.perm.nodup_iff.2 ((acY pcs).imp (fun h e=>by omega))
 have h1:=(bw.1 ha).1
 exact(List.getElem?_inj h1 hnd).1 (ha.trans hb.symm)
theorem OutF.desc{o:List EvS}{pcs:List Pc}{K:List Nat}{out:List Sl8}(h:OutF o pcs K out){a ka:Nat}(ha:K[a]? = some ka):∀(b kb:Nat),K[b]? = some kb→PD pcs ka kb→YZ out a b:=by
 intro b
 induction b using Nat.strongRecOn with
 | _ b ih =>
  intro kb hb hd
  by_cases e:ka=kb
  ·subst e
   rw[h.nodup ha hb]
   exact .self
  ·obtain⟨pa,hpa,hlta⟩:=aVj.1 (h.perm.mem_iff.1 (nw ha))
   obtain⟨x,hx⟩ : ∃x,out[b]? = some x:=⟨_,cw (by rw[h.len];exact(bw.1 hb).1)⟩
   obtain⟨p,hp,_⟩:=h.ofp b kb x hb hx
   obtain⟨n,hn,hpar⟩:=h.j.par b kb x p hb hx hp
   obtain⟨j,hj,hd2⟩:=ZJ h.dn hpa hlta _ kb p n hp hd e hn
   rcases hpar with⟨e1,_⟩ | ⟨m',k',y,h1,h2,h3,h4,h5,_⟩
   ·omega
   ·have:j=k':=by omega
    subst this
    exact .up hx h5 (ih m' h1 j h3 hd2)
theorem OutF.nest{o:List EvS}{pcs:List Pc}{K:List Nat}{out:List Sl8}(h:OutF o pcs K out){m:Nat}{x:Sl8}(hx:out[m]? = some x):(x.par = -1∧x.dep=0)∨∃(m':Nat) (y:Sl8),m'<m∧x.par=(m':Int)∧out[m']? = some y∧y.th=x.th∧y.fr≤x.fr∧x.to≤y.to∧x.dep=w64 (y.dep+1):=by
 obtain⟨k,p,hk,hp,hlt,e1,e2,e3,e4,e5⟩:=h.at hx
 obtain⟨n,hn,hpar⟩:=h.j.par m k x p hk hx hp
 obtain⟨n',hn',hd⟩:=Jz h.dn (pcs.length+1) k p hp (by have:=(bw.1 hp).1;omega)
 rw[hn]at hn';cases hn'
 rcases hpar with⟨_,a2,a3⟩ | ⟨m',k',y,h1,h2,h3,h4,h5,h6⟩
 ·exact .inl ⟨a2,a3⟩
 ·rcases hd with hd | ⟨j,q,d1,d2,d3,d4,d5,d6,d7⟩
  ·omega
  ·have:j=k':=by omega
   subst this
   obtain⟨k2,p2,g1,g2,_,g4,g5,g6,g7,g8⟩:=h.at h4
   rw[h3]at g1;cases g1
   rw[d3]at g2;cases g2
   exact .inr ⟨m',y,h1,h5,h4,by rw[g4,d4,e1],by rw[g6,e3];exact d5,by rw[g7,e4];exact d6,h6⟩
theorem OutF.meet{o:List EvS}{pcs:List Pc}{K:List Nat}{out:List Sl8}(h:OutF o pcs K out){a b:Nat}{x y:Sl8}(hab:a<b)(hx:out[a]? = some x)(hy:out[b]? = some y)(hth:x.th=y.th)(h1:y.fr<x.to)(h2:x.fr<y.to):YZ out a b:=by
 obtain⟨ka,p,hka,hp,hlt,e1,_,e3,e4,_⟩:=h.at hx
 obtain⟨kb,q,hkb,hq,hlt2,f1,_,f3,f4,_⟩:=h.at hy
 have ho:Ord pcs ka kb:=by
  have l1:=(bw.1 hka)
  have l2:=(bw.1 hkb)
  have:=List.pairwise_iff_getElem.1 h.ord a b l1.1 l2.1 hab
  rw[l1.2,l2.2]at this
  exact this
 unfold Ord at ho
 rw[uY hp,uY hq]at ho
 have hne:ka≠kb:=fun e=>by subst e;have:=h.nodup hka hkb;omega
 rcases Nat.lt_or_ge ka kb with g | g
 ·rcases h.lam kb ka q p hq hp g (by rw[←e1,←f1];exact hth)with hd | hd
  ·exact h.desc hka b kb hkb hd
  ·omega
 ·have g:kb<ka:=by omega
  rcases h.lam ka kb p q hp hq g (by rw[←e1,←f1];exact hth.symm)with hd | hd
  ·
   exfalso
   have mono:∀i:Nat,PD pcs kb i→∀p,pcs[i]? = some p→q.fr≤p.fr∧p.to≤q.to:=by
    intro i hd
    induction hd with
    | self=>intro p hp;rw[hq]at hp;cases hp;exact⟨Int.le_refl _,Int.le_refl _⟩
    | @up i k p' hp' har hd ih =>
     intro p hp
     rw[hp']at hp;cases hp
     rcases h.dn.up i p' hp' with e | ⟨j,r,e,_,d2,_,d4,d5⟩
     ·omega
     ·have:j=k:=by omega
      subst this
      have:=ih r d2
      omega
   have:=mono ka hd p hp
   have s1:=h.sml ka p hp
   have s2:=h.sml kb q hq
   have hth':p.th=q.th:=by rw[←e1,←f1];exact hth
   unfold HQ at ho
   omega
  ·omega
theorem aQz(o:List EvS)(e:Int)(hp:o.Pairwise (fun x y=>bZ x.lo≤bZ y.lo))(hth:∀x∈o,0≤x.th∧x.th≤1000000000000000)(hl:o.length≤1000000) :
  ∃pcs K out,pcs=lZ (o.foldl gW ⟨[],[]⟩) (bZ (DW o e))∧OutF o pcs K out∧ofF o e=some out:=by
 have hd:=M1 o e hp
 have hlam:=aQq o (bZ (DW o e)) hp
 obtain⟨pcs,hpcs⟩ : ∃pcs,pcs=lZ (o.foldl gW ⟨[],[]⟩) (bZ (DW o e)):=⟨_,rfl⟩
 rw[←hpcs]at hd hlam
 have hlen:pcs.length≤1000000:=by
  rw[hd.cnt]
  exact Nat.le_trans (List.length_filter_le ..) hl
 have hs:Sml pcs:=fun i p h=>by
  obtain⟨x,hx,_,a,_,b⟩:=hd.beg i p h
  have h1:=hth x hx
  have h2:=wx x.lo
  have h3:=(hd.fin i p h).2
  rw[a]at h1
  rw[b]at h2
  exact⟨h2.1,h2.2,by omega,hd.le i p h,h1⟩
 obtain⟨K,k1,k2,k3⟩:=awW hs hlen
 have hI0:OutI pcs [] ([(-1,-1)],[]):=⟨rfl,rfl,fun m k h=>by simp at h,fun m k x h=>by simp at h⟩
 obtain⟨⟨pl,out⟩,h1,h2⟩:=ajq hd K [] ([(-1,-1)],[]) k2 k3 hI0
 have h3:=YW hd K [] ([(-1,-1)],[]) (pl,out) k2 k3 hI0 ⟨fun m k x p h=>by simp at h,fun m x h=>by simp at h⟩ h1
 refine⟨pcs,K,out,hpcs,⟨hd,hlam,hs,k2,k3,h2.len,h2.ofp,h3⟩,?_⟩
 unfold ofF
 simp only[←hpcs,k1,dk]
 rw[h1]
 rfl
end Go.VM
namespace Go.VM
theorem K5(y:UInt8):Tot (gY (y.toNat:Int)):=by
 have h:(List.range 256).all (fun n=>(gY (n:Int)).isSome)=true:=by kernel_rfl
 have h2:=List.all_eq_true.1 h y.toNat (List.mem_range.2 y.toNat_lt)
 obtain⟨r,hr⟩:=Option.isSome_iff_exists.1 h2
 exact⟨r,hr,trivial⟩
theorem N9(p:ByteArray):Tot (fJ p):=by
 unfold fJ
 have hsz:p.data.toList.length=p.size:=Array.length_toList
 refine bz (Q:=fun v=>v=false→p.size≤40) ?_ (fun v hv=>?_)
 ·refine b6 (fun _=>aW (by simp)) (fun h=>aW (fun e=>?_))
  have:=of_decide_eq_false e
  omega
 ·refine lz (fun _=>zV) (fun e=>?_)
  have hs:=hv e
  refine p6 (Q:=Yes) (aOJ p.size (by omega) fun i h1 h2=>?_) (fun _ _=>?_) (fun _ _=>?_)
  ·unfold jj
   repeat' (first | (with_reducible first | intro _ | exact zV | exact yj | exact xW | exact yz | refine bz zQ fun _ _=>?_ | apply lQ | apply b6 | apply Bq | apply lz | (refine Ok.yes (K5 _)<;>(first | assumption | omega | rw[cj]<;>omega)) | apply bz (Q:=Yes)) | dsimp only)
  ·repeat' (first | (with_reducible first | intro _ | exact zV | exact yj | exact xW | exact yz | refine bz zQ fun _ _=>?_ | apply lQ | apply b6 | apply Bq | apply lz | (refine Ok.yes (K5 _)<;>(first | assumption | omega | rw[cj]<;>omega)) | apply bz (Q:=Yes)) | dsimp only)
  ·repeat' (first | (with_reducible first | intro _ | exact zV | exact yj | exact xW | exact yz | refine bz zQ fun _ _=>?_ | apply lQ | apply b6 | apply Bq | apply lz | (refine Ok.yes (K5 _)<;>(first | assumption | omega | rw[cj]<;>omega)) | apply bz (Q:=Yes)) | dsimp only)
theorem apX(l:List ByteArray):Tot (jY l):=by
 unfold jY
 refine b6 (fun _=>zV) (fun h=>?_)
 refine p6 (Q:=Yes) (aOJ l.length (by omega) fun i h1 h2=>?_) (fun _ _=>?_) (fun _ _=>?_)
 ·unfold ox
  repeat' (first | (with_reducible first | intro _ | exact zV | exact yj | exact xW | exact yz | refine bz zQ fun _ _=>?_ | apply lQ | apply b6 | apply Bq | apply lz | (refine Ok.yes (N9 _)<;>(first | assumption | omega | rw[cj]<;>omega)) | apply bz (Q:=Yes)) | dsimp only)
 ·repeat' (first | (with_reducible first | intro _ | exact zV | exact yj | exact xW | exact yz | refine bz zQ fun _ _=>?_ | apply lQ | apply b6 | apply Bq | apply lz | (refine Ok.yes (N9 _)<;>(first | assumption | omega | rw[cj]<;>omega)) | apply bz (Q:=Yes)) | dsimp only)
 ·repeat' (first | (with_reducible first | intro _ | exact zV | exact yj | exact xW | exact yz | refine bz zQ fun _ _=>?_ | apply lQ | apply b6 | apply Bq | apply lz | (refine Ok.yes (N9 _)<;>(first | assumption | omega | rw[cj]<;>omega)) | apply bz (Q:=Yes)) | dsimp only)
theorem amJ(a b c:Int):Tot (dj a b c):=by
 unfold dj
 repeat' (first | (with_reducible first | intro _ | exact zV | exact yj | exact xW | exact yz | refine bz zQ fun _ _=>?_ | apply lQ | apply b6 | apply Bq | apply lz | apply bz (Q:=Yes)) | dsimp only)
theorem aIX(a:Int):Tot (jX a):=by
 unfold jX
 repeat' (first | (with_reducible first | intro _ | exact zV | exact yj | exact xW | exact yz | refine bz zQ fun _ _=>?_ | apply lQ | apply b6 | apply Bq | apply lz | apply bz (Q:=Yes)) | dsimp only)
theorem ajJ(e:qz):Tot (jz e):=by
 unfold jz
 repeat' (first | (with_reducible first | intro _ | exact zV | exact yj | exact xW | exact yz | refine bz zQ fun _ _=>?_ | apply lQ | apply b6 | apply Bq | apply lz | (refine Ok.yes (amJ _ _ _)<;>(first | assumption | omega | rw[cj]<;>omega)) | apply bz (Q:=Yes)) | dsimp only)
theorem avz(e:qz):Tot (eQ e):=by
 unfold eQ
 repeat' (first | (with_reducible first | intro _ | exact zV | exact yj | exact xW | exact yz | refine bz zQ fun _ _=>?_ | apply lQ | apply b6 | apply Bq | apply lz | (refine Ok.yes (aIX _)<;>(first | assumption | omega | rw[cj]<;>omega)) | (refine Ok.yes (N9 _)<;>(first | assumption | omega | rw[cj]<;>omega)) | (refine Ok.yes (apX _)<;>(first | assumption | omega | rw[cj]<;>omega)) | (refine Ok.yes (ajJ _)<;>(first | assumption | omega | rw[cj]<;>omega)) | apply bz (Q:=Yes)) | dsimp only)
theorem OV(e:a8):dZ e=some (bZ e.j7.w7):=by
 have:Ok (dZ e) (fun r=>r=bZ e.j7.w7):=by
  unfold dZ bZ
  refine b6 (fun h=>aW (by omega)) (fun h=>?_)
  exact b6 (fun h=>aW (by omega)) (fun h=>aW (by omega))
 obtain⟨r,h1,h2⟩:=this
 rw[h1,h2]
def PrevR(o:List a8)(i:Nat)(th r:Int):Prop:=-1≤r∧r<i∧(∀(k:Nat) e,k<i→r<(k:Int)→o[k]? = some e→e.j8.q6≠th)∧∀k:Nat,r=(k:Int)→∃e,o[k]? = some e∧e.j8.q6=th
theorem aaV{o:List a8}{i:Nat}{y:a8}(hy:o[i]? = some y)(hl:o.length≤60):Ok (fK o (i:Int)) (PrevR o i y.j8.q6):=by
 have hi:=oW hy
 unfold fK
 rw[cj (n:=(i:Int)-1) (by omega)]
 refine p6 (Q:=xK (fun _=>PrevR o i y.j8.q6 (-1)) (PrevR o i y.j8.q6)) (nQ (fun a:Int=>-1≤a∧a<i∧∀(k:Nat) e,k<i→a<(k:Int)→o[k]? = some e→e.j8.q6≠y.j8.q6) (fun a=>(a+1).toNat) (fun a h=>?_) ⟨by omega,by omega,fun k e h1 h2=>by omega⟩ (by simp[cV];omega)) (fun _ h=>aW h) (fun r hr=>aW hr)
 obtain⟨h1,h2,h3⟩:=h
 unfold m4
 refine b6 (fun h0=>?_) (fun h0=>f6 ⟨by omega,by omega,fun k e k1 k2=>h3 k e k1 (by omega),fun k e=>by omega⟩)
 obtain⟨n,rfl⟩ : ∃n:Nat,a=(n:Int):=⟨a.toNat,by omega⟩
 obtain⟨z,hiz,hz⟩:=H2 (xs:=o) (i:=n) (by omega)
 simp only[hiz,dW,hy,dk]
 refine b6 (fun g=>f6 ⟨by omega,h2,h3,fun k e=>?_⟩) (fun g=>?_)
 ·have:k=n:=by omega
  subst this
  exact⟨z,hz,g⟩
 ·rw[cj (n:=(n:Int)-1) (by omega)]
  refine iJ ⟨⟨by omega,by omega,fun k e k1 k2 k3=>?_⟩,by omega⟩
  by_cases e2:k=n
  ·subst e2;rw[hz]at k3;cases k3;exact g
  ·exact h3 k e k1 (by omega) k3
structure Ord26(o:List a8):Prop where
 th:∀(i:Nat) e,o[i]? = some e→0≤e.j8.q6∧e.j8.q6≤1000000000000000
 tm:∀(i:Nat) e e',o[i]? = some e→o[i+1]? = some e'→bZ e.j7.w7≤bZ e'.j7.w7
 chk:∀(i:Nat) e,o[i]? = some e→eQ e.j4=some 0
 ser:∀(i:Nat) e,o[i]? = some e→0≤e.j8.j3∧e.j8.j3≤1000000000000000
 inc:∀(i k:Nat) e e',o[i]? = some e→PrevR o i e.j8.q6 (k:Int)→o[k]? = some e'→e'.j8.j3<e.j8.j3
def aVx(o:List a8)(i:Nat)(e:a8):Prop:=(0≤e.j8.q6∧e.j8.q6≤1000000000000000)∧(∀e',0<i→o[i-1]? = some e'→bZ e'.j7.w7≤bZ e.j7.w7)∧eQ e.j4=some 0∧(0≤e.j8.j3∧e.j8.j3≤1000000000000000)∧∀(k:Nat) e',PrevR o i e.j8.q6 (k:Int)→o[k]? = some e'→e'.j8.j3<e.j8.j3
theorem PrevR.uniq{o:List a8}{i:Nat}{th:Int}{r r':Int}(h:PrevR o i th r)(h':PrevR o i th r'):r=r':=by
 have key:∀ {r r':Int},PrevR o i th r→PrevR o i th r'→¬r<r':=fun {r r'} h h' hlt=>by
  obtain⟨a1,a2,a3,a4⟩:=h
  obtain⟨b1,b2,b3,b4⟩:=h'
  obtain⟨e,he,ht⟩:=b4 r'.toNat (by omega)
  exact a3 r'.toNat e (by omega) (by omega) he ht
 have h1:=key h h'
 have h2:=key h' h
 omega
theorem azx(o:List a8)(hl:o.length≤60):Ok (jQ o) (fun b=>b=true→Ord26 o):=by
 unfold jQ
 refine p6 (Q:=xK (fun _=>Ord26 o) (fun r=>r=false)) (Pj o.length (fun n=>∀(i:Nat) e,i<n→o[i]? = some e→aVx o i e) (by omega) (fun i e h=>by omega) (fun i hI h2=>?_)) (fun _ h=>aW fun _=>h) (fun r hr=>aW (fun e=>by rw[show r=false from hr]at e;cases e))
 unfold nZ
 refine b6 (fun hi=>?_) (fun hi=>f6 ?_)
 ·obtain⟨y,hiy,hy⟩:=H2 (xs:=o) (i:=i) (by omega)
  simp only[hiy,dk]
  refine bz (Q:=fun v=>v=false→(0≤y.j8.q6∧y.j8.q6≤1000000000000000)∧eQ y.j4=some 0∧(0≤y.j8.j3∧y.j8.j3≤1000000000000000)) ?_ (fun v hv=>?_)
  ·refine aHK (avz _) (fun r hr=>?_)
   refine lQ (fun _=>aW (by simp)) (fun h0=>?_)
   refine b6 (fun _=>aW (by simp)) (fun h3=>?_)
   refine b6 (fun _=>aW (by simp)) (fun h4=>?_)
   refine b6 (fun _=>aW (by simp)) (fun h5=>aW fun h6=>⟨by omega,by rw[hr,h0],by have:=of_decide_eq_false h6;omega⟩)
  ·refine lz (fun _=>f6 rfl) (fun e72=>?_)
   obtain⟨k1,k2,k3⟩:=hv e72
   refine bz (Q:=fun v=>v=false→∀e,0<i→o[i-1]? = some e→bZ e.j7.w7≤bZ y.j7.w7) ?_ (fun v hv=>?_)
   ·refine b6 (fun h4=>?_) (fun h4=>aW (fun _ e h5=>by omega))
    rw[OV,dk,cj (n:=(i:Int)-1) (by omega)]
    obtain⟨z,hiz,hz⟩:=zQ (xs:=o) (i:=(i:Int)-1) (by omega) (by omega)
    rw[hiz,dk,OV,dk]
    refine aW (fun h5 e _ he=>?_)
    rw[show((i:Int)-1).toNat=i-1 by omega,he]at hz
    cases hz
    have:=of_decide_eq_false h5;omega
   ·refine lz (fun _=>f6 rfl) (fun e73=>?_)
    have htm:=hv e73
    refine bz (aaV hy hl) (fun r hr=>?_)
    refine bz (Q:=fun v=>v=false→∀(k:Nat) e',PrevR o i y.j8.q6 (k:Int)→o[k]? = some e'→e'.j8.j3<y.j8.j3) ?_ (fun v75 hv=>?_)
    ·refine b6 (fun h0=>?_) (fun h0=>aW fun _ k e' hk=>by have:=hr.uniq hk;omega)
     obtain⟨n,rfl⟩ : ∃n:Nat,r=(n:Int):=⟨r.toNat,by omega⟩
     obtain⟨z,hz,_⟩:=hr.2.2.2 n rfl
     rw[dW,hz,dk]
     refine aW fun h5 k e' hk he=>?_
     have:=hr.uniq hk
     have:n=k:=by omega
     subst this
     rw[hz]at he;cases he
     have:=of_decide_eq_false h5;omega
    ·refine lz (fun _=>f6 rfl) (fun e75=>?_)
     refine iJ ⟨by omega,C7 (n:=o.length) (by omega) (by omega),fun k e hk he=>?_⟩
     by_cases e2:k=i
     ·subst e2;rw[hy]at he;cases he;exact⟨k1,htm,k2,k3,hv e75⟩
     ·exact hI k e (by omega) he
 ·have h:∀(k:Nat) e,o[k]? = some e→aVx o k e:=fun k e hk=>hI k e (by have:=oW hk;omega) hk
  exact⟨fun k e hk=>(h k e hk).1,fun k e e' hk hk'=>(h (k+1) e' hk').2.1 e (by omega) hk,fun k e hk=>(h k e hk).2.2.1,fun k e hk=>(h k e hk).2.2.2.1,fun k j e e' hk=>(h k e hk).2.2.2.2 j e'⟩
theorem aUY(o:List a8):Ok (mW o) (fun b=>b=true→o.length≤60∧Ord26 o):=by
 unfold mW
 refine b6 (fun _=>aW (by simp)) (fun hl=>?_)
 refine p6 (Q:=xK (fun _=>True) (fun r=>r=false)) (Pj o.length (fun _=>True) (by omega) trivial (fun i _ h2=>?_)) (fun _ _=>?_) (fun r hr=>aW (fun e=>by rw[show r=false from hr]at e;cases e))
 ·unfold qj
  refine b6 (fun hi=>?_) (fun hi=>f6 trivial)
  obtain⟨y,hiy,hy⟩:=H2 (xs:=o) (i:=i) (by omega)
  rw[hiy,dk]
  refine b6 (fun _=>f6 rfl) (fun _=>iJ ⟨by omega,C7 (n:=o.length) (by omega) (by omega),trivial⟩)
 ·exact bz (azx o (by omega)) (fun b hb=>aW fun e=>⟨by omega,hb e⟩)
theorem Ord26.pair{o:List a8}(h:Ord26 o):(o.map o9).Pairwise (fun x y=>bZ x.lo≤bZ y.lo):=by
 rw[List.pairwise_map]
 have key:∀(n i:Nat) (x y:a8),o[i]? = some x→o[i+n]? = some y→bZ x.j7.w7≤bZ y.j7.w7:=by
  intro n
  induction n with
  | zero=>intro i x y hx hy;rw[Nat.add_zero,hx]at hy;cases hy;exact Int.le_refl _
  | succ n ih =>
   intro i x y hx hy
   obtain⟨z,hz⟩ : ∃z,o[i+n]? = some z:=⟨_,cw (by have:=oW hy;omega)⟩
   exact Int.le_trans (ih i x z hx hz) (h.tm (i+n) z y hz hy)
 rw[List.pairwise_iff_getElem]
 intro i j hi hj hij
 refine key (j-i) i _ _ (cw hi) ?_
 rw[show i+(j-i)=j by omega]
 exact cw hj
end Go.VM
namespace Go.VM
def oF(p:Pc)(ov:Bool):aq:={q7:={q6:=p.th,q8:=p.ar,z4:=0,z5:=p.nm,z3:={z8:=p.fr,j6:=p.to},z7:=0,z6:=p.op},z9:=ov}
def OpR(pcs:List Pc)(ov:Nat→Bool)(ops:List aq):Prop:=∀i:Nat,ops[i]? = (pcs[i]?).map fun p=>oF p (ov i)
theorem OpR.len{pcs:List Pc}{ov:Nat→Bool}{ops:List aq}(h:OpR pcs ov ops):ops.length=pcs.length:=by
 have h1:=h ops.length
 have h2:=h pcs.length
 rw[vw (mw ops.length)]at h1
 rw[vw (mw pcs.length)]at h2
 have h3:=List.getElem?_eq_none_iff.1 (Option.map_eq_none_iff.1 h1.symm)
 have h4:=List.getElem?_eq_none_iff.1 h2
 omega
structure OpC(pcs:List Pc)(ov:Nat→Bool)(th:Int)(opn:List Nat):Prop where
 ov:∀(i:Nat) p,pcs[i]? = some p→p.th=th→ov i = !decide (i∈opn)
 inn:∀i∈opn,∃p,pcs[i]? = some p∧p.th=th
 up:opn.Pairwise (· < ·)
theorem CQ{l:List Nat}{i:Nat}(h:l.getLast? = some i):kY l=(i:Int):=by unfold kY;rw[h]
theorem HY{pcs:List Pc}{ov:Nat→Bool}{ops:List aq}(h:OpR pcs ov ops){th:Int}{opn:List Nat}(hc:OpC pcs ov th opn)(hl:pcs.length≤1000000):cY ops th=some (kY opn):=by
 have hlen:=h.len
 have:Ok (cY ops th) (fun r=>r=kY opn):=by
  unfold cY
  rw[cj (n:=(ops.length:Int)-1) (by omega)]
  refine p6 (Q:=xK (fun _=>opn=[]) (fun r:Int=>r=kY opn)) (nQ (fun a:Int=>-1≤a∧a<ops.length∧∀j∈opn,(j:Int)≤a) (fun a=>(a+1).toNat) (fun a ha=>?_) ⟨by omega,by omega,fun j hj=>?_⟩ (by simp[cV];omega)) (fun _ hr=>aW (by rw[show opn=[]from hr];rfl)) (fun r hr=>aW hr)
  ·obtain⟨h1,h2,h3⟩:=ha
   unfold mX
   refine b6 (fun h0=>?_) (fun h0=>f6 ?_)
   ·obtain⟨k,rfl⟩ : ∃k:Nat,a=(k:Int):=⟨a.toNat,by omega⟩
    obtain⟨p,hp⟩ : ∃p,pcs[k]? = some p:=⟨_,cw (by omega)⟩
    have hy:=h k
    rw[hp]at hy
    simp only[dW,hy,qw,dk]
    refine bz (Q:=fun v=>(v=true↔k∈opn)) ?_ (fun v hv=>?_)
    ·refine b6 (fun g=>aW ?_) (fun g=>aW ?_)
     ·show(!(ov k))=true↔_
      rw[hc.ov k p hp g]
      simp
     ·refine⟨fun e=>(by cases e),fun e=>?_⟩
      obtain⟨q,hq,hq2⟩:=hc.inn k e
      rw[hp]at hq;cases hq
      exact absurd hq2 g
    ·refine lz (fun e=>f6 ?_) (fun e=>?_)
     ·have hk:=hv.1 e
      cases hg:opn.getLast? with
      | none=>rw[List.getLast?_eq_none_iff.1 hg]at hk;simp at hk
      | some j =>
       rw[CQ hg]
       have h4:=h3 j (List.mem_of_getLast? hg)
       rcases(i5 hg (i := k)).1 hk with h5 | h5
       ·have:=(IK hc.up hg).1 k h5;omega
       ·show(k:Int)=(j:Int)
        omega
     ·rw[cj (n:=(k:Int)-1) (by omega)]
      refine iJ ⟨⟨by omega,by omega,fun j hj=>?_⟩,by omega⟩
      have h4:=h3 j hj
      have:j≠k:=fun e2=>by subst e2;rw[hv.2 hj]at e;cases e
      omega
   ·apply List.eq_nil_iff_forall_not_mem.2
    intro j hj
    have:=h3 j hj
    omega
  ·obtain⟨p,hp,_⟩:=hc.inn j hj
   have:=(bw.1 hp).1
   omega
 obtain⟨r,h1,h2⟩:=this
 rw[h1,h2]
theorem OpR.set{pcs:List Pc}{ov:Nat→Bool}{ops:List aq}(h:OpR pcs ov ops){j:Nat}{p:Pc}(hp:pcs[j]? = some p)(p':Pc)(b:Bool):OpR (pcs.set j p') (fun i=>if i=j then b else ov i) (ops.set j (oF p' b)):=fun i=>by
 have hl:=h.len
 have hj:=(bw.1 hp).1
 rw[kw,kw]
 by_cases e:j=i
 ·subst e
  rw[if_pos rfl,if_pos rfl,if_pos hj,if_pos (by omega)]
  simp
 ·rw[if_neg e,if_neg e,h i]
  simp only[if_neg (Ne.symm e)]
theorem agZ{pcs:List Pc}{j:Nat}{p:Pc}(hp:pcs[j]? = some p)(a:Int)(o:Bool):D5 pcs j a o=pcs.set j {p with to:=a,op:=o}:=by
 unfold D5;rw[hp]
theorem OpC.pop{pk:List Pc}{ok:Nat→Bool}{th:Int}{opk:List Nat}(hC:OpC pk ok th opk){j:Nat}(hg:opk.getLast? = some j){p:Pc}(hp:pk[j]? = some p)(p':Pc)(hth:p'.th=p.th):OpC (pk.set j p') (fun i=>if i=j then true else ok i) th opk.dropLast:=by
 have hjl:=(bw.1 hp).1
 obtain⟨u1,u2⟩:=IK hC.up hg
 refine⟨fun i q hq hqt=>?_,fun i hi=>?_,u2⟩
 ·rw[kw]at hq
  by_cases e:j=i
  ·subst e
   have:j∉opk.dropLast:=fun hm=>Nat.lt_irrefl _ (u1 j hm)
   simp[this]
  ·rw[if_neg e]at hq
   have hne:i≠j:=fun e2=>e e2.symm
   simp only[if_neg hne]
   rw[hC.ov i q hq hqt]
   congr 1
   rw[decide_eq_decide]
   constructor
   ·intro hm;exact((i5 hg (i:=i)).1 hm).elim id (fun e2=>absurd e2 hne)
   ·exact fun hm=>(i5 hg).2 (.inl hm)
 ·obtain⟨q,hq,hqt⟩:=hC.inn i ((i5 hg).2 (.inl hi))
  have:j≠i:=fun e=>by subst e;exact Nat.lt_irrefl _ (u1 j hi)
  exact⟨q,by rw[kw,if_neg this];exact hq,hqt⟩
theorem OpC.off{pk:List Pc}{ok:Nat→Bool}{th:Int}{opk:List Nat}(hC:OpC pk ok th opk){j:Nat}{p:Pc}(hp:pk[j]? = some p)(p':Pc)(hth:p'.th=p.th)(hne:p.th≠th):OpC (pk.set j p') (fun i=>if i=j then true else ok i) th opk:=by
 have hjl:=(bw.1 hp).1
 refine⟨fun i q hq hqt=>?_,fun i hi=>?_,hC.up⟩
 ·rw[kw]at hq
  by_cases e:j=i
  ·subst e
   rw[if_pos rfl,if_pos hjl]at hq
   cases hq
   exact absurd (hth.symm.trans hqt) hne
  ·rw[if_neg e]at hq
   simp only[if_neg (Ne.symm e)]
   exact hC.ov i q hq hqt
 ·obtain⟨q,hq,hqt⟩:=hC.inn i hi
  have:j≠i:=fun e=>by subst e;rw[hp]at hq;cases hq;exact hne hqt
  exact⟨q,by rw[kw,if_neg this];exact hq,hqt⟩
theorem asq{pcs:List Pc}{ov:Nat→Bool}{ops:List aq}(h:OpR pcs ov ops){th:Int}{opn:List Nat}(hc:OpC pcs ov th opn)(hl:pcs.length≤1000000)(a:Int):Ok (i8 ops th a) (fun ops'=>OpR (sV pcs opn a) (fun i=>ov i||decide (i∈opn)) ops'):=by
 unfold i8
 have hlen:=h.len
 rw[List.length_nil,Q7 (by omega) (by omega),cond_true,List.nil_append,HY h hc hl,dk]
 have hol:opn.length≤pcs.length:=by
  have h1:=hc.up
  have h2:∀i∈opn,i<pcs.length:=fun i hi=>by
   obtain⟨p,hp,_⟩:=hc.inn i hi
   exact(bw.1 hp).1
  have h3:opn.Nodup:=h1.imp (fun h e=>by omega)
  have h4:=agX opn (List.range pcs.length) h3 (fun x hx=>List.mem_range.2 (h2 x hx))
  rw[List.length_range]at h4
  exact h4
 refine bz (nQ (fun s:List aq×Int=>∃(pk:List Pc) (ok:Nat→Bool) (opk:List Nat),OpR pk ok s.1∧OpC pk ok th opk∧s.2=kY opk∧pk.length=pcs.length∧sV pk opk a=sV pcs opn a∧(∀i,(ok i||decide (i∈opk))=(ov i||decide (i∈opn)))∧opk.length≤pcs.length) (fun s=>if s.2<0 then 0 else 1+s.2.toNat) (Post:=fun r=>OpR (sV pcs opn a) (fun i=>ov i||decide (i∈opn)) r) (fun s hs=>?_) ⟨pcs,ov,opn,h,hc,rfl,rfl,rfl,fun _=>rfl,hol⟩ ?_) (fun r hr=>aW hr)
 ·obtain⟨x,r⟩:=s
  obtain⟨pk,ok,opk,hO,hC,hr,hpl,hend,hov,hopl⟩:=hs
  simp only at hO hr
  subst hr
  unfold o3
  dsimp only
  cases hg:opk.getLast? with
  | none =>
   have ho:=List.getLast?_eq_none_iff.1 hg
   subst ho
   refine b6 (fun h0=>absurd h0 (by decide)) (fun _=>f6 ?_)
   have hend:pk=sV pcs opn a:=hend
   rw[←hend]
   intro i
   rw[hO i]
   congr 1
   funext p
   show _=oF p (ov i||decide (i∈opn))
   rw[←hov i];simp
  | some j =>
   have hj:j∈opk:=List.mem_of_getLast? hg
   obtain⟨p,hp,hth⟩:=hC.inn j hj
   have hjl:=(bw.1 hp).1
   rw[CQ hg]
   refine b6 (fun _=>?_) (fun h0=>absurd (by omega:(0:Int)≤(j:Int)) h0)
   have hy:=hO j
   rw[hp]at hy
   have hxl:=hO.len
   have hs1:∀(l:List aq) (z:aq),j<l.length→(l.set j z)[j]? = some z:=fun l z hl=>by rw[kw,if_pos rfl,if_pos hl]
   simp only[dW,hy,qw,dk,Int.toNat_natCast]
   rw[hs1 _ _ (by omega),dk]
   simp only[List.set_set]
   rw[hs1 _ _ (by omega),dk]
   simp only[oF,List.set_set]
   have hO2:=hO.set hp {p with to:=a,op:=true} true
   have hC2:=hC.pop hg hp {p with to:=a,op:=true} rfl
   have hinn:=HY hO2 hC2 (by rw[List.length_set];omega)
   have hO2':OpR (pk.set j {p with to:=a,op:=true}) (fun i=>if i=j then true else ok i) (x.set j {q7:={q6:=p.th,q8:=p.ar,z4:=0,z5:=p.nm,z3:={z8:=p.fr,j6:=a},z7:=0,z6:=true},z9:=true}):=hO2
   have hinn':cY (x.set j {q7:={q6:=p.th,q8:=p.ar,z4:=0,z5:=p.nm,z3:={z8:=p.fr,j6:=a},z7:=0,z6:=true},z9:=true}) th=some (kY opk.dropLast):=hinn
   rw[hinn',dk]
   have hdl:=xY hg
   have hll:opk.length=opk.dropLast.length+1:=by
    have:=congrArg List.length hdl
    simp only[dw,List.length_singleton]at this
    exact this
   refine iJ ⟨⟨_,_,opk.dropLast,hO2',hC2,rfl,by rw[List.length_set];exact hpl,?_,fun i=>?_,by omega⟩,?_⟩
   ·rw[←hend]
    conv=>rhs;rw[hdl]
    unfold sV
    rw[List.foldr_append]
    show _=List.foldr _ (D5 pk j a true) _
    rw[agZ hp]
   ·rw[←hov i]
    by_cases e:i=j
    ·subst e
     simp[hj]
    ·simp only[if_neg e]
     congr 1
     rw[decide_eq_decide]
     exact⟨fun hm=>(i5 hg).2 (.inl hm),fun hm=>((i5 hg (i:=i)).1 hm).elim id (fun e2=>absurd e2 e)⟩
   ·simp only
    rw[if_neg (show ¬((j:Int)<0)by omega)]
    cases hg2:opk.dropLast.getLast? with
    | none =>
     rw[show kY opk.dropLast = -1 by unfold kY;rw[hg2],if_pos (by omega)]
     omega
    | some j2 =>
     rw[CQ hg2,if_neg (by omega)]
     have:=(IK hC.up hg).1 j2 (List.mem_of_getLast? hg2)
     omega
 ·simp only
  cases hg:opn.getLast? with
  | none=>rw[show kY opn = -1 by unfold kY;rw[hg],if_pos (by omega)];simp[cV]
  | some j =>
   obtain⟨p,hp,_⟩:=hc.inn j (List.mem_of_getLast? hg)
   have:=(bw.1 hp).1
   rw[CQ hg,if_neg (by omega)]
   simp[cV];omega
end Go.VM
namespace Go.VM
def upd(on:Int→List Nat)(th:Int)(l:List Nat):Int→List Nat:=fun t=>if th=t then l else on t
structure OpA(pcs:List Pc)(ov:Nat→Bool)(ops:List aq)(on:Int→List Nat):Prop where
 r:OpR pcs ov ops
 c:∀th,OpC pcs ov th (on th)
 f:∀(i:Nat) p,pcs[i]? = some p→ov i=false→p.op=false
theorem OpA.off{pcs:List Pc}{ov:Nat→Bool}{ops:List aq}{on:Int→List Nat}(h:OpA pcs ov ops on){i:Nat}{p:Pc}(hp:pcs[i]? = some p){th:Int}(hi:i∈on th):p.th=th:=by
 obtain⟨q,hq,e⟩:=(h.c th).inn i hi
 rw[hp]at hq;cases hq;exact e
theorem OpA.fin{pcs:List Pc}{ov:Nat→Bool}{ops ops':List aq}{on:Int→List Nat}(h:OpA pcs ov ops on)(th a:Int)(hr:OpR (sV pcs (on th) a) (fun i=>ov i||decide (i∈on th)) ops'):OpA (sV pcs (on th) a) (fun i=>ov i||decide (i∈on th)) ops' (upd on th []):=by
 have get:∀(k:Nat) p,(sV pcs (on th) a)[k]? = some p→∃p0,pcs[k]? = some p0∧p.th=p0.th∧(k∉on th→p=p0):=fun k p hp=>by
  rw[tZ]at hp
  obtain⟨p0,h0,rfl⟩:=aw.1 hp
  refine⟨p0,h0,?_,fun g=>by rw[if_neg g]⟩
  split<;>rfl
 refine⟨hr,fun t=>⟨fun i p hp hpt=>?_,fun i hi=>?_,?_⟩,fun i p hp hov=>?_⟩
 ·obtain⟨p0,h0,e1,e2⟩:=get i p hp
  have hc:=(h.c t).ov i p0 h0 (e1.symm.trans hpt)
  unfold upd
  by_cases e:th=t
  ·subst e
   rw[if_pos rfl,hc]
   by_cases g:i∈on th<;>simp[g]
  ·rw[if_neg e,hc]
   have:i∉on th:=fun g=>e ((h.off h0 g).symm.trans (e1.symm.trans hpt))
   simp[this]
 ·unfold upd at hi
  split at hi
  ·simp at hi
  ·obtain⟨q,hq,hqt⟩:=(h.c t).inn i hi
   refine⟨_,by rw[tZ,hq];rfl,?_⟩
   split<;>exact hqt
 ·unfold upd
  split
  ·exact List.Pairwise.nil
  ·exact(h.c t).up
 ·obtain⟨p0,h0,e1,e2⟩:=get i p hp
  rw[Bool.or_eq_false_iff]at hov
  rw[e2 (of_decide_eq_false hov.2)]
  exact h.f i p0 h0 hov.1
theorem OpA.push{pcs:List Pc}{ov:Nat→Bool}{ops:List aq}{on:Int→List Nat}(h:OpA pcs ov ops on)(p:Pc)(hop:p.op=false):OpA (pcs++[p]) (fun i=>if i=pcs.length then false else ov i) (ops++[oF p false]) (upd on p.th (on p.th++[pcs.length])):=by
 have hl:=h.r.len
 have lt:∀ {i:Nat} {q:Pc},pcs[i]? = some q→i<pcs.length:=fun h=>(bw.1 h).1
 have mem:∀ {t:Int} {i:Nat},i∈on t→i<pcs.length:=fun hi=>by
  obtain⟨q,hq,_⟩:=(h.c _).inn _ hi
  exact lt hq
 refine⟨fun i=>?_,fun t=>⟨fun i q hq hqt=>?_,fun i hi=>?_,?_⟩,fun i q hq hov=>?_⟩
 ·rcases Nat.lt_trichotomy i pcs.length with g | g | g
  ·rw[lw (by omega),lw g,h.r i]
   simp only[if_neg (Nat.ne_of_lt g)]
  ·subst g
   rw[←hl,List.getElem?_concat_length,hl,List.getElem?_concat_length]
   simp
  ·rw[vw (by simp;omega),vw (by simp;omega)]
   rfl
 ·unfold upd
  rcases E9 hq with⟨g,hq⟩ | ⟨g,rfl⟩
  ·simp only[if_neg (Nat.ne_of_lt g)]
   rw[(h.c t).ov i q hq hqt]
   split
   ·rename_i e
    subst e
    congr 1
    rw[decide_eq_decide,ow,fw]
    exact⟨.inl,fun e=>e.elim id fun e=>absurd e (Nat.ne_of_lt g)⟩
   ·rfl
  ·subst g
   rw[if_pos rfl,if_pos hqt,hqt]
   simp
 ·unfold upd at hi
  split at hi
  ·rename_i e
   rcases ow.1 hi with g | g
   ·obtain⟨q,hq,hqt⟩:=(h.c _).inn i g
    exact⟨q,by rw[lw (lt hq)];exact hq,hqt.trans e⟩
   ·rw[fw]at g
    subst g
    exact⟨p,List.getElem?_concat_length,e⟩
  ·obtain⟨q,hq,hqt⟩:=(h.c _).inn i hi
   exact⟨q,by rw[lw (lt hq)];exact hq,hqt⟩
 ·unfold upd
  split
  ·refine List.pairwise_append.2 ⟨(h.c _).up,List.pairwise_singleton _ _,fun a ha b hb=>?_⟩
   rw[fw]at hb
   subst hb
   exact mem ha
  ·exact(h.c t).up
 ·rcases E9 hq with⟨g,hq⟩ | ⟨g,rfl⟩
  ·simp only[if_neg (Nat.ne_of_lt g)]at hov
   exact h.f i q hq hov
  ·exact hop
theorem OpA.pop{pcs:List Pc}{ov:Nat→Bool}{ops:List aq}{on:Int→List Nat}(h:OpA pcs ov ops on){th:Int}{j:Nat}(hg:(on th).getLast? = some j){p:Pc}(hp:pcs[j]? = some p)(p':Pc)(hth:p'.th=p.th):OpA (pcs.set j p') (fun i=>if i=j then true else ov i) (ops.set j (oF p' true)) (upd on th (on th).dropLast):=by
 have hpt:=h.off hp (List.mem_of_getLast? hg)
 refine⟨h.r.set hp p' true,fun t=>?_,fun i q hq hov=>?_⟩
 ·unfold upd
  split
  ·rename_i e
   subst e
   exact(h.c th).pop hg hp p' hth
  ·rename_i e
   exact(h.c t).off hp p' hth (fun e2=>e (hpt.symm.trans e2))
 ·rw[kw]at hq
  by_cases e:j=i
  ·subst e;simp at hov
  ·rw[if_neg e]at hq
   simp only[if_neg (Ne.symm e)]at hov
   exact h.f i q hq hov
structure OpI(o:List a8)(n:Nat)(b:Bd)(ov:Nat→Bool)(ops:List aq):Prop where
 a:OpA b.pcs ov ops (fun th=>((jx th b.tks).getD tk0).opn)
 l:∀th,(jx th b.tks=none∧∀(k:Nat) e,k<n→o[k]? = some e→e.j8.q6≠th)∨∃(r:Nat) (t:Tk) (e:a8),jx th b.tks=some t∧r<n∧o[r]? = some e∧e.j8.q6=th∧(∀(k:Nat) e',k<n→r<k→o[k]? = some e'→e'.j8.q6≠th)∧t.ex=w64 (e.j8.j3+1)∧t.la=bZ e.j7.w7
 len:b.pcs.length≤n
end Go.VM
namespace Go.VM
theorem jq(on:Int→List Nat)(th:Int):upd on th (on th)=on:=by
 funext t;unfold upd;split
 ·rename_i e;rw[e]
 ·rfl
theorem auj(on:Int→List Nat)(th:Int)(a b:List Nat):upd (upd on th a) th b=upd on th b:=by
 funext t;unfold upd;split<;>rfl
theorem TY(on:Int→List Nat)(th:Int)(a:List Nat):upd on th a th=a:=by unfold upd;rw[if_pos rfl]
theorem aQY{o:List a8}{n r:Nat}{y e:a8}(hO:Ord26 o)(hl:o.length≤60)(hy:o[n]? = some y)(he:o[r]? = some e)(hr:PrevR o n y.j8.q6 (r:Int)):Ok (lW o (n:Int)) (fun v=>v=y.j8.j3-e.j8.j3-1):=by
 unfold lW
 refine bz (aaV hy hl) (fun r' hr'=>?_)
 rw[hr'.uniq hr]
 have h1:=hO.ser n y hy
 have h2:=hO.ser r e he
 refine b6 (fun h=>by omega) (fun _=>?_)
 simp only[dW,hy,he,dk]
 rw[cj (n:=y.j8.j3-e.j8.j3) (by omega),cj (by omega)]
 exact aW rfl
theorem OpI.prev{o:List a8}{n:Nat}{b:Bd}{ov:Nat→Bool}{ops:List aq}(h:OpI o n b ov ops){y:a8}(hy:o[n]? = some y){r:Int}(hr:PrevR o n y.j8.q6 r) :
  (r = -1∧jx y.j8.q6 b.tks=none)∨∃(k:Nat) (t:Tk) (e:a8),r=(k:Int)∧jx y.j8.q6 b.tks=some t∧o[k]? = some e∧t.ex=w64 (e.j8.j3+1)∧t.la=bZ e.j7.w7:=by
 rcases h.l y.j8.q6 with⟨h1,h2⟩ | ⟨k,t,e,h1,h2,h3,h4,h5,h6,h7⟩
 ·refine .inl ⟨?_,h1⟩
  have:=hr.1
  by_cases g:0≤r
  ·obtain⟨e,he,ht⟩:=hr.2.2.2 r.toNat (by omega)
   exact absurd ht (h2 r.toNat e (by have:=hr.2.1;omega) he)
  ·omega
 ·refine .inr ⟨k,t,e,hr.uniq ⟨by omega,by omega,fun j e' h8 h9=>h5 j e' h8 (by omega),fun j hj=>?_⟩,h1,h3,h6,h7⟩
  have:j=k:=by omega
  subst this
  exact⟨e,h3,h4⟩
theorem aBQ{o:List a8}(hl:o.length≤60)(hO:Ord26 o){n:Nat}{b:Bd}{ov:Nat→Bool}{ops:List aq}(h:OpI o n b ov ops){y:a8}(hy:o[n]? = some y) :
  Ok (gK o (ops,(n:Int))) (xK (fun s=>s.2=((n+1:Nat):Int)∧∃ov',OpI o (n+1) (gW b (o9 y)) ov' s.1) (fun _=>False)):=by
 have hn:=oW hy
 have hlen:=h.a.r.len
 have hbl:=h.len
 unfold gK
 dsimp only
 refine b6 (fun _=>?_) (fun h0=>by omega)
 simp only[dW,hy,dk]
 generalize hon:(fun th=>((jx th b.tks).getD tk0).opn)=on
 have hA:=h.a
 rw[hon]at hA
 generalize ht:(jx y.j8.q6 b.tks).getD tk0=t
 have hont:on y.j8.q6=t.opn:=by rw[←hon];simp only[ht]
 have hql:(qW b.pcs t y.j8.j3).1.length=b.pcs.length:=by
  unfold qW
  split
  ·rfl
  ·exact H5 ..
 generalize hq:qW b.pcs t y.j8.j3=q
 rw[hq]at hql
 refine bz (Q:=fun l=>∃ov',OpA (qK q.1 q.2 (o9 y)).1 ov' l (upd on y.j8.q6 (qK q.1 q.2 (o9 y)).2)∧(qK q.1 q.2 (o9 y)).1.length≤n+1) ?_ (fun l hl2=>?_)
 ·refine bz (aaV hy hl) (fun r hr=>?_)
  refine bz (Q:=fun v=>(v=true→q=(sV b.pcs t.opn t.la,[])∧∃(k:Nat) (e:a8),r=(k:Int)∧o[k]? = some e∧t.la=bZ e.j7.w7)∧(v=false→q=(b.pcs,t.opn))) ?_ (fun v hv=>?_)
  ·rcases h.prev hy hr with⟨rfl,h1⟩ | ⟨k,t',e,rfl,h1,h2,h3,h4⟩
   ·refine b6 (fun h0=>by omega) (fun _=>aW ⟨fun e=>(by cases e),fun _=>?_⟩)
    rw[h1]at ht
    subst ht
    rw[←hq]
    unfold qW
    split<;>rfl
   ·rw[h1]at ht
    have ht:t'=t:=ht
    subst ht
    refine b6 (fun _=>?_) (fun h0=>by omega)
    refine bz (aQY hO hl hy h2 hr) (fun v hv=>aW ?_)
    have k1:=hO.inc n k y e hy hr h2
    have k2:=hO.ser k e h2
    rw[cj (by omega)]at h3
    rw[hv]
    refine⟨fun e0=>⟨?_,k,e,rfl,h2,h4⟩,fun e0=>?_⟩
    ·have:=of_decide_eq_true e0
     rw[←hq]
     unfold qW
     rw[if_neg (by omega)]
    ·have:=of_decide_eq_false e0
     rw[←hq]
     unfold qW
     rw[if_pos (by omega)]
  ·refine bz (Q:=fun l=>∃ov',OpA q.1 ov' l (upd on y.j8.q6 q.2)) ?_ (fun l hl3=>?_)
   ·refine lz (fun e0=>?_) (fun e0=>aW ⟨ov,?_⟩)
    ·obtain⟨k1,k,e,rfl,k2,k3⟩:=hv.1 e0
     simp only[dW,k2,dk,OV]
     refine bz (asq hA.r (hA.c y.j8.q6) (by omega) _) (fun l hr2=>aW ⟨fun i=>ov i||decide (i∈t.opn),?_⟩)
     have:=hA.fin y.j8.q6 _ hr2
     rw[hont,←k3]at this
     rw[k1]
     exact this
    ·rw[hv.2 e0]
     have:upd on y.j8.q6 t.opn=on:=by rw[←hont];exact jq ..
     simp only[this]
     exact hA
   ·obtain⟨ov1,hA1⟩:=hl3
    have hl1:=hA1.r.len
    have hin:=HY hA1.r (hA1.c y.j8.q6) (by omega)
    rw[TY]at hin
    rw[hin,dk]
    by_cases hk:y.j4.j9=1
    ·have e1:qK q.1 q.2 (o9 y)=(q.1++[⟨y.j8.q6,y.j4.z5,bZ y.j7.w7,0,false,kY q.2⟩],q.2++[q.1.length]):=by
      unfold qK;rw[if_pos (show(o9 y).kd=1 from hk)];rfl
     have hp:=hA1.push ⟨y.j8.q6,y.j4.z5,bZ y.j7.w7,0,false,kY q.2⟩ rfl
     simp only[auj,TY]at hp
     rw[hk,decide_eq_true rfl,cond_true,OV,dk,Q7 (by simp;omega) (by simp;omega),cond_true,dk]
     simp only[show decide ((1:Int)=2)=false from rfl,cond_false,dk]
     rw[e1]
     exact aW ⟨_,hp,by simp;omega⟩
    ·rw[xw hk,cond_false,dk]
     by_cases hk2:y.j4.j9=2
     ·rw[hk2,decide_eq_true rfl,cond_true,dk]
      cases hg:q.2.getLast? with
      | none =>
       rw[show kY q.2 = -1 by unfold kY;rw[hg],show decide ((0:Int)≤-1)=false from rfl,cond_false]
       have e1:qK q.1 q.2 (o9 y)=(q.1,q.2):=by
        unfold qK;rw[if_neg (show ¬(o9 y).kd=1 from hk),if_pos (show(o9 y).kd=2 from hk2),hg]
       rw[e1]
       exact aW ⟨_,hA1,by show q.1.length≤_;omega⟩
      | some j =>
       rw[CQ hg,decide_eq_true (by omega),cond_true,OV,dk]
       have hj:j∈upd on y.j8.q6 q.2 y.j8.q6:=by rw[TY];exact List.mem_of_getLast? hg
       obtain⟨p,hp,hpt⟩:=(hA1.c _).inn j hj
       have hjl:=(bw.1 hp).1
       have hov:=(hA1.c _).ov j p hp hpt
       rw[decide_eq_true hj]at hov
       have hop:=hA1.f j p hp hov
       have hyj:=hA1.r j
       rw[hp]at hyj
       have e1:qK q.1 q.2 (o9 y)=(q.1.set j {p with to:=bZ y.j7.w7,op:=false},q.2.dropLast):=by
        unfold qK;rw[if_neg (show ¬(o9 y).kd=1 from hk),if_pos (show(o9 y).kd=2 from hk2),hg]
        show(D5 q.1 j (bZ y.j7.w7) false,_)=_
        rw[agZ hp]
       have hpp:=hA1.pop (th:=y.j8.q6) (by rw[TY];exact hg) hp {p with to:=bZ y.j7.w7,op:=false} rfl
       rw[auj,TY]at hpp
       have hs1:∀(l:List aq) (z:aq),j<l.length→(l.set j z)[j]? = some z:=fun l z hl=>by rw[kw,if_pos rfl,if_pos hl]
       simp only[dW,hyj,qw,dk,Int.toNat_natCast]
       rw[hs1 _ _ (by omega),dk]
       simp only[oF,List.set_set,hop]
       rw[e1]
       exact aW ⟨_,hpp,by rw[List.length_set];omega⟩
     ·rw[xw hk2,cond_false,dk,cond_false]
      have e1:qK q.1 q.2 (o9 y)=(q.1,q.2):=by
       unfold qK;rw[if_neg (show ¬(o9 y).kd=1 from hk),if_neg (show ¬(o9 y).kd=2 from hk2)]
      rw[e1]
      exact aW ⟨_,hA1,by show q.1.length≤_;omega⟩
 ·obtain⟨ov2,hA2,hl3⟩:=hl2
  refine iJ ⟨C7 (n:=o.length) hn (by omega),ov2,?_⟩
  have e1:gW b (o9 y)=⟨(qK q.1 q.2 (o9 y)).1,iq y.j8.q6 ⟨(qK q.1 q.2 (o9 y)).2,w64 (y.j8.j3+1),bZ y.j7.w7⟩ b.tks⟩:=by
   rw[←hq,←ht];rfl
  rw[e1]
  refine⟨?_,fun th=>?_,hl3⟩
  ·refine cast (congrArg (OpA _ ov2 l) ?_) hA2
   funext th
   simp only[c8]
   unfold upd
   split
   ·rfl
   ·rw[←hon]
  ·simp only[c8]
   by_cases e:y.j8.q6=th
   ·rw[if_pos e]
    exact .inr ⟨n,_,y,rfl,by omega,hy,e,fun k e' h1 h2=>by omega,rfl,rfl⟩
   ·rw[if_neg e]
    have new:∀(k:Nat) e',k<n+1→¬k<n→o[k]? = some e'→e'.j8.q6≠th:=fun k e' h1 h2 h3=>by
     have:k=n:=by omega
     subst this
     rw[hy]at h3;cases h3;exact e
    rcases h.l th with⟨h1,h2⟩ | ⟨r,t',e',h1,h2,h3,h4,h5,h6⟩
    ·refine .inl ⟨h1,fun k e' h3 h4=>?_⟩
     by_cases g:k<n
     ·exact h2 k e' g h4
     ·exact new k e' h3 g h4
    ·refine .inr ⟨r,t',e',h1,by omega,h3,h4,fun k e2 h7 h8 h9=>?_,h6⟩
     by_cases g:k<n
     ·exact h5 k e2 g h8 h9
     ·exact new k e2 h7 g h9
theorem aDz{o:List a8}(hl:o.length≤60)(hO:Ord26 o):Ok (loop (gK o) ([],0)) (fun ops=>∃ov,OpI o o.length ((o.map o9).foldl gW ⟨[],[]⟩) ov ops):=by
 refine Dj o.length (fun(s:List aq) n=>∃ov,OpI o n (((o.take n).map o9).foldl gW ⟨[],[]⟩) ov s) (by omega) ⟨fun _=>true,⟨fun i=>by simp,fun th=>⟨fun i p h=>by simp at h,fun i h=>?_,?_⟩,fun i p h=>by simp at h⟩,fun th=>.inl ⟨rfl,fun k e h=>by omega⟩,mw _⟩ (fun s i hI h2=>?_)
 ·exact absurd h (by show i∉([]:List Nat);simp)
 ·show([]:List Nat).Pairwise _
  exact List.Pairwise.nil
 ·obtain⟨ov,hI⟩:=hI
  by_cases hi:i<o.length
  ·have hy:o[i]? = some o[i]:=cw hi
   refine(aBQ hl hO hI hy).mono ?_
   rintro (s' | r) hs
   ·obtain⟨h3,ov',h4⟩:=hs
    refine⟨hi,h3,ov',?_⟩
    rw[List.take_succ_eq_append_getElem hi,List.map_append,List.foldl_append]
    exact h4
   ·exact(hs:False).elim
  ·have e:i=o.length:=by omega
   subst e
   rw[List.take_length]at hI
   unfold gK
   dsimp only
   exact b6 (fun h=>by omega) (fun _=>f6 ⟨ov,hI⟩)
end Go.VM
namespace Go.VM
theorem alx:∀(o:List EvS) (e:Int),DW o e=e∨∃x∈o,DW o e=bZ x.lo
 | [],e=>.inl rfl
 | y::o,e=>by
  have e0:DW (y::o) e=DW o (max e (bZ y.lo)):=rfl
  rw[e0]
  rcases alx o (max e (bZ y.lo))with h | ⟨x,hx,h⟩
  ·by_cases g:bZ y.lo≤e
   ·exact .inl (by omega)
   ·exact .inr ⟨y,zk,by omega⟩
  ·exact .inr ⟨x,Aw _ hx,h⟩
theorem aTW{o:List a8}(hO:Ord26 o)(hl:o.length≤60)(h0:0<o.length)(e:Int):Ok (nj o e) (fun r=>r=bZ (DW (o.map o9) e)):=by
 obtain⟨z,hz⟩ : ∃z,o[o.length-1]? = some z:=⟨_,cw (by omega)⟩
 have hi:idx o (((o.length:Int))-1)=some z:=by
  rw[show(o.length:Int)-1=((o.length-1:Nat):Int)by omega,dW];exact hz
 obtain⟨k1,k2⟩:=aaK (o.map o9) e
 have k3:=alx (o.map o9) e
 have h1:=k2 (o9 z) (List.mem_map_of_mem (nw hz))
 have h2:∀x∈o.map o9,bZ x.lo≤bZ z.j7.w7:=fun x hx=>by
  obtain⟨m,hm⟩:=List.getElem?_of_mem hx
  rw[jw]at hm
  obtain⟨w,hw,rfl⟩:=aw.1 hm
  have hml:=oW hw
  have hp:=List.pairwise_iff_getElem.1 hO.pair
  by_cases g:m=o.length-1
  ·subst g;rw[hz]at hw;cases hw;exact Int.le_refl _
  ·have:=hp m (o.length-1) (by simp;omega) (by simp;omega) (by omega)
   simp only[List.getElem_map]at this
   rw[cw hml]at hw
   rw[cw (by omega)]at hz
   rw[←Option.some.inj hw,←Option.some.inj hz]
   exact this
 have h3:=(wx z.j7.w7).1
 have h4:DW (o.map o9) e=max e (bZ z.j7.w7):=by
  have h1:bZ z.j7.w7≤_:=h1
  rcases k3 with h | ⟨x,hx,h⟩
  ·omega
  ·have:=h2 x hx
   omega
 unfold nj
 rw[decide_eq_true (by omega),cond_true,cj (by omega),hi]
 simp only[dk,OV]
 rw[h4]
 refine bz (Q:=fun v=>v=max e (bZ z.j7.w7)) ?_ (fun v hv=>?_)
 ·exact b6 (fun g=>aW (by omega)) (fun g=>aW (by omega))
 ·subst hv
  have e1:∀a:Int,bZ a=min (max a 0) 1000000000000:=fun _=>rfl
  rw[e1 (max e _)]
  exact b6 (fun g=>aW (by omega)) (fun g=>aW (by omega))
theorem aTJ:kW=i8:=rfl
structure ClI(pcs:List Pc)(on0:Int→List Nat)(E:Int)(n:Nat)(ops:List aq)(pk:List Pc)(ov:Nat→Bool)(on:Int→List Nat):Prop where
 a:OpA pk ov ops on
 g:∀k:Nat,pk[k]? = (pcs[k]?).map fun p=>if k∈on0 p.th∧k∉on p.th then {p with to:=E,op:=true} else p
 d:∀(m:Nat) p,m<n→pk[m]? = some p→on p.th=[]
 o:∀th,on th=on0 th∨on th=[]
theorem aNq{o:List a8}(hl:o.length≤60)(hO:Ord26 o)(e:Int):Ok (kJ o e) (fun ops=>∃ov,OpR (lZ ((o.map o9).foldl gW ⟨[],[]⟩) (bZ (DW (o.map o9) e))) ov ops):=by
 unfold kJ
 refine bz (aDz hl hO) (fun ops hops=>?_)
 obtain⟨ov0,hI⟩:=hops
 have hkeys:=JW (o.map o9) ⟨[],[]⟩ List.nodup_nil
 generalize hb:(o.map o9).foldl gW ⟨[],[]⟩=b at hI hkeys ⊢
 generalize hE:bZ (DW (o.map o9) e)=E
 generalize hon:(fun th=>((jx th b.tks).getD tk0).opn)=on0 at hI
 have hA:=hI.a
 rw[hon]at hA
 have hbl:=hI.len
 have hlen:=hA.r.len
 refine bz (Dj ops.length (fun(s:List aq) n=>∃pk ov on,ClI b.pcs on0 E n s pk ov on) (Post:=fun ops=>∃ov,OpR (lZ b E) ov ops) (by omega) ⟨b.pcs,ov0,on0,hA,fun k=>?_,fun m p h=>by omega,fun th=>.inl rfl⟩ (fun s i hs h2=>?_)) (fun r hr=>aW hr)
 ·cases h:b.pcs[k]? with
  | none=>rfl
  | some p=>rw[qw,if_neg (fun h=>h.2 h.1)]
 ·obtain⟨pk,ov,on,h⟩:=hs
  have hpk:pk.length=b.pcs.length:=by
   have h1:=h.g pk.length
   have h2:=h.g b.pcs.length
   rw[vw (mw pk.length)]at h1
   rw[vw (mw b.pcs.length)]at h2
   have h3:=List.getElem?_eq_none_iff.1 (Option.map_eq_none_iff.1 h1.symm)
   have h4:=List.getElem?_eq_none_iff.1 h2
   omega
  have hsl:=h.a.r.len
  unfold oJ
  dsimp only
  refine b6 (fun hi=>?_) (fun hi=>f6 ⟨ov,?_⟩)
  ·obtain⟨p,hp⟩ : ∃p,pk[i]? = some p:=⟨_,cw (by omega)⟩
   have hy:=h.a.r i
   rw[hp]at hy
   simp only[dW,hy,qw,dk]
   refine bz (aTW hO hl (by omega) e) (fun r hr=>?_)
   rw[hr,hE,aTJ]
   refine bz (asq h.a.r (h.a.c p.th) (by omega) E) (fun s' hs'=>iJ ⟨by omega,C7 (n:=ops.length) (by omega) (by omega),?_⟩)
   have hA':=h.a.fin p.th E hs'
   refine⟨_,_,_,hA',fun k=>?_,fun m q hm hq=>?_,fun th=>?_⟩
   ·rw[tZ,h.g k,Option.map_map]
    cases hk:b.pcs[k]? with
    | none=>rfl
    | some q =>
     simp only[qw,Function.comp]
     have hq:pk[k]? = some (if k∈on0 q.th∧k∉on q.th then {q with to:=E,op:=true} else q):=by rw[h.g k,hk];rfl
     have hth:(if k∈on0 q.th∧k∉on q.th then({q with to:=E,op:=true}:Pc)else q).th=q.th:=by split<;>rfl
     congr 1
     by_cases g:k∈on p.th
     ·have g2:=(hth.symm.trans (h.a.off hq g))
      have g3:k∈on q.th:=by rw[g2];exact g
      have g4:k∈on0 q.th:=(h.o q.th).elim (fun e=>e▸g3) (fun e=>by rw[e]at g3;simp at g3)
      rw[if_pos g,if_neg (fun h=>h.2 g3),if_pos ⟨g4,by unfold upd;rw[if_pos g2.symm];simp⟩]
     ·rw[if_neg g]
      unfold upd
      by_cases g2:p.th=q.th
      ·rw[if_pos g2]
       have g3:k∉on q.th:=by rw[←g2];exact g
       simp[g3]
      ·rw[if_neg g2]
   ·obtain⟨q0,h0,e1⟩ : ∃q0,pk[m]? = some q0∧q.th=q0.th:=by
     rw[tZ]at hq
     obtain⟨q0,h0,rfl⟩:=aw.1 hq
     exact⟨q0,h0,by split<;>rfl⟩
    unfold upd
    split
    ·rfl
    ·rename_i g
     rw[e1]
     by_cases e2:m=i
     ·subst e2
      rw[hp]at h0;cases h0
      exact absurd e1.symm g
     ·exact h.d m q0 (by omega) h0
   ·unfold upd
    split
    ·exact .inr rfl
    ·exact h.o th
  ·have e1:pk=lZ b E:=by
    apply List.ext_getElem?
    intro k
    unfold lZ
    rw[h.g k,xQ]
    cases hk:b.pcs[k]? with
    | none=>rfl
    | some q =>
     simp only[qw]
     have hq:pk[k]? = some (if k∈on0 q.th∧k∉on q.th then {q with to:=E,op:=true} else q):=by rw[h.g k,hk];rfl
     have hth:(if k∈on0 q.th∧k∉on q.th then({q with to:=E,op:=true}:Pc)else q).th=q.th:=by split<;>rfl
     have hd:=h.d k _ (by have:=(bw.1 hq).1;omega) hq
     rw[hth]at hd
     have hiff:(k∈on0 q.th∧k∉on q.th)↔∃t∈b.tks,k∈t.2.opn:=by
      rw[hd]
      constructor
      ·rintro⟨g,_⟩
       rw[←hon]at g
       simp only at g
       cases ht:jx q.th b.tks with
       | none=>rw[ht]at g;exact absurd g (by show k∉([]:List Nat);simp)
       | some t=>rw[ht]at g;exact⟨_,V9 ht,g⟩
      ·rintro⟨t,ht,g⟩
       have h1:=hkeys.at ht
       have h2:k∈on0 t.1:=by rw[←hon];simp only[h1];exact g
       rw[hA.off hk h2]
       exact⟨h2,by simp⟩
     simp only[hiff]
   rw[←e1]
   exact h.a.r
end Go.VM
namespace Go.VM
def Vx(pcs:List Pc)(i j:Nat):Bool:=decide (HQ (Fq pcs i)<HQ (Fq pcs j))||(decide (HQ (Fq pcs i)=HQ (Fq pcs j))&&decide (i<j))
theorem TZ(pcs:List Pc)(i j:Nat):Vx pcs i j=true↔Ord pcs i j:=by
 unfold Vx Ord
 simp
theorem UX{R:Nat→Nat→Bool}(has:∀a b,R a b=true→R b a=false):∀(K:List Nat) (m i:Nat),K.Pairwise (fun a b=>R a b=true)→K[m]? = some i→(K.filter fun k=>R k i).length=m
 | [],m,i,_,h=>by simp at h
 | a::K,0,i,hp,h=>by
  have h:a=i:=by simpa using h
  subst h
  have haa:R a a=false:=by
   cases e:R a a with
   | false=>rfl
   | true=>rw[has a a e]at e;cases e
  rw[List.filter_cons_of_neg (by simp[haa])]
  rw[List.length_eq_zero_iff,List.filter_eq_nil_iff]
  intro b hb
  rw[has a b ((List.pairwise_cons.1 hp).1 b hb)];simp
 | a::K,m+1,i,hp,h=>by
  have h:K[m]? = some i:=by simpa using h
  rw[List.filter_cons_of_pos (p:=fun k=>R k i) ((List.pairwise_cons.1 hp).1 i (nw h)),uw,UX has K m i (List.pairwise_cons.1 hp).2 h]
theorem alZ{x y:Pc}{a b:Bool}(hx:0≤x.fr∧x.fr≤1000000000000∧0≤x.to∧x.to≤1000000000000∧0≤x.th∧x.th≤1000000000000000)(hy:0≤y.fr∧y.fr≤1000000000000∧0≤y.to∧y.to≤1000000000000∧0≤y.th∧y.th≤1000000000000000) :
  Ok (c4 (oF x a).q7 (oF y b).q7) (fun v=>v=decide (HQ x<HQ y)):=by
 unfold c4 HQ oF
 dsimp only
 refine lQ (fun h=>aW ?_) (fun h=>lQ (fun h2=>aW ?_) (fun h2=>aW ?_))<;>rw[decide_eq_decide]<;>omega
def PlR(pcs:List Pc)(K:List Nat)(pl:List Int):Prop:=∀(i:Nat) p,pcs[i]? = some p→∃v,pl[i]? = some v∧((p.fr=p.to∧v = -1)∨(p.fr<p.to∧∃m:Nat,v=(m:Int)∧K[m]? = some i))
def KY(pcs:List Pc)(k:Nat):Bool:=match pcs[k]? with
 | some p=>decide (p.fr<p.to)
 | none=>false
theorem ahQ{pcs:List Pc}{k:Nat}{p:Pc}(h:pcs[k]? = some p):KY pcs k=decide (p.fr<p.to):=by unfold KY;rw[h]
theorem SK(f:Nat→Bool)(n:Nat):((List.range (n+1)).filter f).length=((List.range n).filter f).length+if f n then 1 else 0:=by
 rw[List.range_succ,List.filter_append,dw]
 congr 1
 cases h:f n<;>simp[h]
theorem aJX{o:List EvS}{pcs:List Pc}{K:List Nat}{out:List Sl8}(hF:OutF o pcs K out){ov:Nat→Bool}{ops:List aq}(h:OpR pcs ov ops)(hl:pcs.length≤60){i:Nat}{p:Pc}(hp:pcs[i]? = some p) :
  Ok (loop (kz ops (i:Int)) (0,0)) (fun r=>∀m:Nat,K[m]? = some i→r=(m:Int)):=by
 have hlen:=h.len
 have hi:=(bw.1 hp).1
 refine Dj ops.length (fun(c:Int) n=>c=(((List.range n).filter fun k=>KY pcs k&&Vx pcs k i).length:Int)) (by omega) rfl (fun c n hI h2=>?_)
 unfold kz
 dsimp only
 refine b6 (fun hn=>?_) (fun hn=>f6 fun m hm=>?_)
 ·obtain⟨q,hq⟩ : ∃q,pcs[n]? = some q:=⟨_,cw (by omega)⟩
  have hyn:=h n
  have hyi:=h i
  rw[hq]at hyn
  rw[hp]at hyi
  simp only[dW,hyn,hyi,qw,dk]
  refine bz (Q:=fun c=>c=(((List.range (n+1)).filter fun k=>KY pcs k&&Vx pcs k i).length:Int)) ?_ (fun v hv=>iJ ⟨by omega,C7 (n:=ops.length) (by omega) (by omega),hv⟩)
  have hle:((List.range n).filter fun k=>KY pcs k&&Vx pcs k i).length≤n:=Nat.le_trans (List.length_filter_le ..) (by rw[List.length_range];exact mw _)
  rw[SK]
  refine bz (Q:=fun v=>v=(KY pcs n&&Vx pcs n i)) ?_ (fun v hv=>?_)
  ·rw[ahQ hq]
   unfold Vx
   rw[uY hq,uY hp]
   unfold i6
   rw[dk]
   refine lQ (fun h3=>?_) (fun h3=>aW ?_)
   ·have h3 : ¬q.to≤q.fr:=h3
    refine bz (alZ (hF.sml n q hq) (hF.sml i p hp)) (fun v hv=>?_)
    rw[decide_eq_true (by omega:q.fr<q.to),Bool.true_and]
    refine lz (fun e=>aW ?_) (fun e=>?_)
    ·rw[←hv,e];rfl
    ·rw[hv]at e
     have e:=of_decide_eq_false e
     rw[xw e,Bool.false_or]
     refine b6 (fun h4=>?_) (fun h4=>aW ?_)
     ·refine bz (alZ (hF.sml i p hp) (hF.sml n q hq)) (fun v hv=>aW ?_)
      rw[hv,decide_eq_true (by omega:n<i),Bool.and_true,←decide_not,decide_eq_decide]
      omega
     ·rw[xw (by omega : ¬n<i),Bool.and_false]
   ·have h3:q.to≤q.fr:=h3
    rw[xw (by omega)];rfl
  ·rw[←hv]
   refine lz (fun e=>aW ?_) (fun e=>aW ?_)
   ·rw[hI,e,cj (by omega)];simp
   ·rw[hI,e];simp
 ·have e:n=pcs.length:=by omega
  rw[hI,e]
  have h5:(List.range pcs.length).filter (fun k=>KY pcs k&&Vx pcs k i)=(n4 pcs).filter fun k=>Vx pcs k i:=by
   unfold n4
   rw[List.filter_filter]
   congr 1
   funext k
   rw[Bool.and_comm]
   rfl
  rw[h5,←(hF.perm.filter _).length_eq]
  have:=UX (R:=Vx pcs) (fun a b h=>by
   cases e:Vx pcs b a with
   | false=>rfl
   | true =>
    have h1:=(TZ pcs a b).1 h
    have h2:=(TZ pcs b a).1 e
    unfold Ord at h1 h2
    omega) K m i (hF.ord.imp fun h=>(TZ ..).2 h) hm
  rw[this]
theorem aCq{o:List EvS}{pcs:List Pc}{K:List Nat}{out:List Sl8}(hF:OutF o pcs K out){ov:Nat→Bool}{ops:List aq}(h:OpR pcs ov ops)(hl:pcs.length≤60) :
  Ok (jJ ops) (fun pl=>pl.length=pcs.length∧PlR pcs K pl):=by
 have hlen:=h.len
 unfold jJ
 refine bz (Dj ops.length (fun(l:List Int) n=>l.length=n∧∀(i:Nat) p,i<n→pcs[i]? = some p→∃v,l[i]? = some v∧((p.fr=p.to∧v = -1)∨(p.fr<p.to∧∃m:Nat,v=(m:Int)∧K[m]? = some i))) (Post:=fun pl=>pl.length=pcs.length∧PlR pcs K pl) (by omega) ⟨rfl,fun i p h=>by omega⟩ (fun l n hI h2=>?_)) (fun r hr=>aW hr)
 obtain⟨h3,h4⟩:=hI
 unfold n9
 dsimp only
 refine b6 (fun hn=>?_) (fun hn=>f6 ⟨by omega,fun i p hp=>h4 i p (by have:=(bw.1 hp).1;omega) hp⟩)
 obtain⟨q,hq⟩ : ∃q,pcs[n]? = some q:=⟨_,cw (by omega)⟩
 have hyn:=h n
 rw[hq]at hyn
 refine bz (aJX hF h hl hq) (fun c hc=>?_)
 simp only[dW,hyn,qw,dk]
 unfold i6
 rw[dk]
 have hle:=(hF.dn.fin n q hq).2
 refine bz (Q:=fun v=>(q.fr=q.to∧v = -1)∨(q.fr<q.to∧∃m:Nat,v=(m:Int)∧K[m]? = some n)) ?_ (fun v hv=>?_)
 ·refine b6 (fun h5=>aW (.inl ⟨?_,rfl⟩)) (fun h5=>aW (.inr ⟨?_,?_⟩))
  ·have h5:q.to≤q.fr:=h5
   omega
  ·have h5 : ¬q.to≤q.fr:=h5
   omega
  ·have h5 : ¬q.to≤q.fr:=h5
   have hk:n∈K:=hF.perm.mem_iff.2 (aVj.2 ⟨q,hq,by omega⟩)
   obtain⟨m,hm⟩:=List.getElem?_of_mem hk
   exact⟨m,hc m hm,hm⟩
 ·rw[Q7 (by simp;omega) (by simp;omega),cond_true]
  refine iJ ⟨by omega,C7 (n:=ops.length) (by omega) (by omega),by simp[h3],fun i p hi hp=>?_⟩
  by_cases g:i<n
  ·obtain⟨w,hw,h6⟩:=h4 i p g hp
   exact⟨w,by rw[lw (by omega)];exact hw,h6⟩
  ·have e:i=n:=by omega
   subst e
   rw[hq]at hp;cases hp
   exact⟨v,by rw[←h3];exact List.getElem?_concat_length,hv⟩
theorem aPJ{o:List EvS}{pcs:List Pc}{K:List Nat}{out:List Sl8}(hF:OutF o pcs K out){pl:List Int}(hl:pcs.length≤60)(hpl:pl.length=pcs.length)(h:PlR pcs K pl) :
  Ok (loop (nY pl) (0,0)) (fun r=>r=(K.length:Int)):=by
 refine Dj pl.length (fun(c:Int) n=>c=(((List.range n).filter (KY pcs)).length:Int)) (by omega) rfl (fun c n hI h2=>?_)
 unfold nY
 dsimp only
 refine b6 (fun hn=>?_) (fun hn=>f6 ?_)
 ·obtain⟨q,hq⟩ : ∃q,pcs[n]? = some q:=⟨_,cw (by omega)⟩
  obtain⟨v,hv,h3⟩:=h n q hq
  have hle:((List.range n).filter (KY pcs)).length≤n:=Nat.le_trans (List.length_filter_le ..) (by rw[List.length_range];exact mw _)
  rw[dW,hv,dk]
  refine bz (Q:=fun c=>c=(((List.range (n+1)).filter (KY pcs)).length:Int)) ?_ (fun v hv=>iJ ⟨by omega,C7 (n:=pl.length) (by omega) (by omega),hv⟩)
  rw[SK,ahQ hq]
  refine b6 (fun h4=>aW ?_) (fun h4=>aW ?_)
  ·rw[decide_eq_true (by omega),hI,cj (by omega)];simp
  ·rw[xw (by omega),hI];simp
 ·rw[hI,show n=pcs.length by omega,hF.perm.length_eq]
  rfl
end Go.VM
namespace Go.VM
theorem aIY{o:List EvS}{pcs:List Pc}{K:List Nat}(hd:Dn o pcs){ov:Nat→Bool}{ops:List aq}(h:OpR pcs ov ops)(hl:pcs.length≤60){pl:List Int}(hP:PlR pcs K pl){i:Nat}{p:Pc}(hp:pcs[i]? = some p){f:Nat}{r:Int}(hr:nV pcs f p.ar=some r) :
  Ok (loop (nJ ops pl) p.ar) (fun v=>v=r):=by
 have near:∀ {i:Nat} {p:Pc},pcs[i]? = some p→-1≤p.ar∧p.ar<i:=fun {i p} hp=>by
  rcases hd.up i p hp with h | ⟨j,q,h1,h2,_⟩<;>omega
 have hi:=(bw.1 hp).1
 have h0:=near hp
 refine nQ (fun a:Int=>-1≤a∧a<pcs.length∧∃f,nV pcs f a=some r) (fun a=>(a+1).toNat) (fun a ha=>?_) ⟨h0.1,by omega,f,hr⟩ (by simp[cV];omega)
 obtain⟨h1,h2,f,hf⟩:=ha
 unfold nJ
 cases f with
 | zero=>simp[nV]at hf
 | succ f =>
  unfold nV at hf
  by_cases g:0≤a
  ·rw[if_pos g]at hf
   obtain⟨k,rfl⟩ : ∃k:Nat,a=(k:Int):=⟨a.toNat,by omega⟩
   obtain⟨q,hq⟩ : ∃q,pcs[k]? = some q:=⟨_,cw (by omega)⟩
   obtain⟨v,hv,h3⟩:=hP k q hq
   have hy:=h k
   rw[hq]at hy
   simp only[dW,hq,hv,hy,qw,dk]at hf ⊢
   rw[decide_eq_true g,cond_true,dk]
   have h4:=near hq
   refine b6 (fun e=>iJ ⟨⟨h4.1,?_,f,?_⟩,?_⟩) (fun e=>f6 ?_)
   ·show q.ar<_
    omega
   ·rw[if_pos (by omega)]at hf
    exact hf
   ·show(q.ar+1).toNat<_
    omega
   ·rw[if_neg (by omega)]at hf
    exact Option.some.inj hf
  ·rw[if_neg g]at hf
   rw[xw g,cond_false,dk]
   exact f6 (Option.some.inj hf)
def z26(x:Sl8):az:=pQ {x with dep:=0,self:=0}
theorem OutF.lenK{o:List EvS}{pcs:List Pc}{K:List Nat}{out:List Sl8}(h:OutF o pcs K out):K.length≤pcs.length:=by
 rw[h.perm.length_eq]
 unfold n4
 exact Nat.le_trans (List.length_filter_le ..) (by rw[List.length_range];exact mw _)
theorem aRZ{o:List EvS}{pcs:List Pc}{K:List Nat}{out:List Sl8}(hF:OutF o pcs K out){ov:Nat→Bool}{ops:List aq}(h:OpR pcs ov ops)(hl:pcs.length≤60){pl:List Int}(hP:PlR pcs K pl)(l0:List az)(h0:l0.length=K.length) :
  Ok (loop (n5 ops pl) (l0,0)) (fun l=>l=out.map z26):=by
 have hlen:=h.len
 have hK:=hF.lenK
 have hol:=hF.len
 refine Dj ops.length (fun(l:List az) n=>l.length=K.length∧∀(m k:Nat) x,K[m]? = some k→k<n→out[m]? = some x→l[m]? = some (z26 x)) (by omega) ⟨h0,fun m k x _ h=>by omega⟩ (fun l n hI h2=>?_)
 obtain⟨h3,h4⟩:=hI
 unfold n5
 dsimp only
 refine b6 (fun hn=>?_) (fun hn=>f6 ?_)
 ·refine bz (Q:=fun l=>l.length=K.length∧∀(m k:Nat) x,K[m]? = some k→k<n+1→out[m]? = some x→l[m]? = some (z26 x)) ?_ (fun v hv=>iJ ⟨by omega,C7 (n:=ops.length) (by omega) (by omega),hv⟩)
  obtain⟨p,hp⟩ : ∃p,pcs[n]? = some p:=⟨_,cw (by omega)⟩
  obtain⟨v,hv,h5⟩:=hP n p hp
  have hy:=h n
  rw[hp]at hy
  simp only[dW,hv,hy,qw,dk]
  refine b6 (fun e=>aW ⟨h3,fun m k x hk hkn hx=>?_⟩) (fun e=>?_)
  ·have hne:k≠n:=fun e2=>by
    subst e2
    obtain⟨q,hq,hlt⟩:=aVj.1 (hF.perm.mem_iff.1 (nw hk))
    rw[hp]at hq;cases hq
    rcases h5 with⟨h6,_⟩ | ⟨_,m,h6,_⟩<;>omega
   exact h4 m k x hk (by omega) hx
  ·rcases h5 with⟨_,h6⟩ | ⟨_,m,rfl,hm⟩
   ·omega
   ·have hml:=(bw.1 hm).1
    obtain⟨x,hx⟩ : ∃x,out[m]? = some x:=⟨_,cw (by omega)⟩
    obtain⟨r,hr,h7⟩:=hF.j.par m n x p hm hx hp
    obtain⟨p',hp',e1,e2,e3,e4,e5⟩:=hF.ofp m n x hm hx
    rw[hp]at hp';cases hp'
    refine bz (aIY hF.dn h hl hP hp hr) (fun c hc=>?_)
    subst hc
    refine bz (Q:=fun v=>v=x.par) ?_ (fun w hw=>?_)
    ·rcases h7 with⟨h8,h9,_⟩ | ⟨m',k',y,_,h8,h9,_,h10,_⟩
     ·rw[h8,h9];exact aW rfl
     ·obtain⟨q',hq',hlt⟩:=aVj.1 (hF.perm.mem_iff.1 (nw h9))
      obtain⟨w,hw,h11⟩:=hP k' q' hq'
      rw[h8,decide_eq_true (by omega),cond_true,dW,hw,h10]
      refine aW ?_
      rcases h11 with⟨h12,_⟩ | ⟨_,m2,rfl,h12⟩
      ·omega
      ·rw[hF.nodup h12 h9]
    ·subst hw
     obtain⟨z,hz⟩ : ∃z,l[m]? = some z:=⟨_,cw (by omega)⟩
     rw[dW,hz,dk,Int.toNat_natCast]
     refine aW ⟨by rw[List.length_set];exact h3,fun m2 k x2 hk hkn hx2=>?_⟩
     rw[kw]
     by_cases g:m=m2
     ·subst g
      rw[hm]at hk;cases hk
      rw[hx]at hx2;cases hx2
      rw[if_pos rfl,if_pos (by omega)]
      unfold z26 pQ oF
      simp only[e1,e2,e3,e4,e5]
     ·rw[if_neg g]
      refine h4 m2 k x2 hk ?_ hx2
      have:k≠n:=fun e6=>by subst e6;exact g (hF.nodup hm hk)
      omega
 ·apply List.ext_getElem?
  intro m
  rw[jw]
  cases hx:out[m]? with
  | none =>
   rw[List.getElem?_eq_none_iff]at hx
   rw[vw (by omega)];rfl
  | some x =>
   have hml:=(bw.1 hx).1
   obtain⟨k,hk⟩ : ∃k,K[m]? = some k:=⟨_,cw (by omega)⟩
   obtain⟨q',hq',_⟩:=aVj.1 (hF.perm.mem_iff.1 (nw hk))
   exact h4 m k x hk (by have:=(bw.1 hq').1;omega) hx
def KQ(out:List Sl8)(n m:Nat)(x:Sl8):az:=if m<n then pQ {x with self:=BW out m (w64 (x.to-x.fr)) n} else z26 x
theorem aoW{o:List EvS}{pcs:List Pc}{K:List Nat}{out:List Sl8}(hF:OutF o pcs K out)(hl:out.length≤60) :
  Ok (i7 (out.map z26)) (fun l=>l=out.map pQ):=by
 unfold i7
 rw[List.length_nil,ew,Q7 (by omega) (by omega),cond_true,List.nil_append]
 have up:∀ {n:Nat} {x:Sl8},out[n]? = some x→(x.par = -1∧x.dep=0)∨∃(m:Nat) (y:Sl8),m<n∧x.par=(m:Int)∧out[m]? = some y∧x.dep=w64 (y.dep+1):=fun hx=>by
  rcases hF.nest hx with h | ⟨m,y,h1,h2,h3,_,_,_,h4⟩
  ·exact .inl h
  ·exact .inr ⟨m,y,h1,h2,h3,h4⟩
 refine bz (Dj out.length (fun(l:List az) n=>l.length=out.length∧∀(m:Nat) x,out[m]? = some x→l[m]? = some (KQ out n m x)) (Post:=fun l=>l=out.map pQ) (by omega) ⟨by simp,fun m x hx=>by rw[jw,hx];rfl⟩ (fun l n hI h2=>?_)) (fun r hr=>aW hr)
 obtain⟨h3,h4⟩:=hI
 unfold m7
 dsimp only
 refine b6 (fun hn=>?_) (fun hn=>f6 ?_)
 ·refine bz (Q:=fun l=>l.length=out.length∧∀(m:Nat) x,out[m]? = some x→l[m]? = some (KQ out (n+1) m x)) ?_ (fun v hv=>iJ ⟨by omega,C7 (n:=out.length) (by omega) (by omega),hv⟩)
  obtain⟨x,hx⟩ : ∃x,out[n]? = some x:=⟨_,cw (by omega)⟩
  have hy:=h4 n x hx
  unfold KQ at hy
  rw[if_neg (Nat.lt_irrefl n)]at hy
  have hs1:∀(l:List az) (z:az),n<l.length→(l.set n z)[n]? = some z:=fun l z hl=>by rw[kw,if_pos rfl,if_pos hl]
  have hs2:∀(l:List az) (z:az) (m:Nat),n≠m→(l.set n z)[m]? = l[m]?:=fun l z m hm=>by rw[kw,if_neg hm]
  have own:BW out n (w64 (x.to-x.fr)) (n+1)=w64 (x.to-x.fr):=PJ _ fun c y hc hy=>by
   rcases up hy with⟨h,_⟩ | ⟨m,_,h1,h,_⟩<;>omega
  have oth:∀m s0,x.par≠((m:Nat):Int)→BW out m s0 (n+1)=BW out m s0 n:=fun m s0 hne=>by
   simp only[BW,hx,if_neg hne]
  simp only[dW,hy,dk,Int.toNat_natCast]
  rw[hs1 _ _ (by omega)]
  simp only[dk,List.set_set]
  rw[hs1 _ _ (by omega)]
  simp only[dk,List.set_set]
  rcases up hx with⟨hp,hd⟩ | ⟨m',y,hm',hp,hym,hd⟩
  ·rw[show decide ((0:Int)≤(z26 x).q8)=false by show decide ((0:Int)≤x.par)=false;rw[hp];rfl,cond_false]
   refine aW ⟨by rw[List.length_set];exact h3,fun m w hw=>?_⟩
   by_cases g:n=m
   ·subst g
    rw[hx]at hw;cases hw
    rw[hs1 _ _ (by omega)]
    unfold KQ z26 pQ
    rw[if_pos (by omega),own,hd]
   ·rw[hs2 _ _ _ g,h4 m w hw]
    unfold KQ
    rw[oth m _ (by omega)]
    by_cases g2:m<n
    ·rw[if_pos g2,if_pos (by omega)]
    ·rw[if_neg g2,if_neg (by omega)]
  ·have hyl:=h4 m' y hym
   unfold KQ at hyl
   rw[if_pos hm']at hyl
   rw[show decide ((0:Int)≤(z26 x).q8)=true by show decide ((0:Int)≤x.par)=true;rw[hp];exact decide_eq_true (by omega),cond_true]
   have hpar:(z26 x).q8=(m':Int):=hp
   simp only[hpar,dW,Int.toNat_natCast]
   rw[hs2 _ _ m' (by omega),hyl]
   simp only[dk,List.set_set]
   rw[hs1 _ _ (by omega)]
   simp only[dk,List.set_set]
   rw[hs2 _ _ m' (by omega),hyl]
   simp only[dk]
   refine aW ⟨by rw[List.length_set,List.length_set];exact h3,fun m w hw=>?_⟩
   by_cases g:m'=m
   ·subst g
    rw[hym]at hw;cases hw
    rw[kw,if_pos rfl,if_pos (by rw[List.length_set];omega)]
    unfold KQ z26 pQ
    rw[if_pos (by omega)]
    simp only[BW,hx,if_pos hp]
   ·rw[kw,if_neg g]
    by_cases g1:n=m
    ·subst g1
     rw[hx]at hw;cases hw
     rw[hs1 _ _ (by omega)]
     unfold KQ z26 pQ
     rw[if_pos (by omega),own]
     simp only[hd,hp]
    ·rw[hs2 _ _ _ g1,h4 m w hw]
     unfold KQ
     rw[oth m _ (by omega)]
     by_cases g2:m<n
     ·rw[if_pos g2,if_pos (by omega)]
     ·rw[if_neg g2,if_neg (by omega)]
 ·apply List.ext_getElem?
  intro m
  rw[jw]
  cases hx:out[m]? with
  | none =>
   rw[List.getElem?_eq_none_iff]at hx
   rw[vw (by omega)];rfl
  | some x =>
   have hml:=(bw.1 hx).1
   rw[h4 m x hx]
   unfold KQ
   rw[if_pos (by omega),show n=out.length by omega,←hF.j.self m x hx]
   rfl
theorem aWq{o:List a8}(hl:o.length≤60)(hO:Ord26 o)(e:Int){pcs:List Pc}{K:List Nat}{out:List Sl8}(hpcs:pcs=lZ ((o.map o9).foldl gW ⟨[],[]⟩) (bZ (DW (o.map o9) e)))(hF:OutF (o.map o9) pcs K out) :
  Ok (n7 o e) (fun l=>l=out.map pQ):=by
 have hpl:pcs.length≤60:=by
  rw[hF.dn.cnt]
  exact Nat.le_trans (List.length_filter_le ..) (by rw[ew];exact hl)
 have hol:=hF.len
 have hK:=hF.lenK
 unfold n7
 refine bz (aNq hl hO e) (fun ops hops=>?_)
 rw[←hpcs]at hops
 obtain⟨ov,hR⟩:=hops
 refine bz (aCq hF hR hpl) (fun pl hpl2=>?_)
 obtain⟨h1,h2⟩:=hpl2
 refine bz (aPJ hF hpl h1 h2) (fun c hc=>?_)
 rw[hc,show mkB 72 (K.length:Int)=true by unfold mkB;exact decide_eq_true (by omega),cond_true,Int.toNat_natCast]
 refine bz (aRZ hF hR hpl h2 _ (by rw[List.length_replicate])) (fun l hl2=>?_)
 rw[hl2]
 exact bz (aoW hF (by omega)) (fun l hl3=>aW hl3)
end Go.VM
namespace Go.VM
theorem aJK{e:qz}(h:eQ e=some 0)(hk:e.j9=1):fJ e.z5=some 0:=by
 unfold eQ at h
 obtain⟨v1,_,h⟩:=bB h
 cases v1
 ·simp only[cond_false]at h
  obtain⟨v2,_,h⟩:=bB h
  cases v2
  ·simp only[cond_false]at h
   rw[hk,show jX 1=some (true,false,false,false)from rfl]at h
   simp only[dk]at h
   obtain⟨v4,_,h⟩:=bB h
   cases v4
   ·simp only[cond_false,cond_true]at h
    obtain⟨v5,h5,h⟩:=bB h
    obtain⟨v6,h6,h⟩:=bB h
    obtain⟨v7,h7,h5⟩:=bB h5
    cases h5;cases h6
    by_cases g:v5=0
    ·rw[g]at h7;exact h7
    ·rw[xw g]at h
     simp only[gw,cond_true]at h
     exact absurd (Option.some.inj h) g
   ·cases h
  ·cases h
 ·cases h
theorem aTY{out:List Sl8}{a b:Nat}(h:YZ out a b):Desc (out.map pQ) (a:Int) (b:Int):=by
 induction h with
 | self=>exact Desc.self
 | up hx hp _ ih =>
  refine Desc.up (by omega) (by rw[Int.toNat_natCast,jw,hx];rfl) ?_
  show Desc _ _ (pQ _).q8
  rw[show ∀x:Sl8,(pQ x).q8=x.par from fun _=>rfl,hp]
  exact ih
theorem atV(out:List Sl8)(i:Nat)(s0:Int):∀n:Nat,E3 (out.map pQ) (i:Int) s0 n=BW out i s0 n
 | 0=>rfl
 | n+1=>by
  unfold E3 BW
  rw[jw,atV out i s0 n]
  cases out[n]?<;>rfl
theorem aLX{o:List a8}(hO:Ord26 o){pcs:List Pc}{K:List Nat}{out:List Sl8}(hF:OutF (o.map o9) pcs K out)(hl:out.length≤60):Ok (yQ (out.map pQ)) (fun r=>r=0):=by
 have hol:=hF.len
 have get:∀ {i:Nat} {s:az},(out.map pQ)[i]? = some s→∃x,out[i]? = some x∧s=pQ x:=fun {i s} h=>by
  rw[jw]at h
  obtain⟨x,hx,rfl⟩:=aw.1 h
  exact⟨x,hx,rfl⟩
 have put:∀ {i:Nat} {x:Sl8},out[i]? = some x→(out.map pQ)[i]? = some (pQ x):=fun {i x} h=>by rw[jw,h];rfl
 unfold yQ
 refine p6 (Q:=xK (fun _=>True) (fun _=>False)) (Pj (out.map pQ).length (fun _=>True) (by rw[ew];omega) trivial (fun i _ h2=>?_)) (fun _ _=>?_) (fun r hr=>(hr:False).elim)
 ·unfold B5
  refine b6 (fun hi=>?_) (fun hi=>f6 trivial)
  obtain⟨s,his,hs⟩:=H2 (xs:=out.map pQ) (i:=i) (by omega)
  obtain⟨x,hx,rfl⟩:=get hs
  obtain⟨k,p,hk,hp,hlt,e1,e2,e3,e4,e5⟩:=hF.at hx
  obtain⟨s1,s2,s3,s4,s5,s6⟩:=hF.sml k p hp
  obtain⟨ev,hev,b1,b2,b3,b4⟩:=hF.dn.beg k p hp
  obtain⟨w,hw,rfl⟩:=yw.1 hev
  obtain⟨m,hm⟩:=List.getElem?_of_mem hw
  have hname:vZ (pQ x).z5=some 0:=by
   rw[aLK,show(pQ x).z5=w.j4.z5 from e2.trans b3.symm]
   exact aJK (hO.chk m w hm) b1
  rw[his,dk]
  refine bz (Q:=fun v=>v=false) ?_ (fun v hv=>?_)
  ·refine b6 (fun h=>?_) (fun _=>b6 (fun h=>?_) (fun _=>?_))
   ·have h:x.th<0:=h
    omega
   ·have h:1000000000000000<x.th:=h
    omega
   ·rw[R5]
    refine aW ?_
    show(!decide (0≤x.fr∧x.fr<x.to∧x.to≤1000000000000))=false
    rw[decide_eq_true (by omega)];rfl
  ·rw[hv,cond_false,hname,dk]
   refine lQ (fun h=>absurd rfl h) (fun _=>?_)
   refine bz (Q:=fun v=>v=false) ?_ (fun v hv=>?_)
   ·refine b6 (fun h=>?_) (fun _=>aW rfl)
    obtain⟨j,rfl⟩ : ∃j,i=j+1:=⟨i-1,by omega⟩
    rw[ew]at hi
    rw[cj (by omega),show((j+1:Nat):Int)-1=(j:Int)by omega,dW]
    obtain⟨y,hy⟩ : ∃y,out[j]? = some y:=⟨_,cw (by omega)⟩
    rw[put hy,dk]
    obtain⟨k',p',hk',hp',hlt',f1,f2,f3,f4,f5⟩:=hF.at hy
    obtain⟨c,hc,hpre⟩:=apq (pQ y) (pQ x)
    rw[hc,dk]
    have hord:Ord pcs k' k:=by
     have h1:=(bw.1 hk').1
     have h2:=(bw.1 hk).1
     have:=List.pairwise_iff_getElem.1 hF.ord j (j+1) h1 h2 (by omega)
     rw[(bw.1 hk').2,(bw.1 hk).2]at this
     exact this
    unfold Ord at hord
    rw[uY hp,uY hp']at hord
    obtain⟨v,hv1,hv2⟩:=alZ (a:=false) (b:=false) (hF.sml k p hp) (hF.sml k' p' hp')
    have hsame:c4 (pQ x) (pQ y)=c4 (oF p false).q7 (oF p' false).q7:=by
     unfold c4
     simp only[pQ,oF,e1,e3,e4,f1,f3,f4]
     rfl
    rw[hsame,hv1]at hpre
    have hpre:=Option.some.inj hpre
    rw[hv2,xw (by omega)]at hpre
    exact aW hpre.symm
   ·rw[hv,cond_false]
    exact iJ ⟨by omega,C7 (n:=(out.map pQ).length) (by omega) (by rw[ew];omega),trivial⟩
 ·have hup:Up (out.map pQ) (out.map pQ).length:=fun j s _ hs=>by
   obtain⟨x,hx,rfl⟩:=get hs
   show -1≤x.par∧x.par<_
   rcases hF.nest hx with⟨h,_⟩ | ⟨m,y,h1,h,_⟩<;>omega
  refine bz (Q:=fun v=>v=false) ?_ (fun v hv=>by rw[hv];exact aW rfl)
  refine bz (Q:=fun v=>v=true) ?_ (fun v hv=>?_)
  ·unfold Ax
   refine p6 (Q:=xK (fun _=>True) (fun _=>False)) (Pj (out.map pQ).length (fun _=>True) (by rw[ew];omega) trivial (fun i _ h2=>?_)) (fun _ _=>aW rfl) (fun r hr=>(hr:False).elim)
   unfold zX
   refine b6 (fun hi=>?_) (fun hi=>f6 trivial)
   obtain⟨s,his,hs⟩:=H2 (xs:=out.map pQ) (i:=i) (by omega)
   obtain⟨x,hx,rfl⟩:=get hs
   have nx:Ok (some (.inl (w64 ((i:Int)+1))):Option (Int ⊕ (Unit ⊕ Bool))) (xK (fun a=>i<(out.map pQ).length∧a=((i+1:Nat):Int)∧True) (xK (fun _=>True) (fun _=>False))):=iJ ⟨by omega,C7 (n:=(out.map pQ).length) (by omega) (by rw[ew];omega),trivial⟩
   have hp:(pQ x).q8=x.par:=rfl
   simp only[his,dk,hp]
   rcases hF.nest hx with⟨h3,h4⟩ | ⟨m,y,h3,h4,h5,h6,h7,h8,h9⟩
   ·simp only[h3]
    rw[show(bif decide ((-1:Int) < -1)then some true else some (decide ((i:Int)≤-1)))=some false from by rw[show decide ((-1:Int) < -1)=false from rfl,cond_false,xw (by omega)],dk,cond_false]
    refine b6 (fun _=>?_) (fun h=>absurd trivial h)
    exact lQ (fun h=>absurd h4 h) (fun _=>nx)
   ·simp only[h4]
    rw[show(bif decide (((m:Nat):Int) < -1)then some true else some (decide ((i:Int)≤(m:Int))))=some false from by rw[xw (by omega),cond_false,xw (by omega)],dk,cond_false]
    refine b6 (fun h=>by omega) (fun _=>?_)
    rw[dW,put h5,dk]
    refine bz (Q:=fun v=>v=false) ?_ (fun v hv=>by rw[hv];exact nx)
    refine lQ (fun h=>absurd h6 h) (fun _=>b6 (fun h=>?_) (fun _=>b6 (fun h=>?_) (fun _=>aW ?_)))
    ·have h:x.fr<y.fr:=h
     omega
    ·have h:y.to<x.to:=h
     omega
    ·show(!decide (x.dep=w64 (y.dep+1)))=false
     rw[decide_eq_true h9];rfl
  ·rw[hv]
   simp only[iw,cond_false]
   refine bz (aBj (out.map pQ) (by rw[ew];omega) hup) (fun b hb=>aW ?_)
   rw[hb.2 ?_];rfl
   intro i s hs
   obtain⟨x,hx,rfl⟩:=get hs
   refine⟨?_,fun j z hj hz=>?_⟩
   ·rw[atV,ew]
    exact hF.j.self i x hx
   ·obtain⟨y,hy,rfl⟩:=get hz
    rintro⟨b1,b2,b3,b4⟩
    exact b4 (aTY (hF.meet hj hy hx b1 b2 b3))
theorem aQW(l:List az)(hl:l.length≤60):Ok (l8 l l) (fun b=>b=true):=by
 unfold l8
 refine lQ (fun h=>absurd rfl h) (fun _=>?_)
 refine p6 (Q:=xK (fun _=>True) (fun _=>False)) (Pj l.length (fun _=>True) (by omega) trivial (fun i _ h2=>?_)) (fun _ _=>aW rfl) (fun r hr=>(hr:False).elim)
 unfold pJ
 refine b6 (fun hi=>?_) (fun hi=>f6 trivial)
 obtain⟨s,his,hs⟩:=H2 (xs:=l) (i:=i) (by omega)
 rw[his,dk,dk]
 simp only[decide_true,Bool.and_self,bne_self_eq_false,cond_false]
 exact iJ ⟨by omega,C7 (n:=l.length) (by omega) (by omega),trivial⟩
theorem sliceFinds_holds(o:List a8)(e:Int):d9 o e=some true:=by
 have:Ok (d9 o e) (fun b=>b=true):=by
  unfold d9
  rw[show nW=some true from rfl]
  simp only[dk]
  refine bz (aUY o) (fun b hb=>?_)
  refine Bq (fun _=>aW rfl) (fun eb=>?_)
  obtain⟨hl,hord⟩:=hb eb
  obtain⟨pcs,K,out,hpcs,hF,hof⟩:=aQz (o.map o9) e hord.pair (fun x hx=>by
   obtain⟨y,hy,rfl⟩:=yw.1 hx
   obtain⟨k,hk⟩:=List.getElem?_of_mem hy
   exact hord.th k y hk) (by rw[ew];omega)
  have hof2:N1 o e=some (out.map pQ):=by
   unfold N1 Go.RM.sliceOfF
   rw[ew,decide_eq_true (by omega),cond_true,hof]
   rfl
  have hlo:out.length≤60:=by
   have h1:=hF.len
   have h2:=hF.lenK
   have h3:pcs.length≤60:=by
    rw[hF.dn.cnt]
    exact Nat.le_trans (List.length_filter_le ..) (by rw[ew];exact hl)
   omega
  rw[hof2,dk]
  refine bz (Q:=fun v=>v=true) ?_ (fun v hv=>aW hv)
  refine bz (aWq hl hord e hpcs hF) (fun l hl2=>?_)
  rw[hl2]
  refine bz (aQW _ (by rw[ew];exact hlo)) (fun b hb2=>?_)
  rw[hb2,cond_true]
  refine bz (aLX hord hF hlo) (fun c hc=>?_)
  rw[hc]
  exact aW rfl
 obtain⟨r,h1,h2⟩:=this
 rw[h1,h2]
end Go.VM
