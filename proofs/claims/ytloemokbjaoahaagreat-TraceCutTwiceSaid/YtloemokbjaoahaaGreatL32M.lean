/- The law holds: plain mathematics on what the functions compute. -/
import Derived.Test.YtloemokbjaoahaaGreatL32M1
namespace Go.VM
theorem aFY{c1 c2 c3:az}(h:C3 c1 c2 c3):∀(l:List bJ),l.Pairwise stL→gR c2 (gR c1 l)=gR c3 l
 | [],_=>rfl
 | x::r,hp=>by
  have:=h.h1.a;have:=h.h1.b;have:=h.h2.a;have:=h.h2.b;have:=h.in2;have hf:=h.f;have ht:=h.t
  have hp':=List.pairwise_cons.1 hp
  have ih:=aFY h r hp'.2
  have nxt:(x.j9≤c1.q5→C4 c1 x r.head?)→∀a:Int,(C4 c2 (stN x.q7 a x.j6) (gR c1 r).head?↔C4 c3 x r.head?):=by
   intro hl a
   have hz:∀z,r.head? = some z→z.q7=x.q7→c1.q5<z.j9:=by
    intro z hz e
    by_cases g:x.j9≤c1.q5
    ·have:=hl g
     rw[hz]at this
     rcases this with this | this
     ·exact absurd e this
     ·exact this
    ·have:=aoX (hp'.1 z (List.mem_of_mem_head? hz)) e.symm
     omega
   have hd:=aXZ h.h1 r x hp'.1 hp'.2 hz
   constructor
   ·intro h2
    cases hr:r.head? with
    | none=>exact trivial
    | some z =>
     by_cases e:z.q7=x.q7
     ·by_cases g:c3.q5<z.j9
      ·exact .inr g
      ·exfalso
       cases r with
       | nil=>simp at hr
       | cons z' r' =>
        simp only[List.head?_cons,ck]at hr;subst hr
        have g1:=hz z' rfl e
        simp only[gR,if_neg (show ¬z'.j9≤c1.q5 by omega),if_pos (show z'.j9<c1.q8 by omega),List.singleton_append,List.head?_cons,C4,stN]at h2
        rcases h2 with h2 | h2
        ·exact h2 e
        ·omega
     ·exact .inl e
   ·intro h3
    cases hg:(gR c1 r).head? with
    | none=>exact trivial
    | some v =>
     by_cases e:v.q7=x.q7
     ·obtain⟨z,h4,h5,h6,h7⟩:=hd v hg e
      rw[h4]at h3
      rcases h3 with h3 | h3
      ·exact absurd h5 h3
      ·exact .inr (by omega)
     ·exact .inl e
  by_cases g1:x.j9≤c1.q5
  ·by_cases g2:C4 c1 x r.head?
   ·have e1:gR c1 (x::r)=stN x.q7 0 x.j6::gR c1 r:=by simp only[gR,if_pos g1,if_pos g2,List.singleton_append]
    rw[e1]
    have n:=nxt (fun _=>g2) 0
    simp only[gR,ih]
    rw[if_pos (show(stN x.q7 0 x.j6).j9≤c2.q5 by simp only[stN];omega),if_pos (show x.j9≤c3.q5 by omega)]
    by_cases g3:C4 c3 x r.head?
    ·rw[if_pos g3,if_pos (n.2 g3)];rfl
    ·rw[if_neg g3,if_neg (fun k=>g3 (n.1 k))]
   ·have e1:gR c1 (x::r)=gR c1 r:=by simp only[gR,if_pos g1,if_neg g2,List.nil_append]
    rw[e1,ih]
    have g3 : ¬C4 c3 x r.head?:=by
     intro k
     apply g2
     cases hr:r.head? with
     | none=>exact trivial
     | some z =>
      rw[hr]at k g2
      rcases k with k | k
      ·exact .inl k
      ·exact .inr (by omega)
    simp only[gR,if_pos (show x.j9≤c3.q5 by omega),if_neg g3,List.nil_append]
  ·by_cases g2:x.j9<c1.q8
   ·have e1:gR c1 (x::r)=stN x.q7 (x.j9-c1.q5) x.j6::gR c1 r:=by simp only[gR,if_neg g1,if_pos g2,List.singleton_append]
    rw[e1]
    have n:=nxt (fun k=>absurd k g1) (x.j9-c1.q5)
    simp only[gR,ih]
    by_cases g3:x.j9≤c3.q5
    ·rw[if_pos (show(stN x.q7 (x.j9-c1.q5) x.j6).j9≤c2.q5 by simp only[stN];omega),if_pos g3]
     by_cases g4:C4 c3 x r.head?
     ·rw[if_pos g4,if_pos (n.2 g4)];rfl
     ·rw[if_neg g4,if_neg (fun k=>g4 (n.1 k))]
    ·rw[if_neg (show ¬(stN x.q7 (x.j9-c1.q5) x.j6).j9≤c2.q5 by simp only[stN];omega),if_neg g3]
     by_cases g4:x.j9<c3.q8
     ·rw[if_pos g4,if_pos (show(stN x.q7 (x.j9-c1.q5) x.j6).j9<c2.q8 by simp only[stN];omega)]
      congr 2
      simp only[stN]
      congr 1;omega
     ·rw[if_neg g4,if_neg (show ¬(stN x.q7 (x.j9-c1.q5) x.j6).j9<c2.q8 by simp only[stN];omega)]
   ·have e1:gR c1 (x::r)=gR c1 r:=by simp only[gR,if_neg g1,if_neg g2,List.nil_append]
    rw[e1,ih]
    simp only[gR,if_neg (show ¬x.j9≤c3.q5 by omega),if_neg (show ¬x.j9<c3.q8 by omega),List.nil_append]
def PL(D:List ax)(p:ax)(k:Int):Prop:=(k = -1∧p.q9.z2 = -1)∨∃(n:Nat) (q:ax),k=(n:Int)∧D[n]? = some q∧q.fold=p.q9.z2
theorem WJ{a b:List aX}{j s0:Int}:∀(N:Nat),(∀(n:Nat),n<N→(a[n]?).map (fun y=>(y.z2,y.q0))=(b[n]?).map (fun y=>(y.z2,y.q0)))→wK a j s0 N=wK b j s0 N
 | 0,_=>rfl
 | N+1,h=>by
  have ih:=WJ (a:=a) (b:=b) (j:=j) (s0:=s0) N (fun n hn=>h n (by omega))
  have hN:=h N (by omega)
  unfold wK
  cases e1:a[N]? with
  | none =>
   rw[e1]at hN
   cases e2:b[N]? with
   | none=>exact ih
   | some z=>rw[e2]at hN;simp at hN
  | some y =>
   rw[e1]at hN
   cases e2:b[N]? with
   | none=>rw[e2]at hN;simp at hN
   | some z =>
    rw[e2]at hN
    simp only[Option.map_some,ck,Prod.mk.injEq]at hN
    simp only[hN.1,hN.2,ih]
theorem QW{a:List aX}{j s0:Int}:∀(N:Nat),(∀(n:Nat) z,n<N→a[n]? = some z→¬z.z2=j)→wK a j s0 N=s0
 | 0,_=>rfl
 | N+1,h=>by
  have ih:=QW (a:=a) (j:=j) (s0:=s0) N (fun n z hn=>h n z (by omega))
  unfold wK
  cases e1:a[N]? with
  | none=>exact ih
  | some y=>simp only[if_neg (h N y (by omega) e1),ih]
theorem QK{l:List aX}{j s0:Int}{N:Nat}{z:aX}(hz:l[N]? = some z):wK l j s0 (N+1)=if z.z2=j then w64 (wK l j s0 N-w64 (z.q0.q8-z.q0.q5))else wK l j s0 N:=by
 simp only[wK,hz]
structure UQ(D:List ax)(a:List aX)(i:Nat)(y:aX)(p:ax):Prop where
 th:y.q6=p.q9.q6
 nm:y.q7=p.q9.q7
 sp:y.q0=p.q9.q0
 op:y.w7=p.q9.w7
 pl:PL D p y.z2
 self:y.x3=wK a i (w64 (y.q0.q8-y.q0.q5)) a.length
 dep:(y.z2 = -1∧y.j3=0)∨∃(k:Nat) (z:aX),y.z2=(k:Int)∧k<i∧a[k]? = some z∧y.j3=w64 (z.j3+1)
theorem a9J{D:List ax}(h:aEZ D){m:List (Int×Int)}(hm:nY (-1) m=some (-1)∧∀(k:Nat) q,D[k]? = some q→nY q.fold m=some (k:Int)){i:Nat}{p:ax}(hp:D[i]? = some p):PL D p (Option.getD (nY p.q9.z2 m) 0)∧(Option.getD (nY p.q9.z2 m) 0)<(i:Int):=by
 rcases h.par i p hp with e | ⟨k,q,hk,hq,e⟩
 ·rw[e,hm.1];exact⟨.inl ⟨rfl,e⟩,by simp only[Option.getD_some];omega⟩
 ·rw[←e,hm.2 k q hq];exact⟨.inr ⟨k,q,rfl,hq,e⟩,by simp only[Option.getD_some];omega⟩
theorem a9K{D:List ax}(h:aEZ D){p:ax}{k k':Int}(h1:PL D p k)(h2:PL D p k'):k=k':=by
 rcases h1 with⟨rfl,e⟩ | ⟨n,q,rfl,hq,e⟩
 ·rcases h2 with⟨rfl,_⟩ | ⟨n',q',rfl,hq',e'⟩
  ·rfl
  ·have:=h.pos n' q' hq';omega
 ·rcases h2 with⟨rfl,e'⟩ | ⟨n',q',rfl,hq',e'⟩
  ·have:=h.pos n q hq;omega
  ·rcases Nat.lt_trichotomy n n' with g | g | g
   ·exact absurd (e.trans e'.symm) (h.ne n n' q q' g hq hq')
   ·rw[g]
   ·exact absurd (e'.trans e.symm) (h.ne n' n q' q g hq' hq)
theorem aDY{D:List ax}(h:aEZ D){m:List (Int×Int)}(hm:nY (-1) m=some (-1)∧∀(k:Nat) q,D[k]? = some q→nY q.fold m=some (k:Int)){i:Nat}{p:ax}(hp:D[i]? = some p){a:List aX}(ha:a.length=i)(hI:∀(j:Nat) y,a[j]? = some y→∃q,D[j]? = some q∧UQ D a j y q) :
  ∀(j:Nat) y,(Fq m a p)[j]? = some y→∃q,D[j]? = some q∧UQ D (Fq m a p) j y q:=by
 obtain⟨hpl,hlt⟩:=a9J h hm hp
 have hlen:=amz m a p
 have par:∀(j:Nat) y,a[j]? = some y→y.z2<(j:Int):=by
  intro j y hy
  obtain⟨q,hq,hr⟩:=hI j y hy
  rcases hr.dep with⟨e,_⟩ | ⟨k,z,e,hk,_⟩<;>omega
 generalize hK:Option.getD (nY p.q9.z2 m) 0=K at *
 have form:(K<0∧Fq m a p=a++[mkS p.q9 K 0])∨∃(k:Nat) (x:aX),K=(k:Int)∧k<i∧a[k]? = some x∧Fq m a p=a.set k (upS x (w64 (p.q9.q0.q8-p.q9.q0.q5)))++[mkS p.q9 K (w64 (x.j3+1))]:=by
  unfold Fq
  rw[hK]
  by_cases g:0≤K
  ·obtain⟨k,rfl⟩:=Int.eq_ofNat_of_zero_le g
   obtain⟨x,hx⟩ : ∃x,a[k]? = some x:=⟨_,bw (by omega)⟩
   right
   refine⟨k,x,rfl,by omega,hx,?_⟩
   simp only[if_pos g,Int.toNat_natCast,hx]
  ·left
   exact⟨by omega,by simp only[if_neg g]⟩
 rcases form with⟨g,e⟩ | ⟨k,x,rfl,hk,hx,e⟩
 ·rw[e]
  have ext:∀(j:Int) (s0:Int),wK (a++[mkS p.q9 K 0]) j s0 a.length=wK a j s0 a.length:=fun j s0=>WJ _ (fun n hn=>by rw[rk hn])
  have last:(a++[mkS p.q9 K 0])[a.length]? = some (mkS p.q9 K 0):=by simp
  intro j y hy
  by_cases hj:j<a.length
  ·rw[rk hj]at hy
   obtain⟨q,hq,hr⟩:=hI j y hy
   refine⟨q,hq,hr.th,hr.nm,hr.sp,hr.op,hr.pl,?_,?_⟩
   ·rw[cw,List.length_singleton,QK last,if_neg (show ¬(mkS p.q9 K 0).z2=(j:Int)by simp only[mkS];omega),ext];exact hr.self
   ·rcases hr.dep with h1 | ⟨k,z,h1,h2,h3,h4⟩
    ·exact .inl h1
    ·exact .inr ⟨k,z,h1,h2,by rw[rk (by omega)];exact h3,h4⟩
  ·have hj2:j=a.length:=by have:=dZ hy;rw[cw,List.length_singleton]at this;omega
   subst hj2
   rw[last]at hy;cases hy
   have hK1:K = -1 := by rcases hpl with⟨h1,_⟩ | ⟨n,_,h1,_⟩<;>omega
   refine⟨p,by rw[ha];exact hp,rfl,rfl,rfl,rfl,hpl,?_,.inl ⟨hK1,rfl⟩⟩
   rw[QW _ (fun n z hn hz=>?_)]
   ·rfl
   ·rw[cw,List.length_singleton]at hn
    by_cases hn2:n<a.length
    ·rw[rk hn2]at hz
     have:=par n z hz;omega
    ·have:n=a.length:=by omega
     subst this
     rw[last]at hz;cases hz
     simp only[mkS];omega
 ·rw[e]
  generalize hd:w64 (p.q9.q0.q8-p.q9.q0.q5)=d at *
  have la:(a.set k (upS x d)).length=a.length:=by simp
  have get:∀(n:Nat),n<a.length→(a.set k (upS x d)++[mkS p.q9 (k:Int) (w64 (x.j3+1))])[n]? = if n=k then some (upS x d)else a[n]?:=by
   intro n hn
   rw[rk (by omega),List.getElem?_set]
   by_cases e2:k=n
   ·subst e2;simp[hn]
   ·rw[if_neg e2,if_neg (fun h=>e2 h.symm)]
  have ext:∀(j:Int) (s0:Int),wK (a.set k (upS x d)++[mkS p.q9 (k:Int) (w64 (x.j3+1))]) j s0 a.length=wK a j s0 a.length:=fun j s0=>WJ _ (fun n hn=>by
   rw[get n hn]
   by_cases e2:n=k
   ·subst e2;rw[if_pos rfl,hx];rfl
   ·rw[if_neg e2])
  have last:(a.set k (upS x d)++[mkS p.q9 (k:Int) (w64 (x.j3+1))])[a.length]? = some (mkS p.q9 (k:Int) (w64 (x.j3+1))):=by
   rw[List.getElem?_append_right (by omega),la];simp
  have ll:(a.set k (upS x d)++[mkS p.q9 (k:Int) (w64 (x.j3+1))]).length=a.length+1:=by rw[cw,la,List.length_singleton]
  have depth:∀ {jj:Nat} {q:Int},((q = -1∧True)∨True)→True:=fun _=>trivial
  intro j y hy
  by_cases hj:j<a.length
  ·rw[get j hj]at hy
   obtain⟨y0,hy0⟩ : ∃y0,a[j]? = some y0:=⟨_,bw hj⟩
   obtain⟨q,hq,hr⟩:=hI j y0 hy0
   have dep:(y0.z2 = -1∧y0.j3=0)∨∃(k':Nat) (z:aX),y0.z2=(k':Int)∧k'<j∧(a.set k (upS x d)++[mkS p.q9 (k:Int) (w64 (x.j3+1))])[k']? = some z∧y0.j3=w64 (z.j3+1):=by
    rcases hr.dep with h1 | ⟨k',z,h1,h2,h3,h4⟩
    ·exact .inl h1
    ·by_cases e2:k'=k
     ·subst e2
      rw[hx]at h3;cases h3
      exact .inr ⟨k',upS x d,h1,h2,by rw[get k' (by omega),if_pos rfl],h4⟩
     ·exact .inr ⟨k',z,h1,h2,by rw[get k' (by omega),if_neg e2];exact h3,h4⟩
   by_cases e2:j=k
   ·subst e2
    rw[if_pos rfl]at hy;cases hy
    rw[hx]at hy0;cases hy0
    refine⟨q,hq,hr.th,hr.nm,hr.sp,hr.op,hr.pl,?_,dep⟩
    rw[ll,QK last,if_pos (show(mkS p.q9 (j:Int) (w64 (x.j3+1))).z2=(j:Int)from rfl),ext]
    show w64 (x.x3-d)=_
    rw[hr.self]
    show w64 (_-d)=w64 (_-w64 (p.q9.q0.q8-p.q9.q0.q5))
    rw[hd];rfl
   ·rw[if_neg e2,hy0]at hy;cases hy
    refine⟨q,hq,hr.th,hr.nm,hr.sp,hr.op,hr.pl,?_,dep⟩
    rw[ll,QK last,if_neg (show ¬(mkS p.q9 (k:Int) (w64 (x.j3+1))).z2=(j:Int)by simp only[mkS];omega),ext];exact hr.self
  ·have hj2:j=a.length:=by have:=dZ hy;rw[ll]at this;omega
   subst hj2
   rw[last]at hy;cases hy
   refine⟨p,by rw[ha];exact hp,rfl,rfl,rfl,rfl,hpl,?_,.inr ⟨k,upS x d,rfl,by omega,by rw[get k (by omega),if_pos rfl],rfl⟩⟩
   rw[QW _ (fun n z hn hz=>?_)]
   ·rfl
   ·rw[ll]at hn
    by_cases hn2:n<a.length
    ·rw[get n hn2]at hz
     by_cases e2:n=k
     ·subst e2
      rw[if_pos rfl]at hz;cases hz
      have:=par n x hx
      simp only[upS];omega
     ·rw[if_neg e2]at hz
      have:=par n z hz;omega
    ·have:n=a.length:=by omega
     subst this
     rw[last]at hz;cases hz
     simp only[mkS];omega
theorem aXz{D:List ax}(h:aEZ D){m:List (Int×Int)}(hm:nY (-1) m=some (-1)∧∀(k:Nat) q,D[k]? = some q→nY q.fold m=some (k:Int)) :
  loop (ox D m) ([],0)=some (D.foldl (Fq m) [])∧(D.foldl (Fq m) []).length=D.length∧∀(j:Nat) y,(D.foldl (Fq m) [])[j]? = some y→∃q,D[j]? = some q∧UQ D (D.foldl (Fq m) []) j y q:=by
 have hl:=h.len
 have hroom:∀(b:List aX) (z:aX),b.length≤1000→H7 72 (b.length+[z].length)=true:=fun b z hb=>Gq (by simp only[nw,List.length_nil];omega) (by simp only[nw,List.length_nil];omega)
 have st1:∀(a:List aX) (i:Nat) p,D[i]? = some p→a.length=i→ox D m (a,(i:Int))=some (.inl (Fq m a p,((i+1:Nat):Int))):=by
  intro a i p hp ha
  have hi:=dZ hp
  unfold ox Fq
  dsimp only
  rw[decide_eq_true (Int.ofNat_lt.2 hi),cond_true,dX,hp,bk,sY (n:=D.length) (by omega) (by omega)]
  rcases h.par i p hp with e | ⟨k,q,hk,hq,e⟩
  ·rw[e,hm.1]
   simp only[Option.getD_some,Int.reduceNeg,Int.reduceLE,decide_false,cond_false,bk,iw]
   rw[hroom a _ (by omega),cond_true]
   rfl
  ·rw[←e,hm.2 k q hq]
   obtain⟨x,hx⟩ : ∃x,a[k]? = some x:=⟨_,bw (by omega)⟩
   simp only[Option.getD_some,Int.natCast_nonneg,decide_true,cond_true,dX,hx,bk,if_true,Int.toNat_natCast]
   rw[hroom _ _ (by rw[List.length_set];omega),cond_true]
   rfl
 have:Ok (loop (ox D m) ([],0)) (fun r=>r=D.foldl (Fq m) []∧r.length=D.length∧∀(j:Nat) y,r[j]? = some y→∃q,D[j]? = some q∧UQ D r j y q):=by
  refine Lz D.length (fun a i=>a=(D.take i).foldl (Fq m) []∧a.length=i∧∀(j:Nat) y,a[j]? = some y→∃q,D[j]? = some q∧UQ D a j y q) (by omega) ⟨rfl,rfl,fun j y hy=>by simp at hy⟩ (fun a i hI h2=>?_)
  by_cases hi:i<D.length
  ·obtain⟨p,hp⟩ : ∃p,D[i]? = some p:=⟨_,bw hi⟩
   rw[st1 a i p hp hI.2.1]
   refine n5 ⟨hi,rfl,?_,by rw[amz,hI.2.1],aDY h hm hp hI.2.1 hI.2.2⟩
   rw[List.take_add_one,hp,Option.toList_some,List.foldl_append,←hI.1];rfl
  ·have:i=D.length:=by omega
   subst this
   unfold ox
   dsimp only
   refine a0 (fun h=>by omega) (fun _=>eW ?_)
   rw[List.take_length]at hI
   exact hI
 obtain⟨r,e,rfl,h2⟩:=this
 exact⟨e,h2⟩
def pcE(c:az)(i:Nat)(y:aX):ax:={q9:={q6:=y.q6,z2:=y.z2,j3:=y.j3,q7:=y.q7,q0:=tz c y.q0,x3:=y.x3,w7:=y.w7||decide (c.q8<y.q0.q8)},fold:=(i:Int)}
theorem azX{c:az}(hc:CSp c){y:aX}(hs:A9 y.q0)(i:Nat):pcF c i y=if nX c y.q0 then some (pcE c i y)else none:=by
 have:=hc.a;have:=hc.b;have:=hc.d
 unfold A9 at hs
 unfold pcF pcE nX tz
 rw[bQ (by omega),bQ (by omega)]
structure ValC(l:List aX):Prop where
 rows:∀y∈l,SlR y
 srt:l.Pairwise (fun x y=>¬kls y x)
 nest:Nest l
 apart:L8 l
theorem ValC.sp{l:List aX}(h:ValC l){y:aX}(hy:y∈l):A9 y.q0:=(h.rows y hy).1.2.2
structure CutS(l:List aX)(c:az)(D:List ax)(m:List (Int×Int))(r:List aX):Prop where
 eq:wJ l c=some r
 perm:D.Perm (pcs l c)
 srt:D.Pairwise lo
 so:aEZ D
 hm:nY (-1) m=some (-1)∧∀(k:Nat) q,D[k]? = some q→nY q.fold m=some (k:Int)
 fold:r=D.foldl (Fq m) []
 len:r.length=D.length
 row:∀(j:Nat) y,r[j]? = some y→∃q,D[j]? = some q∧UQ D r j y q
theorem a2j{l:List aX}{c:az}(hl:l.length≤1000)(V:ValC l)(hc:CSp c):∃D m r,CutS l c D m r:=by
 have hpl:=aoQ l c
 obtain⟨D,h1,h2,h3⟩:=a1J (pcs l c) (by omega) (aVz l c)
 have so:=aKJ hl V.nest (fun y hy=>V.sp hy) ⟨hc.a,hc.d⟩ h2 h3
 obtain⟨m,hm,hm2⟩:=a9Z so
 obtain⟨g1,g2,g3⟩:=aXz so hm2
 refine⟨D,m,_,?_,h2,h3,so,hm2,rfl,g2,g3⟩
 unfold wJ
 rw[a8V l c hl,bk,h1,bk,hm,bk,g1,bk]
section
variable {l:List aX} {c:az} {D:List ax} {m:List (Int×Int)} {r:List aX}
theorem CutS.orig(h:CutS l c D m r)(V:ValC l)(hc:CSp c){i:Nat}{p:ax}(hp:D[i]? = some p):∃(n:Nat) (y:aX),l[n]? = some y∧nX c y.q0∧p=pcE c n y:=by
 obtain⟨n,y,h1,h2⟩:=aGq (h.perm.mem_iff.1 (ew hp))
 rw[azX hc (V.sp (ew h1))]at h2
 split at h2
 ·rename_i g;cases h2;exact⟨n,y,h1,g,rfl⟩
 ·cases h2
theorem CutS.lt(h:CutS l c D m r){i j:Nat}{p q:ax}(hij:i<j)(hp:D[i]? = some p)(hq:D[j]? = some q):lo p q:=by
 have k1:=dZ hp
 have k2:=dZ hq
 have:=List.pairwise_iff_getElem.1 h.srt i j k1 k2 hij
 rw[bw k1]at hp
 rw[bw k2]at hq
 rwa [Option.some.inj hp,Option.some.inj hq]at this
theorem CutS.one(h:CutS l c D m r){i j:Nat}{p q:ax}(hp:D[i]? = some p)(hq:D[j]? = some q)(e:p.fold=q.fold):i=j:=by
 rcases Nat.lt_trichotomy i j with g | g | g
 ·exact absurd e (h.so.ne i j p q g hp hq)
 ·exact g
 ·exact absurd e.symm (h.so.ne j i q p g hq hp)
theorem a3W(hN:Nest l){a:Nat}{x:aX}(hx:l[a]? = some x){b:Int}(h:Desc l (a:Int) b):∀(n:Nat) y,b=(n:Int)→l[n]? = some y→x.q0.q5≤y.q0.q5∧y.q0.q8≤x.q0.q8∧x.q6=y.q6:=by
 induction h with
 | self =>
  intro n y hn hy
  have:a=n:=by omega
  subst this;rw[hx]at hy;cases hy
  exact⟨by omega,by omega,rfl⟩
 | @up b y' h0 hy' hd ih =>
  intro n y hn hy
  subst hn
  rw[Int.toNat_natCast,hy]at hy'
  have hyy:=Option.some.inj hy'
  subst hyy
  rcases hN n y hy with⟨e,_⟩ | ⟨p,z,e,hp,hz,e1,e2,e3,_⟩
  ·have:=hd.le hN.up;omega
  ·obtain⟨g1,g2,g3⟩:=ih p z e hz
   exact⟨by omega,by omega,g3.trans e1⟩
theorem aWZ(hN:Nest l)(hc:CSp c){a b:Nat}{x y:aX}(hx:l[a]? = some x)(hy:l[b]? = some y)(h:Desc l (a:Int) (b:Int))(hne:a≠b):lo (pcE c a x) (pcE c b y):=by
 have h1:=h.le hN.up
 obtain⟨h2,h3,h4⟩:=a3W hN hx h b y rfl hy
 unfold lo kl pcE tz
 simp only
 omega
theorem akV(V:ValC l){a b:Nat}{x y:aX}(hx:l[a]? = some x)(hy:l[b]? = some y)(ht:x.q6=y.q6)(h1:x.q0.q5<y.q0.q8)(h2:y.q0.q5<x.q0.q8):Desc l (a:Int) (b:Int)∨Desc l (b:Int) (a:Int):=by
 rcases Nat.lt_trichotomy a b with g | g | g
 ·left
  have:=(V.apart b y hy).2 a x g hx
  exact Classical.byContradiction fun k=>this ⟨ht,h2,h1,k⟩
 ·subst g;exact .inl .self
 ·right
  have:=(V.apart a x hx).2 b y g hy
  exact Classical.byContradiction fun k=>this ⟨ht.symm,h1,h2,k⟩
theorem aRz(h:CutS l c D m r)(V:ValC l)(hc:CSp c){a j:Nat}{x:aX}(hx:l[a]? = some x)(hj:D[j]? = some (pcE c a x)){b:Int}(hd:Desc l (a:Int) b):∀(n i:Nat) (y:aX),b=(n:Int)→l[n]? = some y→D[i]? = some (pcE c n y)→Desc r (j:Int) (i:Int):=by
 induction hd with
 | self =>
  intro n i y hn hy hi
  have:j=i:=h.one hj hi (by simp only[pcE];omega)
  subst this;exact .self
 | @up b y' h0 hy' hd ih =>
  intro n i y hn hy hi
  subst hn
  rw[Int.toNat_natCast,hy]at hy'
  have hyy:=Option.some.inj hy'
  subst hyy
  have hil:=dZ hi
  obtain⟨y2,hy2⟩ : ∃y2,r[i]? = some y2:=⟨_,bw (by rw[h.len];exact hil)⟩
  obtain⟨q,hq,hr⟩:=h.row i y2 hy2
  rw[hi]at hq;cases hq
  rcases V.nest n y hy with⟨e,_⟩ | ⟨p,z,e,hp,hz,e1,e2,e3,_⟩
  ·have:=hd.le V.nest.up;omega
  ·rcases hr.pl with⟨_,g⟩ | ⟨k,q,gk,hq,g⟩
   ·simp only[pcE]at g;omega
   ·obtain⟨n',z',hz',_,rfl⟩:=h.orig V hc hq
    simp only[pcE]at g
    have:n'=p:=by omega
    subst this
    rw[hz]at hz';cases hz'
    refine Desc.up (by omega) (by rw[Int.toNat_natCast];exact hy2) ?_
    rw[gk]
    exact ih n' k z e hz hq
theorem ahz(h:CutS l c D m r)(V:ValC l)(hc:CSp c):ValC r:=by
 have hca:=hc.a;have hcb:=hc.b;have hcd:=hc.d
 have row:=fun(j:Nat) y (hy:r[j]? = some y)=>h.row j y hy
 refine⟨fun y hy=>?_,?_,fun i y hy=>?_,fun i y hy=>?_⟩
 ·obtain⟨j,hj⟩:=List.getElem?_of_mem hy
  obtain⟨q,hq,hr⟩:=row j y hj
  obtain⟨n,y0,hy0,g,rfl⟩:=h.orig V hc hq
  have hv:=V.rows y0 (ew hy0)
  unfold SlR
  rw[hr.th,hr.sp,hr.nm]
  exact⟨⟨hv.1.1,hv.1.2.1,agZ hc hv.1.2.2 g⟩,hv.2⟩
 ·rw[List.pairwise_iff_getElem]
  intro i j hi hj hij
  obtain⟨q,hq,hr⟩:=row i _ (bw hi)
  obtain⟨q',hq',hr'⟩:=row j _ (bw hj)
  have:=h.lt hij hq hq'
  unfold kls
  rw[hr.sp,hr.th,hr'.sp,hr'.th]
  unfold lo kl at this
  omega
 ·obtain⟨q,hq,hr⟩:=row i y hy
  rcases hr.dep with h1 | ⟨k,z,h1,h2,h3,h4⟩
  ·exact .inl h1
  ·right
   refine⟨k,z,h1,h2,h3,?_⟩
   obtain⟨q',hq',hr'⟩:=row k z h3
   obtain⟨n,y0,hy0,g,rfl⟩:=h.orig V hc hq
   obtain⟨n',z0,hz0,g',rfl⟩:=h.orig V hc hq'
   have e:(n':Int)=y0.z2:=by
    rcases hr.pl with⟨e,_⟩ | ⟨k',q',ek,hq2,e⟩
    ·omega
    ·have:k'=k:=by omega
     subst this;rw[hq']at hq2;cases hq2
     exact e
   rw[hr.th,hr.sp,hr'.th,hr'.sp]
   rcases V.nest n y0 hy0 with⟨e0,_⟩ | ⟨p,z1,e0,hp,hz1,e1,e2,e3,_⟩
   ·omega
   ·have:n'=p:=by omega
    subst this
    rw[hz0]at hz1;cases hz1
    simp only[pcE,tz]
    exact⟨e1,by omega,by omega,h4⟩
 ·obtain⟨q,hq,hr⟩:=row i y hy
  refine⟨hr.self,fun j z hj hz hb=>?_⟩
  obtain⟨q',hq',hr'⟩:=row j z hz
  obtain⟨n,y0,hy0,g,rfl⟩:=h.orig V hc hq
  obtain⟨n',z0,hz0,g',rfl⟩:=h.orig V hc hq'
  obtain⟨b1,b2,b3,b4⟩:=hb
  rw[hr'.th,hr.th]at b1
  rw[hr'.sp,hr.sp]at b2 b3
  simp only[pcE,tz]at b1 b2 b3
  apply b4
  have hne:n'≠n:=fun e=>by
   subst e;rw[hy0]at hz0;cases hz0
   have:=h.one hq' hq rfl;omega
  rcases akV V hz0 hy0 b1 (by omega) (by omega)with d | d
  ·exact aRz h V hc hz0 hq' d n i y0 rfl hy0 hq
  ·exact(abV (aWZ V.nest hc hy0 hz0 d (fun e=>hne e.symm)) (h.lt hj hq' hq)).elim
end
theorem aIY{α β γ:Type}(f:α×Nat→Option γ)(g:β→Option γ):∀(a:List α) (b:List β) (n:Nat),a.length=b.length→(∀(i:Nat) x y,a[i]? = some x→b[i]? = some y→f (x,n+i)=g y)→(a.zipIdx n).filterMap f=b.filterMap g
 | [],[],n,_,_=>rfl
 | [],_::_,n,h,_=>by simp at h
 | _::_,[],n,h,_=>by simp at h
 | x::a,y::b,n,h,hf=>by
  have h0:=hf 0 x y rfl rfl
  have ih:=aIY f g a b (n+1) (by simpa using h) (fun i x y hx hy=>by
   have:=hf (i+1) x y (by simpa using hx) (by simpa using hy)
   rwa [show n+1+i=n+(i+1)by omega])
  rw[List.zipIdx_cons,List.filterMap_cons,List.filterMap_cons,show f (x,n)=g y from h0,ih]
theorem aaK{α β:Type}{f g:β→α→β}:∀(L:List α) (a:β),(∀p∈L,∀a,f a p=g a p)→L.foldl f a=L.foldl g a
 | [],_,_=>rfl
 | p::L,a,h=>by
  rw[List.foldl_cons,List.foldl_cons,h p (by simp)]
  exact aaK L _ (fun q hq=>h q (List.mem_cons_of_mem _ hq))
def phi(l:List aX)(c3:az)(D1:List ax)(p:ax):ax:=match D1[p.fold.toNat]? with
 | some q=>match l[q.fold.toNat]? with
  | some y=>pcE c3 q.fold.toNat y
  | none=>p
 | none=>p
section
variable {l:List aX} {c1 c2 c3:az} {D1 D2 D3:List ax} {m1 m2 m3:List (Int×Int)} {r1 r2 r3:List aX}
theorem aSK{j n:Nat}{y1 y:aX}(hj:D1[j]? = some (pcE c1 n y))(hy:l[n]? = some y):phi l c3 D1 (pcE c2 j y1)=pcE c3 n y:=by
 unfold phi
 simp only[pcE,Int.toNat_natCast]
 simp only[pcE]at hj
 rw[hj]
 simp only[Int.toNat_natCast,hy]
theorem agW(h1:CutS l c1 D1 m1 r1)(V:ValC l)(hc:CSp c1){j:Nat}{y1:aX}(hj:r1[j]? = some y1):∃(n:Nat) (y:aX),l[n]? = some y∧nX c1 y.q0∧D1[j]? = some (pcE c1 n y)∧UQ D1 r1 j y1 (pcE c1 n y):=by
 obtain⟨q,hq,hr⟩:=h1.row j y1 hj
 obtain⟨n,y,hy,g,rfl⟩:=h1.orig V hc hq
 exact⟨n,y,hy,g,hq,hr⟩
theorem TK(C:C3 c1 c2 c3){y y1:aX}{n j:Nat}(hs:A9 y.q0)(hr:UQ D1 r1 j y1 (pcE c1 n y))(g1:nX c1 y.q0):(nX c2 y1.q0↔nX c3 y.q0)∧(nX c3 y.q0→(pcE c2 j y1).q9.q6=y.q6∧(pcE c2 j y1).q9.q7=y.q7∧(pcE c2 j y1).q9.q0=tz c3 y.q0∧(pcE c2 j y1).q9.w7=(y.w7||decide (c3.q8<y.q0.q8))):=by
 obtain⟨e1,e2⟩:=M9 C hs
 have esp:y1.q0=tz c1 y.q0:=hr.sp
 refine⟨by rw[esp,e1];exact⟨fun h=>⟨g1,h⟩,fun h=>h.2⟩,fun g=>⟨hr.th,hr.nm,?_,?_⟩⟩
 ·simp only[pcE,esp];exact(e2 g).1
 ·simp only[pcE,esp]
  rw[show y1.w7=(y.w7||decide (c1.q8<y.q0.q8))from hr.op]
  have e4:=(e2 g).2
  by_cases k1:c1.q8<y.q0.q8
  ·simp[k1,e4.2 (.inl k1)]
  ·by_cases k2:c2.q8<(tz c1 y.q0).q8
   ·simp[k2,e4.2 (.inr k2)]
   ·simp[k1,k2,show ¬c3.q8<y.q0.q8 from fun k=>(e4.1 k).elim k1 k2]
theorem aAz(C:C3 c1 c2 c3)(V:ValC l)(h1:CutS l c1 D1 m1 r1)(h2:CutS r1 c2 D2 m2 r2)(h3:CutS l c3 D3 m3 r3):r2=r3:=by
 have V1:=ahz h1 V C.h1
 have hc3:=C.h3
 have at2:∀(i:Nat) p,D2[i]? = some p→∃(j n:Nat) (y1 y:aX),r1[j]? = some y1∧p=pcE c2 j y1∧l[n]? = some y∧nX c1 y.q0∧nX c3 y.q0∧D1[j]? = some (pcE c1 n y)∧UQ D1 r1 j y1 (pcE c1 n y)∧phi l c3 D1 p=pcE c3 n y:=by
  intro i p hp
  obtain⟨j,y1,hj,g,rfl⟩:=h2.orig V1 C.h2 hp
  obtain⟨n,y,hy,g1,hq,hr⟩:=agW h1 V C.h1 hj
  have g3:=(TK C (V.sp (ew hy)) hr g1).1.1 g
  exact⟨j,n,y1,y,hj,rfl,hy,g1,g3,hq,hr,aSK hq hy⟩
 have perm:(D2.map (phi l c3 D1)).Perm (pcs l c3):=by
  have e1:(pcs r1 c2).map (phi l c3 D1)=D1.filterMap (fun q => match l[q.fold.toNat]? with | some y => pcF c3 q.fold.toNat y | none => none) := by
   unfold pcs
   rw[List.map_filterMap]
   refine aIY _ _ r1 D1 0 h1.len (fun j y1 q hj hq=>?_)
   obtain⟨n,y,hy,g1,hq',hr⟩:=agW h1 V C.h1 hj
   rw[hq]at hq';cases hq'
   have hs:=V.sp (ew hy)
   have ce:=(TK C hs hr g1).1
   simp only[Nat.zero_add]
   rw[azX C.h2 (V1.sp (ew hj))]
   have e2:(pcE c1 n y).fold.toNat=n:=by simp only[pcE,Int.toNat_natCast]
   rw[e2,hy]
   simp only
   rw[azX hc3 hs]
   by_cases g:nX c3 y.q0
   ·rw[if_pos g,if_pos (ce.2 g),Option.map_some,aSK hq hy]
   ·rw[if_neg g,if_neg (fun k=>g (ce.1 k))];rfl
  have e2:(pcs l c1).filterMap (fun q => match l[q.fold.toNat]? with | some y => pcF c3 q.fold.toNat y | none => none)=pcs l c3 := by
   unfold pcs
   rw[List.filterMap_filterMap]
   refine adK fun p hp=>?_
   obtain⟨y,n⟩:=p
   have hy:l[n]? = some y:=List.mem_zipIdx_iff_getElem?.1 hp
   have hs:=V.sp (ew hy)
   simp only
   rw[azX C.h1 hs]
   by_cases g:nX c1 y.q0
   ·rw[if_pos g,bk]
    have e2:(pcE c1 n y).fold.toNat=n:=by simp only[pcE,Int.toNat_natCast]
    rw[e2,hy]
   ·rw[if_neg g,azX hc3 hs,if_neg (fun k=>g ((M9 C hs).1.1 k).1)];rfl
  rw[←e2]
  refine List.Perm.trans ?_ (h1.perm.filterMap _)
  rw[←e1]
  exact h2.perm.map _
 have srt:(D2.map (phi l c3 D1)).Pairwise lo:=by
  rw[List.pairwise_map,List.pairwise_iff_getElem]
  intro i i' hi hi' hii
  have hp:=bw hi
  have hp':=bw hi'
  have hlo:=h2.lt hii hp hp'
  obtain⟨j,n,y1,y,hj,ep,hy,g1,g3,hq,hr,eph⟩:=at2 i _ hp
  obtain⟨j',n',y1',y',hj',ep',hy',g1',g3',hq',hr',eph'⟩:=at2 i' _ hp'
  rw[eph,eph']
  rw[ep,ep']at hlo
  have hs:=V.sp (ew hy)
  have hs':=V.sp (ew hy')
  obtain⟨t1,_,t3,_⟩:=(TK C hs hr g1).2 g3
  obtain⟨t1',_,t3',_⟩:=(TK C hs' hr' g1').2 g3'
  have kk:∀a b:ax,(a=pcE c3 n y∧b=pcE c3 n' y')→(kl a b↔kl (pcE c2 j y1) (pcE c2 j' y1')):=by
   rintro a b ⟨rfl,rfl⟩
   unfold kl
   rw[t1,t3,t1',t3']
   simp only[pcE]
  have kk':kl (pcE c3 n' y') (pcE c3 n y)↔kl (pcE c2 j' y1') (pcE c2 j y1):=by
   unfold kl
   rw[t1,t3,t1',t3']
   simp only[pcE]
  rcases hlo with hk | ⟨hk,hf⟩
  ·exact .inl ((kk _ _ ⟨rfl,rfl⟩).2 hk)
  ·by_cases hk2:kl (pcE c2 j y1) (pcE c2 j' y1')
   ·exact .inl ((kk _ _ ⟨rfl,rfl⟩).2 hk2)
   ·refine .inr ⟨fun k=>hk (kk'.1 k),?_⟩
    have n1 : ¬kl (pcE c3 n y) (pcE c3 n' y'):=fun k=>hk2 ((kk _ _ ⟨rfl,rfl⟩).1 k)
    have n2 : ¬kl (pcE c3 n' y') (pcE c3 n y):=fun k=>hk (kk'.1 k)
    have hjj:j<j':=by simp only[pcE]at hf;omega
    have hne:n≠n':=fun e=>by
     subst e
     rw[hy]at hy';cases hy'
     have:=h1.one hq hq' rfl;omega
    unfold kl pcE tz at n1 n2
    unfold nX at g3 g3'
    unfold A9 at hs hs'
    simp only at n1 n2
    have hth:y.q6=y'.q6:=by omega
    rcases akV V hy hy' hth (by omega) (by omega)with d | d
    ·have:=d.le V.nest.up
     simp only[pcE];omega
    ·exact(abV (aWZ V.nest C.h1 hy' hy d (fun e=>hne e.symm)) (h1.lt hjj hq hq')).elim
 have eD:D2.map (phi l c3 D1)=D3:=alZ _ _ (perm.trans h3.perm.symm) srt h3.srt
 rw[h2.fold,h3.fold,←eD,List.foldl_map]
 refine aaK D2 [] (fun p hp a=>?_)
 obtain⟨i,hi⟩:=List.getElem?_of_mem hp
 obtain⟨j,n,y1,y,hj,ep,hy,g1,g3,hq,hr,eph⟩:=at2 i p hi
 have hs:=V.sp (ew hy)
 obtain⟨t1,t2,t3,t4⟩:=(TK C hs hr g1).2 g3
 have hi3:D3[i]? = some (phi l c3 D1 p):=by rw[←eD,List.getElem?_map,hi];rfl
 obtain⟨pl2,_⟩:=a9J h2.so h2.hm hi
 obtain⟨pl3,_⟩:=a9J h3.so h3.hm hi3
 have eK:Option.getD (nY p.q9.z2 m2) 0=Option.getD (nY (phi l c3 D1 p).q9.z2 m3) 0:=by
  refine a9K h3.so (p:=phi l c3 D1 p) ?_ pl3
  generalize Option.getD (nY p.q9.z2 m2) 0=K at pl2
  rcases pl2 with⟨rfl,e⟩ | ⟨k,q2,rfl,hq2,e⟩
  ·left
   refine⟨rfl,?_⟩
   rw[eph]
   rw[ep]at e
   simp only[pcE]at e ⊢
   rcases hr.pl with⟨_,e2⟩ | ⟨n0,_,e2,_⟩
   ·exact e2
   ·omega
  ·right
   obtain⟨j2,n2,y12,y2,hj2,ep2,hy2,g12,g32,hqq,hr2,eph2⟩:=at2 k q2 hq2
   refine⟨k,phi l c3 D1 q2,rfl,by rw[←eD,List.getElem?_map,hq2];rfl,?_⟩
   rw[eph2,eph]
   rw[ep,ep2]at e
   simp only[pcE]at e ⊢
   rcases hr.pl with⟨e1,_⟩ | ⟨n0,qq,e1,hqq2,e2⟩
   ·omega
   ·have:n0=j2:=by omega
    subst this
    rw[hqq]at hqq2;cases hqq2
    exact e2
 have eM:∀(K d:Int),mkS p.q9 K d=mkS (phi l c3 D1 p).q9 K d:=by
  intro K d
  rw[eph,ep]
  unfold mkS
  rw[t1,t2,t3,t4]
  simp only[pcE]
 have eS:p.q9.q0=(phi l c3 D1 p).q9.q0:=by
  rw[eph,ep,t3];simp only[pcE]
 unfold Fq
 simp only[eK,eM,eS]
end
structure a4V(t:cW)(ids:List (Int×ByteArray)):Prop where
 th:m8 t=some (.inr (ids,0))
 sl:o4 t.z6=some 0
 ks:iQ 0 ids t.z6=some 0
 st:vQ t.z3 t.j7=some 0
 fl:Cq t.v9=some 0
 k1:kJ 0 ids t.v9=some 0
 k2:kj 0 ids t.v9=some 0
 sa:wZ t.z9=some 0
 ka:jZ 0 ids t.z9=some 0
 sp:oY t.w4=some 0
 bl:vX t.j5=some 0
 kb:jK 0 ids t.j5=some 0
 lo:qj ids t.x4=some 0
 rg:0≤t.q0.q5∧t.q0.q5≤t.q0.q8∧t.q0.q8≤1000000000000
 out:oK t=some false
theorem aBV(t:cW)(hz:Siz t):Ok (m8 t) (fun r=>(∃ids,r = .inr (ids,0))∨∃a e,e≠0∧r = .inl (a,e)):=by
 unfold m8
 refine a0 (fun _=>aV (.inr ⟨_,_,by omega,rfl⟩)) (fun _=>?_)
 refine f8 (Q:=tq (fun _=>True) (fun r:((List (Int×ByteArray))×Int) ⊕ ((List (Int×ByteArray))×Int)=>∃a e,e≠0∧r = .inl (a,e))) (Lz t.z3.length (fun _ _=>True) hz.th trivial (fun a i _ h2=>?_)) (fun e _=>aV (.inl ⟨_,rfl⟩)) (fun r hr=>aV (.inr (show ∃a e,e≠0∧r = .inl (a,e)from hr)))
 unfold rY
 dsimp only
 refine a0 (fun hi=>?_) (fun hi=>eW trivial)
 refine aq (QZ (by omega)) (fun y hy=>?_)
 refine aq (G5 y (hz.nTh _ (ew hy))) (fun r _=>?_)
 refine bX (fun h0=>eW ⟨_,_,h0,rfl⟩) (fun _=>?_)
 refine bK (fun _=>eW ⟨_,_,by omega,rfl⟩) (fun _=>?_)
 rw[sY (n:=t.z3.length) (by omega) hz.th]
 exact n5 ⟨by omega,rfl,trivial⟩
theorem UW{r:Int}{ids:List (Int×ByteArray)}{α:Type}{step:Int→Option (Int ⊕ (Unit ⊕ Int))}{q:Int}(h:(bif (!decide (r=0))then some r else((loop step 0).bind fun | .inl _=>some 0 | .inr rv=>some rv))=some q)(hq:q=0):r=0:=by
 by_cases e:r=0
 ·exact e
 ·rw[lk e]at h
  simp only[Bool.not_false,cond_true,ck]at h
  omega
theorem aQZ{t:cW}(hz:Siz t)(ht:t.z3.length≤1000000)(h:lq t=some 0):∃ids,a4V t ids:=by
 obtain⟨r1,e1,h1⟩:=aBV t hz
 unfold lq at h
 have htab:tx t=some 0:=by
  cases e:tx t with
  | none=>rw[e]at h;simp at h
  | some r =>
   rw[e,bk]at h
   by_cases h0:r=0
   ·rw[h0]
   ·rw[lk h0]at h
    simp only[Bool.not_false,cond_true,ck]at h
    exact absurd h h0
 rw[htab,bk]at h
 simp only[decide_true,Bool.not_true,cond_false]at h
 have hrg:0≤t.q0.q5∧t.q0.q5≤t.q0.q8∧t.q0.q8≤1000000000000:=by
  by_cases g1:t.q0.q5<0
  ·simp[g1]at h
  ·by_cases g2:t.q0.q8<t.q0.q5
   ·simp[g1,g2]at h
   ·by_cases g3:1000000000000<t.q0.q8
    ·simp[g1,g2,g3]at h
    ·omega
 have hout:oK t=some false:=by
  rw[lk (by omega : ¬t.q0.q5<0),cond_false,lk (by omega : ¬t.q0.q8<t.q0.q5),cond_false,lk (by omega : ¬(1000000000000:Int)<t.q0.q8),bk,cond_false]at h
  cases e:oK t with
  | none=>rw[e]at h;simp at h
  | some b =>
   cases b with
   | false=>rfl
   | true=>rw[e]at h;simp at h
 unfold tx at htab
 rw[e1]at htab
 rcases h1 with⟨ids,rfl⟩ | ⟨a,e,he,rfl⟩
 case inr =>
  simp only[bk]at htab
  rw[lk he]at htab
  simp only[Bool.not_false,cond_true,ck]at htab
  exact absurd htab he
 simp only[bk,decide_true,Bool.not_true,cond_false]at htab
 obtain⟨a1,b1,_⟩:=P3 t.z6 hz.sl hz.nSl
 rw[b1,bk]at htab
 obtain⟨a2,b2,_⟩:=zq a1 ids t.z6 hz.sl
 rw[b2,bk]at htab
 by_cases c2:a2=0
 case neg=>rw[lk c2]at htab;simp only[Bool.not_false,cond_true,ck]at htab;exact absurd htab c2
 subst c2
 have z1:a1=0:=UW (α:=Unit) (ids:=ids) b2 rfl
 subst z1
 simp only[decide_true,Bool.not_true,cond_false]at htab
 obtain⟨a3,b3,_⟩:=NX t.z3 t.j7 ht hz.st
 rw[b3,bk]at htab
 by_cases c3:a3=0
 case neg=>rw[lk c3]at htab;simp only[Bool.not_false,cond_true,ck]at htab;exact absurd htab c3
 subst c3
 simp only[decide_true,Bool.not_true,cond_false]at htab
 obtain⟨a4,b4,_⟩:=PY t.v9 hz.fl
 obtain⟨a5,b5,_⟩:=Aq a4 ids t.v9 hz.fl
 obtain⟨a6,b6,_⟩:=Ax a5 ids t.v9 hz.fl
 rw[b4,bk,b5,bk,b6,bk]at htab
 by_cases c6:a6=0
 case neg=>rw[lk c6]at htab;simp only[Bool.not_false,cond_true,ck]at htab;exact absurd htab c6
 subst c6
 have z5:a5=0:=UW (α:=Unit) (ids:=ids) b6 rfl
 subst z5
 have z4:a4=0:=UW (α:=Unit) (ids:=ids) b5 rfl
 subst z4
 simp only[decide_true,Bool.not_true,cond_false]at htab
 obtain⟨a7,b7,_⟩:=L2 t.z9 hz.sa hz.nSa
 obtain⟨a8,b8,_⟩:=xz a7 ids t.z9 hz.sa
 rw[b7,bk,b8,bk]at htab
 by_cases c8:a8=0
 case neg=>rw[lk c8]at htab;simp only[Bool.not_false,cond_true,ck]at htab;exact absurd htab c8
 subst c8
 have z7:a7=0:=UW (α:=Unit) (ids:=ids) b8 rfl
 subst z7
 simp only[decide_true,Bool.not_true,cond_false]at htab
 obtain⟨a9,b9,_⟩:=Xj t.w4 hz.sp hz.nSp
 rw[b9,bk]at htab
 by_cases c9:a9=0
 case neg=>rw[lk c9]at htab;simp only[Bool.not_false,cond_true,ck]at htab;exact absurd htab c9
 subst c9
 simp only[decide_true,Bool.not_true,cond_false]at htab
 obtain⟨d1,f1,_⟩:=L5 t.j5 hz.bl hz.nBl
 obtain⟨d2,f2,_⟩:=zx d1 ids t.j5 hz.bl
 rw[f1,bk,f2,bk]at htab
 by_cases g2:d2=0
 case neg=>rw[lk g2]at htab;simp only[Bool.not_false,cond_true,ck]at htab;exact absurd htab g2
 subst g2
 have z8:d1=0:=UW (α:=Unit) (ids:=ids) f2 rfl
 subst z8
 simp only[decide_true,Bool.not_true,cond_false]at htab
 obtain⟨d3,f3,_⟩:=Hx ids t.x4 hz.lo
 rw[f3,bk]at htab
 cases htab
 exact⟨ids,e1,b1,b2,b3,b4,b5,b6,b7,b8,b9,f1,f2,f3,hrg,hout⟩
theorem aYz{t:cW}{ids:List (Int×ByteArray)}(h:a4V t ids):lq t=some 0:=by
 have hrg:=h.rg
 unfold lq tx
 rw[h.th]
 simp only[bk,decide_true,Bool.not_true,cond_false,h.sl,h.ks,h.st,h.fl,h.k1,h.k2,h.sa,h.ka,h.sp,h.bl,h.kb,h.lo]
 rw[lk (by omega : ¬t.q0.q5<0),cond_false,lk (by omega : ¬t.q0.q8<t.q0.q5),cond_false,lk (by omega : ¬(1000000000000:Int)<t.q0.q8),bk,cond_false,h.out]
 rfl
structure OkT(t:cW)(ids:List (Int×ByteArray))(ix:List Int):Prop where
 few:aKY t
 siz:Siz t
 th:m8 t=some (.inr (ids,0))
 dx:rK t.z3=some ix
 dl:ix.length≤1000000
 sl:ValC t.z6
 ks:∀y∈t.z6,Option.isSome (nY y.q6 ids)=true
 st:∃E,SVs ix E ix.length none t.j7
 fl:(∀y∈t.v9,FlR y)∧t.v9.Pairwise (fun x y=>x.v8≤y.v8)
 k1:∀y∈t.v9,Option.isSome (nY y.q5.q6 ids)=true
 k2:∀y∈t.v9,Option.isSome (nY y.q8.q6 ids)=true
 sa:(∀y∈t.z9,SaR y)∧t.z9.Pairwise (fun x y=>x.j9≤y.j9)
 ka:∀y∈t.z9,Option.isSome (nY y.q6 ids)=true
 sp:CHs none t.w4
 sv:StV t.w4
 bl:pW (blP t.j5) t.j5
 kb:∀y∈t.j5,Option.isSome (nY y.q6 ids)=true
 lo:∀y∈t.x4,LoR ids y
 rg:0≤t.q0.q5∧t.q0.q5≤t.q0.q8∧t.q0.q8≤1000000000000
theorem a8x{t:cW}(hz:Siz t)(hf:aKY t)(h:lq t=some 0):∃ids ix,OkT t ids ix:=by
 have:=hf.th;have:=hf.sl;have:=hf.st;have:=hf.fl;have:=hf.sa;have:=hf.sp;have:=hf.bl;have:=hf.lo
 obtain⟨ids,P⟩:=aQZ hz (by omega) h
 obtain⟨ix,dl,dx,hst⟩:=amK t.z3 t.j7 (by omega) (by omega)
 have h1:=(amX _ (by omega) hz.nSl).1 P.sl
 have hsv:=(W7 _ hz.sp hz.nSp).of_eq P.sp rfl
 exact⟨ids,ix,hf,hz,P.th,dx,dl,⟨h1.1.1,h1.1.2,h1.2.1,h1.2.2⟩,bax.1 ((ayz ids _ (by omega)).1 P.ks),hst.1 P.st,(auX _ (by omega)).1 P.fl,bax.1 ((amQ ids _ (by omega)).1 P.k1),bax.1 ((amV ids _ (by omega)).1 P.k2),(acX _ (by omega) hz.nSa).1 P.sa,bax.1 ((axj ids _ (by omega)).1 P.ka),(arQ _).1 ((M5 _ (by omega) hz.nSp).1 P.sp),hsv,(afJ _ (by omega) hz.nBl).1 P.bl,bax.1 ((avK ids _ (by omega)).1 P.kb),bax.1 ((agV ids _ (by omega)).1 P.lo),P.rg⟩
theorem a7q{t:cW}{ids:List (Int×ByteArray)}{ix:List Int}(O:OkT t ids ix)(ho:oK t=some false):lq t=some 0:=by
 have hz:=O.siz
 have hf:=O.few
 have:=hf.th;have:=hf.sl;have:=hf.st;have:=hf.fl;have:=hf.sa;have:=hf.sp;have:=hf.bl;have:=hf.lo
 obtain⟨ix',dl,dx,hst⟩:=amK t.z3 t.j7 (by omega) (by omega)
 have:ix'=ix:=by have:=O.dx;rw[dx]at this;exact Option.some.inj this
 subst this
 exact aYz (ids:=ids) ⟨O.th,(amX _ (by omega) hz.nSl).2 ⟨⟨O.sl.rows,O.sl.srt⟩,O.sl.nest,O.sl.apart⟩,(ayz ids _ (by omega)).2 (bax.2 O.ks),hst.2 O.st,(auX _ (by omega)).2 O.fl,(amQ ids _ (by omega)).2 (bax.2 O.k1),(amV ids _ (by omega)).2 (bax.2 O.k2),(acX _ (by omega) hz.nSa).2 O.sa,(axj ids _ (by omega)).2 (bax.2 O.ka),(M5 _ (by omega) hz.nSp).2 ((arQ _).2 O.sp),(afJ _ (by omega) hz.nBl).2 O.bl,(avK ids _ (by omega)).2 (bax.2 O.kb),(agV ids _ (by omega)).2 (bax.2 O.lo),O.rg,ho⟩
def p8(t:cW)(c:az)(r:List aX):cW:={q0:={q5:=0,q8:=c.q8-c.q5},z3:=t.z3,z6:=r,j7:=t.j7.filterMap (cSt c),v9:=t.v9.filterMap (cFl c),z9:=t.z9.filterMap (cSa c),w4:=gR c t.w4,j5:=t.j5.filterMap (cBl c),x4:=t.x4.filterMap (cLs c)}
theorem aWx{ix:List Int}{E n:Int}:∀(l:List bj) (p:Option bj),SVs ix E n p l→∀y∈l,A9 y.q0
 | [],_,_,y,hy=>by simp at hy
 | z::r,p,h,y,hy=>by
  have h1:StO ix z∧SVs ix E n (some z) r:=by cases p with
   | none=>exact⟨h.1,h.2.2⟩
   | some x=>exact⟨h.1,h.2.2⟩
  rcases jw.1 hy with rfl | hy
  ·exact h1.1.2.1
  ·exact aWx r (some z) h1.2 y hy
section
variable {t:cW} {ids:List (Int×ByteArray)} {ix:List Int}
theorem OkT.spS(O:OkT t ids ix):∀y∈t.j7,A9 y.q0:=by
 obtain⟨E,h⟩:=O.st
 exact aWx _ _ h
theorem OkT.spB(O:OkT t ids ix):∀y∈t.j5,A9 y.q0:=fun y hy=>(((arJ _).1 O.bl).1 y hy).1.2
theorem OkT.spL(O:OkT t ids ix):∀y∈t.x4,A9 y.q0:=fun y hy=>(O.lo y hy).2.1
theorem aYK{s:az}{e:Int}(h:lq t=some e)(he:e≠0):pY t s=some (noT [],e):=by
 unfold pY
 rw[h,bk,lk he];rfl
theorem aYV{s:az}(h:lq t=some 0)(hs : ¬A9 s):pY t s=some (noT [],1):=by
 unfold pY
 rw[h,bk,decide_eq_true rfl,Bool.not_true,cond_false,sZ,bk,lk (show ¬(0≤s.q5∧s.q5<s.q8∧s.q8≤1000000000000)from hs)];rfl
theorem atY{s:az}(h:lq t=some 0)(hs:A9 s)(hc:min s.q8 t.q0.q8≤max s.q5 t.q0.q5):pY t s=some (noT t.z3,0):=by
 unfold pY
 rw[h,bk,decide_eq_true rfl,Bool.not_true,cond_false,sZ,bk,decide_eq_true (show 0≤s.q5∧s.q5<s.q8∧s.q8≤1000000000000 from hs),Bool.not_true,cond_false,decide_eq_true hc];rfl
theorem aVY(O:OkT t ids ix)(h:lq t=some 0){s:az}(hs:A9 s){c:az}(hcd:c = {q5:=max s.q5 t.q0.q5,q8:=min s.q8 t.q0.q8})(hc:CSp c):∃D m r,CutS t.z6 c D m r∧pY t s=some (p8 t c r,0):=by
 have hf:=O.few
 have:=hf.th;have:=hf.sl;have:=hf.st;have:=hf.fl;have:=hf.sa;have:=hf.sp;have:=hf.bl;have:=hf.lo
 have:=hc.a;have hcb:=hc.b;have:=hc.d
 obtain⟨D,m,r,hC⟩:=a2j (c:=c) hf.sl O.sl hc
 refine⟨D,m,r,hC,?_⟩
 unfold pY
 rw[h,bk,decide_eq_true rfl,Bool.not_true,cond_false,sZ,bk,decide_eq_true (show 0≤s.q5∧s.q5<s.q8∧s.q8≤1000000000000 from hs),Bool.not_true,cond_false]
 have e1:max s.q5 t.q0.q5=c.q5:=by rw[hcd]
 have e2:min s.q8 t.q0.q8=c.q8:=by rw[hcd]
 rw[e1,e2,lk (by omega : ¬c.q8≤c.q5),cond_false]
 rw[show({q5:=c.q5,q8:=c.q8}:az)=c from rfl,hC.eq,awV _ c hf.st hc O.spS,aAY _ c hf.fl hc,apX _ c hf.sa hc,(aFK hf.sp O.sv hc).1,azj _ c hf.bl hc O.spB,aux _ c hf.lo hc O.spL]
 simp only[bk]
 rw[bQ (n:=c.q8-c.q5) (by omega)]
 rfl
theorem aJx(c:az):∀(l:List bJ),∀z∈gR c l,∃y∈l,z.q7=y.q7
 | [],z,hz=>by simp[gR]at hz
 | y::l,z,hz=>by
  simp only[gR]at hz
  rcases kw.1 hz with hz | hz
  ·refine⟨y,by simp,?_⟩
   split at hz
   ·split at hz
    ·simp only[gw]at hz;subst hz;rfl
    ·simp at hz
   ·split at hz
    ·simp only[gw]at hz;subst hz;rfl
    ·simp at hz
  ·obtain⟨q,h1,h2⟩:=aJx c l z hz
   exact⟨q,List.mem_cons_of_mem _ h1,h2⟩
theorem a4W{c:az}(hc:CSp c):∀(l:List bJ),∀z∈gR c l,0≤z.j9∧z.j9<c.q8-c.q5
 | [],z,hz=>by simp[gR]at hz
 | y::l,z,hz=>by
  have:=hc.b
  simp only[gR]at hz
  rcases kw.1 hz with hz | hz
  ·split at hz
   ·split at hz
    ·simp only[gw]at hz;subst hz;simp only[stN];omega
    ·simp at hz
   ·split at hz
    ·simp only[gw]at hz;subst hz;simp only[stN];omega
    ·simp at hz
  ·exact a4W hc l z hz
theorem aUY(O:OkT t ids ix){c:az}(hc:CSp c){D:List ax}{m:List (Int×Int)}{r:List aX}(hC:CutS t.z6 c D m r):OkT (p8 t c r) ids ix∧lq (p8 t c r)=some 0:=by
 have hf:=O.few
 have hz:=O.siz
 have:=hf.th;have hsl:=hf.sl;have hst:=hf.st;have hfl:=hf.fl;have hsa:=hf.sa;have hsp:=hf.sp;have hbl:=hf.bl;have hlo:=hf.lo
 have hca:=hc.a;have hcb:=hc.b;have hcd:=hc.d
 have lr:r.length≤1000:=by rw[hC.len,hC.perm.length_eq];have:=aoQ t.z6 c;omega
 have l1:=List.length_filterMap_le (cSt c) t.j7
 have l2:=List.length_filterMap_le (cFl c) t.v9
 have l3:=List.length_filterMap_le (cSa c) t.z9
 have l4:=(aFK hf.sp O.sv hc).2
 have l5:=List.length_filterMap_le (cBl c) t.j5
 have l6:=List.length_filterMap_le (cLs c) t.x4
 have V1:=ahz hC O.sl hc
 have orig:∀y∈r,∃y0∈t.z6,y.q6=y0.q6∧y.q7=y0.q7∧y.q0=tz c y0.q0∧nX c y0.q0:=by
  intro y hy
  obtain⟨j,hj⟩:=List.getElem?_of_mem hy
  obtain⟨n,y0,hy0,g,_,hr⟩:=agW hC O.sl hc hj
  exact⟨y0,ew hy0,hr.th,hr.nm,hr.sp,g⟩
 have sz:Siz (p8 t c r):=by
  refine⟨by simp only[p8];omega,by simp only[p8];omega,by simp only[p8];omega,by simp only[p8];omega,by simp only[p8];omega,by simp only[p8];omega,by simp only[p8];omega,by simp only[p8];omega,hz.nTh,fun x hx=>?_,A6 fun y hy z hz2=>?_,fun x hx=>?_,A6 fun y hy z hz2=>?_⟩
  ·obtain⟨y0,h0,_,e,_⟩:=orig x hx
   rw[e];exact hz.nSl y0 h0
  ·obtain⟨_,rfl⟩:=R3 hz2
   exact hz.nSa y hy
  ·obtain⟨y,hy,e⟩:=aJx c _ x hx
   rw[e];exact hz.nSp y hy
  ·obtain⟨_,rfl⟩:=Q7 hz2
   exact hz.nBl y hy
 have fw:aKY (p8 t c r):=by
  refine⟨hf.th,lr,by simp only[p8];omega,by simp only[p8];omega,by simp only[p8];omega,by simp only[p8];omega,by simp only[p8];omega,by simp only[p8];omega,A6 fun y hy z hz2=>?_,A6 fun y hy z hz2=>?_⟩
  ·obtain⟨_,rfl⟩:=R3 hz2
   exact hf.ka y hy
  ·obtain⟨_,rfl⟩:=Q7 hz2
   exact hf.kb y hy
 have chs:CHs none (gR c t.w4):=Vx hc t.w4 none none (fun w hw=>by cases hw) (fun x hx=>by cases hx) O.sv.srt O.sp
 have hsv:StV (gR c t.w4):=(W7 (gR c t.w4) (by omega) sz.nSp).of_eq ((M5 (gR c t.w4) (by omega) sz.nSp).2 ((arQ _).2 chs)) rfl
 have O':OkT (p8 t c r) ids ix:=by
  refine⟨fw,sz,?_,O.dx,O.dl,V1,fun y hy=>?_,?_,aTZ hc O.fl,A6 fun y hy z hz2=>?_,A6 fun y hy z hz2=>?_,aDj hc O.sa,A6 fun y hy z hz2=>?_,chs,hsv,aMZ hc O.bl,A6 fun y hy z hz2=>?_,A6 fun y hy z hz2=>?_,by simp only[p8];omega⟩
  ·have e:m8 (p8 t c r)=m8 t:=by
    unfold m8
    have:rY (p8 t c r)=rY t:=rfl
    rw[this];rfl
   rw[e];exact O.th
  ·obtain⟨y0,h0,e,_⟩:=orig y hy
   rw[e];exact O.ks y0 h0
  ·obtain⟨E,hE⟩:=O.st
   by_cases g:c.q5<E
   ·exact⟨_,adZ hc g t.j7 none none rfl (fun x hx=>by cases hx) hE⟩
   ·refine⟨0,?_⟩
    have:t.j7.filterMap (cSt c)=[]:=by
     rw[List.filterMap_eq_nil_iff]
     intro y hy
     have hle:∀(l:List bj) (p:Option bj),SVs ix E ix.length p l→∀y∈l,y.q0.q8≤E:=by
      intro l
      induction l with
      | nil=>intro p _ y hy;simp at hy
      | cons z l ih =>
       intro p h y hy
       have h1:SVs ix E ix.length (some z) l:=by cases p with
        | none=>exact h.2.2
        | some x=>exact h.2.2
       rcases jw.1 hy with rfl | hy
       ·exact aDq l y h1
       ·exact ih (some z) h1 y hy
     have:=hle _ _ hE y hy
     exact if_neg (by unfold nX;omega)
    show SVs ix 0 ix.length none (t.j7.filterMap (cSt c))
    rw[this];exact trivial
  ·obtain⟨_,_,rfl⟩:=XX hz2
   exact O.k1 y hy
  ·obtain⟨_,_,rfl⟩:=XX hz2
   exact O.k2 y hy
  ·obtain⟨_,rfl⟩:=R3 hz2
   exact O.ka y hy
  ·obtain⟨_,rfl⟩:=Q7 hz2
   exact O.kb y hy
  ·obtain⟨g,rfl⟩:=a6x hz2
   have:=O.lo y hy
   exact⟨this.1,agZ hc this.2.1 g,this.2.2⟩
 refine⟨O',a7q O' ?_⟩
 unfold oK
 have wi:∀s:az,nX c s→wiB (tz c s) (p8 t c r).q0=true:=by
  intro s g
  unfold nX at g
  show(decide ((0:Int)≤max s.q5 c.q5-c.q5)&&decide (min s.q8 c.q8-c.q5≤c.q8-c.q5))=true
  rw[decide_eq_true (by omega),decide_eq_true (by omega)];rfl
 have ii:∀n:Int,CJ c n→inB (p8 t c r).q0 (n-c.q5)=true:=by
  intro n g
  unfold CJ at g
  show(decide ((0:Int)≤n-c.q5)&&decide (n-c.q5<c.q8-c.q5))=true
  rw[decide_eq_true (by omega),decide_eq_true (by omega)];rfl
 have a1:((p8 t c r).z6.all fun y=>wiB y.q0 (p8 t c r).q0)=true:=lw.2 fun y hy=>by
  obtain⟨y0,_,_,_,e,g⟩:=orig y hy
  rw[e];exact wi _ g
 have a2:((p8 t c r).j7.all fun y=>wiB y.q0 (p8 t c r).q0)=true:=lw.2 (A6 fun y _ z hz2=>by
  obtain⟨g,rfl⟩:=a9X hz2
  exact wi _ g)
 have a3:((p8 t c r).j5.all fun y=>wiB y.q0 (p8 t c r).q0)=true:=lw.2 (A6 fun y _ z hz2=>by
  obtain⟨g,rfl⟩:=Q7 hz2
  exact wi _ g)
 have a4:((p8 t c r).v9.all fun y=>(inB (p8 t c r).q0 y.w9&&inB (p8 t c r).q0 y.v8))=true:=lw.2 (A6 fun y _ z hz2=>by
  obtain⟨g1,g2,rfl⟩:=XX hz2
  simp only[aaX,ii _ g1,ii _ g2,Bool.and_self])
 have a5:((p8 t c r).z9.all fun y=>inB (p8 t c r).q0 y.j9)=true:=lw.2 (A6 fun y _ z hz2=>by
  obtain⟨g1,rfl⟩:=R3 hz2
  exact ii _ g1)
 have a6:((p8 t c r).w4.all fun y=>inB (p8 t c r).q0 y.j9)=true:=lw.2 fun y hy=>by
  have:=a4W hc _ y hy
  show(decide ((0:Int)≤y.j9)&&decide (y.j9<c.q8-c.q5))=true
  rw[decide_eq_true (by omega),decide_eq_true (by omega)];rfl
 rw[aNq _ _ sz.sl,aLq _ _ sz.st,aJY _ _ sz.bl,aVK _ _ sz.fl,aCq _ _ sz.sa,aWK _ _ sz.sp,a1,a2,a3,a4,a5,a6]
 rfl
end
theorem aiQ{t:cW}(hz:Siz t)(hf:aKY t)(a b:az):Ok ((pY t a).bind fun r3=>(((bif (!decide (r3.2=0))then some true else(bif (decide (r3.1.q0.q8=0))then some true else((lz b).bind fun r23=>some (!r23)))):Option Bool).bind fun v4=>some (r3,v4))) (fun q=>q.2=true∨∃ids ix c1 D1 m1 r1,OkT t ids ix∧lq t=some 0∧CSp c1∧c1 = {q5:=max a.q5 t.q0.q5,q8:=min a.q8 t.q0.q8}∧CutS t.z6 c1 D1 m1 r1∧q.1=(p8 t c1 r1,0)∧q.2=false∧A9 b∧A9 a):=by
 have hth:=hf.th
 obtain⟨e,he,_⟩:=a0Q t hz (by omega)
 by_cases h0:e=0
 case neg =>
  rw[aYK he h0,bk,lk h0]
  exact aV (.inl rfl)
 subst h0
 by_cases h1:A9 a
 case neg =>
  rw[aYV he h1,bk]
  exact aV (.inl rfl)
 by_cases h2:min a.q8 t.q0.q8≤max a.q5 t.q0.q5
 ·rw[atY he h1 h2,bk]
  exact aV (.inl rfl)
 ·obtain⟨ids,ix,O⟩:=a8x hz hf he
  have hrg:=O.rg
  have hc1:CSp {q5:=max a.q5 t.q0.q5,q8:=min a.q8 t.q0.q8}:=by
   unfold A9 at h1
   exact⟨by simp only;omega,by simp only;omega,by simp only;omega⟩
  obtain⟨D1,m1,r1,hC,hcut⟩:=aVY O he h1 rfl hc1
  rw[hcut,bk]
  have hb:=hc1.b
  simp only at hb
  have ec:decide ((p8 t {q5:=max a.q5 t.q0.q5,q8:=min a.q8 t.q0.q8} r1).q0.q8=0)=false:=lk (show ¬min a.q8 t.q0.q8-max a.q5 t.q0.q5=0 by omega)
  simp only[decide_true,Bool.not_true,cond_false]
  rw[ec,cond_false,sZ]
  simp only[bk]
  by_cases h3:A9 b
  ·refine aV (.inr ⟨ids,ix,_,D1,m1,r1,O,he,hc1,rfl,hC,rfl,?_,h3,h1⟩)
   simp only
   rw[decide_eq_true (show 0≤b.q5∧b.q5<b.q8∧b.q8≤1000000000000 from h3)];rfl
  ·refine aV (.inl ?_)
   simp only
   rw[lk (show ¬(0≤b.q5∧b.q5<b.q8∧b.q8≤1000000000000)from h3)];rfl
theorem traceCutTwice_holds(t:cW)(a b:az)(h:rX t):gz t a b=some true:=by
 have:Ok (gz t a b) (fun v=>v=true):=by
  unfold gz
  rw[aBJ]
  obtain⟨fb,hfb,hfb2⟩:=bbX t
  rw[hfb,bk]
  cases fb with
  | false=>exact aV rfl
  | true =>
   have hf:=bcY h (hfb2 rfl)
   have hz:=aXJ h
   rw[Bool.not_true,cond_false]
   obtain⟨q,hq,hcase⟩:=aiQ hz hf a b
   cases hr3:pY t a with
   | none=>rw[hr3]at hq;simp at hq
   | some r3 =>
    rw[hr3,bk]at hq
    rw[bk]
    cases hv:((bif (!decide (r3.2=0))then some true else(bif (decide (r3.1.q0.q8=0))then some true else((lz b).bind fun r23=>some (!r23)))):Option Bool)with
    | none=>rw[hv]at hq;simp at hq
    | some v4 =>
     rw[hv,bk]at hq
     cases hq
     rw[bk]
     rcases hcase with hv4 | ⟨ids,ix,c1,D1,m1,r1,O,he,hc1,hcd,hC1,e1,e2,hsb,hsa⟩
     ·simp only at hv4
      subst hv4
      exact aV rfl
     ·simp only at e1 e2
      subst e1 e2
      simp only[cond_false]
      obtain⟨O1,he1⟩:=aUY O hc1 hC1
      have hca:=hc1.a;have hcb:=hc1.b;have hcdd:=hc1.d
      have hbo:=hsb;have hao:=hsa
      unfold A9 at hbo hao
      have ef:max a.q5 t.q0.q5=c1.q5:=by rw[hcd]
      have eg:min a.q8 t.q0.q8=c1.q8:=by rw[hcd]
      have et:(p8 t c1 r1).q0.q8=c1.q8-c1.q5:=rfl
      have e0:(p8 t c1 r1).q0.q5=0:=rfl
      rw[ef,et,bQ (n:=c1.q5+b.q8) (by omega),bQ (n:=c1.q5+(c1.q8-c1.q5)) (by omega),bQ (n:=c1.q5+b.q5) (by omega)]
      by_cases g:min b.q8 (c1.q8-c1.q5)≤b.q5
      ·rw[atY he1 hsb (by rw[et,e0];omega),bk,decide_eq_true (by omega:min (c1.q5+b.q8) (c1.q5+(c1.q8-c1.q5))≤c1.q5+b.q5),cond_true]
       exact aV rfl
      ·have hc2:CSp {q5:=max b.q5 (p8 t c1 r1).q0.q5,q8:=min b.q8 (p8 t c1 r1).q0.q8}:=by
        rw[et,e0]
        exact⟨by simp only;omega,by simp only;omega,by simp only;omega⟩
       obtain⟨D2,m2,r2,hC2,hcut2⟩:=aVY O1 he1 hsb rfl hc2
       have hso:A9 {q5:=c1.q5+b.q5,q8:=min (c1.q5+b.q8) (c1.q5+(c1.q8-c1.q5))}:=by
        unfold A9;simp only;omega
       have hc3:CSp {q5:=max (c1.q5+b.q5) t.q0.q5,q8:=min (min (c1.q5+b.q8) (c1.q5+(c1.q8-c1.q5))) t.q0.q8}:=by
        have:=O.rg
        exact⟨by simp only;omega,by simp only;omega,by simp only;omega⟩
       obtain⟨D3,m3,r3',hC3,hcut3⟩:=aVY O he hso rfl hc3
       rw[hcut2,bk,lk (by omega : ¬min (c1.q5+b.q8) (c1.q5+(c1.q8-c1.q5))≤c1.q5+b.q5),cond_false,hcut3,bk]
       simp only[decide_true,cond_true]
       have C:C3 c1 {q5:=max b.q5 (p8 t c1 r1).q0.q5,q8:=min b.q8 (p8 t c1 r1).q0.q8} {q5:=max (c1.q5+b.q5) t.q0.q5,q8:=min (min (c1.q5+b.q8) (c1.q5+(c1.q8-c1.q5))) t.q0.q8}:=by
        refine⟨hc1,hc2,?_,?_,?_⟩<;>simp only[et,e0]<;>omega
       generalize hk2:({q5:=max b.q5 (p8 t c1 r1).q0.q5,q8:=min b.q8 (p8 t c1 r1).q0.q8}:az)=c2 at *
       generalize hk3:({q5:=max (c1.q5+b.q5) t.q0.q5,q8:=min (min (c1.q5+b.q8) (c1.q5+(c1.q8-c1.q5))) t.q0.q8}:az)=c3 at *
       have eq:p8 (p8 t c1 r1) c2 r2=p8 t c3 r3':=by
        unfold p8
        simp only
        rw[aAz C O.sl hC1 hC2 hC3,a4q C O.spS,a0V C,aZz C,aFY C _ O.sv.srt,a1z C O.spB,aYY C O.spL]
        have:=C.f;have:=C.t
        congr 2
        omega
       obtain⟨O2,_⟩:=aUY O1 hc2 hC2
       rw[aqK _ _ O2.few,eq,aQX]
       exact aV rfl
 obtain⟨v,e,rfl⟩:=this
 exact e
end Go.VM
