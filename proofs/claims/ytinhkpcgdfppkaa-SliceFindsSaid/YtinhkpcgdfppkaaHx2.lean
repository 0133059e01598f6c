/- The functions of the layer, walked by symbols in the raw machine, and their contracts. -/
import Derived.Test.YtinhkpcgdfppkaaHx1
import Derived.Test.YtinhkpcgdfppkaaRows
import Derived.KernelRfl
namespace Go.RM
open Go Go.VM
section
variable {α:Type} {enc:α→X}
theorem arV{β:Type}{p:Prop}[Decidable p]{a b:Option β}{x:β}(h:(bif !decide p then a else b)=some x):(¬p∧a=some x)∨(p∧b=some x):=by
 by_cases hp:p
 ·rw[decide_eq_true hp]at h;exact .inr ⟨hp,h⟩
 ·rw[xw hp]at h;exact .inl ⟨hp,h⟩
set_option maxHeartbeats 16000000 in
theorem aJz{orc:cK}{b m:Nat}{f:FuncId}{caps:List X}{c:α→α→Option Int}{dom:α→Prop}{rec:List α→Int→Int→Int→Option (List α)}
  (hrec:∀(s:S) (l l':List α) (p1 p2 p3:Int),Sb b s→b≤m→s.h.get m=some (.cells aK (l.map enc))→CmpOk orc b m f caps enc c dom s→(∀x∈l,dom x)→rec l p1 p2 p3=some l'→Cp orc yJ bW [.c (.sl m 1 0 l.length),iV p1,iV p2,iV p3,.c (.fn f caps)] s (fun k=>b≤k) True fun _ s'=>ArK b s s' m (l'.map enc)∧Fit l l')
  {s:S} {l l':List α} {p1 p2 p3:Int} (hS:Sb b s) (hbm:b≤m) (hm:s.h.get m=some (.cells aK (l.map enc))) (hc:CmpOk orc b m f caps enc c dom s) (hd:∀x∈l,dom x) (hF:abZ c rec l p1 p2 p3=some l') :
  Cp orc yJ bW [.c (.sl m 1 0 l.length),iV p1,iV p2,iV p3,.c (.fn f caps)] s (fun k=>b≤k) True fun _ s'=>ArK b s s' m (l'.map enc)∧Fit l l':=by
 refine lj (rf:=fQ) rfl ?_
 unfold fQ
 obtain⟨Γ,hΓ⟩ : ∃Γ,Γ=ofL [V.c (.sl m 1 0 l.length),iV p1,iV p2,iV p3,.c (.fn f caps)] 0 .lf:=⟨_,rfl⟩
 have g0:look Γ 0 = .c (.sl m 1 0 l.length):=by rw[hΓ];rfl
 have g1:look Γ 1=iV p1:=by rw[hΓ];rfl
 have g2:look Γ 2=iV p2:=by rw[hΓ];rfl
 have g3:look Γ 3=iV p3:=by rw[hΓ];rfl
 have g4:look Γ 4 = .c (.fn f caps):=by rw[hΓ];rfl
 rw[←hΓ]
 try clear G
 clear hΓ
 unfold abZ at hF
 have hmc:=hS.lt hm
 have hle:=hS.le
 refine aJ ?_
 replace G:=bk g0 (bk g1 (bk g2 (bk g3 g4)))
 refine aJ (aj ?_)
 refine qV ?_
 refine qV ?_
 refine qP ?_
 refine qP ?_
 refine aV ?_
 dsimp only[aY]
 rcases kX hF with⟨hlt,hF⟩ | ⟨hlt,hF⟩
 ·refine bq (uz (by simp only[evS,Nat.reduceEqDiff,reduceIte,g0,g1,g2,g3,g4];try rfl) hlt) ?_
  obtain⟨e,hlp,hF⟩:=ak.1 hF
  obtain⟨_,hlq,hF⟩:=ak.1 hF
  cases hF
  replace G:=bk g0 (bk g1 (bk g2 (bk g3 g4)))
  refine aJ (aj ?_)
  refine qV ?_
  refine qV ?_
  refine aV ?_
  dsimp only[aY]
  refine aJ (aj ?_)
  refine qV ?_
  refine qV ?_
  refine aV ?_
  dsimp only[aY]
  refine fj (fun Γ t=>look Γ 0 = .c (.sl m 1 0 l.length)∧look Γ 1=iV p1∧look Γ 10=iV e∧ArK b s t m (l.map enc)) ?_ ?_
  ·refine cX (p7 hlp (fun st Γ t=>look Γ 0 = .c (.sl m 1 0 l.length)∧look Γ 1=iV p1∧look Γ 4 = .c (.fn f caps)∧look Γ 10=iV st.1∧look Γ 11=iV st.2∧ArK b s t m (l.map enc)) ⟨lk,lk,lk,lk,lk,ArK.refl hS hm⟩ ?_)
   try clear G
   clear g0 g1 g2 g3 g4 hlp hlt hm hS hmc hle Γ
   rintro⟨i,j⟩ Γ t x ⟨g0,g1,g4,g10,g11,hA⟩ hx hfin
   simp only at g10 g11
   have hSt:=hA.sb
   have hmt:=hA.self
   have hmc:=hSt.lt hmt
   have hbt:=hSt.le
   have hct:=hc.step hA
   unfold N4 at hx
   simp only at hx
   refine aJ ?_
   replace G:=bk g0 (bk g1 (bk g4 (bk g10 g11)))
   refine aJ (aj ?_)
   refine qV ?_
   refine qV ?_
   refine qP ?_
   refine aV ?_
   dsimp only[aY]
   rcases kX hx with⟨hlt,hx⟩ | ⟨hlt,hx⟩
   ·refine bq (uz (by simp only[evS,Nat.reduceEqDiff,reduceIte,g0,g1,g4,g10,g11];try rfl) hlt) (eX ?_)
    dsimp only[aY]
    obtain⟨y1,h1,hx⟩:=ak.1 hx
    obtain⟨y2,h2,hx⟩:=ak.1 hx
    obtain⟨r,hr,hx⟩:=ak.1 hx
    obtain⟨j1,e1,k1,l1,_⟩:=qZ h1
    obtain⟨j2,e2,k2,l2,_⟩:=qZ h2
    have c1:=oZ (enc:=enc) k1
    have c2:=oZ (enc:=enc) k2
    refine cX ?_
    replace G:=bk g0 (bk g1 (bk g4 (bk g10 g11)))
    refine aJ (aj ?_)
    refine qV ?_
    refine qV ?_
    refine qP ?_
    refine qP ?_
    refine qP ?_
    refine qP ?_
    refine qV ?_
    refine aV ?_
    dsimp only[aY]
    rw[e1]at hx
    replace G:=bk g0 (bk g1 (bk g4 (bk g10 (bk g11 (bk e1 e2)))))
    refine aJ (kj rfl ?_)
    refine rV ?_
    refine rV ?_
    refine rV ?_
    refine rX ?_
    refine tQ rfl (by first | exact MS.load1 (by simp only[evS,Nat.reduceEqDiff,reduceIte,G];first | done | rfl) (by assumption) (by first | rfl | assumption | (simp only[kw,jw,G];done) | simp) | exact MS.loadI1 (by simp only[evS,Nat.reduceEqDiff,reduceIte,G];first | done | rfl) | exact MS.loadI2 (by simp only[evS,Nat.reduceEqDiff,reduceIte,G];first | done | rfl)) (fun k hk=>by first | exact False.elim hk | (dsimp only at hk ⊢;omega) | omega) (fun x hx=>by simp at hx) ?_
    refine rV ?_
    refine rV ?_
    refine rX ?_
    refine rL ?_
    refine J1 rfl (by simp only[evS,Nat.reduceEqDiff,reduceIte,G];first | done | rfl) (by simp only[qk,List.map_nil,List.cons_append,List.nil_append,evS,Nat.reduceEqDiff,reduceIte,G];first | done | rfl) hSt (fun _ h => h) (by intro x hx;simp only[List.nil_append,List.cons_append,List.mem_cons,List.not_mem_nil,or_false]at hx;rcases hx with rfl | rfl<;>first | exact .inl (by dsimp only;decide) | (refine .inr fun k => ?_;refine⟨?_,?_,?_⟩<;>(intro hk;(try dsimp only at hk);first | exact hk.1.elim | exact hk.2.elim | omega))) (Cp.mono (hct.at hSt (hd _ (nw k1)) (hd _ (nw k2)) hr) (fun _ h => h) (fun h => h) ?_)
    intro v1 s1 hq1
    obtain⟨rfl,hSc,hKc⟩:=hq1
    refine⟨hSc,?_⟩
    intro σ e5 e6 hSσ
    replace hmt:σ.h.get m=some (.cells aK (l.map enc)):=by rw[e5];exact(hKc.2 m hmc).trans hmt
    refine rP ?_
    refine oq ?_
    dsimp only[aY]
    have hA2:ArK b s σ m (l.map enc):=hA.trans ⟨hSσ,hmt,by rw[e6];exact hKc.1,fun k hk _=>by rw[e5];exact hKc.2 k hk⟩
    rcases kX hx with⟨hlr,hx⟩ | ⟨hlr,hx⟩
    ·refine bq (uz (by simp only[evS,Nat.reduceEqDiff,reduceIte,g0,g1,g4,g10,g11,e1,e2];try rfl) hlr) ?_
     cases hx
     replace G:=bk g0 (bk g1 (bk g4 (bk g10 (bk g11 (bk e1 e2)))))
     refine aj ?_
     refine qV ?_
     refine qP ?_
     refine qV ?_
     refine aV ?_
     try dsimp only[aY]
     exact⟨_,rfl,lk,lk,lk,lk,lk,hA2⟩
    ·skip
     refine bq (tx (by simp only[evS,Nat.reduceEqDiff,reduceIte,g0,g1,g4,g10,g11,e1,e2];try rfl) hlr) ?_
     cases hx
     replace G:=bk g0 (bk g1 (bk g4 (bk g10 (bk g11 (bk e1 e2)))))
     refine aj ?_
     refine qV ?_
     refine qV ?_
     refine aV ?_
     try dsimp only[aY]
     exact⟨_,rfl,lk,lk,lk,lk,lk,hA2⟩
   ·skip
    refine bq (tx (by simp only[evS,Nat.reduceEqDiff,reduceIte,g0,g1,g4,g10,g11];try rfl) hlt) (i9 ?_)
    cases hx
    have:=hfin _ rfl
    subst this
    exact⟨(by simp only[evS,Nat.reduceEqDiff,reduceIte,g0,g1,g4,g10,g11];try rfl),(by simp only[evS,Nat.reduceEqDiff,reduceIte,g0,g1,g4,g10,g11];try rfl),(by simp only[evS,Nat.reduceEqDiff,reduceIte,g0,g1,g4,g10,g11];try rfl),hA⟩
  ·try clear G
   clear g0 g1 g2 g3 g4 Γ
   rintro Γ t ⟨g0,g1,g10,hA⟩
   refine aJ ?_
   replace G:=bk g0 (bk g1 g10)
   refine aJ (aj ?_)
   refine qV ?_
   refine qV ?_
   refine aV ?_
   dsimp only[aY]
   refine cX (p7 hlq (fun st Γ t=>look Γ 0 = .c (.sl m 1 0 l.length)∧look Γ 10=iV e∧look Γ 13=iV st.2∧ArK b s t m (st.1.map enc)∧Fit l st.1) ⟨lk,lk,lk,hA,Fit.refl _⟩ ?_)
   try clear G
   clear g0 g1 g10 hlq hA hm hS hmc hle Γ
   rintro⟨a,i⟩ Γ t x ⟨g0,g10,g13,hA,hf⟩ hx hfin
   simp only at g13 hA hf
   have hl:=hf.1
   have hSt:=hA.sb
   have hmt:=hA.self
   have hmc:=hSt.lt hmt
   have hbt:=hSt.le
   unfold M9 at hx
   simp only at hx
   refine aJ ?_
   replace G:=bk g0 (bk g10 g13)
   refine aJ (aj ?_)
   refine qV ?_
   refine qV ?_
   refine qP ?_
   refine qP ?_
   refine aV ?_
   dsimp only[aY]
   rcases kX hx with⟨hlt,hx⟩ | ⟨hlt,hx⟩
   ·refine bq (uz (by simp only[evS,Nat.reduceEqDiff,reduceIte,g0,g10,g13];try rfl) hlt) (eX ?_)
    dsimp only[aY]
    obtain⟨y2,h2,hx⟩:=ak.1 hx
    obtain⟨y1,h1,hx⟩:=ak.1 hx
    rw[h1,dk]at hx
    obtain⟨y3,h3,hx⟩:=ak.1 hx
    obtain⟨j1,e1,k1,l1,t1⟩:=qZ h1
    obtain⟨j2,e2,k2,l2,t2⟩:=qZ h2
    rw[t1,t2]at hx
    cases hx
    have c1:=oZ (enc:=enc) k1
    have c2:=oZ (enc:=enc) k2
    subst e1
    refine aJ (cX ?_)
    replace G:=bk g0 (bk g10 (bk g13 e2))
    refine kj rfl ?_
    refine rV ?_
    refine rV ?_
    refine rV ?_
    refine rV ?_
    refine rP ?_
    refine rV ?_
    refine rV ?_
    refine rP ?_
    refine rX ?_
    refine tQ rfl (by first | exact MS.load1 (by simp only[evS,Nat.reduceEqDiff,reduceIte,G];first | done | rfl) (by assumption) (by first | rfl | assumption | (simp only[kw,jw,G];done) | simp) | exact MS.loadI1 (by simp only[evS,Nat.reduceEqDiff,reduceIte,G];first | done | rfl) | exact MS.loadI2 (by simp only[evS,Nat.reduceEqDiff,reduceIte,G];first | done | rfl)) (fun k hk=>by first | exact False.elim hk | (dsimp only at hk ⊢;omega) | omega) (fun x hx=>by simp at hx) ?_
    refine rV ?_
    refine rV ?_
    refine rX ?_
    refine rL ?_
    refine rX ?_
    refine rT ?_
    refine u3 hSt (by omega) (by omega) ?_
    intro s2 hst2 hsc2 hS2
    first | replace hmt:=hst2.at hmt (by omega) | replace hmt:=hst2.self
    refine rX ?_
    refine rT ?_
    refine u3 hS2 (by omega) (by omega) ?_
    intro s3 hst3 hsc3 hS3
    first | replace hmt:=hst3.at hmt (by omega) | replace hmt:=hst3.self
    refine oq ?_
    try dsimp only[aY]
    refine aj ?_
    refine qV ?_
    refine qP ?_
    refine qV ?_
    refine aV ?_
    try dsimp only[aY]
    have hAf:=hA.trans (m:=m) (ds:=((a.set j1 y2).set j2 y1).map enc) ⟨hS3,by rw[List.map_set,List.map_set];exact hmt,by omega,fun k hk hne=>by rw[hst3.keep k hne,hst2.keep k hne]⟩
    refine⟨_,rfl,lk,lk,?_,hAf,hf.swap k1 k2⟩
    exact lk
   ·skip
    refine bq (tx (by simp only[evS,Nat.reduceEqDiff,reduceIte,g0,g10,g13];try rfl) hlt) (i9 ?_)
    dsimp only[aY]
    simp only[Nat.beq_refl,cond_true]
    cases hx
    have:=hfin _ rfl
    subst this
    exact sx ⟨.inr rfl,_,_,rfl,dX,hA,hf⟩
 ·skip
  refine bq (tx (by simp only[evS,Nat.reduceEqDiff,reduceIte,g0,g1,g2,g3,g4];try rfl) hlt) (eX ?_)
  dsimp only[aY]
  refine aJ ?_
  replace G:=bk g0 (bk g1 (bk g2 (bk g3 g4)))
  refine aJ (aj ?_)
  refine qV ?_
  refine qV ?_
  refine qP ?_
  refine qP ?_
  refine aV ?_
  dsimp only[aY]
  rcases kX hF with⟨hlt2,hF⟩ | ⟨hlt2,hF⟩
  ·refine bq (uz (by simp only[evS,Nat.reduceEqDiff,reduceIte,g0,g1,g2,g3,g4];try rfl) hlt2) ?_
   obtain⟨e,hlp,hF⟩:=ak.1 hF
   obtain⟨_,hlq,hF⟩:=ak.1 hF
   cases hF
   replace G:=bk g0 (bk g1 (bk g2 (bk g3 g4)))
   refine aJ (aj ?_)
   refine qV ?_
   refine qV ?_
   refine aV ?_
   dsimp only[aY]
   refine aJ (aj ?_)
   refine qV ?_
   refine qV ?_
   refine aV ?_
   dsimp only[aY]
   refine fj (fun Γ t=>look Γ 0 = .c (.sl m 1 0 l.length)∧look Γ 2=iV p2∧look Γ 14=iV e∧ArK b s t m (l.map enc)) ?_ ?_
   ·refine cX (p7 hlp (fun st Γ t=>look Γ 0 = .c (.sl m 1 0 l.length)∧look Γ 2=iV p2∧look Γ 4 = .c (.fn f caps)∧look Γ 14=iV st.1∧look Γ 15=iV st.2∧ArK b s t m (l.map enc)) ⟨lk,lk,lk,lk,lk,ArK.refl hS hm⟩ ?_)
    try clear G
    clear g0 g1 g2 g3 g4 hlp hlt hm hS hmc hle Γ
    rintro⟨i,j⟩ Γ t x ⟨g0,g1,g4,g10,g11,hA⟩ hx hfin
    simp only at g10 g11
    have hSt:=hA.sb
    have hmt:=hA.self
    have hmc:=hSt.lt hmt
    have hbt:=hSt.le
    have hct:=hc.step hA
    unfold MX at hx
    simp only at hx
    refine aJ ?_
    replace G:=bk g0 (bk g1 (bk g4 (bk g10 g11)))
    refine aJ (aj ?_)
    refine qV ?_
    refine qV ?_
    refine qP ?_
    refine aV ?_
    dsimp only[aY]
    rcases kX hx with⟨hlt,hx⟩ | ⟨hlt,hx⟩
    ·refine bq (uz (by simp only[evS,Nat.reduceEqDiff,reduceIte,g0,g1,g4,g10,g11];try rfl) hlt) (eX ?_)
     dsimp only[aY]
     obtain⟨y1,h1,hx⟩:=ak.1 hx
     obtain⟨y2,h2,hx⟩:=ak.1 hx
     obtain⟨r,hr,hx⟩:=ak.1 hx
     obtain⟨j1,e1,k1,l1,_⟩:=qZ h1
     obtain⟨j2,e2,k2,l2,_⟩:=qZ h2
     have c1:=oZ (enc:=enc) k1
     have c2:=oZ (enc:=enc) k2
     refine cX ?_
     replace G:=bk g0 (bk g1 (bk g4 (bk g10 g11)))
     refine aJ (aj ?_)
     refine qV ?_
     refine qV ?_
     refine qP ?_
     refine qP ?_
     refine qP ?_
     refine qP ?_
     refine qV ?_
     refine aV ?_
     dsimp only[aY]
     rw[e2]at hx
     replace G:=bk g0 (bk g1 (bk g4 (bk g10 (bk g11 (bk e1 e2)))))
     refine aJ (kj rfl ?_)
     refine rV ?_
     refine rV ?_
     refine rV ?_
     refine rX ?_
     refine tQ rfl (by first | exact MS.load1 (by simp only[evS,Nat.reduceEqDiff,reduceIte,G];first | done | rfl) (by assumption) (by first | rfl | assumption | (simp only[kw,jw,G];done) | simp) | exact MS.loadI1 (by simp only[evS,Nat.reduceEqDiff,reduceIte,G];first | done | rfl) | exact MS.loadI2 (by simp only[evS,Nat.reduceEqDiff,reduceIte,G];first | done | rfl)) (fun k hk=>by first | exact False.elim hk | (dsimp only at hk ⊢;omega) | omega) (fun x hx=>by simp at hx) ?_
     refine rV ?_
     refine rV ?_
     refine rX ?_
     refine rL ?_
     refine J1 rfl (by simp only[evS,Nat.reduceEqDiff,reduceIte,G];first | done | rfl) (by simp only[qk,List.map_nil,List.cons_append,List.nil_append,evS,Nat.reduceEqDiff,reduceIte,G];first | done | rfl) hSt (fun _ h => h) (by intro x hx;simp only[List.nil_append,List.cons_append,List.mem_cons,List.not_mem_nil,or_false]at hx;rcases hx with rfl | rfl<;>first | exact .inl (by dsimp only;decide) | (refine .inr fun k => ?_;refine⟨?_,?_,?_⟩<;>(intro hk;(try dsimp only at hk);first | exact hk.1.elim | exact hk.2.elim | omega))) (Cp.mono (hct.at hSt (hd _ (nw k1)) (hd _ (nw k2)) hr) (fun _ h => h) (fun h => h) ?_)
     intro v4 s4 hq4
     obtain⟨rfl,hSc,hKc⟩:=hq4
     refine⟨hSc,?_⟩
     intro σ e5 e6 hSσ
     replace hmt:σ.h.get m=some (.cells aK (l.map enc)):=by rw[e5];exact(hKc.2 m hmc).trans hmt
     refine rP ?_
     refine rP ?_
     refine oq ?_
     dsimp only[aY]
     have hA2:ArK b s σ m (l.map enc):=hA.trans ⟨hSσ,hmt,by rw[e6];exact hKc.1,fun k hk _=>by rw[e5];exact hKc.2 k hk⟩
     rcases arV hx with⟨hlr,hx⟩ | ⟨hlr,hx⟩
     ·refine bq (ahV (by simp only[evS,Nat.reduceEqDiff,reduceIte,g0,g1,g4,g10,g11,e1,e2];try rfl) hlr) ?_
      cases hx
      replace G:=bk g0 (bk g1 (bk g4 (bk g10 (bk g11 (bk e1 e2)))))
      refine aj ?_
      refine qV ?_
      refine qP ?_
      refine qV ?_
      refine aV ?_
      try dsimp only[aY]
      exact⟨_,rfl,lk,lk,lk,lk,lk,hA2⟩
     ·skip
      refine bq (ahJ (by simp only[evS,Nat.reduceEqDiff,reduceIte,g0,g1,g4,g10,g11,e1,e2];try rfl) hlr) ?_
      cases hx
      replace G:=bk g0 (bk g1 (bk g4 (bk g10 (bk g11 (bk e1 e2)))))
      refine aj ?_
      refine qV ?_
      refine qV ?_
      refine aV ?_
      try dsimp only[aY]
      exact⟨_,rfl,lk,lk,lk,lk,lk,hA2⟩
    ·skip
     refine bq (tx (by simp only[evS,Nat.reduceEqDiff,reduceIte,g0,g1,g4,g10,g11];try rfl) hlt) (i9 ?_)
     cases hx
     have:=hfin _ rfl
     subst this
     exact⟨(by simp only[evS,Nat.reduceEqDiff,reduceIte,g0,g1,g4,g10,g11];try rfl),(by simp only[evS,Nat.reduceEqDiff,reduceIte,g0,g1,g4,g10,g11];try rfl),(by simp only[evS,Nat.reduceEqDiff,reduceIte,g0,g1,g4,g10,g11];try rfl),hA⟩
   ·try clear G
    clear g0 g1 g2 g3 g4 Γ
    rintro Γ t ⟨g0,g1,g10,hA⟩
    refine aJ ?_
    replace G:=bk g0 (bk g1 g10)
    refine aJ (aj ?_)
    refine qV ?_
    refine qV ?_
    refine aV ?_
    dsimp only[aY]
    refine cX (p7 hlq (fun st Γ t=>look Γ 0 = .c (.sl m 1 0 l.length)∧look Γ 14=iV e∧look Γ 17=iV st.2∧ArK b s t m (st.1.map enc)∧Fit l st.1) ⟨lk,lk,lk,hA,Fit.refl _⟩ ?_)
    try clear G
    clear g0 g1 g10 hlq hA hm hS hmc hle Γ
    rintro⟨a,i⟩ Γ t x ⟨g0,g10,g13,hA,hf⟩ hx hfin
    simp only at g13 hA hf
    have hl:=hf.1
    have hSt:=hA.sb
    have hmt:=hA.self
    have hmc:=hSt.lt hmt
    have hbt:=hSt.le
    unfold OQ at hx
    simp only at hx
    refine aJ ?_
    replace G:=bk g0 (bk g10 g13)
    refine aJ (aj ?_)
    refine qV ?_
    refine qV ?_
    refine qP ?_
    refine aV ?_
    dsimp only[aY]
    rcases kX hx with⟨hlt,hx⟩ | ⟨hlt,hx⟩
    ·refine bq (uz (by simp only[evS,Nat.reduceEqDiff,reduceIte,g0,g10,g13];try rfl) hlt) (eX ?_)
     dsimp only[aY]
     obtain⟨y2,h2,hx⟩:=ak.1 hx
     obtain⟨y1,h1,hx⟩:=ak.1 hx
     rw[h1,dk]at hx
     obtain⟨y3,h3,hx⟩:=ak.1 hx
     obtain⟨j1,e1,k1,l1,t1⟩:=qZ h1
     obtain⟨j2,e2,k2,l2,t2⟩:=qZ h2
     rw[t1,t2]at hx
     cases hx
     have c1:=oZ (enc:=enc) k1
     have c2:=oZ (enc:=enc) k2
     subst e1
     refine aJ (cX ?_)
     replace G:=bk g0 (bk g10 (bk g13 e2))
     refine kj rfl ?_
     refine rV ?_
     refine rV ?_
     refine rV ?_
     refine rV ?_
     refine rP ?_
     refine rV ?_
     refine rV ?_
     refine rP ?_
     refine rX ?_
     refine tQ rfl (by first | exact MS.load1 (by simp only[evS,Nat.reduceEqDiff,reduceIte,G];first | done | rfl) (by assumption) (by first | rfl | assumption | (simp only[kw,jw,G];done) | simp) | exact MS.loadI1 (by simp only[evS,Nat.reduceEqDiff,reduceIte,G];first | done | rfl) | exact MS.loadI2 (by simp only[evS,Nat.reduceEqDiff,reduceIte,G];first | done | rfl)) (fun k hk=>by first | exact False.elim hk | (dsimp only at hk ⊢;omega) | omega) (fun x hx=>by simp at hx) ?_
     refine rV ?_
     refine rV ?_
     refine rX ?_
     refine rL ?_
     refine rX ?_
     refine rT ?_
     refine u3 hSt (by omega) (by omega) ?_
     intro s5 hst5 hsc5 hS5
     first | replace hmt:=hst5.at hmt (by omega) | replace hmt:=hst5.self
     refine rX ?_
     refine rT ?_
     refine u3 hS5 (by omega) (by omega) ?_
     intro s6 hst6 hsc6 hS6
     first | replace hmt:=hst6.at hmt (by omega) | replace hmt:=hst6.self
     refine oq ?_
     try dsimp only[aY]
     refine aj ?_
     refine qV ?_
     refine qP ?_
     refine qV ?_
     refine aV ?_
     try dsimp only[aY]
     have hAf:=hA.trans (m:=m) (ds:=((a.set j1 y2).set j2 y1).map enc) ⟨hS6,by rw[List.map_set,List.map_set];exact hmt,by omega,fun k hk hne=>by rw[hst6.keep k hne,hst5.keep k hne]⟩
     refine⟨_,rfl,lk,lk,?_,hAf,hf.swap k1 k2⟩
     exact lk
    ·skip
     refine bq (tx (by simp only[evS,Nat.reduceEqDiff,reduceIte,g0,g10,g13];try rfl) hlt) (i9 ?_)
     dsimp only[aY]
     simp only[Nat.beq_refl,cond_true]
     cases hx
     have:=hfin _ rfl
     subst this
     exact sx ⟨.inr rfl,_,_,rfl,dX,hA,hf⟩
  ·skip
   obtain⟨⟨v1,v2⟩,hv,hF⟩:=ak.1 hF
   obtain⟨e,hlp,hF⟩:=ak.1 hF
   obtain⟨w3,hw3,hF⟩:=ak.1 hF
   obtain⟨l1,hl1,hF⟩:=ak.1 hF
   obtain⟨w4,hw4,hF⟩:=ak.1 hF
   obtain⟨l2,hl2,hF⟩:=ak.1 hF
   obtain⟨w5,hw5,hF⟩:=ak.1 hF
   obtain⟨M,hM⟩ : ∃M,w64 (shR .u64 (IntKind.wrap .u64 (w64 (p1+p3))) 1)=M:=⟨_,rfl⟩
   obtain⟨N,hN⟩ : ∃N,w64 (M+p2)=N:=⟨_,rfl⟩
   obtain⟨E,hE⟩ : ∃E,w64 (N-e)=E:=⟨_,rfl⟩
   rw[hM]at hv hw3 hl1 hw4 hl2 hw5 hF
   rw[hN]at hv hw3 hl1 hw5 hF
   rw[hE]at hw3 hl1 hw5 hF
   refine bq (tx (by simp only[evS,Nat.reduceEqDiff,reduceIte,g0,g1,g2,g3,g4];try rfl) hlt2) (eX ?_)
   dsimp only[aY]
   replace G:=bk g0 (bk g1 (bk g2 (bk g3 (bk g4 hM))))
   refine aJ (aj ?_)
   refine qV ?_
   refine qV ?_
   refine qP ?_
   refine qP ?_
   refine qP ?_
   refine qP ?_
   refine qV ?_
   refine aV ?_
   dsimp only[aY]
   replace G:=bk g0 (bk g1 (bk g2 (bk g3 (bk g4 (bk hM hN)))))
   refine aJ (aj ?_)
   refine qV ?_
   refine qV ?_
   refine qP ?_
   refine qV ?_
   refine aV ?_
   dsimp only[aY]
   refine aJ (aj ?_)
   refine qV ?_
   refine qV ?_
   refine aV ?_
   dsimp only[aY]
   refine fj (fun Γ t=>look Γ 0 = .c (.sl m 1 0 l.length)∧look Γ 1=iV p1∧look Γ 2=iV p2∧look Γ 3=iV p3∧look Γ 4 = .c (.fn f caps)∧look Γ 18=iV M∧look Γ 19=iV N∧look Γ 20=iV v1∧look Γ 21=iV v2∧ArK b s t m (l.map enc)) ?_ ?_
   ·skip
    refine aJ (aj ?_)
    refine qV ?_
    refine qV ?_
    refine qP ?_
    refine aV ?_
    dsimp only[aY]
    rcases kX hv with⟨hlt3,hv⟩ | ⟨hlt3,hv⟩
    ·refine bq (uz (by simp only[evS,Nat.reduceEqDiff,reduceIte,g0,g1,g2,g3,g4,hM,hN];try rfl) hlt3) ?_
     cases hv
     replace G:=bk g0 (bk g1 (bk g2 (bk g3 (bk g4 (bk hM hN)))))
     refine aJ (aj ?_)
     refine qV ?_
     refine qV ?_
     refine qP ?_
     refine qV ?_
     refine aV ?_
     dsimp only[aY]
     refine aj ?_
     refine qV ?_
     refine qV ?_
     refine aV ?_
     try dsimp only[aY]
     exact⟨lk,lk,lk,lk,lk,lk,lk,lk,lk,ArK.refl hS hm⟩
    ·skip
     refine bq (tx (by simp only[evS,Nat.reduceEqDiff,reduceIte,g0,g1,g2,g3,g4,hM,hN];try rfl) hlt3) ?_
     cases hv
     replace G:=bk g0 (bk g1 (bk g2 (bk g3 (bk g4 (bk hM hN)))))
     refine aJ (aj ?_)
     refine qV ?_
     refine qV ?_
     refine aV ?_
     dsimp only[aY]
     refine aj ?_
     refine qV ?_
     refine qV ?_
     refine aV ?_
     try dsimp only[aY]
     exact⟨lk,lk,lk,lk,lk,lk,lk,lk,lk,ArK.refl hS hm⟩
   try clear G
   clear g0 g1 g2 g3 g4 Γ
   rintro Γ t ⟨g0,g1,g2,g3,g4,g18,g19,g20,g21,hA⟩
   replace G:=bk g0 (bk g1 (bk g2 (bk g3 (bk g4 (bk g18 (bk g19 (bk g20 g21)))))))
   refine aJ (aj ?_)
   refine qV ?_
   refine qP ?_
   refine qV ?_
   refine aV ?_
   dsimp only[aY]
   refine fj (fun Γ t=>look Γ 0 = .c (.sl m 1 0 l.length)∧look Γ 1=iV p1∧look Γ 2=iV p2∧look Γ 3=iV p3∧look Γ 4 = .c (.fn f caps)∧look Γ 18=iV M∧look Γ 19=iV N∧look Γ 20=iV e∧ArK b s t m (l.map enc)) ?_ ?_
   ·refine cX (p7 hlp (fun st Γ t=>look Γ 0 = .c (.sl m 1 0 l.length)∧look Γ 1=iV p1∧look Γ 2=iV p2∧look Γ 3=iV p3∧look Γ 4 = .c (.fn f caps)∧look Γ 18=iV M∧look Γ 19=iV N∧look Γ 22=iV (w64 (N-1))∧look Γ 20=iV st.1∧look Γ 21=iV st.2∧ArK b s t m (l.map enc)) ⟨lk,lk,lk,lk,lk,lk,lk,lk,lk,lk,hA⟩ ?_)
    try clear G
    clear g0 g1 g2 g3 g4 g18 g19 g20 g21 hlp hlt hlt2 hm hS hmc hle hA hF hw3 hl1 hw4 hl2 hw5 hE hv Γ
    rintro⟨i,j⟩ Γ t x ⟨g0,g1,g2,g3,g4,g18,g19,g22,g20,g21,hA⟩ hx hfin
    simp only at g20 g21
    have hSt:=hA.sb
    have hmt:=hA.self
    have hmc:=hSt.lt hmt
    have hbt:=hSt.le
    have hct:=hc.step hA
    unfold N8 at hx
    simp only at hx
    rw[hM,hN]at hx
    refine aJ ?_
    replace G:=bk g0 (bk g1 (bk g2 (bk g3 (bk g4 (bk g18 (bk g19 (bk g22 (bk g20 g21))))))))
    refine aJ (aj ?_)
    refine qV ?_
    refine qV ?_
    refine qP ?_
    refine aV ?_
    dsimp only[aY]
    rcases kX hx with⟨hlt,hx⟩ | ⟨hlt,hx⟩
    ·refine bq (uz (by simp only[evS,Nat.reduceEqDiff,reduceIte,g0,g1,g2,g3,g4,g18,g19,g22,g20,g21];try rfl) hlt) (eX ?_)
     dsimp only[aY]
     obtain⟨y1,h1,hx⟩:=ak.1 hx
     obtain⟨y2,h2,hx⟩:=ak.1 hx
     obtain⟨r,hr,hx⟩:=ak.1 hx
     obtain⟨j2,e2,k2,l2,_⟩:=qZ h2
     rw[e2]at h1 hx
     obtain⟨j1,e1,k1,l1,_⟩:=qZ h1
     have c1:=oZ (enc:=enc) k1
     have c2:=oZ (enc:=enc) k2
     refine cX ?_
     replace G:=bk g0 (bk g1 (bk g2 (bk g3 (bk g4 (bk g18 (bk g19 (bk g22 (bk g20 (bk g21 e2)))))))))
     refine aJ (aj ?_)
     refine qV ?_
     refine qV ?_
     refine qP ?_
     refine qP ?_
     refine qP ?_
     refine qP ?_
     refine qV ?_
     refine aV ?_
     dsimp only[aY]
     replace G:=bk g0 (bk g1 (bk g2 (bk g3 (bk g4 (bk g18 (bk g19 (bk g22 (bk g20 (bk g21 (bk e2 e1))))))))))
     refine aJ (kj rfl ?_)
     refine rV ?_
     refine rV ?_
     refine rV ?_
     refine rV ?_
     refine rP ?_
     refine rX ?_
     refine tQ rfl (by first | exact MS.load1 (by simp only[evS,Nat.reduceEqDiff,reduceIte,G];first | done | rfl) (by assumption) (by first | rfl | assumption | (simp only[kw,jw,G];done) | simp) | exact MS.loadI1 (by simp only[evS,Nat.reduceEqDiff,reduceIte,G];first | done | rfl) | exact MS.loadI2 (by simp only[evS,Nat.reduceEqDiff,reduceIte,G];first | done | rfl)) (fun k hk=>by first | exact False.elim hk | (dsimp only at hk ⊢;omega) | omega) (fun x hx=>by simp at hx) ?_
     refine rV ?_
     refine rV ?_
     refine rX ?_
     refine rL ?_
     refine J1 rfl (by simp only[evS,Nat.reduceEqDiff,reduceIte,G];first | done | rfl) (by simp only[qk,List.map_nil,List.cons_append,List.nil_append,evS,Nat.reduceEqDiff,reduceIte,G];first | done | rfl) hSt (fun _ h => h) (by intro x hx;simp only[List.nil_append,List.cons_append,List.mem_cons,List.not_mem_nil,or_false]at hx;rcases hx with rfl | rfl<;>first | exact .inl (by dsimp only;decide) | (refine .inr fun k => ?_;refine⟨?_,?_,?_⟩<;>(intro hk;(try dsimp only at hk);first | exact hk.1.elim | exact hk.2.elim | omega))) (Cp.mono (hct.at hSt (hd _ (nw k1)) (hd _ (nw k2)) hr) (fun _ h => h) (fun h => h) ?_)
     intro v7 s7 hq7
     obtain⟨rfl,hSc,hKc⟩:=hq7
     refine⟨hSc,?_⟩
     intro σ e5 e6 hSσ
     replace hmt:σ.h.get m=some (.cells aK (l.map enc)):=by rw[e5];exact(hKc.2 m hmc).trans hmt
     refine rP ?_
     refine rP ?_
     refine oq ?_
     dsimp only[aY]
     have hA2:ArK b s σ m (l.map enc):=hA.trans ⟨hSσ,hmt,by rw[e6];exact hKc.1,fun k hk _=>by rw[e5];exact hKc.2 k hk⟩
     rcases arV hx with⟨hlr,hx⟩ | ⟨hlr,hx⟩
     ·refine bq (ahV (by simp only[evS,Nat.reduceEqDiff,reduceIte,g0,g1,g2,g3,g4,g18,g19,g22,g20,g21,e2,e1];try rfl) hlr) ?_
      cases hx
      replace G:=bk g0 (bk g1 (bk g2 (bk g3 (bk g4 (bk g18 (bk g19 (bk g22 (bk g20 (bk g21 (bk e2 e1))))))))))
      refine aj ?_
      refine qV ?_
      refine qP ?_
      refine qV ?_
      refine aV ?_
      try dsimp only[aY]
      exact⟨_,rfl,lk,lk,lk,lk,lk,lk,lk,lk,lk,lk,hA2⟩
     ·skip
      refine bq (ahJ (by simp only[evS,Nat.reduceEqDiff,reduceIte,g0,g1,g2,g3,g4,g18,g19,g22,g20,g21,e2,e1];try rfl) hlr) ?_
      cases hx
      replace G:=bk g0 (bk g1 (bk g2 (bk g3 (bk g4 (bk g18 (bk g19 (bk g22 (bk g20 (bk g21 (bk e2 e1))))))))))
      refine aj ?_
      refine qV ?_
      refine qV ?_
      refine aV ?_
      try dsimp only[aY]
      exact⟨_,rfl,lk,lk,lk,lk,lk,lk,lk,lk,lk,lk,hA2⟩
    ·skip
     refine bq (tx (by simp only[evS,Nat.reduceEqDiff,reduceIte,g0,g1,g2,g3,g4,g18,g19,g22,g20,g21];try rfl) hlt) (i9 ?_)
     cases hx
     have:=hfin _ rfl
     subst this
     exact⟨(by simp only[evS,Nat.reduceEqDiff,reduceIte,g0,g1,g2,g3,g4,g18,g19,g22,g20,g21];try rfl),(by simp only[evS,Nat.reduceEqDiff,reduceIte,g0,g1,g2,g3,g4,g18,g19,g22,g20,g21];try rfl),(by simp only[evS,Nat.reduceEqDiff,reduceIte,g0,g1,g2,g3,g4,g18,g19,g22,g20,g21];try rfl),(by simp only[evS,Nat.reduceEqDiff,reduceIte,g0,g1,g2,g3,g4,g18,g19,g22,g20,g21];try rfl),(by simp only[evS,Nat.reduceEqDiff,reduceIte,g0,g1,g2,g3,g4,g18,g19,g22,g20,g21];try rfl),(by simp only[evS,Nat.reduceEqDiff,reduceIte,g0,g1,g2,g3,g4,g18,g19,g22,g20,g21];try rfl),(by simp only[evS,Nat.reduceEqDiff,reduceIte,g0,g1,g2,g3,g4,g18,g19,g22,g20,g21];try rfl),(by simp only[evS,Nat.reduceEqDiff,reduceIte,g0,g1,g2,g3,g4,g18,g19,g22,g20,g21];try rfl),hA⟩
   try clear G
   clear g0 g1 g2 g3 g4 g18 g19 g20 g21 hA Γ
   rintro Γ t ⟨g0,g1,g2,g3,g4,g18,g19,g20,hA⟩
   refine fj (fun Γ t'=>t=t'∧look Γ 0 = .c (.sl m 1 0 l.length)∧look Γ 1=iV p1∧look Γ 2=iV p2∧look Γ 3=iV p3∧look Γ 4 = .c (.fn f caps)∧look Γ 18=iV M∧look Γ 20=iV e∧look Γ 24=iV E) ?_ ?_
   ·skip
    replace G:=bk g0 (bk g1 (bk g2 (bk g3 (bk g4 (bk g18 (bk g19 (bk g20 hE)))))))
    refine aj ?_
    refine qV ?_
    refine qV ?_
    refine qP ?_
    refine qV ?_
    refine aV ?_
    try dsimp only[aY]
    exact⟨rfl,lk,lk,lk,lk,lk,lk,lk,lk⟩
   try clear G
   clear g0 g1 g2 g3 g4 g18 g19 g20 Γ
   rintro Γ _ ⟨rfl,g0,g1,g2,g3,g4,g18,g20,g24⟩
   have hf:=Fit.refl l
   refine fj (fun Γ t=>look Γ 0 = .c (.sl m 1 0 l.length)∧look Γ 1=iV p1∧look Γ 2=iV p2∧look Γ 3=iV p3∧look Γ 4 = .c (.fn f caps)∧look Γ 18=iV M∧look Γ 20=iV e∧look Γ 24=iV E∧ArK b s t m (l1.map enc)∧Fit l l1) ?_ ?_
   ·refine fj (fun Γ t=>look Γ 0 = .c (.sl m 1 0 l.length)∧look Γ 1=iV p1∧look Γ 2=iV p2∧look Γ 3=iV p3∧look Γ 4 = .c (.fn f caps)∧look Γ 18=iV M∧look Γ 20=iV e∧look Γ 24=iV E∧look Γ 185=bV w3∧ArK b s t m (l.map enc)) ?_ ?_
    ·by_cases hp:e<p2
     ·have hb:=decide_eq_true hp
      rw[hb,cond_true]at hw3
      cases hw3
      replace G:=bk g0 (bk g1 (bk g2 (bk g3 (bk g4 (bk g18 (bk g20 (bk g24 hb)))))))
      refine aj ?_
      refine qV ?_
      refine qV ?_
      refine qP ?_
      refine qV ?_
      refine eV (by simp only[bK,evS,Nat.reduceEqDiff,reduceIte,scV,bV,ik,jk,iw,gw,G]) (pmv (by simp only[evS,Nat.reduceEqDiff,reduceIte,G];try rfl)) ?_
      refine eV (by simp only[bK,evS,Nat.reduceEqDiff,reduceIte,scV,bV,ik,jk,iw,gw,G]) (pmv (by simp only[evS,Nat.reduceEqDiff,reduceIte,G];try rfl)) ?_
      refine eV (by simp only[bK,evS,Nat.reduceEqDiff,reduceIte,scV,bV,ik,jk,iw,gw,G]) (by simp only[evS,Nat.reduceEqDiff,reduceIte,PU,bj,scV,bV,iV,cW,isB,isI,iz,kZ,mkV,G];try rfl) ?_
      refine qP ?_
      refine aV ?_
      try dsimp only[aY]
      exact⟨lk,lk,lk,lk,lk,lk,lk,lk,lk,hA⟩
     ·have hb:=xw hp
      rw[hb,cond_false]at hw3
      cases hw3
      replace G:=bk g0 (bk g1 (bk g2 (bk g3 (bk g4 (bk g18 (bk g20 (bk g24 hb)))))))
      refine aj ?_
      refine qV ?_
      refine qV ?_
      refine qP ?_
      refine qV ?_
      refine AZ (by simp only[bK,evS,Nat.reduceEqDiff,reduceIte,scV,bV,ik,jk,iw,gw,G]) ?_
      refine AZ (by simp only[bK,evS,Nat.reduceEqDiff,reduceIte,scV,bV,ik,jk,iw,gw,G]) ?_
      refine AZ (by simp only[bK,evS,Nat.reduceEqDiff,reduceIte,scV,bV,ik,jk,iw,gw,G]) ?_
      refine qP ?_
      refine aV ?_
      try dsimp only[aY]
      exact⟨lk,lk,lk,lk,lk,lk,lk,lk,lk,hA⟩
    ·try clear G
     clear g0 g1 g2 g3 g4 g18 g20 g24 Γ hA
     rintro Γ t ⟨g0,g1,g2,g3,g4,g18,g20,g24,gv,hA⟩
     cases w3
     ·rw[cond_false]at hl1
      cases hl1
      refine bq (H0 gv) (eX ?_)
      exact⟨g0,g1,g2,g3,g4,g18,g20,g24,hA,hf⟩
     ·rw[cond_true]at hl1
      obtain⟨r,hr,hl1⟩:=ak.1 hl1
      cases hl1
      refine bq (H0 gv) ?_
      have hl:=hf.1
      have hSt:=hA.sb
      have hmt:=hA.self
      have hct:=hc.step hA
      rw[←hl]at g0
      replace G:=bk g0 (bk g1 (bk g2 (bk g3 (bk g4 (bk g18 (bk g20 g24))))))
      refine aj ?_
      refine qV ?_
      refine qV ?_
      refine qV ?_
      refine qV ?_
      refine qV ?_
      refine qC (hC:=aKq _ hSt hbm hmt hr) (h:=?_)
      intro v8 s8 hq8
      obtain⟨hA1,hf1⟩:=hq8
      refine aV ?_
      try dsimp only[aY]
      exact⟨by rw[←hl];exact lk,lk,lk,lk,lk,lk,lk,lk,hA.trans hA1,hf.trans hf1⟩
   ·try clear G
    clear g0 g1 g2 g3 g4 g18 g20 g24 Γ hA hf
    rintro Γ t ⟨g0,g1,g2,g3,g4,g18,g20,g24,hA,hf⟩
    refine fj (fun Γ t=>look Γ 0 = .c (.sl m 1 0 l.length)∧look Γ 1=iV p1∧look Γ 2=iV p2∧look Γ 3=iV p3∧look Γ 4 = .c (.fn f caps)∧look Γ 18=iV M∧look Γ 20=iV e∧look Γ 24=iV E∧ArK b s t m (l2.map enc)∧Fit l l2) ?_ ?_
    ·refine fj (fun Γ t=>look Γ 0 = .c (.sl m 1 0 l.length)∧look Γ 1=iV p1∧look Γ 2=iV p2∧look Γ 3=iV p3∧look Γ 4 = .c (.fn f caps)∧look Γ 18=iV M∧look Γ 20=iV e∧look Γ 24=iV E∧look Γ 199=bV w4∧ArK b s t m (l1.map enc)) ?_ ?_
     ·by_cases hp:p1<e
      ·have hb:=decide_eq_true hp
       rw[hb,cond_true]at hw4
       cases hw4
       replace G:=bk g0 (bk g1 (bk g2 (bk g3 (bk g4 (bk g18 (bk g20 (bk g24 hb)))))))
       refine aj ?_
       refine qV ?_
       refine qV ?_
       refine qP ?_
       refine qV ?_
       refine eV (by simp only[bK,evS,Nat.reduceEqDiff,reduceIte,scV,bV,ik,jk,iw,gw,G]) (pmv (by simp only[evS,Nat.reduceEqDiff,reduceIte,G];try rfl)) ?_
       refine eV (by simp only[bK,evS,Nat.reduceEqDiff,reduceIte,scV,bV,ik,jk,iw,gw,G]) (pmv (by simp only[evS,Nat.reduceEqDiff,reduceIte,G];try rfl)) ?_
       refine eV (by simp only[bK,evS,Nat.reduceEqDiff,reduceIte,scV,bV,ik,jk,iw,gw,G]) (by simp only[evS,Nat.reduceEqDiff,reduceIte,PU,bj,scV,bV,iV,cW,isB,isI,iz,kZ,mkV,G];try rfl) ?_
       refine qP ?_
       refine aV ?_
       try dsimp only[aY]
       exact⟨lk,lk,lk,lk,lk,lk,lk,lk,lk,hA⟩
      ·have hb:=xw hp
       rw[hb,cond_false]at hw4
       cases hw4
       replace G:=bk g0 (bk g1 (bk g2 (bk g3 (bk g4 (bk g18 (bk g20 (bk g24 hb)))))))
       refine aj ?_
       refine qV ?_
       refine qV ?_
       refine qP ?_
       refine qV ?_
       refine AZ (by simp only[bK,evS,Nat.reduceEqDiff,reduceIte,scV,bV,ik,jk,iw,gw,G]) ?_
       refine AZ (by simp only[bK,evS,Nat.reduceEqDiff,reduceIte,scV,bV,ik,jk,iw,gw,G]) ?_
       refine AZ (by simp only[bK,evS,Nat.reduceEqDiff,reduceIte,scV,bV,ik,jk,iw,gw,G]) ?_
       refine qP ?_
       refine aV ?_
       try dsimp only[aY]
       exact⟨lk,lk,lk,lk,lk,lk,lk,lk,lk,hA⟩
     ·try clear G
      clear g0 g1 g2 g3 g4 g18 g20 g24 Γ hA
      rintro Γ t ⟨g0,g1,g2,g3,g4,g18,g20,g24,gv,hA⟩
      cases w4
      ·rw[cond_false]at hl2
       cases hl2
       refine bq (H0 gv) (eX ?_)
       exact⟨g0,g1,g2,g3,g4,g18,g20,g24,hA,hf⟩
      ·rw[cond_true]at hl2
       obtain⟨r,hr,hl2⟩:=ak.1 hl2
       cases hl2
       refine bq (H0 gv) ?_
       have hl:=hf.1
       have hSt:=hA.sb
       have hmt:=hA.self
       have hct:=hc.step hA
       rw[←hl]at g0
       replace G:=bk g0 (bk g1 (bk g2 (bk g3 (bk g4 (bk g18 (bk g20 g24))))))
       refine aj ?_
       refine qV ?_
       refine qV ?_
       refine qV ?_
       refine qV ?_
       refine qV ?_
       refine qC (hC:=hrec _ _ _ _ _ _ hSt hbm hmt hct (fun x hx=>hd x (hf.2 x hx)) hr) (h:=?_)
       intro v9 s9 hq9
       obtain⟨hA1,hf1⟩:=hq9
       refine aV ?_
       try dsimp only[aY]
       exact⟨by rw[←hl];exact lk,lk,lk,lk,lk,lk,lk,lk,hA.trans hA1,hf.trans hf1⟩
    ·try clear G
     clear g0 g1 g2 g3 g4 g18 g20 g24 Γ hA hf
     rintro Γ t ⟨g0,g1,g2,g3,g4,g18,g20,g24,hA,hf⟩
     refine fj (fun Γ t=>look Γ 0 = .c (.sl m 1 0 l.length)∧look Γ 1=iV p1∧look Γ 2=iV p2∧look Γ 3=iV p3∧look Γ 4 = .c (.fn f caps)∧look Γ 18=iV M∧look Γ 20=iV e∧look Γ 24=iV E∧look Γ 213=bV w5∧ArK b s t m (l2.map enc)) ?_ ?_
     ·by_cases hp:M<E
      ·have hb:=decide_eq_true hp
       rw[hb,cond_true]at hw5
       cases hw5
       replace G:=bk g0 (bk g1 (bk g2 (bk g3 (bk g4 (bk g18 (bk g20 (bk g24 hb)))))))
       refine aj ?_
       refine qV ?_
       refine qV ?_
       refine qP ?_
       refine qV ?_
       refine eV (by simp only[bK,evS,Nat.reduceEqDiff,reduceIte,scV,bV,ik,jk,iw,gw,G]) (pmv (by simp only[evS,Nat.reduceEqDiff,reduceIte,G];try rfl)) ?_
       refine eV (by simp only[bK,evS,Nat.reduceEqDiff,reduceIte,scV,bV,ik,jk,iw,gw,G]) (pmv (by simp only[evS,Nat.reduceEqDiff,reduceIte,G];try rfl)) ?_
       refine eV (by simp only[bK,evS,Nat.reduceEqDiff,reduceIte,scV,bV,ik,jk,iw,gw,G]) (by simp only[evS,Nat.reduceEqDiff,reduceIte,PU,bj,scV,bV,iV,cW,isB,isI,iz,kZ,mkV,G];try rfl) ?_
       refine qP ?_
       refine aV ?_
       try dsimp only[aY]
       exact⟨lk,lk,lk,lk,lk,lk,lk,lk,lk,hA⟩
      ·have hb:=xw hp
       rw[hb,cond_false]at hw5
       cases hw5
       replace G:=bk g0 (bk g1 (bk g2 (bk g3 (bk g4 (bk g18 (bk g20 (bk g24 hb)))))))
       refine aj ?_
       refine qV ?_
       refine qV ?_
       refine qP ?_
       refine qV ?_
       refine AZ (by simp only[bK,evS,Nat.reduceEqDiff,reduceIte,scV,bV,ik,jk,iw,gw,G]) ?_
       refine AZ (by simp only[bK,evS,Nat.reduceEqDiff,reduceIte,scV,bV,ik,jk,iw,gw,G]) ?_
       refine AZ (by simp only[bK,evS,Nat.reduceEqDiff,reduceIte,scV,bV,ik,jk,iw,gw,G]) ?_
       refine qP ?_
       refine aV ?_
       try dsimp only[aY]
       exact⟨lk,lk,lk,lk,lk,lk,lk,lk,lk,hA⟩
     ·try clear G
      clear g0 g1 g2 g3 g4 g18 g20 g24 Γ hA
      rintro Γ t ⟨g0,g1,g2,g3,g4,g18,g20,g24,gv,hA⟩
      cases w5
      ·rw[cond_false]at hF
       cases hF
       refine bq (H0 gv) (eX ?_)
       exact⟨.inl rfl,_,_,rfl,dX,hA,hf⟩
      ·rw[cond_true]at hF
       obtain⟨r,hr,hF⟩:=ak.1 hF
       cases hF
       refine bq (H0 gv) ?_
       have hl:=hf.1
       have hSt:=hA.sb
       have hmt:=hA.self
       have hct:=hc.step hA
       rw[←hl]at g0
       replace G:=bk g0 (bk g1 (bk g2 (bk g3 (bk g4 (bk g18 (bk g20 g24))))))
       refine aj ?_
       refine qV ?_
       refine qV ?_
       refine qV ?_
       refine qV ?_
       refine qV ?_
       refine qC (hC:=hrec _ _ _ _ _ _ hSt hbm hmt hct (fun x hx=>hd x (hf.2 x hx)) hr) (h:=?_)
       intro v10 s10 hq10
       obtain⟨hA1,hf1⟩:=hq10
       refine aV ?_
       try dsimp only[aY]
       exact⟨.inl rfl,_,_,rfl,dX,hA.trans hA1,hf.trans hf1⟩
end
end Go.RM
namespace Go.RM
open Go Go.VM
section
variable {α:Type} {enc:α→X}
theorem aqx{orc:cK}{b m:Nat}{f:FuncId}{caps:List X}{c:α→α→Option Int}{dom:α→Prop}:∀(n:Nat) (s:S) (l l':List α) (p1 p2 p3:Int),Sb b s→b≤m→s.h.get m=some (.cells aK (l.map enc))→CmpOk orc b m f caps enc c dom s→(∀x∈l,dom x)→K7 c n l p1 p2 p3=some l'→Cp orc yJ bW [.c (.sl m 1 0 l.length),iV p1,iV p2,iV p3,.c (.fn f caps)] s (fun k=>b≤k) True fun _ s'=>ArK b s s' m (l'.map enc)∧Fit l l'
 | 0,_,_,_,_,_,_,_,_,_,_,_,h=>by simp[K7]at h
 | n+1,s,l,l',p1,p2,p3,hS,hbm,hm,hc,hd,h=>aJz (rec:=K7 c n) (fun s l l' p1 p2 p3=>aqx n s l l' p1 p2 p3) hS hbm hm hc hd h
theorem aqQ{orc:cK}{b m:Nat}{f:FuncId}{caps:List X}{c:α→α→Option Int}{dom:α→Prop}{s:S}{l l':List α}{p1 p2 p3:Int}(hS:Sb b s)(hbm:b≤m)(hm:s.h.get m=some (.cells aK (l.map enc)))(hc:CmpOk orc b m f caps enc c dom s)(hd:∀x∈l,dom x)(hF:aoQ c l p1 p2 p3=some l') :
  Cp orc yJ bW [.c (.sl m 1 0 l.length),iV p1,iV p2,iV p3,.c (.fn f caps)] s (fun k=>b≤k) True fun _ s'=>ArK b s s' m (l'.map enc)∧Fit l l':=by
 unfold aoQ at hF
 exact aqx _ s l l' p1 p2 p3 hS hbm hm hc hd hF
set_option maxHeartbeats 8000000 in
theorem aGY{orc:cK}{b m:Nat}{f:FuncId}{caps:List X}{c:α→α→Option Int}{dom:α→Prop}{s:S}{l l':List α}{p1:Int}(hS:Sb b s)(hbm:b≤m)(hm:s.h.get m=some (.cells aK (l.map enc)))(hc:CmpOk orc b m f caps enc c dom s)(hd:∀x∈l,dom x)(hF:KX c l p1=some l') :
  Cp orc yJ gq [.c (.sl m 1 0 l.length),iV p1,.c (.fn f caps)] s (fun k=>b≤k) True fun _ s'=>ArK b s s' m (l'.map enc)∧Fit l l':=by
 refine lj (rf:=dq) rfl ?_
 unfold dq
 obtain⟨Γ,hΓ⟩ : ∃Γ,Γ=ofL [V.c (.sl m 1 0 l.length),iV p1,.c (.fn f caps)] 0 .lf:=⟨_,rfl⟩
 have g0:look Γ 0 = .c (.sl m 1 0 l.length):=by rw[hΓ];rfl
 have g1:look Γ 1=iV p1:=by rw[hΓ];rfl
 have g2:look Γ 2 = .c (.fn f caps):=by rw[hΓ];rfl
 rw[←hΓ]
 try clear G
 clear hΓ
 unfold KX at hF
 obtain⟨⟨e1,e2⟩,hlp,hF⟩:=ak.1 hF
 obtain⟨r1,hins,hlq⟩:=ak.1 hF
 try clear G
 clear hF
 replace G:=bk g0 (bk g1 g2)
 refine aJ (aj ?_)
 refine qV ?_
 refine aV ?_
 dsimp only[aY]
 refine aJ (aj ?_)
 refine qV ?_
 refine qV ?_
 refine qV ?_
 refine aV ?_
 dsimp only[aY]
 refine fj (fun Γ t=>look Γ 0 = .c (.sl m 1 0 l.length)∧look Γ 1=iV p1∧look Γ 2 = .c (.fn f caps)∧look Γ 6=iV 20∧look Γ 7=iV e2∧ArK b s t m (e1.map enc)∧Fit l e1) ?_ ?_
 ·refine cX (p7 hlp (fun st Γ t=>look Γ 0 = .c (.sl m 1 0 l.length)∧look Γ 1=iV p1∧look Γ 2 = .c (.fn f caps)∧look Γ 6=iV 20∧look Γ 7=iV st.2.1∧look Γ 8=iV st.2.2∧ArK b s t m (st.1.map enc)∧Fit l st.1) ⟨lk,lk,lk,lk,lk,lk,ArK.refl hS hm,Fit.refl _⟩ ?_)
  try clear G
  clear g0 g1 g2 hlp Γ
  rintro⟨a,i,j⟩ Γ t x ⟨g0,g1,g2,g6,g7,g8,hA,hf⟩ hx hfin
  simp only at g7 g8 hA hf
  have hl:=hf.1
  have hSt:=hA.sb
  have hmt:=hA.self
  have hct:=hc.step hA
  unfold OZ at hx
  simp only at hx
  rw[←hl]at g0
  refine aJ ?_
  replace G:=bk g0 (bk g1 (bk g2 (bk g6 (bk g7 g8))))
  refine aJ (aj ?_)
  refine qV ?_
  refine qV ?_
  refine qP ?_
  refine aV ?_
  dsimp only[aY]
  rcases kX hx with⟨hlt,hx⟩ | ⟨hlt,hx⟩
  ·refine bq (uz (by simp only[evS,Nat.reduceEqDiff,reduceIte,g0,g1,g2,g6,g7,g8];try rfl) hlt) (eX ?_)
   dsimp only[aY]
   obtain⟨r,hr,hx⟩:=ak.1 hx
   cases hx
   refine cX ?_
   replace G:=bk g0 (bk g1 (bk g2 (bk g6 (bk g7 g8))))
   refine aJ (aj ?_)
   refine qV ?_
   refine qV ?_
   refine qV ?_
   refine qV ?_
   refine qC (hC:=arY hSt hbm hmt hct (fun x hx=>hd x (hf.2 x hx)) hr) (h:=?_)
   intro v1 s1 hq1
   obtain⟨hA1,hf1⟩:=hq1
   refine aV ?_
   dsimp only[aY]
   refine aJ (aj ?_)
   refine qV ?_
   refine qV ?_
   refine aV ?_
   dsimp only[aY]
   refine aj ?_
   refine qV ?_
   refine qV ?_
   refine qP ?_
   refine qV ?_
   refine aV ?_
   try dsimp only[aY]
   exact⟨_,rfl,by rw[←hl];exact lk,lk,lk,lk,lk,lk,hA.trans hA1,hf.trans hf1⟩
  ·skip
   refine bq (tx (by simp only[evS,Nat.reduceEqDiff,reduceIte,g0,g1,g2,g6,g7,g8];try rfl) hlt) (i9 ?_)
   cases hx
   have:=hfin _ rfl
   cases this
   exact⟨by rw[←hl];exact(by simp only[evS,Nat.reduceEqDiff,reduceIte,g0,g1,g2,g6,g7,g8];try rfl),(by simp only[evS,Nat.reduceEqDiff,reduceIte,g0,g1,g2,g6,g7,g8];try rfl),(by simp only[evS,Nat.reduceEqDiff,reduceIte,g0,g1,g2,g6,g7,g8];try rfl),(by simp only[evS,Nat.reduceEqDiff,reduceIte,g0,g1,g2,g6,g7,g8];try rfl),(by simp only[evS,Nat.reduceEqDiff,reduceIte,g0,g1,g2,g6,g7,g8];try rfl),hA,hf⟩
 try clear G
 clear g0 g1 g2 Γ
 rintro Γ t ⟨g0,g1,g2,g6,g7,hA,hf⟩
 refine fj (fun Γ t=>look Γ 0 = .c (.sl m 1 0 l.length)∧look Γ 1=iV p1∧look Γ 2 = .c (.fn f caps)∧look Γ 6=iV 20∧ArK b s t m (r1.map enc)∧Fit l r1) ?_ ?_
 ·have hl:=hf.1
  have hSt:=hA.sb
  have hmt:=hA.self
  have hct:=hc.step hA
  rw[←hl]at g0
  replace G:=bk g0 (bk g1 (bk g2 (bk g6 g7)))
  refine aj ?_
  refine qV ?_
  refine qV ?_
  refine qV ?_
  refine qV ?_
  refine qC (hC:=arY hSt hbm hmt hct (fun x hx=>hd x (hf.2 x hx)) hins) (h:=?_)
  intro v2 s2 hq2
  obtain⟨hA1,hf1⟩:=hq2
  refine aV ?_
  try dsimp only[aY]
  exact⟨by rw[←hl];exact lk,lk,lk,lk,hA.trans hA1,hf.trans hf1⟩
 try clear G
 clear g0 g1 g2 g6 g7 hA hf Γ
 rintro Γ t ⟨g0,g1,g2,g6,hA,hf⟩
 refine cX (p7 hlq (fun st Γ t=>look Γ 0 = .c (.sl m 1 0 l.length)∧look Γ 1=iV p1∧look Γ 2 = .c (.fn f caps)∧look Γ 6=iV st.2∧ArK b s t m (st.1.map enc)∧Fit l st.1) ⟨g0,g1,g2,g6,hA,hf⟩ ?_)
 try clear G
 clear g0 g1 g2 g6 hA hf hlq hins Γ
 rintro⟨a,z⟩ Γ t x ⟨g0,g1,g2,g6,hA,hf⟩ hx hfin
 simp only at g6 hA hf
 unfold T5 at hx
 simp only at hx
 refine aJ ?_
 replace G:=bk g0 (bk g1 (bk g2 g6))
 refine aJ (aj ?_)
 refine qV ?_
 refine qV ?_
 refine qP ?_
 refine aV ?_
 dsimp only[aY]
 rcases kX hx with⟨hlt,hx⟩ | ⟨hlt,hx⟩
 ·refine bq (uz (by simp only[evS,Nat.reduceEqDiff,reduceIte,g0,g1,g2,g6];try rfl) hlt) (eX ?_)
  dsimp only[aY]
  obtain⟨⟨a1,i1⟩,hlp,hx⟩:=ak.1 hx
  obtain⟨a2,hv,hx⟩:=ak.1 hx
  cases hx
  refine cX ?_
  replace G:=bk g0 (bk g1 (bk g2 g6))
  refine aJ (aj ?_)
  refine qV ?_
  refine qP ?_
  refine qV ?_
  refine qV ?_
  refine aV ?_
  dsimp only[aY]
  refine fj (fun Γ t=>look Γ 0 = .c (.sl m 1 0 l.length)∧look Γ 1=iV p1∧look Γ 2 = .c (.fn f caps)∧look Γ 6=iV z∧look Γ 7=iV i1∧ArK b s t m (a1.map enc)∧Fit l a1) ?_ ?_
  ·refine cX (p7 hlp (fun st Γ t=>look Γ 0 = .c (.sl m 1 0 l.length)∧look Γ 1=iV p1∧look Γ 2 = .c (.fn f caps)∧look Γ 6=iV z∧look Γ 7=iV st.2.1∧look Γ 8=iV st.2.2∧ArK b s t m (st.1.map enc)∧Fit l st.1) ⟨lk,lk,lk,lk,lk,lk,hA,hf⟩ ?_)
   try clear G
   clear g0 g1 g2 g6 hlp hA hf hlt hv Γ
   rintro⟨a,i,j⟩ Γ t x ⟨g0,g1,g2,g6,g7,g8,hA,hf⟩ hx hfin
   simp only at g7 g8 hA hf
   have hl:=hf.1
   have hSt:=hA.sb
   have hmt:=hA.self
   have hct:=hc.step hA
   unfold IZ at hx
   simp only at hx
   rw[←hl]at g0
   refine aJ ?_
   replace G:=bk g0 (bk g1 (bk g2 (bk g6 (bk g7 g8))))
   refine aJ (aj ?_)
   refine qV ?_
   refine qV ?_
   refine qP ?_
   refine aV ?_
   dsimp only[aY]
   rcases kX hx with⟨hlt,hx⟩ | ⟨hlt,hx⟩
   ·refine bq (uz (by simp only[evS,Nat.reduceEqDiff,reduceIte,g0,g1,g2,g6,g7,g8];try rfl) hlt) (eX ?_)
    dsimp only[aY]
    obtain⟨r,hr,hx⟩:=ak.1 hx
    cases hx
    refine cX ?_
    replace G:=bk g0 (bk g1 (bk g2 (bk g6 (bk g7 g8))))
    refine aJ (aj ?_)
    refine qV ?_
    refine qV ?_
    refine qV ?_
    refine qV ?_
    refine qP ?_
    refine qV ?_
    refine qV ?_
    refine qC (hC:=aqQ hSt hbm hmt hct (fun x hx=>hd x (hf.2 x hx)) hr) (h:=?_)
    intro v3 s3 hq3
    obtain⟨hA1,hf1⟩:=hq3
    refine aV ?_
    dsimp only[aY]
    refine aJ (aj ?_)
    refine qV ?_
    refine qV ?_
    refine aV ?_
    dsimp only[aY]
    refine aj ?_
    refine qV ?_
    refine qV ?_
    refine qP ?_
    refine qP ?_
    refine qV ?_
    refine aV ?_
    try dsimp only[aY]
    exact⟨_,rfl,by rw[←hl];exact lk,lk,lk,lk,lk,lk,hA.trans hA1,hf.trans hf1⟩
   ·skip
    refine bq (tx (by simp only[evS,Nat.reduceEqDiff,reduceIte,g0,g1,g2,g6,g7,g8];try rfl) hlt) (i9 ?_)
    cases hx
    have:=hfin _ rfl
    cases this
    exact⟨by rw[←hl];exact(by simp only[evS,Nat.reduceEqDiff,reduceIte,g0,g1,g2,g6,g7,g8];try rfl),(by simp only[evS,Nat.reduceEqDiff,reduceIte,g0,g1,g2,g6,g7,g8];try rfl),(by simp only[evS,Nat.reduceEqDiff,reduceIte,g0,g1,g2,g6,g7,g8];try rfl),(by simp only[evS,Nat.reduceEqDiff,reduceIte,g0,g1,g2,g6,g7,g8];try rfl),(by simp only[evS,Nat.reduceEqDiff,reduceIte,g0,g1,g2,g6,g7,g8];try rfl),hA,hf⟩
  try clear G
  clear g0 g1 g2 g6 hA hf Γ
  rintro Γ t ⟨g0,g1,g2,g6,g7,hA,hf⟩
  refine fj (fun Γ t=>look Γ 0 = .c (.sl m 1 0 l.length)∧look Γ 1=iV p1∧look Γ 2 = .c (.fn f caps)∧look Γ 6=iV z∧ArK b s t m (a2.map enc)∧Fit l a2) ?_ ?_
  ·have hl:=hf.1
   have hSt:=hA.sb
   have hmt:=hA.self
   have hct:=hc.step hA
   rw[←hl]at g0
   replace G:=bk g0 (bk g1 (bk g2 (bk g6 g7)))
   refine aJ (aj ?_)
   refine qV ?_
   refine qV ?_
   refine qP ?_
   refine qV ?_
   refine aV ?_
   dsimp only[aY]
   refine aJ (aj ?_)
   refine qV ?_
   refine qV ?_
   refine qP ?_
   refine aV ?_
   dsimp only[aY]
   rcases kX hv with⟨hlt,hv⟩ | ⟨hlt,hv⟩
   ·refine bq (uz (by simp only[evS,Nat.reduceEqDiff,reduceIte,g0,g1,g2,g6,g7];try rfl) hlt) ?_
    obtain⟨r,hr,hv⟩:=ak.1 hv
    cases hv
    replace G:=bk g0 (bk g1 (bk g2 (bk g6 g7)))
    refine aj ?_
    refine qV ?_
    refine qV ?_
    refine qV ?_
    refine qV ?_
    refine qV ?_
    refine qC (hC:=aqQ hSt hbm hmt hct (fun x hx=>hd x (hf.2 x hx)) hr) (h:=?_)
    intro v4 s4 hq4
    obtain⟨hA1,hf1⟩:=hq4
    refine aV ?_
    try dsimp only[aY]
    exact⟨by rw[←hl];exact lk,lk,lk,lk,hA.trans hA1,hf.trans hf1⟩
   ·skip
    refine bq (tx (by simp only[evS,Nat.reduceEqDiff,reduceIte,g0,g1,g2,g6,g7];try rfl) hlt) (eX ?_)
    cases hv
    exact⟨by rw[←hl];exact(by simp only[evS,Nat.reduceEqDiff,reduceIte,g0,g1,g2,g6,g7];try rfl),(by simp only[evS,Nat.reduceEqDiff,reduceIte,g0,g1,g2,g6,g7];try rfl),(by simp only[evS,Nat.reduceEqDiff,reduceIte,g0,g1,g2,g6,g7];try rfl),(by simp only[evS,Nat.reduceEqDiff,reduceIte,g0,g1,g2,g6,g7];try rfl),hA,hf⟩
  try clear G
  clear g0 g1 g2 g6 g7 hA hf Γ
  rintro Γ t ⟨g0,g1,g2,g6,hA,hf⟩
  replace G:=bk g0 (bk g1 (bk g2 g6))
  refine aj ?_
  refine qV ?_
  refine qP ?_
  refine qV ?_
  refine aV ?_
  try dsimp only[aY]
  exact⟨_,rfl,lk,lk,lk,lk,hA,hf⟩
 ·skip
  refine bq (tx (by simp only[evS,Nat.reduceEqDiff,reduceIte,g0,g1,g2,g6];try rfl) hlt) (i9 ?_)
  cases hx
  have:=hfin _ rfl
  subst this
  exact⟨.inl rfl,_,_,rfl,dX,hA,hf⟩
set_option maxHeartbeats 1000000 in
theorem aOj{orc:cK}{b m:Nat}{f:FuncId}{caps:List X}{c:α→α→Option Int}{dom:α→Prop}{s:S}{l l':List α}(hS:Sb b s)(hbm:b≤m)(hm:s.h.get m=some (.cells aK (l.map enc)))(hc:CmpOk orc b m f caps enc c dom s)(hd:∀x∈l,dom x)(hF:KX c l l.length=some l') :
  Cp orc yJ dz [.c (.sl m 1 0 l.length),.c (.fn f caps)] s (fun k=>b≤k) True fun _ s'=>ArK b s s' m (l'.map enc)∧Fit l l':=by
 refine lj (rf:=b7) rfl ?_
 unfold b7
 obtain⟨Γ,hΓ⟩ : ∃Γ,Γ=ofL [V.c (.sl m 1 0 l.length),.c (.fn f caps)] 0 .lf:=⟨_,rfl⟩
 have g0:look Γ 0 = .c (.sl m 1 0 l.length):=by rw[hΓ];rfl
 have g1:look Γ 1 = .c (.fn f caps):=by rw[hΓ];rfl
 rw[←hΓ]
 try clear G
 clear hΓ
 replace G:=bk g0 g1
 refine aj ?_
 refine qV ?_
 refine qV ?_
 refine qP ?_
 refine qV ?_
 refine qC (hC:=aGY hS hbm hm hc hd hF) (h:=?_)
 intro v1 s1 hq1
 obtain⟨hA1,hf1⟩:=hq1
 refine aV ?_
 try dsimp only[aY]
 exact⟨.inl rfl,_,_,rfl,dX,hA1,hf1⟩
end
end Go.RM
namespace Go.RM
open Go Go.VM
def iX(n:Int):X:=.sc (.int .i64 n)
def nX(n:Nat):X:=.sc (.int .i64 (n:Int))
structure Ent where
 key:Int
 tk:Tk
 n:Nat
 xo:X
 on:Nat
def Ent.kt(e:Ent):Int×Tk:=(e.key,e.tk)
def CW(e:Ent):Value×V:=(.int .i64 e.key,.c (.ptr e.n 0))
def WW(n:Nat):X:=.ptr n 0
structure BH(b:Nat)(h:Hp)(fl:Bool)(bo mn an:Nat)(xa:X)(po:List Nat)(pcs:List Pc)(es:List Ent):Prop where
 bld:h bo=some (.cells pz [xa,.mp mn])
 all:RowP h aK xa (po.map WW) an
 map:h mn=some (.map (.int .i64) fl (es.map CW))
 len:po.length=pcs.length
 pc:∀(i:Nat) p n,pcs[i]? = some p→po[i]? = some n→b≤n∧∃c,h n=some (.cells fY (pcX p i c))
 tk:∀(i:Nat) e,es[i]? = some e→b≤e.n∧h e.n=some (.cells jW [e.xo,iX e.tk.ex,iX e.tk.la])∧RowP h KV e.xo (e.tk.opn.map nX) e.on∧b≤e.on
 pnd:∀(i j:Nat) n,po[i]? = some n→po[j]? = some n→i=j
 tnd:∀(i j:Nat) e f,es[i]? = some e→es[j]? = some f→e.n=f.n→i=j
 ond:∀(i j:Nat) e f,es[i]? = some e→es[j]? = some f→e.xo ≠ .sc cW→f.xo ≠ .sc cW→e.on=f.on→i=j
 knd:∀(i j:Nat) e f,es[i]? = some e→es[j]? = some f→e.key=f.key→i=j
 le:b≤bo∧b≤mn∧b≤an
def Bnd(es:List Ent)(n:Nat):Prop:=∀(i:Nat) e,es[i]? = some e→e.tk.opn.length≤n∧∀k∈e.tk.opn,k<n
theorem RowP.of{h h':Hp}{t:TypeId}{x:X}{cs:List X}{n:Nat}(hr:RowP h t x cs n)(hk:x ≠ .sc cW→(∃o,h n=some (.cells t o))→h' n=h n):RowP h' t x cs n:=by
 rcases hr with hr | ⟨h1,r,h2⟩
 ·exact .inl hr
 ·exact .inr ⟨h1,r,(hk (by rw[h1];simp) ⟨_,h2⟩).trans h2⟩
theorem BH.ext{b:Nat}{h h':Hp}{fl:Bool}{bo mn an:Nat}{xa:X}{po:List Nat}{pcs:List Pc}{es:List Ent}(hB:BH b h fl bo mn an xa po pcs es)(hk:∀k o,h k=some o→h' k=some o):BH b h' fl bo mn an xa po pcs es :=
 ⟨hk _ _ hB.bld,hB.all.of fun _ ⟨_,ho⟩=>(hk _ _ ho).trans ho.symm,hk _ _ hB.map,hB.len,fun i p n hp hn=>let ⟨h1,c,h2⟩:=hB.pc i p n hp hn;⟨h1,c,hk _ _ h2⟩,fun i e he=>let ⟨h1,h2,h3,h4⟩:=hB.tk i e he;⟨h1,hk _ _ h2,h3.of fun _ ⟨_,ho⟩=>(hk _ _ ho).trans ho.symm,h4⟩,hB.pnd,hB.tnd,hB.ond,hB.knd,hB.le⟩
theorem KeepS.ext{b:Nat}{s s':S}(hS:Sb b s)(hK:KeepS s s'):∀k o,s.h.get k=some o→s'.h.get k=some o:=fun k o h=>(hK.2 k (hS.lt h)).trans h
theorem BH.setP{b:Nat}{h h':Hp}{fl:Bool}{bo mn an:Nat}{xa:X}{po:List Nat}{pcs:List Pc}{es:List Ent}(hB:BH b h fl bo mn an xa po pcs es){j n:Nat}{p:Pc}(hp:pcs[j]? = some p)(hn:po[j]? = some n)(p':Pc)(c:Bool)(hself:h' n=some (.cells fY (pcX p' j c)))(hk:∀k,k≠n→h' k=h k):BH b h' fl bo mn an xa po (pcs.set j p') es:=by
 obtain⟨hbn,c0,hc0⟩:=hB.pc j p n hp hn
 have tag:∀k t cs,h k=some (.cells t cs)→t≠fY→h' k=some (.cells t cs):=fun k t cs ho ht=>by
  rw[hk k (fun e=>ht (by rw[e,hc0]at ho;cases ho;rfl))];exact ho
 refine⟨tag _ _ _ hB.bld (by decide),hB.all.of fun _ ⟨o,ho⟩=>(tag _ _ _ ho (by decide)).trans ho.symm,?_,by rw[List.length_set];exact hB.len,fun i q m hq hm=>?_,fun i e he=>?_,hB.pnd,hB.tnd,hB.ond,hB.knd,hB.le⟩
 ·rw[hk mn (fun e=>by have:=hB.map;rw[e,hc0]at this;cases this)];exact hB.map
 ·rw[kw]at hq
  split at hq
  ·rename_i e
   subst e
   rw[if_pos (bw.1 hp).1]at hq
   cases hq
   rw[hn]at hm;cases hm
   exact⟨hbn,c,hself⟩
  ·rename_i e
   obtain⟨g1,c1,g2⟩:=hB.pc i q m hq hm
   exact⟨g1,c1,(hk m (fun g=>e (by subst g;exact hB.pnd j i m hn hm))).trans g2⟩
 ·obtain⟨g1,g2,g3,g4⟩:=hB.tk i e he
  exact⟨g1,tag _ _ _ g2 (by decide),g3.of fun _ ⟨o,ho⟩=>(tag _ _ _ ho (by decide)).trans ho.symm,g4⟩
theorem BH.setT{b:Nat}{h h':Hp}{fl:Bool}{bo mn an:Nat}{xa:X}{po:List Nat}{pcs:List Pc}{es:List Ent}(hB:BH b h fl bo mn an xa po pcs es){i:Nat}{e:Ent}(he:es[i]? = some e)(e':Ent)(hkey:e'.key=e.key)(hn:e'.n=e.n)(hself:h' e.n=some (.cells jW [e'.xo,iX e'.tk.ex,iX e'.tk.la]))(hrow:RowP h' KV e'.xo (e'.tk.opn.map nX) e'.on)(hb:b≤e'.on)
  (hon:e'.xo ≠ .sc cW→(e'.on=e.on∧e.xo ≠ .sc cW)∨h e'.on=none) (hk:∀k o,h k=some o→k≠e.n→(k=e.on→e.xo = .sc cW∨e'.xo=e.xo)→h' k=h k):BH b h' fl bo mn an xa po pcs (es.set i e'):=by
 obtain⟨t1,t2,t3,t4⟩:=hB.tk i e he
 have hil:=(bw.1 he).1
 have tag:∀k t cs,h k=some (.cells t cs)→t≠jW→t≠KV→h' k=some (.cells t cs):=fun k t cs ho ht1 ht2=>by
  rw[hk k _ ho (fun g=>ht1 (by rw[g,t2]at ho;cases ho;rfl)) (fun g=>?_)]
  ·exact ho
  ·rcases t3 with⟨g1,_⟩ | ⟨_,r,g2⟩
   ·exact .inl g1
   ·rw[←g,ho]at g2;cases g2;exact absurd rfl ht2
 have get:∀(j:Nat) f,(es.set i e')[j]? = some f→(i=j∧f=e')∨(i≠j∧es[j]? = some f):=fun j f hf=>by
  rw[kw]at hf
  by_cases g:i=j
  ·subst g
   rw[if_pos rfl,if_pos hil]at hf
   exact .inl ⟨rfl,(Option.some.inj hf).symm⟩
  ·rw[if_neg g]at hf
   exact .inr ⟨g,hf⟩
 refine⟨tag _ _ _ hB.bld (by decide) (by decide),hB.all.of fun _ ⟨o,ho⟩=>(tag _ _ _ ho (by decide) (by decide)).trans ho.symm,?_,hB.len,fun j q m hq hm=>?_,fun j f hf=>?_,hB.pnd,fun j k f g hf hg hfg=>?_,fun j k f g hf hg h1 h2 hfg=>?_,fun j k f g hf hg hfg=>?_,hB.le⟩
 ·rw[hk mn _ hB.map (fun g=>by have:=hB.map;rw[g,t2]at this;cases this) (fun g=>?_),hB.map]
  ·congr 2
   apply List.ext_getElem?
   intro j
   rw[jw,jw,kw]
   by_cases g:i=j
   ·subst g
    rw[if_pos rfl,if_pos hil,he]
    simp only[qw,CW,hkey,hn]
   ·rw[if_neg g]
  ·rcases t3 with⟨g1,_⟩ | ⟨_,r,g2⟩
   ·exact .inl g1
   ·rw[←g,hB.map]at g2;cases g2
 ·obtain⟨g1,c1,g2⟩:=hB.pc j q m hq hm
  exact⟨g1,c1,tag _ _ _ g2 (by decide) (by decide)⟩
 ·rcases get j f hf with⟨_,rfl⟩ | ⟨g,hf⟩
  ·exact⟨by rw[hn];exact t1,by rw[hn];exact hself,hrow,hb⟩
  ·obtain⟨g1,g2,g3,g4⟩:=hB.tk j f hf
   refine⟨g1,?_,g3.of fun hx ⟨o,ho⟩=>?_,g4⟩
   ·rw[hk f.n _ g2 (fun e0=>g (hB.tnd i j e f he hf e0.symm)) (fun e0=>?_)]
    ·exact g2
    ·rcases t3 with⟨g1,_⟩ | ⟨_,r,g3⟩
     ·exact .inl g1
     ·rw[←e0,g2]at g3;cases g3
   ·refine hk f.on _ ho (fun e0=>by rw[e0,t2]at ho;cases ho) (fun e0=>?_)
    refine .inl ?_
    exact Classical.byContradiction fun hx2=>g (hB.ond i j e f he hf hx2 hx e0.symm)
 ·rcases get j f hf with⟨a1,a2⟩ | ⟨g1,hf'⟩<;>rcases get k g hg with⟨b1,b2⟩ | ⟨g2,hg'⟩
  ·omega
  ·exact a1▸hB.tnd _ _ _ _ he hg' (by rw[←hn,←a2];exact hfg)
  ·exact b1▸hB.tnd _ _ _ _ hf' he (by rw[←hn,←b2];exact hfg)
  ·exact hB.tnd _ _ _ _ hf' hg' hfg
 ·rcases get j f hf with⟨a1,a2⟩ | ⟨g1,hf'⟩<;>rcases get k g hg with⟨b1,b2⟩ | ⟨g2,hg'⟩
  ·omega
  ·subst a1 a2
   rcases hon h1 with⟨k1,k2⟩ | k1
   ·exact hB.ond _ _ _ _ he hg' k2 h2 (by rw[←k1];exact hfg)
   ·obtain⟨_,_,k3,_⟩:=hB.tk k g hg'
    rcases k3 with⟨k4,_⟩ | ⟨_,r,k4⟩
    ·exact absurd k4 h2
    ·rw[←hfg,k1]at k4;cases k4
  ·subst b1 b2
   rcases hon h2 with⟨k1,k2⟩ | k1
   ·exact hB.ond _ _ _ _ hf' he h1 k2 (by rw[←k1];exact hfg)
   ·obtain⟨_,_,k3,_⟩:=hB.tk j f hf'
    rcases k3 with⟨k4,_⟩ | ⟨_,r,k4⟩
    ·exact absurd k4 h1
    ·rw[hfg,k1]at k4;cases k4
  ·exact hB.ond _ _ _ _ hf' hg' h1 h2 hfg
 ·rcases get j f hf with⟨a1,a2⟩ | ⟨g1,hf'⟩<;>rcases get k g hg with⟨b1,b2⟩ | ⟨g2,hg'⟩
  ·omega
  ·exact a1▸hB.knd _ _ _ _ he hg' (by rw[←hkey,←a2];exact hfg)
  ·exact b1▸hB.knd _ _ _ _ hf' he (by rw[←hkey,←b2];exact hfg)
  ·exact hB.knd _ _ _ _ hf' hg' hfg
end Go.RM
namespace Go.RM
open Go Go.VM
theorem sJ{α:Type}{l:List α}{x y:α}{i:Nat}(h:(l++[x])[i]? = some y):(i<l.length∧l[i]? = some y)∨(i=l.length∧y=x):=by
 rcases Nat.lt_or_ge i l.length with g | g
 ·rw[lw g]at h;exact .inl ⟨g,h⟩
 ·rw[List.getElem?_append_right g]at h
  have:i-l.length=0:=by
   rcases Nat.eq_zero_or_pos (i-l.length)with z | z
   ·exact z
   ·rw[vw (by simp only[List.length_singleton];omega)]at h;cases h
  rw[this]at h
  exact .inr ⟨by omega,(Option.some.inj h).symm⟩
theorem aoz(th:Int):∀es:List Ent,(jx th (es.map Ent.kt)=none∧getK (.int .i64 th) (es.map CW)=none∧(∀(i:Nat) e,es[i]? = some e→e.key≠th)∧∀t,iq th t (es.map Ent.kt)=es.map Ent.kt++[(th,t)]∧∀v:V,putK (.int .i64 th) v (es.map CW)=es.map CW++[(.int .i64 th,v)]) ∨
  ∃(i:Nat) (e:Ent),es[i]? = some e∧e.key=th∧jx th (es.map Ent.kt)=some e.tk∧getK (.int .i64 th) (es.map CW)=some (.c (.ptr e.n 0))∧∀t,iq th t (es.map Ent.kt)=(es.map Ent.kt).set i (th,t)
 | []=>.inl ⟨rfl,rfl,fun i e h=>by simp at h,fun t=>⟨rfl,fun v=>rfl⟩⟩
 | a::es=>by
  by_cases h:a.key=th
  ·refine .inr ⟨0,a,rfl,h,?_,?_,fun t=>?_⟩
   ·simp only[qk,jx,Ent.kt,h,if_true]
   ·simp only[qk,getK,CW,keyB,h,decide_true,if_true]
   ·simp only[qk,iq,Ent.kt,h,if_true,List.set_cons_zero]
  ·have hk:keyB (.int .i64 th) (.int .i64 a.key)=false:=by simp[keyB,Ne.symm h]
   rcases aoz th es with⟨h1,h2,h3,h4⟩ | ⟨i,e,h1,h2,h3,h4,h5⟩
   ·refine .inl ⟨?_,?_,fun i e he=>?_,fun t=>⟨?_,fun v=>?_⟩⟩
    ·simp only[qk,jx,Ent.kt,if_neg h];exact h1
    ·simp only[qk,getK,CW,hk,rk,sk];exact h2
    ·cases i with
     | zero=>simp only[List.getElem?_cons_zero,ek]at he;rw[←he];exact h
     | succ i=>exact h3 i e he
    ·simp only[qk,iq,Ent.kt,if_neg h,List.cons_append]
     have:=(h4 t).1
     rw[←this]
    ·simp only[qk,putK,CW,hk,rk,sk,List.cons_append]
     have:=(h4 t).2 v
     rw[←this]
   ·refine .inr ⟨i+1,e,h1,h2,?_,?_,fun t=>?_⟩
    ·simp only[qk,jx,Ent.kt,if_neg h];exact h3
    ·simp only[qk,getK,CW,hk,rk,sk];exact h4
    ·simp only[qk,iq,Ent.kt,if_neg h,List.set_cons_succ]
     rw[←h5 t]
theorem BH.newT{b:Nat}{h h':Hp}{bo mn an:Nat}{xa:X}{po:List Nat}{pcs:List Pc}{es:List Ent}(hB:BH b h false bo mn an xa po pcs es){th:Int}(hnew:∀(i:Nat) e,es[i]? = some e→e.key≠th){n:Nat}(hbn:b≤n)(hn:h n=none)(hself:h' n=some (.cells jW [.sc cW,iX 0,iX 0]))(hmap:h' mn=some (.map (.int .i64) false (es.map CW++[(.int .i64 th,.c (.ptr n 0))])))(hk:∀k o,h k=some o→k≠mn→h' k=h k) :
  BH b h' false bo mn an xa po pcs (es++[⟨th,tk0,n,.sc cW,n⟩]):=by
 have tag:∀k t cs,h k=some (.cells t cs)→h' k=some (.cells t cs):=fun k t cs ho=>by
  rw[hk k _ ho (fun g=>by have:=hB.map;rw[←g,ho]at this;cases this)];exact ho
 have nn:∀k o,h k=some o→k≠n:=fun k o ho g=>by rw[g,hn]at ho;cases ho
 refine⟨tag _ _ _ hB.bld,hB.all.of fun _ ⟨o,ho⟩=>(tag _ _ _ ho).trans ho.symm,by rw[hmap,List.map_append];rfl,hB.len,fun j q m hq hm=>?_,fun j f hf=>?_,hB.pnd,fun j k f g hf hg hfg=>?_,fun j k f g hf hg h1 h2 hfg=>?_,fun j k f g hf hg hfg=>?_,hB.le⟩
 ·obtain⟨g1,c1,g2⟩:=hB.pc j q m hq hm
  exact⟨g1,c1,tag _ _ _ g2⟩
 ·rcases sJ hf with⟨_,hf⟩ | ⟨_,rfl⟩
  ·obtain⟨g1,g2,g3,g4⟩:=hB.tk j f hf
   exact⟨g1,tag _ _ _ g2,g3.of fun _ ⟨o,ho⟩=>(tag _ _ _ ho).trans ho.symm,g4⟩
  ·exact⟨hbn,hself,.inl ⟨rfl,rfl⟩,hbn⟩
 ·rcases sJ hf with⟨_,hf'⟩ | ⟨a1,a2⟩<;>rcases sJ hg with⟨_,hg'⟩ | ⟨b1,b2⟩
  ·exact hB.tnd _ _ _ _ hf' hg' hfg
  ·subst b2
   exact absurd hfg (nn _ _ (hB.tk j f hf').2.1)
  ·subst a2
   exact absurd hfg.symm (nn _ _ (hB.tk k g hg').2.1)
  ·omega
 ·rcases sJ hf with⟨_,hf'⟩ | ⟨a1,a2⟩<;>rcases sJ hg with⟨_,hg'⟩ | ⟨b1,b2⟩
  ·exact hB.ond _ _ _ _ hf' hg' h1 h2 hfg
  ·subst b2;exact absurd rfl h2
  ·subst a2;exact absurd rfl h1
  ·omega
 ·rcases sJ hf with⟨_,hf'⟩ | ⟨a1,a2⟩<;>rcases sJ hg with⟨_,hg'⟩ | ⟨b1,b2⟩
  ·exact hB.knd _ _ _ _ hf' hg' hfg
  ·subst b2;exact absurd hfg (hnew j f hf')
  ·subst a2;exact absurd hfg.symm (hnew k g hg')
  ·omega
theorem BH.push{b:Nat}{h h':Hp}{fl:Bool}{bo mn an:Nat}{xa:X}{po:List Nat}{pcs:List Pc}{es:List Ent}(hB:BH b h fl bo mn an xa po pcs es){p:Pc}{n an':Nat}{xa':X}{c:Bool}(hn:h' n=some (.cells fY (pcX p pcs.length c)))(hnp:∀(i:Nat) m,po[i]? = some m→m≠n)(hbn:b≤n)(hrow:RowP h' aK xa' ((po++[n]).map WW) an')(hba:b≤an')(hbld:h' bo=some (.cells pz [xa',.mp mn]))(hk:∀k o,h k=some o→k≠bo→(k=an→xa = .sc cW)→h' k=h k) :
  BH b h' fl bo mn an' xa' (po++[n]) (pcs++[p]) es:=by
 have alt:∀t cs,h an=some (.cells t cs)→t≠aK→xa = .sc cW:=fun t cs ho ht=>by
  rcases hB.all with⟨g1,_⟩ | ⟨_,r,g2⟩
  ·exact g1
  ·rw[ho]at g2;cases g2;exact absurd rfl ht
 have tag:∀k t cs,h k=some (.cells t cs)→t≠pz→t≠aK→h' k=some (.cells t cs):=fun k t cs ho h1 h2=>by
  rw[hk k _ ho (fun g=>h1 (by have:=hB.bld;rw[←g,ho]at this;cases this;rfl)) (fun g=>alt t cs (by rw[←g];exact ho) h2)];exact ho
 refine⟨hbld,hrow,?_,by rw[dw,dw,hB.len];rfl,fun j q m hq hm=>?_,fun j f hf=>?_,fun i j m hi hj=>?_,hB.tnd,hB.ond,hB.knd,hB.le.1,hB.le.2.1,hba⟩
 ·rw[hk mn _ hB.map (fun g=>by have:=hB.map;rw[g,hB.bld]at this;cases this) (fun g=>?_)]
  ·exact hB.map
  ·rcases hB.all with⟨g1,_⟩ | ⟨_,r,g2⟩
   ·exact g1
   ·rw[←g,hB.map]at g2;cases g2
 ·rcases sJ hq with⟨l1,hq⟩ | ⟨l1,rfl⟩<;>rcases sJ hm with⟨l2,hm⟩ | ⟨l2,rfl⟩
  ·obtain⟨g1,c1,g2⟩:=hB.pc j q m hq hm
   exact⟨g1,c1,tag _ _ _ g2 (by decide) (by decide)⟩
  ·have:=hB.len;omega
  ·have:=hB.len;omega
  ·rw[l1];exact⟨hbn,c,hn⟩
 ·obtain⟨g1,g2,g3,g4⟩:=hB.tk j f hf
  exact⟨g1,tag _ _ _ g2 (by decide) (by decide),g3.of fun _ ⟨o,ho⟩=>(tag _ _ _ ho (by decide) (by decide)).trans ho.symm,g4⟩
 ·rcases sJ hi with⟨l1,hi⟩ | ⟨l1,e1⟩<;>rcases sJ hj with⟨l2,hj⟩ | ⟨l2,e2⟩
  ·exact hB.pnd i j m hi hj
  ·exact absurd e2 (hnp i m hi)
  ·exact absurd e1 (hnp j m hj)
  ·omega
def KeepT(s s':S):Prop:=s.c≤s'.c∧∀k t cs,s.h.get k=some (.cells t cs)→t=f9→s'.h.get k=some (.cells t cs)
theorem KeepT.refl(s:S):KeepT s s:=⟨mw _,fun _ _ _ h _=>h⟩
theorem KeepT.trans{s s' s'':S}(h:KeepT s s')(k:KeepT s' s''):KeepT s s'':=⟨Nat.le_trans h.1 k.1,fun n t cs hn ht=>k.2 n t cs (h.2 n t cs hn ht) ht⟩
theorem KeepS.toT{b:Nat}{s s':S}(hS:Sb b s)(h:KeepS s s'):KeepT s s':=⟨h.1,fun k t cs hk _=>(h.2 k (hS.lt hk)).trans hk⟩
theorem St.toT{s s':S}{n:Nat}{o:O}{t:TypeId}{cs:List X}(h:St s s' n o)(hc:s'.c=s.c)(hn:s.h.get n=some (.cells t cs))(ht:t≠f9):KeepT s s':=⟨by omega,fun k t' cs' hk ht'=>h.at hk (fun e=>ht (by rw[e,hn]at hk;cases hk;exact ht'))⟩
end Go.RM
namespace Go.RM
open Go Go.VM
section
variable {orc:cK} {T:Tr RF} {F:Nat→Prop} {D:Prop} {os:List (ROp×Nat)} {Γ:Tr V} {s:S} {b n:Nat} {o:O} {Q:Tr V→S→Prop}
theorem aNK(hS:Sb b s)(hb:b≤n)(hn:n<s.c)(h:∀s1,St s s1 n o→s1.c=s.c→Sb b s1→s1.w=Nat.lor s.w (bit n)→Sq orc T os Γ s1 F D Q):Sq orc T os Γ (o7 s n o) F D Q:=h _ (D0 s n o) rfl (hS.put hb hn o) rfl
theorem aJJ(hS:Sb b s)(h:∀s1,St s s1 s.c o→s1.c=s.c+1→Sb b s1→s1.w=Nat.lor s.w (bit s.c)→Sq orc T os Γ s1 F D Q):Sq orc T os Γ (zJ s o) F D Q:=h _ (vV s o) rfl (hS.new o) rfl
end
set_option maxHeartbeats 4000000 in
theorem aDX{orc:cK}{b:Nat}{s:S}{bo mn an:Nat}{xa:X}{po:List Nat}{pcs:List Pc}{es:List Ent}(hS:Sb b s)(hB:BH b s.h.get false bo mn an xa po pcs es)(th:Int) :
  Cp orc yJ qJ [.c (.ptr bo 0),iV th] s (fun k=>k=bo∨k=mn∨s.c≤k) True fun v s'=>∃(es':List Ent) (i:Nat) (e:Ent),v = .c (.ptr e.n 0)∧Sb b s'∧BH b s'.h.get false bo mn an xa po pcs es'∧es'[i]? = some e∧e.key=th∧e.tk=(jx th (es.map Ent.kt)).getD tk0∧(∀t,(es'.map Ent.kt).set i (th,t)=iq th t (es.map Ent.kt))∧KeepT s s'∧(∀n,Bnd es n→Bnd es' n)∧∀j,s'.w.testBit j=true→s.w.testBit j=true∨j=mn∨s.c≤j:=by
 refine lj (rf:=mq) rfl ?_
 unfold mq
 obtain⟨Γ,hΓ⟩ : ∃Γ,Γ=ofL [V.c (.ptr bo 0),iV th] 0 .lf:=⟨_,rfl⟩
 have g0:look Γ 0 = .c (.ptr bo 0):=by rw[hΓ];rfl
 have g1:look Γ 1=iV th:=by rw[hΓ];rfl
 rw[←hΓ]
 try clear G
 clear hΓ
 have hbld:=hB.bld
 have hmap:=hB.map
 have hle:=hS.le
 obtain⟨b1,b2,b3⟩:=hB.le
 have hml:=hS.lt hmap
 have hbl:=hS.lt hbld
 have c1:([xa,X.mp mn]:List X)[1]? = some (.mp mn):=rfl
 replace G:=bk g0 g1
 refine aJ (aj ?_)
 refine qV ?_
 refine aV ?_
 dsimp only[aY]
 rcases aoz th es with⟨h1,h2,h3,h4⟩ | ⟨i,e,h1,h2,h3,h4,h5⟩
 ·refine aJ ?_
  replace G:=bk g0 g1
  refine aJ (aj ?_)
  refine qV ?_
  refine qP ?_
  refine qP ?_
  refine qL ?_
  refine qV ?_
  refine zx rfl (by first | exact MS.lookS (by simp only[evS,Nat.reduceEqDiff,reduceIte,G];first | done | rfl) (by simp only[evS,Nat.reduceEqDiff,reduceIte,D8,G];rfl) (wJ (by assumption)) rfl (by assumption) | exact MS.lookN (by simp only[evS,Nat.reduceEqDiff,reduceIte,G];first | done | rfl) (by simp only[evS,Nat.reduceEqDiff,reduceIte,D8,G];rfl) (wJ (by assumption)) rfl (by assumption)) (fun k hk=>by first | exact False.elim hk | (dsimp only at hk ⊢;omega) | omega) ?_
  refine eV rfl (by first | exact aAZ (by simp only[evS,Nat.reduceEqDiff,reduceIte,G];first | done | rfl) (by simp only[evS,Nat.reduceEqDiff,reduceIte,G];first | done | rfl) | exact arZ (by simp only[evS,Nat.reduceEqDiff,reduceIte,G];first | done | rfl) (by simp only[evS,Nat.reduceEqDiff,reduceIte,G];first | done | rfl) | exact aCx (by simp only[evS,Nat.reduceEqDiff,reduceIte,G];first | done | rfl) (by simp only[evS,Nat.reduceEqDiff,reduceIte,G];first | done | rfl) | exact arq (by simp only[evS,Nat.reduceEqDiff,reduceIte,G];first | done | rfl) (by simp only[evS,Nat.reduceEqDiff,reduceIte,G];first | done | rfl)) ?_
  refine aV ?_
  dsimp only[aY]
  refine bq (H0 lk) ?_
  refine aj ?_
  refine qV ?_
  refine qP ?_
  refine qP ?_
  refine qL ?_
  refine qV ?_
  refine eV rfl (by simp only[evS,Nat.reduceEqDiff,reduceIte,PU,bj,scV,bV,iV,cW,isB,isI,iz,kZ,mkV,fill,c5,setAt,List.take_zero,List.take_succ_cons,List.take_nil,List.drop_nil,vk,List.nil_append,List.cons_append,uw,List.length_nil,Nat.reduceAdd,Nat.reduceLeDiff,MY,NJ,eq_self,decide_true,Bool.and_self,G];first | done | rfl) ?_
  refine zx rfl (MS.box hS (by simp only[evS,Nat.reduceEqDiff,reduceIte,c5,G];first | done | rfl)) (fun k hk=>by first | exact False.elim hk | (dsimp only at hk ⊢;omega) | omega) ?_
  refine aJJ hS ?_
  intro s1 hst1 hsc1 hS1 hsw1
  replace hbld:=hst1.at hbld (by omega)
  replace hmap:=hst1.at hmap (by omega)
  have hn1:=hst1.self
  refine zx rfl (MS.mupd (by simp only[evS,Nat.reduceEqDiff,reduceIte,G];try rfl) (by simp only[evS,Nat.reduceEqDiff,reduceIte,D8,G];rfl) (by assumption) rfl (by simp only[evS,Nat.reduceEqDiff,reduceIte,kK,G])) (fun k hk=>by first | exact False.elim hk | (dsimp only at hk ⊢;omega) | omega) ?_
  refine aNK hS1 (by omega) (by omega) ?_
  intro s2 hst2 hsc2 hS2 hsw2
  first | replace hbld:=hst2.at hbld (by omega) | replace hbld:=hst2.self
  first | replace hmap:=hst2.at hmap (by omega) | replace hmap:=hst2.self
  first | replace hn1:=hst2.at hn1 (by omega) | replace hn1:=hst2.self
  refine aV ?_
  try dsimp only[aY]
  have h4':=(h4 tk0).2 (.c (.ptr s.c 0))
  simp only[evS,Nat.reduceEqDiff,reduceIte]at hmap
  rw[h4']at hmap
  have hB2:=hB.newT (h':=s2.h.get) (th:=th) h3 (n:=s.c) (by omega) (hS.free _ (mw _)) (by rw[hst2.keep s.c (by omega)];exact hst1.self) hmap (fun k o hk hne=>by rw[hst2.keep k hne,hst1.keep k (by have:=hS.lt hk;omega)])
  have hK:KeepT s s2:=⟨by omega,fun k t cs hk _=>by rw[hst2.keep k (fun e=>by have:=hB.map;rw[←e,hk]at this;cases this),hst1.keep k (by have:=hS.lt hk;omega)];exact hk⟩
  have hmap2:=hB2.map
  have hg:getK (.int .i64 th) ((es++[(⟨th,tk0,s.c,.sc cW,s.c⟩ : Ent)]).map CW)=some (.c (.ptr s.c 0)):=by
   rcases aoz th (es ++ [(⟨th,tk0,s.c,.sc cW,s.c⟩ : Ent)])with⟨_,_,k3,_⟩ | ⟨i,e,k1,k2,_,k4,_⟩
   ·exact absurd rfl (k3 es.length _ List.getElem?_concat_length)
   ·rcases sJ k1 with⟨_,k1⟩ | ⟨_,rfl⟩
    ·exact absurd k2 (h3 i e k1)
    ·exact k4
  have hbld2:=hB2.bld
  replace G:=bk g0 g1
  refine aJ (aj ?_)
  refine qV ?_
  refine qP ?_
  refine qP ?_
  refine qL ?_
  refine qV ?_
  refine zx rfl (by first | exact MS.lookS (by simp only[evS,Nat.reduceEqDiff,reduceIte,G];first | done | rfl) (by simp only[evS,Nat.reduceEqDiff,reduceIte,D8,G];rfl) (wJ (by assumption)) rfl (by assumption) | exact MS.lookN (by simp only[evS,Nat.reduceEqDiff,reduceIte,G];first | done | rfl) (by simp only[evS,Nat.reduceEqDiff,reduceIte,D8,G];rfl) (wJ (by assumption)) rfl (by assumption)) (fun k hk=>by first | exact False.elim hk | (dsimp only at hk ⊢;omega) | omega) ?_
  refine qV ?_
  refine aV ?_
  dsimp only[aY]
  refine sx ⟨.inr rfl,_,_,sQ lk rfl,dX,_,es.length,⟨th,tk0,s.c,.sc cW,s.c⟩,rfl,hS2,hB2,List.getElem?_concat_length,rfl,by rw[h1];rfl,fun t=>?_,hK,fun n hn i e he=>?_,fun j hj=>?_⟩
  ·rw[List.map_append,(h4 t).1]
   have:(es.map Ent.kt).length=es.length:=ew _
   rw[←this]
   simp
  ·rcases sJ he with⟨_,he⟩ | ⟨_,rfl⟩
   ·exact hn i e he
   ·exact⟨Nat.zero_le _,fun k hk=>by simp[tk0]at hk⟩
  ·rw[hsw2,ij,Bw,hsw1,ij,Bw]at hj
   rcases hj with (hj | hj) | hj
   ·exact .inl hj
   ·exact .inr (.inr (by have:=dQ j hj;omega))
   ·exact .inr (.inl (dQ j hj))
 ·refine aJ ?_
  replace G:=bk g0 g1
  refine aJ (aj ?_)
  refine qV ?_
  refine qP ?_
  refine qP ?_
  refine qL ?_
  refine qV ?_
  refine zx rfl (by first | exact MS.lookS (by simp only[evS,Nat.reduceEqDiff,reduceIte,G];first | done | rfl) (by simp only[evS,Nat.reduceEqDiff,reduceIte,D8,G];rfl) (wJ (by assumption)) rfl (by assumption) | exact MS.lookN (by simp only[evS,Nat.reduceEqDiff,reduceIte,G];first | done | rfl) (by simp only[evS,Nat.reduceEqDiff,reduceIte,D8,G];rfl) (wJ (by assumption)) rfl (by assumption)) (fun k hk=>by first | exact False.elim hk | (dsimp only at hk ⊢;omega) | omega) ?_
  refine eV rfl (by first | exact aAZ (by simp only[evS,Nat.reduceEqDiff,reduceIte,G];first | done | rfl) (by simp only[evS,Nat.reduceEqDiff,reduceIte,G];first | done | rfl) | exact arZ (by simp only[evS,Nat.reduceEqDiff,reduceIte,G];first | done | rfl) (by simp only[evS,Nat.reduceEqDiff,reduceIte,G];first | done | rfl) | exact aCx (by simp only[evS,Nat.reduceEqDiff,reduceIte,G];first | done | rfl) (by simp only[evS,Nat.reduceEqDiff,reduceIte,G];first | done | rfl) | exact arq (by simp only[evS,Nat.reduceEqDiff,reduceIte,G];first | done | rfl) (by simp only[evS,Nat.reduceEqDiff,reduceIte,G];first | done | rfl)) ?_
  refine aV ?_
  dsimp only[aY]
  refine bq (H0 lk) (eX ?_)
  dsimp only[aY]
  refine aJ (aj ?_)
  refine qV ?_
  refine qP ?_
  refine qP ?_
  refine qL ?_
  refine qV ?_
  refine zx rfl (by first | exact MS.lookS (by simp only[evS,Nat.reduceEqDiff,reduceIte,G];first | done | rfl) (by simp only[evS,Nat.reduceEqDiff,reduceIte,D8,G];rfl) (wJ (by assumption)) rfl (by assumption) | exact MS.lookN (by simp only[evS,Nat.reduceEqDiff,reduceIte,G];first | done | rfl) (by simp only[evS,Nat.reduceEqDiff,reduceIte,D8,G];rfl) (wJ (by assumption)) rfl (by assumption)) (fun k hk=>by first | exact False.elim hk | (dsimp only at hk ⊢;omega) | omega) ?_
  refine qV ?_
  refine aV ?_
  dsimp only[aY]
  refine sx ⟨.inr rfl,_,_,sQ lk rfl,dX,es,i,e,rfl,hS,hB,h1,h2,by rw[h3];rfl,fun t=>(h5 t).symm,KeepT.refl _,fun _ h=>h,fun j hj=>.inl hj⟩
end Go.RM
namespace Go.RM
open Go Go.VM
theorem nz{h:Hp}{k m:Nat}{t t':TypeId}{cs cs':List X}(h1:h k=some (.cells t cs))(h2:h m=some (.cells t' cs'))(ht:t≠t'):k≠m:=fun e=>ht (by rw[e,h2]at h1;cases h1;rfl)
def IJ(pcs:List Pc)(opn:List Nat)(at':Int)(op:Bool):List Pc×List Nat:=match opn.getLast? with
  | none=>(pcs,opn)
  | some j=>(D5 pcs j at' op,opn.dropLast)
def Keep2(s s':S):Prop:=s.c=s'.c∧∀k o,s.h.get k=some o→(∀t cs,o = .cells t cs→t≠fY∧t≠jW)→s'.h.get k=some o
theorem Keep2.refl(s:S):Keep2 s s:=⟨rfl,fun _ _ h _=>h⟩
theorem Keep2.trans{s s' s'':S}(h:Keep2 s s')(k:Keep2 s' s''):Keep2 s s'':=⟨h.1.trans k.1,fun n o hn ho=>k.2 n o (h.2 n o hn ho) ho⟩
theorem Keep2.toT{s s':S}(h:Keep2 s s'):KeepT s s':=⟨by have:=h.1;omega,fun k t cs hk ht=>h.2 k _ hk fun t' cs' e=>by cases e;subst ht;exact⟨by decide,by decide⟩⟩
theorem St.to2{s s':S}{n:Nat}{o:O}{t:TypeId}{cs:List X}(h:St s s' n o)(hc:s'.c=s.c)(hn:s.h.get n=some (.cells t cs))(ht:t=fY∨t=jW):Keep2 s s':=⟨hc.symm,fun k o' hk ho=>h.at hk (fun e=>by
  rw[e,hn]at hk;cases hk
  have:=ho t cs rfl
  rcases ht with ht | ht
  ·exact this.1 ht
  ·exact this.2 ht)⟩
set_option maxHeartbeats 8000000 in
theorem anW{orc:cK}{b:Nat}{s:S}{fl:Bool}{bo mn an:Nat}{xa:X}{po:List Nat}{pcs:List Pc}{es:List Ent}(hS:Sb b s)(hB:BH b s.h.get fl bo mn an xa po pcs es){i:Nat}{e:Ent}(he:es[i]? = some e)(hin:∀j∈e.tk.opn,j<pcs.length)(hsz:e.tk.opn.length≤1000000)(at':Int)(op:Bool) :
    Cp orc yJ lK [.c (.ptr bo 0),.c (.ptr e.n 0),iV at',bV op] s (fun k=>b≤k) True fun _ s'=>Sb b s'∧Keep2 s s'∧∃e',BH b s'.h.get fl bo mn an xa po (IJ pcs e.tk.opn at' op).1 (es.set i e')∧e'.key=e.key∧e'.n=e.n∧e'.tk=⟨(IJ pcs e.tk.opn at' op).2,e.tk.ex,e.tk.la⟩:=by
  refine lj (rf:=nK) rfl ?_
  unfold nK
  obtain⟨Γ,hΓ⟩ : ∃Γ,Γ=ofL [V.c (.ptr bo 0),.c (.ptr e.n 0),iV at',bV op] 0 .lf:=⟨_,rfl⟩
  have g0:look Γ 0 = .c (.ptr bo 0):=by rw[hΓ];rfl
  have g1:look Γ 1 = .c (.ptr e.n 0):=by rw[hΓ];rfl
  have g2:look Γ 2=iV at':=by rw[hΓ];rfl
  have g3:look Γ 3=bV op:=by rw[hΓ];rfl
  rw[←hΓ]
  try clear G
  clear hΓ
  obtain⟨b1,b2,b3⟩:=hB.le
  have hbld:=hB.bld
  have hbl:=hS.lt hbld
  obtain⟨t1,htr,hrow,t4⟩:=hB.tk i e he
  have htl:=hS.lt htr
  have hes:es.set i e=es:=by
    apply List.ext_getElem?
    intro j
    rw[kw]
    by_cases g:i=j
    ·subst g;rw[if_pos rfl,if_pos (bw.1 he).1,he]
    ·rw[if_neg g]
  have c0:([e.xo,iX e.tk.ex,iX e.tk.la]:List X)[0]? = some e.xo:=rfl
  rcases hrow with⟨hx,hl⟩ | ⟨hx,rest,hr⟩
  ·have ho:e.tk.opn=[]:=List.map_eq_nil_iff.1 hl
   rw[hx]at htr
   replace G:=bk g0 (bk g1 (bk g2 g3))
   refine aJ (aj ?_)
   refine qV ?_
   refine qP ?_
   refine qP ?_
   refine qL ?_
   refine qP ?_
   refine qP ?_
   refine qV ?_
   refine aV ?_
   dsimp only[aY]
   refine aJ ?_
   refine aJ (aj ?_)
   refine qV ?_
   refine qP ?_
   refine aV ?_
   dsimp only[aY]
   refine bq (uz lk (by decide)) ?_
   refine sx ⟨.inr rfl,_,_,rfl,dX,hS,Keep2.refl _,e,?_,rfl,rfl,?_⟩
   ·rw[hes,ho];exact hB
   ·rw[ho];cases e with | mk k t n x o => cases t;simp only at ho;subst ho;rfl
  ·rw[hx,ew]at htr
   have hxl:([X.sl e.on 1 0 e.tk.opn.length,iX e.tk.ex,iX e.tk.la]:List X)[0]? = some (.sl e.on 1 0 e.tk.opn.length):=rfl
   replace G:=bk g0 (bk g1 (bk g2 g3))
   refine aJ (aj ?_)
   refine qV ?_
   refine qP ?_
   refine qP ?_
   refine qL ?_
   refine qP ?_
   refine qP ?_
   refine qV ?_
   refine aV ?_
   dsimp only[aY]
   cases hlast:e.tk.opn.getLast? with
   | none =>
     have ho:e.tk.opn=[]:=List.getLast?_eq_none_iff.1 hlast
     refine aJ ?_
     replace G:=bk g0 (bk g1 (bk g2 g3))
     refine aJ (aj ?_)
     refine qV ?_
     refine qP ?_
     refine aV ?_
     dsimp only[aY]
     refine bq (uz lk (by rw[ho];decide)) ?_
     refine sx ⟨.inr rfl,_,_,rfl,dX,hS,Keep2.refl _,e,?_,rfl,rfl,?_⟩
     ·rw[hes];unfold IJ;rw[hlast];exact hB
     ·unfold IJ;rw[hlast]
   | some j =>
     have hdl:=xY hlast
     have hjm:j∈e.tk.opn:=List.mem_of_getLast? hlast
     have hjl:=hin j hjm
     have hlen:e.tk.opn.length=e.tk.opn.dropLast.length+1:=by
       have:=congrArg List.length hdl
       simp only[dw,List.length_singleton]at this
       exact this
     have e8:IntKind.i64.wrap ((e.tk.opn.length:Int)-1)=((e.tk.opn.dropLast.length:Nat):Int):=by rw[wr (by omega) (by omega)];omega
     refine aJ ?_
     replace G:=bk g0 (bk g1 (bk g2 (bk g3 e8)))
     refine aJ (aj ?_)
     refine qV ?_
     refine qP ?_
     refine aV ?_
     dsimp only[aY]
     refine bq (tx lk (by omega)) (eX ?_)
     dsimp only[aY]
     obtain⟨p,hp⟩ : ∃p,pcs[j]? = some p:=⟨_,cw hjl⟩
     obtain⟨n,hn⟩ : ∃n,po[j]? = some n:=⟨_,cw (by rw[hB.len];exact hjl)⟩
     obtain⟨hbn,cc,hpc⟩:=hB.pc j p n hp hn
     have hnl:=hS.lt hpc
     obtain⟨har,rest2,hall⟩ : xa = .sl an 1 0 po.length∧∃rest,s.h.get an=some (.cells aK (po.map WW++rest)):=by
       rcases hB.all with⟨_,h2⟩ | ⟨h1,r,h2⟩
       ·have:po=[]:=List.map_eq_nil_iff.1 h2
        rw[this]at hn;cases hn
       ·rw[ew]at h1;exact⟨h1,r,h2⟩
     rw[har]at hbld
     have hanl:=hS.lt hall
     have hrl:=hS.lt hr
     have cb:([X.sl an 1 0 po.length,X.mp mn]:List X)[0]? = some (.sl an 1 0 po.length):=rfl
     have cr:(e.tk.opn.map nX++rest)[e.tk.opn.dropLast.length]? = some (nX j):=by
       rw[lw (by rw[ew];omega),jw]
       have:e.tk.opn[e.tk.opn.dropLast.length]? = some j:=by conv=>lhs;lhs;rw[hdl]
                                                             exact List.getElem?_concat_length
       rw[this];rfl
     have ca:(po.map WW++rest2)[j]? = some (.ptr n 0):=by
       rw[lw (by rw[ew,hB.len];exact hjl),jw,hn];rfl
     have hjpo:j<po.length:=by rw[hB.len];exact hjl
     have ne1:=nz htr hpc (by decide)
     have ne2:=nz hbld hpc (by decide)
     have ne3:=nz hall hpc (by decide)
     have ne4:=nz hr hpc (by decide)
     have ne5:=nz hr htr (by decide)
     have ne6:=nz hbld htr (by decide)
     have ne7:=nz hall htr (by decide)
     replace G:=bk g0 (bk g1 (bk g2 (bk g3 e8)))
     refine aJ (kj rfl ?_)
     refine rV ?_
     refine rP ?_
     refine rP ?_
     refine tQ rfl (by first | exact MS.load1 (by simp only[evS,Nat.reduceEqDiff,reduceIte,G];first | done | rfl) (by assumption) (by first | rfl | assumption | (simp only[kw,jw,G];done) | simp) | exact MS.loadI1 (by simp only[evS,Nat.reduceEqDiff,reduceIte,G];first | done | rfl) | exact MS.loadI2 (by simp only[evS,Nat.reduceEqDiff,reduceIte,G];first | done | rfl)) (fun k hk=>by first | exact False.elim hk | (dsimp only at hk ⊢;omega) | omega) (fun x hx=>by simp at hx) ?_
     refine rV ?_
     refine rP ?_
     refine rP ?_
     refine rL ?_
     refine rV ?_
     refine rX ?_
     refine rL ?_
     refine rX ?_
     refine rL ?_
     refine rV ?_
     refine oq ?_
     dsimp only[aY]
     have hL:(pcX p j cc).length=11:=rfl
     refine aJ (aj ?_)
     refine qV ?_
     refine qV ?_
     refine qV ?_
     refine qV ?_
     refine qV ?_
     refine qP ?_
     refine qP ?_
     refine qP ?_
     refine qP ?_
     refine qT ?_
     refine rz hS (by omega) (by omega) ?_
     intro s1 hst1 hsc1 hS1
     first | replace hbld:=hst1.at hbld (by omega) | replace hbld:=hst1.self
     first | replace htr:=hst1.at htr (by omega) | replace htr:=hst1.self
     first | replace hall:=hst1.at hall (by omega) | replace hall:=hst1.self
     first | replace hr:=hst1.at hr (by omega) | replace hr:=hst1.self
     first | replace hpc:=hst1.at hpc (by omega) | replace hpc:=hst1.self
     refine qP ?_
     refine qP ?_
     refine qP ?_
     refine qT ?_
     refine rz hS1 (by omega) (by omega) ?_
     intro s2 hst2 hsc2 hS2
     first | replace hbld:=hst2.at hbld (by omega) | replace hbld:=hst2.self
     first | replace htr:=hst2.at htr (by omega) | replace htr:=hst2.self
     first | replace hall:=hst2.at hall (by omega) | replace hall:=hst2.self
     first | replace hr:=hst2.at hr (by omega) | replace hr:=hst2.self
     first | replace hpc:=hst2.at hpc (by omega) | replace hpc:=hst2.self
     refine qP ?_
     refine qP ?_
     refine qT ?_
     refine rz hS2 (by omega) (by omega) ?_
     intro s3 hst3 hsc3 hS3
     first | replace hbld:=hst3.at hbld (by omega) | replace hbld:=hst3.self
     first | replace htr:=hst3.at htr (by omega) | replace htr:=hst3.self
     first | replace hall:=hst3.at hall (by omega) | replace hall:=hst3.self
     first | replace hr:=hst3.at hr (by omega) | replace hr:=hst3.self
     first | replace hpc:=hst3.at hpc (by omega) | replace hpc:=hst3.self
     refine aV ?_
     dsimp only[aY]
     have hB1:BH b s3.h.get fl bo mn an xa po (pcs.set j {p with to:=at',op:=op}) es:=hB.setP hp hn {p with to:=at',op:=op} true hpc (fun k hk=>by rw[hst3.keep k hk,hst2.keep k hk,hst1.keep k hk])
     have hK1:Keep2 s s3:=((hst1.to2 hsc1 (hB.pc j p n hp hn).2.choose_spec (.inl rfl)).trans (hst2.to2 hsc2 hst1.self (.inl rfl))).trans (hst3.to2 hsc3 hst2.self (.inl rfl))
     refine aj ?_
     refine qV ?_
     refine qV ?_
     refine qP ?_
     refine qP ?_
     refine qL ?_
     refine qV ?_
     refine eV rfl (by first | exact aRx  (by simp only[evS,Nat.reduceEqDiff,reduceIte,G];first | done | rfl) (by simp only[evS,Nat.reduceEqDiff,reduceIte,G];first | done | rfl) (by omega) | (simp only[evS,Nat.reduceEqDiff,reduceIte,PU,bj,scV,bV,iV,cW,isB,isI,iz,kZ,mkV,G];rfl)) ?_
     refine qP ?_
     refine qP ?_
     refine qT ?_
     refine rz hS3 (by omega) (by omega) ?_
     intro s4 hst4 hsc4 hS4
     first | replace hbld:=hst4.at hbld (by omega) | replace hbld:=hst4.self
     first | replace htr:=hst4.at htr (by omega) | replace htr:=hst4.self
     first | replace hall:=hst4.at hall (by omega) | replace hall:=hst4.self
     first | replace hr:=hst4.at hr (by omega) | replace hr:=hst4.self
     first | replace hpc:=hst4.at hpc (by omega) | replace hpc:=hst4.self
     refine aV ?_
     try dsimp only[aY]
     have hrow2:RowP s4.h.get KV (.sl e.on 1 0 e.tk.opn.dropLast.length) (e.tk.opn.dropLast.map nX) e.on:=by
       refine .inr ⟨by rw[ew],nX j::rest,?_⟩
       rw[hr]
       have:e.tk.opn.map nX++rest=e.tk.opn.dropLast.map nX++nX j::rest:=by
         conv=>lhs;rw[hdl]
         rw[List.map_append,uk]
         rfl
       rw[this]
     have hB2:=hB1.setT he (h':=s4.h.get) {e with tk:=⟨e.tk.opn.dropLast,e.tk.ex,e.tk.la⟩,xo:=.sl e.on 1 0 e.tk.opn.dropLast.length} rfl rfl htr hrow2 t4 (fun _=>.inl ⟨rfl,by rw[hx];simp[cW]⟩) (fun k o hk h1 h2=>hst4.keep k h1)
     have hK2:=hK1.trans (hst4.to2 hsc4 (hB1.tk i e he).2.1 (.inr rfl))
     have hend:IJ pcs e.tk.opn at' op=(pcs.set j {p with to:=at',op:=op},e.tk.opn.dropLast):=by simp only[IJ,hlast,D5,hp]
     refine⟨.inl rfl,_,_,rfl,dX,hS4,hK2,{e with tk:=⟨e.tk.opn.dropLast,e.tk.ex,e.tk.la⟩,xo:=.sl e.on 1 0 e.tk.opn.dropLast.length},by rw[hend];exact hB2,rfl,rfl,by rw[hend]⟩
end Go.RM
namespace Go.RM
open Go Go.VM
theorem xj{e:Opd→V}{x:Opd}{h:Hp}{t:TypeId}{xv:X}{cs:List X}{n:Nat}(hx:e x = .c xv)(hr:RowP h t xv cs n):bj e (.lenS x)=some (iV (cs.length:Int)):=by
 rcases hr with⟨rfl,rfl⟩ | ⟨rfl,_⟩
 ·simp only[bj,hx,cW];try rfl
 ·simp only[bj,hx];try rfl
theorem aEx{orc:cK}{T:Tr RF}{F:Nat→Prop}{D:Prop}{os:List (ROp×Nat)}{tab:List Nat}{i:Nat}{ds:List Fp}{Γ:Tr V}{s:S}{b:Nat}{d:Option Nat}{g:Option (Nat×Bool)}{m bb:Nat}{f:FuncId}{qs:List Opd}{args:List V}{k:Tr V→S→Prop}(R W:Nat→Prop)(hw:bK Γ g=some true)(hargs:qs.map (ev Γ)=args)(hS:Sb b s)(hF:∀j,R j→F j)(ha:∀x∈ds,apO bb x R W)
  (hC:Cp orc T f args {s with w:=0} R True fun v s'=>(∀j,s'.w.testBit j=true→W j)∧Sb b s'∧s.c≤s'.c∧∀s1,s1.h=s'.h→s1.c=s'.c→Sb b s1→Dr orc T F D os tab (i+1) (ds++[⟨i,R,W⟩]) (putO d v Γ) s1 k):Dr orc T F D ((⟨d,.call f qs,g⟩,m)::os) (bb::tab) i ds Γ s k:=by
 refine adj R W hw hargs hF ha (Cp.mono hC (fun _ h=>h) (fun h=>h) fun v s' hq=>?_)
 obtain⟨h0,h1,h2,h3⟩:=hq
 exact⟨h0,h3 _ rfl rfl (hS.join h1 (mw _) h2)⟩
theorem RowP.nil_of{h:Hp}{t t':TypeId}{x:X}{cs cs':List X}{n k:Nat}(hr:RowP h t x cs n)(hk:h k=some (.cells t' cs'))(ht:t'≠t):k=n→x = .sc cW:=fun e=>by
 rcases hr with⟨h1,_⟩ | ⟨_,r,h2⟩
 ·exact h1
 ·rw[←e,hk]at h2;cases h2;exact absurd rfl ht
theorem aTz{pcs:List Pc}{opn:List Nat}{x:EvS}(h:x.kd=2):qK pcs opn x=IJ pcs opn (bZ x.lo) false:=by
 unfold qK IJ
 rw[if_neg (by omega),if_pos h]
 cases opn.getLast?<;>rfl
theorem aGx(pcs:List Pc)(opn:List Nat)(a:Int)(o:Bool):(IJ pcs opn a o).1.length=pcs.length∧(IJ pcs opn a o).2.length≤opn.length∧∀k∈(IJ pcs opn a o).2,k∈opn:=by
 unfold IJ
 cases h:opn.getLast? with
 | none=>exact⟨rfl,mw _,fun k h=>h⟩
 | some j=>exact⟨Ix ..,by simp,fun k hk=>(i5 h).2 (.inl hk)⟩
theorem aaj(pcs:List Pc)(l:List Nat)(j:Nat)(a:Int):sV pcs (l++[j]) a=sV (D5 pcs j a true) l a:=by
 unfold sV
 rw[List.foldr_append]
 rfl
theorem NK{α:Type}{l:List α}{i:Nat}{x:α}(h:l[i]? = some x):l.set i x=l:=by
 apply List.ext_getElem?
 intro j
 rw[kw]
 by_cases g:i=j
 ·subst g;rw[if_pos rfl,if_pos (bw.1 h).1,h]
 ·rw[if_neg g]
theorem rK{α:Type}{l:List α}{i:Nat}{x y:α}(h:l[i]? = some x):(l.set i y)[i]? = some y:=by
 rw[kw,if_pos rfl,if_pos (bw.1 h).1]
theorem set_set{α:Type}(l:List α)(i:Nat)(x y:α):(l.set i x).set i y=l.set i y:=List.set_set ..
set_option maxHeartbeats 16000000 in
theorem aDx{orc:cK}{b:Nat}{s:S}{bo mn an:Nat}{xa:X}{po:List Nat}{pcs:List Pc}{es:List Ent}(hS:Sb b s)(hB:BH b s.h.get false bo mn an xa po pcs es)(hbd:Bnd es pcs.length)(hpl:pcs.length≤100000)(x:EvS) :
  Cp orc yJ qQ [.c (.ptr bo 0),.agg (evX x)] s (fun k=>b≤k) True fun _ s'=>Sb b s'∧KeepT s s'∧∃(an':Nat) (xa':X) (po':List Nat) (pcs':List Pc) (es':List Ent),BH b s'.h.get false bo mn an' xa' po' pcs' es'∧Bnd es' pcs'.length∧pcs'.length≤pcs.length+1∧gW ⟨pcs,es.map Ent.kt⟩ x=⟨pcs',es'.map Ent.kt⟩:=by
 refine lj (rf:=mz) rfl ?_
 unfold mz
 obtain⟨Γ,hΓ⟩ : ∃Γ,Γ=ofL [V.c (.ptr bo 0),.agg (evX x)] 0 .lf:=⟨_,rfl⟩
 have g0:look Γ 0 = .c (.ptr bo 0):=by rw[hΓ];rfl
 have g1:look Γ 1 = .agg (evX x):=by rw[hΓ];rfl
 rw[←hΓ]
 try clear G
 clear hΓ
 obtain⟨b1,b2,b3⟩:=hB.le
 have hle:=hS.le
 have hml:=hS.lt hB.map
 have hbl:=hS.lt hB.bld
 have x0:(evX x)[0]? = some (.sc (.int .i64 x.th)):=rfl
 have x1:(evX x)[1]? = some (.sc (.int .i64 x.ser)):=rfl
 have x3:(evX x)[3]? = some (.sc (.int .i64 x.kd)):=rfl
 have x4:(evX x)[4]? = some (.sc (.string x.nm)):=rfl
 have xc:cut (evX x) 0 10=some (evX x):=rfl
 replace G:=bk g0 g1
 refine aJ (aj ?_)
 refine zx rfl (MS.box hS (by simp only[evS,Nat.reduceEqDiff,reduceIte,c5,G];first | done | rfl)) (fun k hk=>by first | exact False.elim hk | (dsimp only at hk ⊢;omega) | omega) ?_
 refine uK hS ?_
 intro s1 hst1 hsc1 hS1
 have hn1:=hst1.self
 refine aV ?_
 dsimp only[aY]
 have hKs:=KeepS.new hst1 hsc1
 have hB1:=hB.ext (hKs.ext hS)
 have hnl:=hS1.lt hn1
 refine fj (fun Γ τ=>∃(es1:List Ent) (i:Nat) (e:Ent),look Γ 0 = .c (.ptr bo 0)∧look Γ 3 = .c (.ptr s.c 0)∧look Γ 4 = .c (.ptr e.n 0)∧look Γ 5=iV (bZ x.lo)∧Sb b τ∧BH b τ.h.get false bo mn an xa po pcs es1∧es1[i]? = some e∧e.key=x.th∧e.tk=(jx x.th (es.map Ent.kt)).getD tk0∧(∀t,(es1.map Ent.kt).set i (x.th,t)=iq x.th t (es.map Ent.kt))∧KeepT s τ∧Bnd es1 pcs.length∧τ.h.get s.c=some (.cells f9 (evX x))) ?_ ?_
 ·skip
  refine kj rfl ?_
  refine rV ?_
  refine rP ?_
  refine rP ?_
  refine tQ rfl (by first | exact MS.load1 (by simp only[evS,Nat.reduceEqDiff,reduceIte,G];first | done | rfl) (by assumption) (by first | rfl | assumption | (simp only[kw,jw,G];done) | simp) | exact MS.loadI1 (by simp only[evS,Nat.reduceEqDiff,reduceIte,G];first | done | rfl) | exact MS.loadI2 (by simp only[evS,Nat.reduceEqDiff,reduceIte,G];first | done | rfl)) (fun k hk=>by first | exact False.elim hk | (dsimp only at hk ⊢;omega) | omega) (fun x hx=>by simp at hx) ?_
  refine aEx (fun k => k=bo ∨ k=mn ∨ s1.c≤k) (fun k => k=mn ∨ s1.c≤k) rfl (by simp only[qk,List.map_nil,List.cons_append,List.nil_append,evS,Nat.reduceEqDiff,reduceIte,G];first | done | rfl) hS1 (fun k hk => by first | exact False.elim hk | (dsimp only at hk ⊢;omega) | omega) (by intro x hx;simp only[List.nil_append,List.cons_append,List.mem_cons,List.not_mem_nil,or_false]at hx;rcases hx with rfl<;>first | exact .inl (by dsimp only;decide) | (refine .inr fun k => ?_;refine⟨?_,?_,?_⟩<;>(intro hk;(try dsimp only at hk);first | exact hk.1.elim | exact hk.2.elim | omega))) (Cp.mono (aDX (hS1.zero hS1.le) hB1 x.th) (fun _ h => h) (fun h => h) ?_)
  intro v2 s2 hq2
  obtain⟨es1,i,e,rfl,hSt,hBt,hei,hek,het,hput,hKt,hbdt,hwt⟩:=hq2
  refine⟨fun j hj=>(hwt j hj).elim (fun h=>by simp at h) id,hSt,hKt.1,?_⟩
  intro σ f1 f2 hSσ
  have hleσ:=hSσ.le
  replace hBt:BH b σ.h.get false bo mn an xa po pcs es1:=by rw[f1];exact hBt
  replace hn1:σ.h.get s.c=some (.cells f9 (evX x)):=by rw[f1];exact hKt.2 s.c _ _ hn1 rfl
  refine rA ?_
  refine ahW (fun k => σ.c≤k) rfl (by simp only[qk,List.map_nil,List.cons_append,List.nil_append,evS,Nat.reduceEqDiff,reduceIte,G];first | done | rfl) hSσ (fun k hk => by first | exact False.elim hk | (dsimp only at hk ⊢;omega) | omega) (by intro x hx;simp only[List.nil_append,List.cons_append,List.mem_cons,List.not_mem_nil,or_false]at hx;rcases hx with rfl | rfl | rfl<;>first | exact .inl (by dsimp only;decide) | (refine .inr fun k => ?_;refine⟨?_,?_,?_⟩<;>(intro hk;(try dsimp only at hk);first | exact hk.1.elim | exact hk.2.elim | omega))) (Cp.mono (atW x (hSσ.zero (mw _))) (fun _ h => h) (fun h => h) ?_)
  intro v3 s3 hq3
  obtain⟨rfl,hSc,hKc⟩:=hq3
  refine⟨hSc,fun j h1 _=>h1,?_⟩
  intro τ f3 f4 hSτ
  have hleτ:=hSτ.le
  replace hKc:KeepS σ τ:=⟨by rw[f4];exact hKc.1,fun k hk=>by rw[f3];exact hKc.2 k hk⟩
  refine rV ?_
  refine rV ?_
  refine oq ?_
  try dsimp only[aY]
  have hKτ:KeepT s τ:=(hKs.toT hS).trans (KeepT.trans (s':=σ) ⟨by rw[f2];exact hKt.1,fun k t cs hk ht=>by rw[f1];exact hKt.2 k t cs hk ht⟩ (hKc.toT hSσ))
  have hBτ:=hBt.ext (hKc.ext hSσ)
  replace hn1:τ.h.get s.c=some (.cells f9 (evX x)):=hKc.ext hSσ _ _ hn1
  exact⟨es1,i,e,lk,lk,lk,lk,hSτ,hBτ,hei,hek,het,hput,hKτ,hbdt _ hbd,hn1⟩
 try clear G
 clear g0 g1 hst1 hsc1 hn1 hB1 hB hbd hKs hnl hS1 Γ
 rintro Γ t0 ⟨es1,i,e,g0,g3,g4,g5,hS0,hB0,hei,hek,het,hput,hK0,hbd,hnb⟩
 have hle0:=hS0.le
 obtain⟨t1,htr,hrow,t4⟩:=hB0.tk i e hei
 have e0:([e.xo,iX e.tk.ex,iX e.tk.la]:List X)[0]? = some e.xo:=rfl
 have e1:([e.xo,iX e.tk.ex,iX e.tk.la]:List X)[1]? = some (.sc (.int .i64 e.tk.ex)):=rfl
 have e2:([e.xo,iX e.tk.ex,iX e.tk.la]:List X)[2]? = some (.sc (.int .i64 e.tk.la)):=rfl
 have hnbl:=hS0.lt hnb
 have htl:=hS0.lt htr
 refine fj (fun Γ τ=>∃(pcs2:List Pc) (e':Ent),look Γ 0 = .c (.ptr bo 0)∧look Γ 3 = .c (.ptr s.c 0)∧look Γ 4 = .c (.ptr e.n 0)∧look Γ 5=iV (bZ x.lo)∧Sb b τ∧BH b τ.h.get false bo mn an xa po pcs2 (es1.set i e')∧e'.n=e.n∧e'.key=e.key∧e'.tk.ex=e.tk.ex∧e'.tk.la=e.tk.la∧qW pcs e.tk x.ser=(pcs2,e'.tk.opn)∧KeepT s τ∧τ.h.get s.c=some (.cells f9 (evX x))) ?_ ?_
 ·skip
  replace G:=bk g0 (bk g3 (bk g4 g5))
  refine aJ (kj rfl ?_)
  refine rP ?_
  refine rP ?_
  refine tQ rfl (by first | exact MS.load1 (by simp only[evS,Nat.reduceEqDiff,reduceIte,G];first | done | rfl) (by assumption) (by first | rfl | assumption | (simp only[kw,jw,G];done) | simp) | exact MS.loadI1 (by simp only[evS,Nat.reduceEqDiff,reduceIte,G];first | done | rfl) | exact MS.loadI2 (by simp only[evS,Nat.reduceEqDiff,reduceIte,G];first | done | rfl)) (fun k hk=>by first | exact False.elim hk | (dsimp only at hk ⊢;omega) | omega) (fun x hx=>by simp at hx) ?_
  refine rV ?_
  refine rP ?_
  refine rP ?_
  refine rL ?_
  refine rP ?_
  refine oq ?_
  dsimp only[aY]
  by_cases hser:x.ser=e.tk.ex
  ·refine bq (ahJ (p:=x.ser=e.tk.ex) lk hser) (eX ?_)
   exact⟨pcs,e,lk,lk,lk,lk,hS0,by rw[NK hei];exact hB0,rfl,rfl,rfl,rfl,by unfold qW;rw[if_pos hser],hK0,hnb⟩
  ·refine bq (ahV (p:=x.ser=e.tk.ex) lk hser) ?_
   refine cX (vK (fun k Γ τ=>look Γ 0 = .c (.ptr bo 0)∧look Γ 3 = .c (.ptr s.c 0)∧look Γ 4 = .c (.ptr e.n 0)∧look Γ 5=iV (bZ x.lo)∧∃(pcs2:List Pc) (e':Ent),Sb b τ∧BH b τ.h.get false bo mn an xa po pcs2 (es1.set i e')∧e'.n=e.n∧e'.key=e.key∧e'.tk.ex=e.tk.ex∧e'.tk.la=e.tk.la∧k=e'.tk.opn.length∧sV pcs2 e'.tk.opn e.tk.la=sV pcs e.tk.opn e.tk.la∧pcs2.length=pcs.length∧(∀j∈e'.tk.opn,j<pcs.length)∧e'.tk.opn.length≤100000∧KeepT s τ∧τ.h.get s.c=some (.cells f9 (evX x))) e.tk.opn.length ⟨lk,lk,lk,lk,pcs,e,hS0,by rw[NK hei];exact hB0,rfl,rfl,rfl,rfl,rfl,rfl,rfl,(hbd i e hei).2,by have:=(hbd i e hei).1;omega,hK0,hnb⟩ ?_)
   try clear G
   clear g0 g3 g4 g5 hS0 hB0 hK0 hnb htr hrow hle0 hnbl htl e0 e1 e2 hput het Γ
   rintro k Γ τ ⟨g0,g3,g4,g5,pcs2,e',hS0,hB0,hn',hkey',hex',hla',hk,hend,hlen2,hin,hsz,hK0,hnb⟩
   obtain⟨_,htr,hrow,_⟩:=hB0.tk i e' (rK hei)
   have e0:([e'.xo,iX e'.tk.ex,iX e'.tk.la]:List X)[0]? = some e'.xo:=rfl
   have e2:([e'.xo,iX e'.tk.ex,iX e'.tk.la]:List X)[2]? = some (.sc (.int .i64 e'.tk.la)):=rfl
   have hle0:=hS0.le
   rw[←hn']at g4
   refine aJ ?_
   replace G:=bk g0 (bk g3 (bk g4 g5))
   refine aJ (aj ?_)
   refine qVL ?_
   refine qPL ?_
   refine qPL ?_
   refine qLL ?_
   refine eV rfl (by first | exact xj (by simp only[evS,Nat.reduceEqDiff,reduceIte,ew,G];first | done | rfl) (by assumption) | simp only[evS,Nat.reduceEqDiff,reduceIte,PU,bj,scV,bV,iV,cW,isB,isI,iz,kZ,mkV,ew,G];try rfl) ?_
   refine qPL ?_
   refine aV ?_
   dsimp only[aY]
   by_cases hpos:0<e'.tk.opn.length
   ·refine bq (uz lkL (by omega)) (eX ?_)
    dsimp only[aY]
    refine cX ?_
    refine aj ?_
    refine qVL ?_
    refine qVL ?_
    refine qVL ?_
    refine qPL ?_
    refine qPL ?_
    refine qLL ?_
    refine qCL (hC:=anW hS0 hB0 (rK hei) (by rw[hlen2];exact hin) (by omega) e'.tk.la true) (h:=?_)
    intro v4 s4 hq4
    obtain⟨hS4,hK4,e4,hB4,hk4,hn4,ht4⟩:=hq4
    refine aV ?_
    try dsimp only[aY]
    obtain⟨j,hj⟩ : ∃j,e'.tk.opn.getLast? = some j:=by
     cases hg:e'.tk.opn.getLast? with
     | none=>rw[List.getLast?_eq_none_iff.1 hg]at hpos;simp at hpos
     | some j=>exact⟨j,rfl⟩
    have hdl:=xY hj
    have hll:e'.tk.opn.length=e'.tk.opn.dropLast.length+1:=by
     have:=congrArg List.length hdl
     simp only[dw,List.length_singleton]at this
     exact this
    have hendl:IJ pcs2 e'.tk.opn e'.tk.la true=(D5 pcs2 j e'.tk.la true,e'.tk.opn.dropLast):=by simp only[IJ,hj]
    rw[hendl]at hB4 ht4
    rw[List.set_set]at hB4
    refine⟨e'.tk.opn.dropLast.length,by omega,(by simp only[evS,Nat.reduceEqDiff,reduceIte,g0,g3,g4,g5,ew];try rfl),(by simp only[evS,Nat.reduceEqDiff,reduceIte,g0,g3,g4,g5,ew];try rfl),by rw[←hn'];exact(by simp only[evS,Nat.reduceEqDiff,reduceIte,g0,g3,g4,g5,ew];try rfl),(by simp only[evS,Nat.reduceEqDiff,reduceIte,g0,g3,g4,g5,ew];try rfl),_,e4,hS4,hB4,hn4.trans hn',hk4.trans hkey',by rw[ht4];exact hex',by rw[ht4];exact hla',by rw[ht4],?_,by rw[Ix];exact hlen2,fun k hk=>hin k ?_,by rw[ht4];show e'.tk.opn.dropLast.length≤_;omega,hK0.trans hK4.toT,hK4.2 _ _ hnb fun t cs e=>by cases e;exact⟨by decide,by decide⟩⟩
    ·rw[←hend,ht4,hla']
     conv=>rhs;rw[hdl]
     rw[aaj]
    ·rw[ht4]at hk
     exact(i5 hj).2 (.inl hk)
   ·skip
    refine bq (tx (by simp only[evS,Nat.reduceEqDiff,reduceIte,g0,g3,g4,g5,ew];try rfl) (by omega)) (i9 ?_)
    have ho:e'.tk.opn=[]:=fk (by omega)
    refine⟨pcs2,e',(by simp only[evS,Nat.reduceEqDiff,reduceIte,g0,g3,g4,g5,ew];try rfl),(by simp only[evS,Nat.reduceEqDiff,reduceIte,g0,g3,g4,g5,ew];try rfl),by rw[←hn'];exact(by simp only[evS,Nat.reduceEqDiff,reduceIte,g0,g3,g4,g5,ew];try rfl),(by simp only[evS,Nat.reduceEqDiff,reduceIte,g0,g3,g4,g5,ew];try rfl),hS0,hB0,hn',hkey',hex',hla',?_,hK0,hnb⟩
    unfold qW
    rw[if_neg hser,←hend,ho]
    rfl
 try clear G
 clear g0 g3 g4 g5 hS0 hB0 hK0 hnb htr hrow hle0 hnbl htl e0 e1 e2 Γ
 rintro Γ τ ⟨pcs2,e',g0,g3,g4,g5,hS0,hB0,hn',hkey',hex',hla',hseen,hK0,hnb⟩
 have hl2:pcs2.length=pcs.length:=by
  have:(qW pcs e.tk x.ser).1.length=pcs.length:=by
   unfold qW
   split
   ·rfl
   ·exact H5 ..
  rw[hseen]at this;exact this
 have ho2:e'.tk.opn.length≤pcs.length∧∀k∈e'.tk.opn,k<pcs.length:=by
  have:(qW pcs e.tk x.ser).2.length≤pcs.length∧∀k∈(qW pcs e.tk x.ser).2,k<pcs.length:=by
   unfold qW
   split
   ·exact hbd i e hei
   ·exact⟨Nat.zero_le _,fun k hk=>by simp at hk⟩
  rw[hseen]at this;exact this
 have hle0:=hS0.le
 obtain⟨t1,htr,hrow,t4⟩:=hB0.tk i e' (rK hei)
 have hnbl:=hS0.lt hnb
 have htl:=hS0.lt htr
 rw[←hn']at g4
 have ne1:=nz htr hnb (by decide)
 refine fj (fun Γ t'=>∃e3:Ent,look Γ 0 = .c (.ptr bo 0)∧look Γ 3 = .c (.ptr s.c 0)∧look Γ 4 = .c (.ptr e3.n 0)∧look Γ 5=iV (bZ x.lo)∧Sb b t'∧BH b t'.h.get false bo mn an xa po pcs2 (es1.set i e3)∧e3.key=x.th∧e3.tk=⟨e'.tk.opn,w64 (x.ser+1),bZ x.lo⟩∧KeepT s t'∧t'.h.get s.c=some (.cells f9 (evX x))) ?_ ?_
 ·skip
  replace G:=bk g0 (bk g3 (bk g4 g5))
  refine aj ?_
  refine qV ?_
  refine qV ?_
  refine qP ?_
  refine qP ?_
  refine qL ?_
  refine qP ?_
  refine qV ?_
  refine qP ?_
  refine qP ?_
  refine qT ?_
  refine rz hS0 (by omega) (by omega) ?_
  intro s5 hst5 hsc5 hS5
  first | replace htr:=hst5.at htr (by omega) | replace htr:=hst5.self
  first | replace hnb:=hst5.at hnb (by omega) | replace hnb:=hst5.self
  refine qP ?_
  refine qP ?_
  refine qT ?_
  refine rz hS5 (by omega) (by omega) ?_
  intro s6 hst6 hsc6 hS6
  first | replace htr:=hst6.at htr (by omega) | replace htr:=hst6.self
  first | replace hnb:=hst6.at hnb (by omega) | replace hnb:=hst6.self
  refine aV ?_
  try dsimp only[aY]
  have hBf:=hB0.setT (rK hei) (h':=s6.h.get) {e' with tk:=⟨e'.tk.opn,w64 (x.ser+1),bZ x.lo⟩} rfl rfl htr (hrow.of fun hx ⟨o,ho⟩=>by
   have ne:=nz ho (hB0.tk i e' (rK hei)).2.1 (by decide)
   rw[hst6.keep _ ne,hst5.keep _ ne]) t4 (fun h=>.inl ⟨rfl,h⟩) (fun k o hk h1 h2=>by rw[hst6.keep k h1,hst5.keep k h1])
  rw[List.set_set]at hBf
  exact⟨_,lk,lk,lk,lk,hS6,hBf,hkey'.trans hek,rfl,hK0.trans (((hst5.to2 hsc5 (hB0.tk i e' (rK hei)).2.1 (.inr rfl)).trans (hst6.to2 hsc6 hst5.self (.inr rfl))).toT),hnb⟩
 try clear G
 clear g0 g3 g4 g5 hS0 hB0 hK0 hnb htr hrow hle0 hnbl htl ne1 Γ
 rintro Γ t' ⟨e3,g0,g3,g4,g5,hS0,hB0,hk3,ht3,hK0,hnb⟩
 obtain⟨t1,htr,hrow,t4⟩:=hB0.tk i e3 (rK hei)
 have hbld:=hB0.bld
 have hall:=hB0.all
 have hlen:=hB0.len
 have hle0:=hS0.le
 have hnbl:=hS0.lt hnb
 have htl:=hS0.lt htr
 have hbll:=hS0.lt hbld
 have e0:([e3.xo,iX e3.tk.ex,iX e3.tk.la]:List X)[0]? = some e3.xo:=rfl
 have c0:([xa,X.mp mn]:List X)[0]? = some xa:=rfl
 have hseq:gW ⟨pcs,es.map Ent.kt⟩ x=⟨(qK pcs2 e'.tk.opn x).1,iq x.th ⟨(qK pcs2 e'.tk.opn x).2,w64 (x.ser+1),bZ x.lo⟩ (es.map Ent.kt)⟩:=by
  unfold gW
  simp only[←het,hseen]
 have hmap3:∀e4:Ent,e4.key=x.th→(es1.set i e4).map Ent.kt=iq x.th e4.tk (es.map Ent.kt):=fun e4 hk=>by
  rw[List.map_set,←hput]
  unfold Ent.kt
  rw[hk]
 have hbd3:∀(e4:Ent) (n:Nat),pcs.length≤n→e4.tk.opn.length≤n→(∀k∈e4.tk.opn,k<n)→Bnd (es1.set i e4) n:=fun e4 n hn h1 h2 j f hf=>by
  rw[kw]at hf
  by_cases g:i=j
  ·rw[if_pos g]at hf
   split at hf
   ·cases hf;exact⟨h1,h2⟩
   ·cases hf
  ·rw[if_neg g]at hf
   obtain⟨k1,k2⟩:=hbd j f hf
   exact⟨by omega,fun k hk=>by have:=k2 k hk;omega⟩
 replace G:=bk g0 (bk g3 (bk g4 g5))
 refine aJ (aj ?_)
 refine qP ?_
 refine qP ?_
 refine qL ?_
 refine aV ?_
 dsimp only[aY]
 refine cX ?_
 refine aJ (aj ?_)
 refine qP ?_
 refine qV ?_
 refine aV ?_
 dsimp only[aY]
 by_cases hk1:x.kd=1
 ·refine bq (uz lk hk1) ?_
  refine fj (fun Γ τ=>look Γ 0 = .c (.ptr bo 0)∧look Γ 4 = .c (.ptr e3.n 0)∧look Γ 6 = .c (.ptr t'.c 0)∧Sb b τ∧KeepS t' τ∧t'.c<τ.c∧τ.h.get t'.c=some (.cells fY (pcX ⟨x.th,x.nm,bZ x.lo,0,false,-1⟩ pcs2.length false))) ?_ ?_
  ·skip
   replace G:=bk g0 (bk g3 (bk g4 (bk g5 hlen)))
   refine kj rfl ?_
   refine rPL ?_
   refine rPL ?_
   refine tQ rfl (by first | exact MS.load1 (by simp only[evS,Nat.reduceEqDiff,reduceIte,ew,G];first | done | rfl) (by assumption) (by first | rfl | assumption | (simp only[kw,jw,ew,G];done) | simp) | exact MS.loadI1 (by simp only[evS,Nat.reduceEqDiff,reduceIte,ew,G];first | done | rfl) | exact MS.loadI2 (by simp only[evS,Nat.reduceEqDiff,reduceIte,ew,G];first | done | rfl)) (fun k hk=>by first | exact False.elim hk | (dsimp only at hk ⊢;omega) | omega) (fun x hx=>by simp at hx) ?_
   refine rPL ?_
   refine rPL ?_
   refine rLL ?_
   refine rVL ?_
   refine ej rfl (by simp only[evS,Nat.reduceEqDiff,reduceIte,PU,bj,scV,bV,iV,cW,isB,isI,iz,kZ,mkV,fill,c5,setAt,List.take_zero,List.take_succ_cons,List.take_nil,List.drop_nil,vk,List.nil_append,List.cons_append,uw,List.length_nil,Nat.reduceAdd,Nat.reduceLeDiff,MY,NJ,eq_self,decide_true,Bool.and_self,ew,G];first | done | rfl) ?_
   refine ej rfl (by simp only[evS,Nat.reduceEqDiff,reduceIte,PU,bj,scV,bV,iV,cW,isB,isI,iz,kZ,mkV,fill,c5,setAt,List.take_zero,List.take_succ_cons,List.take_nil,List.drop_nil,vk,List.nil_append,List.cons_append,uw,List.length_nil,Nat.reduceAdd,Nat.reduceLeDiff,MY,NJ,eq_self,decide_true,Bool.and_self,ew,G];first | done | rfl) ?_
   refine rVL ?_
   refine rPL ?_
   refine rPL ?_
   refine rLL ?_
   refine ej rfl (by first | exact xj (by simp only[evS,Nat.reduceEqDiff,reduceIte,ew,G];first | done | rfl) (by assumption) | simp only[evS,Nat.reduceEqDiff,reduceIte,PU,bj,scV,bV,iV,cW,isB,isI,iz,kZ,mkV,ew,G];try rfl) ?_
   refine ej rfl (by simp only[evS,Nat.reduceEqDiff,reduceIte,PU,bj,scV,bV,iV,cW,isB,isI,iz,kZ,mkV,fill,c5,setAt,List.take_zero,List.take_succ_cons,List.take_nil,List.drop_nil,vk,List.nil_append,List.cons_append,uw,List.length_nil,Nat.reduceAdd,Nat.reduceLeDiff,MY,NJ,eq_self,decide_true,Bool.and_self,ew,G];first | done | rfl) ?_
   refine tQ rfl (MS.box hS0 (by simp only[evS,Nat.reduceEqDiff,reduceIte,c5,ew,G];first | done | rfl)) (fun k hk => by first | exact False.elim hk | (dsimp only at hk ⊢;omega) | omega) (by intro x hx;simp only[List.nil_append,List.cons_append,List.mem_cons,List.not_mem_nil,or_false]at hx;rcases hx with rfl | rfl | rfl<;>first | exact .inl (by dsimp only;decide) | (refine .inr fun k => ?_;refine⟨?_,?_,?_⟩<;>(intro hk;(try dsimp only at hk);first | exact hk.1.elim | exact hk.2.elim | omega))) ?_
   refine aaW hS0 ?_
   intro s7 hst7 hsc7 hS7
   replace htr:=hst7.at htr (by omega)
   replace hnb:=hst7.at hnb (by omega)
   replace hbld:=hst7.at hbld (by omega)
   have hn7:=hst7.self
   refine rVL ?_
   refine oq ?_
   try dsimp only[aY]
   exact⟨lkL,lkL,lkL,hS7,KeepS.new hst7 hsc7,by omega,hn7⟩
  try clear G
  clear g0 g3 g4 g5 Γ
  rintro Γ τ ⟨g0,g4,g6,hS1,hK1,hnp,hpc⟩
  have hB1:=hB0.ext (hK1.ext hS0)
  have hfresh:∀(k m:Nat),po[k]? = some m→m≠t'.c:=fun k m hm=>by
   obtain⟨p,hp⟩ : ∃p,pcs2[k]? = some p:=⟨_,cw (by rw[←hlen];exact(bw.1 hm).1)⟩
   obtain⟨_,c,h2⟩:=hB0.pc k p m hp hm
   have:=hS0.lt h2
   omega
  have htr1:=(hB1.tk i e3 (rK hei)).2.1
  have hrow1:=(hB1.tk i e3 (rK hei)).2.2.1
  have hbld1:=hB1.bld
  have hall1:=hB1.all
  have hnb1:=hK1.ext hS0 _ _ hnb
  have hle1:=hS1.le
  have hpl1:=hS1.lt hpc
  have htl1:=hS1.lt htr1
  have hbl1:=hS1.lt hbld1
  have ne1:=nz htr1 hpc (by decide)
  have ne2:=nz hbld1 hpc (by decide)
  have ne3:=nz hnb1 hpc (by decide)
  have hL:(pcX ⟨x.th,x.nm,bZ x.lo,0,false,-1⟩ pcs2.length false).length=11:=rfl
  refine fj (fun Γ t2=>look Γ 0 = .c (.ptr bo 0)∧look Γ 4 = .c (.ptr e3.n 0)∧look Γ 6 = .c (.ptr t'.c 0)∧Sb b t2∧t2.c=τ.c∧(∀k,k≠t'.c→t2.h.get k=τ.h.get k)∧t2.h.get t'.c=some (.cells fY (pcX ⟨x.th,x.nm,bZ x.lo,0,false,kY e'.tk.opn⟩ pcs2.length false))) ?_ ?_
  ·skip
   replace G:=bk g0 (bk g4 g6)
   refine aJ (aj ?_)
   refine qVL ?_
   refine qPL ?_
   refine qPL ?_
   refine qLL ?_
   refine eV rfl (by first | exact xj (by simp only[evS,Nat.reduceEqDiff,reduceIte,ew,G];first | done | rfl) (by assumption) | simp only[evS,Nat.reduceEqDiff,reduceIte,PU,bj,scV,bV,iV,cW,isB,isI,iz,kZ,mkV,ew,G];try rfl) ?_
   refine qVL ?_
   refine aV ?_
   dsimp only[aY]
   refine aJ (aj ?_)
   refine qVL ?_
   refine qPL ?_
   refine aV ?_
   dsimp only[aY]
   have f0:e3.tk.opn=e'.tk.opn:=by rw[ht3]
   by_cases hpos:0<e3.tk.opn.length
   ·refine bq (uz lkL (by omega)) ?_
    obtain⟨j,hj⟩ : ∃j,e3.tk.opn.getLast? = some j:=by
     cases hg:e3.tk.opn.getLast? with
     | none=>rw[List.getLast?_eq_none_iff.1 hg]at hpos;simp at hpos
     | some j=>exact⟨j,rfl⟩
    have hdl:=xY hj
    have hll:e3.tk.opn.length=e3.tk.opn.dropLast.length+1:=by
     have:=congrArg List.length hdl
     simp only[dw,List.length_singleton]at this
     exact this
    have hol:e3.tk.opn.length≤100000:=by rw[f0];omega
    have e8:IntKind.i64.wrap ((e3.tk.opn.length:Int)-1)=((e3.tk.opn.dropLast.length:Nat):Int):=by rw[wr (by omega) (by omega)];omega
    have hlj:kY e'.tk.opn=(j:Int):=by rw[←f0];unfold kY;rw[hj]
    obtain⟨hxo,rest,har⟩ : e3.xo = .sl e3.on 1 0 e3.tk.opn.length∧∃rest,τ.h.get e3.on=some (.cells KV (e3.tk.opn.map nX++rest)):=by
     rcases hrow1 with⟨_,h2⟩ | ⟨h1,r,h2⟩
     ·rw[List.map_eq_nil_iff.1 h2]at hpos;simp at hpos
     ·rw[ew]at h1;exact⟨h1,r,h2⟩
    have hcr:(e3.tk.opn.map nX++rest)[e3.tk.opn.dropLast.length]? = some (nX j):=by
     rw[lw (by rw[ew];omega),jw]
     have:e3.tk.opn[e3.tk.opn.dropLast.length]? = some j:=by
      conv=>lhs;lhs;rw[hdl]
      exact List.getElem?_concat_length
     rw[this];rfl
    have hrl:=hS1.lt har
    have ne4:=nz har hpc (by decide)
    rw[hxo]at htr1
    have e0':([X.sl e3.on 1 0 e3.tk.opn.length,iX e3.tk.ex,iX e3.tk.la]:List X)[0]? = some (.sl e3.on 1 0 e3.tk.opn.length):=rfl
    replace G:=bk g0 (bk g4 (bk g6 e8))
    refine aj ?_
    refine qVL ?_
    refine qVL ?_
    refine qPL ?_
    refine qPL ?_
    refine qLL ?_
    refine qVL ?_
    refine qPL ?_
    refine qXL ?_
    refine qLL ?_
    refine qPL ?_
    refine qPL ?_
    refine qTL ?_
    refine rz hS1 (by omega) (by omega) ?_
    intro s8 hst8 hsc8 hS8
    first | replace htr1:=hst8.at htr1 (by omega) | replace htr1:=hst8.self
    first | replace har:=hst8.at har (by omega) | replace har:=hst8.self
    first | replace hpc:=hst8.at hpc (by omega) | replace hpc:=hst8.self
    refine aV ?_
    try dsimp only[aY]
    exact⟨lkL,lkL,lkL,hS8,hsc8,fun k hk=>hst8.keep k hk,by rw[hpc,hlj];rfl⟩
   ·skip
    refine bq (tx (by simp only[evS,Nat.reduceEqDiff,reduceIte,g0,g4,g6,ew];try rfl) (by omega)) (eX ?_)
    have hlj:kY e'.tk.opn = -1:=by rw[←f0,fk (by omega:e3.tk.opn.length=0)];rfl
    exact⟨(by simp only[evS,Nat.reduceEqDiff,reduceIte,g0,g4,g6,ew];try rfl),(by simp only[evS,Nat.reduceEqDiff,reduceIte,g0,g4,g6,ew];try rfl),(by simp only[evS,Nat.reduceEqDiff,reduceIte,g0,g4,g6,ew];try rfl),hS1,rfl,fun _ _=>rfl,by rw[hlj];exact hpc⟩
  try clear G
  clear g0 g4 g6 Γ
  rintro Γ t2 ⟨g0,g4,g6,hS2,hc2,hk2,hpc2⟩
  have hext:∀k o,t'.h.get k=some o→t2.h.get k=some o:=fun k o hk=>by
   have:=hS0.lt hk
   rw[hk2 k (by omega)]
   exact hK1.ext hS0 _ _ hk
  have hB2:=hB0.ext hext
  have htr2:=(hB2.tk i e3 (rK hei)).2.1
  have hrow2:=(hB2.tk i e3 (rK hei)).2.2.1
  have hbld2:=hB2.bld
  have hnb2:=hext _ _ hnb
  have hle2:=hS2.le
  have hpl2:=hS2.lt hpc2
  have htl2:=hS2.lt htr2
  have hbl2:=hS2.lt hbld2
  have hp8:(pcX ⟨x.th,x.nm,bZ x.lo,0,false,kY e'.tk.opn⟩ pcs2.length false)[8]? = some (nX pcs2.length):=rfl
  have f0:e3.tk.opn=e'.tk.opn:=by rw[ht3]
  have hroom:rY 8 ((e3.tk.opn.map nX).length+1)=true:=aAJ (by rw[ew,f0];omega)
  have ne6:=nz hbld2 htr2 (by decide)
  have ne7:=nz hnb2 htr2 (by decide)
  have ne8:=nz hpc2 htr2 (by decide)
  have ne9:=nz hbld2 hpc2 (by decide)
  have ne10:=nz hnb2 hpc2 (by decide)
  have ne11:=nz hnb2 hbld2 (by decide)
  replace G:=bk g0 (bk g4 g6)
  refine aJ (kj rfl ?_)
  refine rV ?_
  refine rV ?_
  refine rP ?_
  refine rP ?_
  refine tQ rfl (by first | exact MS.load1 (by simp only[evS,Nat.reduceEqDiff,reduceIte,G];first | done | rfl) (by assumption) (by first | rfl | assumption | (simp only[kw,jw,G];done) | simp) | exact MS.loadI1 (by simp only[evS,Nat.reduceEqDiff,reduceIte,G];first | done | rfl) | exact MS.loadI2 (by simp only[evS,Nat.reduceEqDiff,reduceIte,G];first | done | rfl)) (fun k hk=>by first | exact False.elim hk | (dsimp only at hk ⊢;omega) | omega) (fun x hx=>by simp at hx) ?_
  refine rV ?_
  refine rP ?_
  refine rP ?_
  refine rL ?_
  refine rM (MS.bsl1 hS2 (by simp only[evS,Nat.reduceEqDiff,reduceIte,G];try rfl)) ?_
  refine aaW hS2 ?_
  intro s9 hst9 hsc9 hS9
  replace htr2:=hst9.at htr2 (by omega)
  replace hpc2:=hst9.at hpc2 (by omega)
  replace hbld2:=hst9.at hbld2 (by omega)
  replace hnb2:=hst9.at hnb2 (by omega)
  have hn9:=hst9.self
  replace hrow2:=hrow2.keep fun o ho=>hst9.keep _ (by have:=hS2.lt ho;omega)
  refine aNx rfl hS9 (by simp only[evS,Nat.reduceEqDiff,reduceIte,G];first | done | rfl) hrow2 (by omega) (by simp only[evS,Nat.reduceEqDiff,reduceIte,G];try rfl) (by assumption) (by first | assumption | rfl) (fun k hk => by first | exact False.elim hk | (dsimp only at hk ⊢;omega) | omega) (by intro x hx;simp only[List.nil_append,List.cons_append,List.mem_cons,List.not_mem_nil,or_false]at hx;rcases hx with rfl | rfl | rfl<;>first | exact .inl (by dsimp only;decide) | (refine .inr fun k => ?_;refine⟨?_,?_,?_⟩<;>(intro hk;(try dsimp only at hk);first | exact hk.1.elim | exact hk.2.elim | omega))) ?_
  intro s10 hst10 hS10
  have hsa10:=hst10.c
  first | replace htr2:=(hst10.keep _ (RowP.nil_of hrow2 htr2 (by decide)) (by omega)).trans htr2 | clear htr2
  first | replace hpc2:=(hst10.keep _ (RowP.nil_of hrow2 hpc2 (by decide)) (by omega)).trans hpc2 | clear hpc2
  first | replace hbld2:=(hst10.keep _ (RowP.nil_of hrow2 hbld2 (by decide)) (by omega)).trans hbld2 | clear hbld2
  first | replace hnb2:=(hst10.keep _ (RowP.nil_of hrow2 hnb2 (by decide)) (by omega)).trans hnb2 | clear hnb2
  first | replace hn9:=(hst10.keep _ (RowP.nil_of hrow2 hn9 (by decide)) (by omega)).trans hn9 | clear hn9
  have hn10:=hst10.self
  refine rP ?_
  refine rP ?_
  refine rT ?_
  refine u3 hS10 (by omega) (by omega) ?_
  intro s11 hst11 hsc11 hS11
  first | replace htr2:=hst11.at htr2 (by omega) | replace htr2:=hst11.self
  first | replace hpc2:=hst11.at hpc2 (by omega) | replace hpc2:=hst11.self
  first | replace hbld2:=hst11.at hbld2 (by omega) | replace hbld2:=hst11.self
  first | replace hnb2:=hst11.at hnb2 (by omega) | replace hnb2:=hst11.self
  first | replace hn9:=hst11.at hn9 (by omega) | replace hn9:=hst11.self
  first | replace hn10:=hst11.at hn10 (by omega) | replace hn10:=hst11.self
  refine oq ?_
  dsimp only[aY]
  have hB5:BH b s11.h.get false bo mn an xa po pcs2 (es1.set i {e3 with tk:=⟨e3.tk.opn++[pcs2.length],e3.tk.ex,e3.tk.la⟩,xo:=.sl s9.c 1 0 (e3.tk.opn.length+1),on:=s9.c}):=by
   have:=hB2.setT (rK hei) (h':=s11.h.get) {e3 with tk:=⟨e3.tk.opn++[pcs2.length],e3.tk.ex,e3.tk.la⟩,xo:=.sl s9.c 1 0 (e3.tk.opn.length+1),on:=s9.c} rfl rfl (by rw[htr2];simp only[ew];rfl) (show RowP s11.h.get KV (.sl s9.c 1 0 (e3.tk.opn.length+1)) ((e3.tk.opn++[pcs2.length]).map nX) s9.c from .inr ⟨by simp,[],by rw[vk,hst11.keep s9.c (by omega),hst10.self,List.map_append];rfl⟩) (by show b≤s9.c;omega) (fun _=>.inr (hS2.free s9.c (by omega))) (fun k o hk h1 h2=>by
    have hkl:=hS2.lt hk
    rw[hst11.keep k h1,hst10.keep k (fun e=>?_) (by omega),hst9.keep k (by omega)]
    rcases h2 e with h2 | h2
    ·exact h2
    ·rcases(hB2.tk i e3 (rK hei)).2.2.1 with⟨h3,_⟩ | ⟨h3,_⟩
     ·exact h3
     ·rw[h3]at h2
      simp only[X.sl.injEq]at h2
      omega)
   rw[List.set_set]at this
   exact this
  have hall5:=hB5.all
  have hap5:b≤an:=hB5.le.2.2
  have hroom5:rY 8 ((po.map WW).length+1)=true:=aAJ (by rw[ew,hlen];omega)
  replace G:=bk g0 (bk g4 g6)
  refine aj ?_
  refine qV ?_
  refine qV ?_
  refine qP ?_
  refine qP ?_
  refine qL ?_
  refine qV ?_
  refine qM (MS.bsl1 hS11 (by simp only[evS,Nat.reduceEqDiff,reduceIte,G];try rfl)) ?_
  refine uK hS11 ?_
  intro s12 hst12 hsc12 hS12
  replace hbld2:=hst12.at hbld2 (by omega)
  replace hpc2:=hst12.at hpc2 (by omega)
  replace hnb2:=hst12.at hnb2 (by omega)
  have hn12:=hst12.self
  replace hall5:=hall5.keep fun o ho=>hst12.keep _ (by have:=hS11.lt ho;omega)
  refine atX rfl hS12 (by simp only[evS,Nat.reduceEqDiff,reduceIte,G];first | done | rfl) hall5 (by omega) (by simp only[evS,Nat.reduceEqDiff,reduceIte,G];try rfl) (by assumption) (by first | assumption | rfl) (fun k hk=>by first | exact False.elim hk | (dsimp only at hk ⊢;omega) | omega) ?_
  intro s13 hst13 hS13
  have hsa13:=hst13.c
  first | replace hbld2:=(hst13.keep _ (RowP.nil_of hall5 hbld2 (by decide)) (by omega)).trans hbld2 | clear hbld2
  first | replace hpc2:=(hst13.keep _ (RowP.nil_of hall5 hpc2 (by decide)) (by omega)).trans hpc2 | clear hpc2
  first | replace hnb2:=(hst13.keep _ (RowP.nil_of hall5 hnb2 (by decide)) (by omega)).trans hnb2 | clear hnb2
  first | replace hn12:=(hst13.keep _ (RowP.nil_of hall5 hn12 (by decide)) (by omega)).trans hn12 | clear hn12
  have hn13:=hst13.self
  refine qP ?_
  refine qP ?_
  refine qT ?_
  refine rz hS13 (by omega) (by omega) ?_
  intro s14 hst14 hsc14 hS14
  first | replace hbld2:=hst14.at hbld2 (by omega) | replace hbld2:=hst14.self
  first | replace hpc2:=hst14.at hpc2 (by omega) | replace hpc2:=hst14.self
  first | replace hnb2:=hst14.at hnb2 (by omega) | replace hnb2:=hst14.self
  first | replace hn12:=hst14.at hn12 (by omega) | replace hn12:=hst14.self
  first | replace hn13:=hst14.at hn13 (by omega) | replace hn13:=hst14.self
  refine aV ?_
  try dsimp only[aY]
  have hB6:=hB5.push (h':=s14.h.get) (p:=⟨x.th,x.nm,bZ x.lo,0,false,kY e'.tk.opn⟩) (n:=t'.c) (an':=s12.c) (xa':=.sl s12.c 1 0 (po.length+1)) (c:=false) hpc2 hfresh (by omega) (.inr ⟨by simp,[],by rw[vk,hst14.keep s12.c (by omega),hst13.self,List.map_append];rfl⟩) (by omega) (by rw[hbld2];simp only[ew];rfl) (fun k o hk h1 h2=>by
   have hkl:=hS11.lt hk
   rw[hst14.keep k h1,hst13.keep k h2 (by omega),hst12.keep k (by omega)])
  have hKT:KeepT t' s14:=⟨by have:=hK1.1;omega,fun k t cs hk ht=>by
   subst ht
   have k2:=hext _ _ hk
   have kl:=hS2.lt k2
   have k9:=(hst9.keep k (by omega)).trans k2
   have k10:=(hst10.keep k (RowP.nil_of hrow2 k9 (by decide)) (by omega)).trans k9
   have k11:=(hst11.keep k (nz k2 (hB2.tk i e3 (rK hei)).2.1 (by decide))).trans k10
   have k12:=(hst12.keep k (by omega)).trans k11
   have k13:=(hst13.keep k (RowP.nil_of hall5 k12 (by decide)) (by omega)).trans k12
   exact(hst14.keep k (nz k2 hB2.bld (by decide))).trans k13⟩
  have hkf:qK pcs2 e'.tk.opn x=(pcs2++[⟨x.th,x.nm,bZ x.lo,0,false,kY e'.tk.opn⟩],e'.tk.opn++[pcs2.length]):=by unfold qK;rw[if_pos hk1]
  refine⟨.inl rfl,_,_,rfl,dX,hS14,hK0.trans hKT,_,_,_,_,_,hB6,hbd3 _ _ (by rw[dw];omega) (by simp only[dw,List.length_singleton,f0];omega) (fun k hk=>?_),by rw[dw,List.length_singleton];omega,?_⟩
  ·simp only[ow,fw,f0]at hk
   rw[dw,List.length_singleton]
   rcases hk with hk | hk
   ·have:=ho2.2 k hk;omega
   ·omega
  ·rw[hseq,hmap3 _ (by exact hk3),hkf]
   simp only[f0,ht3]
 ·skip
  refine bq (tx (by simp only[evS,Nat.reduceEqDiff,reduceIte,g0,g3,g4,g5];try rfl) hk1) ?_
  replace G:=bk g0 (bk g3 (bk g4 g5))
  refine aJ (aj ?_)
  refine qP ?_
  refine qV ?_
  refine aV ?_
  dsimp only[aY]
  by_cases hk2:x.kd=2
  ·refine bq (uz lk hk2) ?_
   refine aj ?_
   refine qV ?_
   refine qV ?_
   refine qV ?_
   refine qC (hC:=anW hS0 hB0 (rK hei) (by rw[ht3,hl2];exact ho2.2) (by rw[ht3];show e'.tk.opn.length≤_;omega) (bZ x.lo) false) (h:=?_)
   intro v15 s15 hq15
   obtain⟨hS4,hK4,e4,hB4,hk4,hn4,ht4⟩:=hq15
   refine aV ?_
   try dsimp only[aY]
   rw[List.set_set]at hB4
   obtain⟨f1,f2,f3⟩:=aGx pcs2 e3.tk.opn (bZ x.lo) false
   have f0:e3.tk.opn=e'.tk.opn:=by rw[ht3]
   refine⟨.inl rfl,_,_,rfl,dX,hS4,hK0.trans hK4.toT,an,xa,po,_,_,hB4,hbd3 e4 _ (by omega) (by rw[ht4];show(IJ pcs2 e3.tk.opn (bZ x.lo) false).2.length≤_;rw[f0]at f2 f1 ⊢;omega) (fun k hk=>by rw[ht4]at hk;have:=ho2.2 k (by rw[←f0];exact f3 k hk);omega),by omega,?_⟩
   rw[hseq,hmap3 e4 (hk4.trans hk3),aTz hk2,ht4,ht3]
  ·refine bq (tx lk hk2) (eX ?_)
   have hkf:qK pcs2 e'.tk.opn x=(pcs2,e'.tk.opn):=by unfold qK;rw[if_neg hk1,if_neg hk2]
   refine⟨.inl rfl,_,_,rfl,dX,hS0,hK0,an,xa,po,_,_,hB0,hbd3 e3 _ (by omega) (by rw[ht3];show e'.tk.opn.length≤_;omega) (fun k hk=>by rw[ht3]at hk;have:=ho2.2 k hk;omega),by omega,?_⟩
   rw[hseq,hmap3 e3 hk3,hkf,ht3]
end Go.RM
namespace Go.RM
open Go Go.VM
set_option maxHeartbeats 8000000 in
theorem ayQ{orc:cK}{b:Nat}{s:S}{fl:Bool}{bo mn an:Nat}{xa:X}{po:List Nat}{pcs:List Pc}{es:List Ent}(hS:Sb b s)(hB:BH b s.h.get fl bo mn an xa po pcs es){i n:Nat}{p:Pc}(hp:pcs[i]? = some p)(hn:po[i]? = some n){f:Nat}{r:Int}(hF:nV pcs f p.ar=some r) :
  Cp orc yJ pq [.c (.ptr bo 0),.c (.ptr n 0)] s (fun k=>b≤k) True fun v s'=>v=iV r∧s'=s:=by
 refine lj (rf:=lq) rfl ?_
 unfold lq
 obtain⟨Γ,hΓ⟩ : ∃Γ,Γ=ofL [V.c (.ptr bo 0),.c (.ptr n 0)] 0 .lf:=⟨_,rfl⟩
 have g0:look Γ 0 = .c (.ptr bo 0):=by rw[hΓ];rfl
 have g1:look Γ 1 = .c (.ptr n 0):=by rw[hΓ];rfl
 rw[←hΓ]
 try clear G
 clear hΓ
 obtain⟨b1,b2,b3⟩:=hB.le
 obtain⟨hbn,cc,hpc⟩:=hB.pc i p n hp hn
 have c9:(pcX p i cc)[9]? = some (.sc (.int .i64 p.ar)):=rfl
 have hbld:=hB.bld
 obtain⟨har,rest,hall⟩ : xa = .sl an 1 0 po.length∧∃rest,s.h.get an=some (.cells aK (po.map WW++rest)):=by
  rcases hB.all with⟨_,h2⟩ | ⟨h1,r,h2⟩
  ·have:po=[]:=List.map_eq_nil_iff.1 h2
   rw[this]at hn;cases hn
  ·rw[ew]at h1;exact⟨h1,r,h2⟩
 rw[har]at hbld
 have cb:([X.sl an 1 0 po.length,X.mp mn]:List X)[0]? = some (.sl an 1 0 po.length):=rfl
 replace G:=bk g0 g1
 refine aJ (aj ?_)
 refine qV ?_
 refine aV ?_
 dsimp only[aY]
 refine aJ (aj ?_)
 refine qV ?_
 refine qP ?_
 refine qP ?_
 refine qL ?_
 refine qV ?_
 refine aV ?_
 dsimp only[aY]
 refine fj (fun Γ t=>s=t∧look Γ 5=iV r) ?_ ?_
 ·refine cX (vK (fun k Γ t=>s=t∧look Γ 0 = .c (.ptr bo 0)∧∃m:Int,look Γ 5=iV m∧nV pcs k m=some r) f ⟨rfl,lk,p.ar,lk,hF⟩ ?_)
  try clear G
  clear g0 g1 hF hp hn hbn hpc c9 Γ
  rintro k Γ _ ⟨rfl,g0,m,g5,hF⟩
  cases k with
  | zero=>simp[nV]at hF
  | succ k =>
   unfold nV at hF
   refine aJ ?_
   by_cases h0:0≤m
   ·rw[if_pos h0]at hF
    obtain⟨q,hq,hF⟩:=ak.1 hF
    obtain⟨j,rfl,hqj,hjl,_⟩:=qZ hq
    obtain⟨nq,hnq⟩ : ∃n,po[j]? = some n:=⟨_,cw (by rw[hB.len];exact hjl)⟩
    obtain⟨hbq,cq,hpq⟩:=hB.pc j q nq hqj hnq
    have ca:(po.map WW++rest)[j]? = some (.ptr nq 0):=by
     rw[lw (by rw[ew,hB.len];exact hjl),jw,hnq];rfl
    have hjpo:j<po.length:=by rw[hB.len];exact hjl
    have q4:(pcX q j cq)[4]? = some (.sc (.int .i64 q.fr)):=rfl
    have q5:(pcX q j cq)[5]? = some (.sc (.int .i64 q.to)):=rfl
    have q9:(pcX q j cq)[9]? = some (.sc (.int .i64 q.ar)):=rfl
    have hb:=decide_eq_true h0
    replace G:=bk g0 (bk g5 hb)
    refine aJ (kj rfl ?_)
    refine rV ?_
    refine rP ?_
    refine rV ?_
    refine ej (by simp only[bK,evS,Nat.reduceEqDiff,reduceIte,scV,bV,ik,jk,iw,gw,G]) (pmv (by simp only[evS,Nat.reduceEqDiff,reduceIte,G];try rfl)) ?_
    refine ej (by simp only[bK,evS,Nat.reduceEqDiff,reduceIte,scV,bV,ik,jk,iw,gw,G]) (by simp only[evS,Nat.reduceEqDiff,reduceIte,PU,bj,scV,bV,iV,cW,isB,isI,iz,kZ,mkV,G];try rfl) ?_
    refine ej (by simp only[bK,evS,Nat.reduceEqDiff,reduceIte,scV,bV,ik,jk,iw,gw,G]) (by simp only[evS,Nat.reduceEqDiff,reduceIte,PU,bj,scV,bV,iV,cW,isB,isI,iz,kZ,mkV,G];try rfl) ?_
    refine tQ (by simp only[bK,evS,Nat.reduceEqDiff,reduceIte,scV,bV,ik,jk,iw,gw,G]) (by first | exact MS.load1 (by simp only[evS,Nat.reduceEqDiff,reduceIte,G];first | done | rfl) (by assumption) (by first | rfl | assumption | (simp only[kw,jw,G];done) | simp) | exact MS.loadI1 (by simp only[evS,Nat.reduceEqDiff,reduceIte,G];first | done | rfl) | exact MS.loadI2 (by simp only[evS,Nat.reduceEqDiff,reduceIte,G];first | done | rfl)) (fun k hk=>by first | exact False.elim hk | (dsimp only at hk ⊢;omega) | omega) (fun x hx=>by simp at hx) ?_
    refine ej (by simp only[bK,evS,Nat.reduceEqDiff,reduceIte,scV,bV,ik,jk,iw,gw,G]) (pmv (by simp only[evS,Nat.reduceEqDiff,reduceIte,G];try rfl)) ?_
    refine ej (by simp only[bK,evS,Nat.reduceEqDiff,reduceIte,scV,bV,ik,jk,iw,gw,G]) (by first | exact azZ  (by simp only[evS,Nat.reduceEqDiff,reduceIte,G];first | done | rfl) (by simp only[evS,Nat.reduceEqDiff,reduceIte,G];first | done | rfl) (by first | assumption | omega) | exact W1  (by simp only[evS,Nat.reduceEqDiff,reduceIte,G];first | done | rfl) (by simp only[evS,Nat.reduceEqDiff,reduceIte,G];first | done | rfl) (by assumption) | exact Xz  (by simp only[evS,Nat.reduceEqDiff,reduceIte,G];first | done | rfl) (by simp only[evS,Nat.reduceEqDiff,reduceIte,G];first | done | rfl) (by first | assumption | omega)) ?_
    refine tQ (by simp only[bK,evS,Nat.reduceEqDiff,reduceIte,scV,bV,ik,jk,iw,gw,G]) (by first | exact MS.load1 (by simp only[evS,Nat.reduceEqDiff,reduceIte,G];first | done | rfl) (by assumption) (by first | rfl | assumption | (simp only[kw,jw,G];done) | simp) | exact MS.loadI1 (by simp only[evS,Nat.reduceEqDiff,reduceIte,G];first | done | rfl) | exact MS.loadI2 (by simp only[evS,Nat.reduceEqDiff,reduceIte,G];first | done | rfl)) (fun k hk => by first | exact False.elim hk | (dsimp only at hk ⊢;omega) | omega) (by intro x hx;simp only[List.nil_append,List.cons_append,List.mem_cons,List.not_mem_nil,or_false]at hx;rcases hx with rfl<;>first | exact .inl (by dsimp only;decide) | (refine .inr fun k => ?_;refine⟨?_,?_,?_⟩<;>(intro hk;(try dsimp only at hk);first | exact hk.1.elim | exact hk.2.elim | omega))) ?_
    refine ej (by simp only[bK,evS,Nat.reduceEqDiff,reduceIte,scV,bV,ik,jk,iw,gw,G]) (by simp only[evS,Nat.reduceEqDiff,reduceIte,PU,bj,scV,bV,iV,cW,isB,isI,iz,kZ,mkV,G];try rfl) ?_
    refine ej (by simp only[bK,evS,Nat.reduceEqDiff,reduceIte,scV,bV,ik,jk,iw,gw,G]) (by simp only[evS,Nat.reduceEqDiff,reduceIte,PU,bj,scV,bV,iV,cW,isB,isI,iz,kZ,mkV,G];try rfl) ?_
    refine ej (by simp only[bK,evS,Nat.reduceEqDiff,reduceIte,scV,bV,ik,jk,iw,gw,G]) (by simp only[evS,Nat.reduceEqDiff,reduceIte,PU,bj,scV,bV,iV,cW,isB,isI,iz,kZ,mkV,G];try rfl) ?_
    refine ej (by simp only[bK,evS,Nat.reduceEqDiff,reduceIte,scV,bV,ik,jk,iw,gw,G]) (by simp only[evS,Nat.reduceEqDiff,reduceIte,PU,bj,scV,bV,iV,cW,isB,isI,iz,kZ,mkV,G];try rfl) ?_
    refine tQ (by simp only[bK,evS,Nat.reduceEqDiff,reduceIte,scV,bV,ik,jk,iw,gw,G]) (by first | exact MS.load1 (by simp only[evS,Nat.reduceEqDiff,reduceIte,G];first | done | rfl) (by assumption) (by first | rfl | assumption | (simp only[kw,jw,G];done) | simp) | exact MS.loadI1 (by simp only[evS,Nat.reduceEqDiff,reduceIte,G];first | done | rfl) | exact MS.loadI2 (by simp only[evS,Nat.reduceEqDiff,reduceIte,G];first | done | rfl)) (fun k hk => by first | exact False.elim hk | (dsimp only at hk ⊢;omega) | omega) (by intro x hx;simp only[List.nil_append,List.cons_append,List.mem_cons,List.not_mem_nil,or_false]at hx;rcases hx with rfl | rfl<;>first | exact .inl (by dsimp only;decide) | (refine .inr fun k => ?_;refine⟨?_,?_,?_⟩<;>(intro hk;(try dsimp only at hk);first | exact hk.1.elim | exact hk.2.elim | omega))) ?_
    refine ej (by simp only[bK,evS,Nat.reduceEqDiff,reduceIte,scV,bV,ik,jk,iw,gw,G]) (pmv (by simp only[evS,Nat.reduceEqDiff,reduceIte,G];try rfl)) ?_
    refine ej (by simp only[bK,evS,Nat.reduceEqDiff,reduceIte,scV,bV,ik,jk,iw,gw,G]) (by simp only[evS,Nat.reduceEqDiff,reduceIte,PU,bj,scV,bV,iV,cW,isB,isI,iz,kZ,mkV,G];try rfl) ?_
    refine ej (by simp only[bK,evS,Nat.reduceEqDiff,reduceIte,scV,bV,ik,jk,iw,gw,G]) (by simp only[evS,Nat.reduceEqDiff,reduceIte,PU,bj,scV,bV,iV,cW,isB,isI,iz,kZ,mkV,G];try rfl) ?_
    refine tQ (by simp only[bK,evS,Nat.reduceEqDiff,reduceIte,scV,bV,ik,jk,iw,gw,G]) (by first | exact MS.load1 (by simp only[evS,Nat.reduceEqDiff,reduceIte,G];first | done | rfl) (by assumption) (by first | rfl | assumption | (simp only[kw,jw,G];done) | simp) | exact MS.loadI1 (by simp only[evS,Nat.reduceEqDiff,reduceIte,G];first | done | rfl) | exact MS.loadI2 (by simp only[evS,Nat.reduceEqDiff,reduceIte,G];first | done | rfl)) (fun k hk => by first | exact False.elim hk | (dsimp only at hk ⊢;omega) | omega) (by intro x hx;simp only[List.nil_append,List.cons_append,List.mem_cons,List.not_mem_nil,or_false]at hx;rcases hx with rfl | rfl | rfl<;>first | exact .inl (by dsimp only;decide) | (refine .inr fun k => ?_;refine⟨?_,?_,?_⟩<;>(intro hk;(try dsimp only at hk);first | exact hk.1.elim | exact hk.2.elim | omega))) ?_
    refine ej (by simp only[bK,evS,Nat.reduceEqDiff,reduceIte,scV,bV,ik,jk,iw,gw,G]) (pmv (by simp only[evS,Nat.reduceEqDiff,reduceIte,G];try rfl)) ?_
    refine ej (by simp only[bK,evS,Nat.reduceEqDiff,reduceIte,scV,bV,ik,jk,iw,gw,G]) (by first | exact azZ  (by simp only[evS,Nat.reduceEqDiff,reduceIte,G];first | done | rfl) (by simp only[evS,Nat.reduceEqDiff,reduceIte,G];first | done | rfl) (by first | assumption | omega) | exact W1  (by simp only[evS,Nat.reduceEqDiff,reduceIte,G];first | done | rfl) (by simp only[evS,Nat.reduceEqDiff,reduceIte,G];first | done | rfl) (by assumption) | exact Xz  (by simp only[evS,Nat.reduceEqDiff,reduceIte,G];first | done | rfl) (by simp only[evS,Nat.reduceEqDiff,reduceIte,G];first | done | rfl) (by first | assumption | omega)) ?_
    refine tQ (by simp only[bK,evS,Nat.reduceEqDiff,reduceIte,scV,bV,ik,jk,iw,gw,G]) (by first | exact MS.load1 (by simp only[evS,Nat.reduceEqDiff,reduceIte,G];first | done | rfl) (by assumption) (by first | rfl | assumption | (simp only[kw,jw,G];done) | simp) | exact MS.loadI1 (by simp only[evS,Nat.reduceEqDiff,reduceIte,G];first | done | rfl) | exact MS.loadI2 (by simp only[evS,Nat.reduceEqDiff,reduceIte,G];first | done | rfl)) (fun k hk => by first | exact False.elim hk | (dsimp only at hk ⊢;omega) | omega) (by intro x hx;simp only[List.nil_append,List.cons_append,List.mem_cons,List.not_mem_nil,or_false]at hx;rcases hx with rfl | rfl | rfl | rfl<;>first | exact .inl (by dsimp only;decide) | (refine .inr fun k => ?_;refine⟨?_,?_,?_⟩<;>(intro hk;(try dsimp only at hk);first | exact hk.1.elim | exact hk.2.elim | omega))) ?_
    refine ej (by simp only[bK,evS,Nat.reduceEqDiff,reduceIte,scV,bV,ik,jk,iw,gw,G]) (by simp only[evS,Nat.reduceEqDiff,reduceIte,PU,bj,scV,bV,iV,cW,isB,isI,iz,kZ,mkV,G];try rfl) ?_
    refine ej (by simp only[bK,evS,Nat.reduceEqDiff,reduceIte,scV,bV,ik,jk,iw,gw,G]) (by simp only[evS,Nat.reduceEqDiff,reduceIte,PU,bj,scV,bV,iV,cW,isB,isI,iz,kZ,mkV,G];try rfl) ?_
    refine ej (by simp only[bK,evS,Nat.reduceEqDiff,reduceIte,scV,bV,ik,jk,iw,gw,G]) (by simp only[evS,Nat.reduceEqDiff,reduceIte,PU,bj,scV,bV,iV,cW,isB,isI,iz,kZ,mkV,G];try rfl) ?_
    refine ej (by simp only[bK,evS,Nat.reduceEqDiff,reduceIte,scV,bV,ik,jk,iw,gw,G]) (by simp only[evS,Nat.reduceEqDiff,reduceIte,PU,bj,scV,bV,iV,cW,isB,isI,iz,kZ,mkV,G];try rfl) ?_
    refine tQ (by simp only[bK,evS,Nat.reduceEqDiff,reduceIte,scV,bV,ik,jk,iw,gw,G]) (by first | exact MS.load1 (by simp only[evS,Nat.reduceEqDiff,reduceIte,G];first | done | rfl) (by assumption) (by first | rfl | assumption | (simp only[kw,jw,G];done) | simp) | exact MS.loadI1 (by simp only[evS,Nat.reduceEqDiff,reduceIte,G];first | done | rfl) | exact MS.loadI2 (by simp only[evS,Nat.reduceEqDiff,reduceIte,G];first | done | rfl)) (fun k hk => by first | exact False.elim hk | (dsimp only at hk ⊢;omega) | omega) (by intro x hx;simp only[List.nil_append,List.cons_append,List.mem_cons,List.not_mem_nil,or_false]at hx;rcases hx with rfl | rfl | rfl | rfl | rfl<;>first | exact .inl (by dsimp only;decide) | (refine .inr fun k => ?_;refine⟨?_,?_,?_⟩<;>(intro hk;(try dsimp only at hk);first | exact hk.1.elim | exact hk.2.elim | omega))) ?_
    refine ej (by simp only[bK,evS,Nat.reduceEqDiff,reduceIte,scV,bV,ik,jk,iw,gw,G]) (by simp only[evS,Nat.reduceEqDiff,reduceIte,PU,bj,scV,bV,iV,cW,isB,isI,iz,kZ,mkV,G];try rfl) ?_
    refine rP ?_
    refine oq ?_
    dsimp only[aY]
    by_cases he:q.fr=q.to
    ·rw[if_pos he]at hF
     refine bq (uz (p:=q.fr=q.to) lk he) (eX ?_)
     dsimp only[aY]
     refine cX ?_
     refine aj ?_
     refine qV ?_
     refine qP ?_
     refine qP ?_
     refine qL ?_
     refine qV ?_
     refine qX ?_
     refine qL ?_
     refine qP ?_
     refine qP ?_
     refine qL ?_
     refine qV ?_
     refine aV ?_
     try dsimp only[aY]
     exact⟨k,by omega,rfl,lk,q.ar,lk,hF⟩
    ·rw[if_neg he]at hF
     cases hF
     refine bq (tx (p:=q.fr=q.to) (by simp only[evS,Nat.reduceEqDiff,reduceIte,g0,g5,hb];try rfl) he) (i9 ?_)
     exact⟨rfl,(by simp only[evS,Nat.reduceEqDiff,reduceIte,g0,g5,hb];try rfl)⟩
   ·rw[if_neg h0]at hF
    cases hF
    have hb:=xw h0
    replace G:=bk g0 (bk g5 hb)
    refine aJ (kj rfl ?_)
    refine rV ?_
    refine rP ?_
    refine rV ?_
    refine eY (by simp only[bK,evS,Nat.reduceEqDiff,reduceIte,scV,bV,ik,jk,iw,gw,G]) ?_
    refine eY (by simp only[bK,evS,Nat.reduceEqDiff,reduceIte,scV,bV,ik,jk,iw,gw,G]) ?_
    refine eY (by simp only[bK,evS,Nat.reduceEqDiff,reduceIte,scV,bV,ik,jk,iw,gw,G]) ?_
    refine eY (by simp only[bK,evS,Nat.reduceEqDiff,reduceIte,scV,bV,ik,jk,iw,gw,G]) ?_
    refine eY (by simp only[bK,evS,Nat.reduceEqDiff,reduceIte,scV,bV,ik,jk,iw,gw,G]) ?_
    refine eY (by simp only[bK,evS,Nat.reduceEqDiff,reduceIte,scV,bV,ik,jk,iw,gw,G]) ?_
    refine eY (by simp only[bK,evS,Nat.reduceEqDiff,reduceIte,scV,bV,ik,jk,iw,gw,G]) ?_
    refine eY (by simp only[bK,evS,Nat.reduceEqDiff,reduceIte,scV,bV,ik,jk,iw,gw,G]) ?_
    refine eY (by simp only[bK,evS,Nat.reduceEqDiff,reduceIte,scV,bV,ik,jk,iw,gw,G]) ?_
    refine eY (by simp only[bK,evS,Nat.reduceEqDiff,reduceIte,scV,bV,ik,jk,iw,gw,G]) ?_
    refine eY (by simp only[bK,evS,Nat.reduceEqDiff,reduceIte,scV,bV,ik,jk,iw,gw,G]) ?_
    refine eY (by simp only[bK,evS,Nat.reduceEqDiff,reduceIte,scV,bV,ik,jk,iw,gw,G]) ?_
    refine eY (by simp only[bK,evS,Nat.reduceEqDiff,reduceIte,scV,bV,ik,jk,iw,gw,G]) ?_
    refine eY (by simp only[bK,evS,Nat.reduceEqDiff,reduceIte,scV,bV,ik,jk,iw,gw,G]) ?_
    refine eY (by simp only[bK,evS,Nat.reduceEqDiff,reduceIte,scV,bV,ik,jk,iw,gw,G]) ?_
    refine eY (by simp only[bK,evS,Nat.reduceEqDiff,reduceIte,scV,bV,ik,jk,iw,gw,G]) ?_
    refine eY (by simp only[bK,evS,Nat.reduceEqDiff,reduceIte,scV,bV,ik,jk,iw,gw,G]) ?_
    refine eY (by simp only[bK,evS,Nat.reduceEqDiff,reduceIte,scV,bV,ik,jk,iw,gw,G]) ?_
    refine eY (by simp only[bK,evS,Nat.reduceEqDiff,reduceIte,scV,bV,ik,jk,iw,gw,G]) ?_
    refine eY (by simp only[bK,evS,Nat.reduceEqDiff,reduceIte,scV,bV,ik,jk,iw,gw,G]) ?_
    refine eY (by simp only[bK,evS,Nat.reduceEqDiff,reduceIte,scV,bV,ik,jk,iw,gw,G]) ?_
    refine eY (by simp only[bK,evS,Nat.reduceEqDiff,reduceIte,scV,bV,ik,jk,iw,gw,G]) ?_
    refine eY (by simp only[bK,evS,Nat.reduceEqDiff,reduceIte,scV,bV,ik,jk,iw,gw,G]) ?_
    refine eY (by simp only[bK,evS,Nat.reduceEqDiff,reduceIte,scV,bV,ik,jk,iw,gw,G]) ?_
    refine eY (by simp only[bK,evS,Nat.reduceEqDiff,reduceIte,scV,bV,ik,jk,iw,gw,G]) ?_
    refine rP ?_
    refine oq ?_
    dsimp only[aY]
    refine bq (H0 lk) (i9 ?_)
    exact⟨rfl,lk⟩
 try clear G
 clear g0 g1 Γ
 rintro Γ _ ⟨rfl,g5⟩
 replace G:=g5
 refine aJ (aj ?_)
 refine qV ?_
 refine qV ?_
 refine aV ?_
 dsimp only[aY]
 exact sx ⟨.inr rfl,_,_,sQ lk rfl,dX,rfl,rfl⟩
end Go.RM
namespace Go.RM
open Go Go.VM
theorem Cp.nd{orc:cK}{T:Tr RF}{f:FuncId}{args:List V}{s:S}{F:Nat→Prop}{Q:V→S→Prop}(h:Cp orc T f args s F True Q):Cp orc T f args s F False Q:=Cp.mono h (fun _ h=>h) (fun h=>h.elim) (fun _ _ h=>h)
theorem aSq{e:Opd→V}{x:Opd}{vs:List V}{i:Nat}{y:X}(hx:e x = .tup vs)(hy:vs[i]? = some (.c y)):bj e (.ext x i)=some (.c y):=by
 simp only[bj,hx,hy]
theorem Yz:∀(n:Nat) (l:List Nat),l.Nodup→(∀i∈l,i<n)→l.length≤n
 | 0,[],_,_=>mw _
 | 0,a::l,_,h=>by have:=h a zk;omega
 | n+1,l,hn,h=>by
  have h1:=Yz n (l.erase n) (hn.erase n) fun i hi=>by
   have h2:=h i (List.mem_of_mem_erase hi)
   have h3:=(hn.mem_erase_iff.1 hi).1
   omega
  rw[List.length_erase]at h1
  split at h1<;>omega
theorem BH.flag{b:Nat}{h h':Hp}{fl fl':Bool}{bo mn an:Nat}{xa:X}{po:List Nat}{pcs:List Pc}{es:List Ent}(hB:BH b h fl bo mn an xa po pcs es)(hm:h' mn=some (.map (.int .i64) fl' (es.map CW)))(hk:∀k o,h k=some o→k≠mn→h' k=some o):BH b h' fl' bo mn an xa po pcs es:=by
 have tag:∀k t cs,h k=some (.cells t cs)→h' k=some (.cells t cs):=fun k t cs ho=>hk k _ ho fun g=>by have:=hB.map;rw[←g,ho]at this;cases this
 exact⟨tag _ _ _ hB.bld,hB.all.of fun _ ⟨_,ho⟩=>(tag _ _ _ ho).trans ho.symm,hm,hB.len,fun i p n hp hn=>let ⟨h1,c,h2⟩:=hB.pc i p n hp hn;⟨h1,c,tag _ _ _ h2⟩,fun i e he=>let ⟨h1,h2,h3,h4⟩:=hB.tk i e he;⟨h1,tag _ _ _ h2,h3.of fun _ ⟨_,ho⟩=>(tag _ _ _ ho).trans ho.symm,h4⟩,hB.pnd,hB.tnd,hB.ond,hB.knd,hB.le⟩
def aWx:O→Bool
 | .iter _ _ _=>true
 | _=>false
theorem BH.extI{b:Nat}{h h':Hp}{fl:Bool}{bo mn an:Nat}{xa:X}{po:List Nat}{pcs:List Pc}{es:List Ent}(hB:BH b h fl bo mn an xa po pcs es)(hk:∀k o,h k=some o→aWx o=false→h' k=some o):BH b h' fl bo mn an xa po pcs es :=
 ⟨hk _ _ hB.bld rfl,hB.all.of fun _ ⟨_,ho⟩=>(hk _ _ ho rfl).trans ho.symm,hk _ _ hB.map rfl,hB.len,fun i p n hp hn=>let ⟨h1,c,h2⟩:=hB.pc i p n hp hn;⟨h1,c,hk _ _ h2 rfl⟩,fun i e he=>let ⟨h1,h2,h3,h4⟩:=hB.tk i e he;⟨h1,hk _ _ h2 rfl,h3.of fun _ ⟨_,ho⟩=>(hk _ _ ho rfl).trans ho.symm,h4⟩,hB.pnd,hB.tnd,hB.ond,hB.knd,hB.le⟩
def opA(es:List Ent)(i:Nat):List Nat:=((es[i]?).map fun e=>e.tk.opn).getD []
def ClS(es:List Ent)(pcs:List Pc)(eT:Int)(seen:List Nat)(ps:List Pc):Prop:=∀j:Nat,ps[j]? = (pcs[j]?).map fun p=>if ∃i∈seen,j∈opA es i then {p with to:=eT,op:=true} else p
theorem ClS.start(es:List Ent)(pcs:List Pc)(eT:Int):ClS es pcs eT [] pcs:=fun j=>by simp
theorem ClS.step{es:List Ent}{pcs:List Pc}{eT:Int}{seen:List Nat}{ps:List Pc}(h:ClS es pcs eT seen ps)(ix:Nat):ClS es pcs eT (seen++[ix]) (sV ps (opA es ix) eT):=fun j=>by
 rw[tZ,h j,Option.map_map]
 congr 1
 funext p
 simp only[Function.comp]
 by_cases g:j∈opA es ix
 ·rw[if_pos g,if_pos (⟨ix,by simp,g⟩ : ∃i∈seen++[ix],j∈opA es i)]
  split<;>rfl
 ·rw[if_neg g]
  by_cases g2:∃i∈seen,j∈opA es i
  ·rw[if_pos g2,if_pos]
   obtain⟨i,h1,h2⟩:=g2
   exact⟨i,List.mem_append_left _ h1,h2⟩
  ·rw[if_neg g2,if_neg]
   rintro⟨i,h1,h2⟩
   rcases ow.1 h1 with h1 | h1
   ·exact g2 ⟨i,h1,h2⟩
   ·rw[fw.1 h1]at h2;exact g h2
theorem ClS.len{es:List Ent}{pcs:List Pc}{eT:Int}{seen:List Nat}{ps:List Pc}(h:ClS es pcs eT seen ps):ps.length=pcs.length:=by
 have h1:=h ps.length
 have h2:=h pcs.length
 rw[vw (mw ps.length)]at h1
 rw[vw (mw pcs.length)]at h2
 have h3:=List.getElem?_eq_none_iff.1 (Option.map_eq_none_iff.1 h1.symm)
 have h4:=List.getElem?_eq_none_iff.1 h2
 omega
theorem ClS.done{es:List Ent}{pcs:List Pc}{eT:Int}{seen:List Nat}{ps:List Pc}(h:ClS es pcs eT seen ps)(hall:∀i,i<es.length→i∈seen):ps=lZ ⟨pcs,es.map Ent.kt⟩ eT:=by
 apply List.ext_getElem?
 intro j
 unfold lZ
 rw[xQ,h j]
 congr 1
 funext p
 congr 1
 apply propext
 constructor
 ·rintro⟨i,h1,h2⟩
  unfold opA at h2
  cases e:es[i]? with
  | none=>rw[e]at h2;simp at h2
  | some a =>
   rw[e]at h2
   exact⟨a.kt,List.mem_map_of_mem (nw e),h2⟩
 ·rintro⟨t,h1,h2⟩
  obtain⟨a,ha,rfl⟩:=yw.1 h1
  obtain⟨i,hi⟩:=List.getElem?_of_mem ha
  refine⟨i,hall i (bw.1 hi).1,?_⟩
  unfold opA
  rw[hi]
  exact h2
end Go.RM
namespace Go.RM
open Go.VM
def RowK(h:Hp)(t:TypeId)(k:Nat)(x:X)(cs:List X)(cnt n:Nat):Prop:=cs.length=cnt*k∧((x = .sc cW∧cnt=0)∨(x = .sl n k 0 cnt∧h n=some (.cells t cs)))
theorem RowK.keep{h h':Hp}{t:TypeId}{k cnt:Nat}{x:X}{cs:List X}{n:Nat}(hr:RowK h t k x cs cnt n)(hk:∀o,h n=some (.cells t o)→h' n=h n):RowK h' t k x cs cnt n:=by
 obtain⟨h0,hr | ⟨h1,h2⟩⟩:=hr
 ·exact⟨h0,.inl hr⟩
 ·exact⟨h0,.inr ⟨h1,(hk _ h2).trans h2⟩⟩
theorem RowK.nil_of{h:Hp}{t t':TypeId}{k0 cnt:Nat}{x:X}{cs cs':List X}{n k:Nat}(hr:RowK h t k0 x cs cnt n)(hk:h k=some (.cells t' cs'))(ht:t'≠t):k=n→x = .sc cW:=fun e=>by
 obtain⟨_,⟨h1,_⟩ | ⟨_,h2⟩⟩:=hr
 ·exact h1
 ·rw[←e,hk]at h2;cases h2;exact absurd rfl ht
theorem RowK.nil_map{h:Hp}{t:TypeId}{kd:TypeDesc}{fl:Bool}{es:List (Value×V)}{k0 cnt:Nat}{x:X}{cs:List X}{n k:Nat}(hr:RowK h t k0 x cs cnt n)(hk:h k=some (.map kd fl es)):k=n→x = .sc cW:=fun e=>by
 obtain⟨_,⟨h1,_⟩ | ⟨_,h2⟩⟩:=hr
 ·exact h1
 ·rw[←e,hk]at h2;cases h2
theorem aPW{xs:List X}{n:Nat}(h:xs.length=n):cut xs 0 n=some xs:=by
 unfold cut
 simp only[List.drop_zero]
 rw[List.take_of_length_le (by omega),h,Nat.beq_refl]
 rfl
theorem aBW{e:Opd→V}{s:S}{b:Nat}{t:TypeId}{k bytes:Nat}{sl x:Opd}{xv:X}{cs ys:List X}{cnt n m:Nat}{t2:TypeId}(hS:Sb b s)(hs:e sl = .c xv)(hr:RowK s.h.get t k xv cs cnt n)(hbn:b≤n)(hx:e x = .c (.sl m k 0 1))(hm:s.h.get m=some (.cells t2 ys))(hy:ys.length=k)(hr1:rY bytes (cnt+1)=true) :
  ∃s1,MS e s (.app t k bytes sl x) (.c (.sl s.c k 0 (cnt+1))) s1 (fun j=>j=m∨j=n∨j=s.c) (fun j=>j=n∨j=s.c)∧SaP s s1 t xv n (cs++ys)∧Sb b s1:=by
 have hc:cut ys 0 (1*k)=some ys:=aPW (by omega)
 obtain⟨h0,⟨rfl,rfl⟩ | ⟨rfl,hn⟩⟩:=hr
 ·have:cs=[]:=fk (by omega)
  subst this
  refine⟨zJ s (.cells t ys),?_,⟨(vV s _).self,fun k _ h=>(vV s _).keep k h,rfl⟩,hS.new _⟩
  obtain⟨r,wm,h1,h2,h3,h4,h5⟩:=MS.app_nil (t:=t) (k:=k) (bytes:=bytes) hS hs hx hm hc rfl hr1
  exact⟨r,wm,h1,h2,h3,fun k hk=>(h4 k hk).imp id .inr,fun k hk=>.inr (h5 k hk)⟩
 ·have hlt:=hS.lt hn
  exact⟨_,MS.app_own (t:=t) (k:=k) (bytes:=bytes) hS hs hn (aPW h0) hx hm hc rfl hr1,⟨(abq hlt).self,fun k h1 h2=>(abq hlt).keep k (fun e=>by have:=h1 e;simp[cW]at this) h2,rfl⟩,(hS.put hbn hlt .dead).new _⟩
theorem MS.bslK{e:Opd→V}{s:S}{b:Nat}{t:TypeId}{k:Nat}{z ys:List X}{x:Opd}(hS:Sb b s)(hx:e x = .agg ys)(hz:z.length=k)(hy:ys.length=k):MS e s (.bsl t k 1 z [(0,k,x)]) (.c (.sl s.c k 0 1)) (zJ s (.cells t ys)) (fun j=>j=s.c) (fun j=>j=s.c):=by
 refine MS.bsl hS ?_
 have e1:(List.replicate 1 z).flatten=z:=by simp
 have e2:setAt z 0 ys=ys:=by
  unfold setAt
  rw[List.take_zero,List.drop_eq_nil_of_le (by omega)]
  simp
 have h1:Nat.beq ys.length k=true:=by rw[hy];exact Nat.beq_refl k
 have h2:Nat.ble (0+k) z.length=true:=by rw[Nat.ble_eq];omega
 simp only[e1,fill,hx,c5,dk,h1,h2,Bool.and_self,gd,cond_true,e2]
section
variable {orc:cK} {T:Tr RF} {F:Nat→Prop} {D:Prop} {os:List (ROp×Nat)} {Γ:Tr V} {s:S} {b n m:Nat} {d:Option Nat} {g:Option (Nat×Bool)} {mk:Nat} {t t2:TypeId} {kk bytes cnt:Nat} {sl x:Opd} {xv:X} {cs ys:List X}
theorem aLj{Q:Tr V→S→Prop}(hw:bK Γ g=some true)(hS:Sb b s)(hs:ev Γ sl = .c xv)(hr:RowK s.h.get t kk xv cs cnt n)(hbn:b≤n)(hx:ev Γ x = .c (.sl m kk 0 1))(hm:s.h.get m=some (.cells t2 ys))(hy:ys.length=kk)(hr1:rY bytes (cnt+1)=true)(hF:∀k,(k=m∨k=n∨k=s.c)→F k)
  (hk:∀s1,SaP s s1 t xv n (cs++ys)→Sb b s1→Sq orc T os (putO d (.c (.sl s.c kk 0 (cnt+1))) Γ) s1 F D Q):Sq orc T ((⟨d,.app t kk bytes sl x,g⟩,mk)::os) Γ s F D Q:=by
 obtain⟨s1,h1,h2,h3⟩:=aBW (bytes:=bytes) hS hs hr hbn hx hm hy hr1
 exact zx hw h1 hF (hk s1 h2 h3)
end
def RowE(h:Hp)(t:TypeId)(x:X)(cs:List X)(n:Nat):Prop:=(x = .sc cW∧cs=[])∨(x = .sl n 1 0 cs.length∧h n=some (.cells t cs))
theorem RowE.keep{h h':Hp}{t:TypeId}{x:X}{cs:List X}{n:Nat}(hr:RowE h t x cs n)(hk:∀o,h n=some (.cells t o)→h' n=h n):RowE h' t x cs n:=by
 rcases hr with hr | ⟨h1,h2⟩
 ·exact .inl hr
 ·exact .inr ⟨h1,(hk _ h2).trans h2⟩
theorem RowE.toP{h:Hp}{t:TypeId}{x:X}{cs:List X}{n:Nat}(hr:RowE h t x cs n):RowP h t x cs n:=by
 rcases hr with hr | ⟨h1,h2⟩
 ·exact .inl hr
 ·exact .inr ⟨h1,[],by rw[vk];exact h2⟩
def auY(s:Sl8):List X:=[iX s.th,iX s.par,iX s.dep,.sc (.string s.nm),iX s.fr,iX s.to,iX s.self,.sc (.bool s.op)]
def mV(l:List Sl8):List X:=(l.map auY).flatten
theorem OY(l l':List Sl8):mV (l++l')=mV l++mV l':=by unfold mV;rw[List.map_append,List.flatten_append]
theorem vj(l:List Sl8):(mV l).length=l.length*8:=by
 unfold mV
 induction l with
 | nil=>rfl
 | cons a l ih=>simp only[qk,yk,dw,ih,uw];simp[auY];omega
theorem akx{α:Type}{l:List α}{m:Nat}{q:α}(h:l[m]? = some q):∃a c,l=a++q::c∧a.length=m:=by
 have hm:=(bw.1 h).1
 refine⟨l.take m,l.drop (m+1),?_,by rw[List.length_take];omega⟩
 have h2:=(bw.1 h).2
 conv=>lhs;rw[←List.take_append_drop m l]
 rw[List.drop_eq_getElem_cons hm,h2]
theorem aax{l:List Sl8}{m:Nat}{q:Sl8}(h:l[m]? = some q){j:Nat}(hj:j<8):(mV l)[0+m*8+j]? = (auY q)[j]?:=by
 obtain⟨a,c,rfl,rfl⟩:=akx h
 have e:mV (a++q::c)=mV a++(auY q++mV c):=by rw[OY];rfl
 rw[e,List.getElem?_append_right (by rw[vj];omega),vj,lw (by simp[auY];omega)]
 congr 1;omega
theorem axJ{l:List Sl8}{m:Nat}{q:Sl8}(h:l[m]? = some q)(v:Int):(mV l).set (0+m*8+6) (iX v)=mV (l.set m {q with self:=v}):=by
 obtain⟨a,c,rfl,rfl⟩:=akx h
 have e:∀q:Sl8,mV (a++q::c)=mV a++(auY q++mV c):=fun q=>by rw[OY];rfl
 have e2:(a++q::c).set a.length {q with self:=v}=a++{q with self:=v}::c:=by simp
 rw[e2,e,e,List.set_append_right _ _ (by rw[vj];omega),vj,show 0+a.length*8+6-a.length*8=6 by omega]
 rfl
def plV(e:Int×Int):Value×V:=(.int .i64 e.1,iV e.2)
theorem aFQ(k:Int):∀pl:List (Int×Int),FX false (V.c (.sc (.int .i64 0))) (getK (.int .i64 k) (pl.map plV))=iV (E7 k pl)
 | []=>rfl
 | e::pl=>by
  simp only[qk,getK,plV,keyB,E7,Dk]
  by_cases h:k=e.1
  ·rw[if_pos h,if_pos h.symm];rfl
  ·rw[if_neg h,if_neg (Ne.symm h)]
   exact aFQ k pl
theorem aFz(k v:Int):∀pl:List (Int×Int),putK (.int .i64 k) (iV v) (pl.map plV)=(BX k v pl).map plV
 | []=>rfl
 | e::pl=>by
  simp only[qk,putK,plV,keyB,BX,Dk]
  by_cases h:k=e.1
  ·rw[if_pos h,if_pos h.symm];rfl
  ·rw[if_neg h,if_neg (Ne.symm h)]
   have:=aFz k v pl
   rw[this];rfl
theorem MS.lookP{e:Opd→V}{s:S}{x i:Opd}{m:Nat}{fl:Bool}{k:Int}{pl:List (Int×Int)}(hx:e x = .c (.mp m))(hi:e i=iV k)(hm:s.h.get m=some (.map (.int .i64) fl (pl.map plV))):MS e s (.look (.int .i64) (.c (.sc (.int .i64 0))) false x i) (iV (E7 k pl)) s (fun k=>k=m) (fun _=>False):=by
 have:=MS.look (z:=.c (.sc (.int .i64 0))) (ok:=false) (kd:=.int .i64) (key:=.int .i64 k) hx (by rw[hi];rfl) (wJ hm) rfl
 rw[aFQ]at this
 exact this
theorem P2{σ ρ:Type}{step:σ→Option (σ ⊕ ρ)}{st:σ}{r:ρ}(h:step st=some (.inr r)):loop step st=some r:=by
 unfold loop
 rw[show cV=18446744073709551615+1 from rfl,sZ,h]
theorem aDj{α:Type}(c:α→α→Option Int):KX c ([]:List α) 0=some []:=by
 unfold KX
 rw[P2 (r:=([],0)) rfl]
 simp only[dk]
 unfold aaQ
 rw[P2 (r:=[]) rfl]
 simp only[dk]
 exact P2 rfl
end Go.RM
namespace Go.RM
open Go Go.VM
set_option maxHeartbeats 1000000 in
theorem azj{orc:cK}(fx:X)(s:S):Cp orc yJ c7 [.c (.sc cW),iV 0,iV 0,.c fx] s (fun _=>False) True fun _ s'=>s'=s:=by
 refine lj (rf:=cz) rfl ?_
 unfold cz
 obtain⟨Γ,hΓ⟩ : ∃Γ,Γ=ofL [V.c (.sc cW),iV 0,iV 0,.c fx] 0 .lf:=⟨_,rfl⟩
 have g1:look Γ 1=iV 0:=by rw[hΓ];rfl
 have g2:look Γ 2=iV 0:=by rw[hΓ];rfl
 rw[←hΓ]
 try clear G
 clear hΓ
 replace G:=bk g1 g2
 refine aJ (aj ?_)
 refine qV ?_
 refine qP ?_
 refine qV ?_
 refine aV ?_
 dsimp only[aY]
 refine cX (Nj (aJ ?_))
 refine aJ (aj ?_)
 refine qV ?_
 refine qV ?_
 refine qP ?_
 refine aV ?_
 dsimp only[aY]
 refine bq (tx lk (by decide)) (i9 ?_)
 exact⟨.inl rfl,_,_,rfl,dX,rfl⟩
set_option maxHeartbeats 1000000 in
theorem apK{orc:cK}(fx:X)(s:S):Cp orc yJ gq [.c (.sc cW),iV 0,.c fx] s (fun _=>False) True fun _ s'=>s'=s:=by
 refine lj (rf:=dq) rfl ?_
 unfold dq
 obtain⟨Γ,hΓ⟩ : ∃Γ,Γ=ofL [V.c (.sc cW),iV 0,.c fx] 0 .lf:=⟨_,rfl⟩
 have g0:look Γ 0 = .c (.sc cW):=by rw[hΓ];rfl
 have g1:look Γ 1=iV 0:=by rw[hΓ];rfl
 have g2:look Γ 2 = .c fx:=by rw[hΓ];rfl
 rw[←hΓ]
 try clear G
 clear hΓ
 replace G:=bk g0 (bk g1 g2)
 refine aJ (aj ?_)
 refine qV ?_
 refine aV ?_
 dsimp only[aY]
 refine aJ (aj ?_)
 refine qV ?_
 refine qV ?_
 refine qV ?_
 refine aV ?_
 dsimp only[aY]
 refine fj (fun Γ t=>t=s∧look Γ 0 = .c (.sc cW)∧look Γ 1=iV 0∧look Γ 2 = .c fx∧look Γ 6=iV 20∧look Γ 7=iV 0) ?_ ?_
 ·refine cX (Nj (aJ ?_))
  refine aJ (aj ?_)
  refine qV ?_
  refine qV ?_
  refine qP ?_
  refine aV ?_
  dsimp only[aY]
  refine bq (tx lk (by decide)) (i9 ?_)
  exact⟨rfl,lk,lk,lk,lk,lk⟩
 try clear G
 clear g0 g1 g2 Γ
 rintro Γ _ ⟨rfl,g0,g1,g2,g6,g7⟩
 replace G:=bk g0 (bk g1 (bk g2 (bk g6 g7)))
 refine aJ (aj ?_)
 refine qV ?_
 refine qV ?_
 refine qV ?_
 refine qV ?_
 refine qC (hC:=azj fx _) (h:=?_)
 intro v1 s1 hq1
 obtain rfl:=hq1
 refine aV ?_
 dsimp only[aY]
 refine cX (Nj (aJ ?_))
 refine aJ (aj ?_)
 refine qV ?_
 refine qV ?_
 refine qP ?_
 refine aV ?_
 dsimp only[aY]
 refine bq (tx lk (by decide)) (i9 ?_)
 exact⟨.inl rfl,_,_,rfl,dX,rfl⟩
set_option maxHeartbeats 1000000 in
theorem amK{orc:cK}(fx:X)(s:S):Cp orc yJ dz [.c (.sc cW),.c fx] s (fun _=>False) True fun _ s'=>s'=s:=by
 refine lj (rf:=b7) rfl ?_
 unfold b7
 obtain⟨Γ,hΓ⟩ : ∃Γ,Γ=ofL [V.c (.sc cW),.c fx] 0 .lf:=⟨_,rfl⟩
 have g0:look Γ 0 = .c (.sc cW):=by rw[hΓ];rfl
 have g1:look Γ 1 = .c fx:=by rw[hΓ];rfl
 rw[←hΓ]
 try clear G
 clear hΓ
 replace G:=bk g0 g1
 refine aj ?_
 refine qV ?_
 refine qV ?_
 refine qP ?_
 refine qV ?_
 refine qC (hC:=apK fx _) (h:=?_)
 intro v1 s1 hq1
 obtain rfl:=hq1
 refine aV ?_
 try dsimp only[aY]
 exact⟨.inl rfl,_,_,rfl,dX,rfl⟩
end Go.RM
namespace Go.RM
open Go Go.VM
set_option maxHeartbeats 32000000 in
theorem aUx{orc:cK}{b:Nat}{s:S}(hS:Sb b s){o:List EvS}(hol:o.length≤1000)(eI:Int){r:List Sl8}(hF:ofF o eI=some r) :
  Cp orc yJ L5 [.c (.im 10 (o.map rowE)),iV eI] s (fun k=>b≤k) False fun v s'=>Sb b s'∧∃(x:X) (n:Nat),v = .c x∧RowK s'.h.get eZ 8 x (mV r) r.length n:=by
 refine lj (rf:=C6) rfl ?_
 unfold C6
 obtain⟨Γ,hΓ⟩ : ∃Γ,Γ=ofL [V.c (.im 10 (o.map rowE)),iV eI] 0 .lf:=⟨_,rfl⟩
 have g0:look Γ 0 = .c (.im 10 (o.map rowE)):=by rw[hΓ];rfl
 have g1:look Γ 1=iV eI:=by rw[hΓ];rfl
 rw[←hΓ]
 try clear G
 clear hΓ
 have hle:=hS.le
 replace G:=bk g0 g1
 refine aJ (aj ?_)
 refine qV ?_
 refine aV ?_
 dsimp only[aY]
 refine fj (fun Γ t=>∃(bo mn:Nat),look Γ 0 = .c (.im 10 (o.map rowE))∧look Γ 1=iV eI∧look Γ 5 = .c (.ptr bo 0)∧Sb b t∧BH b t.h.get false bo mn t.c (.sc cW) [] [] []) ?_ ?_
 ·skip
  replace G:=bk g0 g1
  refine aj ?_
  refine zx rfl (MS.mkmap hS) (fun k hk=>by first | exact False.elim hk | (dsimp only at hk ⊢;omega) | omega) ?_
  refine uK hS ?_
  intro s1 hst1 hsc1 hS1
  have hn1:=hst1.self
  refine eV rfl (by simp only[evS,Nat.reduceEqDiff,reduceIte,PU,bj,scV,bV,iV,cW,isB,isI,iz,kZ,mkV,fill,c5,setAt,List.take_zero,List.take_succ_cons,List.take_nil,List.drop_nil,vk,List.nil_append,List.cons_append,uw,List.length_nil,Nat.reduceAdd,Nat.reduceLeDiff,MY,NJ,eq_self,decide_true,Bool.and_self,ew,G];first | done | rfl) ?_
  refine zx rfl (MS.box hS1 (by simp only[evS,Nat.reduceEqDiff,reduceIte,c5,ew,G];first | done | rfl)) (fun k hk=>by first | exact False.elim hk | (dsimp only at hk ⊢;omega) | omega) ?_
  refine uK hS1 ?_
  intro s2 hst2 hsc2 hS2
  replace hn1:=hst2.at hn1 (by omega)
  have hn2:=hst2.self
  refine qVL ?_
  refine aV ?_
  try dsimp only[aY]
  have hB:BH b s2.h.get false (s.c+1) s.c s2.c (.sc cW) [] [] []:=⟨by rw[←hsc1];exact hn2,.inl ⟨rfl,rfl⟩,hn1,rfl,fun i p n h=>by simp at h,fun i e h=>by simp at h,fun i j n h=>by simp at h,fun i j e f h=>by simp at h,fun i j e f h=>by simp at h,fun i j e f h=>by simp at h,by omega,by omega,hS2.le⟩
  exact⟨s.c+1,s.c,lkL,lkL,by rw[←hsc1];exact lkL,hS2,hB⟩
 try clear G
 clear g0 g1 Γ
 rintro Γ s0 ⟨bo,mn,g0,g1,g5,hS0,hB0⟩
 obtain⟨bF,hbF⟩ : ∃bF,bF=o.foldl gW ⟨[],[]⟩:=⟨_,rfl⟩
 obtain⟨eF,heF⟩ : ∃eF,eF=DW o eI:=⟨_,rfl⟩
 refine fj (fun Γ t=>look Γ 1=iV eF∧look Γ 5 = .c (.ptr bo 0)∧Sb b t∧∃(an:Nat) (xa:X) (po:List Nat) (es:List Ent),BH b t.h.get false bo mn an xa po bF.pcs es∧Bnd es bF.pcs.length∧bF.pcs.length≤1000∧bF.tks=es.map Ent.kt) ?_ ?_
 ·skip
  replace G:=bk g0 (bk g1 g5)
  refine aJ (aj ?_)
  refine qVL ?_
  refine eV rfl (by first | exact xj (by simp only[evS,Nat.reduceEqDiff,reduceIte,ew,G];first | done | rfl) (by assumption) | simp only[evS,Nat.reduceEqDiff,reduceIte,PU,bj,scV,bV,iV,cW,isB,isI,iz,kZ,mkV,ew,G];try rfl) ?_
  refine qVL ?_
  refine aV ?_
  dsimp only[aY]
  refine cX (vK (fun k Γ t=>look Γ 5 = .c (.ptr bo 0)∧look Γ 21 = .c (.im 10 (o.map rowE))∧look Γ 22=iV (o.length:Int)∧Sb b t∧∃(j:Nat) (e:Int) (an:Nat) (xa:X) (po:List Nat) (pcs:List Pc) (es:List Ent),look Γ 1=iV e∧look Γ 23=iV (j:Int)∧j+k=o.length∧(o.drop j).foldl gW ⟨pcs,es.map Ent.kt⟩=bF∧DW (o.drop j) e=eF∧BH b t.h.get false bo mn an xa po pcs es∧Bnd es pcs.length∧pcs.length≤j) o.length ⟨lkL,lkL,lkL,hS0,0,eI,s0.c,.sc cW,[],[],[],lkL,lkL,by omega,hbF.symm,heF.symm,hB0,fun i e h=>by simp at h,mw _⟩ ?_)
  try clear G
  clear g0 g1 g5 hS0 hB0 Γ
  rintro k Γ t ⟨g5,g21,g22,hS1,j,e,an,xa,po,pcs,es,g1,g23,hjk,hfold,hend,hB1,hbd,hpl⟩
  replace G:=bk g1 (bk g5 (bk g21 (bk g22 g23)))
  refine aJ (aj ?_)
  refine qP ?_
  refine aV ?_
  dsimp only[aY]
  by_cases hj:j<o.length
  ·refine aJ (bq (uz lk (by omega)) (eX ?_))
   dsimp only[aY]
   obtain⟨x,hx⟩ : ∃x,o[j]? = some x:=⟨_,cw hj⟩
   have hdrop:o.drop j=x::o.drop (j+1):=by
    rw[List.drop_eq_getElem_cons hj]
    rw[cw hj]at hx
    cases hx;rfl
   rw[hdrop]at hfold hend
   have hrow:(o.map rowE)[j]? = some (rowE x):=by rw[jw,hx];rfl
   have hev:((rowE x).take 10).map imX=evX x:=rfl
   have hle1:=hS1.le
   refine aJ (cX ?_)
   replace G:=bk g1 (bk g5 (bk g21 (bk g22 g23)))
   refine aJ (aj ?_)
   refine eV rfl (by first | exact W1 (by simp only[evS,Nat.reduceEqDiff,reduceIte,G];first | done | rfl) (by simp only[evS,Nat.reduceEqDiff,reduceIte,G];first | done | rfl) (by assumption) | exact Xz (by simp only[evS,Nat.reduceEqDiff,reduceIte,G];first | done | rfl) (by simp only[evS,Nat.reduceEqDiff,reduceIte,G];first | done | rfl) (by first | assumption | omega)) ?_
   refine qA ?_
   refine qM (MS.alloc hS1) ?_
   refine uK hS1 ?_
   intro s3 hst3 hsc3 hS3
   have hn3:=hst3.self
   refine zx rfl (MS.storeA (by simp only[evS,Nat.reduceEqDiff,reduceIte,G];try rfl) (by simp only[evS,Nat.reduceEqDiff,reduceIte,c5,G];first | done | rfl) (by assumption) rfl (by first | rfl | (simp;done) | omega)) (fun k hk=>by first | exact False.elim hk | (dsimp only at hk ⊢;omega) | omega) ?_
   refine rz hS3 (by omega) (by omega) ?_
   intro s4 hst4 hsc4 hS4
   first | replace hn3:=hst4.at hn3 (by omega) | replace hn3:=hst4.self
   refine aV ?_
   dsimp only[aY]
   obtain⟨sB,hsB⟩ : ∃q,q=s4:=⟨_,rfl⟩
   have hnb:s4.h.get t.c=some (.cells f9 (evX x)):=hn3
   have hBb:=hB1.ext (h':=s4.h.get) fun k o hk=>by
    have:=hS1.lt hk
    rw[hst4.keep k (by omega),hst3.keep k (by omega)];exact hk
   have hle4:=hS4.le
   have xc:cut (evX x) 0 10=some (evX x):=rfl
   refine fj (fun Γ t'=>look Γ 1=iV e∧look Γ 5 = .c (.ptr bo 0)∧look Γ 7 = .c (.ptr t.c 0)∧look Γ 21 = .c (.im 10 (o.map rowE))∧look Γ 22=iV (o.length:Int)∧look Γ 23=iV (j:Int)∧Sb b t'∧t'.h.get t.c=some (.cells f9 (evX x))∧∃(an:Nat) (xa:X) (po:List Nat) (pcs2:List Pc) (es2:List Ent),BH b t'.h.get false bo mn an xa po pcs2 es2∧Bnd es2 pcs2.length∧pcs2.length≤pcs.length+1∧gW ⟨pcs,es.map Ent.kt⟩ x=⟨pcs2,es2.map Ent.kt⟩) ?_ ?_
   ·skip
    refine aj ?_
    refine qV ?_
    refine qA ?_
    refine qC (hC:=(aDx hS4 hBb hbd (by omega) x).nd) (h:=?_)
    intro v5 s5 hq5
    obtain⟨hS5,hK5,an2,xa2,po2,pcs2,es2,hB5,hbd5,hl5,he5⟩:=hq5
    refine aV ?_
    try dsimp only[aY]
    exact⟨lk,lk,lk,lk,lk,lk,hS5,hK5.2 _ _ _ hnb rfl,an2,xa2,po2,pcs2,es2,hB5,hbd5,hl5,he5⟩
   try clear G
   clear g1 g5 g21 g22 g23 hnb Γ
   rintro Γ t2 ⟨g1,g5,g7,g21,g22,g23,hS2,hnb,an2,xa2,po2,pcs2,es2,hB2,hbd2,hl2,he2⟩
   have hle2:=hS2.le
   rw[List.foldl_cons,he2]at hfold
   have hend2:DW (o.drop (j+1)) (max e (bZ x.lo))=eF:=hend
   replace G:=bk g1 (bk g5 (bk g7 (bk g21 (bk g22 g23))))
   refine aj ?_
   refine qV ?_
   refine qA ?_
   refine qC (hC:=(atW x hS2).nd) (h:=?_)
   intro v6 s6 hq6
   obtain⟨rfl,hS6,hK6⟩:=hq6
   refine eV rfl (alV (by simp only[evS,Nat.reduceEqDiff,reduceIte,G];try rfl) (by simp only[evS,Nat.reduceEqDiff,reduceIte,G];try rfl)) ?_
   refine qV ?_
   refine aV ?_
   try dsimp only[aY]
   refine aj ?_
   refine qP ?_
   refine qV ?_
   refine aV ?_
   try dsimp only[aY]
   exact⟨k-1,by omega,lk,lk,lk,hS6,j+1,max e (bZ x.lo),an2,xa2,po2,pcs2,es2,lk,lkW lk rfl (by omega),by omega,hfold,hend2,hB2.ext (hK6.ext hS2),hbd2,by omega⟩
  ·skip
   refine aJ (bq (tx (by simp only[evS,Nat.reduceEqDiff,reduceIte,g1,g5,g21,g22,g23];try rfl) (by omega)) (i9 ?_))
   rw[List.drop_eq_nil_of_le (by omega)]at hfold hend
   have h1:bF.pcs=pcs:=by rw[←hfold];rfl
   have h2:bF.tks=es.map Ent.kt:=by rw[←hfold];rfl
   have h3:eF=e:=hend.symm
   rw[h1,h2,h3]
   exact⟨(by simp only[evS,Nat.reduceEqDiff,reduceIte,g1,g5,g21,g22,g23];try rfl),(by simp only[evS,Nat.reduceEqDiff,reduceIte,g1,g5,g21,g22,g23];try rfl),hS1,an,xa,po,es,hB1,hbd,by omega,rfl⟩
 try clear G
 clear g0 g1 g5 hS0 hB0 Γ
 rintro Γ s1 ⟨g1,g5,hS1,an,xa,po,es,hB1,hbd,hl1,htks⟩
 obtain⟨eT,heT⟩ : ∃eT,eT=bZ eF:=⟨_,rfl⟩
 have heT':min (max eF 0) 1000000000000=eT:=heT.symm
 replace G:=bk g1 (bk g5 heT')
 refine aJ (aj ?_)
 refine qV ?_
 refine eV rfl (alV (by simp only[evS,Nat.reduceEqDiff,reduceIte,G];try rfl) (by simp only[evS,Nat.reduceEqDiff,reduceIte,G];try rfl)) ?_
 refine eV rfl (aIz (by simp only[evS,Nat.reduceEqDiff,reduceIte,G];try rfl) (by simp only[evS,Nat.reduceEqDiff,reduceIte,G];try rfl)) ?_
 refine qV ?_
 refine aV ?_
 dsimp only[aY]
 refine fj (fun Γ t=>look Γ 5 = .c (.ptr bo 0)∧Sb b t∧∃(es2:List Ent),BH b t.h.get true bo mn an xa po (lZ bF eT) es2) ?_ ?_
 ·have hbld:=hB1.bld
  have hmap:=hB1.map
  have hle1:=hS1.le
  obtain⟨b1,b2,b3⟩:=hB1.le
  have hml:=hS1.lt hmap
  have cb:([xa,X.mp mn]:List X)[1]? = some (.mp mn):=rfl
  refine aJ (aj ?_)
  refine qV ?_
  refine qP ?_
  refine qP ?_
  refine qL ?_
  refine aQZ hS1 lk hmap b2 ⟨b2,hle1⟩ fun s2 hm2 hi2 hk2 hsc2 hS2=>aV ?_
  dsimp only[aY]
  have hB2:=hB1.flag hm2 fun k o hk hne=>by
   have:=hS1.lt hk
   rw[hk2 k hne (by omega)];exact hk
  have hpcs:bF.pcs=(Bd.mk bF.pcs (es.map Ent.kt)).pcs:=rfl
  refine cX (vK (fun k Γ t=>look Γ 1=iV eT∧look Γ 5 = .c (.ptr bo 0)∧look Γ 42 = .c (.ptr s1.c 0)∧Sb b t∧∃(seen:List Nat) (ps:List Pc) (es2:List Ent),k+seen.length=es.length∧seen.Nodup∧(∀i∈seen,i<es.length)∧t.h.get s1.c=some (.iter mn es.length seen)∧BH b t.h.get true bo mn an xa po ps es2∧es2.map CW=es.map CW∧(∀i,i∉seen→es2[i]? = es[i]?)∧ClS es bF.pcs eT seen ps) es.length ⟨lk,lk,lk,hS2,[],bF.pcs,es,by simp,List.nodup_nil,fun i hi=>by simp at hi,by rw[←ew (f:=CW)];exact hi2,hB2,rfl,fun _ _=>rfl,ClS.start _ _ _⟩ ?_)
  try clear G
  clear g1 g5 hS1 hB1 hB2 hm2 hi2 hk2 hS2 hbld hmap Γ
  rintro k Γ t ⟨g1,g5,g42,hS2,seen,ps,es2,hks,hnd,hsb,hit,hB2,hes2,hun,hcl⟩
  have hel:(es.map CW).length=es.length:=ew _
  have hmp:=hB2.map
  rw[hes2]at hmp
  rw[←hel]at hit
  refine aJ (aj ?_)
  refine aRz (es:=es.map CW) (m:=mn) (seen:=seen) g42 hit hmp ⟨by omega,b2⟩ (fun hall=>?_) (fun ix q hni hq=>?_)
  ·refine eV rfl (aSq (by simp only[evS,reduceIte];rfl) rfl) (aV ?_)
   dsimp only[aY]
   refine aJ (bq (t:=false) (by simp only[evS,reduceIte];rfl) (i9 ?_))
   have hdone:=hcl.done fun i hi=>hall i (by rw[hel];exact hi)
   rw[←htks]at hdone
   refine⟨?_,hS2,es2,?_⟩
   ·simp only[evS,Nat.reduceEqDiff,reduceIte,g5]
   ·have:lZ bF eT=ps:=hdone.symm
    rw[this];exact hB2
  ·have hil:ix<es.length:=by
    have:=(bw.1 hq).1
    rw[hel]at this;exact this
   obtain⟨e,he⟩ : ∃e,es[ix]? = some e:=⟨_,cw hil⟩
   have hqe:q=CW e:=by
    rw[jw,he]at hq
    exact(Option.some.inj hq).symm
   have he2:es2[ix]? = some e:=by rw[hun ix hni];exact he
   have hlec:=hS2.lt hit
   refine rz hS2 hle1 hlec fun u hut huc hU=>?_
   refine eV rfl (aSq (by simp only[evS,reduceIte];rfl) rfl) (aV ?_)
   dsimp only[aY]
   refine aJ (bq (t:=true) (by simp only[evS,reduceIte];rfl) (eX ?_))
   dsimp only[aY]
   have hne:s1.c≠mn:=by omega
   have hmpu:u.h.get mn=some (.map (.int .i64) true (es.map CW)):=(hut.keep mn (by omega)).trans hmp
   have hBu:BH b u.h.get true bo mn an xa po ps es2:=hB2.extI fun k o hk ho=>by
    rw[hut.keep k (fun e=>by rw[e,hit]at hk;cases hk;cases ho)];exact hk
   refine cX (aJ (aj ?_))
   refine aQV (n:=s1.c) (m:=mn) (i:=ix) (seen:=seen) (es:=es.map CW) (by simp only[evS,Nat.reduceEqDiff,reduceIte,g42]) hut.self hmpu hq ⟨hle1,b2⟩ ?_
   refine eV rfl (aSq (by simp only[evS,reduceIte];rfl) (by subst hqe;rfl)) ?_
   refine eV rfl (pmv (v:=.c (.ptr e.n 0)) (by simp only[evS,reduceIte];try rfl)) (aV ?_)
   dsimp only[aY]
   have hlps:=hcl.len
   have hbe:=hbd ix e he
   refine cX (vK (fun k2 Γ t'=>look Γ 1=iV eT∧look Γ 5 = .c (.ptr bo 0)∧look Γ 9 = .c (.ptr e.n 0)∧look Γ 42 = .c (.ptr s1.c 0)∧∃(ps':List Pc) (e':Ent),Sb b t'∧BH b t'.h.get true bo mn an xa po ps' (es2.set ix e')∧e'.n=e.n∧e'.key=e.key∧k2=e'.tk.opn.length∧sV ps' e'.tk.opn eT=sV ps e.tk.opn eT∧ps'.length=bF.pcs.length∧(∀j∈e'.tk.opn,j<bF.pcs.length)∧e'.tk.opn.length≤1000∧t'.h.get s1.c=some (.iter mn es.length (seen++[ix]))) e.tk.opn.length ⟨by simp only[evS,Nat.reduceEqDiff,reduceIte,g1],by simp only[evS,Nat.reduceEqDiff,reduceIte,g5],by simp only[evS,Nat.reduceEqDiff,reduceIte],by simp only[evS,Nat.reduceEqDiff,reduceIte,g42],ps,e,hU,by rw[NK he2];exact hBu,rfl,rfl,rfl,rfl,hlps,hbe.2,by omega,by rw[←hel];exact hut.self⟩ ?_)
   try clear G
   clear g1 g5 g42 hut hU hBu hmpu hB2 hS2 hit hmp Γ
   rintro k2 Γ t' ⟨g1,g5,g9,g42,ps',e',hS3,hB3,hn',hkey',hk2',hend',hlen',hin',hsz',hit'⟩
   obtain⟨_,htr,hrow,_⟩:=hB3.tk ix e' (rK he2)
   have e0:([e'.xo,iX e'.tk.ex,iX e'.tk.la]:List X)[0]? = some e'.xo:=rfl
   have hle3:=hS3.le
   rw[←hn']at g9
   refine aJ ?_
   replace G:=bk g1 (bk g5 (bk g9 g42))
   refine aJ (aj ?_)
   refine qVL ?_
   refine qPL ?_
   refine qPL ?_
   refine qLL ?_
   refine eV rfl (by first | exact xj (by simp only[evS,Nat.reduceEqDiff,reduceIte,ew,G];first | done | rfl) (by assumption) | simp only[evS,Nat.reduceEqDiff,reduceIte,PU,bj,scV,bV,iV,cW,isB,isI,iz,kZ,mkV,ew,G];try rfl) ?_
   refine qPL ?_
   refine aV ?_
   dsimp only[aY]
   by_cases hpos:0<e'.tk.opn.length
   ·refine bq (uz lkL (by omega)) (eX ?_)
    dsimp only[aY]
    refine cX ?_
    refine aj ?_
    refine qVL ?_
    refine qVL ?_
    refine qVL ?_
    refine qCL (hC:=(anW hS3 hB3 (rK he2) (by rw[hlen'];exact hin') (by omega) eT true).nd) (h:=?_)
    intro v7 s7 hq7
    obtain⟨hS4,hK4,e4,hB4,hk4,hn4,ht4⟩:=hq7
    refine aV ?_
    try dsimp only[aY]
    obtain⟨j,hj⟩ : ∃j,e'.tk.opn.getLast? = some j:=by
     cases hg:e'.tk.opn.getLast? with
     | none=>rw[List.getLast?_eq_none_iff.1 hg]at hpos;simp at hpos
     | some j=>exact⟨j,rfl⟩
    have hdl:=xY hj
    have hll:e'.tk.opn.length=e'.tk.opn.dropLast.length+1:=by
     have:=congrArg List.length hdl
     simp only[dw,List.length_singleton]at this
     exact this
    have hendl:IJ ps' e'.tk.opn eT true=(D5 ps' j eT true,e'.tk.opn.dropLast):=by simp only[IJ,hj]
    rw[hendl]at hB4 ht4
    rw[List.set_set]at hB4
    refine⟨e'.tk.opn.dropLast.length,by omega,(by simp only[evS,Nat.reduceEqDiff,reduceIte,g1,g5,g9,g42,ew];try rfl),(by simp only[evS,Nat.reduceEqDiff,reduceIte,g1,g5,g9,g42,ew];try rfl),by rw[←hn'];exact(by simp only[evS,Nat.reduceEqDiff,reduceIte,g1,g5,g9,g42,ew];try rfl),(by simp only[evS,Nat.reduceEqDiff,reduceIte,g1,g5,g9,g42,ew];try rfl),_,e4,hS4,hB4,hn4.trans hn',hk4.trans hkey',by rw[ht4],?_,by rw[Ix];exact hlen',fun k hk=>hin' k ?_,by rw[ht4];show e'.tk.opn.dropLast.length≤_;omega,hK4.2 _ _ hit' fun t cs e=>by cases e⟩
    ·rw[←hend',ht4]
     conv=>rhs;rw[hdl]
     rw[aaj]
    ·rw[ht4]at hk
     exact(i5 hj).2 (.inl hk)
   ·skip
    refine bq (tx (by simp only[evS,Nat.reduceEqDiff,reduceIte,g1,g5,g9,g42,ew];try rfl) (by omega)) (i9 ?_)
    have ho:e'.tk.opn=[]:=fk (by omega)
    have hps:ps'=sV ps (opA es ix) eT:=by
     unfold opA
     rw[he]
     show ps'=sV ps e.tk.opn eT
     rw[←hend',ho]
     rfl
    have hsl2:seen.length<es.length:=by
     have h1:=Yz es.length (ix::seen) (List.nodup_cons.2 ⟨hni,hnd⟩) fun j hj=>by
      rcases List.mem_cons.1 hj with rfl | hj
      ·exact hil
      ·exact hsb j hj
     rw[uw]at h1;omega
    refine⟨k-1,by omega,(by simp only[evS,Nat.reduceEqDiff,reduceIte,g1,g5,g9,g42,ew];try rfl),(by simp only[evS,Nat.reduceEqDiff,reduceIte,g1,g5,g9,g42,ew];try rfl),(by simp only[evS,Nat.reduceEqDiff,reduceIte,g1,g5,g9,g42,ew];try rfl),hS3,seen++[ix],ps',es2.set ix e',by rw[dw];simp only[List.length_singleton];omega,?_,fun j hj=>?_,hit',hB3,?_,fun i hi=>?_,by rw[hps];exact hcl.step ix⟩
    ·rw[List.nodup_append]
     exact⟨hnd,by simp,fun a ha c hc=>by rw[fw.1 hc];intro e;exact hni (e▸ha)⟩
    ·rcases ow.1 hj with hj | hj
     ·exact hsb j hj
     ·rw[fw.1 hj];exact hil
    ·rw[List.map_set,←hes2]
     apply NK
     rw[jw,he2]
     simp only[qw,CW,hn',hkey']
    ·rw[ow,fw,not_or]at hi
     rw[kw,if_neg (fun e=>hi.2 e.symm)]
     exact hun i hi.1
 try clear G
 clear g1 g5 hB1 Γ
 rintro Γ s2 ⟨g5,hS2,es2,hB2⟩
 obtain⟨pcs,hpcs⟩ : ∃pcs,pcs=lZ bF eT:=⟨_,rfl⟩
 rw[←hpcs]at hB2
 unfold ofF at hF
 simp only[←hbF,←heF,←heT,←hpcs]at hF
 obtain⟨K,hK,hF⟩:=ak.1 hF
 obtain⟨⟨plF,rF⟩,hfold,hF⟩:=aw.1 hF
 subst hF
 have hlp:pcs.length≤1000:=by
  have hc:∀(l:List (Int×Tk)) (ps:List Pc),(l.foldl (fun ps t=>sV ps t.2.opn eT) ps).length=ps.length:=by
   intro l
   induction l with
   | nil=>intro ps;rfl
   | cons a l ih=>intro ps;rw[List.foldl_cons,ih,H5]
  rw[hpcs]
  unfold lZ
  rw[hc]
  exact hl1
 try clear G
 clear hpcs hl1 hbd htks heT heT' heF hbF
 have hlen:=hB2.len
 have hle2:=hS2.le
 obtain⟨b1,b2,b3⟩:=hB2.le
 obtain⟨enc,henc⟩ : ∃enc:Nat→X,enc=fun k=>WW ((po[k]?).getD 0):=⟨_,rfl⟩
 have encE:∀(k n:Nat),po[k]? = some n→enc k = .ptr n 0:=fun k n h=>by rw[henc];simp only[h];rfl
 obtain⟨kp,hkp⟩ : ∃kp:Nat→Bool,kp=fun k=>match pcs[k]? with
  | some p=>decide (p.fr<p.to)
  | none=>false:=⟨_,rfl⟩
 have hkeptF:n4 pcs=(List.range pcs.length).filter kp:=by rw[hkp];rfl
 replace G:=g5
 refine aJ (aj ?_)
 refine qV ?_
 refine aV ?_
 dsimp only[aY]
 refine fj (fun Γ t=>look Γ 5 = .c (.ptr bo 0)∧Sb b t∧KeepS s2 t∧∃(xk:X) (nk:Nat),look Γ 10 = .c xk∧RowE t.h.get aK xk ((n4 pcs).map enc) nk∧s2.c≤nk) ?_ ?_
 ·have hbld:=hB2.bld
  have hall:=hB2.all
  have cb:([xa,X.mp mn]:List X)[0]? = some xa:=rfl
  replace G:=g5
  refine aJ (aj ?_)
  refine qVL ?_
  refine qPL ?_
  refine qPL ?_
  refine qLL ?_
  refine eV rfl (by first | exact xj (by simp only[evS,Nat.reduceEqDiff,reduceIte,ew,G];first | done | rfl) (by assumption) | simp only[evS,Nat.reduceEqDiff,reduceIte,PU,bj,scV,bV,iV,cW,isB,isI,iz,kZ,mkV,ew,G];try rfl) ?_
  refine qVL ?_
  refine aV ?_
  dsimp only[aY]
  refine cX (vK (fun k Γ t=>look Γ 5 = .c (.ptr bo 0)∧look Γ 60 = .c xa∧look Γ 61=iV (po.length:Int)∧Sb b t∧KeepS s2 t∧∃(j:Nat) (xk:X) (nk:Nat),look Γ 62=iV (j:Int)∧j+k=po.length∧look Γ 10 = .c xk∧RowE t.h.get aK xk (((List.range j).filter kp).map enc) nk∧s2.c≤nk) po.length ⟨lkL,lkL,lkL,hS2,KeepS.refl _,0,.sc cW,s2.c,lkL,by omega,lkL,.inl ⟨rfl,rfl⟩,mw _⟩ ?_)
  try clear G
  clear g5 hbld hall Γ
  rintro k Γ t ⟨g5,g60,g61,hSt,hKt,j,xk,nk,g62,hjk,g10,hrow,hnk⟩
  have hBt:=hB2.ext (hKt.ext hS2)
  have hct:=hKt.1
  have hlet:=hSt.le
  replace G:=bk g5 (bk g60 (bk g61 (bk g62 g10)))
  refine aJ (aj ?_)
  refine qP ?_
  refine aV ?_
  dsimp only[aY]
  by_cases hj:j<po.length
  ·refine aJ (bq (uz lk (by omega)) (eX ?_))
   dsimp only[aY]
   obtain⟨n,hn⟩ : ∃n,po[j]? = some n:=⟨_,cw hj⟩
   obtain⟨p,hp⟩ : ∃p,pcs[j]? = some p:=⟨_,cw (by omega)⟩
   obtain⟨hbn,cc,hpc⟩:=hBt.pc j p n hp hn
   obtain⟨har,rest,hall⟩ : xa = .sl an 1 0 po.length∧∃rest,t.h.get an=some (.cells aK (po.map WW++rest)):=by
    rcases hBt.all with⟨_,h2⟩ | ⟨h1,r,h2⟩
    ·have:po=[]:=List.map_eq_nil_iff.1 h2
     rw[this]at hn;cases hn
    ·rw[ew]at h1;exact⟨h1,r,h2⟩
   have ca:(po.map WW++rest)[j]? = some (.ptr n 0):=by
    rw[lw (by rw[ew];exact hj),jw,hn];rfl
   have q4:(pcX p j cc)[4]? = some (.sc (.int .i64 p.fr)):=rfl
   have q5:(pcX p j cc)[5]? = some (.sc (.int .i64 p.to)):=rfl
   have hkpj:kp j=decide (p.fr<p.to):=by rw[hkp];simp only[hp]
   have hfil:(List.range (j+1)).filter kp=(List.range j).filter kp++if kp j then[j]else[]:=by
    rw[List.range_succ,List.filter_append]
    congr 1
    cases h:kp j<;>simp[h]
   refine fj (fun Γ t'=>look Γ 5 = .c (.ptr bo 0)∧look Γ 60 = .c xa∧look Γ 61=iV (po.length:Int)∧look Γ 62=iV (j:Int)∧Sb b t'∧KeepS s2 t'∧∃(xk:X) (nk:Nat),look Γ 10 = .c xk∧RowE t'.h.get aK xk (((List.range (j+1)).filter kp).map enc) nk∧s2.c≤nk) (cX ?_) ?_
   ·rw[har]at g60
    replace G:=bk g5 (bk g60 (bk g61 (bk g62 g10)))
    refine aJ (aj ?_)
    refine qX ?_
    refine qL ?_
    refine qV ?_
    refine aV ?_
    dsimp only[aY]
    refine aJ (kj rfl ?_)
    refine rV ?_
    refine rP ?_
    refine rP ?_
    refine rP ?_
    refine rP ?_
    refine tQ rfl (by first | exact MS.load1 (by simp only[evS,Nat.reduceEqDiff,reduceIte,G];first | done | rfl) (by assumption) (by first | rfl | assumption | (simp only[kw,jw,G];done) | simp) | exact MS.loadI1 (by simp only[evS,Nat.reduceEqDiff,reduceIte,G];first | done | rfl) | exact MS.loadI2 (by simp only[evS,Nat.reduceEqDiff,reduceIte,G];first | done | rfl)) (fun k hk=>by first | exact False.elim hk | (dsimp only at hk ⊢;omega) | omega) (fun x hx=>by simp at hx) ?_
    refine rV ?_
    refine rP ?_
    refine rP ?_
    refine rP ?_
    refine rP ?_
    refine rL ?_
    refine rP ?_
    refine oq ?_
    dsimp only[aY]
    by_cases hlt:p.fr<p.to
    ·refine bq (uz lk hlt) ?_
     have hll:((List.range j).filter kp).length≤j:=Nat.le_trans (List.length_filter_le ..) (by rw[List.length_range];exact mw _)
     have hroom:rY 8 ((((List.range j).filter kp).map enc).length+1)=true:=aAJ (by rw[ew];omega)
     have hbk:b≤nk:=by omega
     refine aj ?_
     refine qV ?_
     refine qV ?_
     refine qM (MS.bsl1 hSt (by simp only[evS,Nat.reduceEqDiff,reduceIte,G];try rfl)) ?_
     refine uK hSt ?_
     intro s8 hst8 hsc8 hS8
     have hn8:=hst8.self
     replace hrow:=hrow.keep fun o ho=>hst8.keep _ (by have:=hSt.lt ho;omega)
     refine atX rfl hS8 (by simp only[evS,Nat.reduceEqDiff,reduceIte,G];first | done | rfl) hrow.toP (by omega) (by simp only[evS,Nat.reduceEqDiff,reduceIte,G];try rfl) (by assumption) (by first | assumption | rfl) (fun k hk=>by first | exact False.elim hk | (dsimp only at hk ⊢;omega) | omega) ?_
     intro s9 hst9 hS9
     have hsa9:=hst9.c
     first | replace hn8:=(hst9.keep _ (RowP.nil_of hrow.toP hn8 (by decide)) (by omega)).trans hn8 | clear hn8
     have hn9:=hst9.self
     refine qV ?_
     refine aV ?_
     try dsimp only[aY]
     have hKt2:KeepS s2 s9:=⟨by omega,fun k hk=>by rw[hst9.keep k (fun e=>by omega) (by omega),hst8.keep k (by omega)];exact hKt.2 k hk⟩
     refine⟨lk,by rw[har];exact lk,lk,lk,hS9,hKt2,_,s8.c,lk,.inr ⟨?_,?_⟩,by omega⟩
     ·rw[hfil,hkpj,decide_eq_true hlt];simp
     ·rw[hn9,hfil,hkpj,decide_eq_true hlt];simp[encE j n hn]
    ·skip
     refine bq (tx (by simp only[evS,Nat.reduceEqDiff,reduceIte,g5,g60,g61,g62,g10];try rfl) hlt) (eX ?_)
     have hfe:(List.range (j+1)).filter kp=(List.range j).filter kp:=by rw[hfil,hkpj,xw hlt];simp
     exact⟨(by simp only[evS,Nat.reduceEqDiff,reduceIte,g5,g60,g61,g62,g10];try rfl),by rw[har];exact(by simp only[evS,Nat.reduceEqDiff,reduceIte,g5,g60,g61,g62,g10];try rfl),(by simp only[evS,Nat.reduceEqDiff,reduceIte,g5,g60,g61,g62,g10];try rfl),(by simp only[evS,Nat.reduceEqDiff,reduceIte,g5,g60,g61,g62,g10];try rfl),hSt,hKt,xk,nk,(by simp only[evS,Nat.reduceEqDiff,reduceIte,g5,g60,g61,g62,g10];try rfl),by rw[hfe];exact hrow,hnk⟩
   ·try clear G
    clear g5 g60 g61 g62 g10 Γ
    rintro Γ t' ⟨g5,g60,g61,g62,hS3,hK3,xk3,nk3,g10,hrow3,hnk3⟩
    replace G:=bk g5 (bk g60 (bk g61 (bk g62 g10)))
    refine aj ?_
    refine qP ?_
    refine qV ?_
    refine aV ?_
    try dsimp only[aY]
    exact⟨k-1,by omega,lk,lk,lk,hS3,hK3,j+1,xk3,nk3,lkW lk rfl (by omega),by omega,lk,hrow3,hnk3⟩
  ·skip
   refine aJ (bq (tx (by simp only[evS,Nat.reduceEqDiff,reduceIte,g5,g60,g61,g62,g10];try rfl) (by omega)) (i9 ?_))
   have hje:j=pcs.length:=by omega
   refine⟨(by simp only[evS,Nat.reduceEqDiff,reduceIte,g5,g60,g61,g62,g10];try rfl),hSt,hKt,xk,nk,(by simp only[evS,Nat.reduceEqDiff,reduceIte,g5,g60,g61,g62,g10];try rfl),?_,hnk⟩
   rw[hkeptF,←hje];exact hrow
 try clear G
 clear g5 Γ
 rintro Γ t3 ⟨g5,hS3,hK3,xk,nk,g10,hrow3,hnk3⟩
 have hkl:(n4 pcs).length≤pcs.length:=by
  rw[hkeptF]
  exact Nat.le_trans (List.length_filter_le ..) (by rw[List.length_range];exact mw _)
 have hdom:∀k∈n4 pcs,k<pcs.length:=fun k hk=>by
  obtain⟨p,hp,_⟩:=aVj.1 hk
  exact(bw.1 hp).1
 refine fj (fun Γ t=>look Γ 5 = .c (.ptr bo 0)∧look Γ 10 = .c xk∧Sb b t∧KeepS s2 t∧RowE t.h.get aK xk (K.map enc) nk∧Fit (n4 pcs) K) ?_ ?_
 ·rcases hrow3 with⟨hx,hnil⟩ | ⟨hx,hm⟩
  ·have hk0:n4 pcs=[]:=List.map_eq_nil_iff.1 hnil
   have hK0:K=[]:=by
    rw[hk0]at hK
    have:=aDj (amZ pcs)
    have hK:KX (amZ pcs) [] 0=some K:=hK
    rw[this]at hK
    exact(Option.some.inj hK).symm
   rw[hx]at g10
   replace G:=bk g5 g10
   refine aj ?_
   refine qV ?_
   refine qC (hC:=(amK _ _).nd) (h:=?_)
   intro v10 s10 hq10
   obtain rfl:=hq10
   refine aV ?_
   try dsimp only[aY]
   exact⟨lk,by rw[hx];exact lk,hS3,hK3,.inl ⟨hx,by rw[hK0];rfl⟩,by rw[hk0,hK0];exact Fit.refl _⟩
  ·rw[ew]at hx
   have hc:CmpOk orc b nk AK [] enc (amZ pcs) (fun k=>k<pcs.length) t3:=by
    intro s' b' x y r hb hSb hle' hkeep hx hy hr
    obtain⟨p,hp⟩ : ∃p,pcs[x]? = some p:=⟨_,cw hx⟩
    obtain⟨q,hq⟩ : ∃p,pcs[y]? = some p:=⟨_,cw hy⟩
    obtain⟨n,hn⟩ : ∃n,po[x]? = some n:=⟨_,cw (by omega)⟩
    obtain⟨n2,hn2⟩ : ∃n,po[y]? = some n:=⟨_,cw (by omega)⟩
    obtain⟨h1,c1,h2⟩:=hB2.pc x p n hp hn
    obtain⟨h3,c3,h4⟩:=hB2.pc y q n2 hq hn2
    have l1:=hS2.lt h2
    have l2:=hS2.lt h4
    have k1:=hK3.1
    have hr2:r=akJ p q:=by
     unfold amZ at hr
     rw[uY hp,uY hq]at hr
     exact(Option.some.inj hr).symm
    rw[encE x n hn,encE y n2 hn2,hr2]
    exact aRV hSb ((hkeep n (by omega) (by omega)).trans ((hK3.2 n l1).trans h2)) ((hkeep n2 (by omega) (by omega)).trans ((hK3.2 n2 l2).trans h4)) hb h1 h3
   rw[hx]at g10
   have hbk:b≤nk:=by omega
   replace G:=bk g5 g10
   refine aj ?_
   refine qV ?_
   refine qC (hC:=(aOj hS3 hbk hm hc hdom hK).nd) (h:=?_)
   intro v11 s11 hq11
   obtain⟨hA,hfit⟩:=hq11
   refine aV ?_
   try dsimp only[aY]
   refine⟨lk,by rw[hx];exact lk,hA.sb,⟨Nat.le_trans hK3.1 hA.le,fun k hk=>(hA.keep k (by have:=hK3.1;omega) (by omega)).trans (hK3.2 k hk)⟩,.inr ⟨by rw[hx,ew,hfit.1],hA.self⟩,hfit⟩
 have hbnk:b≤nk:=by omega
 try clear G
 clear g5 g10 hS3 hK3 hrow3 hnk3 Γ
 rintro Γ t4 ⟨g5,g10,hS4,hK4,hrow4,hfit⟩
 have hKd:∀k∈K,k<pcs.length:=fun k hk=>hdom k (hfit.2 k hk)
 have hKl:K.length≤1000:=by have:=hfit.1;omega
 have hle4:=hS4.le
 have hc4:=hK4.1
 replace G:=bk g5 g10
 refine aJ (aj ?_)
 refine zx rfl (MS.mkmap hS4) (fun k hk=>by first | exact False.elim hk | (dsimp only at hk ⊢;omega) | omega) ?_
 refine uK hS4 ?_
 intro s12 hst12 hsc12 hS12
 have hn12:=hst12.self
 refine zx rfl (MS.mupd (by simp only[evS,Nat.reduceEqDiff,reduceIte,G];try rfl) (by simp only[evS,Nat.reduceEqDiff,reduceIte,D8,G];rfl) (by assumption) rfl (by simp only[evS,Nat.reduceEqDiff,reduceIte,kK,G];first | done | rfl)) (fun k hk=>by first | exact False.elim hk | (dsimp only at hk ⊢;omega) | omega) ?_
 refine rz hS12 (by omega) (by omega) ?_
 intro s13 hst13 hsc13 hS13
 first | replace hn12:=hst13.at hn12 (by omega) | replace hn12:=hst13.self
 refine qV ?_
 refine qV ?_
 refine aV ?_
 dsimp only[aY]
 simp only[evS,Nat.reduceEqDiff,reduceIte]at hn12
 have hpm:s13.h.get t4.c=some (.map (.int .i64) false ([(-1,-1)].map plV)):=hn12
 have hKs:KeepS s2 s13:=⟨by omega,fun k hk=>by rw[hst13.keep k (by omega),hst12.keep k (by omega)];exact hK4.2 k hk⟩
 have hrow13:RowE s13.h.get aK xk (K.map enc) nk:=hrow4.keep fun o ho=>by
  have:=hS4.lt ho
  rw[hst13.keep nk (by omega),hst12.keep nk (by omega)]
 refine aJ (aj ?_)
 refine qV ?_
 refine aV ?_
 dsimp only[aY]
 refine fj (fun Γ t=>Sb b t∧∃(x:X) (n:Nat),look Γ 14 = .c x∧RowK t.h.get eZ 8 x (mV rF) rF.length n) ?_ ?_
 ·obtain⟨pm,hpme⟩ : ∃pm,pm=t4.c:=⟨_,rfl⟩
  have hlenK:look Γ 10 = .c xk:=g10
  refine fj (fun Γ t=>t=s13∧look Γ 5 = .c (.ptr bo 0)∧look Γ 13 = .c (.mp pm)∧look Γ 14 = .c (.sc cW)∧look Γ 88 = .c xk∧look Γ 89=iV (K.length:Int)∧look Γ 90=iV 0) ?_ ?_
  ·skip
   have hrowP:=hrow13.toP
   replace G:=bk g5 g10
   refine aj ?_
   refine qVL ?_
   refine eV rfl (by first | exact xj (by simp only[evS,Nat.reduceEqDiff,reduceIte,ew,G];first | done | rfl) (by assumption) | simp only[evS,Nat.reduceEqDiff,reduceIte,PU,bj,scV,bV,iV,cW,isB,isI,iz,kZ,mkV,ew,G];try rfl) ?_
   refine qVL ?_
   refine aV ?_
   try dsimp only[aY]
   exact⟨rfl,lkL,by rw[hpme];exact lkL,lkL,lkL,lkL,lkL⟩
  try clear G
  clear g5 g10 hlenK hst12 hst13 Γ
  rintro Γ _ ⟨rfl,g5,g13,g14,g88,g89,g90⟩
  rw[←hpme]at hpm
  have hpm2:s2.c≤pm:=by omega
  refine cX (vK (fun k Γ t=>look Γ 5 = .c (.ptr bo 0)∧look Γ 13 = .c (.mp pm)∧look Γ 88 = .c xk∧look Γ 89=iV (K.length:Int)∧Sb b t∧KeepS s2 t∧RowE t.h.get aK xk (K.map enc) nk∧∃(i:Nat) (pl:List (Int×Int)) (out:List Sl8) (xo:X) (no:Nat),look Γ 90=iV (i:Int)∧i+k=K.length∧(K.drop i).foldlM (aaZ pcs) (pl,out)=some (plF,rF)∧out.length=i∧t.h.get pm=some (.map (.int .i64) false (pl.map plV))∧look Γ 14 = .c xo∧RowK t.h.get eZ 8 xo (mV out) out.length no∧b≤no∧(xo ≠ .sc cW→s2.c≤no)) K.length ⟨g5,g13,g88,g89,hS13,hKs,hrow13,0,[(-1,-1)],[],.sc cW,b,g90,by omega,hfold,rfl,hpm,g14,⟨rfl,.inl ⟨rfl,rfl⟩⟩,mw _,fun h=>absurd rfl h⟩ ?_)
  try clear G
  clear g5 g13 g14 g88 g89 g90 hpm hKs hrow13 hS13 hS4 hfold Γ
  rintro k Γ t ⟨g5,g13,g88,g89,hSt,hKt,hrowK,i,pl,out,xo,no,g90,hik,hfold,hol2,hpm,g14,hrowO,hbno,hnoc⟩
  have hBt:=hB2.ext (hKt.ext hS2)
  have hct:=hKt.1
  have hlet:=hSt.le
  have hpml:=hSt.lt hpm
  have hpmt:=hpm
  have nem:∀k tt cs,t.h.get k=some (.cells tt cs)→k≠pm:=fun k tt cs hk e=>by rw[e,hpmt]at hk;cases hk
  replace G:=bk g5 (bk g13 (bk g88 (bk g89 (bk g90 g14))))
  refine aJ (aj ?_)
  refine qP ?_
  refine aV ?_
  dsimp only[aY]
  by_cases hi:i<K.length
  ·refine aJ (bq (uz lk (by omega)) (eX ?_))
   dsimp only[aY]
   obtain⟨kk,hkk⟩ : ∃kk,K[i]? = some kk:=⟨_,cw hi⟩
   have hkd:=hKd kk (nw hkk)
   have hdrop:K.drop i=kk::K.drop (i+1):=by
    rw[List.drop_eq_getElem_cons hi]
    rw[cw hi]at hkk
    cases hkk;rfl
   rw[hdrop,List.foldlM_cons]at hfold
   obtain⟨⟨pl2,out2⟩,hstep,hfold⟩:=ak.1 hfold
   obtain⟨p,hp⟩ : ∃p,pcs[kk]? = some p:=⟨_,cw hkd⟩
   obtain⟨n,hn⟩ : ∃n,po[kk]? = some n:=⟨_,cw (by omega)⟩
   obtain⟨hbn,cc,hpc⟩:=hBt.pc kk p n hp hn
   unfold aaZ at hstep
   rw[hp,dk]at hstep
   simp only at hstep
   obtain⟨np,hnp,hstep⟩:=ak.1 hstep
   obtain⟨hxk,hkarr⟩ : xk = .sl nk 1 0 K.length∧t.h.get nk=some (.cells aK (K.map enc)):=by
    rcases hrowK with⟨_,h2⟩ | ⟨h1,h2⟩
    ·rw[List.map_eq_nil_iff.1 h2]at hi;simp at hi
    ·rw[ew]at h1;exact⟨h1,h2⟩
   have ck:(K.map enc)[i]? = some (.ptr n 0):=by rw[jw,hkk,←encE kk n hn];rfl
   rw[hxk]at g88
   have p8:(pcX p kk cc)[8]? = some (nX kk):=rfl
   have pc8:cut (pcX p kk cc) 0 8=some (slX p 0 0 0):=rfl
   have nep:n≠pm:=fun e=>by rw[e,hpm]at hpc;cases hpc
   have hpcl:=hSt.lt hpc
   rw[hol2]at hstep
   refine fj (fun Γ t'=>look Γ 5 = .c (.ptr bo 0)∧look Γ 13 = .c (.mp pm)∧look Γ 88 = .c xk∧look Γ 89=iV (K.length:Int)∧look Γ 90=iV (i:Int)∧Sb b t'∧KeepS s2 t'∧RowE t'.h.get aK xk (K.map enc) nk∧t'.h.get pm=some (.map (.int .i64) false (pl2.map plV))∧∃(xo:X) (no:Nat),look Γ 14 = .c xo∧RowK t'.h.get eZ 8 xo (mV out2) out2.length no∧b≤no∧(xo ≠ .sc cW→s2.c≤no)∧out2.length=i+1) (cX ?_) ?_
   ·skip
    replace G:=bk g5 (bk g13 (bk g88 (bk g89 (bk g90 g14))))
    refine aJ (aj ?_)
    refine qV ?_
    refine qX ?_
    refine qL ?_
    refine qV ?_
    refine qV ?_
    refine aV ?_
    dsimp only[aY]
    refine aJ (aj ?_)
    refine qV ?_
    refine qV ?_
    refine qP ?_
    refine qP ?_
    refine qL ?_
    refine qV ?_
    refine zx rfl (MS.mupd (by simp only[evS,Nat.reduceEqDiff,reduceIte,G];try rfl) (by simp only[evS,Nat.reduceEqDiff,reduceIte,D8,G];rfl) (by assumption) rfl (by simp only[evS,Nat.reduceEqDiff,reduceIte,kK,G];first | done | rfl)) (fun k hk=>by first | exact False.elim hk | (dsimp only at hk ⊢;omega) | omega) ?_
    refine rz hSt (by omega) (by omega) ?_
    intro s14 hst14 hsc14 hS14
    first | replace hpm:=hst14.at hpm (by omega) | replace hpm:=hst14.self
    first | replace hpc:=hst14.at hpc (by omega) | replace hpc:=hst14.self
    refine aV ?_
    dsimp only[aY]
    simp only[evS,Nat.reduceEqDiff,reduceIte,g90]at hpm
    rw[aFz]at hpm
    obtain⟨pl',hpl'⟩ : ∃q,q=BX (kk:Int) (i:Int) pl:=⟨_,rfl⟩
    rw[←hpl']at hpm hstep
    replace G:=bk g5 (bk g13 (bk g88 (bk g89 (bk g90 g14))))
    refine aJ (aj ?_)
    refine qV ?_
    refine qP ?_
    refine qP ?_
    refine qA ?_
    refine qM (MS.alloc hS14) ?_
    refine uK hS14 ?_
    intro s15 hst15 hsc15 hS15
    replace hpm:=hst15.at hpm (by omega)
    replace hpc:=hst15.at hpc (by omega)
    have hn15:=hst15.self
    refine zx rfl (MS.storeA (by simp only[evS,Nat.reduceEqDiff,reduceIte,G];try rfl) (by simp only[evS,Nat.reduceEqDiff,reduceIte,c5,G];first | done | rfl) (by assumption) rfl (by first | rfl | (simp;done) | omega)) (fun k hk=>by first | exact False.elim hk | (dsimp only at hk ⊢;omega) | omega) ?_
    refine rz hS15 (by omega) (by omega) ?_
    intro s16 hst16 hsc16 hS16
    first | replace hpm:=hst16.at hpm (by omega) | replace hpm:=hst16.self
    first | replace hpc:=hst16.at hpc (by omega) | replace hpc:=hst16.self
    first | replace hn15:=hst16.at hn15 (by omega) | replace hn15:=hst16.self
    refine aV ?_
    dsimp only[aY]
    have hbx:s16.h.get s14.c=some (.cells eZ (slX p 0 0 0)):=hn15
    try clear G
    clear hn15
    have keep16:∀k,k<t.c→k≠pm→s16.h.get k=t.h.get k:=fun k h1 h2=>by rw[hst16.keep k (by omega),hst15.keep k (by omega),hst14.keep k h2]
    have hB16:BH b s16.h.get true bo mn an xa po pcs es2:=hB2.ext fun k o hk=>by
     have:=hS2.lt hk
     rw[keep16 k (by omega) (by omega)]
     exact hKt.ext hS2 _ _ hk
    have z1:(slX p 0 0 0)[5]? = some (.sc (.int .i64 p.to)):=rfl
    have z2:(slX p 0 0 0)[4]? = some (.sc (.int .i64 p.fr)):=rfl
    have hL:(slX p 0 0 0).length=8:=rfl
    have hbxl:s14.c<s16.c:=by omega
    have hle16:=hS16.le
    have nebx:s14.c≠pm:=by omega
    replace G:=bk g5 (bk g13 (bk g88 (bk g89 (bk g90 g14))))
    refine aJ (kj rfl ?_)
    refine rV ?_
    refine rV ?_
    refine rV ?_
    refine IY (fun k=>b≤k) rfl (by simp only[qk,List.map_nil,List.cons_append,List.nil_append,evS,Nat.reduceEqDiff,reduceIte,G];first | done | rfl) (fun k hk=>by first | exact False.elim hk | (dsimp only at hk ⊢;omega) | omega) (fun x hx=>by simp at hx) (ayQ (hS16.zero hS16.le) hB16 hp hn hnp) ?_
    refine tQ rfl (MS.lookP (by simp only[evS,Nat.reduceEqDiff,reduceIte,G];first | done | rfl) (by simp only[evS,Nat.reduceEqDiff,reduceIte,G];first | done | rfl) (by assumption)) (fun k hk => by first | exact False.elim hk | (dsimp only at hk ⊢;omega) | omega) (by intro x hx;simp only[List.nil_append,List.cons_append,List.mem_cons,List.not_mem_nil,or_false]at hx;rcases hx with rfl<;>first | exact .inl (by dsimp only;decide) | (refine .inr fun k => ?_;refine⟨?_,?_,?_⟩<;>(intro hk;(try dsimp only at hk);first | exact hk.1.elim | exact hk.2.elim | omega))) ?_
    refine rP ?_
    refine rP ?_
    refine rL ?_
    refine rP ?_
    refine rP ?_
    refine rL ?_
    refine rP ?_
    refine rP ?_
    refine rT ?_
    refine u3 hS16 (by omega) (by omega) ?_
    intro s17 hst17 hsc17 hS17
    first | replace hpm:=hst17.at hpm (by omega) | replace hpm:=hst17.self
    first | replace hbx:=hst17.at hbx (by omega) | replace hbx:=hst17.self
    refine rP ?_
    refine rT ?_
    refine u3 hS17 (by omega) (by omega) ?_
    intro s18 hst18 hsc18 hS18
    first | replace hpm:=hst18.at hpm (by omega) | replace hpm:=hst18.self
    first | replace hbx:=hst18.at hbx (by omega) | replace hbx:=hst18.self
    refine oq ?_
    dsimp only[aY]
    obtain⟨par,hpar⟩ : ∃q,q=E7 np pl':=⟨_,rfl⟩
    obtain⟨self,hself⟩ : ∃q,q=w64 (p.to-p.fr):=⟨_,rfl⟩
    rw[←hpar,←hself]at hstep
    have hb2:s18.h.get s14.c=some (.cells eZ (slX p par 0 self)):=by rw[hpar,hself];exact hbx
    try clear G
    clear hbx
    have keep18:∀k,k<t.c→k≠pm→s18.h.get k=t.h.get k:=fun k h1 h2=>by rw[hst18.keep k (by omega),hst17.keep k (by omega)];exact keep16 k h1 h2
    have hKS18:KeepS s2 s18:=⟨by omega,fun k hk=>(keep18 k (by omega) (by omega)).trans (hKt.2 k hk)⟩
    have hrK18:RowE s18.h.get aK xk (K.map enc) nk:=hrowK.keep fun o ho=>keep18 nk (hSt.lt ho) (nem nk _ _ ho)
    have hrO18:RowK s18.h.get eZ 8 xo (mV out) out.length no:=hrowO.keep fun o ho=>keep18 no (hSt.lt ho) (nem no _ _ ho)
    have w1:(slX p par 0 self)[1]? = some (.sc (.int .i64 par)):=rfl
    refine fj (fun Γ t'=>look Γ 5 = .c (.ptr bo 0)∧look Γ 13 = .c (.mp pm)∧look Γ 88 = .c xk∧look Γ 89=iV (K.length:Int)∧look Γ 90=iV (i:Int)∧look Γ 14 = .c xo∧look Γ 17 = .c (.ptr s14.c 0)∧Sb b t'∧KeepS s2 t'∧RowE t'.h.get aK xk (K.map enc) nk∧t'.h.get pm=some (.map (.int .i64) false (pl2.map plV))∧∃(dep:Int) (out':List Sl8),t'.h.get s14.c=some (.cells eZ (slX p par dep self))∧RowK t'.h.get eZ 8 xo (mV out') out'.length no∧out2=out'++[⟨p.th,par,dep,p.nm,p.fr,p.to,self,p.op⟩]∧out'.length=i) ?_ ?_
    ·skip
     replace G:=bk g5 (bk g13 (bk g88 (bk g89 (bk g90 g14))))
     refine aJ (aj ?_)
     refine qP ?_
     refine qL ?_
     refine qP ?_
     refine aV ?_
     dsimp only[aY]
     by_cases hp0:0≤par
     ·refine bq (uz lk hp0) ?_
      rw[if_pos hp0]at hstep
      obtain⟨q,hq,hstep⟩:=ak.1 hstep
      obtain⟨m,hm,hqm,hml,hmt⟩:=qZ hq
      rw[hmt]at hstep
      cases hstep
      obtain⟨hxo,hout⟩ : xo = .sl no 8 0 out.length∧s18.h.get no=some (.cells eZ (mV out)):=by
       obtain⟨_,⟨_,h2⟩ | ⟨h1,h2⟩⟩:=hrO18
       ·omega
       ·exact⟨h1,h2⟩
      have hnot:no<t.c:=by
       obtain⟨_,⟨_,h2⟩ | ⟨h1,h2⟩⟩:=hrowO
       ·omega
       ·exact hSt.lt h2
      have r2:(mV out)[m*8+2]? = some (.sc (.int .i64 q.dep)):=by
       have:=aax hqm (j:=2) (by omega)
       rw[Nat.zero_add]at this
       exact this
      have r6:(mV out)[m*8+6]? = some (.sc (.int .i64 q.self)):=by
       have:=aax hqm (j:=6) (by omega)
       rw[Nat.zero_add]at this
       exact this
      have w6:((slX p par 0 self).set 2 (X.sc (Value.int IntKind.i64 (IntKind.i64.wrap (q.dep+1)))))[6]? = some (.sc (.int .i64 self)):=rfl
      have hLo:m*8+6<(mV out).length:=by rw[vj];omega
      have hL2:(slX p par 0 self).length=8:=rfl
      have neo:no≠s14.c:=by omega
      have nop:no≠pm:=nem no _ (mV out) (by rw[←keep18 no hnot (fun e=>by rw[e,hpm]at hout;cases hout)];exact hout)
      rw[hxo]at g14
      have hb18:=hb2
      have hout18:=hout
      replace G:=bk g5 (bk g13 (bk g88 (bk g89 (bk g90 (bk g14 hm)))))
      refine aJ (aj ?_)
      refine qV ?_
      refine qP ?_
      refine qL ?_
      refine eV rfl (by first | exact W1 (by simp only[evS,Nat.reduceEqDiff,reduceIte,G];first | done | rfl) (by simp only[evS,Nat.reduceEqDiff,reduceIte,G];first | done | rfl) (by assumption) | exact Xz (by simp only[evS,Nat.reduceEqDiff,reduceIte,G];first | done | rfl) (by simp only[evS,Nat.reduceEqDiff,reduceIte,G];first | done | rfl) (by first | assumption | omega)) ?_
      refine qP ?_
      refine qL ?_
      refine qP ?_
      refine qP ?_
      refine qT ?_
      refine rz hS18 (by omega) (by omega) ?_
      intro s19 hst19 hsc19 hS19
      first | replace hb2:=hst19.at hb2 (by omega) | replace hb2:=hst19.self
      first | replace hpm:=hst19.at hpm (by omega) | replace hpm:=hst19.self
      first | replace hout:=hst19.at hout (by omega) | replace hout:=hst19.self
      refine aV ?_
      dsimp only[aY]
      refine kj rfl ?_
      refine rV ?_
      refine rP ?_
      refine tQ rfl (by first | exact MS.load1 (by simp only[evS,Nat.reduceEqDiff,reduceIte,G];first | done | rfl) (by assumption) (by first | rfl | assumption | (simp only[kw,jw,G];done) | simp) | exact MS.loadI1 (by simp only[evS,Nat.reduceEqDiff,reduceIte,G];first | done | rfl) | exact MS.loadI2 (by simp only[evS,Nat.reduceEqDiff,reduceIte,G];first | done | rfl)) (fun k hk=>by first | exact False.elim hk | (dsimp only at hk ⊢;omega) | omega) (fun x hx=>by simp at hx) ?_
      refine ej rfl (by first | exact W1 (by simp only[evS,Nat.reduceEqDiff,reduceIte,G];first | done | rfl) (by simp only[evS,Nat.reduceEqDiff,reduceIte,G];first | done | rfl) (by assumption) | exact Xz (by simp only[evS,Nat.reduceEqDiff,reduceIte,G];first | done | rfl) (by simp only[evS,Nat.reduceEqDiff,reduceIte,G];first | done | rfl) (by first | assumption | omega)) ?_
      refine rP ?_
      refine rL ?_
      refine rP ?_
      refine rL ?_
      refine rP ?_
      refine ej rfl (by first | exact W1 (by simp only[evS,Nat.reduceEqDiff,reduceIte,G];first | done | rfl) (by simp only[evS,Nat.reduceEqDiff,reduceIte,G];first | done | rfl) (by assumption) | exact Xz (by simp only[evS,Nat.reduceEqDiff,reduceIte,G];first | done | rfl) (by simp only[evS,Nat.reduceEqDiff,reduceIte,G];first | done | rfl) (by first | assumption | omega)) ?_
      refine rP ?_
      refine rT ?_
      refine u3 hS19 (by omega) (by omega) ?_
      intro s20 hst20 hsc20 hS20
      first | replace hb2:=hst20.at hb2 (by omega) | replace hb2:=hst20.self
      first | replace hpm:=hst20.at hpm (by omega) | replace hpm:=hst20.self
      first | replace hout:=hst20.at hout (by omega) | replace hout:=hst20.self
      refine oq ?_
      try dsimp only[aY]
      have hs2no:s2.c≤no:=hnoc (by rw[hxo];simp[cW])
      refine⟨lk,lk,by rw[hxk];exact lk,lk,lk,by rw[hxo];exact lk,lk,hS20,⟨by omega,fun k hk=>?_⟩,hrK18.keep fun o ho=>?_,hpm,w64 (q.dep+1),out.set m {q with self:=w64 (q.self-self)},hb2,⟨?_,.inr ⟨?_,?_⟩⟩,rfl,by rw[List.length_set];exact hol2⟩
      ·rw[hst20.keep k (by omega),hst19.keep k (by omega)];exact hKS18.2 k hk
      ·have h1:nk≠s14.c:=nz ho (h:=s18.h.get) (k:=nk) hb18 (by decide)
       have h2:nk≠no:=nz ho (h:=s18.h.get) (k:=nk) hout18 (by decide)
       rw[hst20.keep nk h2,hst19.keep nk h1]
      ·rw[vj]
      ·rw[hxo,List.length_set]
      ·rw[hout,←axJ hqm,Nat.zero_add];rfl
     ·skip
      refine bq (tx (by simp only[evS,Nat.reduceEqDiff,reduceIte,g5,g13,g88,g89,g90,g14];try rfl) hp0) (eX ?_)
      rw[if_neg hp0]at hstep
      cases hstep
      exact⟨(by simp only[evS,Nat.reduceEqDiff,reduceIte,g5,g13,g88,g89,g90,g14];try rfl),(by simp only[evS,Nat.reduceEqDiff,reduceIte,g5,g13,g88,g89,g90,g14];try rfl),by rw[hxk];exact(by simp only[evS,Nat.reduceEqDiff,reduceIte,g5,g13,g88,g89,g90,g14];try rfl),(by simp only[evS,Nat.reduceEqDiff,reduceIte,g5,g13,g88,g89,g90,g14];try rfl),(by simp only[evS,Nat.reduceEqDiff,reduceIte,g5,g13,g88,g89,g90,g14];try rfl),(by simp only[evS,Nat.reduceEqDiff,reduceIte,g5,g13,g88,g89,g90,g14];try rfl),(by simp only[evS,Nat.reduceEqDiff,reduceIte,g5,g13,g88,g89,g90,g14];try rfl),hS18,hKS18,hrK18,hpm,0,out,hb2,hrO18,rfl,hol2⟩
    ·try clear G
     clear g5 g13 g88 g89 g90 g14 hb2 hpm
     rintro Γ u ⟨g5,g13,g88,g89,g90,g14,g17,hSu,hKu,hrKu,hpmu,dep,out',hbu,hrOu,ho2,hol'⟩
     have hleu:=hSu.le
     have hbul:=hSu.lt hbu
     have hpul:=hSu.lt hpmu
     have hcu:=hKu.1
     have cu8:cut (slX p par dep self) 0 8=some (slX p par dep self):=rfl
     have hroom:rY 72 (out'.length+1)=true:=by
      unfold rY
      rw[gk,Nat.ble_eq,Nat.ble_eq]
      omega
     replace G:=bk g5 (bk g13 (bk g88 (bk g89 (bk g90 (bk g14 g17)))))
     refine aj ?_
     refine qV ?_
     refine qA ?_
     refine zx rfl (MS.bslK hSu (by simp only[evS,Nat.reduceEqDiff,reduceIte,G];first | done | rfl) rfl rfl) (fun k hk=>by first | exact False.elim hk | (dsimp only at hk ⊢;omega) | omega) ?_
     refine uK hSu ?_
     intro s21 hst21 hsc21 hS21
     replace hbu:=hst21.at hbu (by omega)
     replace hpmu:=hst21.at hpmu (by omega)
     have hn21:=hst21.self
     replace hrOu:=hrOu.keep fun o ho=>hst21.keep _ (by have:=hSu.lt ho;omega)
     replace hrKu:=hrKu.keep fun o ho=>hst21.keep _ (by have:=hSu.lt ho;omega)
     refine aLj rfl hS21 (by simp only[evS,Nat.reduceEqDiff,reduceIte,G];first | done | rfl) hrOu (by omega) (by simp only[evS,Nat.reduceEqDiff,reduceIte,G];try rfl) (by assumption) rfl (by first | assumption | rfl) (fun k hk=>by first | exact False.elim hk | (dsimp only at hk ⊢;omega) | omega) ?_
     intro s22 hst22 hS22
     have hsa22:=hst22.c
     first | replace hbu:=(hst22.keep _ (RowK.nil_of hrOu hbu (by decide)) (by omega)).trans hbu | replace hbu:=(hst22.keep _ (RowK.nil_map hrOu hbu) (by omega)).trans hbu | clear hbu
     first | replace hpmu:=(hst22.keep _ (RowK.nil_of hrOu hpmu (by decide)) (by omega)).trans hpmu | replace hpmu:=(hst22.keep _ (RowK.nil_map hrOu hpmu) (by omega)).trans hpmu | clear hpmu
     first | replace hn21:=(hst22.keep _ (RowK.nil_of hrOu hn21 (by decide)) (by omega)).trans hn21 | replace hn21:=(hst22.keep _ (RowK.nil_map hrOu hn21) (by omega)).trans hn21 | clear hn21
     have hn22:=hst22.self
     replace hrKu:=hrKu.keep fun o ho=>hst22.keep _ (RowK.nil_of hrOu ho (by decide)) (by have:=hS21.lt ho;omega)
     refine qV ?_
     refine aV ?_
     try dsimp only[aY]
     have keep22:∀k,k<u.c→(k=no→xo = .sc cW)→s22.h.get k=u.h.get k:=fun k h1 h2=>by rw[hst22.keep k h2 (by omega),hst21.keep k (by omega)]
     have hno2:∀k,k<s2.c→k=no→xo = .sc cW:=fun k hk e=>by
      by_cases hx:xo = .sc cW
      ·exact hx
      ·have:=hnoc hx;omega
     refine⟨lk,lk,lk,lk,lk,hS22,⟨by omega,fun k hk=>(keep22 k (by omega) (hno2 k hk)).trans (hKu.2 k hk)⟩,hrKu,hpmu,.sl s21.c 8 0 (out'.length+1),s21.c,lk,⟨vj _,.inr ⟨?_,?_⟩⟩,by omega,fun _=>by omega,?_⟩
     ·rw[ho2,dw];rfl
     ·rw[hn22,ho2,OY];rfl
     ·rw[ho2,dw,hol'];rfl
   ·try clear G
    clear g5 g13 g88 g89 g90 g14
    rintro Γ u ⟨g5,g13,g88,g89,g90,hSu,hKu,hrKu,hpmu,xo2,no2,g14,hrO2,hbno2,hnoc2,hlo2⟩
    replace G:=bk g5 (bk g13 (bk g88 (bk g89 (bk g90 g14))))
    refine aj ?_
    refine qP ?_
    refine qV ?_
    refine aV ?_
    try dsimp only[aY]
    exact⟨k-1,by omega,lk,lk,lk,lk,hSu,hKu,hrKu,i+1,pl2,out2,xo2,no2,lkW lk rfl (by omega),by omega,hfold,hlo2,hpmu,lk,hrO2,hbno2,hnoc2⟩
  ·skip
   refine aJ (bq (tx (by simp only[evS,Nat.reduceEqDiff,reduceIte,g5,g13,g88,g89,g90,g14];try rfl) (by omega)) (i9 ?_))
   rw[List.drop_eq_nil_of_le (by omega)]at hfold
   cases hfold
   exact⟨hSt,xo,no,(by simp only[evS,Nat.reduceEqDiff,reduceIte,g5,g13,g88,g89,g90,g14];try rfl),hrowO⟩
 try clear G
 clear g5 g10
 rintro Γ t ⟨hSt,x,n,g14,hrow⟩
 replace G:=g14
 refine aJ (aj ?_)
 refine qV ?_
 refine qV ?_
 refine aV ?_
 dsimp only[aY]
 have hpx:kK (V.c x)=true:=by
  obtain⟨_,⟨rfl,_⟩ | ⟨rfl,_⟩⟩:=hrow<;>rfl
 exact sx ⟨.inr rfl,_,_,sQ lk hpx,dX,hSt,x,n,rfl,hrow⟩
end Go.RM
namespace Go.RM
open Go Go.VM Go.Proofs Go.Proofs.Ytinhkpcgdfppkaa
def tSl8(s:Sl8):List T:=[tI s.th,tI s.par,tI s.dep,.sc (.string s.nm),tI s.fr,tI s.to,tI s.self,.sc (.bool s.op)]
theorem aKZ(l:List Sl8)(t:T)(h:t∈(l.map tSl8).flatten):∃v,t = .sc v:=by
 rw[List.mem_flatten]at h
 obtain⟨row,hr,ht⟩:=h
 obtain⟨s,_,rfl⟩:=yw.1 hr
 simp only[tSl8,List.mem_cons,List.not_mem_nil,or_false]at ht
 rcases ht with rfl | rfl | rfl | rfl | rfl | rfl | rfl | rfl<;>exact⟨_,rfl⟩
theorem Wq(l:List Sl8):mV l=((l.map tSl8).flatten).map imX:=by
 unfold mV
 rw[List.map_flatten,List.map_map]
 rfl
theorem amY{h:Hp}{fresh:Bool}{n:Nat}{e:TypeId}{l:List Sl8}(hn:h n=some (.cells e (mV l))):TreeX h fresh (.sl n 8 0 l.length) (.sl 8 (l.map tSl8)):=by
 have hl:(l.map tSl8).length=l.length:=ew _
 have:=TreeX.sl (h:=h) (fresh:=fresh) n 8 0 (l.map tSl8) e (mV l) (mV l) hn ?_ ?_ ?_ ?_
 ·rw[hl]at this;exact this
 ·rw[hl];exact aPW (vj l)
 ·intro row hr
  obtain⟨z,_,rfl⟩:=yw.1 hr
  rfl
 ·rw[Wq,ew]
 ·intro j x t hx ht
  rw[Wq,jw,ht]at hx
  cases hx
  obtain⟨v,rfl⟩:=aKZ l t (nw ht)
  exact TreeX.sc _
theorem awq{h:Hp}{fresh:Bool}{x:X}{l:List Sl8}{n:Nat}{e:TypeId}(hr:RowK h e 8 x (mV l) l.length n):TreeX h fresh x (.sl 8 (l.map tSl8)):=by
 obtain⟨_,⟨rfl,h0⟩ | ⟨rfl,h1⟩⟩:=hr
 ·have:l=[]:=fk h0
  subst this
  exact TreeX.nil 8
 ·exact amY h1
theorem aVW:Sb 0 s0:=⟨mw _,fun _ _=>rfl,fun k h=>by simp[s0]at h⟩
def sliceOfF(o:List EvS)(e:Int):Option (List Sl8):=bif decide (o.length≤1000)then ofF o e else none
theorem sliceOfF_fun{o:List EvS}{e:Int}{r:List Sl8}(h:sliceOfF o e=some r)(fresh:Bool) :
  Fun Try.prog L5 fresh [] [.c (.imm (.sl 10 (o.map rowE))),.c (.imm (tI e))] noHeap (.c (.imm (.sl 8 (r.map tSl8)))) noHeap:=by
 unfold sliceOfF at h
 rcases kX h with⟨hl,h⟩ | ⟨_,h⟩
 ·refine avK aKV (fun w0=>aeK _ w0) YV (us:=[.c (.im 10 (o.map rowE)),iV e]) rfl (aUx aVW hl e h) fun v s hv=>?_
  obtain⟨_,x,n,rfl,hrow⟩:=hv
  exact(show TreeV s.h.get fresh (V.c x) _ from awq hrow)
 ·cases h
end Go.RM
namespace Go.RM
open Go Go.Proofs Go.Proofs.Ytinhkpcgdfppkaa
def l26:List Nat:=[10,28,11,29,54,30,31,33,34,57,77,56,32,55,75,76,84,98,35,12,14,39,40,63,78,85,41,42,64,17,47,19,21,48,69,68,80,94,95,79,86,87,100,88,101,102,89,103,104,105,90,91,92,93,23,6]
theorem lives26(fresh:Bool):Go.VM.Fun Try.prog 10 fresh [] [] Go.VM.noHeap (.c (.imm (.sc (.bool true)))) Go.VM.noHeap:=aGQ (aJQ (l:=l26) (by kernel_rfl)) fresh 1000 (by kernel_rfl)
end Go.RM
