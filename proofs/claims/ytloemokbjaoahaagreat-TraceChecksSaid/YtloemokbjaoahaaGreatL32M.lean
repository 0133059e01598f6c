/- The law holds: plain mathematics on what the functions compute. -/
import Derived.Test.YtloemokbjaoahaaGreatL32M1
namespace Go.VM
theorem beQ(l:List cV)(c:aZ)(hl:l.length≤1000)(hr:∀x∈l,0≤x.j8∧x.j8≤1000000000000)(hc:0≤c.q0∧c.q0≤1000000000000):loop (p7 l c) ([],0)=some (fR c l []):=by
 have:Ok (loop (p7 l c) ([],0)) (fun r=>r=fR c l []):=by
  refine M7 l.length (fun a i=>fR c (l.drop i) a=fR c l []∧a.length≤i) (by omega) ⟨rfl,by simp⟩ (fun a i hI h2=>?_)
  unfold p7
  dsimp only
  refine bY (fun hi=>?_) (fun hi=>d8 ?_)
  ·have hi':i<l.length:=by omega
   obtain⟨y,hy⟩ : ∃y,l[i]? = some y:=⟨_,bk hi'⟩
   have hy2:=hr y (ek hy)
   have hla:=hI.2
   have hd:l.drop i=y::l.drop (i+1):=by
    rw[List.drop_eq_getElem_cons hi']
    rw[bk hi']at hy
    rw[Option.some.inj hy]
   have hh:(l.drop (i+1)).head? = l[i+1]?:=by rw[List.head?_drop]
   rw[dY,hy,Option.bind_some,Gx (n:=l.length) hi' (by omega),cX (n:=y.j8-c.q0) (by omega)]
   have hroom:∀z:cV,Ej 32 (a.length+[z].length)=true:=fun z=>D6 (by simp only[fk,List.length_nil];omega) (by simp only[fk,List.length_nil];omega)
   refine ax (Q:=fun b=>b=nR c a y l[i+1]?) ?_ (fun b hb=>jq ⟨hi',rfl,?_,?_⟩)
   ·refine ax (Q:=fun b=>b=decide (R7 c y l[i+1]?)) ?_ (fun v hv=>?_)
    ·refine bY (fun g=>cq ?_) (fun g=>?_)
     ·have:l[i+1]? = none:=List.getElem?_eq_none (by omega)
      rw[this];exact(decide_eq_true (show R7 c y none from trivial)).symm
     ·obtain⟨z,hz⟩ : ∃z,l[i+1]? = some z:=⟨_,bk (by omega)⟩
      rw[dY,hz]
      simp only[Option.bind_some]
      refine cQ (fun g1=>cq (by simp[R7,g1])) (fun g1=>cq (by simp[R7,g1]))
    ·subst hv
     unfold nR
     by_cases g:y.j8≤c.q0
     ·have g2 : ¬c.q0<y.j8:=by omega
      rw[if_pos g,decide_eq_true g,cond_true,Option.bind_some]
      by_cases g3:R7 c y l[i+1]?
      ·rw[if_pos g3,decide_eq_true g3,cond_true,hroom,cond_true,Option.bind_some,decide_eq_false g2,cond_false,Option.bind_some,cond_false]
       exact cq rfl
      ·rw[if_neg g3,decide_eq_false g3,cond_false,Option.bind_some,decide_eq_false g2,cond_false,Option.bind_some,cond_false]
       exact cq rfl
     ·rw[if_neg g,decide_eq_false g,cond_false,Option.bind_some,cond_false,Option.bind_some,decide_eq_true (by omega:c.q0<y.j8),cond_true,Option.bind_some]
      refine bY (fun g2=>?_) (fun g2=>cq (by rw[if_neg g2]))
      rw[if_pos g2,hroom,cond_true]
      exact cq rfl
   ·subst hb
    have:=hI.1
    rw[hd]at this
    simp only[fR,hh]at this
    exact this
   ·subst hb
    have:=bfK c a y l[i+1]?
    simp only;omega
  ·have:i=l.length:=by omega
   subst this
   have:=hI.1
   rw[List.drop_length]at this
   exact this
 obtain⟨r,e,rfl⟩:=this
 exact e
theorem a1q{l:List cV}{c:aZ}(hl:l.length≤1000)(hv:StV l)(hc:0≤c.q0∧c.q0<c.q9∧c.q9≤1000000000000):∃r,r.length≤l.length∧EQ l c=some r∧uY l c=some r:=by
 obtain⟨h1,h2⟩:=bdJ l c hl hv.rng ⟨hc.1,by omega⟩
 refine⟨_,h2,?_,?_⟩
 ·unfold EQ
  rw[h1,Option.bind_some]
 ·unfold uY
  rw[beQ l c hl hv.rng ⟨hc.1,by omega⟩,Option.bind_some,(amz c hc.2.1 l hv.srt [] (fun o ho=>by simp at ho)).1]
theorem O1{α β:Type}{step:List β×Int→Option ((List β×Int) ⊕ List β)}(xs:List α)(P:β→Prop)(hl:xs.length≤100000)
  (h1:∀(i:Nat) y a,xs[i]? = some y→a.length≤i→i<xs.length→Ok (step (a,(i:Int))) (fun s=>∃b,s = .inl (b,((i+1:Nat):Int))∧(b=a∨∃z,b=a++[z]∧P z))) (h2:∀a,step (a,(xs.length:Int))=some (.inr a)) :
  ∃r,loop step ([],0)=some r∧r.length≤xs.length∧∀z∈r,P z:=by
 refine M7 xs.length (fun a i=>a.length≤i∧∀z∈a,P z) (by omega) ⟨by simp,by simp⟩ (fun a i hI h2'=>?_)
 by_cases hi:i<xs.length
 ·obtain⟨s,e,b,rfl,hb⟩:=h1 i _ a (bk hi) hI.1 hi
  rw[e]
  refine jq ⟨hi,rfl,?_⟩
  rcases hb with rfl | ⟨z,rfl,hz⟩
  ·exact⟨by have:=hI.1;simp only;omega,hI.2⟩
  ·refine⟨by have:=hI.1;simp;omega,fun u hu=>?_⟩
   rcases jk.1 hu with hu | hu
   ·exact hI.2 u hu
   ·simp only[ew]at hu;subst hu;exact hz
 ·have:i=xs.length:=by omega
  subst this
  rw[h2]
  exact d8 hI
theorem aKW(l:List cZ)(c:aZ)(hl:l.length≤1000):∃r,zX l c=some r∧r.length≤l.length:=by
 obtain⟨r,h1,h2,_⟩:=O1 (step:=nX l c) l (fun _=>True) (by omega) (fun i y a hy ha hi=>by
  have hroom:∀z:cZ,Ej 56 (a.length+[z].length)=true:=fun z=>D6 (by simp only[fk,List.length_nil];omega) (by simp only[fk,List.length_nil];omega)
  unfold nX
  dsimp only
  rw[decide_eq_true (Int.ofNat_lt.2 hi),cond_true,dY,hy,Option.bind_some,Gx (n:=l.length) hi (by omega)]
  refine ax (Q:=fun b=>b=a∨∃z,b=a++[z]∧True) ?_ (fun b hb=>cq ⟨b,rfl,hb⟩)
  refine ax (Q:=Yes) ⟨_,rfl,trivial⟩ (fun r _=>?_)
  refine d4 (fun _=>cq (.inl rfl)) (fun _=>?_)
  refine ax (Q:=Yes) (by repeat' (first | (with_reducible first | intro _ | exact dj | exact c8 | exact dJ | exact dQ | refine ax dX fun _ _=>?_ | apply cQ | apply bY | apply d4 | apply cj | apply ax (Q:=Yes)) | dsimp only)) (fun v _=>?_)
  rw[hroom,cond_true]
  exact cq (.inr ⟨_,rfl,trivial⟩)) (fun a=>by unfold nX;simp)
 exact⟨r,by unfold zX;rw[h1,Option.bind_some],h2⟩
theorem aux(c:aZ)(n:Int):Ok (l3 c n) Yes:=by
 unfold l3
 repeat' (first | (with_reducible first | intro _ | exact dj | exact c8 | exact dJ | exact dQ | refine ax dX fun _ _=>?_ | apply cQ | apply bY | apply d4 | apply cj | apply ax (Q:=Yes)) | dsimp only)
theorem aUQ(l:List d3)(c:aZ)(hl:l.length≤1000):∃r,B4 l c=some r∧r.length≤l.length:=by
 obtain⟨r,h1,h2,_⟩:=O1 (step:=rj l c) l (fun _=>True) (by omega) (fun i y a hy ha hi=>by
  have hroom:∀z:d3,Ej 56 (a.length+[z].length)=true:=fun z=>D6 (by simp only[fk,List.length_nil];omega) (by simp only[fk,List.length_nil];omega)
  unfold rj
  dsimp only
  rw[decide_eq_true (Int.ofNat_lt.2 hi),cond_true,dY,hy,Option.bind_some,Gx (n:=l.length) hi (by omega)]
  refine ax (Q:=fun b=>b=a∨∃z,b=a++[z]∧True) ?_ (fun b hb=>cq ⟨b,rfl,hb⟩)
  refine ax (Q:=Yes) (by repeat' (first | (with_reducible first | intro _ | exact dj | exact c8 | exact dJ | exact dQ | refine ax dX fun _ _=>?_ | apply cQ | apply bY | apply d4 | apply cj | (refine Ok.yes (aux _ _)<;>(first | assumption | omega | rw[cX]<;>omega)) | apply ax (Q:=Yes)) | dsimp only)) (fun v _=>?_)
  refine cj (fun _=>?_) (fun _=>cq (.inl rfl))
  rw[hroom,cond_true]
  exact cq (.inr ⟨_,rfl,trivial⟩)) (fun a=>by unfold rj;simp)
 exact⟨r,by unfold B4;rw[h1,Option.bind_some],h2⟩
theorem aDx(l:List cY)(c:aZ)(hl:l.length≤1000){P:List ByteArray→Prop}(hP:∀x∈l,P x.z7):∃r,xX l c=some r∧r.length≤l.length∧∀x∈r,P x.z7:=by
 obtain⟨r,h1,h2,h3⟩:=O1 (step:=o6 l c) l (fun x=>P x.z7) (by omega) (fun i y a hy ha hi=>by
  have hroom:∀z:cY,Ej 48 (a.length+[z].length)=true:=fun z=>D6 (by simp only[fk,List.length_nil];omega) (by simp only[fk,List.length_nil];omega)
  unfold o6
  dsimp only
  rw[decide_eq_true (Int.ofNat_lt.2 hi),cond_true,dY,hy,Option.bind_some,Gx (n:=l.length) hi (by omega)]
  refine ax (Q:=fun b=>b=a∨∃z,b=a++[z]∧P z.z7) ?_ (fun b hb=>cq ⟨b,rfl,hb⟩)
  refine ax (aux _ _) (fun v _=>?_)
  refine cj (fun _=>?_) (fun _=>cq (.inl rfl))
  rw[hroom,cond_true]
  exact cq (.inr ⟨_,rfl,hP y (ek hy)⟩)) (fun a=>by unfold o6;simp)
 exact⟨r,by unfold xX;rw[h1,Option.bind_some],h2,h3⟩
theorem aMz(l:List dq)(c:aZ)(hl:l.length≤1000){P:List ByteArray→Prop}(hP:∀x∈l,P x.z7):∃r,zQ l c=some r∧r.length≤l.length∧∀x∈r,P x.z7:=by
 obtain⟨r,h1,h2,h3⟩:=O1 (step:=nQ l c) l (fun x=>P x.z7) (by omega) (fun i y a hy ha hi=>by
  have hroom:∀z:dq,Ej 72 (a.length+[z].length)=true:=fun z=>D6 (by simp only[fk,List.length_nil];omega) (by simp only[fk,List.length_nil];omega)
  unfold nQ
  dsimp only
  rw[decide_eq_true (Int.ofNat_lt.2 hi),cond_true,dY,hy,Option.bind_some,Gx (n:=l.length) hi (by omega)]
  refine ax (Q:=fun b=>b=a∨∃z,b=a++[z]∧P z.z7) ?_ (fun b hb=>cq ⟨b,rfl,hb⟩)
  refine ax (Q:=Yes) ⟨_,rfl,trivial⟩ (fun r _=>?_)
  refine cj (fun _=>?_) (fun _=>cq (.inl rfl))
  refine ax (Q:=Yes) (by repeat' (first | (with_reducible first | intro _ | exact dj | exact c8 | exact dJ | exact dQ | refine ax dX fun _ _=>?_ | apply cQ | apply bY | apply d4 | apply cj | apply ax (Q:=Yes)) | dsimp only)) (fun v _=>?_)
  rw[hroom,cond_true]
  exact cq (.inr ⟨_,rfl,hP y (ek hy)⟩)) (fun a=>by unfold nQ;simp)
 exact⟨r,by unfold zQ;rw[h1,Option.bind_some],h2,h3⟩
theorem aLQ(l:List f6)(c:aZ)(hl:l.length≤1000):∃r,zj l c=some r∧r.length≤l.length:=by
 obtain⟨r,h1,h2,_⟩:=O1 (step:=nz l c) l (fun _=>True) (by omega) (fun i y a hy ha hi=>by
  have hroom:∀z:f6,Ej 32 (a.length+[z].length)=true:=fun z=>D6 (by simp only[fk,List.length_nil];omega) (by simp only[fk,List.length_nil];omega)
  unfold nz
  dsimp only
  rw[decide_eq_true (Int.ofNat_lt.2 hi),cond_true,dY,hy,Option.bind_some,Gx (n:=l.length) hi (by omega)]
  refine ax (Q:=fun b=>b=a∨∃z,b=a++[z]∧True) ?_ (fun b hb=>cq ⟨b,rfl,hb⟩)
  refine ax (Q:=Yes) ⟨_,rfl,trivial⟩ (fun r _=>?_)
  refine cj (fun _=>?_) (fun _=>cq (.inl rfl))
  rw[hroom,cond_true]
  exact cq (.inr ⟨_,rfl,trivial⟩)) (fun a=>by unfold nz;simp)
 exact⟨r,by unfold zj;rw[h1,Option.bind_some],h2⟩
def B7{α:Type}(p:α→α→Bool)(xs ys:List α):Bool:=(xs.zip ys).all fun z=>p z.1 z.2
theorem Fj{α:Type}{p:α→α→Bool}{xs:List α}(h:∀x∈xs,p x x=true):B7 p xs xs=true:=by
 unfold B7
 rw[lw]
 intro z hz
 induction xs with
 | nil=>simp at hz
 | cons x xs ih =>
  rw[List.zip_cons_cons]at hz
  rcases iw.1 hz with rfl | hz
  ·exact h x (by simp)
  ·exact ih (fun y hy=>h y (List.mem_cons_of_mem _ hy)) hz
theorem A7{α:Type}{step:Int→Option (Int ⊕ (Unit ⊕ Bool))}(xs ys:List α)(p:α→α→Bool)(hn:xs.length=ys.length)(hl:xs.length≤9223372036854775807)
  (h1:∀(i:Nat) x y,xs[i]? = some x→ys[i]? = some y→step (i:Int)=some (if p x y=true then .inl (w64 ((i:Int)+1))else .inr (.inr false))) (h2:step (xs.length:Int)=some (.inr (.inl ()))) :
  loop step 0=some (if B7 p xs ys=true then .inl ()else .inr false):=by
 have hz:(xs.zip ys).length=xs.length:=by rw[List.length_zip];omega
 rw[LY (xs.zip ys) (fun _ z=>if p z.1 z.2=true then none else some (.inr false)) (.inl ()) (by rw[hz];simp[fY];omega) (fun i z hi=>?_) (by rw[hz,h2])]
 ·congr 1
  have:∀(l:List (α×α)) (i:Nat),(wx (fun _ z=>if p z.1 z.2=true then none else some (Sum.inr false:Unit ⊕ Bool)) l i).getD (.inl ())=if(l.all fun z=>p z.1 z.2)=true then .inl ()else .inr false:=by
   intro l
   induction l with
   | nil=>intro i;rfl
   | cons z l ih =>
    intro i
    simp only[wx]
    by_cases h:p z.1 z.2=true
    ·have e2:((z::l).all fun z=>p z.1 z.2)=(l.all fun z=>p z.1 z.2):=by simp[h]
     rw[if_pos h,e2];exact ih (i+1)
    ·have e2:((z::l).all fun z=>p z.1 z.2)=false:=by simp[h]
     rw[if_neg h,e2];rfl
  exact this _ _
 ·have hil:=dZ hi
  rw[hz]at hil
  rw[List.getElem?_zip_eq_some]at hi
  rw[h1 i z.1 z.2 hi.1 hi.2,Q8 (by omega)]
  by_cases h:p z.1 z.2=true<;>simp[h]
def X4(x y:dW):Bool:=(decide (x.w5=y.w5)&&(decide (x.q8=y.q8)&&(decide (x.x3=y.x3)&&true)))
def X5(x y:aY):Bool:=(decide (x.q6=y.q6)&&(decide (x.z1=y.z1)&&(decide (x.z9=y.z9)&&(decide (x.q8=y.q8)&&(decide (x.q5.q0=y.q5.q0)&&(decide (x.q5.q9=y.q5.q9)&&(decide (x.j9=y.j9)&&(decide (x.v8=y.v8)&&true))))))))
def aeW(x y:cZ):Bool:=(decide (x.q6=y.q6)&&(decide (x.j3=y.j3)&&(decide (x.q5.q0=y.q5.q0)&&(decide (x.q5.q9=y.q5.q9)&&(decide (x.w9=y.w9)&&(decide (x.x5=y.x5)&&(decide (x.x6=y.x6)&&true)))))))
def X6(x y:d3):Bool:=(decide (x.w5=y.w5)&&(decide (x.q0.q6=y.q0.q6)&&(decide (x.q0.w6=y.q0.w6)&&(decide (x.q9.q6=y.q9.q6)&&(decide (x.q9.w6=y.q9.w6)&&(decide (x.w7=y.w7)&&(decide (x.w4=y.w4)&&true)))))))
def X9(x y:cV):Bool:=(decide (x.q8=y.q8)&&(decide (x.j8=y.j8)&&(decide (x.j2=y.j2)&&true)))
def Xq(x y:f6):Bool:=(decide (x.q6=y.q6)&&(decide (x.q5.q0=y.q5.q0)&&(decide (x.q5.q9=y.q5.q9)&&(decide (x.j6=y.j6)&&true))))
def aJZ(a b:List ByteArray):Bool:=decide (a.length=b.length)&&B7 (fun x y=>decide (x=y)) a b
def YY(x y:cY):Bool:=decide (x.q6=y.q6)&&(decide (x.j8=y.j8)&&(decide (x.j5=y.j5)&&aJZ x.z7 y.z7))
def Yj(x y:dq):Bool:=decide (x.w5=y.w5)&&(decide (x.q6=y.q6)&&(decide (x.w8=y.w8)&&((decide (x.q5.q0=y.q5.q0)&&(decide (x.q5.q9=y.q5.q9)&&true))&&(decide (x.x4=y.x4)&&aJZ x.z7 y.z7))))
def Shk(l:List ByteArray):Prop:=l.length≤9223372036854775807
theorem bjK(a b:Nat):decide ((a:Int)=(b:Int))=decide (a=b):=by
 by_cases h:a=b
 ·simp[h]
 ·have : ¬(a:Int)=(b:Int):=by omega
  simp[h,this]
theorem K4{α:Type}{step:Int→Option (Int ⊕ (Unit ⊕ Bool))}(xs ys:List α)(p:α→α→Bool)(hl:xs.length≤9223372036854775807)(h1:xs.length=ys.length→loop step 0=some (if B7 p xs ys=true then .inl ()else .inr false)) :
  (bif (!decide ((xs.length:Int)=(ys.length:Int)))then some false else((loop step 0).bind fun | .inl _=>some true | .inr rv=>some rv))=some (decide (xs.length=ys.length)&&B7 p xs ys):=by
 rw[bjK]
 by_cases h:xs.length=ys.length
 ·rw[decide_eq_true h,h1 h]
  cases B7 p xs ys<;>rfl
 ·rw[decide_eq_false h];rfl
theorem beK(xs ys:List dW)(hl:xs.length≤9223372036854775807):lW xs ys=some (decide (xs.length=ys.length)&&B7 X4 xs ys):=by
 refine K4 xs ys X4 hl (fun h=>A7 xs ys X4 h hl (fun i x y hx hy=>?_) (by unfold kZ;simp))
 unfold kZ
 rw[decide_eq_true (Int.ofNat_lt.2 (dZ hx)),cond_true,dY,hx,Option.bind_some,dY,hy,Option.bind_some]
 show(bif X4 x y != true then _ else _)=_
 cases X4 x y<;>rfl
theorem beY(xs ys:List aY)(hl:xs.length≤9223372036854775807):mW xs ys=some (decide (xs.length=ys.length)&&B7 X5 xs ys):=by
 refine K4 xs ys X5 hl (fun h=>A7 xs ys X5 h hl (fun i x y hx hy=>?_) (by unfold lJ;simp))
 unfold lJ
 rw[decide_eq_true (Int.ofNat_lt.2 (dZ hx)),cond_true,dY,hx,Option.bind_some,dY,hy,Option.bind_some]
 show(bif X5 x y != true then _ else _)=_
 cases X5 x y<;>rfl
theorem a3K(xs ys:List cZ)(hl:xs.length≤9223372036854775807):kj xs ys=some (decide (xs.length=ys.length)&&B7 aeW xs ys):=by
 refine K4 xs ys aeW hl (fun h=>A7 xs ys aeW h hl (fun i x y hx hy=>?_) (by unfold lZ;simp))
 unfold lZ
 rw[decide_eq_true (Int.ofNat_lt.2 (dZ hx)),cond_true,dY,hx,Option.bind_some,dY,hy,Option.bind_some]
 show(bif aeW x y != true then _ else _)=_
 cases aeW x y<;>rfl
theorem a8z(xs ys:List cZ):A4 xs ys=kj xs ys:=rfl
theorem bgW(xs ys:List d3)(hl:xs.length≤9223372036854775807):oV xs ys=some (decide (xs.length=ys.length)&&B7 X6 xs ys):=by
 refine K4 xs ys X6 hl (fun h=>A7 xs ys X6 h hl (fun i x y hx hy=>?_) (by unfold mq;simp))
 unfold mq
 rw[decide_eq_true (Int.ofNat_lt.2 (dZ hx)),cond_true,dY,hx,Option.bind_some,dY,hy,Option.bind_some]
 show(bif X6 x y != true then _ else _)=_
 cases X6 x y<;>rfl
theorem bgQ(xs ys:List cV)(hl:xs.length≤9223372036854775807):oZ xs ys=some (decide (xs.length=ys.length)&&B7 X9 xs ys):=by
 refine K4 xs ys X9 hl (fun h=>A7 xs ys X9 h hl (fun i x y hx hy=>?_) (by unfold l9;simp))
 unfold l9
 rw[decide_eq_true (Int.ofNat_lt.2 (dZ hx)),cond_true,dY,hx,Option.bind_some,dY,hy,Option.bind_some]
 show(bif X9 x y != true then _ else _)=_
 cases X9 x y<;>rfl
theorem bcW(xs ys:List f6)(hl:xs.length≤9223372036854775807):oX xs ys=some (decide (xs.length=ys.length)&&B7 Xq xs ys):=by
 refine K4 xs ys Xq hl (fun h=>A7 xs ys Xq h hl (fun i x y hx hy=>?_) (by unfold mz;simp))
 unfold mz
 rw[decide_eq_true (Int.ofNat_lt.2 (dZ hx)),cond_true,dY,hx,Option.bind_some,dY,hy,Option.bind_some]
 show(bif Xq x y != true then _ else _)=_
 cases Xq x y<;>rfl
theorem ayx(xs ys:List ByteArray)(hl:xs.length≤9223372036854775807):lQ xs ys=some (aJZ xs ys):=by
 refine K4 xs ys (fun x y=>decide (x=y)) hl (fun h=>A7 xs ys (fun x y=>decide (x=y)) h hl (fun i x y hx hy=>?_) (by unfold o8;simp))
 unfold o8
 rw[decide_eq_true (Int.ofNat_lt.2 (dZ hx)),cond_true,dY,hx,Option.bind_some,dY,hy,Option.bind_some]
 by_cases e:x=y<;>simp[e]
theorem aOj(xs ys:List ByteArray):pJ xs ys=lQ xs ys:=rfl
theorem a7j(x y:cY)(h:Shk x.z7):BW x y=some (YY x y):=by
 unfold BW YY
 rw[ayx _ _ h]
 by_cases h1:x.q6=y.q6<;>by_cases h2:x.j8=y.j8<;>by_cases h3:x.j5=y.j5<;>simp[h1,h2,h3]
theorem a7Y(x y:dq)(h:Shk x.z7):C9 x y=some (Yj x y):=by
 unfold C9 Yj
 rw[ayx _ _ h]
 generalize (decide (x.q5.q0=y.q5.q0)&&(decide (x.q5.q9=y.q5.q9)&&true))=b1
 generalize decide (x.x4=y.x4)=b2
 by_cases h1:x.w5=y.w5<;>by_cases h2:x.q6=y.q6<;>by_cases h3:x.w8=y.w8<;>cases b1<;>cases b2<;>simp[h1,h2,h3]
theorem bgz(xs ys:List cY)(hl:xs.length≤9223372036854775807)(hs:∀x∈xs,Shk x.z7):fj xs ys=some (decide (xs.length=ys.length)&&B7 YY xs ys):=by
 refine K4 xs ys YY hl (fun h=>A7 xs ys YY h hl (fun i x y hx hy=>?_) (by unfold eW;simp))
 unfold eW KJ
 rw[decide_eq_true (Int.ofNat_lt.2 (dZ hx)),cond_true,dY,hx,Option.bind_some,dY,hy,Option.bind_some,a7j x y (hs x (ek hx)),Option.bind_some,Option.bind_some]
 cases YY x y<;>rfl
theorem beW(xs ys:List dq)(hl:xs.length≤9223372036854775807)(hs:∀x∈xs,Shk x.z7):f0 xs ys=some (decide (xs.length=ys.length)&&B7 Yj xs ys):=by
 refine K4 xs ys Yj hl (fun h=>A7 xs ys Yj h hl (fun i x y hx hy=>?_) (by unfold fJ;simp))
 unfold fJ KZ
 rw[decide_eq_true (Int.ofNat_lt.2 (dZ hx)),cond_true,dY,hx,Option.bind_some,dY,hy,Option.bind_some,a7Y x y (hs x (ek hx)),Option.bind_some,Option.bind_some]
 cases Yj x y<;>rfl
structure FewT(t:a0):Prop where
 th:t.q7.length≤1000
 sl:t.z3.length≤1000
 st:t.z8.length≤1000
 fl:t.z6.length≤1000
 sa:t.z2.length≤1000
 sp:t.j4.length≤1000
 bl:t.z5.length≤1000
 lo:t.j7.length≤1000
 ka:∀x∈t.z2,Shk x.z7
 kb:∀x∈t.z5,Shk x.z7
def arK(x y:aZ):Bool:=(decide (x.q0=y.q0)&&(decide (x.q9=y.q9)&&true))
def HZ{α:Type}(p:α→α→Bool)(xs ys:List α):Bool:=decide (xs.length=ys.length)&&B7 p xs ys
def eqT(t u:a0):Bool:=arK t.q5 u.q5&&(HZ X4 t.q7 u.q7&&(HZ X5 t.z3 u.z3&&(HZ aeW t.z8 u.z8&&(HZ X6 t.z6 u.z6&&(HZ X9 t.j4 u.j4&&(HZ Xq t.j7 u.j7&&(HZ YY t.z2 u.z2&&HZ Yj t.z5 u.z5)))))))
theorem azj(t u:a0)(h:FewT t):MY t u=some (eqT t u):=by
 unfold MY
 rw[beK _ _ (by have:=h.th;omega),beY _ _ (by have:=h.sl;omega),a3K _ _ (by have:=h.st;omega),bgW _ _ (by have:=h.fl;omega),bgQ _ _ (by have:=h.sp;omega),bcW _ _ (by have:=h.lo;omega),bgz _ _ (by have:=h.sa;omega) h.ka,beW _ _ (by have:=h.bl;omega) h.kb]
 unfold eqT HZ
 show((bif (arK t.q5 u.q5 != false)then _ else _:Option Bool).bind _)=_
 generalize arK t.q5 u.q5=b0
 generalize (decide (t.q7.length=u.q7.length)&&B7 X4 t.q7 u.q7)=b1
 generalize (decide (t.z3.length=u.z3.length)&&B7 X5 t.z3 u.z3)=b2
 generalize (decide (t.z8.length=u.z8.length)&&B7 aeW t.z8 u.z8)=b3
 generalize (decide (t.z6.length=u.z6.length)&&B7 X6 t.z6 u.z6)=b4
 generalize (decide (t.j4.length=u.j4.length)&&B7 X9 t.j4 u.j4)=b5
 generalize (decide (t.j7.length=u.j7.length)&&B7 Xq t.j7 u.j7)=b6
 generalize (decide (t.z2.length=u.z2.length)&&B7 YY t.z2 u.z2)=b7
 generalize (decide (t.z5.length=u.z5.length)&&B7 Yj t.z5 u.z5)=b8
 simp only[Option.bind_some]
 cases b0;rfl
 cases b1;rfl
 cases b2;rfl
 cases b3;rfl
 cases b4;rfl
 cases b5;rfl
 cases b6;rfl
 cases b7<;>rfl
theorem bjY(t u:a0)(h:FewT t)(hn:t.q7.length=u.q7.length):loop (rJ t u) 0=some (if B7 X4 t.q7 u.q7=true then .inl ()else .inr false):=by
 refine A7 _ _ X4 hn (by have:=h.th;omega) (fun i x y hx hy=>?_) (by unfold rJ;simp)
 unfold rJ
 rw[decide_eq_true (Int.ofNat_lt.2 (dZ hx)),cond_true,dY,hx,Option.bind_some,dY,hy,Option.bind_some]
 show(bif X4 x y != true then _ else _)=_
 cases X4 x y<;>rfl
theorem bjj(t u:a0)(h:FewT t)(hn:t.z3.length=u.z3.length):loop (rZ t u) 0=some (if B7 X5 t.z3 u.z3=true then .inl ()else .inr false):=by
 refine A7 _ _ X5 hn (by have:=h.sl;omega) (fun i x y hx hy=>?_) (by unfold rZ;simp)
 unfold rZ
 rw[decide_eq_true (Int.ofNat_lt.2 (dZ hx)),cond_true,dY,hx,Option.bind_some,dY,hy,Option.bind_some]
 show(bif X5 x y != true then _ else _)=_
 cases X5 x y<;>rfl
theorem biY(t u:a0)(h:FewT t)(hn:t.z6.length=u.z6.length):loop (rW t u) 0=some (if B7 X6 t.z6 u.z6=true then .inl ()else .inr false):=by
 refine A7 _ _ X6 hn (by have:=h.fl;omega) (fun i x y hx hy=>?_) (by unfold rW;simp)
 unfold rW
 rw[decide_eq_true (Int.ofNat_lt.2 (dZ hx)),cond_true,dY,hx,Option.bind_some,dY,hy,Option.bind_some]
 show(bif X6 x y != true then _ else _)=_
 cases X6 x y<;>rfl
theorem biK(t u:a0)(h:FewT t)(hn:t.z2.length=u.z2.length):loop (rY t u) 0=some (if B7 YY t.z2 u.z2=true then .inl ()else .inr false):=by
 refine A7 _ _ YY hn (by have:=h.sa;omega) (fun i x y hx hy=>?_) (by unfold rY;simp)
 unfold rY
 rw[decide_eq_true (Int.ofNat_lt.2 (dZ hx)),cond_true,dY,hx,Option.bind_some,dY,hy,Option.bind_some,aOj,ayx _ _ (h.ka x (ek hx))]
 unfold YY
 generalize aJZ x.z7 y.z7=b
 by_cases h1:x.q6=y.q6<;>by_cases h2:x.j8=y.j8<;>by_cases h3:x.j5=y.j5<;>cases b<;>simp[h1,h2,h3]
theorem bjW(t u:a0)(h:FewT t)(hn:t.j4.length=u.j4.length):loop (rK t u) 0=some (if B7 X9 t.j4 u.j4=true then .inl ()else .inr false):=by
 refine A7 _ _ X9 hn (by have:=h.sp;omega) (fun i x y hx hy=>?_) (by unfold rK;simp)
 unfold rK
 rw[decide_eq_true (Int.ofNat_lt.2 (dZ hx)),cond_true,dY,hx,Option.bind_some,dY,hy,Option.bind_some]
 show(bif X9 x y != true then _ else _)=_
 cases X9 x y<;>rfl
theorem bjZ(t u:a0)(h:FewT t)(hn:t.z5.length=u.z5.length):loop (rX t u) 0=some (if B7 Yj t.z5 u.z5=true then .inl ()else .inr false):=by
 refine A7 _ _ Yj hn (by have:=h.bl;omega) (fun i x y hx hy=>?_) (by unfold rX;simp)
 unfold rX
 rw[decide_eq_true (Int.ofNat_lt.2 (dZ hx)),cond_true,dY,hx,Option.bind_some,dY,hy,Option.bind_some,aOj,ayx _ _ (h.kb x (ek hx))]
 unfold Yj
 generalize aJZ x.z7 y.z7=b
 generalize (decide (x.q5.q0=y.q5.q0)&&(decide (x.q5.q9=y.q5.q9)&&true))=b1
 generalize decide (x.x4=y.x4)=b2
 by_cases h1:x.w5=y.w5<;>by_cases h2:x.q6=y.q6<;>by_cases h3:x.w8=y.w8<;>cases b1<;>cases b2<;>cases b<;>simp[h1,h2,h3]
theorem bij(t u:a0)(h:FewT t)(hn:t.j7.length=u.j7.length):loop (rQ t u) 0=some (if B7 Xq t.j7 u.j7=true then .inl ()else .inr false):=by
 refine A7 _ _ Xq hn (by have:=h.lo;omega) (fun i x y hx hy=>?_) (by unfold rQ;simp)
 unfold rQ
 rw[decide_eq_true (Int.ofNat_lt.2 (dZ hx)),cond_true,dY,hx,Option.bind_some,dY,hy,Option.bind_some]
 show(bif Xq x y != true then _ else _)=_
 cases Xq x y<;>rfl
theorem ahX(t u:a0)(h:FewT t):sq t u=some (eqT t u):=by
 unfold sq
 rw[a8z,a3K _ _ (by have:=h.st;omega)]
 unfold eqT
 simp only[bjK]
 show((bif (arK t.q5 u.q5 != true)then _ else _:Option Bool).bind _)=_
 generalize arK t.q5 u.q5=b0
 cases b0
 ·rfl
 by_cases n1:t.q7.length=u.q7.length
 case neg=>simp[n1,HZ]
 by_cases n2:t.z3.length=u.z3.length
 case neg=>simp[n1,n2,HZ]
 rw[show HZ aeW t.z8 u.z8=(decide (t.z8.length=u.z8.length)&&B7 aeW t.z8 u.z8)from rfl]
 generalize (decide (t.z8.length=u.z8.length)&&B7 aeW t.z8 u.z8)=b3
 cases b3
 ·simp[n1,n2]
 by_cases n4:t.z6.length=u.z6.length
 case neg=>simp[n1,n2,n4,HZ]
 by_cases n7:t.z2.length=u.z2.length
 case neg=>simp[n1,n2,n4,n7,HZ]
 by_cases n5:t.j4.length=u.j4.length
 case neg=>simp[n1,n2,n4,n7,n5,HZ]
 by_cases n8:t.z5.length=u.z5.length
 case neg=>simp[n1,n2,n4,n7,n5,n8,HZ]
 by_cases n6:t.j7.length=u.j7.length
 case neg=>simp[n1,n2,n4,n7,n5,n8,n6,HZ]
 rw[bjY t u h n1,bjj t u h n2,biY t u h n4,biK t u h n7,bjW t u h n5,bjZ t u h n8,bij t u h n6]
 simp only[n1,n2,n4,n7,n5,n8,n6,HZ,decide_true,Bool.not_true,cond_false,Option.bind_some,Bool.true_and]
 generalize B7 X4 t.q7 u.q7=b1
 generalize B7 X5 t.z3 u.z3=b2
 generalize B7 X6 t.z6 u.z6=b4
 generalize B7 X9 t.j4 u.j4=b5
 generalize B7 Xq t.j7 u.j7=b6
 generalize B7 YY t.z2 u.z2=b7
 generalize B7 Yj t.z5 u.z5=b8
 cases b1;rfl
 cases b2;rfl
 cases b4;rfl
 cases b7;cases b5<;>cases b6<;>rfl
 cases b5;rfl
 cases b8;cases b6<;>rfl
 cases b6<;>rfl
theorem avK(l:List ByteArray):aJZ l l=true:=by
 unfold aJZ
 rw[decide_eq_true rfl,Bool.true_and]
 exact Fj (fun x _=>decide_eq_true rfl)
theorem a4K(t:a0):eqT t t=true:=by
 unfold eqT HZ
 rw[Fj (p:=X4) (fun x _=>by simp[X4]),Fj (p:=X5) (fun x _=>by simp[X5]),Fj (p:=aeW) (fun x _=>by simp[aeW]),Fj (p:=X6) (fun x _=>by simp[X6]),Fj (p:=X9) (fun x _=>by simp[X9]),Fj (p:=Xq) (fun x _=>by simp[Xq]),Fj (p:=YY) (fun x _=>by simp[YY,avK]),Fj (p:=Yj) (fun x _=>by simp[Yj,avK])]
 simp[arK]
structure bkZ(t:a0):Prop where
 sl:SpV t.z3
 ne:Nest t.z3
 st:StV t.j4
 sp:0≤t.q5.q0∧t.q5.q0≤t.q5.q9∧t.q5.q9≤1000000000000
theorem aPz(t:a0)(hz:Siz t)(ht:t.q7.length≤1000000):Ok (Cz t) (fun r=>r=0→bkZ t):=by
 have hs:Ok (p9 t.z3) (fun r=>r=0→SpV t.z3∧Nest t.z3):=by
  obtain⟨r,e,h1⟩:=aqq t.z3 hz.sl hz.nSl
  have h2:=(aaK t.z3 hz.sl hz.nSl).of_eq e
  exact⟨r,e,fun e0=>⟨h1 e0,h2 e0⟩⟩
 unfold Cz
 refine ax (Q:=fun r=>r=0→(SpV t.z3∧Nest t.z3)∧StV t.j4) ?_ (fun r hr=>?_)
 ·unfold FX
  refine f8 (aaW t hz.th hz.nTh) (fun r hr=>?_) (fun r _=>?_)
  ·exact cQ (fun h0=>cq (fun e=>absurd e h0)) (fun h0=>absurd h0 hr)
  ·dsimp only
   refine cQ (fun h0=>cq (fun e=>absurd e h0)) (fun _=>?_)
   refine ax hs (fun r4 h4=>?_)
   by_cases h40:r4=0
   ·have hd:=h4 h40
    refine ax (KV _ _ _ hz.sl) (fun r5 _=>?_)
    refine cQ (fun h0=>cq (fun e=>absurd e h0)) (fun _=>?_)
    refine ax (S2 _ _ ht hz.st) (fun r6 h6=>?_)
    refine cQ (fun h0=>cq (fun e=>absurd e h0)) (fun e6=>?_)
    refine ax (U5 _ hz.fl) (fun r7 _=>?_)
    refine ax (Lz _ _ _ hz.fl) (fun r8 _=>?_)
    refine ax (LJ _ _ _ hz.fl) (fun r9 _=>?_)
    refine cQ (fun h0=>cq (fun e=>absurd e h0)) (fun _=>?_)
    refine ax (RQ _ hz.sa hz.nSa) (fun r10 _=>?_)
    refine ax (JY _ _ _ hz.sa) (fun r11 _=>?_)
    refine cQ (fun h0=>cq (fun e=>absurd e h0)) (fun _=>?_)
    refine ax (aRQ _ hz.sp hz.nSp) (fun r12 h12=>?_)
    refine cQ (fun h0=>cq (fun e=>absurd e h0)) (fun e12=>?_)
    have he:=h12 e12
    refine ax (RX _ hz.bl hz.nBl) (fun r13 _=>?_)
    refine ax (K6 _ _ _ hz.bl) (fun r14 _=>?_)
    refine cQ (fun h0=>cq (fun e=>absurd e h0)) (fun _=>?_)
    refine ax (WZ _ _ hz.lo) (fun r15 _=>?_)
    exact cq (fun _=>⟨hd,he⟩)
   ·have:Ok (iY r4 r.1 t.z3) (fun q=>q=r4):=by
     unfold iY
     exact cQ (fun _=>cq rfl) (fun e=>absurd e h40)
    refine ax this (fun r5 h5=>?_)
    subst h5
    exact cQ (fun h0=>cq (fun e=>absurd e h0)) (fun e=>absurd e h40)
 ·refine cQ (fun h0=>cq (fun e=>absurd e h0)) (fun e=>?_)
  have hd:=hr e
  refine ax (Q:=fun v=>v=false→0≤t.q5.q0∧t.q5.q0≤t.q5.q9∧t.q5.q9≤1000000000000) ?_ (fun v hv=>?_)
  ·refine bY (fun _=>cq (by simp)) (fun g1=>?_)
   refine bY (fun _=>cq (by simp)) (fun g2=>?_)
   exact cq (fun g3=>⟨by omega,by omega,by simpa using g3⟩)
  refine cj (fun _=>cq (fun e=>by omega)) (fun hv0=>?_)
  refine ax (abq t hz) (fun v _=>?_)
  exact cj (fun _=>cq (fun _=>⟨hd.1.1,hd.1.2,hd.2,hv hv0⟩)) (fun _=>cq (fun _=>⟨hd.1.1,hd.1.2,hd.2,hv hv0⟩))
def noT(l:List dW):a0:={q5:=({q0:=0,q9:=0}:aZ),q7:=l,z3:=[],z8:=[],z6:=[],z2:=[],j4:=[],z5:=[],j7:=[]}
theorem FewT.no{l:List dW}(h:l.length≤1000):FewT (noT l):=⟨h,by simp[noT],by simp[noT],by simp[noT],by simp[noT],by simp[noT],by simp[noT],by simp[noT],by simp[noT],by simp[noT]⟩
theorem bfW(t:a0)(s:aZ)(hz:Siz t)(hf:FewT t):∃r,FewT r.1∧PW t s=some r∧xK t s=some r:=by
 have hth:=hf.th
 have hsl:=hf.sl
 have hst:=hf.st
 have hfl:=hf.fl
 have hsa:=hf.sa
 have hsp:=hf.sp
 have hbl:=hf.bl
 have hlo:=hf.lo
 obtain⟨e,he,hv⟩:=aPz t hz (by omega)
 unfold PW xK
 rw[←S6 t hz (by omega),he,Option.bind_some,Option.bind_some]
 by_cases h0:e=0
 case neg =>
  rw[decide_eq_false h0]
  exact⟨(noT [],e),FewT.no (by simp),rfl,rfl⟩
 have V:=hv h0
 rw[decide_eq_true h0,Bool.not_true,cond_false,cond_false,YZ,HK,Option.bind_some,Option.bind_some]
 by_cases h1:0≤s.q0∧s.q0<s.q9∧s.q9≤1000000000000
 case neg =>
  rw[decide_eq_false h1]
  exact⟨(noT [],1),FewT.no (by simp),rfl,rfl⟩
 rw[decide_eq_true h1,Bool.not_true,cond_false,cond_false,Y9]
 unfold nY
 rw[Option.bind_some]
 dsimp only
 have hsp2:=V.sp
 have m1:max s.q0 t.q5.q0=max t.q5.q0 s.q0:=by omega
 have m2:min s.q9 t.q5.q9=min t.q5.q9 s.q9:=by omega
 rw[m1,m2]
 by_cases h2:max t.q5.q0 s.q0<min t.q5.q9 s.q9
 case neg =>
  rw[decide_eq_false h2,decide_eq_true (by omega:min t.q5.q9 s.q9≤max t.q5.q0 s.q0)]
  exact⟨(noT t.q7,0),FewT.no hth,rfl,rfl⟩
 rw[decide_eq_true h2,decide_eq_false (by omega : ¬min t.q5.q9 s.q9≤max t.q5.q0 s.q0),Bool.not_true,cond_false,cond_false]
 generalize hc1:max t.q5.q0 s.q0=a at *
 generalize hc2:min t.q5.q9 s.q9=b at *
 have hab:0≤a∧a<b∧b≤1000000000000:=by omega
 have w1:w64 (w64 (a-s.q0)+s.q0)=a:=by rw[cX (n:=a-s.q0) (by omega),cX (by omega)];omega
 have w2:w64 (w64 (b-s.q0)+s.q0)=b:=by rw[cX (n:=b-s.q0) (by omega),cX (by omega)];omega
 rw[bfV t s _ (by omega),awX,aDV,apj]
 unfold A6
 simp only[awZ,axZ,UK,w1,w2,Option.bind_some]
 obtain⟨r1,k1,e1,f1⟩:=axW (c:={q0:=a,q9:=b}) hsl V.ne V.sl ⟨hab.1,hab.2.2⟩
 obtain⟨r2,e2,k2⟩:=aKW t.z8 {q0:=a,q9:=b} hst
 obtain⟨r3,e3,k3⟩:=aUQ t.z6 {q0:=a,q9:=b} hfl
 obtain⟨r4,e4,k4,p4⟩:=aDx t.z2 {q0:=a,q9:=b} hsa hf.ka
 obtain⟨r5,k5,e5,f5⟩:=a1q (c:={q0:=a,q9:=b}) hsp V.st hab
 obtain⟨r6,e6,k6,p6⟩:=aMz t.z5 {q0:=a,q9:=b} hbl hf.kb
 obtain⟨r7,e7,k7⟩:=aLQ t.j7 {q0:=a,q9:=b} hlo
 have g2:loop (nX t.z8 {q0:=a,q9:=b}) ([],0)=some r2:=by unfold zX at e2;simpa using e2
 have g3:loop (rj t.z6 {q0:=a,q9:=b}) ([],0)=some r3:=by unfold B4 at e3;simpa using e3
 have g4:loop (o6 t.z2 {q0:=a,q9:=b}) ([],0)=some r4:=by unfold xX at e4;simpa using e4
 have g6:loop (nQ t.z5 {q0:=a,q9:=b}) ([],0)=some r6:=by unfold zQ at e6;simpa using e6
 have g7:loop (nz t.j7 {q0:=a,q9:=b}) ([],0)=some r7:=by unfold zj at e7;simpa using e7
 rw[e1,e2,e3,e4,e5,e6,e7,f1]
 simp only[Option.bind_some,g2,g3,g4,f5,g6,g7]
 refine⟨_,?_,rfl,rfl⟩
 exact⟨hth,by simp only;omega,by simp only;omega,by simp only;omega,by simp only;omega,by simp only;omega,by simp only;omega,by simp only;omega,p4,p6⟩
theorem bcV(t:a0):Ok (s9 t) (fun b=>b=true→t.q7.length≤1000∧t.z3.length≤1000∧t.z8.length≤1000∧t.z6.length≤1000∧t.z2.length≤1000∧t.j4.length≤1000∧t.z5.length≤1000∧t.j7.length≤1000):=by
 unfold s9
 refine ax (Q:=fun b=>b=true→t.q7.length≤1000∧t.z3.length≤1000∧t.z8.length≤1000∧t.z6.length≤1000∧t.z2.length≤1000∧t.j4.length≤1000∧t.z5.length≤1000∧t.j7.length≤1000) ?_ (fun v hv=>cq hv)
 refine bY (fun h1=>?_) (fun _=>cq (by simp))
 refine bY (fun h2=>?_) (fun _=>cq (by simp))
 refine bY (fun h3=>?_) (fun _=>cq (by simp))
 refine bY (fun h4=>?_) (fun _=>cq (by simp))
 refine bY (fun h5=>?_) (fun _=>cq (by simp))
 refine bY (fun h6=>?_) (fun _=>cq (by simp))
 refine bY (fun h7=>?_) (fun _=>cq (by simp))
 refine cq (fun h8=>?_)
 have:=of_decide_eq_true h8
 omega
theorem aLJ:zY=some true:=rfl
theorem bkX{t:a0}(h:pV t)(hf:t.q7.length≤1000∧t.z3.length≤1000∧t.z8.length≤1000∧t.z6.length≤1000∧t.z2.length≤1000∧t.j4.length≤1000∧t.z5.length≤1000∧t.j7.length≤1000):FewT t:=by
 have hz:=aYJ h
 obtain⟨h1,h2,h3,h4,h5,h6,h7,h8⟩:=hf
 exact⟨h1,h2,h3,h4,h5,h6,h7,h8,fun x hx=>by have:=(hz.nSa x hx).1;unfold Shk;omega,fun x hx=>by have:=(hz.nBl x hx).1;unfold Shk;omega⟩
theorem traceChecks_holds(t u:a0)(s:aZ)(ht:pV t):iW t u s=some true:=by
 have:Ok (iW t u s) (fun b=>b=true):=by
  unfold iW
  rw[aLJ]
  refine ax (Q:=fun b=>b=false→FewT t) ?_ (fun v hv=>?_)
  ·refine ax (bcV t) (fun b hb=>?_)
   refine d4 (fun _=>cq (by simp)) (fun e=>?_)
   exact ax (bcV u).yes (fun b _=>cq (fun _=>bkX ht (hb e)))
  ·refine cj (fun _=>cq rfl) (fun e=>?_)
   have hf:=hv e
   have hz:=aYJ ht
   rw[←S6 t hz (by have:=hf.th;omega)]
   obtain⟨r,hr,_⟩:=aPz t hz (by have:=hf.th;omega)
   obtain⟨c,hc,hc1,hc2⟩:=bfW t s hz hf
   rw[hr,azj t u hf,ahX t u hf,hc1,hc2]
   simp only[Option.bind_some,decide_true,Bool.not_true,cond_false,cond_true,ahX c.1 c.1 hc,a4K]
   refine⟨_,rfl,?_⟩
   simp
 obtain⟨r,e,rfl⟩:=this
 exact e
end Go.VM
