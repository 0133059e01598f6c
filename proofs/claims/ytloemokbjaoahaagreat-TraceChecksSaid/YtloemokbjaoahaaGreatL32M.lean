/- The law holds: plain mathematics on what the functions compute. -/
import Derived.Test.YtloemokbjaoahaaGreatL32M1
namespace Go.VM
theorem a7K(l:List cV)(c:aZ)(hl:l.length≤1000)(hr:∀x∈l,0≤x.fAt∧x.fAt≤1000000000000)(hc:0≤c.fFrom∧c.fFrom≤1000000000000):loop (p5 l c) ([],0)=some (fR c l []):=by
 have:Ok (loop (p5 l c) ([],0)) (fun r=>r=fR c l []):=by
  refine K7 l.length (fun a i=>fR c (l.drop i) a=fR c l []∧a.length≤i) (by omega) ⟨rfl,by simp⟩ (fun a i hI h2=>?_)
  unfold p5
  dsimp only
  refine bY (fun hi=>?_) (fun hi=>d9 ?_)
  ·have hi':i<l.length:=by omega
   obtain⟨y,hy⟩ : ∃y,l[i]? = some y:=⟨_,bk hi'⟩
   have hy2:=hr y (ek hy)
   have hla:=hI.2
   have hd:l.drop i=y::l.drop (i+1):=by
    rw[List.drop_eq_getElem_cons hi']
    rw[bk hi']at hy
    rw[Option.some.inj hy]
   have hh:(l.drop (i+1)).head? = l[i+1]?:=by rw[List.head?_drop]
   rw[dY,hy,Option.bind_some,D5 (n:=l.length) hi' (by omega),cX (n:=y.fAt-c.fFrom) (by omega)]
   have hroom:∀z:cV,Cj 32 (a.length+[z].length)=true:=fun z=>B7 (by simp only[fk,List.length_nil];omega) (by simp only[fk,List.length_nil];omega)
   refine ax (Q:=fun b=>b=nR c a y l[i+1]?) ?_ (fun b hb=>jx ⟨hi',rfl,?_,?_⟩)
   ·refine ax (Q:=fun b=>b=decide (Q4 c y l[i+1]?)) ?_ (fun v hv=>?_)
    ·refine bY (fun g=>cq ?_) (fun g=>?_)
     ·have:l[i+1]? = none:=List.getElem?_eq_none (by omega)
      rw[this];exact(decide_eq_true (show Q4 c y none from trivial)).symm
     ·obtain⟨z,hz⟩ : ∃z,l[i+1]? = some z:=⟨_,bk (by omega)⟩
      rw[dY,hz]
      simp only[Option.bind_some]
      refine cQ (fun g1=>cq (by simp[Q4,g1])) (fun g1=>cq (by simp[Q4,g1]))
    ·subst hv
     unfold nR
     by_cases g:y.fAt≤c.fFrom
     ·have g2 : ¬c.fFrom<y.fAt:=by omega
      rw[if_pos g,decide_eq_true g,cond_true,Option.bind_some]
      by_cases g3:Q4 c y l[i+1]?
      ·rw[if_pos g3,decide_eq_true g3,cond_true,hroom,cond_true,Option.bind_some,decide_eq_false g2,cond_false,Option.bind_some,cond_false]
       exact cq rfl
      ·rw[if_neg g3,decide_eq_false g3,cond_false,Option.bind_some,decide_eq_false g2,cond_false,Option.bind_some,cond_false]
       exact cq rfl
     ·rw[if_neg g,decide_eq_false g,cond_false,Option.bind_some,cond_false,Option.bind_some,decide_eq_true (by omega:c.fFrom<y.fAt),cond_true,Option.bind_some]
      refine bY (fun g2=>?_) (fun g2=>cq (by rw[if_neg g2]))
      rw[if_pos g2,hroom,cond_true]
      exact cq rfl
   ·subst hb
    have:=hI.1
    rw[hd]at this
    simp only[fR,hh]at this
    exact this
   ·subst hb
    have:=a8Y c a y l[i+1]?
    simp only;omega
  ·have:i=l.length:=by omega
   subst this
   have:=hI.1
   rw[List.drop_length]at this
   exact this
 obtain⟨r,e,rfl⟩:=this
 exact e
theorem aTq{l:List cV}{c:aZ}(hl:l.length≤1000)(hv:StV l)(hc:0≤c.fFrom∧c.fFrom<c.fTo∧c.fTo≤1000000000000):∃r,r.length≤l.length∧C7 l c=some r∧tj l c=some r:=by
 obtain⟨h1,h2⟩:=a5x l c hl hv.rng ⟨hc.1,by omega⟩
 refine⟨_,h2,?_,?_⟩
 ·unfold C7
  rw[h1,Option.bind_some]
 ·unfold tj
  rw[a7K l c hl hv.rng ⟨hc.1,by omega⟩,Option.bind_some,(adV c hc.2.1 l hv.srt [] (fun o ho=>by simp at ho)).1]
theorem M5{α β:Type}{step:List β×Int→Option ((List β×Int) ⊕ List β)}(xs:List α)(P:β→Prop)(hl:xs.length≤100000)
  (h1:∀(i:Nat) y a,xs[i]? = some y→a.length≤i→i<xs.length→Ok (step (a,(i:Int))) (fun s=>∃b,s = .inl (b,((i+1:Nat):Int))∧(b=a∨∃z,b=a++[z]∧P z))) (h2:∀a,step (a,(xs.length:Int))=some (.inr a)) :
  ∃r,loop step ([],0)=some r∧r.length≤xs.length∧∀z∈r,P z:=by
 refine K7 xs.length (fun a i=>a.length≤i∧∀z∈a,P z) (by omega) ⟨by simp,by simp⟩ (fun a i hI h2'=>?_)
 by_cases hi:i<xs.length
 ·obtain⟨s,e,b,rfl,hb⟩:=h1 i _ a (bk hi) hI.1 hi
  rw[e]
  refine jx ⟨hi,rfl,?_⟩
  rcases hb with rfl | ⟨z,rfl,hz⟩
  ·exact⟨by have:=hI.1;simp only;omega,hI.2⟩
  ·refine⟨by have:=hI.1;simp;omega,fun u hu=>?_⟩
   rcases jk.1 hu with hu | hu
   ·exact hI.2 u hu
   ·simp only[ew]at hu;subst hu;exact hz
 ·have:i=xs.length:=by omega
  subst this
  rw[h2]
  exact d9 hI
theorem aFV(l:List cZ)(c:aZ)(hl:l.length≤1000):∃r,xZ l c=some r∧r.length≤l.length:=by
 obtain⟨r,h1,h2,_⟩:=M5 (step:=m5 l c) l (fun _=>True) (by omega) (fun i y a hy ha hi=>by
  have hroom:∀z:cZ,Cj 56 (a.length+[z].length)=true:=fun z=>B7 (by simp only[fk,List.length_nil];omega) (by simp only[fk,List.length_nil];omega)
  unfold m5
  dsimp only
  rw[decide_eq_true (Int.ofNat_lt.2 hi),cond_true,dY,hy,Option.bind_some,D5 (n:=l.length) hi (by omega)]
  refine ax (Q:=fun b=>b=a∨∃z,b=a++[z]∧True) ?_ (fun b hb=>cq ⟨b,rfl,hb⟩)
  refine ax (Q:=Yes) ⟨_,rfl,trivial⟩ (fun r _=>?_)
  refine d4 (fun _=>cq (.inl rfl)) (fun _=>?_)
  refine ax (Q:=Yes) (by repeat' (first | (with_reducible first | intro _ | exact dj | exact c8 | exact dJ | exact dQ | refine ax dX fun _ _=>?_ | apply cQ | apply bY | apply d4 | apply cj | apply ax (Q:=Yes)) | dsimp only)) (fun v _=>?_)
  rw[hroom,cond_true]
  exact cq (.inr ⟨_,rfl,trivial⟩)) (fun a=>by unfold m5;simp)
 exact⟨r,by unfold xZ;rw[h1,Option.bind_some],h2⟩
theorem amV(c:aZ)(n:Int):Ok (lz c n) Yes:=by
 unfold lz
 repeat' (first | (with_reducible first | intro _ | exact dj | exact c8 | exact dJ | exact dQ | refine ax dX fun _ _=>?_ | apply cQ | apply bY | apply d4 | apply cj | apply ax (Q:=Yes)) | dsimp only)
theorem aPj(l:List d3)(c:aZ)(hl:l.length≤1000):∃r,z1 l c=some r∧r.length≤l.length:=by
 obtain⟨r,h1,h2,_⟩:=M5 (step:=qJ l c) l (fun _=>True) (by omega) (fun i y a hy ha hi=>by
  have hroom:∀z:d3,Cj 56 (a.length+[z].length)=true:=fun z=>B7 (by simp only[fk,List.length_nil];omega) (by simp only[fk,List.length_nil];omega)
  unfold qJ
  dsimp only
  rw[decide_eq_true (Int.ofNat_lt.2 hi),cond_true,dY,hy,Option.bind_some,D5 (n:=l.length) hi (by omega)]
  refine ax (Q:=fun b=>b=a∨∃z,b=a++[z]∧True) ?_ (fun b hb=>cq ⟨b,rfl,hb⟩)
  refine ax (Q:=Yes) (by repeat' (first | (with_reducible first | intro _ | exact dj | exact c8 | exact dJ | exact dQ | refine ax dX fun _ _=>?_ | apply cQ | apply bY | apply d4 | apply cj | (refine Ok.yes (amV _ _)<;>(first | assumption | omega | rw[cX]<;>omega)) | apply ax (Q:=Yes)) | dsimp only)) (fun v _=>?_)
  refine cj (fun _=>?_) (fun _=>cq (.inl rfl))
  rw[hroom,cond_true]
  exact cq (.inr ⟨_,rfl,trivial⟩)) (fun a=>by unfold qJ;simp)
 exact⟨r,by unfold z1;rw[h1,Option.bind_some],h2⟩
theorem axq(l:List cY)(c:aZ)(hl:l.length≤1000){P:List ByteArray→Prop}(hP:∀x∈l,P x.fStack):∃r,v8 l c=some r∧r.length≤l.length∧∀x∈r,P x.fStack:=by
 obtain⟨r,h1,h2,h3⟩:=M5 (step:=oQ l c) l (fun x=>P x.fStack) (by omega) (fun i y a hy ha hi=>by
  have hroom:∀z:cY,Cj 48 (a.length+[z].length)=true:=fun z=>B7 (by simp only[fk,List.length_nil];omega) (by simp only[fk,List.length_nil];omega)
  unfold oQ
  dsimp only
  rw[decide_eq_true (Int.ofNat_lt.2 hi),cond_true,dY,hy,Option.bind_some,D5 (n:=l.length) hi (by omega)]
  refine ax (Q:=fun b=>b=a∨∃z,b=a++[z]∧P z.fStack) ?_ (fun b hb=>cq ⟨b,rfl,hb⟩)
  refine ax (amV _ _) (fun v _=>?_)
  refine cj (fun _=>?_) (fun _=>cq (.inl rfl))
  rw[hroom,cond_true]
  exact cq (.inr ⟨_,rfl,hP y (ek hy)⟩)) (fun a=>by unfold oQ;simp)
 exact⟨r,by unfold v8;rw[h1,Option.bind_some],h2,h3⟩
theorem aEY(l:List dq)(c:aZ)(hl:l.length≤1000){P:List ByteArray→Prop}(hP:∀x∈l,P x.fStack):∃r,xQ l c=some r∧r.length≤l.length∧∀x∈r,P x.fStack:=by
 obtain⟨r,h1,h2,h3⟩:=M5 (step:=mY l c) l (fun x=>P x.fStack) (by omega) (fun i y a hy ha hi=>by
  have hroom:∀z:dq,Cj 72 (a.length+[z].length)=true:=fun z=>B7 (by simp only[fk,List.length_nil];omega) (by simp only[fk,List.length_nil];omega)
  unfold mY
  dsimp only
  rw[decide_eq_true (Int.ofNat_lt.2 hi),cond_true,dY,hy,Option.bind_some,D5 (n:=l.length) hi (by omega)]
  refine ax (Q:=fun b=>b=a∨∃z,b=a++[z]∧P z.fStack) ?_ (fun b hb=>cq ⟨b,rfl,hb⟩)
  refine ax (Q:=Yes) ⟨_,rfl,trivial⟩ (fun r _=>?_)
  refine cj (fun _=>?_) (fun _=>cq (.inl rfl))
  refine ax (Q:=Yes) (by repeat' (first | (with_reducible first | intro _ | exact dj | exact c8 | exact dJ | exact dQ | refine ax dX fun _ _=>?_ | apply cQ | apply bY | apply d4 | apply cj | apply ax (Q:=Yes)) | dsimp only)) (fun v _=>?_)
  rw[hroom,cond_true]
  exact cq (.inr ⟨_,rfl,hP y (ek hy)⟩)) (fun a=>by unfold mY;simp)
 exact⟨r,by unfold xQ;rw[h1,Option.bind_some],h2,h3⟩
theorem aFq(l:List f7)(c:aZ)(hl:l.length≤1000):∃r,xX l c=some r∧r.length≤l.length:=by
 obtain⟨r,h1,h2,_⟩:=M5 (step:=nj l c) l (fun _=>True) (by omega) (fun i y a hy ha hi=>by
  have hroom:∀z:f7,Cj 32 (a.length+[z].length)=true:=fun z=>B7 (by simp only[fk,List.length_nil];omega) (by simp only[fk,List.length_nil];omega)
  unfold nj
  dsimp only
  rw[decide_eq_true (Int.ofNat_lt.2 hi),cond_true,dY,hy,Option.bind_some,D5 (n:=l.length) hi (by omega)]
  refine ax (Q:=fun b=>b=a∨∃z,b=a++[z]∧True) ?_ (fun b hb=>cq ⟨b,rfl,hb⟩)
  refine ax (Q:=Yes) ⟨_,rfl,trivial⟩ (fun r _=>?_)
  refine cj (fun _=>?_) (fun _=>cq (.inl rfl))
  rw[hroom,cond_true]
  exact cq (.inr ⟨_,rfl,trivial⟩)) (fun a=>by unfold nj;simp)
 exact⟨r,by unfold xX;rw[h1,Option.bind_some],h2⟩
def AQ{α:Type}(p:α→α→Bool)(xs ys:List α):Bool:=(xs.zip ys).all fun z=>p z.1 z.2
theorem DJ{α:Type}{p:α→α→Bool}{xs:List α}(h:∀x∈xs,p x x=true):AQ p xs xs=true:=by
 unfold AQ
 rw[lw]
 intro z hz
 induction xs with
 | nil=>simp at hz
 | cons x xs ih =>
  rw[List.zip_cons_cons]at hz
  rcases iw.1 hz with rfl | hz
  ·exact h x (by simp)
  ·exact ih (fun y hy=>h y (List.mem_cons_of_mem _ hy)) hz
theorem yW{α:Type}{step:Int→Option (Int ⊕ (Unit ⊕ Bool))}(xs ys:List α)(p:α→α→Bool)(hn:xs.length=ys.length)(hl:xs.length≤9223372036854775807)
  (h1:∀(i:Nat) x y,xs[i]? = some x→ys[i]? = some y→step (i:Int)=some (if p x y=true then .inl (w64 ((i:Int)+1))else .inr (.inr false))) (h2:step (xs.length:Int)=some (.inr (.inl ()))) :
  loop step 0=some (if AQ p xs ys=true then .inl ()else .inr false):=by
 have hz:(xs.zip ys).length=xs.length:=by rw[List.length_zip];omega
 rw[J4 (xs.zip ys) (fun _ z=>if p z.1 z.2=true then none else some (.inr false)) (.inl ()) (by rw[hz];simp[fV];omega) (fun i z hi=>?_) (by rw[hz,h2])]
 ·congr 1
  have:∀(l:List (α×α)) (i:Nat),(u4 (fun _ z=>if p z.1 z.2=true then none else some (Sum.inr false:Unit ⊕ Bool)) l i).getD (.inl ())=if(l.all fun z=>p z.1 z.2)=true then .inl ()else .inr false:=by
   intro l
   induction l with
   | nil=>intro i;rfl
   | cons z l ih =>
    intro i
    simp only[u4]
    by_cases h:p z.1 z.2=true
    ·have e2:((z::l).all fun z=>p z.1 z.2)=(l.all fun z=>p z.1 z.2):=by simp[h]
     rw[if_pos h,e2];exact ih (i+1)
    ·have e2:((z::l).all fun z=>p z.1 z.2)=false:=by simp[h]
     rw[if_neg h,e2];rfl
  exact this _ _
 ·have hil:=dZ hi
  rw[hz]at hil
  rw[List.getElem?_zip_eq_some]at hi
  rw[h1 i z.1 z.2 hi.1 hi.2,O7 (by omega)]
  by_cases h:p z.1 z.2=true<;>simp[h]
def U6(x y:dW):Bool:=(decide (x.fId=y.fId)&&(decide (x.fName=y.fName)&&(decide (x.fDomain=y.fDomain)&&true)))
def WW(x y:aY):Bool:=(decide (x.fThread=y.fThread)&&(decide (x.fParent=y.fParent)&&(decide (x.fDepth=y.fDepth)&&(decide (x.fName=y.fName)&&(decide (x.fSpan.fFrom=y.fSpan.fFrom)&&(decide (x.fSpan.fTo=y.fSpan.fTo)&&(decide (x.fSelf=y.fSelf)&&(decide (x.fOpen=y.fOpen)&&true))))))))
def aaJ(x y:cZ):Bool:=(decide (x.fThread=y.fThread)&&(decide (x.fState=y.fState)&&(decide (x.fSpan.fFrom=y.fSpan.fFrom)&&(decide (x.fSpan.fTo=y.fSpan.fTo)&&(decide (x.fCpu=y.fCpu)&&(decide (x.fOn=y.fOn)&&(decide (x.fBy=y.fBy)&&true)))))))
def VJ(x y:d3):Bool:=(decide (x.fId=y.fId)&&(decide (x.fFrom.fThread=y.fFrom.fThread)&&(decide (x.fFrom.fSerial=y.fFrom.fSerial)&&(decide (x.fTo.fThread=y.fTo.fThread)&&(decide (x.fTo.fSerial=y.fTo.fSerial)&&(decide (x.fSend=y.fSend)&&(decide (x.fRecv=y.fRecv)&&true)))))))
def V9(x y:cV):Bool:=(decide (x.fName=y.fName)&&(decide (x.fAt=y.fAt)&&(decide (x.fValue=y.fValue)&&true)))
def WK(x y:f7):Bool:=(decide (x.fThread=y.fThread)&&(decide (x.fSpan.fFrom=y.fSpan.fFrom)&&(decide (x.fSpan.fTo=y.fSpan.fTo)&&(decide (x.fCount=y.fCount)&&true))))
def aDq(a b:List ByteArray):Bool:=decide (a.length=b.length)&&AQ (fun x y=>decide (x=y)) a b
def Vq(x y:cY):Bool:=decide (x.fThread=y.fThread)&&(decide (x.fAt=y.fAt)&&(decide (x.fWeight=y.fWeight)&&aDq x.fStack y.fStack))
def Vj(x y:dq):Bool:=decide (x.fId=y.fId)&&(decide (x.fThread=y.fThread)&&(decide (x.fSize=y.fSize)&&((decide (x.fSpan.fFrom=y.fSpan.fFrom)&&(decide (x.fSpan.fTo=y.fSpan.fTo)&&true))&&(decide (x.fLive=y.fLive)&&aDq x.fStack y.fStack))))
def Shk(l:List ByteArray):Prop:=l.length≤9223372036854775807
theorem baK(a b:Nat):decide ((a:Int)=(b:Int))=decide (a=b):=by
 by_cases h:a=b
 ·simp[h]
 ·have : ¬(a:Int)=(b:Int):=by omega
  simp[h,this]
theorem IY{α:Type}{step:Int→Option (Int ⊕ (Unit ⊕ Bool))}(xs ys:List α)(p:α→α→Bool)(hl:xs.length≤9223372036854775807)(h1:xs.length=ys.length→loop step 0=some (if AQ p xs ys=true then .inl ()else .inr false)) :
  (bif (!decide ((xs.length:Int)=(ys.length:Int)))then some false else((loop step 0).bind fun | .inl _=>some true | .inr rv=>some rv))=some (decide (xs.length=ys.length)&&AQ p xs ys):=by
 rw[baK]
 by_cases h:xs.length=ys.length
 ·rw[decide_eq_true h,h1 h]
  cases AQ p xs ys<;>rfl
 ·rw[decide_eq_false h];rfl
theorem a7x(xs ys:List dW)(hl:xs.length≤9223372036854775807):lj xs ys=some (decide (xs.length=ys.length)&&AQ U6 xs ys):=by
 refine IY xs ys U6 hl (fun h=>yW xs ys U6 h hl (fun i x y hx hy=>?_) (by unfold j8;simp))
 unfold j8
 rw[decide_eq_true (Int.ofNat_lt.2 (dZ hx)),cond_true,dY,hx,Option.bind_some,dY,hy,Option.bind_some]
 show(bif U6 x y != true then _ else _)=_
 cases U6 x y<;>rfl
theorem a6Y(xs ys:List aY)(hl:xs.length≤9223372036854775807):mz xs ys=some (decide (xs.length=ys.length)&&AQ WW xs ys):=by
 refine IY xs ys WW hl (fun h=>yW xs ys WW h hl (fun i x y hx hy=>?_) (by unfold kY;simp))
 unfold kY
 rw[decide_eq_true (Int.ofNat_lt.2 (dZ hx)),cond_true,dY,hx,Option.bind_some,dY,hy,Option.bind_some]
 show(bif WW x y != true then _ else _)=_
 cases WW x y<;>rfl
theorem aUZ(xs ys:List cZ)(hl:xs.length≤9223372036854775807):j4 xs ys=some (decide (xs.length=ys.length)&&AQ aaJ xs ys):=by
 refine IY xs ys aaJ hl (fun h=>yW xs ys aaJ h hl (fun i x y hx hy=>?_) (by unfold kV;simp))
 unfold kV
 rw[decide_eq_true (Int.ofNat_lt.2 (dZ hx)),cond_true,dY,hx,Option.bind_some,dY,hy,Option.bind_some]
 show(bif aaJ x y != true then _ else _)=_
 cases aaJ x y<;>rfl
theorem a2J(xs ys:List cZ):zx xs ys=j4 xs ys:=rfl
theorem a5Z(xs ys:List d3)(hl:xs.length≤9223372036854775807):nY xs ys=some (decide (xs.length=ys.length)&&AQ VJ xs ys):=by
 refine IY xs ys VJ hl (fun h=>yW xs ys VJ h hl (fun i x y hx hy=>?_) (by unfold l3;simp))
 unfold l3
 rw[decide_eq_true (Int.ofNat_lt.2 (dZ hx)),cond_true,dY,hx,Option.bind_some,dY,hy,Option.bind_some]
 show(bif VJ x y != true then _ else _)=_
 cases VJ x y<;>rfl
theorem a6K(xs ys:List cV)(hl:xs.length≤9223372036854775807):nJ xs ys=some (decide (xs.length=ys.length)&&AQ V9 xs ys):=by
 refine IY xs ys V9 hl (fun h=>yW xs ys V9 h hl (fun i x y hx hy=>?_) (by unfold l2;simp))
 unfold l2
 rw[decide_eq_true (Int.ofNat_lt.2 (dZ hx)),cond_true,dY,hx,Option.bind_some,dY,hy,Option.bind_some]
 show(bif V9 x y != true then _ else _)=_
 cases V9 x y<;>rfl
theorem a6j(xs ys:List f7)(hl:xs.length≤9223372036854775807):n9 xs ys=some (decide (xs.length=ys.length)&&AQ WK xs ys):=by
 refine IY xs ys WK hl (fun h=>yW xs ys WK h hl (fun i x y hx hy=>?_) (by unfold lW;simp))
 unfold lW
 rw[decide_eq_true (Int.ofNat_lt.2 (dZ hx)),cond_true,dY,hx,Option.bind_some,dY,hy,Option.bind_some]
 show(bif WK x y != true then _ else _)=_
 cases WK x y<;>rfl
theorem aqj(xs ys:List ByteArray)(hl:xs.length≤9223372036854775807):kj xs ys=some (aDq xs ys):=by
 refine IY xs ys (fun x y=>decide (x=y)) hl (fun h=>yW xs ys (fun x y=>decide (x=y)) h hl (fun i x y hx hy=>?_) (by unfold oV;simp))
 unfold oV
 rw[decide_eq_true (Int.ofNat_lt.2 (dZ hx)),cond_true,dY,hx,Option.bind_some,dY,hy,Option.bind_some]
 by_cases e:x=y<;>simp[e]
theorem aHY(xs ys:List ByteArray):o3 xs ys=kj xs ys:=rfl
theorem a2q(x y:cY)(h:Shk x.fStack):z6 x y=some (Vq x y):=by
 unfold z6 Vq
 rw[aqj _ _ h]
 by_cases h1:x.fThread=y.fThread<;>by_cases h2:x.fAt=y.fAt<;>by_cases h3:x.fWeight=y.fWeight<;>simp[h1,h2,h3]
theorem a2X(x y:dq)(h:Shk x.fStack):A9 x y=some (Vj x y):=by
 unfold A9 Vj
 rw[aqj _ _ h]
 generalize (decide (x.fSpan.fFrom=y.fSpan.fFrom)&&(decide (x.fSpan.fTo=y.fSpan.fTo)&&true))=b1
 generalize decide (x.fLive=y.fLive)=b2
 by_cases h1:x.fId=y.fId<;>by_cases h2:x.fThread=y.fThread<;>by_cases h3:x.fSize=y.fSize<;>cases b1<;>cases b2<;>simp[h1,h2,h3]
theorem a8j(xs ys:List cY)(hl:xs.length≤9223372036854775807)(hs:∀x∈xs,Shk x.fStack):fj xs ys=some (decide (xs.length=ys.length)&&AQ Vq xs ys):=by
 refine IY xs ys Vq hl (fun h=>yW xs ys Vq h hl (fun i x y hx hy=>?_) (by unfold e9;simp))
 unfold e9 H9
 rw[decide_eq_true (Int.ofNat_lt.2 (dZ hx)),cond_true,dY,hx,Option.bind_some,dY,hy,Option.bind_some,a2q x y (hs x (ek hx)),Option.bind_some,Option.bind_some]
 cases Vq x y<;>rfl
theorem a4K(xs ys:List dq)(hl:xs.length≤9223372036854775807)(hs:∀x∈xs,Shk x.fStack):f0 xs ys=some (decide (xs.length=ys.length)&&AQ Vj xs ys):=by
 refine IY xs ys Vj hl (fun h=>yW xs ys Vj h hl (fun i x y hx hy=>?_) (by unfold fJ;simp))
 unfold fJ Iz
 rw[decide_eq_true (Int.ofNat_lt.2 (dZ hx)),cond_true,dY,hx,Option.bind_some,dY,hy,Option.bind_some,a2X x y (hs x (ek hx)),Option.bind_some,Option.bind_some]
 cases Vj x y<;>rfl
structure FewT(t:a0):Prop where
 th:t.fThreads.length≤1000
 sl:t.fSlices.length≤1000
 st:t.fStates.length≤1000
 fl:t.fFlows.length≤1000
 sa:t.fSamples.length≤1000
 sp:t.fSteps.length≤1000
 bl:t.fBlocks.length≤1000
 lo:t.fLost.length≤1000
 ka:∀x∈t.fSamples,Shk x.fStack
 kb:∀x∈t.fBlocks,Shk x.fStack
def aoJ(x y:aZ):Bool:=(decide (x.fFrom=y.fFrom)&&(decide (x.fTo=y.fTo)&&true))
def FV{α:Type}(p:α→α→Bool)(xs ys:List α):Bool:=decide (xs.length=ys.length)&&AQ p xs ys
def eqT(t u:a0):Bool:=aoJ t.fSpan u.fSpan&&(FV U6 t.fThreads u.fThreads&&(FV WW t.fSlices u.fSlices&&(FV aaJ t.fStates u.fStates&&(FV VJ t.fFlows u.fFlows&&(FV V9 t.fSteps u.fSteps&&(FV WK t.fLost u.fLost&&(FV Vq t.fSamples u.fSamples&&FV Vj t.fBlocks u.fBlocks)))))))
theorem asz(t u:a0)(h:FewT t):Jq t u=some (eqT t u):=by
 unfold Jq
 rw[a7x _ _ (by have:=h.th;omega),a6Y _ _ (by have:=h.sl;omega),aUZ _ _ (by have:=h.st;omega),a5Z _ _ (by have:=h.fl;omega),a6K _ _ (by have:=h.sp;omega),a6j _ _ (by have:=h.lo;omega),a8j _ _ (by have:=h.sa;omega) h.ka,a4K _ _ (by have:=h.bl;omega) h.kb]
 unfold eqT FV
 show((bif (aoJ t.fSpan u.fSpan != false)then _ else _:Option Bool).bind _)=_
 generalize aoJ t.fSpan u.fSpan=b0
 generalize (decide (t.fThreads.length=u.fThreads.length)&&AQ U6 t.fThreads u.fThreads)=b1
 generalize (decide (t.fSlices.length=u.fSlices.length)&&AQ WW t.fSlices u.fSlices)=b2
 generalize (decide (t.fStates.length=u.fStates.length)&&AQ aaJ t.fStates u.fStates)=b3
 generalize (decide (t.fFlows.length=u.fFlows.length)&&AQ VJ t.fFlows u.fFlows)=b4
 generalize (decide (t.fSteps.length=u.fSteps.length)&&AQ V9 t.fSteps u.fSteps)=b5
 generalize (decide (t.fLost.length=u.fLost.length)&&AQ WK t.fLost u.fLost)=b6
 generalize (decide (t.fSamples.length=u.fSamples.length)&&AQ Vq t.fSamples u.fSamples)=b7
 generalize (decide (t.fBlocks.length=u.fBlocks.length)&&AQ Vj t.fBlocks u.fBlocks)=b8
 simp only[Option.bind_some]
 cases b0;rfl
 cases b1;rfl
 cases b2;rfl
 cases b3;rfl
 cases b4;rfl
 cases b5;rfl
 cases b6;rfl
 cases b7<;>rfl
theorem baX(t u:a0)(h:FewT t)(hn:t.fThreads.length=u.fThreads.length):loop (q0 t u) 0=some (if AQ U6 t.fThreads u.fThreads=true then .inl ()else .inr false):=by
 refine yW _ _ U6 hn (by have:=h.th;omega) (fun i x y hx hy=>?_) (by unfold q0;simp)
 unfold q0
 rw[decide_eq_true (Int.ofNat_lt.2 (dZ hx)),cond_true,dY,hx,Option.bind_some,dY,hy,Option.bind_some]
 show(bif U6 x y != true then _ else _)=_
 cases U6 x y<;>rfl
theorem bbq(t u:a0)(h:FewT t)(hn:t.fSlices.length=u.fSlices.length):loop (qQ t u) 0=some (if AQ WW t.fSlices u.fSlices=true then .inl ()else .inr false):=by
 refine yW _ _ WW hn (by have:=h.sl;omega) (fun i x y hx hy=>?_) (by unfold qQ;simp)
 unfold qQ
 rw[decide_eq_true (Int.ofNat_lt.2 (dZ hx)),cond_true,dY,hx,Option.bind_some,dY,hy,Option.bind_some]
 show(bif WW x y != true then _ else _)=_
 cases WW x y<;>rfl
theorem a9x(t u:a0)(h:FewT t)(hn:t.fFlows.length=u.fFlows.length):loop (qK t u) 0=some (if AQ VJ t.fFlows u.fFlows=true then .inl ()else .inr false):=by
 refine yW _ _ VJ hn (by have:=h.fl;omega) (fun i x y hx hy=>?_) (by unfold qK;simp)
 unfold qK
 rw[decide_eq_true (Int.ofNat_lt.2 (dZ hx)),cond_true,dY,hx,Option.bind_some,dY,hy,Option.bind_some]
 show(bif VJ x y != true then _ else _)=_
 cases VJ x y<;>rfl
theorem bbQ(t u:a0)(h:FewT t)(hn:t.fSamples.length=u.fSamples.length):loop (qY t u) 0=some (if AQ Vq t.fSamples u.fSamples=true then .inl ()else .inr false):=by
 refine yW _ _ Vq hn (by have:=h.sa;omega) (fun i x y hx hy=>?_) (by unfold qY;simp)
 unfold qY
 rw[decide_eq_true (Int.ofNat_lt.2 (dZ hx)),cond_true,dY,hx,Option.bind_some,dY,hy,Option.bind_some,aHY,aqj _ _ (h.ka x (ek hx))]
 unfold Vq
 generalize aDq x.fStack y.fStack=b
 by_cases h1:x.fThread=y.fThread<;>by_cases h2:x.fAt=y.fAt<;>by_cases h3:x.fWeight=y.fWeight<;>cases b<;>simp[h1,h2,h3]
theorem bbj(t u:a0)(h:FewT t)(hn:t.fSteps.length=u.fSteps.length):loop (qV t u) 0=some (if AQ V9 t.fSteps u.fSteps=true then .inl ()else .inr false):=by
 refine yW _ _ V9 hn (by have:=h.sp;omega) (fun i x y hx hy=>?_) (by unfold qV;simp)
 unfold qV
 rw[decide_eq_true (Int.ofNat_lt.2 (dZ hx)),cond_true,dY,hx,Option.bind_some,dY,hy,Option.bind_some]
 show(bif V9 x y != true then _ else _)=_
 cases V9 x y<;>rfl
theorem baY(t u:a0)(h:FewT t)(hn:t.fBlocks.length=u.fBlocks.length):loop (qW t u) 0=some (if AQ Vj t.fBlocks u.fBlocks=true then .inl ()else .inr false):=by
 refine yW _ _ Vj hn (by have:=h.bl;omega) (fun i x y hx hy=>?_) (by unfold qW;simp)
 unfold qW
 rw[decide_eq_true (Int.ofNat_lt.2 (dZ hx)),cond_true,dY,hx,Option.bind_some,dY,hy,Option.bind_some,aHY,aqj _ _ (h.kb x (ek hx))]
 unfold Vj
 generalize aDq x.fStack y.fStack=b
 generalize (decide (x.fSpan.fFrom=y.fSpan.fFrom)&&(decide (x.fSpan.fTo=y.fSpan.fTo)&&true))=b1
 generalize decide (x.fLive=y.fLive)=b2
 by_cases h1:x.fId=y.fId<;>by_cases h2:x.fThread=y.fThread<;>by_cases h3:x.fSize=y.fSize<;>cases b1<;>cases b2<;>cases b<;>simp[h1,h2,h3]
theorem baW(t u:a0)(h:FewT t)(hn:t.fLost.length=u.fLost.length):loop (qX t u) 0=some (if AQ WK t.fLost u.fLost=true then .inl ()else .inr false):=by
 refine yW _ _ WK hn (by have:=h.lo;omega) (fun i x y hx hy=>?_) (by unfold qX;simp)
 unfold qX
 rw[decide_eq_true (Int.ofNat_lt.2 (dZ hx)),cond_true,dY,hx,Option.bind_some,dY,hy,Option.bind_some]
 show(bif WK x y != true then _ else _)=_
 cases WK x y<;>rfl
theorem acq(t u:a0)(h:FewT t):q5 t u=some (eqT t u):=by
 unfold q5
 rw[a2J,aUZ _ _ (by have:=h.st;omega)]
 unfold eqT
 simp only[baK]
 show((bif (aoJ t.fSpan u.fSpan != true)then _ else _:Option Bool).bind _)=_
 generalize aoJ t.fSpan u.fSpan=b0
 cases b0
 ·rfl
 by_cases n1:t.fThreads.length=u.fThreads.length
 case neg=>simp[n1,FV]
 by_cases n2:t.fSlices.length=u.fSlices.length
 case neg=>simp[n1,n2,FV]
 rw[show FV aaJ t.fStates u.fStates=(decide (t.fStates.length=u.fStates.length)&&AQ aaJ t.fStates u.fStates)from rfl]
 generalize (decide (t.fStates.length=u.fStates.length)&&AQ aaJ t.fStates u.fStates)=b3
 cases b3
 ·simp[n1,n2]
 by_cases n4:t.fFlows.length=u.fFlows.length
 case neg=>simp[n1,n2,n4,FV]
 by_cases n7:t.fSamples.length=u.fSamples.length
 case neg=>simp[n1,n2,n4,n7,FV]
 by_cases n5:t.fSteps.length=u.fSteps.length
 case neg=>simp[n1,n2,n4,n7,n5,FV]
 by_cases n8:t.fBlocks.length=u.fBlocks.length
 case neg=>simp[n1,n2,n4,n7,n5,n8,FV]
 by_cases n6:t.fLost.length=u.fLost.length
 case neg=>simp[n1,n2,n4,n7,n5,n8,n6,FV]
 rw[baX t u h n1,bbq t u h n2,a9x t u h n4,bbQ t u h n7,bbj t u h n5,baY t u h n8,baW t u h n6]
 simp only[n1,n2,n4,n7,n5,n8,n6,FV,decide_true,Bool.not_true,cond_false,Option.bind_some,Bool.true_and]
 generalize AQ U6 t.fThreads u.fThreads=b1
 generalize AQ WW t.fSlices u.fSlices=b2
 generalize AQ VJ t.fFlows u.fFlows=b4
 generalize AQ V9 t.fSteps u.fSteps=b5
 generalize AQ WK t.fLost u.fLost=b6
 generalize AQ Vq t.fSamples u.fSamples=b7
 generalize AQ Vj t.fBlocks u.fBlocks=b8
 cases b1;rfl
 cases b2;rfl
 cases b4;rfl
 cases b7;cases b5<;>cases b6<;>rfl
 cases b5;rfl
 cases b8;cases b6<;>rfl
 cases b6<;>rfl
theorem alW(l:List ByteArray):aDq l l=true:=by
 unfold aDq
 rw[decide_eq_true rfl,Bool.true_and]
 exact DJ (fun x _=>decide_eq_true rfl)
theorem aTx(t:a0):eqT t t=true:=by
 unfold eqT FV
 rw[DJ (p:=U6) (fun x _=>by simp[U6]),DJ (p:=WW) (fun x _=>by simp[WW]),DJ (p:=aaJ) (fun x _=>by simp[aaJ]),DJ (p:=VJ) (fun x _=>by simp[VJ]),DJ (p:=V9) (fun x _=>by simp[V9]),DJ (p:=WK) (fun x _=>by simp[WK]),DJ (p:=Vq) (fun x _=>by simp[Vq,alW]),DJ (p:=Vj) (fun x _=>by simp[Vj,alW])]
 simp[aoJ]
structure bbW(t:a0):Prop where
 sl:SpV t.fSlices
 ne:Nest t.fSlices
 st:StV t.fSteps
 sp:0≤t.fSpan.fFrom∧t.fSpan.fFrom≤t.fSpan.fTo∧t.fSpan.fTo≤1000000000000
theorem aJV(t:a0)(hz:Siz t)(ht:t.fThreads.length≤1000000):Ok (AX t) (fun r=>r=0→bbW t):=by
 have hs:Ok (pX t.fSlices) (fun r=>r=0→SpV t.fSlices∧Nest t.fSlices):=by
  obtain⟨r,e,h1⟩:=aiW t.fSlices hz.sl hz.nSl
  have h2:=(Xj t.fSlices hz.sl hz.nSl).of_eq e
  exact⟨r,e,fun e0=>⟨h1 e0,h2 e0⟩⟩
 unfold AX
 refine ax (Q:=fun r=>r=0→(SpV t.fSlices∧Nest t.fSlices)∧StV t.fSteps) ?_ (fun r hr=>?_)
 ·unfold DX
  refine f8 (XW t hz.th hz.nTh) (fun r hr=>?_) (fun r _=>?_)
  ·exact cQ (fun h0=>cq (fun e=>absurd e h0)) (fun h0=>absurd h0 hr)
  ·dsimp only
   refine cQ (fun h0=>cq (fun e=>absurd e h0)) (fun _=>?_)
   refine ax hs (fun r4 h4=>?_)
   by_cases h40:r4=0
   ·have hd:=h4 h40
    refine ax (I1 _ _ _ hz.sl) (fun r5 _=>?_)
    refine cQ (fun h0=>cq (fun e=>absurd e h0)) (fun _=>?_)
    refine ax (Q6 _ _ ht hz.st) (fun r6 h6=>?_)
    refine cQ (fun h0=>cq (fun e=>absurd e h0)) (fun e6=>?_)
    refine ax (S9 _ hz.fl) (fun r7 _=>?_)
    refine ax (I7 _ _ _ hz.fl) (fun r8 _=>?_)
    refine ax (I9 _ _ _ hz.fl) (fun r9 _=>?_)
    refine cQ (fun h0=>cq (fun e=>absurd e h0)) (fun _=>?_)
    refine ax (PX _ hz.sa hz.nSa) (fun r10 _=>?_)
    refine ax (H1 _ _ _ hz.sa) (fun r11 _=>?_)
    refine cQ (fun h0=>cq (fun e=>absurd e h0)) (fun _=>?_)
    refine ax (aLV _ hz.sp hz.nSp) (fun r12 h12=>?_)
    refine cQ (fun h0=>cq (fun e=>absurd e h0)) (fun e12=>?_)
    have he:=h12 e12
    refine ax (PQ _ hz.bl hz.nBl) (fun r13 _=>?_)
    refine ax (I3 _ _ _ hz.bl) (fun r14 _=>?_)
    refine cQ (fun h0=>cq (fun e=>absurd e h0)) (fun _=>?_)
    refine ax (Tx _ _ hz.lo) (fun r15 _=>?_)
    exact cq (fun _=>⟨hd,he⟩)
   ·have:Ok (iY r4 r.1 t.fSlices) (fun q=>q=r4):=by
     unfold iY
     exact cQ (fun _=>cq rfl) (fun e=>absurd e h40)
    refine ax this (fun r5 h5=>?_)
    subst h5
    exact cQ (fun h0=>cq (fun e=>absurd e h0)) (fun e=>absurd e h40)
 ·refine cQ (fun h0=>cq (fun e=>absurd e h0)) (fun e=>?_)
  have hd:=hr e
  refine ax (Q:=fun v=>v=false→0≤t.fSpan.fFrom∧t.fSpan.fFrom≤t.fSpan.fTo∧t.fSpan.fTo≤1000000000000) ?_ (fun v hv=>?_)
  ·refine bY (fun _=>cq (by simp)) (fun g1=>?_)
   refine bY (fun _=>cq (by simp)) (fun g2=>?_)
   exact cq (fun g3=>⟨by omega,by omega,by simpa using g3⟩)
  refine cj (fun _=>cq (fun e=>by omega)) (fun hv0=>?_)
  refine ax (X4 t hz) (fun v _=>?_)
  exact cj (fun _=>cq (fun _=>⟨hd.1.1,hd.1.2,hd.2,hv hv0⟩)) (fun _=>cq (fun _=>⟨hd.1.1,hd.1.2,hd.2,hv hv0⟩))
def noT(l:List dW):a0:={fSpan:=({fFrom:=0,fTo:=0}:aZ),fThreads:=l,fSlices:=[],fStates:=[],fFlows:=[],fSamples:=[],fSteps:=[],fBlocks:=[],fLost:=[]}
theorem FewT.no{l:List dW}(h:l.length≤1000):FewT (noT l):=⟨h,by simp[noT],by simp[noT],by simp[noT],by simp[noT],by simp[noT],by simp[noT],by simp[noT],by simp[noT],by simp[noT]⟩
theorem a5j(t:a0)(s:aZ)(hz:Siz t)(hf:FewT t):∃r,FewT r.1∧NQ t s=some r∧wj t s=some r:=by
 have hth:=hf.th
 have hsl:=hf.sl
 have hst:=hf.st
 have hfl:=hf.fl
 have hsa:=hf.sa
 have hsp:=hf.sp
 have hbl:=hf.bl
 have hlo:=hf.lo
 obtain⟨e,he,hv⟩:=aJV t hz (by omega)
 unfold NQ wj
 rw[←Qj t hz (by omega),he,Option.bind_some,Option.bind_some]
 by_cases h0:e=0
 case neg =>
  rw[decide_eq_false h0]
  exact⟨(noT [],e),FewT.no (by simp),rfl,rfl⟩
 have V:=hv h0
 rw[decide_eq_true h0,Bool.not_true,cond_false,cond_false,V2,Gx,Option.bind_some,Option.bind_some]
 by_cases h1:0≤s.fFrom∧s.fFrom<s.fTo∧s.fTo≤1000000000000
 case neg =>
  rw[decide_eq_false h1]
  exact⟨(noT [],1),FewT.no (by simp),rfl,rfl⟩
 rw[decide_eq_true h1,Bool.not_true,cond_false,cond_false,W1]
 unfold m8
 rw[Option.bind_some]
 dsimp only
 have hsp2:=V.sp
 have m1:max s.fFrom t.fSpan.fFrom=max t.fSpan.fFrom s.fFrom:=by omega
 have m2:min s.fTo t.fSpan.fTo=min t.fSpan.fTo s.fTo:=by omega
 rw[m1,m2]
 by_cases h2:max t.fSpan.fFrom s.fFrom<min t.fSpan.fTo s.fTo
 case neg =>
  rw[decide_eq_false h2,decide_eq_true (by omega:min t.fSpan.fTo s.fTo≤max t.fSpan.fFrom s.fFrom)]
  exact⟨(noT t.fThreads,0),FewT.no hth,rfl,rfl⟩
 rw[decide_eq_true h2,decide_eq_false (by omega : ¬min t.fSpan.fTo s.fTo≤max t.fSpan.fFrom s.fFrom),Bool.not_true,cond_false,cond_false]
 generalize hc1:max t.fSpan.fFrom s.fFrom=a at *
 generalize hc2:min t.fSpan.fTo s.fTo=b at *
 have hab:0≤a∧a<b∧b≤1000000000000:=by omega
 have w1:w64 (w64 (a-s.fFrom)+s.fFrom)=a:=by rw[cX (n:=a-s.fFrom) (by omega),cX (by omega)];omega
 have w2:w64 (w64 (b-s.fFrom)+s.fFrom)=b:=by rw[cX (n:=b-s.fFrom) (by omega),cX (by omega)];omega
 rw[a6X t s _ (by omega),asY,aAz,aiV]
 unfold yK
 simp only[apW,arj,S6,w1,w2,Option.bind_some]
 obtain⟨r1,k1,e1,f1⟩:=asW (c:={fFrom:=a,fTo:=b}) hsl V.ne V.sl ⟨hab.1,hab.2.2⟩
 obtain⟨r2,e2,k2⟩:=aFV t.fStates {fFrom:=a,fTo:=b} hst
 obtain⟨r3,e3,k3⟩:=aPj t.fFlows {fFrom:=a,fTo:=b} hfl
 obtain⟨r4,e4,k4,p4⟩:=axq t.fSamples {fFrom:=a,fTo:=b} hsa hf.ka
 obtain⟨r5,k5,e5,f5⟩:=aTq (c:={fFrom:=a,fTo:=b}) hsp V.st hab
 obtain⟨r6,e6,k6,p6⟩:=aEY t.fBlocks {fFrom:=a,fTo:=b} hbl hf.kb
 obtain⟨r7,e7,k7⟩:=aFq t.fLost {fFrom:=a,fTo:=b} hlo
 have g2:loop (m5 t.fStates {fFrom:=a,fTo:=b}) ([],0)=some r2:=by unfold xZ at e2;simpa using e2
 have g3:loop (qJ t.fFlows {fFrom:=a,fTo:=b}) ([],0)=some r3:=by unfold z1 at e3;simpa using e3
 have g4:loop (oQ t.fSamples {fFrom:=a,fTo:=b}) ([],0)=some r4:=by unfold v8 at e4;simpa using e4
 have g6:loop (mY t.fBlocks {fFrom:=a,fTo:=b}) ([],0)=some r6:=by unfold xQ at e6;simpa using e6
 have g7:loop (nj t.fLost {fFrom:=a,fTo:=b}) ([],0)=some r7:=by unfold xX at e7;simpa using e7
 rw[e1,e2,e3,e4,e5,e6,e7,f1]
 simp only[Option.bind_some,g2,g3,g4,f5,g6,g7]
 refine⟨_,?_,rfl,rfl⟩
 exact⟨hth,by simp only;omega,by simp only;omega,by simp only;omega,by simp only;omega,by simp only;omega,by simp only;omega,by simp only;omega,p4,p6⟩
theorem a4X(t:a0):Ok (sQ t) (fun b=>b=true→t.fThreads.length≤1000∧t.fSlices.length≤1000∧t.fStates.length≤1000∧t.fFlows.length≤1000∧t.fSamples.length≤1000∧t.fSteps.length≤1000∧t.fBlocks.length≤1000∧t.fLost.length≤1000):=by
 unfold sQ
 refine ax (Q:=fun b=>b=true→t.fThreads.length≤1000∧t.fSlices.length≤1000∧t.fStates.length≤1000∧t.fFlows.length≤1000∧t.fSamples.length≤1000∧t.fSteps.length≤1000∧t.fBlocks.length≤1000∧t.fLost.length≤1000) ?_ (fun v hv=>cq hv)
 refine bY (fun h1=>?_) (fun _=>cq (by simp))
 refine bY (fun h2=>?_) (fun _=>cq (by simp))
 refine bY (fun h3=>?_) (fun _=>cq (by simp))
 refine bY (fun h4=>?_) (fun _=>cq (by simp))
 refine bY (fun h5=>?_) (fun _=>cq (by simp))
 refine bY (fun h6=>?_) (fun _=>cq (by simp))
 refine bY (fun h7=>?_) (fun _=>cq (by simp))
 refine cq (fun h8=>?_)
 have:=of_decide_eq_true h8
 omega
theorem aBx:xK=some true:=rfl
theorem bcx{t:a0}(h:o6 t)(hf:t.fThreads.length≤1000∧t.fSlices.length≤1000∧t.fStates.length≤1000∧t.fFlows.length≤1000∧t.fSamples.length≤1000∧t.fSteps.length≤1000∧t.fBlocks.length≤1000∧t.fLost.length≤1000):FewT t:=by
 have hz:=aQZ h
 obtain⟨h1,h2,h3,h4,h5,h6,h7,h8⟩:=hf
 exact⟨h1,h2,h3,h4,h5,h6,h7,h8,fun x hx=>by have:=(hz.nSa x hx).1;unfold Shk;omega,fun x hx=>by have:=(hz.nBl x hx).1;unfold Shk;omega⟩
theorem traceChecks_holds(t u:a0)(s:aZ)(ht:o6 t):i4 t u s=some true:=by
 have:Ok (i4 t u s) (fun b=>b=true):=by
  unfold i4
  rw[aBx]
  refine ax (Q:=fun b=>b=false→FewT t) ?_ (fun v hv=>?_)
  ·refine ax (a4X t) (fun b hb=>?_)
   refine d4 (fun _=>cq (by simp)) (fun e=>?_)
   exact ax (a4X u).yes (fun b _=>cq (fun _=>bcx ht (hb e)))
  ·refine cj (fun _=>cq rfl) (fun e=>?_)
   have hf:=hv e
   have hz:=aQZ ht
   rw[←Qj t hz (by have:=hf.th;omega)]
   obtain⟨r,hr,_⟩:=aJV t hz (by have:=hf.th;omega)
   obtain⟨c,hc,hc1,hc2⟩:=a5j t s hz hf
   rw[hr,asz t u hf,acq t u hf,hc1,hc2]
   simp only[Option.bind_some,decide_true,Bool.not_true,cond_false,cond_true,acq c.1 c.1 hc,aTx]
   refine⟨_,rfl,?_⟩
   simp
 obtain⟨r,e,rfl⟩:=this
 exact e
end Go.VM
