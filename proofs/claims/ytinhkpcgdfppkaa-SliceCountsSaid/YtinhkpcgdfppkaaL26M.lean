/- The law holds: plain mathematics on what the functions compute. -/
import Derived.Test.YtinhkpcgdfppkaaL26B
namespace Go.VM
theorem anJ{σ ρ:Type}{step:σ×Int→Option ((σ×Int) ⊕ ρ)}(n:Nat)(Inv:σ→Nat→Prop){Post:ρ→Prop}(hn:n≤9223372036854775807){s0:σ}(h0:Inv s0 0)
  (h:∀(s:σ) (i:Nat),Inv s i→i≤n→Ok (step (s,(i:Int))) (AK (fun a=>i<n∧a.2=((i+1:Nat):Int)∧Inv a.1 (i+1)) Post)):Ok (loop step (s0,0)) Post:=by
 refine agY n (fun s i=>Inv s i.toNat) hn h0 (fun s i hI h1 h2=>?_)
 obtain⟨k,rfl⟩:=Int.eq_ofNat_of_zero_le h1
 refine(h s k hI (by omega)).mono ?_
 rintro (⟨a,b⟩ | b) hr
 ·obtain⟨h3,h4,h5⟩ : k<n∧b=((k+1:Nat):Int)∧Inv a (k+1):=hr
  refine⟨by omega,by omega,?_⟩
  rw[show((k:Int)+1).toNat=k+1 by omega];exact h5
 ·exact hr
theorem V8{ρ:Type}{step:Int→Option (Int ⊕ ρ)}(n:Nat)(Inv:Nat→Prop){Post:ρ→Prop}(hn:n≤9223372036854775807)(h0:Inv 0)
  (h:∀i:Nat,Inv i→i≤n→Ok (step (i:Int)) (AK (fun a=>i<n∧a=((i+1:Nat):Int)∧Inv (i+1)) Post)):Ok (loop step 0) Post:=by
 refine auY n (fun i=>Inv i.toNat) hn h0 (fun i hI h1 h2=>?_)
 obtain⟨k,rfl⟩:=Int.eq_ofNat_of_zero_le h1
 refine(h k hI (by omega)).mono ?_
 rintro (b | b) hr
 ·obtain⟨h3,h4,h5⟩ : k<n∧b=((k+1:Nat):Int)∧Inv (k+1):=hr
  refine⟨by omega,by omega,?_⟩
  rw[show((k:Int)+1).toNat=k+1 by omega];exact h5
 ·exact hr
theorem Mx{α:Type}{xs:List α}{i:Nat}(h:i<xs.length):Ok (idx xs (i:Int)) (fun y=>xs[i]? = some y):=by
 rw[ij];exact⟨xs[i],by simp[h],by simp[h]⟩
theorem V3{i n:Nat}(h:i<n)(hn:n≤9223372036854775807):w64 ((i:Int)+1)=((i+1:Nat):Int):=by rw[b7 (by omega)];omega
end Go.VM
namespace Go.VM
theorem DJ(y:UInt8):Tot (fY (y.toNat:Int)):=by
 have h:(List.range 256).all (fun n=>(fY (n:Int)).isSome)=true:=by kernel_rfl
 have h2:=List.all_eq_true.1 h y.toNat (List.mem_range.2 y.toNat_lt)
 obtain⟨r,hr⟩:=Option.isSome_iff_exists.1 h2
 exact⟨r,hr,trivial⟩
theorem F6(p:ByteArray):Tot (fZ p):=by
 unfold fZ
 have hsz:p.data.toList.length=p.size:=Array.length_toList
 refine bY (Q:=fun v=>v=false→p.size≤40) ?_ (fun v hv=>?_)
 ·refine cV (fun _=>bZ (by simp)) (fun h=>bZ (fun e=>?_))
  have:=of_decide_eq_false e
  omega
 ·refine jz (fun _=>pV) (fun e=>?_)
  have hs:=hv e
  refine xK (Q:=Yes) (atz p.size (by omega) fun i h1 h2=>?_) (fun _ _=>?_) (fun _ _=>?_)
  ·unfold kK
   repeat' (first | (with_reducible first | intro _ | exact pV | exact rj | exact rY | exact rQ | refine bY pJ fun _ _=>?_ | apply oX | apply cV | apply u5 | apply jz | (refine Ok.yes (DJ _)<;>(first | assumption | omega | rw[b7]<;>omega)) | apply bY (Q:=Yes)) | dsimp only)
  ·repeat' (first | (with_reducible first | intro _ | exact pV | exact rj | exact rY | exact rQ | refine bY pJ fun _ _=>?_ | apply oX | apply cV | apply u5 | apply jz | (refine Ok.yes (DJ _)<;>(first | assumption | omega | rw[b7]<;>omega)) | apply bY (Q:=Yes)) | dsimp only)
  ·repeat' (first | (with_reducible first | intro _ | exact pV | exact rj | exact rY | exact rQ | refine bY pJ fun _ _=>?_ | apply oX | apply cV | apply u5 | apply jz | (refine Ok.yes (DJ _)<;>(first | assumption | omega | rw[b7]<;>omega)) | apply bY (Q:=Yes)) | dsimp only)
theorem WY(l:List ByteArray):Tot (fV l):=by
 unfold fV
 refine cV (fun _=>pV) (fun h=>?_)
 refine xK (Q:=Yes) (atz l.length (by omega) fun i h1 h2=>?_) (fun _ _=>?_) (fun _ _=>?_)
 ·unfold jY
  repeat' (first | (with_reducible first | intro _ | exact pV | exact rj | exact rY | exact rQ | refine bY pJ fun _ _=>?_ | apply oX | apply cV | apply u5 | apply jz | (refine Ok.yes (F6 _)<;>(first | assumption | omega | rw[b7]<;>omega)) | apply bY (Q:=Yes)) | dsimp only)
 ·repeat' (first | (with_reducible first | intro _ | exact pV | exact rj | exact rY | exact rQ | refine bY pJ fun _ _=>?_ | apply oX | apply cV | apply u5 | apply jz | (refine Ok.yes (F6 _)<;>(first | assumption | omega | rw[b7]<;>omega)) | apply bY (Q:=Yes)) | dsimp only)
 ·repeat' (first | (with_reducible first | intro _ | exact pV | exact rj | exact rY | exact rQ | refine bY pJ fun _ _=>?_ | apply oX | apply cV | apply u5 | apply jz | (refine Ok.yes (F6 _)<;>(first | assumption | omega | rw[b7]<;>omega)) | apply bY (Q:=Yes)) | dsimp only)
theorem V9(a b c:Int):Tot (cz a b c):=by
 unfold cz
 repeat' (first | (with_reducible first | intro _ | exact pV | exact rj | exact rY | exact rQ | refine bY pJ fun _ _=>?_ | apply oX | apply cV | apply u5 | apply jz | apply bY (Q:=Yes)) | dsimp only)
theorem alQ(a:Int):Tot (iz a):=by
 unfold iz
 repeat' (first | (with_reducible first | intro _ | exact pV | exact rj | exact rY | exact rQ | refine bY pJ fun _ _=>?_ | apply oX | apply cV | apply u5 | apply jz | apply bY (Q:=Yes)) | dsimp only)
theorem TZ(e:m6):Tot (fQ e):=by
 unfold fQ
 repeat' (first | (with_reducible first | intro _ | exact pV | exact rj | exact rY | exact rQ | refine bY pJ fun _ _=>?_ | apply oX | apply cV | apply u5 | apply jz | (refine Ok.yes (V9 _ _ _)<;>(first | assumption | omega | rw[b7]<;>omega)) | apply bY (Q:=Yes)) | dsimp only)
theorem abY(e:m6):Tot (gQ e):=by
 unfold gQ
 repeat' (first | (with_reducible first | intro _ | exact pV | exact rj | exact rY | exact rQ | refine bY pJ fun _ _=>?_ | apply oX | apply cV | apply u5 | apply jz | (refine Ok.yes (alQ _)<;>(first | assumption | omega | rw[b7]<;>omega)) | (refine Ok.yes (F6 _)<;>(first | assumption | omega | rw[b7]<;>omega)) | (refine Ok.yes (WY _)<;>(first | assumption | omega | rw[b7]<;>omega)) | (refine Ok.yes (TZ _)<;>(first | assumption | omega | rw[b7]<;>omega)) | apply bY (Q:=Yes)) | dsimp only)
theorem R9(e:a7):d3 e=some (bz e.fWhen.fLo):=by
 have:Ok (d3 e) (fun r=>r=bz e.fWhen.fLo):=by
  unfold d3 bz
  refine cV (fun h=>bZ (by omega)) (fun h=>?_)
  exact cV (fun h=>bZ (by omega)) (fun h=>bZ (by omega))
 obtain⟨r,h1,h2⟩:=this
 rw[h1,h2]
theorem aoq(o:List a7)(i:Nat)(hi:i<o.length)(hl:o.length≤60):Ok (e9 o (i:Int)) (fun r=>0≤r→r<o.length):=by
 unfold e9
 rw[b7 (n:=(i:Int)-1) (by omega)]
 refine xK (Q:=AK (fun _=>True) (fun r:Int=>r<o.length)) (kj (fun a:Int=>-1≤a∧a<i) (fun a=>(a+1).toNat) (fun a h=>?_) ⟨by omega,by omega⟩ (by simp[c7];omega)) (fun _ _=>bZ (by omega)) (fun r hr=>bZ fun _=>hr)
 unfold i9
 refine cV (fun h0=>?_) (fun _=>jj trivial)
 obtain⟨y,hy,_⟩:=pJ (xs:=o) (i:=a) (by omega) (by omega)
 obtain⟨z,hz,_⟩:=pJ (xs:=o) (i:=(i:Int)) (by omega) (by omega)
 rw[hy,hz,fk,fk]
 refine cV (fun _=>jj ?_) (fun _=>?_)
 ·show a<(o.length:Int)
  omega
 ·rw[b7 (n:=a-1) (by omega)]
  exact kX ⟨⟨by omega,by omega⟩,by omega⟩
structure Ord26(o:List a7):Prop where
 th:∀(i:Nat) e,o[i]? = some e→0≤e.fId.fThread∧e.fId.fThread≤1000000000000000
 tm:∀(i:Nat) e e',o[i]? = some e→o[i+1]? = some e'→bz e.fWhen.fLo≤bz e'.fWhen.fLo
theorem abZ(o:List a7)(hl:o.length≤60):Ok (fX o) (fun b=>b=true→Ord26 o):=by
 unfold fX
 refine xK (Q:=AK (fun _=>Ord26 o) (fun r=>r=false)) (V8 o.length (fun n=>(∀(i:Nat) e,i<n→o[i]? = some e→0≤e.fId.fThread∧e.fId.fThread≤1000000000000000)∧∀(i:Nat) e e',i+1<n→o[i]? = some e→o[i+1]? = some e'→bz e.fWhen.fLo≤bz e'.fWhen.fLo) (by omega) ⟨by intro i e h;omega,by intro i e e' h;omega⟩ (fun i hI h2=>?_)) (fun _ h=>bZ fun _=>h) (fun r hr=>bZ (fun e=>by rw[show r=false from hr]at e;cases e))
 unfold jX
 refine cV (fun hi=>?_) (fun hi=>jj ⟨fun k e hk=>hI.1 k e (by have:=nJ hk;omega) hk,fun k e e' hk hk'=>hI.2 k e e' (by have:=nJ hk';omega) hk hk'⟩)
 obtain⟨y,hiy,hy⟩:=Mx (xs:=o) (i:=i) (by omega)
 simp only[hiy,fk]
 refine bY (Q:=fun v=>v=false→0≤y.fId.fThread∧y.fId.fThread≤1000000000000000) ?_ (fun v hv=>?_)
 ·refine bY (abY _) (fun r _=>?_)
  refine oX (fun _=>bZ (by simp)) (fun _=>?_)
  refine cV (fun _=>bZ (by simp)) (fun h3=>?_)
  refine cV (fun _=>bZ (by simp)) (fun h4=>?_)
  refine cV (fun _=>bZ (by simp)) (fun h5=>bZ fun _=>by omega)
 ·refine jz (fun _=>jj rfl) (fun e72=>?_)
  have hth:=hv e72
  refine bY (Q:=fun v=>v=false→∀e,0<i→o[i-1]? = some e→bz e.fWhen.fLo≤bz y.fWhen.fLo) ?_ (fun v hv=>?_)
  ·refine cV (fun h4=>?_) (fun h4=>bZ (fun _ e h5=>by omega))
   rw[R9,fk,b7 (n:=(i:Int)-1) (by omega)]
   obtain⟨z,hiz,hz⟩:=pJ (xs:=o) (i:=(i:Int)-1) (by omega) (by omega)
   rw[hiz,fk,R9,fk]
   refine bZ (fun h5 e _ he=>?_)
   rw[show((i:Int)-1).toNat=i-1 by omega,he]at hz
   cases hz
   have:=of_decide_eq_false h5;omega
  ·refine jz (fun _=>jj rfl) (fun e73=>?_)
   have htm:=hv e73
   refine bY (aoq o i (by omega) hl) (fun r hr=>?_)
   refine bY (Q:=Yes) ?_ (fun v75 _=>?_)
   ·refine cV (fun h0=>?_) (fun _=>pV)
    obtain⟨z,hz,_⟩:=pJ (xs:=o) (i:=r) h0 (hr h0)
    rw[hz,fk]
    exact pV
   ·refine jz (fun _=>jj rfl) (fun _=>?_)
    refine kX ⟨by omega,V3 (n:=o.length) (by omega) (by omega),fun k e hk he=>?_,fun k e e' hk he he'=>?_⟩
    ·by_cases e2:k=i
     ·subst e2;rw[hy]at he;cases he;exact hth
     ·exact hI.1 k e (by omega) he
    ·by_cases e2:k+1=i
     ·rw[e2,hy]at he';cases he'
      exact htm e (by omega) (by rw[show i-1=k by omega];exact he)
     ·exact hI.2 k e e' (by omega) he he'
theorem axX(o:List a7):Ok (i8 o) (fun b=>b=true→o.length≤60∧Ord26 o):=by
 unfold i8
 refine cV (fun _=>bZ (by simp)) (fun hl=>?_)
 refine xK (Q:=AK (fun _=>True) (fun r=>r=false)) (V8 o.length (fun _=>True) (by omega) trivial (fun i _ h2=>?_)) (fun _ _=>?_) (fun r hr=>bZ (fun e=>by rw[show r=false from hr]at e;cases e))
 ·unfold lW
  refine cV (fun hi=>?_) (fun hi=>jj trivial)
  obtain⟨y,hiy,hy⟩:=Mx (xs:=o) (i:=i) (by omega)
  rw[hiy,fk]
  refine cV (fun _=>jj rfl) (fun _=>kX ⟨by omega,V3 (n:=o.length) (by omega) (by omega),trivial⟩)
 ·exact bY (abZ o (by omega)) (fun b hb=>bZ fun e=>⟨by omega,hb e⟩)
theorem Ord26.pair{o:List a7}(h:Ord26 o):(o.map ajj).Pairwise (fun x y=>bz x.lo≤bz y.lo):=by
 rw[List.pairwise_map]
 have key:∀(n i:Nat) (x y:a7),o[i]? = some x→o[i+n]? = some y→bz x.fWhen.fLo≤bz y.fWhen.fLo:=by
  intro n
  induction n with
  | zero=>intro i x y hx hy;rw[Nat.add_zero,hx]at hy;cases hy;exact Int.le_refl _
  | succ n ih =>
   intro i x y hx hy
   obtain⟨z,hz⟩ : ∃z,o[i+n]? = some z:=⟨_,bw (by have:=nJ hy;omega)⟩
   exact Int.le_trans (ih i x z hx hz) (h.tm (i+n) z y hz hy)
 rw[List.pairwise_iff_getElem]
 intro i j hi hj hij
 refine key (j-i) i _ _ (bw hi) ?_
 rw[show i+(j-i)=j by omega]
 exact bw hj
def isB(y:a7):Bool:=decide (y.fEvent.fKind=1)
theorem avV(o:List a7)(hl:o.length≤60):Ok (loop (eV o) (0,0)) (fun r=>r=((o.filter isB).length:Int)):=by
 refine anJ o.length (fun(a:Int) n=>a=(((o.take n).filter isB).length:Int)) (by omega) (by simp) (fun a i hI h2=>?_)
 unfold eV
 dsimp only
 refine cV (fun hi=>?_) (fun hi=>jj (by rw[show i=o.length by omega,List.take_length]at hI;exact hI))
 obtain⟨y,hiy,hy⟩:=Mx (xs:=o) (i:=i) (by omega)
 rw[hiy,fk]
 have hlt:=nJ hy
 have hle:((o.take i).filter isB).length≤i:=Nat.le_trans (List.length_filter_le ..) (by rw[yw];omega)
 have hs:(o.take (i+1)).filter isB=(o.take i).filter isB++if isB y then[y]else[]:=by
  have hy':o[i]=y:=by have:=bw hlt;rw[hy]at this;exact(Option.some.inj this).symm
  rw[List.take_succ_eq_append_getElem hlt,List.filter_append,hy']
  congr 1
  cases h:isB y<;>simp[h]
 refine bY (Q:=fun v=>v=(((o.take (i+1)).filter isB).length:Int)) ?_ (fun v hv=>kX ⟨by omega,V3 (n:=o.length) (by omega) (by omega),hv⟩)
 rw[hs,cw]
 refine cV (fun h=>bZ ?_) (fun h=>bZ ?_)
 ·rw[b7 (n:=a+1) (by omega),hI]
  simp[isB,h]
 ·rw[hI]
  simp[isB,h]
def agX(x:j7)(y:a7):Prop:=y.fId.fThread=x.fThread∧y.fEvent.fKind=1∧y.fEvent.fName=x.fName∧bz y.fWhen.fLo=x.fSpan.fFrom
def aoY(x:j7)(y:a7):Prop:=y.fId.fThread=x.fThread∧y.fEvent.fKind=2∧bz y.fWhen.fLo=x.fSpan.fTo
theorem ayx(o:List a7)(l:List j7)(i:Nat)(x:j7)(hx:l[i]? = some x)(hl:o.length≤60):Ok (loop (eY o l (i:Int)) (false,x.fOpen,0)) (fun r=>((∃y∈o,agX x y)→r.1=true)∧((x.fOpen=true∨∃y∈o,aoY x y)→r.2=true)):=by
 refine kj (fun s:Bool×Bool×Int=>∃n:Nat,s.2.2=(n:Int)∧n≤o.length∧((∃(k:Nat) (y:a7),k<n∧o[k]? = some y∧agX x y)→s.1=true)∧((x.fOpen=true∨∃(k:Nat) (y:a7),k<n∧o[k]? = some y∧aoY x y)→s.2.1=true)) (fun s=>((o.length:Int)-s.2.2).toNat) (fun s hs=>?_) ⟨0,rfl,Nat.zero_le _,by rintro⟨k,y,h,_⟩;omega,by rintro (h | ⟨k,y,h,_⟩);exact h;omega⟩ (by simp[c7];omega)
 obtain⟨a,e,j⟩:=s
 obtain⟨n,h1,h2,h3,h4⟩:=hs
 simp only at h1 h3 h4
 subst h1
 unfold eY
 dsimp only
 refine cV (fun hi=>?_) (fun hi=>jj ⟨?_,?_⟩)
 ·obtain⟨y,hiy,hy⟩:=Mx (xs:=o) (i:=n) (by omega)
  simp only[hiy,ij,hx,fk]
  refine bY (Q:=fun v:Bool×Bool=>(a=true∨agX x y→v.1=true)∧(e=true∨aoY x y→v.2=true)) ?_ (fun v hv=>?_)
  ·refine bY (Q:=fun v:Bool×Bool=>(a=true∨agX x y→v.1=true)∧(v.2=decide (y.fId.fThread=x.fThread))) ?_ (fun v hv=>?_)
   ·refine jz (fun ha=>bZ ⟨fun _=>rfl,rfl⟩) (fun ha=>?_)
    refine cV (fun g1=>?_) (fun g1=>bZ ⟨fun h=>h.elim (fun h=>by rw[ha]at h;cases h) (fun h=>absurd h.1 g1),by rw[decide_eq_false g1]⟩)
    refine cV (fun g2=>?_) (fun g2=>bZ ⟨fun h=>h.elim (fun h=>by rw[ha]at h;cases h) (fun h=>absurd h.2.1 g2),by rw[decide_eq_true g1]⟩)
    refine cV (fun g3=>?_) (fun g3=>bZ ⟨fun h=>h.elim (fun h=>by rw[ha]at h;cases h) (fun h=>absurd h.2.2.1 g3),by rw[decide_eq_true g1]⟩)
    rw[R9,fk]
    exact bZ ⟨fun h=>h.elim (fun h=>by rw[ha]at h;cases h) (fun h=>decide_eq_true h.2.2.2),by rw[decide_eq_true g1]⟩
   ·obtain⟨v1,v2⟩:=v
    obtain⟨k1,k2⟩:=hv
    simp only at k1 k2
    dsimp only
    refine jz (fun he=>bZ ⟨k1,fun _=>rfl⟩) (fun he=>?_)
    refine jz (fun g1=>?_) (fun g1=>bZ ⟨k1,fun h=>h.elim (fun h=>by rw[he]at h;cases h) (fun h=>?_)⟩)
    ·refine cV (fun g2=>?_) (fun g2=>bZ ⟨k1,fun h=>h.elim (fun h=>by rw[he]at h;cases h) (fun h=>absurd h.2.1 g2)⟩)
     rw[R9,fk]
     exact bZ ⟨k1,fun h=>h.elim (fun h=>by rw[he]at h;cases h) (fun h=>decide_eq_true h.2.2)⟩
    ·rw[g1,eq_comm,decide_eq_false_iff_not]at k2
     exact absurd h.1 k2
  ·obtain⟨v1,v2⟩:=v
   obtain⟨k1,k2⟩:=hv
   simp only at k1 k2
   dsimp only
   rw[V3 (n:=o.length) (by omega) (by omega)]
   refine kX ⟨⟨n+1,rfl,by omega,?_,?_⟩,by simp only;omega⟩
   ·rintro⟨k,z,g1,g2,g3⟩
    by_cases g:k=n
    ·subst g;rw[hy]at g2;cases g2;exact k1 (.inr g3)
    ·exact k1 (.inl (h3 ⟨k,z,by omega,g2,g3⟩))
   ·rintro (g0 | ⟨k,z,g1,g2,g3⟩)
    ·exact k2 (.inl (h4 (.inl g0)))
    ·by_cases g:k=n
     ·subst g;rw[hy]at g2;cases g2;exact k2 (.inr g3)
     ·exact k2 (.inl (h4 (.inr ⟨k,z,by omega,g2,g3⟩)))
 ·rintro⟨y,hy,h5⟩
  obtain⟨k,hk⟩:=List.getElem?_of_mem hy
  exact h3 ⟨k,y,by have:=nJ hk;omega,hk,h5⟩
 ·rintro (h0 | ⟨y,hy,h5⟩)
  ·exact h4 (.inl h0)
  ·obtain⟨k,hk⟩:=List.getElem?_of_mem hy
   exact h4 (.inr ⟨k,y,by have:=nJ hk;omega,hk,h5⟩)
theorem aoJ:jJ=some true:=rfl
theorem sliceCounts_holds(o:List a7)(e:Int):cJ o e=some true:=by
 have:Ok (cJ o e) (fun b=>b=true):=by
  unfold cJ
  rw[aoJ]
  simp only[fk]
  refine bY (axX o) (fun b hb=>?_)
  refine u5 (fun _=>bZ rfl) (fun eb=>?_)
  obtain⟨hl,hord⟩:=hb eb
  obtain⟨pcs,K,out,pl,_,hd,hp,_,hI,hof⟩:=ayZ (o.map ajj) e hord.pair (fun x hx=>by
   obtain⟨y,hy,rfl⟩:=List.mem_map.1 hx
   obtain⟨k,hk⟩:=List.getElem?_of_mem hy
   exact hord.th k y hk) (by rw[ew];omega)
  have hof2:E4 o e=some (out.map J6):=by
   unfold E4 Go.RM.sliceOfF
   rw[ew,decide_eq_true (by omega),cond_true,hof]
   rfl
  rw[hof2,fk]
  have hcnt:out.length≤(o.filter isB).length:=by
   have h1:=hI.len
   simp only at h1
   have h2:(lz pcs).length≤pcs.length:=by
    unfold lz
    exact Nat.le_trans (List.length_filter_le ..) (by rw[List.length_range];exact kw _)
   have h3:=hd.cnt
   have h4:((o.map ajj).filter fun x=>decide (x.kd=1)).length=(o.filter isB).length:=by
    rw[List.filter_map,ew];rfl
   have h5:=hp.length_eq
   omega
  have hlo:out.length≤60:=Nat.le_trans hcnt (Nat.le_trans (List.length_filter_le ..) hl)
  refine bY (avV o hl) (fun r hr=>?_)
  refine cV (fun h=>?_) (fun _=>?_)
  ·rw[ew,hr]at h;omega
  refine xK (Q:=AK (fun _=>True) (fun _=>False)) (V8 (out.map J6).length (fun _=>True) (by rw[ew];omega) trivial (fun i _ h2=>?_)) (fun _ _=>bZ rfl) (fun r hr=>(hr:False).elim)
  unfold gJ
  refine cV (fun hi=>?_) (fun _=>jj trivial)
  obtain⟨x,hix,hx⟩:=Mx (xs:=out.map J6) (i:=i) (by omega)
  rw[hix,fk]
  obtain⟨s,hs,rfl⟩ : ∃s,out[i]? = some s∧J6 s=x:=by
   rw[jw]at hx
   exact aw.1 hx
  obtain⟨k,hk⟩ : ∃k,K[i]? = some k:=⟨_,bw (by have:=hI.len;simp only at this;have:=nJ hs;omega)⟩
  obtain⟨p,hpp,e1,e2,e3,e4,e5⟩:=hI.ofp i k s hk hs
  have hbeg:∃y∈o,agX (J6 s) y:=by
   obtain⟨z,hz,a1,a2,a3,a4⟩:=hd.beg k p hpp
   obtain⟨y,hy,rfl⟩:=List.mem_map.1 hz
   exact⟨y,hy,a2.trans e1.symm,a1,a3.trans e2.symm,a4.trans e3.symm⟩
  have hend:(J6 s).fOpen=true∨∃y∈o,aoY (J6 s) y:=by
   rcases(hd.fin k p hpp).1 with h | ⟨z,hz,a1,a2,a3⟩
   ·exact .inl (e5.trans h)
   ·obtain⟨y,hy,rfl⟩:=List.mem_map.1 hz
    exact .inr ⟨y,hy,a2.trans e1.symm,a1,a3.trans e4.symm⟩
  refine bY (ayx o (out.map J6) i (J6 s) hx hl) (fun r hr=>?_)
  obtain⟨r1,r2⟩:=r
  have h1:r1=true:=hr.1 hbeg
  have h2':r2=true:=hr.2 hend
  subst h1 h2'
  dsimp only
  refine bY (Q:=fun v=>v=false) (bZ rfl) (fun v hv=>?_)
  subst hv
  exact kX ⟨by omega,V3 (n:=(out.map J6).length) (by omega) (by rw[ew];omega),trivial⟩
 obtain⟨r,h1,h2⟩:=this
 rw[h1,h2]
end Go.VM
