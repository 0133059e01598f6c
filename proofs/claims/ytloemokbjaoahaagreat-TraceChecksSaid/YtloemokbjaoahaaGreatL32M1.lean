/- The law holds: plain mathematics on what the functions compute. -/
import Derived.Test.YtloemokbjaoahaaGreatL32B
namespace Go.VM
def wx{α ρ:Type}(g:Nat→α→Option ρ):List α→Nat→Option ρ
 | [],_=>none
 | y::ys,i=>match g i y with
  | some r=>some r
  | none=>wx g ys (i+1)
theorem abQ{α ρ:Type}(p:α→Bool)(f:α→ρ):∀(xs:List α) (i:Nat),wx (fun _ y=>if p y=true then some (f y)else none) xs i=(xs.find? p).map f
 | [],_=>rfl
 | y::ys,i=>by
  simp only[wx,List.find?_cons]
  cases h:p y with
  | true=>simp
  | false=>simp[abQ p f ys]
theorem aDQ{α ρ:Type}{g:Nat→α→Option ρ}:∀ {xs:List α} {i:Nat},wx g xs i=none↔∀j y,xs[j]? = some y→g (i+j) y=none
 | [],i=>by simp[wx]
 | y::ys,i=>by
  simp only[wx]
  cases h:g i y with
  | some r =>
   simp only[reduceCtorEq,false_iff]
   intro hx
   have:=hx 0 y rfl
   rw[Nat.add_zero,h]at this;simp at this
  | none =>
   rw[aDQ (xs:=ys) (i:=i+1)]
   constructor
   ·intro hx j y' hj
    cases j with
    | zero=>simp at hj;subst hj;exact h
    | succ j=>have:=hx j y' (by simpa using hj);rwa [show i+1+j=i+(j+1)from by omega]at this
   ·intro hx j y' hj
    have:=hx (j+1) y' (by simpa using hj)
    rwa [show i+(j+1)=i+1+j from by omega]at this
theorem ajq{α ρ:Type}(g:Nat → α → Option ρ)(e:ρ):∀(xs:List α) (i:Nat),aqY (fun i y (_:Unit) => match g i y with | some r => Sum.inr r | none => .inl ()) (fun _ => e) xs i ()=(wx g xs i).getD e
 | [],_=>rfl
 | y::ys,i=>by
  simp only[aqY,wx]
  cases g i y with
  | some r=>rfl
  | none=>exact ajq g e ys (i+1)
theorem LY{α ρ:Type}{step:Int→Option (Int ⊕ ρ)}(xs:List α)(g:Nat→α→Option ρ)(e:ρ)(hl:xs.length<fY)
  (h1:∀(i:Nat) y,xs[i]? = some y → step (i:Int)=some (match g i y with | some r => .inr r | none => .inl ((i:Int)+1))) (h2:step (xs.length:Int)=some (.inr e)):loop step 0=some ((wx g xs 0).getD e) := by
 have := atV (σ := Unit) (step := step) xs (fun i _ => (i:Int)) (fun i y _ => match g i y with | some r => .inr r | none => .inl ()) (fun _ => e) hl
  (fun i y s hy=>by
   rw[h1 i y hy]
   cases g i y<;>simp)
  (fun _=>h2) ()
 rw[show(0:Int)=((0:Nat):Int)from rfl,this,ajq]
theorem dZ{α:Type}{xs:List α}{i:Nat}{y:α}(h:xs[i]? = some y):i<xs.length:=(dw.1 h).1
theorem Q8{i:Nat}(h:i<9223372036854775807):w64 ((i:Int)+1)=(i:Int)+1:=cX (by omega)
end Go.VM
namespace Go.VM
def Ok{α:Type}(x:Option α)(P:α→Prop):Prop:=∃r,x=some r∧P r
def Yes{α:Type}:α→Prop:=fun _=>True
def s8{α β:Type}(A:α→Prop)(B:β→Prop):α ⊕ β→Prop
 | .inl a=>A a
 | .inr b=>B b
theorem cq{α:Type}{P:α→Prop}{r:α}(h:P r):Ok (some r) P:=⟨r,rfl,h⟩
theorem jq{α β:Type}{A:α→Prop}{B:β→Prop}{a:α}(h:A a):Ok (some (.inl a)) (s8 A B):=⟨_,rfl,h⟩
theorem d8{α β:Type}{A:α→Prop}{B:β→Prop}{b:β}(h:B b):Ok (some (.inr b)) (s8 A B):=⟨_,rfl,h⟩
theorem ax{α β:Type}{x:Option α}{f:α→Option β}{Q:α→Prop}{P:β→Prop}(hx:Ok x Q)(hf:∀r,Q r→Ok (f r) P):Ok (x.bind f) P:=by
 obtain⟨r,h1,h2⟩:=hx
 subst h1;exact hf r h2
theorem f8{α β γ:Type}{x:Option (α ⊕ γ)}{f:α ⊕ γ→Option β}{Q:α ⊕ γ→Prop}{P:β→Prop}(hx:Ok x Q)(hf:∀r,Q (.inl r)→Ok (f (.inl r)) P)(hg:∀r,Q (.inr r)→Ok (f (.inr r)) P):Ok (x.bind f) P :=
 ax hx (fun r => match r with | .inl a => hf a | .inr b => hg b)
theorem aEj{α β:Type}{x:Option α}{f:α→Option β}{P:β→Prop}(hx:Ok x Yes)(hf:∀r,x=some r→Ok (f r) P):Ok (x.bind f) P:=by
 obtain⟨r,h1,h2⟩:=hx
 subst h1;exact hf r rfl
theorem cj{α:Type}{b:Bool}{x y:Option α}{P:α→Prop}(h1:b=true→Ok x P)(h2:b=false→Ok y P):Ok (cond b x y) P:=by
 cases b
 ·exact h2 rfl
 ·exact h1 rfl
theorem Ok.mono{α:Type}{x:Option α}{P Q:α→Prop}(h:Ok x P)(hq:∀r,P r→Q r):Ok x Q:=by
 obtain⟨r,h1,h2⟩:=h;exact⟨r,h1,hq r h2⟩
theorem Ok.yes{α:Type}{x:Option α}{P:α→Prop}(h:Ok x P):Ok x Yes:=h.mono (fun _ _=>trivial)
theorem Ok.of_eq{α:Type}{x:Option α}{P:α→Prop}{r:α}(h:Ok x P)(e:x=some r):P r:=by
 obtain⟨r',h1,h2⟩:=h;rw[e]at h1;cases h1;exact h2
theorem dX{α:Type}{xs:List α}{i:Int}(h1:0≤i:=by first | assumption | omega | (rw[cX]<;>omega))(h2:i<xs.length:=by first | assumption | omega | (rw[cX]<;>omega)):Ok (idx xs i) (fun y=>xs[i.toNat]? = some y):=by
 obtain⟨n,rfl⟩:=Int.eq_ofNat_of_zero_le h1
 have h3:n<xs.length:=by omega
 rw[dY]
 exact⟨xs[n],by simp[h3],by simp[h3]⟩
theorem uJ{S ρ:Type}{step:S→Option (S ⊕ ρ)}(Inv:S→Prop)(m:S→Nat){Post:ρ→Prop}
  (h:∀s,Inv s→Ok (step s) (s8 (fun s'=>Inv s'∧m s'<m s) Post)) {s:S} (hs:Inv s) (hm:m s<fY):Ok (loop step s) Post:=by
 refine aYj Inv m Post (fun s hs=>?_) hs hm
 obtain⟨r,h1,h2⟩:=h s hs
 cases r with
 | inl a=>exact Or.inl ⟨a,h1,h2⟩
 | inr b=>exact Or.inr ⟨b,h1,h2⟩
theorem BQ{ρ:Type}{step:Int→Option (Int ⊕ ρ)}(n:Nat){Post:ρ→Prop}(hn:n≤9223372036854775807)
  (h:∀i:Int,0≤i→i≤n→Ok (step i) (s8 (fun a=>i<n∧a=i+1) Post)):Ok (loop step 0) Post:=by
 refine uJ (fun i:Int=>0≤i∧i≤(n:Int)) (fun i:Int=>((n:Int)-i).toNat) (fun i hi=>(h i hi.1 hi.2).mono ?_) ⟨by omega,by omega⟩ (by simp[fY];omega)
 rintro (a | b) hr
 ·obtain⟨h1,rfl⟩ : i<n∧a=i+1:=hr
  exact⟨⟨by omega,by omega⟩,by omega⟩
 ·exact hr
theorem dj{α:Type}{r:α}:Ok (some r) Yes:=⟨r,rfl,trivial⟩
theorem dJ{α β:Type}{B:β→Prop}{a:α}:Ok (some (.inl a)) (s8 Yes B):=⟨_,rfl,trivial⟩
theorem c8{α β:Type}{A:α→Prop}{b:β}:Ok (some (.inr b)) (s8 A Yes):=⟨_,rfl,trivial⟩
theorem dQ{ρ:Type}{i:Int}{n:Nat}{P:ρ→Prop}(h1:0≤i:=by first | assumption | omega | (rw[cX]<;>omega))(h2:i<(n:Int):=by first | assumption | omega | (rw[cX]<;>omega))(h3:n≤9223372036854775807:=by first | assumption | omega | (rw[cX]<;>omega)):Ok (some (.inl (w64 (i+1)))) (s8 (fun a:Int=>i<(n:Int)∧a=i+1) P) :=
 jq ⟨h2,cX (by omega)⟩
theorem bY{α:Type}{p:Prop}[Decidable p]{x y:Option α}{P:α→Prop}(h1:p→Ok x P)(h2 : ¬p→Ok y P):Ok (cond (decide p) x y) P :=
 cj (fun h=>h1 (of_decide_eq_true h)) (fun h=>h2 (of_decide_eq_false h))
theorem cQ{α:Type}{p:Prop}[Decidable p]{x y:Option α}{P:α→Prop}(h1 : ¬p→Ok x P)(h2:p→Ok y P):Ok (cond (!decide p) x y) P:=by
 by_cases h:p
 ·simpa[h]using h2 h
 ·simpa[h]using h1 h
theorem d4{α:Type}{b:Bool}{x y:Option α}{P:α→Prop}(h1:b=false→Ok x P)(h2:b=true→Ok y P):Ok (cond (!b) x y) P:=by
 cases b
 ·exact h1 rfl
 ·exact h2 rfl
abbrev Tot{α:Type}(x:Option α):Prop:=Ok x Yes
theorem VZ{σ ρ:Type}{step:σ×Int→Option ((σ×Int) ⊕ ρ)}(n:Nat)(Inv:σ→Int→Prop){Post:ρ→Prop}(hn:n≤9223372036854775807){s0:σ}(h0:Inv s0 0)
  (h:∀(s:σ) (i:Int),Inv s i→0≤i→i≤n→Ok (step (s,i)) (s8 (fun a=>i<n∧a.2=i+1∧Inv a.1 (i+1)) Post)):Ok (loop step (s0,0)) Post:=by
 refine uJ (fun s:σ×Int=>Inv s.1 s.2∧0≤s.2∧s.2≤(n:Int)) (fun s:σ×Int=>((n:Int)-s.2).toNat) (fun s hi=>(h s.1 s.2 hi.1 hi.2.1 hi.2.2).mono ?_) ⟨h0,by simp,by simp⟩ (by simp[fY];omega)
 rintro (⟨a,j⟩ | b) hr
 ·obtain⟨h1,h2,h3⟩ : s.2<n∧j=s.2+1∧Inv a (s.2+1):=hr
  subst h2
  exact⟨⟨h3,by simp;omega,by simp;omega⟩,by simp;omega⟩
 ·exact hr
theorem YK{σ ρ:Type}{s:σ}{i:Int}{n:Nat}{Inv:σ→Int→Prop}{P:ρ→Prop}(hI:Inv s (i+1))(h1:0≤i)(h2:i<(n:Int))(h3:n≤9223372036854775807):Ok (some (.inl (s,w64 (i+1)))) (s8 (fun a:σ×Int=>i<(n:Int)∧a.2=i+1∧Inv a.1 (i+1)) P) :=
 jq ⟨h2,cX (by omega),hI⟩
theorem aMj{ρ:Type}{step:Int→Option (Int ⊕ ρ)}(n:Nat)(Inv:Int→Prop){Post:ρ→Prop}(hn:n≤9223372036854775807)(h0:Inv 0)
  (h:∀i:Int,Inv i→0≤i→i≤n→Ok (step i) (s8 (fun a=>i<n∧a=i+1∧Inv (i+1)) Post)):Ok (loop step 0) Post:=by
 refine uJ (fun i:Int=>Inv i∧0≤i∧i≤(n:Int)) (fun i:Int=>((n:Int)-i).toNat) (fun i hi=>(h i hi.1 hi.2.1 hi.2.2).mono ?_) ⟨h0,by omega,by omega⟩ (by simp[fY];omega)
 rintro (a | b) hr
 ·obtain⟨h1,rfl,h3⟩ : i<n∧a=i+1∧Inv (i+1):=hr
  exact⟨⟨h3,by omega,by omega⟩,by omega⟩
 ·exact hr
theorem aCz{ρ:Type}{i:Int}{n:Nat}{Inv:Int→Prop}{P:ρ→Prop}(hI:Inv (i+1))(h1:0≤i)(h2:i<(n:Int))(h3:n≤9223372036854775807):Ok (some (.inl (w64 (i+1)))) (s8 (fun a:Int=>i<(n:Int)∧a=i+1∧Inv (i+1)) P) :=
 jq ⟨h2,cX (by omega),hI⟩
theorem D6{b n:Nat}(h1:n*b≤140737488355328)(h2:n≤9223372036854775807):Ej b n=true:=by
 simp only[Ej,cw]
 exact⟨Nat.ble_eq_true_of_le h1,Nat.ble_eq_true_of_le h2⟩
theorem HK(s:aZ):nV s=some (decide (0≤s.q0∧s.q0<s.q9∧s.q9≤1000000000000)):=by
 unfold nV
 by_cases h1:0≤s.q0<;>by_cases h2:s.q0<s.q9<;>by_cases h3:s.q9≤1000000000000<;>simp[h1,h2,h3]
theorem ZV(c:Int):Ok (Ax c) Yes:=by
 unfold Ax kx tQ
 repeat' (first | (with_reducible first | intro _ | exact dj | exact c8 | exact dJ | exact dQ | refine ax dX fun _ _=>?_ | apply cQ | apply bY | apply d4 | apply cj | apply ax (Q:=Yes)) | dsimp only)
theorem nj(s:ByteArray)(h:s.size≤9223372036854775807):Ok (qW s) Yes:=by
 unfold qW
 refine ax (Q:=Yes) ?_ (fun v _=>?_)
 ·repeat' (first | (with_reducible first | intro _ | exact dj | exact c8 | exact dJ | exact dQ | refine ax dX fun _ _=>?_ | apply cQ | apply bY | apply d4 | apply cj | apply ax (Q:=Yes)) | dsimp only)
 refine cj (fun _=>cq trivial) (fun _=>?_)
 have e:s.data.toList.length=s.size:=by rw[Array.length_toList];rfl
 refine f8 (Q:=Yes) (BQ s.size h fun i h1 h2=>?_) (fun _ _=>?_) (fun _ _=>?_)
 ·unfold xY
  repeat' (first | (with_reducible first | intro _ | exact dj | exact c8 | exact dJ | exact dQ | refine ax dX fun _ _=>?_ | apply cQ | apply bY | apply d4 | apply cj | (refine Ok.yes (dX ?_ (by rw[e];(first | assumption | omega | rw[cX]<;>omega)))<;>(first | assumption | omega | rw[cX]<;>omega)) | (refine Ok.yes (ZV _)<;>(first | assumption | omega | rw[cX]<;>omega)) | apply ax (Q:=Yes)) | dsimp only)
 ·repeat' (first | (with_reducible first | intro _ | exact dj | exact c8 | exact dJ | exact dQ | refine ax dX fun _ _=>?_ | apply cQ | apply bY | apply d4 | apply cj | apply ax (Q:=Yes)) | dsimp only)
 ·repeat' (first | (with_reducible first | intro _ | exact dj | exact c8 | exact dJ | exact dQ | refine ax dX fun _ _=>?_ | apply cQ | apply bY | apply d4 | apply cj | apply ax (Q:=Yes)) | dsimp only)
abbrev okN(s:ByteArray):Prop:=s.size≤9223372036854775807
theorem G0(t:dW)(h:okN t.q8):Ok (sQ t) Yes:=by
 unfold sQ
 repeat' (first | (with_reducible first | intro _ | exact dj | exact c8 | exact dJ | exact dQ | refine ax dX fun _ _=>?_ | apply cQ | apply bY | apply d4 | apply cj | (refine Ok.yes (nj _ h)<;>(first | assumption | omega | rw[cX]<;>omega)) | apply ax (Q:=Yes)) | dsimp only)
theorem yz(s:aZ):Ok (nV s) Yes:=by
 unfold nV
 repeat' (first | (with_reducible first | intro _ | exact dj | exact c8 | exact dJ | exact dQ | refine ax dX fun _ _=>?_ | apply cQ | apply bY | apply d4 | apply cj | apply ax (Q:=Yes)) | dsimp only)
theorem MW(a b:Int):Ok (kq a b) Yes:=by
 unfold kq DX
 repeat' (first | (with_reducible first | intro _ | exact dj | exact c8 | exact dJ | exact dQ | refine ax dX fun _ _=>?_ | apply cQ | apply bY | apply d4 | apply cj | apply ax (Q:=Yes)) | dsimp only)
theorem U6(l:List Int)(h:l.length≤9223372036854775807):Ok (CJ l) Yes:=by
 unfold CJ
 refine f8 (Q:=Yes) (BQ l.length (by omega) fun i h1 h2=>?_) (fun _ _=>?_) (fun _ _=>?_)
 ·unfold F7
  repeat' (first | (with_reducible first | intro _ | exact dj | exact c8 | exact dJ | exact dQ | refine ax dX fun _ _=>?_ | apply cQ | apply bY | apply d4 | apply cj | apply ax (Q:=Yes)) | dsimp only)
 ·repeat' (first | (with_reducible first | intro _ | exact dj | exact c8 | exact dJ | exact dQ | refine ax dX fun _ _=>?_ | apply cQ | apply bY | apply d4 | apply cj | apply ax (Q:=Yes)) | dsimp only)
 ·repeat' (first | (with_reducible first | intro _ | exact dj | exact c8 | exact dJ | exact dQ | refine ax dX fun _ _=>?_ | apply cQ | apply bY | apply d4 | apply cj | apply ax (Q:=Yes)) | dsimp only)
theorem I1(a b:aY):Ok (xx a b) Yes:=by
 unfold xx
 repeat' (first | (with_reducible first | intro _ | exact dj | exact c8 | exact dJ | exact dQ | refine ax dX fun _ _=>?_ | apply cQ | apply bY | apply d4 | apply cj | (refine Ok.yes (MW _ _)<;>(first | assumption | omega | rw[cX]<;>omega)) | (refine Ok.yes (U6 _ (Nat.le_of_ble_eq_true rfl))<;>(first | assumption | omega | rw[cX]<;>omega)) | apply ax (Q:=Yes)) | dsimp only)
theorem B1(l:List ByteArray)(h:l.length≤9223372036854775807)(hx:∀x∈l,okN x):Ok (xj l) Yes:=by
 unfold xj
 refine bY (fun _=>dj) (fun _=>?_)
 refine f8 (Q:=Yes) (BQ l.length (by omega) fun i h1 h2=>?_) (fun _ _=>?_) (fun _ _=>?_)
 ·unfold BY
  repeat' (first | (with_reducible first | intro _ | exact dj | exact c8 | exact dJ | exact dQ | refine ax dX fun _ _=>?_ | apply cQ | apply bY | apply d4 | apply cj | (refine Ok.yes (nj _ (hx _ (ek (by assumption))))<;>(first | assumption | omega | rw[cX]<;>omega)) | apply ax (Q:=Yes)) | dsimp only)
 ·repeat' (first | (with_reducible first | intro _ | exact dj | exact c8 | exact dJ | exact dQ | refine ax dX fun _ _=>?_ | apply cQ | apply bY | apply d4 | apply cj | (refine Ok.yes (nj _ (hx _ (ek (by assumption))))<;>(first | assumption | omega | rw[cX]<;>omega)) | apply ax (Q:=Yes)) | dsimp only)
 ·repeat' (first | (with_reducible first | intro _ | exact dj | exact c8 | exact dJ | exact dQ | refine ax dX fun _ _=>?_ | apply cQ | apply bY | apply d4 | apply cj | (refine Ok.yes (nj _ (hx _ (ek (by assumption))))<;>(first | assumption | omega | rw[cX]<;>omega)) | apply ax (Q:=Yes)) | dsimp only)
structure Siz(t:a0):Prop where
 th:t.q7.length≤9223372036854775807
 sl:t.z3.length≤9223372036854775807
 st:t.z8.length≤9223372036854775807
 fl:t.z6.length≤9223372036854775807
 sa:t.z2.length≤9223372036854775807
 sp:t.j4.length≤9223372036854775807
 bl:t.z5.length≤9223372036854775807
 lo:t.j7.length≤9223372036854775807
 nTh:∀x∈t.q7,okN x.q8
 nSl:∀x∈t.z3,okN x.q8
 nSa:∀x∈t.z2,x.z7.length≤9223372036854775807∧∀y∈x.z7,okN y
 nSp:∀x∈t.j4,okN x.q8
 nBl:∀x∈t.z5,x.z7.length≤9223372036854775807∧∀y∈x.z7,okN y
theorem aaW(t:a0)(hl:t.q7.length≤9223372036854775807)(hn:∀x∈t.q7,okN x.q8):Ok (uj t) (s8 (fun r=>r.2≠0) Yes):=by
 unfold uj
 refine bY (fun _=>jq (by simp)) (fun _=>?_)
 refine f8 (Q:=s8 Yes (s8 (fun r=>r.2≠0) Yes)) (VZ t.q7.length (fun _ _=>True) hl trivial (fun a i _ h1 h2=>?_)) (fun _ _=>?_) (fun r hr=>?_)
 ·unfold Fx
  dsimp only
  refine bY (fun h=>?_) (fun _=>d8 trivial)
  refine ax (dX h1 h) (fun y hy=>?_)
  refine ax (G0 _ (hn _ (ek hy))) (fun r _=>?_)
  refine cQ (fun h0=>d8 h0) (fun _=>?_)
  refine cj (fun _=>d8 (by simp[s8])) (fun _=>?_)
  exact YK (Inv:=fun _ _=>True) trivial h1 h hl
 ·exact d8 trivial
 ·exact⟨_,rfl,hr⟩
theorem H3(a):Tot (E6 a):=⟨_,rfl,trivial⟩
theorem KV(e:Int)(m)(l:List aY)(h:l.length≤9223372036854775807):Tot (iY e m l):=by
 unfold iY
 refine cQ (fun _=>dj) (fun _=>?_)
 refine f8 (Q:=Yes) (BQ l.length (by omega) fun i h1 h2=>?_) (fun _ _=>?_) (fun _ _=>?_)
 ·unfold m4
  repeat' (first | (with_reducible first | intro _ | exact dj | exact c8 | exact dJ | exact dQ | refine ax dX fun _ _=>?_ | apply cQ | apply bY | apply d4 | apply cj | (refine Ok.yes (H3 _)<;>(first | assumption | omega | rw[cX]<;>omega)) | apply ax (Q:=Yes)) | dsimp only)
 ·repeat' (first | (with_reducible first | intro _ | exact dj | exact c8 | exact dJ | exact dQ | refine ax dX fun _ _=>?_ | apply cQ | apply bY | apply d4 | apply cj | (refine Ok.yes (H3 _)<;>(first | assumption | omega | rw[cX]<;>omega)) | apply ax (Q:=Yes)) | dsimp only)
 ·repeat' (first | (with_reducible first | intro _ | exact dj | exact c8 | exact dJ | exact dQ | refine ax dX fun _ _=>?_ | apply cQ | apply bY | apply d4 | apply cj | (refine Ok.yes (H3 _)<;>(first | assumption | omega | rw[cX]<;>omega)) | apply ax (Q:=Yes)) | dsimp only)
theorem HW(a):Tot (E8 a):=⟨_,rfl,trivial⟩
theorem Lz(e:Int)(m)(l:List d3)(h:l.length≤9223372036854775807):Tot (kY e m l):=by
 unfold kY
 refine cQ (fun _=>dj) (fun _=>?_)
 refine f8 (Q:=Yes) (BQ l.length (by omega) fun i h1 h2=>?_) (fun _ _=>?_) (fun _ _=>?_)
 ·unfold n9
  repeat' (first | (with_reducible first | intro _ | exact dj | exact c8 | exact dJ | exact dQ | refine ax dX fun _ _=>?_ | apply cQ | apply bY | apply d4 | apply cj | (refine Ok.yes (HW _)<;>(first | assumption | omega | rw[cX]<;>omega)) | apply ax (Q:=Yes)) | dsimp only)
 ·repeat' (first | (with_reducible first | intro _ | exact dj | exact c8 | exact dJ | exact dQ | refine ax dX fun _ _=>?_ | apply cQ | apply bY | apply d4 | apply cj | (refine Ok.yes (HW _)<;>(first | assumption | omega | rw[cX]<;>omega)) | apply ax (Q:=Yes)) | dsimp only)
 ·repeat' (first | (with_reducible first | intro _ | exact dj | exact c8 | exact dJ | exact dQ | refine ax dX fun _ _=>?_ | apply cQ | apply bY | apply d4 | apply cj | (refine Ok.yes (HW _)<;>(first | assumption | omega | rw[cX]<;>omega)) | apply ax (Q:=Yes)) | dsimp only)
theorem HY(a):Tot (E2 a):=⟨_,rfl,trivial⟩
theorem LJ(e:Int)(m)(l:List d3)(h:l.length≤9223372036854775807):Tot (kK e m l):=by
 unfold kK
 refine cQ (fun _=>dj) (fun _=>?_)
 refine f8 (Q:=Yes) (BQ l.length (by omega) fun i h1 h2=>?_) (fun _ _=>?_) (fun _ _=>?_)
 ·unfold nJ
  repeat' (first | (with_reducible first | intro _ | exact dj | exact c8 | exact dJ | exact dQ | refine ax dX fun _ _=>?_ | apply cQ | apply bY | apply d4 | apply cj | (refine Ok.yes (HY _)<;>(first | assumption | omega | rw[cX]<;>omega)) | apply ax (Q:=Yes)) | dsimp only)
 ·repeat' (first | (with_reducible first | intro _ | exact dj | exact c8 | exact dJ | exact dQ | refine ax dX fun _ _=>?_ | apply cQ | apply bY | apply d4 | apply cj | (refine Ok.yes (HY _)<;>(first | assumption | omega | rw[cX]<;>omega)) | apply ax (Q:=Yes)) | dsimp only)
 ·repeat' (first | (with_reducible first | intro _ | exact dj | exact c8 | exact dJ | exact dQ | refine ax dX fun _ _=>?_ | apply cQ | apply bY | apply d4 | apply cj | (refine Ok.yes (HY _)<;>(first | assumption | omega | rw[cX]<;>omega)) | apply ax (Q:=Yes)) | dsimp only)
theorem HQ(a):Tot (E4 a):=⟨_,rfl,trivial⟩
theorem JY(e:Int)(m)(l:List cY)(h:l.length≤9223372036854775807):Tot (jW e m l):=by
 unfold jW
 refine cQ (fun _=>dj) (fun _=>?_)
 refine f8 (Q:=Yes) (BQ l.length (by omega) fun i h1 h2=>?_) (fun _ _=>?_) (fun _ _=>?_)
 ·unfold l8
  repeat' (first | (with_reducible first | intro _ | exact dj | exact c8 | exact dJ | exact dQ | refine ax dX fun _ _=>?_ | apply cQ | apply bY | apply d4 | apply cj | (refine Ok.yes (HQ _)<;>(first | assumption | omega | rw[cX]<;>omega)) | apply ax (Q:=Yes)) | dsimp only)
 ·repeat' (first | (with_reducible first | intro _ | exact dj | exact c8 | exact dJ | exact dQ | refine ax dX fun _ _=>?_ | apply cQ | apply bY | apply d4 | apply cj | (refine Ok.yes (HQ _)<;>(first | assumption | omega | rw[cX]<;>omega)) | apply ax (Q:=Yes)) | dsimp only)
 ·repeat' (first | (with_reducible first | intro _ | exact dj | exact c8 | exact dJ | exact dQ | refine ax dX fun _ _=>?_ | apply cQ | apply bY | apply d4 | apply cj | (refine Ok.yes (HQ _)<;>(first | assumption | omega | rw[cX]<;>omega)) | apply ax (Q:=Yes)) | dsimp only)
theorem HX(a):Tot (EZ a):=⟨_,rfl,trivial⟩
theorem K6(e:Int)(m)(l:List dq)(h:l.length≤9223372036854775807):Tot (kX e m l):=by
 unfold kX
 refine cQ (fun _=>dj) (fun _=>?_)
 refine f8 (Q:=Yes) (BQ l.length (by omega) fun i h1 h2=>?_) (fun _ _=>?_) (fun _ _=>?_)
 ·unfold mK
  repeat' (first | (with_reducible first | intro _ | exact dj | exact c8 | exact dJ | exact dQ | refine ax dX fun _ _=>?_ | apply cQ | apply bY | apply d4 | apply cj | (refine Ok.yes (HX _)<;>(first | assumption | omega | rw[cX]<;>omega)) | apply ax (Q:=Yes)) | dsimp only)
 ·repeat' (first | (with_reducible first | intro _ | exact dj | exact c8 | exact dJ | exact dQ | refine ax dX fun _ _=>?_ | apply cQ | apply bY | apply d4 | apply cj | (refine Ok.yes (HX _)<;>(first | assumption | omega | rw[cX]<;>omega)) | apply ax (Q:=Yes)) | dsimp only)
 ·repeat' (first | (with_reducible first | intro _ | exact dj | exact c8 | exact dJ | exact dQ | refine ax dX fun _ _=>?_ | apply cQ | apply bY | apply d4 | apply cj | (refine Ok.yes (HX _)<;>(first | assumption | omega | rw[cX]<;>omega)) | apply ax (Q:=Yes)) | dsimp only)
theorem WZ(m)(l:List f6)(h:l.length≤9223372036854775807):Tot (wQ m l):=by
 unfold wQ
 refine f8 (Q:=Yes) (BQ l.length (by omega) fun i h1 h2=>?_) (fun _ _=>?_) (fun _ _=>?_)
 ·unfold yj
  repeat' (first | (with_reducible first | intro _ | exact dj | exact c8 | exact dJ | exact dQ | refine ax dX fun _ _=>?_ | apply cQ | apply bY | apply d4 | apply cj | (refine Ok.yes (yz _)<;>(first | assumption | omega | rw[cX]<;>omega)) | apply ax (Q:=Yes)) | dsimp only)
 ·repeat' (first | (with_reducible first | intro _ | exact dj | exact c8 | exact dJ | exact dQ | refine ax dX fun _ _=>?_ | apply cQ | apply bY | apply d4 | apply cj | (refine Ok.yes (yz _)<;>(first | assumption | omega | rw[cX]<;>omega)) | apply ax (Q:=Yes)) | dsimp only)
 ·repeat' (first | (with_reducible first | intro _ | exact dj | exact c8 | exact dJ | exact dQ | refine ax dX fun _ _=>?_ | apply cQ | apply bY | apply d4 | apply cj | (refine Ok.yes (yz _)<;>(first | assumption | omega | rw[cX]<;>omega)) | apply ax (Q:=Yes)) | dsimp only)
theorem R9(a b:Int):Tot (BZ a b):=by
 unfold BZ
 repeat' (first | (with_reducible first | intro _ | exact dj | exact c8 | exact dJ | exact dQ | refine ax dX fun _ _=>?_ | apply cQ | apply bY | apply d4 | apply cj | apply ax (Q:=Yes)) | dsimp only)
theorem LV(a):Tot (Jx a):=by
 unfold Jx
 repeat' (first | (with_reducible first | intro _ | exact dj | exact c8 | exact dJ | exact dQ | refine ax dX fun _ _=>?_ | apply cQ | apply bY | apply d4 | apply cj | apply ax (Q:=Yes)) | dsimp only)
theorem T1(a):Tot (VW a):=by
 unfold VW
 repeat' (first | (with_reducible first | intro _ | exact dj | exact c8 | exact dJ | exact dQ | refine ax dX fun _ _=>?_ | apply cQ | apply bY | apply d4 | apply cj | apply ax (Q:=Yes)) | dsimp only)
theorem R3(a b):Tot (p5 a b):=by
 unfold p5 xJ
 repeat' (first | (with_reducible first | intro _ | exact dj | exact c8 | exact dJ | exact dQ | refine ax dX fun _ _=>?_ | apply cQ | apply bY | apply d4 | apply cj | apply ax (Q:=Yes)) | dsimp only)
theorem IZ(a b):Tot (uZ a b):=by
 unfold uZ
 repeat' (first | (with_reducible first | intro _ | exact dj | exact c8 | exact dJ | exact dQ | refine ax dX fun _ _=>?_ | apply cQ | apply bY | apply d4 | apply cj | (refine Ok.yes (R3 _ _)<;>(first | assumption | omega | rw[cX]<;>omega)) | (refine Ok.yes (MW _ _)<;>(first | assumption | omega | rw[cX]<;>omega)) | (refine Ok.yes (U6 _ (Nat.le_of_ble_eq_true rfl))<;>(first | assumption | omega | rw[cX]<;>omega)) | apply ax (Q:=Yes)) | dsimp only)
theorem U5(l:List d3)(h:l.length≤9223372036854775807):Tot (G7 l):=by
 unfold G7
 refine f8 (Q:=Yes) (BQ l.length (by omega) fun i h1 h2=>?_) (fun _ _=>?_) (fun _ _=>?_)
 ·unfold F9
  repeat' (first | (with_reducible first | intro _ | exact dj | exact c8 | exact dJ | exact dQ | refine ax dX fun _ _=>?_ | apply cQ | apply bY | apply d4 | apply cj | (refine Ok.yes (R9 _ _)<;>(first | assumption | omega | rw[cX]<;>omega)) | apply ax (Q:=Yes)) | dsimp only)
 ·repeat' (first | (with_reducible first | intro _ | exact dj | exact c8 | exact dJ | exact dQ | refine ax dX fun _ _=>?_ | apply cQ | apply bY | apply d4 | apply cj | (refine Ok.yes (R9 _ _)<;>(first | assumption | omega | rw[cX]<;>omega)) | apply ax (Q:=Yes)) | dsimp only)
 ·repeat' (first | (with_reducible first | intro _ | exact dj | exact c8 | exact dJ | exact dQ | refine ax dX fun _ _=>?_ | apply cQ | apply bY | apply d4 | apply cj | (refine Ok.yes (R9 _ _)<;>(first | assumption | omega | rw[cX]<;>omega)) | apply ax (Q:=Yes)) | dsimp only)
theorem RQ(l:List cY)(h:l.length≤9223372036854775807)(hx:∀x∈l,x.z7.length≤9223372036854775807∧∀y∈x.z7,okN y):Tot (CY l):=by
 unfold CY
 refine f8 (Q:=Yes) (BQ l.length (by omega) fun i h1 h2=>?_) (fun _ _=>?_) (fun _ _=>?_)
 ·unfold C6
  repeat' (first | (with_reducible first | intro _ | exact dj | exact c8 | exact dJ | exact dQ | refine ax dX fun _ _=>?_ | apply cQ | apply bY | apply d4 | apply cj | (refine Ok.yes (LV _)<;>(first | assumption | omega | rw[cX]<;>omega)) | (refine Ok.yes (B1 _ (hx _ (ek (by assumption))).1 (hx _ (ek (by assumption))).2)<;>(first | assumption | omega | rw[cX]<;>omega)) | apply ax (Q:=Yes)) | dsimp only)
 ·repeat' (first | (with_reducible first | intro _ | exact dj | exact c8 | exact dJ | exact dQ | refine ax dX fun _ _=>?_ | apply cQ | apply bY | apply d4 | apply cj | (refine Ok.yes (LV _)<;>(first | assumption | omega | rw[cX]<;>omega)) | (refine Ok.yes (B1 _ (hx _ (ek (by assumption))).1 (hx _ (ek (by assumption))).2)<;>(first | assumption | omega | rw[cX]<;>omega)) | apply ax (Q:=Yes)) | dsimp only)
 ·repeat' (first | (with_reducible first | intro _ | exact dj | exact c8 | exact dJ | exact dQ | refine ax dX fun _ _=>?_ | apply cQ | apply bY | apply d4 | apply cj | (refine Ok.yes (LV _)<;>(first | assumption | omega | rw[cX]<;>omega)) | (refine Ok.yes (B1 _ (hx _ (ek (by assumption))).1 (hx _ (ek (by assumption))).2)<;>(first | assumption | omega | rw[cX]<;>omega)) | apply ax (Q:=Yes)) | dsimp only)
theorem aaY(l:List cV)(h:l.length≤9223372036854775807)(hx:∀x∈l,okN x.q8):Tot (rz l):=by
 unfold rz
 refine f8 (Q:=Yes) (BQ l.length (by omega) fun i h1 h2=>?_) (fun _ _=>?_) (fun _ _=>?_)
 ·unfold xQ
  repeat' (first | (with_reducible first | intro _ | exact dj | exact c8 | exact dJ | exact dQ | refine ax dX fun _ _=>?_ | apply cQ | apply bY | apply d4 | apply cj | (refine Ok.yes (T1 _)<;>(first | assumption | omega | rw[cX]<;>omega)) | (refine Ok.yes (IZ _ _)<;>(first | assumption | omega | rw[cX]<;>omega)) | (refine Ok.yes (nj _ (hx _ (ek (by assumption))))<;>(first | assumption | omega | rw[cX]<;>omega)) | apply ax (Q:=Yes)) | dsimp only)
 ·repeat' (first | (with_reducible first | intro _ | exact dj | exact c8 | exact dJ | exact dQ | refine ax dX fun _ _=>?_ | apply cQ | apply bY | apply d4 | apply cj | (refine Ok.yes (T1 _)<;>(first | assumption | omega | rw[cX]<;>omega)) | (refine Ok.yes (IZ _ _)<;>(first | assumption | omega | rw[cX]<;>omega)) | (refine Ok.yes (nj _ (hx _ (ek (by assumption))))<;>(first | assumption | omega | rw[cX]<;>omega)) | apply ax (Q:=Yes)) | dsimp only)
 ·repeat' (first | (with_reducible first | intro _ | exact dj | exact c8 | exact dJ | exact dQ | refine ax dX fun _ _=>?_ | apply cQ | apply bY | apply d4 | apply cj | (refine Ok.yes (T1 _)<;>(first | assumption | omega | rw[cX]<;>omega)) | (refine Ok.yes (IZ _ _)<;>(first | assumption | omega | rw[cX]<;>omega)) | (refine Ok.yes (nj _ (hx _ (ek (by assumption))))<;>(first | assumption | omega | rw[cX]<;>omega)) | apply ax (Q:=Yes)) | dsimp only)
theorem zq(a b):Tot (wW a b):=by
 unfold wW
 repeat' (first | (with_reducible first | intro _ | exact dj | exact c8 | exact dJ | exact dQ | refine ax dX fun _ _=>?_ | apply cQ | apply bY | apply d4 | apply cj | apply ax (Q:=Yes)) | dsimp only)
theorem zx(a b):Tot (l3 a b):=by
 unfold l3
 repeat' (first | (with_reducible first | intro _ | exact dj | exact c8 | exact dJ | exact dQ | refine ax dX fun _ _=>?_ | apply cQ | apply bY | apply d4 | apply cj | apply ax (Q:=Yes)) | dsimp only)
theorem DK(a b):Tot (tX a b):=by
 unfold tX
 repeat' (first | (with_reducible first | intro _ | exact dj | exact c8 | exact dJ | exact dQ | refine ax dX fun _ _=>?_ | apply cQ | apply bY | apply d4 | apply cj | (refine Ok.yes (zq _ _)<;>(first | assumption | omega | rw[cX]<;>omega)) | (refine Ok.yes (zx _ _)<;>(first | assumption | omega | rw[cX]<;>omega)) | apply ax (Q:=Yes)) | dsimp only)
theorem A1(l:List aY)(a)(h:l.length≤9223372036854775807):Tot (eY l a):=by
 unfold eY
 refine ax (Q:=Yes) ?_ (fun _ _=>dj)
 unfold iZ
 refine f8 (Q:=Yes) (BQ l.length (by omega) fun i h1 h2=>?_) (fun _ _=>?_) (fun _ _=>?_)
 ·unfold gX
  repeat' (first | (with_reducible first | intro _ | exact dj | exact c8 | exact dJ | exact dQ | refine ax dX fun _ _=>?_ | apply cQ | apply bY | apply d4 | apply cj | (refine Ok.yes (DK _ _)<;>(first | assumption | omega | rw[cX]<;>omega)) | apply ax (Q:=Yes)) | dsimp only)
 ·repeat' (first | (with_reducible first | intro _ | exact dj | exact c8 | exact dJ | exact dQ | refine ax dX fun _ _=>?_ | apply cQ | apply bY | apply d4 | apply cj | (refine Ok.yes (DK _ _)<;>(first | assumption | omega | rw[cX]<;>omega)) | apply ax (Q:=Yes)) | dsimp only)
 ·repeat' (first | (with_reducible first | intro _ | exact dj | exact c8 | exact dJ | exact dQ | refine ax dX fun _ _=>?_ | apply cQ | apply bY | apply d4 | apply cj | (refine Ok.yes (DK _ _)<;>(first | assumption | omega | rw[cX]<;>omega)) | apply ax (Q:=Yes)) | dsimp only)
theorem DW(a b):Tot (tz a b):=by
 unfold tz
 repeat' (first | (with_reducible first | intro _ | exact dj | exact c8 | exact dJ | exact dQ | refine ax dX fun _ _=>?_ | apply cQ | apply bY | apply d4 | apply cj | (refine Ok.yes (zq _ _)<;>(first | assumption | omega | rw[cX]<;>omega)) | (refine Ok.yes (zx _ _)<;>(first | assumption | omega | rw[cX]<;>omega)) | apply ax (Q:=Yes)) | dsimp only)
theorem A2(l:List cZ)(a)(h:l.length≤9223372036854775807):Tot (eK l a):=by
 unfold eK
 refine ax (Q:=Yes) ?_ (fun _ _=>dj)
 unfold iX
 refine f8 (Q:=Yes) (BQ l.length (by omega) fun i h1 h2=>?_) (fun _ _=>?_) (fun _ _=>?_)
 ·unfold gj
  repeat' (first | (with_reducible first | intro _ | exact dj | exact c8 | exact dJ | exact dQ | refine ax dX fun _ _=>?_ | apply cQ | apply bY | apply d4 | apply cj | (refine Ok.yes (DW _ _)<;>(first | assumption | omega | rw[cX]<;>omega)) | apply ax (Q:=Yes)) | dsimp only)
 ·repeat' (first | (with_reducible first | intro _ | exact dj | exact c8 | exact dJ | exact dQ | refine ax dX fun _ _=>?_ | apply cQ | apply bY | apply d4 | apply cj | (refine Ok.yes (DW _ _)<;>(first | assumption | omega | rw[cX]<;>omega)) | apply ax (Q:=Yes)) | dsimp only)
 ·repeat' (first | (with_reducible first | intro _ | exact dj | exact c8 | exact dJ | exact dQ | refine ax dX fun _ _=>?_ | apply cQ | apply bY | apply d4 | apply cj | (refine Ok.yes (DW _ _)<;>(first | assumption | omega | rw[cX]<;>omega)) | apply ax (Q:=Yes)) | dsimp only)
theorem DY(a b):Tot (tV a b):=by
 unfold tV
 repeat' (first | (with_reducible first | intro _ | exact dj | exact c8 | exact dJ | exact dQ | refine ax dX fun _ _=>?_ | apply cQ | apply bY | apply d4 | apply cj | (refine Ok.yes (zq _ _)<;>(first | assumption | omega | rw[cX]<;>omega)) | (refine Ok.yes (zx _ _)<;>(first | assumption | omega | rw[cX]<;>omega)) | apply ax (Q:=Yes)) | dsimp only)
theorem AK(l:List dq)(a)(h:l.length≤9223372036854775807):Tot (eV l a):=by
 unfold eV
 refine ax (Q:=Yes) ?_ (fun _ _=>dj)
 unfold iQ
 refine f8 (Q:=Yes) (BQ l.length (by omega) fun i h1 h2=>?_) (fun _ _=>?_) (fun _ _=>?_)
 ·unfold gQ
  repeat' (first | (with_reducible first | intro _ | exact dj | exact c8 | exact dJ | exact dQ | refine ax dX fun _ _=>?_ | apply cQ | apply bY | apply d4 | apply cj | (refine Ok.yes (DY _ _)<;>(first | assumption | omega | rw[cX]<;>omega)) | apply ax (Q:=Yes)) | dsimp only)
 ·repeat' (first | (with_reducible first | intro _ | exact dj | exact c8 | exact dJ | exact dQ | refine ax dX fun _ _=>?_ | apply cQ | apply bY | apply d4 | apply cj | (refine Ok.yes (DY _ _)<;>(first | assumption | omega | rw[cX]<;>omega)) | apply ax (Q:=Yes)) | dsimp only)
 ·repeat' (first | (with_reducible first | intro _ | exact dj | exact c8 | exact dJ | exact dQ | refine ax dX fun _ _=>?_ | apply cQ | apply bY | apply d4 | apply cj | (refine Ok.yes (DY _ _)<;>(first | assumption | omega | rw[cX]<;>omega)) | apply ax (Q:=Yes)) | dsimp only)
theorem D0(a b):Tot (tq a b):=by
 unfold tq
 repeat' (first | (with_reducible first | intro _ | exact dj | exact c8 | exact dJ | exact dQ | refine ax dX fun _ _=>?_ | apply cQ | apply bY | apply d4 | apply cj | (refine Ok.yes (zq _ _)<;>(first | assumption | omega | rw[cX]<;>omega)) | (refine Ok.yes (zx _ _)<;>(first | assumption | omega | rw[cX]<;>omega)) | apply ax (Q:=Yes)) | dsimp only)
theorem B9(l:List d3)(a)(h:l.length≤9223372036854775807):Tot (fX l a):=by
 unfold fX
 refine ax (Q:=Yes) ?_ (fun _ _=>dj)
 unfold i7
 refine f8 (Q:=Yes) (BQ l.length (by omega) fun i h1 h2=>?_) (fun _ _=>?_) (fun _ _=>?_)
 ·unfold g0
  repeat' (first | (with_reducible first | intro _ | exact dj | exact c8 | exact dJ | exact dQ | refine ax dX fun _ _=>?_ | apply cQ | apply bY | apply d4 | apply cj | (refine Ok.yes (D0 _ _)<;>(first | assumption | omega | rw[cX]<;>omega)) | apply ax (Q:=Yes)) | dsimp only)
 ·repeat' (first | (with_reducible first | intro _ | exact dj | exact c8 | exact dJ | exact dQ | refine ax dX fun _ _=>?_ | apply cQ | apply bY | apply d4 | apply cj | (refine Ok.yes (D0 _ _)<;>(first | assumption | omega | rw[cX]<;>omega)) | apply ax (Q:=Yes)) | dsimp only)
 ·repeat' (first | (with_reducible first | intro _ | exact dj | exact c8 | exact dJ | exact dQ | refine ax dX fun _ _=>?_ | apply cQ | apply bY | apply d4 | apply cj | (refine Ok.yes (D0 _ _)<;>(first | assumption | omega | rw[cX]<;>omega)) | apply ax (Q:=Yes)) | dsimp only)
theorem D4(a b):Tot (tx a b):=by
 unfold tx
 repeat' (first | (with_reducible first | intro _ | exact dj | exact c8 | exact dJ | exact dQ | refine ax dX fun _ _=>?_ | apply cQ | apply bY | apply d4 | apply cj | (refine Ok.yes (zq _ _)<;>(first | assumption | omega | rw[cX]<;>omega)) | (refine Ok.yes (zx _ _)<;>(first | assumption | omega | rw[cX]<;>omega)) | apply ax (Q:=Yes)) | dsimp only)
theorem zV(l:List cY)(a)(h:l.length≤9223372036854775807):Tot (eX l a):=by
 unfold eX
 refine ax (Q:=Yes) ?_ (fun _ _=>dj)
 unfold gZ
 refine f8 (Q:=Yes) (BQ l.length (by omega) fun i h1 h2=>?_) (fun _ _=>?_) (fun _ _=>?_)
 ·unfold f9
  repeat' (first | (with_reducible first | intro _ | exact dj | exact c8 | exact dJ | exact dQ | refine ax dX fun _ _=>?_ | apply cQ | apply bY | apply d4 | apply cj | (refine Ok.yes (D4 _ _)<;>(first | assumption | omega | rw[cX]<;>omega)) | apply ax (Q:=Yes)) | dsimp only)
 ·repeat' (first | (with_reducible first | intro _ | exact dj | exact c8 | exact dJ | exact dQ | refine ax dX fun _ _=>?_ | apply cQ | apply bY | apply d4 | apply cj | (refine Ok.yes (D4 _ _)<;>(first | assumption | omega | rw[cX]<;>omega)) | apply ax (Q:=Yes)) | dsimp only)
 ·repeat' (first | (with_reducible first | intro _ | exact dj | exact c8 | exact dJ | exact dQ | refine ax dX fun _ _=>?_ | apply cQ | apply bY | apply d4 | apply cj | (refine Ok.yes (D4 _ _)<;>(first | assumption | omega | rw[cX]<;>omega)) | apply ax (Q:=Yes)) | dsimp only)
theorem D3(a b):Tot (tj a b):=by
 unfold tj
 repeat' (first | (with_reducible first | intro _ | exact dj | exact c8 | exact dJ | exact dQ | refine ax dX fun _ _=>?_ | apply cQ | apply bY | apply d4 | apply cj | (refine Ok.yes (zq _ _)<;>(first | assumption | omega | rw[cX]<;>omega)) | (refine Ok.yes (zx _ _)<;>(first | assumption | omega | rw[cX]<;>omega)) | apply ax (Q:=Yes)) | dsimp only)
theorem B5(l:List cV)(a)(h:l.length≤9223372036854775807):Tot (fQ l a):=by
 unfold fQ
 refine ax (Q:=Yes) ?_ (fun _ _=>dj)
 unfold i8
 refine f8 (Q:=Yes) (BQ l.length (by omega) fun i h1 h2=>?_) (fun _ _=>?_) (fun _ _=>?_)
 ·unfold iq
  repeat' (first | (with_reducible first | intro _ | exact dj | exact c8 | exact dJ | exact dQ | refine ax dX fun _ _=>?_ | apply cQ | apply bY | apply d4 | apply cj | (refine Ok.yes (D3 _ _)<;>(first | assumption | omega | rw[cX]<;>omega)) | apply ax (Q:=Yes)) | dsimp only)
 ·repeat' (first | (with_reducible first | intro _ | exact dj | exact c8 | exact dJ | exact dQ | refine ax dX fun _ _=>?_ | apply cQ | apply bY | apply d4 | apply cj | (refine Ok.yes (D3 _ _)<;>(first | assumption | omega | rw[cX]<;>omega)) | apply ax (Q:=Yes)) | dsimp only)
 ·repeat' (first | (with_reducible first | intro _ | exact dj | exact c8 | exact dJ | exact dQ | refine ax dX fun _ _=>?_ | apply cQ | apply bY | apply d4 | apply cj | (refine Ok.yes (D3 _ _)<;>(first | assumption | omega | rw[cX]<;>omega)) | apply ax (Q:=Yes)) | dsimp only)
theorem abq(t:a0)(h:Siz t):Tot (DQ t):=by
 unfold DQ
 repeat' (first | (with_reducible first | intro _ | exact dj | exact c8 | exact dJ | exact dQ | refine ax dX fun _ _=>?_ | apply cQ | apply bY | apply d4 | apply cj | (refine Ok.yes (A1 _ _ h.sl)<;>(first | assumption | omega | rw[cX]<;>omega)) | (refine Ok.yes (A2 _ _ h.st)<;>(first | assumption | omega | rw[cX]<;>omega)) | (refine Ok.yes (AK _ _ h.bl)<;>(first | assumption | omega | rw[cX]<;>omega)) | (refine Ok.yes (B9 _ _ h.fl)<;>(first | assumption | omega | rw[cX]<;>omega)) | (refine Ok.yes (zV _ _ h.sa)<;>(first | assumption | omega | rw[cX]<;>omega)) | (refine Ok.yes (B5 _ _ h.sp)<;>(first | assumption | omega | rw[cX]<;>omega)) | apply ax (Q:=Yes)) | dsimp only)
theorem vW(l:List Int)(a:Int)(h:l.length≤9223372036854775807):Tot (ej l a):=by
 unfold ej
 refine f8 (Q:=Yes) (BQ l.length (by omega) fun i h1 h2=>?_) (fun _ _=>?_) (fun _ _=>?_)
 ·unfold lq
  repeat' (first | (with_reducible first | intro _ | exact dj | exact c8 | exact dJ | exact dQ | refine ax dX fun _ _=>?_ | apply cQ | apply bY | apply d4 | apply cj | apply ax (Q:=Yes)) | dsimp only)
 ·repeat' (first | (with_reducible first | intro _ | exact dj | exact c8 | exact dJ | exact dQ | refine ax dX fun _ _=>?_ | apply cQ | apply bY | apply d4 | apply cj | apply ax (Q:=Yes)) | dsimp only)
 ·repeat' (first | (with_reducible first | intro _ | exact dj | exact c8 | exact dJ | exact dQ | refine ax dX fun _ _=>?_ | apply cQ | apply bY | apply d4 | apply cj | apply ax (Q:=Yes)) | dsimp only)
theorem MX(l:List Int)(a:Int)(h:l.length≤9223372036854775807):Tot (m6 l a):=by
 unfold m6
 repeat' (first | (with_reducible first | intro _ | exact dj | exact c8 | exact dJ | exact dQ | refine ax dX fun _ _=>?_ | apply cQ | apply bY | apply d4 | apply cj | (refine Ok.yes (vW _ _ h)<;>(first | assumption | omega | rw[cX]<;>omega)) | apply ax (Q:=Yes)) | dsimp only)
theorem RZ(a):Tot (C3 a):=by
 unfold C3
 repeat' (first | (with_reducible first | intro _ | exact dj | exact c8 | exact dJ | exact dQ | refine ax dX fun _ _=>?_ | apply cQ | apply bY | apply d4 | apply cj | apply ax (Q:=Yes)) | dsimp only)
theorem U8(a b):Tot (G2 a b):=by
 unfold G2
 repeat' (first | (with_reducible first | intro _ | exact dj | exact c8 | exact dJ | exact dQ | refine ax dX fun _ _=>?_ | apply cQ | apply bY | apply d4 | apply cj | apply ax (Q:=Yes)) | dsimp only)
def Up(l:List aY)(n:Int):Prop:=∀(j:Nat) y,(j:Int)<n→l[j]? = some y→-1≤y.z1∧y.z1<(j:Int)
theorem JK(l:List aY)(h:l.length≤9223372036854775807):Ok (zJ l) (fun b=>b=true→Up l l.length):=by
 unfold zJ
 refine f8 (Q:=s8 (fun _=>Up l l.length) (fun b=>b=false)) (aMj l.length (Up l) h (by intro j y hj;omega) (fun i hI h1 h2=>?_)) (fun _ hq=>cq (fun _=>hq)) (fun r hr=>cq (fun e=>?_))
 ·unfold sZ
  refine bY (fun hi=>?_) (fun hi=>d8 (by have:i=l.length:=(by omega);subst this;exact hI))
  refine ax (dX h1 hi) (fun y hy=>?_)
  have no:s8 (fun _:Unit=>Up l l.length) (fun b=>b=false) (.inr false):=rfl
  refine ax (Q:=fun v=>v=false→-1≤y.z1∧y.z1<i) ?_ (fun v hv=>?_)
  ·refine bY (fun _=>cq (by simp)) (fun h3=>cq (fun h4=>?_))
   have:=of_decide_eq_false h4
   omega
  refine cj (fun _=>d8 no) (fun h0=>?_)
  have hp:=hv h0
  have nx:Up l (i+1):=by
   intro j z hj hz
   by_cases e:(j:Int)=i
   ·have:i.toNat=j:=by omega
    rw[this]at hy
    rw[hy]at hz;cases hz
    omega
   ·exact hI j z (by omega) hz
  refine bY (fun _=>?_) (fun hne=>?_)
  ·refine cQ (fun _=>d8 no) (fun _=>aCz nx h1 hi h)
  ·refine ax (dX (by omega) (by omega)) (fun z _=>?_)
   refine ax (Q:=Yes) (by repeat' (first | (with_reducible first | intro _ | exact dj | exact c8 | exact dJ | exact dQ | refine ax dX fun _ _=>?_ | apply cQ | apply bY | apply d4 | apply cj | apply ax (Q:=Yes)) | dsimp only)) (fun v _=>?_)
   refine cj (fun _=>d8 no) (fun _=>aCz nx h1 hi h)
 ·have:r=false:=hr
  simp[this]at e
theorem amK(l:List aY)(h:l.length≤9223372036854775807)(hu:Up l l.length)(a b:Int)(hb:b<l.length):Tot (EY l a b):=by
 unfold EY
 refine f8 (Q:=Yes) (uJ (fun i:Int=>i<l.length) (fun i:Int=>(i+1).toNat) (fun i hi=>?_) hb (by simp[fY];omega)) (fun _ _=>dj) (fun _ _=>dj)
 unfold HJ
 refine bY (fun h0=>?_) (fun _=>c8)
 refine bY (fun _=>c8) (fun _=>?_)
 refine ax (dX h0 hi) (fun y hy=>?_)
 have:=hu i.toNat y (by omega) hy
 exact jq ⟨by omega,by omega⟩
theorem Mj(l:List aY)(h:l.length≤9223372036854775807)(hu:Up l l.length):Tot (EV l):=by
 unfold EV
 refine f8 (Q:=Yes) (BQ l.length h fun i h1 h2=>?_) (fun _ _=>dj) (fun _ _=>dj)
 unfold H8
 refine bY (fun hi=>?_) (fun _=>c8)
 refine ax (dX h1 hi) (fun y hy=>?_)
 refine f8 (Q:=s8 Yes (s8 (fun _=>False) Yes)) (VZ l.length (fun _ _=>True) h trivial (fun a j _ h3 h4=>?_)) (fun _ _=>?_) (fun r hr=>?_)
 ·unfold H6
  dsimp only
  refine bY (fun hj=>?_) (fun _=>d8 trivial)
  refine ax (dX h3 hj) (fun z hz=>?_)
  refine ax (Q:=Yes) (by repeat' (first | (with_reducible first | intro _ | exact dj | exact c8 | exact dJ | exact dQ | refine ax dX fun _ _=>?_ | apply cQ | apply bY | apply d4 | apply cj | apply ax (Q:=Yes)) | dsimp only)) (fun v _=>?_)
  refine ax (Q:=Yes) (by repeat' (first | (with_reducible first | intro _ | exact dj | exact c8 | exact dJ | exact dQ | refine ax dX fun _ _=>?_ | apply cQ | apply bY | apply d4 | apply cj | (refine Ok.yes (amK l h hu _ _ hi)<;>(first | assumption | omega | rw[cX]<;>omega)) | apply ax (Q:=Yes)) | dsimp only)) (fun v _=>?_)
  refine cj (fun _=>d8 trivial) (fun _=>YK (Inv:=fun _ _=>True) trivial h3 hj h)
 ·dsimp only
  repeat' (first | (with_reducible first | intro _ | exact dj | exact c8 | exact dJ | exact dQ | refine ax dX fun _ _=>?_ | apply cQ | apply bY | apply d4 | apply cj | apply ax (Q:=Yes)) | dsimp only)
 ·rcases r with r | r
  ·exact(hr:False).elim
  ·exact c8
theorem ajj(l:List aY)(h:l.length≤9223372036854775807)(hx:∀x∈l,okN x.q8):Tot (p9 l):=by
 unfold p9
 refine f8 (Q:=Yes) (BQ l.length h fun i h1 h2=>?_) (fun _ _=>?_) (fun _ _=>dj)
 ·unfold yQ
  repeat' (first | (with_reducible first | intro _ | exact dj | exact c8 | exact dJ | exact dQ | refine ax dX fun _ _=>?_ | apply cQ | apply bY | apply d4 | apply cj | (refine Ok.yes (I1 _ _)<;>(first | assumption | omega | rw[cX]<;>omega)) | (refine Ok.yes (yz _)<;>(first | assumption | omega | rw[cX]<;>omega)) | (refine Ok.yes (nj _ (hx _ (ek (by assumption))))<;>(first | assumption | omega | rw[cX]<;>omega)) | apply ax (Q:=Yes)) | dsimp only)
 ·dsimp only
  refine ax (Q:=Yes) ?_ (fun _ _=>by repeat' (first | (with_reducible first | intro _ | exact dj | exact c8 | exact dJ | exact dQ | refine ax dX fun _ _=>?_ | apply cQ | apply bY | apply d4 | apply cj | apply ax (Q:=Yes)) | dsimp only))
  refine ax (JK l h) (fun b hb=>?_)
  refine d4 (fun _=>dj) (fun e=>?_)
  repeat' (first | (with_reducible first | intro _ | exact dj | exact c8 | exact dJ | exact dQ | refine ax dX fun _ _=>?_ | apply cQ | apply bY | apply d4 | apply cj | exact Ok.yes (Mj l h (hb e)) | apply ax (Q:=Yes)) | dsimp only)
theorem RX(l:List dq)(h:l.length≤9223372036854775807)(hx:∀x∈l,x.z7.length≤9223372036854775807∧∀y∈x.z7,okN y):Tot (CX l):=by
 unfold CX
 refine f8 (Q:=Yes) (BQ l.length h fun i h1 h2=>?_) (fun _ _=>dj) (fun _ _=>dj)
 unfold sx
 refine bY (fun hi=>?_) (fun _=>c8)
 refine ax (dX h1 hi) (fun y hy=>?_)
 refine ax (Q:=Yes) (by repeat' (first | (with_reducible first | intro _ | exact dj | exact c8 | exact dJ | exact dQ | refine ax dX fun _ _=>?_ | apply cQ | apply bY | apply d4 | apply cj | (refine Ok.yes (yz _)<;>(first | assumption | omega | rw[cX]<;>omega)) | apply ax (Q:=Yes)) | dsimp only)) (fun v _=>?_)
 refine cj (fun _=>c8) (fun _=>?_)
 refine ax (Q:=Yes) (B1 _ (hx _ (ek hy)).1 (hx _ (ek hy)).2) (fun v _=>?_)
 refine cQ (fun _=>c8) (fun _=>?_)
 refine ax (Q:=Yes) (by repeat' (first | (with_reducible first | intro _ | exact dj | exact c8 | exact dJ | exact dQ | refine ax dX fun _ _=>?_ | apply cQ | apply bY | apply d4 | apply cj | apply ax (Q:=Yes)) | dsimp only)) (fun v _=>?_)
 refine cj (fun _=>c8) (fun _=>?_)
 refine ax (Q:=fun ys=>ys.length≤9223372036854775807) ?_ (fun ys hys=>?_)
 ·unfold Kz
  rw[if_pos ⟨by omega,by omega,by omega⟩]
  exact cq (by simp;omega)
 refine f8 (Q:=s8 Yes (s8 (fun _=>False) Yes)) (BQ ys.length hys fun j h3 h4=>?_) (fun _ _=>dQ h1 hi h) (fun r hr=>?_)
 ·unfold wz
  refine bY (fun hj=>?_) (fun _=>d8 trivial)
  refine ax (dX h3 hj) (fun z hz=>?_)
  refine ax (Q:=Yes) (by repeat' (first | (with_reducible first | intro _ | exact dj | exact c8 | exact dJ | exact dQ | refine ax dX fun _ _=>?_ | apply cQ | apply bY | apply d4 | apply cj | apply ax (Q:=Yes)) | dsimp only)) (fun v _=>?_)
  refine cj (fun _=>d8 trivial) (fun _=>dQ h3 hj hys)
 ·rcases r with r | r
  ·exact(hr:False).elim
  ·exact c8
theorem nq(l:List Int)(a:Int)(h:l.length≤9223372036854775807):Ok (ej l a) (fun r=>(0≤r→l[r.toNat]? = some a)∧r<l.length):=by
 unfold ej
 refine f8 (Q:=s8 Yes (fun r:Int=>(0≤r→l[r.toNat]? = some a)∧r<l.length)) (BQ l.length h fun i h1 h2=>?_) (fun _ _=>cq (And.intro (by omega) (by omega))) (fun _ hr=>?_)
 rotate_left
 ·exact cq hr
 unfold lq
 refine bY (fun hi=>?_) (fun _=>d8 trivial)
 refine ax (dX h1 hi) (fun y hy=>?_)
 exact bY (fun e=>d8 ⟨fun _=>by rw[hy,e],hi⟩) (fun _=>dQ h1 hi h)
theorem Yz(l:List dW)(h:l.length≤1000000):Ok (uV l) (fun r=>r.length≤l.length):=by
 unfold uV
 refine ax (Q:=fun r=>r.length≤l.length) (VZ l.length (fun a i=>(a.length:Int)≤i) (by omega) (by simp) (fun a i hI h1 h2=>?_)) (fun r hr=>cq hr)
 unfold D7
 dsimp only
 refine bY (fun hi=>?_) (fun _=>d8 (by omega))
 refine ax (Q:=fun r:List Int=>(r.length:Int)≤i+1) ?_ (fun r hr=>YK (Inv:=fun(a:List Int) i=>(a.length:Int)≤i) hr h1 hi (by omega))
 refine ax (dX h1 hi) (fun y hy=>?_)
 refine ax (MX a y.w5 (by omega)) (fun v _=>?_)
 refine d4 (fun _=>?_) (fun _=>cq (by omega))
 rw[D6 (by simp;omega) (by simp;omega)]
 exact cq (by simp;omega)
def bjX(l:List cZ)(n:Int):Prop:=∀(j k:Nat) s s',j<k→(k:Int)<n→l[j]? = some s→l[k]? = some s'→s.q6=s'.q6→s.q5.q9≤s'.q5.q0
def biW(l:List cZ)(n:Int):Prop:=∀(j:Nat) s,(j:Int)<n→l[j]? = some s→0≤s.q5.q0∧s.q5.q0<s.q5.q9∧s.q5.q9≤1000000000000
def Gd(l:List cZ):Prop:=bjX l l.length∧biW l l.length
structure Tab(l:List cZ)(ix:List Int)(r i:Int):Prop where
 le:∀(j:Nat) s,(j:Int)<i→l[j]? = some s→∃x,ej ix s.q6=some x∧x≤r
 last:∀s,0<i→l[(i-1).toNat]? = some s→ej ix s.q6=some r
 pos:0≤r→0<i
 neg:i=0→r = -1
 rng : -1≤r∧r<ix.length
 v:biW l i
 d:bjX l i
theorem aTX{l:List cZ}{ix:List Int}{r r' i:Int}{y:cZ}(hix:ix.length≤9223372036854775807)(H:Tab l ix r i)(h1:0≤i)(hy:l[i.toNat]? = some y)(hr:ej ix y.q6=some r')(h0:0≤r')(hv:0≤y.q5.q0∧y.q5.q0<y.q5.q9∧y.q5.q9≤1000000000000)
  (hs:r'=r→∀s,l[(i-1).toNat]? = some s→y.q5.q0=s.q5.q9) (hn:r'≠r→r'=r+1):Tab l ix r' (i+1):=by
 have hle:r≤r':=by
  by_cases e:r'=r
  ·omega
  ·have:=hn e;omega
 refine⟨fun j s hj hs'=>?_,fun s _ hs'=>?_,fun _=>by omega,fun _=>by omega,⟨by omega,((nq ix _ hix).of_eq hr).2⟩,fun j s hj hs'=>?_,fun j k s s' hjk hk hj' hk' ht=>?_⟩
 ·by_cases e:(j:Int)=i
  ·have:i.toNat=j:=by omega
   rw[this,hs']at hy;cases hy
   exact⟨r',hr,by omega⟩
  ·obtain⟨x,h2,h3⟩:=H.le j s (by omega) hs'
   exact⟨x,h2,by omega⟩
 ·rw[show i+1-1=i by omega,hy]at hs';cases hs'
  exact hr
 ·by_cases e:(j:Int)=i
  ·have:i.toNat=j:=by omega
   rw[this,hs']at hy;cases hy
   exact hv
  ·exact H.v j s (by omega) hs'
 ·by_cases e:(k:Int)=i
  ·have:i.toNat=k:=by omega
   rw[this,hk']at hy;cases hy
   obtain⟨x,h2,h3⟩:=H.le j s (by omega) hj'
   rw[ht,hr]at h2;cases h2
   by_cases e':r'=r
   ·obtain⟨u,hu⟩ : ∃u,l[(i-1).toNat]? = some u:=by
     have:=dZ hk'
     exact⟨_,bk (by omega)⟩
    have h5:=hs e' u hu
    by_cases e2:j=(i-1).toNat
    ·subst e2;rw[hj']at hu;cases hu;omega
    ·have hlu:=H.last u (by omega) hu
     have hh:s.q6=u.q6→s.q5.q9≤u.q5.q0:=H.d j (i-1).toNat s u (by omega) (by omega) hj' hu
     have hvu:=H.v (i-1).toNat u (by omega) hu
     have a1:=(nq ix _ hix).of_eq hlu |>.1 (by omega)
     have a2:=(nq ix _ hix).of_eq hr |>.1 h0
     rw[e',a1]at a2
     injection a2 with a2
     have:=hh (by rw[ht,←a2])
     omega
   ·have:=hn e';omega
  ·exact H.d j k s s' hjk (by omega) hj' hk' ht
theorem JW(s:aZ):Ok (nV s) (fun b=>b=true→0≤s.q0∧s.q0<s.q9∧s.q9≤1000000000000):=by
 rw[HK]
 exact cq (fun h=>of_decide_eq_true h)
theorem S2(ths:List dW)(l:List cZ)(ht:ths.length≤1000000)(h:l.length≤9223372036854775807):Ok (EJ ths l) (fun r=>r=0→Gd l):=by
 unfold EJ
 refine ax (Yz ths ht) (fun ix hix=>?_)
 have hix':ix.length≤9223372036854775807:=by omega
 refine f8 (Q:=s8 (fun _=>Gd l) (fun r=>r≠0)) (VZ l.length (fun r i=>Tab l ix r i) h ⟨by intro j s hj;omega,by intro s hj;omega,by omega,by simp,⟨by omega,by omega⟩,by intro j s hj;omega,by intro j k s s' _ hj;omega⟩ (fun r i hI h1 h2=>?_)) (fun r hd=>?_) (fun r hr=>?_)
 ·unfold l7
  dsimp only
  have no:∀n:Int,n≠0→s8 (fun _:Int=>Gd l) (fun r=>r≠0) (.inr n):=fun n h=>h
  refine bY (fun hi=>?_) (fun hi=>d8 (by have e:i=l.length:=(by omega);have g1:=hI.d;have g2:=hI.v;rw[e]at g1 g2;exact⟨g1,g2⟩))
  refine ax (dX h1 hi) (fun y hy=>?_)
  refine aEj (vW ix y.q6 hix') (fun x hx=>?_)
  refine bY (fun _=>d8 (no _ (by simp))) (fun h0=>?_)
  refine ax (JW y.q5) (fun v hv=>?_)
  refine d4 (fun _=>d8 (no _ (by simp))) (fun ev=>?_)
  refine ax (RZ y) (fun _ _=>?_)
  refine d4 (fun _=>d8 (no _ (by simp))) (fun _=>?_)
  refine ax (Q:=fun v=>v=false→x=r→∀s,l[(i-1).toNat]? = some s→y.q5.q0=s.q5.q9) ?_ (fun v1 hv1=>?_)
  ·refine bY (fun e=>?_) (fun e=>cq (fun _ e'=>absurd e' e))
   have hpos:=hI.pos (by omega)
   rw[show w64 (i-1)=i-1 from cX (by omega)]
   refine ax (dX (by omega) (by omega)) (fun z hz=>?_)
   refine cQ (fun _=>cq (by simp)) (fun e2=>?_)
   refine ax (Q:=Yes) ⟨z,hz▸by simp[idx,hz];omega,trivial⟩ (fun w _=>?_)
   refine(ax (Q:=Yes) (U8 _ _) (fun b _=>cq (P:=fun v=>v=false→x=r→∀s,l[(i-1).toNat]? = some s→y.q5.q0=s.q5.q9) (fun _ _ s hs=>?_)))
   rw[hz]at hs;cases hs;exact e2
  refine cj (fun _=>d8 (no _ (by simp))) (fun e1=>?_)
  refine ax (Q:=fun v=>v=false→x≠r→x=r+1) ?_ (fun v2 hv2=>?_)
  ·refine cQ (fun e=>?_) (fun e=>cq (fun _ e'=>absurd e e'))
   have hb:=hI.rng
   rw[cX (n:=r+1) (by omega)]
   refine cQ (fun _=>cq (by simp)) (fun e3=>cq (fun _ _=>e3))
  refine cj (fun _=>d8 (no _ (by simp))) (fun e2=>?_)
  exact YK (Inv:=fun r i=>Tab l ix r i) (aTX hix' hI h1 hy hx (by omega) (hv ev) (hv1 e1) (hv2 e2)) h1 hi h
 ·dsimp only
  refine bY (fun _=>cq (fun _=>hd)) (fun hne=>?_)
  rw[show w64 ((l.length:Int)-1)=(l.length:Int)-1 from cX (by omega)]
  refine ax (dX (by omega) (by omega)) (fun y _=>?_)
  refine f8 (Q:=Yes) (BQ l.length h fun j h3 h4=>?_) (fun _ _=>?_) (fun r hr=>cq (fun _=>hd))
  ·unfold E7
   refine bY (fun hj=>?_) (fun _=>c8)
   refine ax (dX h3 hj) (fun z hz=>?_)
   have e:w64 (j+1)=j+1:=cX (by omega)
   rw[e]
   refine ax (Q:=Yes) ?_ (fun v _=>?_)
   ·refine bY (fun _=>dj) (fun hne=>?_)
    exact ax (dX (by omega) (by omega)) (fun _ _=>dj)
   ·refine ax (Q:=Yes) (by repeat' (first | (with_reducible first | intro _ | exact dj | exact c8 | exact dJ | exact dQ | refine ax dX fun _ _=>?_ | apply cQ | apply bY | apply d4 | apply cj | apply ax (Q:=Yes)) | dsimp only)) (fun v _=>?_)
    exact cj (fun _=>c8) (fun _=>jq ⟨hj,rfl⟩)
  ·exact cQ (fun _=>cq (fun _=>hd)) (fun _=>cq (fun _=>hd))
 ·exact cq (fun e=>absurd e hr)
theorem OV{κ ν:Type}[DecidableEq κ](k k':κ)(v:ν):∀(m:List (κ×ν)),xZ k (alj k' v m)=if k=k' then some v else xZ k m
 | []=>by simp[alj,xZ]
 | p::r=>by
  simp only[alj]
  by_cases e:k'=p.1
  ·subst e
   simp only[jw,xZ]
   by_cases e2:k=p.1<;>simp[e2]
  ·rw[if_neg e]
   simp only[xZ]
   rw[OV k k' v r]
   by_cases e2:k=p.1
   ·subst e2
    rw[if_pos rfl,if_pos rfl,if_neg (fun h=>e h.symm)]
   ·rw[if_neg e2,if_neg e2]
theorem aFW{S ρ:Type}{step:S→Option (S ⊕ ρ)}{Q:ρ→Prop}(h:∀s r,step s=some (.inr r)→Q r){s:S}{r:ρ}(hr:loop step s=some r):Q r:=by
 have key:∀n s,iter step n s=some r→Q r:=by
  intro n
  induction n with
  | zero=>intro s h;simp[iter]at h
  | succ n ih =>
   intro s hs
   rw[DZ]at hs
   cases e:step s with
   | none=>rw[e]at hs;simp at hs
   | some x =>
    rw[e]at hs
    cases x with
    | inl s'=>exact ih s' hs
    | inr r'=>simp only[bw]at hs;subst hs;exact h s _ e
 exact key _ s hr
theorem aTQ(y:UInt8):Ax (y.toNat:Int)=s7 (y.toNat:Int):=by
 have h:(List.range 256).all (fun n=>decide (Ax (n:Int)=s7 (n:Int)))=true:=by kernel_rfl
 exact of_decide_eq_true (lw.1 h y.toNat (List.mem_range.2 (UInt8.toNat_lt y)))
theorem aTV(s:ByteArray):s=⟨#[]⟩↔(s.size:Int)<1:=by
 constructor
 ·intro h;subst h;decide
 ·intro h
  cases s with
  | mk a =>
   have:a.size=0:=by
    have:(ByteArray.mk a).size=a.size:=rfl
    omega
   rw[Array.eq_empty_of_size_eq_zero this]
theorem agX(s:ByteArray):qW s=mQ s:=by
 unfold qW mQ
 have h1:xY s=wY s:=by
  funext i
  simp only[xY,wY,aTQ]
 have h2:decide (s=⟨#[]⟩)=decide ((ByteArray.size s:Int)<1):=decide_eq_decide.2 (aTV s)
 rw[h1,h2]<;>rfl
theorem baY{s:ByteArray}{r:Int}(h:qW s=some r):r=0∨r=3:=by
 unfold qW at h
 obtain⟨v,_,h⟩:=bB h
 cases v with
 | true=>simp at h;exact .inr h.symm
 | false =>
  obtain⟨q,hq,h⟩:=bB (show(loop (xY s) 0).bind _=some r from h)
  have:=aFW (Q:=fun q:Unit ⊕ Int=>∀x,q = .inr x→x=3) (fun i r hr=>by
   unfold xY at hr
   by_cases hi:i<(ByteArray.size s:Int)
   ·simp only[hi,decide_true,cond_true]at hr
    obtain⟨y,_,hr⟩:=bB hr
    obtain⟨z,_,hr⟩:=bB hr
    cases z
    ·simp only[Bool.not_false,cond_true,bw,Sum.inr.injEq]at hr
     subst hr;intro x hx;cases hx;rfl
    ·simp at hr
   ·simp[hi]at hr;subst hr;intro x hx;cases hx) hq
  cases q with
  | inl _=>simp at h;exact .inl h.symm
  | inr x=>simp at h;subst h;exact .inr (this _ rfl)
theorem aUZ(t:dW):sQ t=sJ t:=by
 unfold sQ sJ
 rw[agX]
theorem YZ(s:aZ):nZ s=nV s:=rfl
theorem arx(l:List ByteArray):xj l=pz l:=by
 unfold xj pz
 have h1:BY l=tK l:=by
  funext i
  unfold BY tK
  cases idx l i with
  | none=>rfl
  | some y =>
   simp only[Option.bind_some,←agX]
   cases e:qW y with
   | none=>rfl
   | some r =>
    rcases baY e with rfl | rfl<;>rfl
 rw[h1]<;>rfl
theorem aGK(a b:Int):BZ a b=some (!decide (0≤a∧a≤b)):=by
 unfold BZ
 by_cases h1:a<0<;>by_cases h2:b<a<;>simp[h1,h2]<;>omega
theorem aNj(a:Int):jQ a=some (decide (0≤a∧a≤1000000000000000)):=by
 unfold jQ
 by_cases h1:0≤a<;>by_cases h2:a≤1000000000000000<;>simp[h1,h2]
theorem aNz(a:Int):ox a=some (decide (0≤a∧a≤1000000000000)):=by
 unfold ox
 by_cases h1:0≤a<;>by_cases h2:a≤1000000000000<;>simp[h1,h2]
theorem baV(l:List d3):G7 l=u6 l:=by
 unfold G7 u6
 have h1:F9 l=vK l:=by
  funext i
  unfold F9 vK
  cases idx l i with
  | none=>rfl
  | some y =>
   simp only[Option.bind_some,aGK,aNj,aNz]
   generalize decide (0≤y.w5∧y.w5≤1000000000000000)=b1
   generalize decide (0≤y.q0.q6∧y.q0.q6≤1000000000000000)=b2
   generalize decide (0≤y.q0.w6∧y.q0.w6≤1000000000000000)=b3
   generalize decide (0≤y.q9.q6∧y.q9.q6≤1000000000000000)=b4
   generalize decide (0≤y.q9.w6∧y.q9.w6≤1000000000000000)=b5
   generalize decide (0≤y.w7∧y.w7≤1000000000000)=b6
   generalize decide (0≤y.w4∧y.w4≤1000000000000)=b7
   generalize decide (y.w4<y.w7)=b8
   congr 1
   cases b1
   ·rfl
   cases b2
   ·rfl
   cases b3
   ·rfl
   cases b4
   ·rfl
   cases b5
   ·rfl
   cases b6
   ·rfl
   cases b7
   ·rfl
   cases b8<;>rfl
 rw[h1]<;>rfl
theorem aWX(l:List cY):CY l=u9 l:=by
 unfold CY u9
 have h1:C6 l=vJ l:=by
  funext i
  unfold C6 vJ
  cases e:idx l i with
  | none=>rfl
  | some y =>
   simp only[Option.bind_some,←arx]
   rfl
 rw[h1]<;>rfl
theorem aCW:∀x y:List UInt8,(!(Op.bytesLess x y||decide (x=y)))=Op.bytesLess y x
 | [],[]=>by simp[Op.bytesLess]
 | [],b::y=>by simp[Op.bytesLess]
 | a::x,[]=>by simp[Op.bytesLess]
 | a::x,b::y=>by
  have ih:=aCW x y
  simp only[Op.bytesLess,List.cons.injEq]
  by_cases h1:a<b
  ·have h2 : ¬b<a:=UInt8.lt_asymm h1
   have h3 : ¬a=b:=UInt8.ne_of_lt h1
   have h4 : ¬b=a:=fun e=>h3 e.symm
   simp[h1,h2,h3,h4]
  ·by_cases h2:a=b
   ·subst h2
    simp[h1,←ih]
   ·have h3:b<a:=by
     rcases UInt8.lt_or_lt_of_ne h2 with h | h
     ·exact absurd h h1
     ·exact h
    have h4 : ¬b=a:=fun e=>h2 e.symm
    simp[h1,h2,h3]
theorem a1J(a b:ByteArray):a.toList=b.toList↔a=b:=by
 constructor
 ·intro h
  rw[ByteArray.toList_eq,ByteArray.toList_eq]at h
  exact Go.WideShapes.bytes_inj h
 ·intro h;rw[h]
theorem Y8(a b:ByteArray):(!(sLt a b||decide (a=b)))=sLt b a:=by
 unfold sLt
 rw[←aCW a.toList b.toList]
 simp only[a1J]
theorem ahq{a b:ByteArray}(h:sLt a b=true):sLt b a=false∧a≠b:=by
 have h1:=Y8 a b
 have h2:=Y8 b a
 rw[h]at h1 h2
 simp at h1 h2
 exact⟨h1,fun e=>h2.2 e.symm⟩
theorem aQK(a b:ByteArray):p5 a b=some (if sLt a b then -1 else if sLt b a then 1 else 0):=by
 unfold p5 xJ
 simp only[decide_true,Bool.not_true,Option.bind_some,cond_false,Y8]
 cases sLt a b<;>cases sLt b a<;>rfl
theorem agY(a b:Int):kq a b=some (if a<b then -1 else if b<a then 1 else 0):=by
 unfold kq DX
 by_cases h1:a<b<;>by_cases h2:b<a<;>simp[h1,h2]
def orI:List Int→Int
 | []=>0
 | x::r=>if x=0 then orI r else x
theorem Z3:∀(l:List Int) (i:Nat),(match(wx (fun _ y => if y=0 then none else some (.inr y)) l i).getD (.inl ())with | (.inl _:Unit ⊕ Int) => 0 | .inr rv => rv)=orI l
 | [],_=>rfl
 | x::r,i=>by
  simp only[wx,orI]
  by_cases h:x=0
  ·simp only[h,jw];exact Z3 r (i+1)
  ·simp[h]
theorem Zz(l:List Int)(hl:l.length≤9223372036854775807):CJ l=some (orI l):=by
 unfold CJ
 rw[LY l (fun _ y=>if y=0 then none else some (.inr y)) (.inl ()) (by simp[fY];omega) (fun i y hy=>?_) (by simp[F7])]
 ·rw[Option.bind_some,←Z3 l 0]
  generalize (wx _ l 0).getD (Sum.inl ())=q
  cases q<;>rfl
 ·have hi:=dZ hy
  have h1:(i:Int)<l.length:=by omega
  simp only[F7,h1,decide_true,cond_true,dY,hy,Option.bind_some]
  by_cases h:y=0<;>simp[h,Q8 (i:=i) (by omega)]
theorem a6x(p c:cV):uZ p c=some (if sLt p.q8 c.q8 then -1 else if sLt c.q8 p.q8 then 1 else if p.j8<c.j8 then -1 else if c.j8<p.j8 then 1 else 0):=by
 unfold uZ
 simp only[aQK,agY,Option.bind_some]
 rw[Zz _ (Nat.le_of_ble_eq_true rfl),Option.bind_some]
 simp only[orI]
 cases sLt p.q8 c.q8
 ·cases sLt c.q8 p.q8
  ·by_cases h1:p.j8<c.j8<;>by_cases h2:c.j8<p.j8<;>simp[h1,h2]
  ·simp
 ·simp
theorem aMJ(l:List cV):rz l=u0 l:=by
 unfold rz u0
 have h1:xQ l=vV l:=by
  funext i
  unfold xQ vV
  cases e:idx l i with
  | none=>rfl
  | some y =>
   simp only[Option.bind_some,←agX]
   congr 1
   congr 1
   funext r60
   congr 1
   have hv:∀n:Int,VW n=some (decide (-1000000000000000≤n)&&decide (n≤1000000000000000)):=by
    intro n;unfold VW;by_cases h1:(-1000000000000000:Int)≤n<;>by_cases h2:n≤1000000000000000<;>simp[h1,h2]
   rw[hv]
   have e1:decide (y.j2 < -1000000000000000) = !decide (-1000000000000000≤y.j2):=by
    by_cases h:(-1000000000000000:Int)≤y.j2<;>simp[h]<;>omega
   have e2:decide (1000000000000000<y.j2) = !decide (y.j2≤1000000000000000):=by
    by_cases h:y.j2≤1000000000000000<;>simp[h]<;>omega
   rw[e1,e2]
   have e3:(bif decide (y.j8<0)then some true else bif decide (1000000000000<y.j8)then some true else(some (decide (-1000000000000000≤y.j2)&&decide (y.j2≤1000000000000000))).bind fun r74=>some (!r74))=(bif decide (y.j8<0)then some true else bif decide (1000000000000<y.j8)then some true else bif !decide (-1000000000000000≤y.j2)then some true else some (!decide (y.j2≤1000000000000000))):=by
    simp only[Option.bind_some]
    cases decide (-1000000000000000≤y.j2)<;>cases decide (y.j2≤1000000000000000)<;>rfl
   rw[e3]
   congr 1
   funext v61
   congr 1
   have e4:(bif decide (0<i)then(idx l (w64 (i-1))).bind fun y65=>(uZ y65 y).bind fun r66=>bif decide (0≤r66)then some true else(idx l (w64 (i-1))).bind fun y68=>bif decide (y68.q8=y.q8)then(idx l (w64 (i-1))).bind fun y70=>some (decide (y70.j2=y.j2))else some false else some false)=(bif decide (0<i)then(idx l (w64 (i-1))).bind fun y93=>bif sLt y.q8 y93.q8 then some true else(idx l (w64 (i-1))).bind fun y96=>bif decide (y.q8=y96.q8)then(idx l (w64 (i-1))).bind fun y99=>bif decide (y.j8≤y99.j8)then some true else(idx l (w64 (i-1))).bind fun y102=>some (decide (y.j2=y102.j2))else some false else some false):=by
    congr 1
    cases e5:idx l (w64 (i-1))with
    | none=>rfl
    | some p =>
     simp only[Option.bind_some,a6x]
     cases s1:sLt p.q8 y.q8 with
     | true =>
      obtain⟨s2,s3⟩:=ahq s1
      have s4 : ¬y.q8=p.q8:=fun e=>s3 e.symm
      simp[s2,s3,s4]
     | false =>
      cases s2:sLt y.q8 p.q8 with
      | true=>simp
      | false =>
       have s3:=Y8 p.q8 y.q8
       rw[s1,s2]at s3
       simp at s3
       rw[s3]
       by_cases h1:p.j8<y.j8
       ·have h2 : ¬y.j8≤p.j8:=by omega
        have h3:(p.j2=y.j2)↔(y.j2=p.j2):=⟨Eq.symm,Eq.symm⟩
        simp[h1,h2,h3]
       ·have h2:y.j8≤p.j8:=by omega
        by_cases h3:y.j8<p.j8<;>simp[h1,h2,h3]
   rw[e4]
 rw[h1]<;>rfl
theorem Q7{S ρ:Type}{step step':S→Option (S ⊕ ρ)}(Inv:S→Prop)(h:∀s,Inv s→step s=step' s)(hI:∀s s',Inv s→step s=some (.inl s')→Inv s'){s:S}(hs:Inv s):loop step s=loop step' s:=by
 have key:∀n s,Inv s→iter step n s=iter step' n s:=by
  intro n
  induction n with
  | zero=>intro s _;rfl
  | succ n ih =>
   intro s hs
   rw[DZ,DZ,←h s hs]
   cases e:step s with
   | none=>rfl
   | some x =>
    cases x with
    | inl s'=>exact ih s' (hI s s' hs e)
    | inr r=>rfl
 exact key _ s hs
theorem aSK(s:aZ):(bif decide (s.q0<0)then some true else bif decide (s.q9≤s.q0)then some true else some (decide (1000000000000<s.q9)))=(nV s).bind fun r=>some (!r):=by
 rw[HK,Option.bind_some]
 by_cases h1:s.q0<0<;>by_cases h2:s.q9≤s.q0<;>by_cases h3:1000000000000<s.q9<;>simp[h1,h2,h3]<;>omega
theorem beJ(l:List dq)(i:Int)(y:dq)(ys:List dq)(h:Kz l 0 i=some ys)(hl:l.length≤9223372036854775807):loop (wz y ys) 0=loop (vQ l i y) 0:=by
 unfold Kz at h
 by_cases h0:0≤(0:Int)∧0≤i∧i≤(l.length:Int)
 ·rw[if_pos h0]at h
  injection h with h
  have hlen:(ys.length:Int)=i:=by subst h;simp;omega
  refine Q7 (fun j=>0≤j) (fun j hj=>?_) (fun j j' hj hs=>?_) (show(0:Int)≤0 by omega)
  ·unfold wz vQ
   rw[hlen]
   by_cases hi:j<i
   ·have e:idx ys j=idx l j:=by
     subst h
     obtain⟨n,rfl⟩:=Int.eq_ofNat_of_zero_le hj
     simp only[dY]
     simp[lk]
     omega
    rw[e]
    simp only[hi,decide_true,cond_true]
    cases idx l j with
    | none=>rfl
    | some z =>
     simp only[Option.bind_some,yV]
     by_cases g1:z.w5=y.w5<;>by_cases g2:z.q5.q0<y.q5.q9<;>by_cases g3:y.q5.q0<z.q5.q9<;>simp[g1,g2,g3]
   ·simp[hi]
  ·unfold wz at hs
   by_cases hi:j<(ys.length:Int)
   ·simp only[hi,decide_true,cond_true]at hs
    obtain⟨z,_,hs⟩:=bB hs
    obtain⟨v,_,hs⟩:=bB hs
    cases v
    ·simp only[cond_false,bw,Sum.inl.injEq]at hs
     subst hs
     rw[cX (by omega)];omega
    ·simp at hs
   ·simp[hi]at hs
 ·rw[if_neg h0]at h;simp at h
theorem apQ{ρ:Type}{step step':Int→Option (Int ⊕ ρ)}(n:Nat)(h1:∀i:Int,0≤i→i≤n→Ok (step i) (s8 (fun a=>i<n∧a=i+1) Yes))(h2:∀i:Int,0≤i→i≤n→step i=step' i):loop step 0=loop step' 0:=by
 refine Q7 (fun i:Int=>0≤i∧i≤n) (fun i hi=>h2 i hi.1 hi.2) (fun i j hi hs=>?_) ⟨by omega,by omega⟩
 have:=(h1 i hi.1 hi.2).of_eq hs
 obtain⟨h3,h4⟩ : i<n∧j=i+1:=this
 omega
theorem aUq(l:List dq)(h:l.length≤9223372036854775807)(hx:∀x∈l,x.z7.length≤9223372036854775807∧∀y∈x.z7,okN y)(i:Int)(h1:0≤i)(h2:i≤l.length):Ok (sx l i) (s8 (fun a=>i<l.length∧a=i+1) Yes):=by
 unfold sx
 refine bY (fun hi=>?_) (fun _=>c8)
 refine ax (dX h1 hi) (fun y hy=>?_)
 refine ax (Q:=Yes) (by repeat' (first | (with_reducible first | intro _ | exact dj | exact c8 | exact dJ | exact dQ | refine ax dX fun _ _=>?_ | apply cQ | apply bY | apply d4 | apply cj | (refine Ok.yes (yz _)<;>(first | assumption | omega | rw[cX]<;>omega)) | apply ax (Q:=Yes)) | dsimp only)) (fun v _=>?_)
 refine cj (fun _=>c8) (fun _=>?_)
 refine ax (Q:=Yes) (B1 _ (hx _ (ek hy)).1 (hx _ (ek hy)).2) (fun v _=>?_)
 refine cQ (fun _=>c8) (fun _=>?_)
 refine ax (Q:=Yes) (by repeat' (first | (with_reducible first | intro _ | exact dj | exact c8 | exact dJ | exact dQ | refine ax dX fun _ _=>?_ | apply cQ | apply bY | apply d4 | apply cj | apply ax (Q:=Yes)) | dsimp only)) (fun v _=>?_)
 refine cj (fun _=>c8) (fun _=>?_)
 refine ax (Q:=fun ys=>ys.length≤9223372036854775807) ?_ (fun ys hys=>?_)
 ·unfold Kz
  rw[if_pos ⟨by omega,by omega,by omega⟩]
  exact cq (by simp;omega)
 refine f8 (Q:=s8 Yes (s8 (fun _=>False) Yes)) (BQ ys.length hys fun j h3 h4=>?_) (fun _ _=>dQ h1 hi h) (fun r hr=>?_)
 ·unfold wz
  refine bY (fun hj=>?_) (fun _=>d8 trivial)
  refine ax (dX h3 hj) (fun z hz=>?_)
  refine ax (Q:=Yes) (by repeat' (first | (with_reducible first | intro _ | exact dj | exact c8 | exact dJ | exact dQ | refine ax dX fun _ _=>?_ | apply cQ | apply bY | apply d4 | apply cj | apply ax (Q:=Yes)) | dsimp only)) (fun v _=>?_)
  refine cj (fun _=>d8 trivial) (fun _=>dQ h3 hj hys)
 ·rcases r with r | r
  ·exact(hr:False).elim
  ·exact c8
theorem aEV(l:List dq)(hl:l.length≤9223372036854775807)(i:Int)(hi0:0≤i):sx l i=m8 l i:=by
 unfold sx m8
 by_cases hi:i<(l.length:Int)
 ·simp only[hi,decide_true,cond_true]
  cases e:idx l i with
  | none=>rfl
  | some y =>
   simp only[Option.bind_some,←arx,aSK]
   congr 1
   funext v144
   congr 1
   congr 1
   funext r145
   congr 1
   congr 1
   funext v146
   congr 1
   have hp:Kz l 0 i=some ((l.take i.toNat).drop 0):=by
    unfold Kz;rw[if_pos ⟨by omega,hi0,by omega⟩];rfl
   rw[hp,Option.bind_some,beJ l i y _ hp hl]<;>rfl
 ·simp[hi]
theorem aWx(l:List dq)(hl:l.length≤9223372036854775807)(hx:∀x∈l,x.z7.length≤9223372036854775807∧∀y∈x.z7,okN y):CX l=uK l:=by
 unfold CX uK
 have h0:loop (sx l) 0=loop (m8 l) 0:=by
  refine apQ l.length (aUq l hl hx) (step':=m8 l) (fun i hi0 _=>?_)
  exact aEV l hl i hi0
 rw[h0]<;>rfl
theorem aLz(a b:aY):∃c,xx a b=some c∧m9 b a=some (decide (0<c)):=by
 refine⟨orI [if a.q5.q0<b.q5.q0 then -1 else if b.q5.q0<a.q5.q0 then 1 else 0,if b.q5.q9<a.q5.q9 then -1 else if a.q5.q9<b.q5.q9 then 1 else 0,if a.q6<b.q6 then -1 else if b.q6<a.q6 then 1 else 0],?_,?_⟩
 ·unfold xx
  simp only[agY,Option.bind_some]
  rw[Zz _ (Nat.le_of_ble_eq_true rfl),Option.bind_some]
 ·unfold m9
  simp only[orI]
  by_cases h1:a.q5.q0<b.q5.q0
  ·have h2 : ¬b.q5.q0=a.q5.q0:=by omega
   have h3 : ¬b.q5.q0<a.q5.q0:=by omega
   simp[h1,h2,h3]
  ·by_cases h2:b.q5.q0<a.q5.q0
   ·have h3 : ¬b.q5.q0=a.q5.q0:=by omega
    simp[h1,h2,h3]
   ·have h3:b.q5.q0=a.q5.q0:=by omega
    simp only[h1,h2,h3,decide_true,Bool.not_true,cond_false,gw,jw]
    by_cases h4:b.q5.q9<a.q5.q9
    ·have h5 : ¬b.q5.q9=a.q5.q9:=by omega
     have h6 : ¬a.q5.q9<b.q5.q9:=by omega
     simp[h4,h5,h6]
    ·by_cases h5:a.q5.q9<b.q5.q9
     ·have h6 : ¬b.q5.q9=a.q5.q9:=by omega
      simp[h4,h5,h6]
     ·have h6:b.q5.q9=a.q5.q9:=by omega
      by_cases h7:a.q6<b.q6
      ·have h8 : ¬b.q6<a.q6:=by omega
       simp[h6,h7,h8]
      ·by_cases h8:b.q6<a.q6<;>simp[h6,h7,h8]
theorem aGV(l:List aY):sZ l=uQ l:=by
 funext i
 unfold sZ uQ
 cases e:idx l i with
 | none=>rfl
 | some y =>
  simp only[Option.bind_some]
  congr 1
  by_cases h1:y.z1 < -1
  ·simp[h1]
  ·by_cases h2:i≤y.z1
   ·simp[h1,h2]
   ·simp only[h1,h2,decide_false,cond_false,Option.bind_some]
    by_cases h3:y.z1 = -1
    ·rw[h3]
     by_cases h4:y.z9=0<;>simp[h4]
    ·have h5:0≤y.z1:=by omega
     simp only[h3,h5,decide_false,decide_true,cond_false,cond_true,Option.bind_some]
     cases idx l y.z1 with
     | none=>rfl
     | some z =>
      simp only[Option.bind_some,vX]
      by_cases g1:z.q6=y.q6<;>by_cases g2:y.q5.q0<z.q5.q0<;>by_cases g3:z.q5.q9<y.q5.q9<;>by_cases g4:y.z9=w64 (z.z9+1)<;>
       simp[g1,g2,g3,g4,Int.not_lt.1,Int.not_le.2]<;>(first | (rw[show(decide (z.q5.q0≤y.q5.q0))=false from decide_eq_false (by omega)];rfl) | (rw[show(decide (z.q5.q0≤y.q5.q0))=true from decide_eq_true (by omega)];first | rfl | (rw[show(decide (y.q5.q9≤z.q5.q9))=false from decide_eq_false (by omega)];rfl) | (rw[show(decide (y.q5.q9≤z.q5.q9))=true from decide_eq_true (by omega)];rfl)) | skip)
inductive Desc(l:List aY)(j:Int):Int→Prop
 | self:Desc l j j
 | up {a:Int} {y:aY}:0≤a→l[a.toNat]? = some y→Desc l j y.z1→Desc l j a
theorem Desc.le{l:List aY}(hu:Up l l.length){j a:Int}(h:Desc l j a):j≤a:=by
 induction h with
 | self=>omega
 | up h0 hy _ ih =>
  have:=hu _ _ (by have:=dZ hy;omega) hy
  omega
theorem Desc.step{l:List aY}{j a:Int}{y:aY}(h0:0≤a)(hy:l[a.toNat]? = some y)(hne:j≠a):Desc l j a↔Desc l j y.z1:=by
 constructor
 ·intro h
  cases h with
  | self=>exact absurd rfl hne
  | up _ hy' h=>rw[hy]at hy';cases hy';exact h
 ·exact Desc.up h0 hy
theorem aXW(l:List aY)(h:l.length≤9223372036854775807)(hu:Up l l.length)(j i:Int)(hj:0≤j)(hi:i<l.length):Ok (EY l j i) (fun r=>r=true↔Desc l j i):=by
 unfold EY
 refine f8 (Q:=s8 (fun _=>¬Desc l j i) (fun r=>r=true∧Desc l j i)) (uJ (fun s:Int=>s<l.length∧(Desc l j s↔Desc l j i)) (fun s:Int=>(s+1).toNat) (fun s hs=>?_) ⟨hi,Iff.rfl⟩ (by simp[fY];omega)) (fun _ hq=>cq ⟨fun e=>by simp at e,fun e=>absurd e hq⟩) (fun r hr=>cq ⟨fun _=>hr.2,fun _=>hr.1⟩)
 obtain⟨h1,h2⟩:=hs
 unfold HJ
 refine bY (fun h0=>?_) (fun h0=>d8 (fun e=>?_))
 ·refine bY (fun e=>d8 ⟨rfl,h2.1 (e▸Desc.self)⟩) (fun hne=>?_)
  refine ax (dX h0 h1) (fun y hy=>?_)
  have:=hu s.toNat y (by omega) hy
  exact jq ⟨⟨by omega,(Desc.step h0 hy hne).symm.trans h2⟩,by omega⟩
 ·have:=(h2.2 e).le hu;omega
theorem a3j(l:List aY)(h:l.length≤9223372036854775807)(hu:Up l l.length)(j i:Int)(hj:0≤j)(hi:i<l.length):Ok (uW l j i) (fun r=>r=true↔Desc l j i):=by
 unfold uW
 refine ax (Q:=fun a=>(Desc l j a↔Desc l j i)∧a≤j) (uJ (fun s:Int=>s<l.length∧(Desc l j s↔Desc l j i)) (fun s:Int=>(s+1).toNat) (fun s hs=>?_) ⟨hi,Iff.rfl⟩ (by simp[fY];omega)) (fun a ha=>cq ?_)
 ·obtain⟨h1,h2⟩:=hs
  unfold B3
  refine ax (Q:=fun v=>(v=true↔0≤s∧j<s)) ?_ (fun v hv=>?_)
  ·by_cases g1:0≤s<;>by_cases g2:j<s<;>simp[g1,g2,Ok]
  ·refine cj (fun e=>?_) (fun e=>d8 ⟨h2,?_⟩)
   ·obtain⟨h0,hlt⟩:=hv.1 e
    refine ax (dX h0 h1) (fun y hy=>?_)
    have:=hu s.toNat y (by omega) hy
    exact jq ⟨⟨by omega,(Desc.step h0 hy (by omega)).symm.trans h2⟩,by omega⟩
   ·have : ¬(0≤s∧j<s):=fun hh=>by have:=hv.2 hh;simp[e]at this
    omega
 ·rw[←ha.1]
  constructor
  ·intro e
   rw[←of_decide_eq_true e]
   exact Desc.self
  ·intro hd
   have:=hd.le hu
   exact decide_eq_true (by omega)
def Mx(l:List aY)(i s0:Int):Nat→Int
 | 0=>s0
 | n+1=>match l[n]? with
  | some z=>if z.z1=i then w64 (Mx l i s0 n-w64 (z.q5.q9-z.q5.q0))else Mx l i s0 n
  | none=>Mx l i s0 n
def Bad(l:List aY)(j i:Int)(z y:aY):Prop:=z.q6=y.q6∧y.q5.q0<z.q5.q9∧z.q5.q0<y.q5.q9∧¬Desc l j i
def Tx(l:List aY):Prop:=∀(i:Nat) y,l[i]? = some y→y.j9=Mx l i (w64 (y.q5.q9-y.q5.q0)) l.length∧∀(j:Nat) z,j<i→l[j]? = some z→¬Bad l j i z y
def ajX(l:List aY):Prop:=∀(i:Nat) y,l[i]? = some y→y.j9=Mx l i (w64 (y.q5.q9-y.q5.q0)) l.length∧∀(j:Nat) z,i<j→l[j]? = some z→¬Bad l i j y z
theorem aqW(l:List aY):Tx l↔ajX l:=by
 constructor
 ·intro h i y hy
  exact⟨(h i y hy).1,fun j z hj hz=>(h j z hz).2 i y hj hy⟩
 ·intro h i y hy
  exact⟨(h i y hy).1,fun j z hj hz=>(h j z hz).2 i y hj hy⟩
theorem alJ{l:List aY}{i s0:Int}{n:Nat}{z:aY}(hz:l[n]? = some z):Ok (bif decide (z.z1=i)then some (w64 (Mx l i s0 n-w64 (z.q5.q9-z.q5.q0)))else some (Mx l i s0 n)) (fun v=>v=Mx l i s0 (n+1)):=by
 refine bY (fun e=>cq ?_) (fun e=>cq ?_)<;>simp[Mx,hz,e]
theorem W4{σ ρ:Type}{step:σ×Int→Option ((σ×Int) ⊕ ρ)}(n:Nat)(Inv:σ→Nat→Prop){Post:ρ→Prop}(hn:n≤9223372036854775807){s0:σ}(h0:Inv s0 0)
  (h:∀(s:σ) (i:Nat),Inv s i→i≤n→Ok (step (s,(i:Int))) (s8 (fun a=>i<n∧a.2=((i+1:Nat):Int)∧Inv a.1 (i+1)) Post)):Ok (loop step (s0,0)) Post:=by
 refine VZ n (fun s i=>Inv s i.toNat) hn h0 (fun s i hI h1 h2=>?_)
 obtain⟨k,rfl⟩:=Int.eq_ofNat_of_zero_le h1
 refine(h s k hI (by omega)).mono ?_
 rintro (⟨a,b⟩ | b) hr
 ·obtain⟨h3,h4,h5⟩ : k<n∧b=((k+1:Nat):Int)∧Inv a (k+1):=hr
  refine⟨by omega,by omega,?_⟩
  rw[show((k:Int)+1).toNat=k+1 by omega];exact h5
 ·exact hr
theorem anW{ρ:Type}{step:Int→Option (Int ⊕ ρ)}(n:Nat)(Inv:Nat→Prop){Post:ρ→Prop}(hn:n≤9223372036854775807)(h0:Inv 0)
  (h:∀i:Nat,Inv i→i≤n→Ok (step (i:Int)) (s8 (fun a=>i<n∧a=((i+1:Nat):Int)∧Inv (i+1)) Post)):Ok (loop step 0) Post:=by
 refine aMj n (fun i=>Inv i.toNat) hn h0 (fun i hI h1 h2=>?_)
 obtain⟨k,rfl⟩:=Int.eq_ofNat_of_zero_le h1
 refine(h k hI (by omega)).mono ?_
 rintro (b | b) hr
 ·obtain⟨h3,h4,h5⟩ : k<n∧b=((k+1:Nat):Int)∧Inv (k+1):=hr
  refine⟨by omega,by omega,?_⟩
  rw[show((k:Int)+1).toNat=k+1 by omega];exact h5
 ·exact hr
theorem Mz{α:Type}{xs:List α}{i:Nat}(h:i<xs.length):Ok (idx xs (i:Int)) (fun y=>xs[i]? = some y):=by
 rw[dY];exact⟨xs[i],by simp[h],by simp[h]⟩
theorem U0{i n:Nat}(h:i<n)(hn:n≤9223372036854775807):w64 ((i:Int)+1)=((i+1:Nat):Int):=by rw[cX (by omega)];omega
theorem a6q(l:List aY)(h:l.length≤9223372036854775807)(hu:Up l l.length):Ok (EV l) (fun b=>b=true↔Tx l):=by
 unfold EV
 let A:Nat→Prop:=fun n=>∀(i:Nat) y,i<n→l[i]? = some y→y.j9=Mx l i (w64 (y.q5.q9-y.q5.q0)) l.length∧∀(j:Nat) z,j<i→l[j]? = some z→¬Bad l j i z y
 refine f8 (Q:=s8 (fun _=>Tx l) (fun b=>b=false∧¬Tx l)) (anW l.length A h (by intro i y hi;omega) (fun i hI h2=>?_)) (fun _ hq=>cq ⟨fun _=>hq,fun _=>rfl⟩) (fun r hr=>cq ⟨fun e=>by rw[hr.1]at e;simp at e,fun e=>absurd e hr.2⟩)
 unfold H8
 refine bY (fun hi=>?_) (fun hi=>d8 (fun i' y hy=>hI i' y (by have:=dZ hy;omega) hy))
 refine ax (Mz (by omega)) (fun y hy=>?_)
 refine f8 (Q:=s8 (fun e=>e=Mx l i (w64 (y.q5.q9-y.q5.q0)) l.length∧∀(j:Nat) z,j<i→l[j]? = some z→¬Bad l j i z y) (s8 (fun _=>False) (fun r=>r = .inr false∧¬Tx l))) (W4 l.length (fun a n=>a=Mx l i (w64 (y.q5.q9-y.q5.q0)) n∧∀(j:Nat) z,j<n→j<i→l[j]? = some z→¬Bad l j i z y) h ⟨rfl,by intro j z hj;omega⟩ (fun a j hJ h4=>?_)) (fun e he=>?_) (fun r hr=>?_)
 ·unfold H6
  dsimp only
  refine bY (fun hj=>?_) (fun hj=>d8 ⟨?_,fun j' z hj' hz=>hJ.2 j' z (by have:=dZ hz;omega) hj' hz⟩)
  ·refine ax (Mz (by omega)) (fun z hz=>?_)
   rw[hJ.1]
   refine ax (alJ hz) (fun v hv=>?_)
   refine ax (Q:=fun b=>b=true↔(j<i∧Bad l j i z y)) ?_ (fun b hb=>?_)
   ·refine bY (fun h5=>?_) (fun h5=>cq ⟨fun e=>by simp at e,fun e=>absurd e.1 (by omega)⟩)
    refine bY (fun h6=>?_) (fun h6=>cq ⟨fun e=>by simp at e,fun e=>absurd e.2.1 h6⟩)
    refine bY (fun h7=>?_) (fun h7=>cq ⟨fun e=>by simp at e,fun e=>absurd e.2.2.1 h7⟩)
    refine bY (fun h8=>?_) (fun h8=>cq ⟨fun e=>by simp at e,fun e=>absurd e.2.2.2.1 h8⟩)
    refine ax (aXW l h hu j i (by omega) (by omega)) (fun r hr=>cq ?_)
    constructor
    ·intro e
     refine⟨by omega,h6,h7,h8,fun hd=>?_⟩
     rw[hr.2 hd]at e;simp at e
    ·intro e
     cases r with
     | false=>rfl
     | true=>exact absurd (hr.1 rfl) e.2.2.2.2
   ·refine cj (fun e=>d8 ⟨rfl,fun hA=>?_⟩) (fun e=>?_)
    ·obtain⟨g1,g2⟩:=hb.1 e
     exact(hA i y hy).2 j z g1 hz g2
    ·rw[U0 (n:=l.length) (by omega) h]
     refine jq ⟨by omega,rfl,hv,fun j' z' hj' hji hz' hbad=>?_⟩
     by_cases e2:j'=j
     ·subst e2;rw[hz]at hz';cases hz'
      rw[hb.2 ⟨hji,hbad⟩]at e;simp at e
     ·exact hJ.2 j' z' (by omega) hji hz' hbad
  ·rw[hJ.1,show j=l.length by omega]
 ·dsimp only
  refine cQ (fun hne=>d8 ⟨rfl,fun hA=>hne ((hA i y hy).1.trans he.1.symm)⟩) (fun heq=>?_)
  rw[U0 (n:=l.length) (by omega) h]
  refine jq ⟨by omega,rfl,fun i' y' hi' hy'=>?_⟩
  by_cases e2:i'=i
  ·subst e2;rw[hy]at hy';cases hy'
   exact⟨heq.trans he.1,he.2⟩
  ·exact hI i' y' (by omega) hy'
 ·rcases r with r | r
  ·exact(hr:False).elim
  ·obtain⟨e1,e2⟩ : r = .inr false∧¬Tx l:=hr
   subst e1
   exact d8 ⟨rfl,e2⟩
theorem aWQ(l:List aY)(h:l.length≤9223372036854775807)(hu:Up l l.length):Ok (loop (tW l) 0) (fun q=>(∃u,q = .inl u∧ajX l)∨(q = .inr false∧¬ajX l)):=by
 let A:Nat→Prop:=fun n=>∀(i:Nat) y,i<n→l[i]? = some y→y.j9=Mx l i (w64 (y.q5.q9-y.q5.q0)) l.length∧∀(j:Nat) z,i<j→l[j]? = some z→¬Bad l i j y z
 refine anW l.length A h (by intro i y hi;omega) (fun i hI h2=>?_)
 unfold tW
 refine bY (fun hi=>?_) (fun hi=>d8 (.inl ⟨(),rfl,fun i' y hy=>hI i' y (by have:=dZ hy;omega) hy⟩))
 obtain⟨y,hiy,hy⟩:=Mz (xs:=l) (i:=i) (by omega)
 simp only[hiy,Option.bind_some]
 refine f8 (Q:=s8 (fun e=>e=Mx l i (w64 (y.q5.q9-y.q5.q0)) l.length∧∀(j:Nat) z,i<j→l[j]? = some z→¬Bad l i j y z) (s8 (fun _=>False) (fun r=>r = .inr false∧¬ajX l))) (W4 l.length (fun a n=>a=Mx l i (w64 (y.q5.q9-y.q5.q0)) n∧∀(j:Nat) z,j<n→i<j→l[j]? = some z→¬Bad l i j y z) h ⟨rfl,by intro j z hj;omega⟩ (fun a j hJ h4=>?_)) (fun e he=>?_) (fun r hr=>?_)
 ·unfold Aq
  dsimp only
  refine bY (fun hj=>?_) (fun hj=>d8 ⟨?_,fun j' z hj' hz=>hJ.2 j' z (by have:=dZ hz;omega) hj' hz⟩)
  ·obtain⟨z,hjz,hz⟩:=Mz (xs:=l) (i:=j) (by omega)
   simp only[hjz,hiy,Option.bind_some]
   rw[hJ.1]
   refine ax (alJ hz) (fun v hv=>?_)
   refine ax (Q:=fun b=>b=true↔(y.q5.q0<z.q5.q9∧z.q5.q0<y.q5.q9)) ?_ (fun v9 hv9=>?_)
   ·by_cases g1:y.q5.q0<z.q5.q9<;>by_cases g2:z.q5.q0<y.q5.q9<;>simp[g1,g2,Ok]
   refine ax (Q:=fun b=>b=true↔(i<j∧Bad l i j y z)) ?_ (fun b hb=>?_)
   ·refine bY (fun h5=>?_) (fun h5=>cq ⟨fun e=>by simp at e,fun e=>absurd e.1 (by omega)⟩)
    refine bY (fun h6=>?_) (fun h6=>cq ⟨fun e=>by simp at e,fun e=>absurd e.2.1 h6⟩)
    refine cj (fun h7=>?_) (fun h7=>cq ⟨fun e=>by simp at e,fun e=>?_⟩)
    ·refine ax (a3j l h hu i j (by omega) (by omega)) (fun r hr=>cq ?_)
     have h8:=hv9.1 h7
     constructor
     ·intro e
      refine⟨by omega,h6,h8.2,h8.1,fun hd=>?_⟩
      rw[hr.2 hd]at e;simp at e
     ·intro e
      cases r with
      | false=>rfl
      | true=>exact absurd (hr.1 rfl) e.2.2.2.2
    ·have:=hv9.2 ⟨e.2.2.2.1,e.2.2.1⟩
     rw[h7]at this;simp at this
   ·refine cj (fun e=>d8 ⟨rfl,fun hA=>?_⟩) (fun e=>?_)
    ·obtain⟨g1,g2⟩:=hb.1 e
     exact(hA i y hy).2 j z g1 hz g2
    ·rw[U0 (n:=l.length) (by omega) h]
     refine jq ⟨by omega,rfl,hv,fun j' z' hj' hji hz' hbad=>?_⟩
     by_cases e2:j'=j
     ·subst e2;rw[hz]at hz';cases hz'
      rw[hb.2 ⟨hji,hbad⟩]at e;simp at e
     ·exact hJ.2 j' z' (by omega) hji hz' hbad
  ·rw[hJ.1,show j=l.length by omega]
 ·dsimp only
  refine cQ (fun hne=>d8 (.inr ⟨rfl,fun hA=>hne ((hA i y hy).1.trans he.1.symm)⟩)) (fun heq=>?_)
  rw[U0 (n:=l.length) (by omega) h]
  refine jq ⟨by omega,rfl,fun i' y' hi' hy'=>?_⟩
  by_cases e2:i'=i
  ·subst e2;rw[hy]at hy';cases hy'
   exact⟨heq.trans he.1,he.2⟩
  ·exact hI i' y' (by omega) hy'
 ·rcases r with r | r
  ·exact(hr:False).elim
  ·obtain⟨e1,e2⟩ : r = .inr false∧¬ajX l:=hr
   subst e1
   exact d8 (.inr ⟨rfl,e2⟩)
theorem aNQ{l:List aY}{q:Unit ⊕ Bool}(h:loop (sZ l) 0=some q):∀x,q = .inr x→x=false:=by
 refine aFW (Q:=fun q:Unit ⊕ Bool=>∀x,q = .inr x→x=false) (fun i r hr=>?_) h
 unfold sZ at hr
 cases h1:decide (i<(l.length:Int))with
 | false=>rw[h1]at hr;simp at hr;subst hr;intro x hx;cases hx
 | true =>
  rw[h1]at hr
  simp only[cond_true]at hr
  obtain⟨y,_,hr⟩:=bB hr
  obtain⟨v,_,hr⟩:=bB hr
  cases v
  ·simp only[cond_false]at hr
   cases h2:decide (y.z1 = -1)with
   | true =>
    rw[h2]at hr
    simp only[cond_true]at hr
    cases h3:decide (y.z9=0)<;>simp[h3]at hr
    subst hr;intro x hx;cases hx;rfl
   | false =>
    rw[h2]at hr
    simp only[cond_false]at hr
    obtain⟨z,_,hr⟩:=bB hr
    obtain⟨w,_,hr⟩:=bB hr
    cases w<;>simp at hr
    subst hr;intro x hx;cases hx;rfl
  ·simp at hr;subst hr;intro x hx;cases hx;rfl
theorem aGJ(l:List aY):yQ l=vz l:=by
 funext i
 unfold yQ vz
 cases e:idx l i with
 | none=>rfl
 | some y =>
  simp only[Option.bind_some,←agX,YZ]
  congr 1
  congr 1
  funext v53
  congr 1
  congr 1
  funext r54
  congr 1
  have e4:(bif decide (0<i)then(idx l (w64 (i-1))).bind fun y58=>(xx y58 y).bind fun r59=>some (decide (0<r59))else some false)=(bif decide (0<i)then(idx l (w64 (i-1))).bind fun y68=>(m9 y y68).bind fun r69=>some r69 else some false):=by
   congr 1
   congr 1
   funext p
   obtain⟨c,h1,h2⟩:=aLz p y
   rw[h1,h2];rfl
  rw[e4]
theorem aZY(l:List aY)(h:l.length≤9223372036854775807):p9 l=u5 l:=by
 unfold p9 u5
 rw[aGJ]
 congr 1
 funext q
 cases q with
 | inr x=>rfl
 | inl u =>
  obtain⟨b,hb,hUp⟩:=JK l h
  dsimp only
  rw[hb,Option.bind_some]
  unfold zJ at hb
  unfold yJ
  rw[←aGV]
  obtain⟨q,hq,hb⟩:=bB hb
  rw[hq,Option.bind_some]
  cases q with
  | inr x =>
   have:=aNQ hq x rfl
   subst this
   simp at hb;subst hb
   rfl
  | inl u' =>
   simp at hb;subst hb
   have hu:=hUp rfl
   obtain⟨b1,h1,h2⟩:=a6q l h hu
   obtain⟨q2,h3,h4⟩:=aWQ l h hu
   simp only[h1,h3,Option.bind_some,Bool.not_true,cond_false]
   rcases h4 with⟨u2,rfl,h5⟩ | ⟨rfl,h5⟩
   ·rw[h2.2 ((aqW l).2 h5)];rfl
   ·cases b1
    ·rfl
    ·exact absurd ((aqW l).1 (h2.1 rfl)) h5
theorem a3Y{α β:Type}(f:α→β)(l:List α)(i:Int):idx (l.map f) i=(idx l i).map f:=by
 unfold idx
 split<;>simp
theorem aHZ(l:List dW)(a:Int):p8 l a=ej (l.map (·.w5)) a:=by
 unfold p8 ej
 have h:wq l a=lq (l.map (·.w5)) a:=by
  funext i
  unfold wq lq
  rw[a3Y,List.length_map]
  cases idx l i with
  | none=>rfl
  | some y =>
   simp only[Option.map_some,Option.bind_some]
   have:decide (y.w5=a)=decide (a=y.w5):=decide_eq_decide.2 ⟨Eq.symm,Eq.symm⟩
   rw[this]
 rw[h]<;>rfl
def FJ(ths:List dW):Nat→List dW
 | 0=>[]
 | n+1=>match ths[n]? with
  | some y=>if ej ((FJ ths n).map (·.w5)) y.w5=some (-1)then FJ ths n++[y]else FJ ths n
  | none=>FJ ths n
theorem TX(ths:List dW):∀n,(FJ ths n).length≤n
 | 0=>by simp[FJ]
 | n+1=>by
  have:=TX ths n
  simp only[FJ]
  split
  ·split<;>simp<;>omega
  ·omega
theorem asW(ix:List Int)(a:Int)(h:ix.length≤9223372036854775807):Ok (ej ix a) (fun r=>(r = -1∨0≤r)∧r<ix.length):=by
 unfold ej
 refine f8 (Q:=s8 Yes (fun r:Int=>0≤r∧r<ix.length)) (BQ ix.length h fun i h1 h2=>?_) (fun _ _=>cq ⟨.inl rfl,by omega⟩) (fun r hr=>cq ?_)
 ·unfold lq
  refine bY (fun hi=>?_) (fun _=>d8 trivial)
  refine ax (dX h1 hi) (fun y hy=>?_)
  exact bY (fun e=>d8 ⟨h1,hi⟩) (fun _=>dQ h1 hi h)
 ·have hr':0≤r∧r<ix.length:=hr
  exact⟨.inr hr'.1,hr'.2⟩
theorem aIj(ths:List dW)(h:ths.length≤1000000):uV ths=some ((FJ ths ths.length).map (·.w5)):=by
 have:Ok (uV ths) (fun r=>r=(FJ ths ths.length).map (·.w5)):=by
  unfold uV
  refine ax (Q:=fun r=>r=(FJ ths ths.length).map (·.w5)) (W4 ths.length (fun a n=>a=(FJ ths n).map (·.w5)) (by omega) rfl (fun a i hI h2=>?_)) (fun r hr=>cq hr)
  unfold D7
  dsimp only
  subst hI
  have hlen:=TX ths i
  refine bY (fun hi=>?_) (fun hi=>d8 (by rw[show i=ths.length by omega]))
  refine ax (Q:=fun r=>r=(FJ ths (i+1)).map (·.w5)) ?_ (fun r hr=>?_)
  ·obtain⟨y,hiy,hy⟩:=Mz (xs:=ths) (i:=i) (by omega)
   rw[hiy,Option.bind_some]
   unfold m6
   obtain⟨x,hx,hx1,hx2⟩:=asW ((FJ ths i).map (·.w5)) y.w5 (by simp;omega)
   rw[hx]
   simp only[Option.bind_some,FJ,hy,hx]
   rcases hx1 with rfl | hx1
   ·rw[D6 (by simp;omega) (by simp;omega)]
    exact cq (by simp)
   ·have : ¬x = -1:=by omega
    simp only[hx1,decide_true,Bool.not_true,cond_false]
    exact cq (by simp[this])
  ·rw[U0 (n:=ths.length) (by omega) (by omega)]
   exact jq ⟨by omega,rfl,hr⟩
 obtain⟨r,h1,h2⟩:=this
 rw[h1,h2]
theorem aIQ(ths:List dW)(h:ths.length≤1000000):m7 ths=some (FJ ths ths.length):=by
 have:Ok (m7 ths) (fun r=>r=FJ ths ths.length):=by
  unfold m7
  refine ax (Q:=fun r=>r=FJ ths ths.length) (W4 ths.length (fun a n=>a=FJ ths n) (by omega) rfl (fun a i hI h2=>?_)) (fun r hr=>cq hr)
  unfold xW
  dsimp only
  subst hI
  have hlen:=TX ths i
  refine bY (fun hi=>?_) (fun hi=>d8 (by rw[show i=ths.length by omega]))
  refine ax (Q:=fun r=>r=FJ ths (i+1)) ?_ (fun r hr=>?_)
  ·obtain⟨y,hiy,hy⟩:=Mz (xs:=ths) (i:=i) (by omega)
   rw[hiy,Option.bind_some,aHZ]
   obtain⟨x,hx,hx1,hx2⟩:=asW ((FJ ths i).map (·.w5)) y.w5 (by simp;omega)
   rw[hx]
   simp only[Option.bind_some,FJ,hy,hx]
   rcases hx1 with rfl | hx1
   ·rw[D6 (by simp;omega) (by simp;omega)]
    exact cq (by simp)
   ·have e1 : ¬x = -1:=by omega
    have e2 : ¬x<0:=by omega
    simp only[e2,decide_false,cond_false]
    exact cq (by simp[e1])
  ·rw[U0 (n:=ths.length) (by omega) (by omega)]
   exact jq ⟨by omega,rfl,hr⟩
 obtain⟨r,h1,h2⟩:=this
 rw[h1,h2]
theorem aYq(s:cZ):u3 s=C3 s:=by
 unfold u3 C3
 have e:decide (63<s.w9)=decide (64≤s.w9):=decide_eq_decide.2 (by omega)
 rw[e]
 generalize decide (s.j3<0)=a1
 generalize decide (5<s.j3)=a2
 generalize decide (s.j3=4)=a3
 generalize decide (s.w9<0)=a4
 generalize decide (64≤s.w9)=a5
 generalize decide (s.w9 = -1)=a6
 generalize decide (s.j3=2)=a7
 generalize decide (s.x5<0)=a8
 generalize decide (1000000000000000<s.x5)=a9
 generalize decide (s.x5 = -1)=a10
 generalize decide (s.x6 = -1)=a11
 generalize decide (0≤s.x6)=a12
 generalize decide (s.x6≤1000000000000000)=a13
 generalize decide (s.j3=1)=a14
 cases a14<;>cases a7<;>cases a3<;>cases a1<;>first
  | rfl
  | (cases a2<;>first
   | rfl
   | (cases a4<;>cases a5<;>cases a6<;>first
    | rfl
    | (cases a8<;>cases a9<;>cases a10<;>first
     | rfl
     | (cases a11<;>cases a12<;>cases a13<;>rfl))))
theorem a6W(a b:cZ):(bif decide (b.j3=a.j3)then bif decide (b.w9=a.w9)then some (decide (b.x5=a.x5))else some false else some false)=G2 a b:=by
 unfold G2
 by_cases h1:a.j3=b.j3<;>by_cases h2:a.w9=b.w9<;>by_cases h3:a.x5=b.x5<;>simp[h1,h2,h3,Ne.symm,eq_comm]<;>simp_all[eq_comm]
theorem aiY{σ ρ:Type}{step step':σ×Int→Option ((σ×Int) ⊕ ρ)}(n:Nat)(Inv:σ→Int→Prop){s0:σ}(h0:Inv s0 0)(h1:∀(s:σ) (i:Int),Inv s i→0≤i→i≤n→Ok (step (s,i)) (s8 (fun a=>i<n∧a.2=i+1∧Inv a.1 (i+1)) Yes))(h2:∀(s:σ) (i:Int),Inv s i→0≤i→i≤n→step (s,i)=step' (s,i)):loop step (s0,0)=loop step' (s0,0):=by
 refine Q7 (fun s:σ×Int=>Inv s.1 s.2∧0≤s.2∧s.2≤n) (fun s hi=>h2 s.1 s.2 hi.1 hi.2.1 hi.2.2) (fun s s' hi hs=>?_) ⟨h0,by simp,by simp⟩
 obtain⟨a,j⟩:=s'
 have:=(h1 s.1 s.2 hi.1 hi.2.1 hi.2.2).of_eq hs
 obtain⟨h3,h4,h5⟩ : s.2<n∧j=s.2+1∧Inv a (s.2+1):=this
 subst h4
 exact⟨h5,by simp;omega,by simp;omega⟩
structure AtIx(l:List cZ)(ix:List Int)(a i:Int):Prop where
 z:i=0→a = -1
 p:0<i→∀s,l[(i-1).toNat]? = some s→ej ix s.q6=some a∧0≤a
 r : -1≤a∧a<ix.length
theorem AtIx.next{l:List cZ}{ix:List Int}(hx:ix.length≤1000000){i x:Int}(h0:0≤i){y:cZ}(hy:l[i.toNat]? = some y)(hi:ej ix y.q6=some x)(hp:0≤x):AtIx l ix x (i+1):=by
 have:=(nq ix y.q6 (by omega)).of_eq hi
 exact⟨by omega,fun _ s hs=>by rw[show i+1-1=i by omega,hy]at hs;cases hs;exact⟨hi,hp⟩,by omega,this.2⟩
theorem adq(l:List cZ)(ix:List Int)(hl:l.length≤9223372036854775807)(hx:ix.length≤1000000)(a i:Int)(H:AtIx l ix a i)(h1:0≤i)(h2:i≤l.length):Ok (l7 l ix (a,i)) (s8 (fun s:Int×Int=>i<(l.length:Int)∧s.2=i+1∧AtIx l ix s.1 (i+1)) (s8 (fun e:Int=>-1≤e∧e<(ix.length:Int)) Yes)):=by
 unfold l7
 dsimp only
 have no:∀n:Int,s8 (fun s:Int×Int=>i<(l.length:Int)∧s.2=i+1∧AtIx l ix s.1 (i+1)) (s8 (fun e:Int=>-1≤e∧e<(ix.length:Int)) Yes) (.inr (.inr n)):=fun _=>trivial
 refine bY (fun hi=>?_) (fun _=>d8 H.r)
 refine ax (dX h1 hi) (fun y hy=>?_)
 refine aEj (vW ix y.q6 (by omega)) (fun x hxx=>?_)
 refine bY (fun _=>⟨_,rfl,no _⟩) (fun h0=>?_)
 refine ax (yz y.q5) (fun v _=>?_)
 refine d4 (fun _=>⟨_,rfl,no _⟩) (fun _=>?_)
 refine ax (RZ y) (fun _ _=>?_)
 refine d4 (fun _=>⟨_,rfl,no _⟩) (fun _=>?_)
 refine ax (Q:=Yes) ?_ (fun v1 _=>?_)
 ·refine bY (fun e=>?_) (fun _=>dj)
  have hpos:0<i:=by
   by_cases e0:i=0
   ·have:=H.z e0;omega
   ·omega
  rw[show w64 (i-1)=i-1 from cX (by omega)]
  refine ax (dX (by omega) (by omega)) (fun z hz=>?_)
  refine cQ (fun _=>dj) (fun _=>?_)
  refine ax (dX (by omega) (by omega)) (fun z' hz'=>?_)
  exact ax (U8 _ _) (fun _ _=>dj)
 refine cj (fun _=>⟨_,rfl,no _⟩) (fun _=>?_)
 refine ax (Q:=Yes) (by repeat' (first | (with_reducible first | intro _ | exact dj | exact c8 | exact dJ | exact dQ | refine ax dX fun _ _=>?_ | apply cQ | apply bY | apply d4 | apply cj | apply ax (Q:=Yes)) | dsimp only)) (fun v2 _=>?_)
 refine cj (fun _=>⟨_,rfl,no _⟩) (fun _=>?_)
 exact jq ⟨hi,cX (by omega),AtIx.next hx h1 hy hxx (by omega)⟩
theorem aCX(l:List cZ)(ths:List dW)(hl:l.length≤9223372036854775807)(hx:ths.length≤1000000)(a i:Int)(H:AtIx l (ths.map (·.w5)) a i)(h1:0≤i)(h2:i≤l.length):l7 l (ths.map (·.w5)) (a,i)=qZ l ths (a,i):=by
 unfold l7 qZ
 dsimp only
 by_cases hi:i<(l.length:Int)
 ·simp only[hi,decide_true,cond_true]
  obtain⟨y,hiy,hy⟩:=dX h1 hi
  simp only[hiy,Option.bind_some,aHZ,YZ,aYq]
  obtain⟨x,hx0,_⟩:=vW (ths.map (·.w5)) y.q6 (by simp;omega)
  rw[hx0,Option.bind_some,Option.bind_some]
  by_cases hx1:x<0
  ·simp[hx1]
  ·simp only[hx1,decide_false,cond_false]
   congr 1
   funext v
   congr 1
   congr 1
   funext w
   congr 1
   have hxl:=(nq (ths.map (·.w5)) y.q6 (by simp;omega)).of_eq hx0
   by_cases h0:0<i
   ·rw[show w64 (i-1)=i-1 from cX (by omega)]
    obtain⟨p,hip,hp⟩:=dX (xs:=l) (i:=i-1) (by omega) (by omega)
    obtain⟨hpa,ha0⟩:=H.p h0 p hp
    have hpl:=(nq (ths.map (·.w5)) p.q6 (by simp;omega)).of_eq hpa
    simp only[hip,h0,decide_true,cond_true,Option.bind_some]
    by_cases ht:p.q6=y.q6
    ·have hxa:x=a:=by rw[ht,hx0]at hpa;cases hpa;rfl
     subst hxa
     simp only[ht,decide_true,cond_true,Bool.not_true,cond_false,Option.bind_some]
     rw[←a6W]
     by_cases g1:y.q5.q0=p.q5.q9
     ·have g2:p.q5.q9=y.q5.q0:=g1.symm
      simp only[decide_eq_true g1,decide_eq_true g2,Bool.not_true,cond_false]
      by_cases g3:p.j3=y.j3<;>by_cases g4:p.w9=y.w9<;>by_cases g5:p.x5=y.x5<;>simp[g3,g4,g5]
     ·have g2 : ¬p.q5.q9=y.q5.q0:=fun e=>g1 e.symm
      simp[g1,g2]
    ·have hxa : ¬x=a:=by
      intro e
      subst e
      have e1:=hxl.1 (by omega)
      have e2:=hpl.1 (by omega)
      rw[e1]at e2
      exact ht (Option.some.inj e2).symm
     simp only[ht,hxa,decide_false,cond_false,Bool.not_false,cond_true,Option.bind_some]
     by_cases g1:x=w64 (a+1)<;>by_cases g2:y.q5.q0=0<;>simp[g1,g2]
   ·have e0:i=0:=by omega
    have ea:=H.z e0
    have hxa : ¬x=a:=by omega
    simp only[h0,hxa,decide_false,cond_false,Bool.not_false,cond_true,Option.bind_some]
    by_cases g1:x=w64 (a+1)<;>by_cases g2:y.q5.q0=0<;>simp[g1,g2]
 ·simp[hi]
def a8K(l:List cZ)(e:Int):Prop:=∀(i:Nat) s s',l[i]? = some s→l[i+1]? = some s'→s'.q6≠s.q6→s.q5.q9=e
theorem bbW(l:List cZ)(hl:l.length≤9223372036854775807)(y:cZ)(hy:l[l.length-1]? = some y):Ok (loop (E7 l y) 0) (fun q=>(∃u,q = .inl u∧a8K l y.q5.q9)∨(q = .inr 11∧¬a8K l y.q5.q9)):=by
 refine anW l.length (fun n=>∀(i:Nat) s s',i<n→l[i]? = some s→l[i+1]? = some s'→s'.q6≠s.q6→s.q5.q9=y.q5.q9) hl (by intro i s s' hi;omega) (fun i hI h2=>?_)
 unfold E7
 refine bY (fun hi=>?_) (fun hi=>d8 (.inl ⟨(),rfl,fun i' s s' hs hs'=>hI i' s s' (by have:=dZ hs;omega) hs hs'⟩))
 obtain⟨z,hiz,hz⟩:=Mz (xs:=l) (i:=i) (by omega)
 rw[hiz,Option.bind_some,U0 (n:=l.length) (by omega) hl]
 have nx:(∀s',l[i+1]? = some s'→s'.q6≠z.q6→z.q5.q9=y.q5.q9)→∀(i':Nat) s s',i'<i+1→l[i']? = some s→l[i'+1]? = some s'→s'.q6≠s.q6→s.q5.q9=y.q5.q9:=by
  intro h i' s s' hi' hs hs' hne
  by_cases e:i'=i
  ·subst e;rw[hz]at hs;cases hs;exact h s' hs' hne
  ·exact hI i' s s' (by omega) hs hs' hne
 by_cases hlast:i+1=l.length
 ·have e1:(((i+1:Nat):Int)=(l.length:Int)):=by omega
  have e2:z=y:=by
   rw[show l.length-1=i by omega,hz]at hy;exact Option.some.inj hy
  subst e2
  simp only[e1,decide_true,cond_true,Option.bind_some,Bool.not_true,cond_false]
  refine jq ⟨by omega,by omega,nx (fun s' hs'=>?_)⟩
  have:=dZ hs';omega
 ·have e1 : ¬(((i+1:Nat):Int)=(l.length:Int)):=by omega
  obtain⟨s',his,hs'⟩:=Mz (xs:=l) (i:=i+1) (by omega)
  simp only[e1,his,decide_false,cond_false,Option.bind_some]
  by_cases g1:s'.q6=z.q6
  ·simp only[g1,decide_true,Bool.not_true,cond_false,Option.bind_some]
   refine jq ⟨by omega,rfl,nx (fun s'' hs'' hne=>?_)⟩
   rw[hs']at hs'';cases hs'';exact absurd g1 hne
  ·by_cases g2:z.q5.q9=y.q5.q9
   ·simp only[g1,g2,decide_true,decide_false,Bool.not_true,Bool.not_false,cond_true,cond_false,Option.bind_some]
    exact jq ⟨by omega,rfl,nx (fun s'' hs'' hne=>g2)⟩
   ·simp only[g1,g2,decide_false,Bool.not_false,cond_true,Option.bind_some]
    exact d8 (.inr ⟨rfl,fun hA=>g2 (hA i z s' hz hs' g1)⟩)
theorem bbq(l:List cZ)(hl:l.length≤9223372036854775807)(y:cZ)(hy:l[l.length-1]? = some y)(h0:0<l.length):Ok (loop (vZ l) 1) (fun q=>(∃u,q = .inl u∧a8K l y.q5.q9)∨(q = .inr 11∧¬a8K l y.q5.q9)):=by
 refine uJ (fun i:Int=>1≤i∧i≤l.length∧∀(k:Nat) s s',(k:Int)+1<i→l[k]? = some s→l[k+1]? = some s'→s'.q6≠s.q6→s.q5.q9=y.q5.q9) (fun i:Int=>((l.length:Int)-i).toNat) (fun i hi=>?_) ⟨by omega,by omega,by intro k s s' hk;omega⟩ (by simp[fY];omega)
 obtain⟨h1,h2,hI⟩:=hi
 unfold vZ
 refine bY (fun hi=>?_) (fun hi=>d8 (.inl ⟨(),rfl,fun i' s s' hs hs'=>hI i' s s' (by have:=dZ hs';omega) hs hs'⟩))
 rw[show w64 (i-1)=i-1 from cX (by omega),show w64 (i+1)=i+1 from cX (by omega),show w64 ((l.length:Int)-1)=(l.length:Int)-1 from cX (by omega)]
 obtain⟨s',his,hs'⟩:=dX (xs:=l) (i:=i) (by omega) hi
 obtain⟨z,hiz,hz⟩:=dX (xs:=l) (i:=i-1) (by omega) (by omega)
 obtain⟨y',hiy,hy'⟩:=dX (xs:=l) (i:=(l.length:Int)-1) (by omega) (by omega)
 have ey:y'=y:=by
  rw[show((l.length:Int)-1).toNat=l.length-1 by omega,hy]at hy';exact(Option.some.inj hy').symm
 subst ey
 simp only[his,hiz,hiy,Option.bind_some]
 have hz':l[(i-1).toNat+1]? = some s':=by rw[show(i-1).toNat+1=i.toNat by omega];exact hs'
 have nx:(s'.q6≠z.q6→z.q5.q9=y'.q5.q9)→∀(k:Nat) s s'',(k:Int)+1<i+1→l[k]? = some s→l[k+1]? = some s''→s''.q6≠s.q6→s.q5.q9=y'.q5.q9:=by
  intro h k s s'' hk hs hs'' hne
  by_cases e:(k:Int)+1=i
  ·have:(i-1).toNat=k:=by omega
   rw[this]at hz hz'
   rw[hz]at hs;rw[hz']at hs'';cases hs;cases hs''
   exact h hne
  ·exact hI k s s'' (by omega) hs hs'' hne
 by_cases g1:s'.q6=z.q6
 ·simp only[g1,decide_true,Bool.not_true,cond_false,Option.bind_some]
  exact jq ⟨⟨by omega,by omega,nx (fun hne=>absurd g1 hne)⟩,by omega⟩
 ·by_cases g2:z.q5.q9=y'.q5.q9
  ·simp only[g1,g2,decide_true,decide_false,Bool.not_true,Bool.not_false,cond_true,cond_false,Option.bind_some]
   exact jq ⟨⟨by omega,by omega,nx (fun _=>g2)⟩,by omega⟩
  ·simp only[g1,g2,decide_false,Bool.not_false,cond_true,Option.bind_some]
   exact d8 (.inr ⟨rfl,fun hA=>g2 (hA _ z s' hz hz' g1)⟩)
theorem a0J(ths:List dW)(l:List cZ)(hx:ths.length≤1000000)(hl:l.length≤9223372036854775807):EJ ths l=u1 ths l:=by
 unfold EJ u1
 rw[aIj ths hx,aIQ ths hx,Option.bind_some,Option.bind_some]
 have hdl:=TX ths ths.length
 generalize FJ ths ths.length=ds at *
 have hds:ds.length≤1000000:=by omega
 have hdm:(ds.map (·.w5)).length≤1000000:=by simpa using hds
 have h0:AtIx l (ds.map (·.w5)) (-1) 0:=⟨fun _=>rfl,by omega,by omega⟩
 have hloop:loop (l7 l (ds.map (·.w5))) (-1,0)=loop (qZ l ds) (-1,0) :=
  aiY l.length (AtIx l (ds.map (·.w5))) h0 (fun a i hI h1 h2=>(adq l _ hl hdm a i hI h1 h2).mono (by
   rintro (s | r) hs
   ·exact hs
   ·trivial)) (fun a i hI h1 h2=>aCX l ds hl hds a i hI h1 h2)
 obtain⟨q,hq,hpost⟩ : Ok (loop (l7 l (ds.map (·.w5))) (-1,0)) (s8 (fun e:Int=>-1≤e∧e<((ds.map (·.w5)).length:Int)) Yes) :=
  VZ l.length (AtIx l (ds.map (·.w5))) hl h0 (fun a i hI h1 h2=>adq l _ hl hdm a i hI h1 h2)
 by_cases hn:l.length=0
 ·have e:l=[]:=List.length_eq_zero_iff.1 hn
  subst e
  have:loop (l7 [] (ds.map (·.w5))) (-1,0)=some (.inl (-1)):=by
   have:Ok (loop (l7 [] (ds.map (·.w5))) (-1,0)) (fun q=>q = .inl (-1)):=by
    refine uJ (fun s=>s=(-1,0)) (fun _=>0) (fun s hs=>?_) rfl (by simp[fY])
    subst hs
    unfold l7
    simp
    exact d8 rfl
   obtain⟨r,h1,h2⟩:=this
   rw[h1,h2]
  rw[this]
  rfl
 ·have hn' : ¬((l.length:Int)=0):=by omega
  simp only[hn',decide_false,cond_false]
  rw[←hloop,hq]
  cases q with
  | inr r=>rfl
  | inl e =>
   have he : -1≤e∧e<((ds.map (·.w5)).length:Int):=hpost
   simp at he
   dsimp only[Option.bind_some]
   rw[show w64 ((l.length:Int)-1)=(l.length:Int)-1 from cX (by omega)]
   obtain⟨y,hiy,hy⟩:=dX (xs:=l) (i:=(l.length:Int)-1) (by omega) (by omega)
   have hy':l[l.length-1]? = some y:=by rw[show l.length-1=((l.length:Int)-1).toNat by omega];exact hy
   rw[hiy]
   dsimp only[Option.bind_some]
   obtain⟨q1,hq1,hp1⟩:=bbW l hl y hy'
   obtain⟨q2,hq2,hp2⟩:=bbq l hl y hy' (by omega)
   rw[hq1,hq2]
   have e1:decide (w64 (e+1)=((ds.map (·.w5)).length:Int))=decide (e=w64 ((ds.length:Int)-1)):=by
    rw[cX (n:=e+1) (by omega),cX (n:=(ds.length:Int)-1) (by omega),List.length_map]
    exact decide_eq_decide.2 (by omega)
   rw[e1]
   rcases hp1 with⟨u,rfl,g1⟩ | ⟨rfl,g1⟩<;>rcases hp2 with⟨u',rfl,g2⟩ | ⟨rfl,g2⟩
   ·rfl
   ·exact absurd g1 g2
   ·exact absurd g2 g1
   ·cases decide (e=w64 ((ds.length:Int)-1))<;>rfl
theorem arj{α ρ:Type}{g:Nat→α→Option ρ}{r:ρ}:∀ {xs:List α} {i j:Nat} {y:α},xs[j]? = some y→g (i+j) y=some r→(∀k z,k<j→xs[k]? = some z→g (i+k) z=none)→wx g xs i=some r
 | [],i,j,y,h,_,_=>by simp at h
 | x::xs,i,j,y,h,h1,h2=>by
  simp only[wx]
  cases j with
  | zero =>
   simp at h;subst h
   rw[show i+0=i from rfl]at h1
   rw[h1]
  | succ j =>
   have:=h2 0 x (by omega) rfl
   rw[show i+0=i from rfl]at this
   rw[this]
   exact arj (j:=j) (y:=y) (by simpa using h) (by rw[show i+1+j=i+(j+1)by omega];exact h1) (fun k z hk hz=>by rw[show i+1+k=i+(k+1)by omega];exact h2 (k+1) z (by omega) (by simpa using hz))
theorem atX{α:Type}{step:Int→Option (Int ⊕ (Unit ⊕ Int))}(l:List α)(c:α→Int)(hl:l.length≤9223372036854775807)
  (hs:∀(i:Nat) y,l[i]? = some y→step (i:Int)=some (if c y=0 then .inl (w64 ((i:Int)+1))else .inr (.inr (c y)))) (he:step (l.length:Int)=some (.inr (.inl ()))) :
  ((loop step 0).bind fun | .inl _=>some 0 | .inr rv=>some rv)=some (orI (l.map c)):=by
 rw[LY l (fun _ y=>if c y=0 then none else some (.inr (c y))) (.inl ()) (by simp[fY];omega) (fun i y hy=>?_) he,Option.bind_some,←Z3 (l.map c) 0]
 ·have:∀(l:List α) (i:Nat),(wx (fun _ y=>if c y=0 then none else some (Sum.inr (c y):Unit ⊕ Int)) l i)=wx (fun _ y=>if y=0 then none else some (.inr y)) (l.map c) i:=by
   intro l
   induction l with
   | nil=>intro i;rfl
   | cons x l ih=>intro i;simp only[wx,List.map_cons];split<;>simp_all
  rw[this]
  generalize (wx _ (l.map c) 0).getD (Sum.inl ())=q
  cases q<;>rfl
 ·rw[hs i y hy,Q8 (i:=i) (by have:=dZ hy;omega)]
  split<;>rfl
theorem aCV{α:Type}{step:Int×Int→Option ((Int×Int) ⊕ Int)}(l:List α)(c:α→Int)(hl:l.length≤9223372036854775807)
  (hs:∀(i:Nat) y,l[i]? = some y→step (0,(i:Int))=some (.inl (c y,w64 ((i:Int)+1)))) (he:step (0,(l.length:Int))=some (.inr 0)) (hn:∀(e i:Int),e≠0→step (e,i)=some (.inr e)) (e:Int) :
  loop step (e,0)=some (if e=0 then orI (l.map c)else e):=by
 have stop:∀(e:Int) (i:Int) n,e≠0→iter step (n+1) (e,i)=some e:=by
  intro e i n h;rw[DZ,hn e i h]
 by_cases h0:e=0
 ·subst h0
  rw[if_pos rfl]
  have key:∀(ys:List α) (i:Nat),l.drop i=ys→i+ys.length=l.length→iter step (ys.length+2) (0,(i:Int))=some (orI (ys.map c)):=by
   intro ys
   induction ys with
   | nil =>
    intro i _ hi
    have:i=l.length:=by simpa using hi
    subst this
    rw[DZ,he];rfl
   | cons y ys ih =>
    intro i hd hi
    have hy:l[i]? = some y:=by
     have:=congrArg (·[0]?) hd
     simpa[List.getElem?_drop]using this
    rw[DZ,hs i y hy,Q8 (i:=i) (by have:=dZ hy;omega)]
    simp only[List.map_cons,orI]
    by_cases hc:c y=0
    ·rw[if_pos hc,hc]
     exact ih (i+1) (by rw[←List.drop_drop,hd];rfl) (by simp at hi;omega)
    ·rw[if_neg hc]
     exact stop _ _ _ hc
  exact Q1 (by simp[fY];omega) (key l 0 (by simp) (by simp))
 ·rw[if_neg h0]
  exact Q1 (n:=1) (by simp[fY]) (stop e 0 0 h0)
theorem avY{α:Type}{step:Bool×Int→Option ((Bool×Int) ⊕ Bool)}(l:List α)(f:α→Bool)(hl:l.length≤9223372036854775807)
  (hs:∀b (i:Nat) y,l[i]? = some y→step (b,(i:Int))=some (.inl (b&&f y,w64 ((i:Int)+1)))) (he:∀b,step (b,(l.length:Int))=some (.inr b)) (b:Bool) :
  loop step (b,0)=some (b&&l.all f):=by
 have:=atV (step:=step) l (fun i b=>(b,(i:Int))) (fun i y b=>.inl (b&&f y)) (fun b=>b) (by simp[fY];omega) (fun i y b hy=>by rw[hs b i y hy,Q8 (i:=i) (by have:=dZ hy;omega)];rfl) he b
 rw[show((b,0):Bool×Int)=(b,((0:Nat):Int))from rfl,this]
 have key:∀(l:List α) (i:Nat) (b:Bool),aqY (fun _ y b=>(Sum.inl (b&&f y):Bool ⊕ Bool)) (fun b=>b) l i b=(b&&l.all f):=by
  intro l
  induction l with
  | nil=>intro i b;simp[aqY]
  | cons x l ih=>intro i b;simp only[aqY,ih,List.all_cons,Bool.and_assoc]
 rw[key]
theorem avX{α:Type}{step:Int→Option (Int ⊕ (Unit ⊕ Int))}(l:List α)(p:α→Bool)(hl:l.length≤9223372036854775807)
  (hs:∀(i:Nat) y,l[i]? = some y→step (i:Int)=some (if p y=true then .inr (.inr (i:Int))else .inl (w64 ((i:Int)+1)))) (he:step (l.length:Int)=some (.inr (.inl ()))) :
  (((loop step 0).bind fun | .inl _=>some (-1) | .inr rv=>some rv).bind fun r=>some (decide (0≤r)))=some (l.any p):=by
 rw[LY l (fun i y=>if p y=true then some (.inr (i:Int))else none) (.inl ()) (by simp[fY];omega) (fun i y hy=>?_) he,Option.bind_some]
 ·have key:∀(l:List α) (i:Nat),(((match(wx (fun i y => if p y=true then some (Sum.inr (i:Int):Unit ⊕ Int)else none) l i).getD (.inl ())with | .inl _ => some (-1) | .inr rv => some rv):Option Int).bind fun r => some (decide (0≤r)))=some (l.any p) := by
   intro l
   induction l with
   | nil=>intro i;simp[wx]
   | cons x l ih =>
    intro i
    simp only[wx,List.any_cons]
    cases hp:p x with
    | true=>simp
    | false=>simpa[hp]using ih (i+1)
  have:=key l 0
  generalize (wx _ l 0).getD (Sum.inl ())=q at *
  cases q<;>simpa using this
 ·rw[hs i y hy,Q8 (i:=i) (by have:=dZ hy;omega)]
  split<;>rfl
def Gz(t:a0)(k:Int):Bool:=t.q7.any (fun x=>decide (x.w5=k))
theorem akY(t:a0)(k:Int)(h:t.q7.length≤9223372036854775807):kQ t k=some (Gz t k):=by
 unfold kQ
 rw[LY t.q7 (fun _ y=>if(fun x:dW=>decide (x.w5=k)) y=true then some ((fun _=>Sum.inr true) y)else none) (.inl ()) (by simp[fY];omega) (fun i y hy=>?_) (by simp[yZ]),abQ]
 ·unfold Gz
  cases e:t.q7.find? (fun x=>decide (x.w5=k))with
  | none =>
   simp only[Option.map_none,Option.getD_none,Option.bind_some]
   rw[eq_comm,bw,List.any_eq_false]
   exact List.find?_eq_none.1 e
  | some x =>
   simp only[Option.map_some,Option.getD_some,Option.bind_some]
   rw[eq_comm,bw,List.any_eq_true]
   exact⟨x,List.mem_of_find?_eq_some e,List.find?_some (p:=fun x:dW=>decide (x.w5=k)) e⟩
 ·have hi:(i:Int)<t.q7.length:=by have:=dZ hy;omega
  simp only[yZ,hi,decide_true,cond_true,dY,hy,Option.bind_some]
  by_cases h1:y.w5=k<;>simp[h1,Q8 (i:=i) (by omega)]
def cK(t:a0)(k:Int):Int:=if Gz t k=true then 0 else 5
theorem axj(t:a0)(m:List (Int×ByteArray))(hm:∀k,(xZ k m).isSome=Gz t k)(e:Int)(l:List aY)(hl:l.length≤9223372036854775807):iY e m l=some (if e=0 then orI (l.map fun y=>cK t y.q6)else e):=by
 unfold iY
 by_cases h0:e=0
 ·subst h0
  simp only[decide_true,Bool.not_true,cond_false,jw]
  refine atX l (fun y=>cK t y.q6) hl (fun i y hy=>?_) (by simp[m4])
  have hi:(i:Int)<l.length:=by have:=dZ hy;omega
  simp only[m4,hi,decide_true,cond_true,dY,hy,Option.bind_some,E6,hm,cK]
  by_cases hb:Gz t y.q6=true<;>simp[hb]
 ·simp[h0]
theorem aBY(t:a0)(m:List (Int×ByteArray))(hm:∀k,(xZ k m).isSome=Gz t k)(e:Int)(l:List d3)(hl:l.length≤9223372036854775807):kY e m l=some (if e=0 then orI (l.map fun y=>cK t y.q0.q6)else e):=by
 unfold kY
 by_cases h0:e=0
 ·subst h0
  simp only[decide_true,Bool.not_true,cond_false,jw]
  refine atX l (fun y=>cK t y.q0.q6) hl (fun i y hy=>?_) (by simp[n9])
  have hi:(i:Int)<l.length:=by have:=dZ hy;omega
  simp only[n9,hi,decide_true,cond_true,dY,hy,Option.bind_some,E8,hm,cK]
  by_cases hb:Gz t y.q0.q6=true<;>simp[hb]
 ·simp[h0]
theorem aBj(t:a0)(m:List (Int×ByteArray))(hm:∀k,(xZ k m).isSome=Gz t k)(e:Int)(l:List d3)(hl:l.length≤9223372036854775807):kK e m l=some (if e=0 then orI (l.map fun y=>cK t y.q9.q6)else e):=by
 unfold kK
 by_cases h0:e=0
 ·subst h0
  simp only[decide_true,Bool.not_true,cond_false,jw]
  refine atX l (fun y=>cK t y.q9.q6) hl (fun i y hy=>?_) (by simp[nJ])
  have hi:(i:Int)<l.length:=by have:=dZ hy;omega
  simp only[nJ,hi,decide_true,cond_true,dY,hy,Option.bind_some,E2,hm,cK]
  by_cases hb:Gz t y.q9.q6=true<;>simp[hb]
 ·simp[h0]
theorem apK(t:a0)(m:List (Int×ByteArray))(hm:∀k,(xZ k m).isSome=Gz t k)(e:Int)(l:List cY)(hl:l.length≤9223372036854775807):jW e m l=some (if e=0 then orI (l.map fun y=>cK t y.q6)else e):=by
 unfold jW
 by_cases h0:e=0
 ·subst h0
  simp only[decide_true,Bool.not_true,cond_false,jw]
  refine atX l (fun y=>cK t y.q6) hl (fun i y hy=>?_) (by simp[l8])
  have hi:(i:Int)<l.length:=by have:=dZ hy;omega
  simp only[l8,hi,decide_true,cond_true,dY,hy,Option.bind_some,E4,hm,cK]
  by_cases hb:Gz t y.q6=true<;>simp[hb]
 ·simp[h0]
theorem azK(t:a0)(m:List (Int×ByteArray))(hm:∀k,(xZ k m).isSome=Gz t k)(e:Int)(l:List dq)(hl:l.length≤9223372036854775807):kX e m l=some (if e=0 then orI (l.map fun y=>cK t y.q6)else e):=by
 unfold kX
 by_cases h0:e=0
 ·subst h0
  simp only[decide_true,Bool.not_true,cond_false,jw]
  refine atX l (fun y=>cK t y.q6) hl (fun i y hy=>?_) (by simp[mK])
  have hi:(i:Int)<l.length:=by have:=dZ hy;omega
  simp only[mK,hi,decide_true,cond_true,dY,hy,Option.bind_some,EZ,hm,cK]
  by_cases hb:Gz t y.q6=true<;>simp[hb]
 ·simp[h0]
theorem a8x(t:a0)(ht:t.q7.length≤9223372036854775807)(hl:t.z3.length≤9223372036854775807)(e:Int):loop (oW t) (e,0)=some (if e=0 then orI (t.z3.map fun y=>cK t y.q6)else e):=by
 refine aCV t.z3 (fun y=>cK t y.q6) hl (fun i y hy=>?_) (by simp[oW]) (fun e i h=>?_) e
 ·have hi:(i:Int)<t.z3.length:=by have:=dZ hy;omega
  simp only[oW,hi,decide_true,cond_true,dY,hy,Option.bind_some,akY t _ ht,cK]
  by_cases hb:Gz t y.q6=true<;>simp[hb]
 ·by_cases hi:i<(t.z3.length:Int)<;>simp[oW,hi,h]
theorem a6Z(t:a0)(ht:t.q7.length≤9223372036854775807)(hl:t.z2.length≤9223372036854775807)(e:Int):loop (o3 t) (e,0)=some (if e=0 then orI (t.z2.map fun y=>cK t y.q6)else e):=by
 refine aCV t.z2 (fun y=>cK t y.q6) hl (fun i y hy=>?_) (by simp[o3]) (fun e i h=>?_) e
 ·have hi:(i:Int)<t.z2.length:=by have:=dZ hy;omega
  simp only[o3,hi,decide_true,cond_true,dY,hy,Option.bind_some,akY t _ ht,cK]
  by_cases hb:Gz t y.q6=true<;>simp[hb]
 ·by_cases hi:i<(t.z2.length:Int)<;>simp[o3,hi,h]
theorem a7z(t:a0)(ht:t.q7.length≤9223372036854775807)(hl:t.z5.length≤9223372036854775807)(e:Int):loop (oJ t) (e,0)=some (if e=0 then orI (t.z5.map fun y=>cK t y.q6)else e):=by
 refine aCV t.z5 (fun y=>cK t y.q6) hl (fun i y hy=>?_) (by simp[oJ]) (fun e i h=>?_) e
 ·have hi:(i:Int)<t.z5.length:=by have:=dZ hy;omega
  simp only[oJ,hi,decide_true,cond_true,dY,hy,Option.bind_some,akY t _ ht,cK]
  by_cases hb:Gz t y.q6=true<;>simp[hb]
 ·by_cases hi:i<(t.z5.length:Int)<;>simp[oJ,hi,h]
theorem a8W(t:a0)(ht:t.q7.length≤9223372036854775807)(hl:t.z6.length≤9223372036854775807)(e:Int):loop (oQ t) (e,0)=some (if e=0 then orI (t.z6.map fun y=>if Gz t y.q0.q6=true∧Gz t y.q9.q6=true then 0 else 5)else e):=by
 refine aCV t.z6 (fun y=>if Gz t y.q0.q6=true∧Gz t y.q9.q6=true then 0 else 5) hl (fun i y hy=>?_) (by simp[oQ]) (fun e i h=>?_) e
 ·have hi:(i:Int)<t.z6.length:=by have:=dZ hy;omega
  simp only[oQ,hi,decide_true,cond_true,dY,hy,Option.bind_some,akY t _ ht]
  by_cases hb1:Gz t y.q0.q6=true<;>by_cases hb2:Gz t y.q9.q6=true<;>simp[hb1,hb2]
 ·by_cases hi:i<(t.z6.length:Int)<;>simp[oQ,hi,h]
def cLo(t:a0)(y:f6):Int:=if Gz t y.q6=true then(if(0≤y.q5.q0∧y.q5.q0<y.q5.q9∧y.q5.q9≤1000000000000)∧1≤y.j6∧y.j6≤1000000000000000 then 0 else 2)else 5
theorem asJ(y:f6):((nV y.q5).bind fun r32=>bif !r32 then some true else bif decide (y.j6<1)then some true else some (decide (1000000000000000<y.j6)))=some (!decide ((0≤y.q5.q0∧y.q5.q0<y.q5.q9∧y.q5.q9≤1000000000000)∧1≤y.j6∧y.j6≤1000000000000000)):=by
 rw[HK,Option.bind_some]
 by_cases h1:0≤y.q5.q0∧y.q5.q0<y.q5.q9∧y.q5.q9≤1000000000000
 ·by_cases h2:y.j6<1
  ·have : ¬1≤y.j6:=by omega
   simp[h1,h2,this]
  ·have h3:1≤y.j6:=by omega
   by_cases h4:1000000000000000<y.j6
   ·have : ¬y.j6≤1000000000000000:=by omega
    simp[h1,h2,h3,h4,this]
   ·have:y.j6≤1000000000000000:=by omega
    simp[h1,h2,h3,h4,this]
 ·simp[h1]
theorem a5x(t:a0)(m:List (Int×ByteArray))(hm:∀k,(xZ k m).isSome=Gz t k)(l:List f6)(hl:l.length≤9223372036854775807):wQ m l=some (orI (l.map (cLo t))):=by
 unfold wQ
 refine atX l (cLo t) hl (fun i y hy=>?_) (by simp[yj])
 have hi:(i:Int)<l.length:=by have:=dZ hy;omega
 simp only[yj,hi,decide_true,cond_true,dY,hy,Option.bind_some,hm,cLo,asJ]
 by_cases hb:Gz t y.q6=true<;>by_cases h:((0≤y.q5.q0∧y.q5.q0<y.q5.q9∧y.q5.q9≤1000000000000)∧1≤y.j6∧y.j6≤1000000000000000)<;>simp only[hb,h,decide_true,decide_false,jw,gw,Bool.not_true,Bool.not_false,cond_true,cond_false]<;>simp
theorem a6z(t:a0)(ht:t.q7.length≤9223372036854775807)(hl:t.j7.length≤9223372036854775807)(e:Int):loop (oK t) (e,0)=some (if e=0 then orI (t.j7.map (cLo t))else e):=by
 refine aCV t.j7 (cLo t) hl (fun i y hy=>?_) (by simp[oK]) (fun e i h=>?_) e
 ·have hi:(i:Int)<t.j7.length:=by have:=dZ hy;omega
  simp only[oK,hi,decide_true,cond_true,dY,hy,Option.bind_some,akY t _ ht,cLo,YZ,asJ]
  by_cases hb:Gz t y.q6=true<;>by_cases h:((0≤y.q5.q0∧y.q5.q0<y.q5.q9∧y.q5.q9≤1000000000000)∧1≤y.j6∧y.j6≤1000000000000000)<;>simp only[hb,h,decide_true,decide_false,jw,gw,Bool.not_true,Bool.not_false,cond_true,cond_false]<;>simp
 ·by_cases hi:i<(t.j7.length:Int)<;>simp[oK,hi,h]
theorem arY(t:a0):∀l:List d3,orI (l.map fun y=>if Gz t y.q0.q6=true∧Gz t y.q9.q6=true then 0 else 5)=if orI (l.map fun y=>cK t y.q0.q6)=0 then orI (l.map fun y=>cK t y.q9.q6)else orI (l.map fun y=>cK t y.q0.q6)
 | []=>rfl
 | y::l=>by
  have ih:=arY t l
  have h5:∀(f:d3→Int) (l:List d3),orI (l.map fun y=>cK t (f y))=0∨orI (l.map fun y=>cK t (f y))=5:=by
   intro f l
   induction l with
   | nil=>exact .inl rfl
   | cons x l ih =>
    simp only[List.map_cons,orI]
    split
    ·exact ih
    ·rename_i h
     unfold cK at h ⊢
     split at h
     ·exact absurd rfl h
     ·rename_i h';exact .inr (by rw[if_neg h'])
  simp only[List.map_cons,orI]
  rw[ih]
  rcases h5 (fun y => y.q0.q6) l with a | a<;>rcases h5 (fun y => y.q9.q6) l with b | b<;>simp only[cK]at a b ⊢<;>simp only[a,b]<;>by_cases hb1:Gz t y.q0.q6=true<;>by_cases hb2:Gz t y.q9.q6=true<;>simp[hb1,hb2]
def thG(t:a0)(i:Nat)(y:dW):Option Int:=match sQ y with
 | some r=>if r≠0 then some r else if(t.q7.take i).any (fun x=>decide (x.w5=y.w5))=true then some 4 else none
 | none=>none
def abX(t:a0):Option Int:=wx (thG t) t.q7 0
theorem W6{t:a0}{j:Nat}{y:dW}{r:Int}(hy:t.q7[j]? = some y)(h:thG t j y=some r)(hb:∀k z,k<j→t.q7[k]? = some z→thG t k z=none):abX t=some r :=
 arj hy (by simpa using h) (fun k z hk hz=>by simpa using hb k z hk hz)
theorem aiZ{t:a0}(hb:∀(k:Nat) z,t.q7[k]? = some z→thG t k z=none):abX t=none :=
 aDQ.2 (fun k z hz=>by simpa using hb k z hz)
theorem aUX(t:a0)(hl:t.q7.length≤9223372036854775807)(hn:∀x∈t.q7,okN x.q8)(h64 : ¬(64:Int)<t.q7.length):Ok (uj t) (fun q=>(∃r,r≠0∧q = .inl ([],r)∧abX t=some r)∨(∃m,q = .inr (m,0)∧abX t=none∧∀k,(xZ k m).isSome=Gz t k)):=by
 unfold uj
 simp only[h64,decide_false,cond_false]
 refine f8 (Q:=s8 (fun m=>abX t=none∧∀k,(xZ k m).isSome=Gz t k) (fun q:(List (Int×ByteArray)×Int) ⊕ (List (Int×ByteArray)×Int)=>∃r,r≠0∧q = .inl ([],r)∧abX t=some r)) (W4 t.q7.length (fun m n=>(∀k,(xZ k m).isSome=(t.q7.take n).any (fun x=>decide (x.w5=k)))∧∀(k:Nat) z,k<n→t.q7[k]? = some z→thG t k z=none) hl ⟨by intro k;simp[xZ],by intro k z hk;omega⟩ (fun m i hI h2=>?_)) (fun m hm=>cq (.inr ⟨m,rfl,hm.1,hm.2⟩)) (fun q hq=>cq (.inl hq))
 unfold Fx
 dsimp only
 refine bY (fun hi=>?_) (fun hi=>d8 ⟨aiZ (fun k z hz=>hI.2 k z (by have:=dZ hz;omega) hz),fun k=>?_⟩)
 ·obtain⟨y,hiy,hy⟩:=Mz (xs:=t.q7) (i:=i) (by omega)
  rw[hiy,Option.bind_some]
  obtain⟨r,hr,_⟩:=G0 y (hn y (ek hy))
  rw[hr,Option.bind_some]
  refine cQ (fun h0=>d8 ⟨r,h0,rfl,W6 hy (by simp[thG,hr,h0]) hI.2⟩) (fun h0=>?_)
  rw[hI.1 y.w5]
  refine cj (fun e=>d8 ⟨4,by omega,rfl,W6 hy (by simp only[thG,hr,h0,ne_eq,not_true_eq_false,gw];rw[if_pos e]) hI.2⟩) (fun e=>?_)
  rw[U0 (n:=t.q7.length) (by omega) hl]
  refine jq ⟨by omega,rfl,fun k=>?_,fun k z hk hz=>?_⟩
  ·rw[OV,List.take_add_one,hy]
   simp only[List.any_append,←hI.1 k]
   by_cases e2:k=y.w5
   ·subst e2;simp
   ·have : ¬y.w5=k:=fun h=>e2 h.symm
    simp[e2,this]
  ·by_cases e2:k=i
   ·subst e2;rw[hy]at hz;cases hz
    simp only[thG,hr,h0,ne_eq,not_true_eq_false,gw]
    rw[if_neg (by rw[e];simp)]
   ·exact hI.2 k z (by omega) hz
 ·rw[hI.1 k,show i=t.q7.length by omega,List.take_length];rfl
theorem aRK(t:a0)(hl:t.q7.length≤9223372036854775807)(hn:∀x∈t.q7,okN x.q8):Ok (loop (uq t) 0) (fun q=>(∃r,r≠0∧q = .inr r∧abX t=some r)∨(∃u,q = .inl u∧abX t=none)):=by
 refine anW t.q7.length (fun n=>∀(k:Nat) z,k<n→t.q7[k]? = some z→thG t k z=none) hl (by intro k z hk;omega) (fun i hI h2=>?_)
 unfold uq
 refine bY (fun hi=>?_) (fun hi=>d8 (.inr ⟨(),rfl,aiZ (fun k z hz=>hI k z (by have:=dZ hz;omega) hz)⟩))
 obtain⟨y,hiy,hy⟩:=Mz (xs:=t.q7) (i:=i) (by omega)
 rw[hiy,Option.bind_some]
 obtain⟨r,hr,_⟩:=G0 y (hn y (ek hy))
 rw[←aUZ,hr,Option.bind_some]
 refine cQ (fun h0=>d8 (.inl ⟨r,h0,rfl,W6 hy (by simp[thG,hr,h0]) hI⟩)) (fun h0=>?_)
 refine f8 (Q:=s8 (fun _=>(t.q7.take i).any (fun x=>decide (x.w5=y.w5))=false) (fun q=>q = .inr (.inr 4)∧(t.q7.take i).any (fun x=>decide (x.w5=y.w5))=true)) (anW i (fun n=>∀(k:Nat) z,k<n→t.q7[k]? = some z→z.w5≠y.w5) (by omega) (by intro k z hk;omega) (fun j hJ h4=>?_)) (fun _ hq=>?_) (fun q hq=>?_)
 ·unfold Aj
  refine bY (fun hj=>?_) (fun hj=>d8 ?_)
  ·obtain⟨z,hjz,hz⟩:=Mz (xs:=t.q7) (i:=j) (by omega)
   rw[hjz,Option.bind_some,hiy,Option.bind_some]
   refine bY (fun e=>d8 ⟨rfl,?_⟩) (fun e=>?_)
   ·rw[List.any_eq_true]
    refine⟨z,?_,decide_eq_true e⟩
    exact ek (i:=j) (by rw[lk,if_pos (by omega)];exact hz)
   ·rw[U0 (n:=i) (by omega) (by omega)]
    refine jq ⟨by omega,rfl,fun k z' hk hz'=>?_⟩
    by_cases e2:k=j
    ·subst e2;rw[hz]at hz';cases hz';exact e
    ·exact hJ k z' (by omega) hz'
  ·show(t.q7.take i).any _=false
   rw[List.any_eq_false]
   intro x hx
   obtain⟨k,hk⟩:=List.getElem?_of_mem hx
   rw[lk]at hk
   split at hk
   ·simpa using hJ k x (by omega) hk
   ·simp at hk
 ·have hq':(t.q7.take i).any (fun x=>decide (x.w5=y.w5))=false:=hq
  dsimp only
  rw[U0 (n:=t.q7.length) (by omega) hl]
  refine jq ⟨by omega,rfl,fun k z hk hz=>?_⟩
  by_cases e2:k=i
  ·subst e2;rw[hy]at hz;cases hz
   simp only[thG,hr,h0,ne_eq,not_true_eq_false,gw]
   rw[if_neg (by rw[hq'];simp)]
  ·exact hI k z (by omega) hz
 ·obtain⟨e1,e2⟩ : q = .inr (.inr 4)∧(t.q7.take i).any (fun x=>decide (x.w5=y.w5))=true:=hq
  subst e1
  exact d8 (.inl ⟨4,by omega,rfl,W6 hy (by simp only[thG,hr,h0,ne_eq,not_true_eq_false,gw];rw[if_pos e2]) hI⟩)
theorem aVW(t:a0)(hz:Siz t)(ht:t.q7.length≤1000000):FX t=sY t:=by
 unfold FX sY
 by_cases h64:(64:Int)<t.q7.length
 ·have:uj t=some (.inl ([],7)):=by unfold uj;simp[h64]
  rw[this]
  simp[h64]
 ·obtain⟨q,hq,hp⟩:=aUX t hz.th hz.nTh h64
  obtain⟨q',hq',hr⟩:=aRK t hz.th hz.nTh
  rw[hq,hq']
  simp only[h64,decide_false,cond_false]
  rcases hp with⟨r,h0,rfl,he⟩ | ⟨m,rfl,he,hm⟩
  ·rcases hr with⟨r',h0',rfl,he'⟩ | ⟨u,rfl,he'⟩
   ·rw[he]at he';cases he'
    simp[h0]
   ·rw[he]at he';simp at he'
  ·rcases hr with⟨r',h0',rfl,he'⟩ | ⟨u,rfl,he'⟩
   ·rw[he]at he';simp at he'
   ·dsimp only[Option.bind_some]
    unfold A3
    obtain⟨c1,h1,_⟩:=ajj t.z3 hz.sl hz.nSl
    obtain⟨c2,h2,_⟩:=S2 t.q7 t.z8 ht hz.st
    obtain⟨c3,h3,_⟩:=U5 t.z6 hz.fl
    obtain⟨c4,h4,_⟩:=RQ t.z2 hz.sa hz.nSa
    obtain⟨c5,h5,_⟩:=aaY t.j4 hz.sp hz.nSp
    obtain⟨c6,h6,_⟩:=RX t.z5 hz.bl hz.nBl
    rw[←aZY _ hz.sl,←a0J _ _ ht hz.st,←baV,←aWX,←aMJ,←aWx _ hz.bl hz.nBl]
    simp only[h1,h2,h3,h4,h5,h6,Option.bind_some,axj t m hm _ _ hz.sl,aBY t m hm _ _ hz.fl,aBj t m hm _ _ hz.fl,apK t m hm _ _ hz.sa,azK t m hm _ _ hz.bl,a5x t m hm _ hz.lo,a6z t hz.th hz.lo,a7z t hz.th hz.bl,a6Z t hz.th hz.sa,a8W t hz.th hz.fl,a8x t hz.th hz.sl,arY,decide_true,Bool.not_true,cond_false]
    generalize orI (t.z3.map fun y=>cK t y.q6)=k1
    generalize orI (t.z6.map fun y=>cK t y.q0.q6)=k2
    generalize orI (t.z6.map fun y=>cK t y.q9.q6)=k3
    generalize orI (t.z2.map fun y=>cK t y.q6)=k4
    generalize orI (t.z5.map fun y=>cK t y.q6)=k5
    generalize orI (t.j7.map (cLo t))=k6
    clear h1 h2 h3 h4 h5 h6
    by_cases g1:c1=0
    ·by_cases g2:k1=0
     ·by_cases g3:c2=0
      ·by_cases g4:c3=0
       ·by_cases g5:k2=0
        ·by_cases g6:k3=0
         ·by_cases g7:c4=0
          ·by_cases g8:k4=0
           ·by_cases g9:c5=0
            ·by_cases g10:c6=0
             ·by_cases g11:k5=0<;>simp[g1,g2,g3,g4,g5,g6,g7,g8,g9,g10,g11]
             ·simp[g1,g2,g3,g4,g5,g6,g7,g8,g9,g10]
            ·simp[g1,g2,g3,g4,g5,g6,g7,g8,g9]
           ·simp[g1,g2,g3,g4,g5,g6,g7,g8]
          ·simp[g1,g2,g3,g4,g5,g6,g7]
         ·simp[g1,g2,g3,g4,g5,g6]
        ·simp[g1,g2,g3,g4,g5]
       ·simp[g1,g2,g3,g4]
      ·simp[g1,g2,g3]
     ·simp[g1,g2]
    ·simp[g1]
def wiB(p s:aZ):Bool:=decide (s.q0≤p.q0)&&decide (p.q9≤s.q9)
def inB(s:aZ)(x:Int):Bool:=decide (s.q0≤x)&&decide (x<s.q9)
theorem Pj(p s:aZ):wW p s=some (wiB p s):=by
 unfold wW wiB;by_cases h:s.q0≤p.q0<;>simp[h]
theorem OQ(s:aZ)(x:Int):l3 s x=some (inB s x):=by
 unfold l3 inB;by_cases h:s.q0≤x<;>simp[h]
theorem OJ(p s:aZ):mY p s=some (wiB p s):=by
 unfold mY wiB;by_cases h:s.q0≤p.q0<;>simp[h]
theorem OZ(s:aZ)(x:Int):gY x s=some (inB s x):=by
 unfold gY inB;by_cases h:s.q0≤x<;>simp[h]
theorem aTZ(s:aZ)(l:List aY)(hl:l.length≤9223372036854775807):eY l s=some (!l.all fun y=>wiB y.q5 s):=by
 unfold eY iZ
 refine(avX l (fun y=>!(wiB y.q5 s)) hl (fun i y hy=>?_) (by simp[gX])).trans (by rw[List.not_all_eq_any_not])
 have hi:(i:Int)<l.length:=by have:=dZ hy;omega
 simp only[gX,hi,decide_true,cond_true,dY,hy,Option.bind_some,tX,Pj,OQ]
 by_cases h1:wiB y.q5 s=true<;>simp[h1]
theorem bgZ(t:a0)(hl:t.z3.length≤9223372036854775807)(b:Bool):loop (qQ t) (b,0)=some (b&&t.z3.all fun y=>wiB y.q5 t.q5):=by
 refine avY t.z3 (fun y=>wiB y.q5 t.q5) hl (fun b i y hy=>?_) (fun b=>by simp[qQ]) b
 have hi:(i:Int)<t.z3.length:=by have:=dZ hy;omega
 simp only[qQ,hi,decide_true,cond_true,dY,hy,Option.bind_some,OJ,OZ]
 cases b<;>simp
theorem aUz(s:aZ)(l:List cZ)(hl:l.length≤9223372036854775807):eK l s=some (!l.all fun y=>wiB y.q5 s):=by
 unfold eK iX
 refine(avX l (fun y=>!(wiB y.q5 s)) hl (fun i y hy=>?_) (by simp[gj])).trans (by rw[List.not_all_eq_any_not])
 have hi:(i:Int)<l.length:=by have:=dZ hy;omega
 simp only[gj,hi,decide_true,cond_true,dY,hy,Option.bind_some,tz,Pj,OQ]
 by_cases h1:wiB y.q5 s=true<;>simp[h1]
theorem bfY(t:a0)(hl:t.z8.length≤9223372036854775807)(b:Bool):loop (qz t) (b,0)=some (b&&t.z8.all fun y=>wiB y.q5 t.q5):=by
 refine avY t.z8 (fun y=>wiB y.q5 t.q5) hl (fun b i y hy=>?_) (fun b=>by simp[qz]) b
 have hi:(i:Int)<t.z8.length:=by have:=dZ hy;omega
 simp only[qz,hi,decide_true,cond_true,dY,hy,Option.bind_some,OJ,OZ]
 cases b<;>simp
theorem aVY(s:aZ)(l:List dq)(hl:l.length≤9223372036854775807):eV l s=some (!l.all fun y=>wiB y.q5 s):=by
 unfold eV iQ
 refine(avX l (fun y=>!(wiB y.q5 s)) hl (fun i y hy=>?_) (by simp[gQ])).trans (by rw[List.not_all_eq_any_not])
 have hi:(i:Int)<l.length:=by have:=dZ hy;omega
 simp only[gQ,hi,decide_true,cond_true,dY,hy,Option.bind_some,tV,Pj,OQ]
 by_cases h1:wiB y.q5 s=true<;>simp[h1]
theorem bfj(t:a0)(hl:t.z5.length≤9223372036854775807)(b:Bool):loop (qV t) (b,0)=some (b&&t.z5.all fun y=>wiB y.q5 t.q5):=by
 refine avY t.z5 (fun y=>wiB y.q5 t.q5) hl (fun b i y hy=>?_) (fun b=>by simp[qV]) b
 have hi:(i:Int)<t.z5.length:=by have:=dZ hy;omega
 simp only[qV,hi,decide_true,cond_true,dY,hy,Option.bind_some,OJ,OZ]
 cases b<;>simp
theorem a0x(s:aZ)(l:List d3)(hl:l.length≤9223372036854775807):fX l s=some (!l.all fun y=>(inB s y.w7&&inB s y.w4)):=by
 unfold fX i7
 refine(avX l (fun y=>!(inB s y.w7&&inB s y.w4)) hl (fun i y hy=>?_) (by simp[g0])).trans (by rw[List.not_all_eq_any_not])
 have hi:(i:Int)<l.length:=by have:=dZ hy;omega
 simp only[g0,hi,decide_true,cond_true,dY,hy,Option.bind_some,tq,Pj,OQ]
 by_cases h1:inB s y.w7=true<;>by_cases h2:inB s y.w4=true<;>simp[h1,h2]
theorem bgq(t:a0)(hl:t.z6.length≤9223372036854775807)(b:Bool):loop (qY t) (b,0)=some (b&&t.z6.all fun y=>(inB t.q5 y.w7&&inB t.q5 y.w4)):=by
 refine avY t.z6 (fun y=>(inB t.q5 y.w7&&inB t.q5 y.w4)) hl (fun b i y hy=>?_) (fun b=>by simp[qY]) b
 have hi:(i:Int)<t.z6.length:=by have:=dZ hy;omega
 simp only[qY,hi,decide_true,cond_true,dY,hy,Option.bind_some,OJ,OZ]
 cases b<;>by_cases h1:inB t.q5 y.w7=true<;>by_cases h2:inB t.q5 y.w4=true<;>simp[h1,h2]
theorem aIz(s:aZ)(l:List cY)(hl:l.length≤9223372036854775807):eX l s=some (!l.all fun y=>inB s y.j8):=by
 unfold eX gZ
 refine(avX l (fun y=>!(inB s y.j8)) hl (fun i y hy=>?_) (by simp[f9])).trans (by rw[List.not_all_eq_any_not])
 have hi:(i:Int)<l.length:=by have:=dZ hy;omega
 simp only[f9,hi,decide_true,cond_true,dY,hy,Option.bind_some,tx,Pj,OQ]
 by_cases h1:inB s y.j8=true<;>simp[h1]
theorem bfz(t:a0)(hl:t.z2.length≤9223372036854775807)(b:Bool):loop (qj t) (b,0)=some (b&&t.z2.all fun y=>inB t.q5 y.j8):=by
 refine avY t.z2 (fun y=>inB t.q5 y.j8) hl (fun b i y hy=>?_) (fun b=>by simp[qj]) b
 have hi:(i:Int)<t.z2.length:=by have:=dZ hy;omega
 simp only[qj,hi,decide_true,cond_true,dY,hy,Option.bind_some,OJ,OZ]
 cases b<;>simp
theorem a4z(s:aZ)(l:List cV)(hl:l.length≤9223372036854775807):fQ l s=some (!l.all fun y=>inB s y.j8):=by
 unfold fQ i8
 refine(avX l (fun y=>!(inB s y.j8)) hl (fun i y hy=>?_) (by simp[iq])).trans (by rw[List.not_all_eq_any_not])
 have hi:(i:Int)<l.length:=by have:=dZ hy;omega
 simp only[iq,hi,decide_true,cond_true,dY,hy,Option.bind_some,tj,Pj,OQ]
 by_cases h1:inB s y.j8=true<;>simp[h1]
theorem bdZ(t:a0)(hl:t.j4.length≤9223372036854775807)(b:Bool):loop (qJ t) (b,0)=some (b&&t.j4.all fun y=>inB t.q5 y.j8):=by
 refine avY t.j4 (fun y=>inB t.q5 y.j8) hl (fun b i y hy=>?_) (fun b=>by simp[qJ]) b
 have hi:(i:Int)<t.j4.length:=by have:=dZ hy;omega
 simp only[qJ,hi,decide_true,cond_true,dY,hy,Option.bind_some,OJ,OZ]
 cases b<;>simp
theorem S6(t:a0)(hz:Siz t)(ht:t.q7.length≤1000000):Cz t=qx t:=by
 unfold Cz qx
 rw[aVW t hz ht]
 congr 1
 funext r
 congr 1
 congr 1
 funext v
 congr 1
 rw[bgZ t hz.sl]
 simp only[Option.bind_some,bfY t hz.st,bfj t hz.bl,bgq t hz.fl,bfz t hz.sa,bdZ t hz.sp,DQ,aTZ t.q5 _ hz.sl,aUz t.q5 _ hz.st,aVY t.q5 _ hz.bl,a0x t.q5 _ hz.fl,aIz t.q5 _ hz.sa,a4z t.q5 _ hz.sp]
 generalize (t.z3.all fun y=>wiB y.q5 t.q5)=b1
 generalize (t.z8.all fun y=>wiB y.q5 t.q5)=b2
 generalize (t.z5.all fun y=>wiB y.q5 t.q5)=b3
 generalize (t.z6.all fun y=>(inB t.q5 y.w7&&inB t.q5 y.w4))=b4
 generalize (t.z2.all fun y=>inB t.q5 y.j8)=b5
 generalize (t.j4.all fun y=>inB t.q5 y.j8)=b6
 cases b1<;>cases b2<;>cases b3<;>cases b4<;>cases b5<;>cases b6<;>rfl
theorem M7{σ ρ:Type}{step:σ×Int→Option ((σ×Int) ⊕ ρ)}(n:Nat)(Inv:σ→Nat→Prop){Post:ρ→Prop}(hn:n≤9223372036854775807){s0:σ}(h0:Inv s0 0)
  (h:∀(s:σ) (i:Nat),Inv s i→i≤n→Ok (step (s,(i:Int))) (s8 (fun a=>i<n∧a.2=((i+1:Nat):Int)∧Inv a.1 (i+1)) Post)):Ok (loop step (s0,0)) Post:=by
 refine VZ n (fun s i=>Inv s i.toNat) hn h0 (fun s i hI h1 h2=>?_)
 obtain⟨k,rfl⟩:=Int.eq_ofNat_of_zero_le h1
 refine(h s k hI (by omega)).mono ?_
 rintro (⟨a,b⟩ | b) hr
 ·obtain⟨h3,h4,h5⟩ : k<n∧b=((k+1:Nat):Int)∧Inv a (k+1):=hr
  refine⟨by omega,by omega,?_⟩
  rw[show((k:Int)+1).toNat=k+1 by omega];exact h5
 ·exact hr
theorem axJ{ρ:Type}{step:Int→Option (Int ⊕ ρ)}(n:Nat)(Inv:Nat→Prop){Post:ρ→Prop}(hn:n≤9223372036854775807)(h0:Inv 0)
  (h:∀i:Nat,Inv i→i≤n→Ok (step (i:Int)) (s8 (fun a=>i<n∧a=((i+1:Nat):Int)∧Inv (i+1)) Post)):Ok (loop step 0) Post:=by
 refine aMj n (fun i=>Inv i.toNat) hn h0 (fun i hI h1 h2=>?_)
 obtain⟨k,rfl⟩:=Int.eq_ofNat_of_zero_le h1
 refine(h k hI (by omega)).mono ?_
 rintro (b | b) hr
 ·obtain⟨h3,h4,h5⟩ : k<n∧b=((k+1:Nat):Int)∧Inv (k+1):=hr
  refine⟨by omega,by omega,?_⟩
  rw[show((k:Int)+1).toNat=k+1 by omega];exact h5
 ·exact hr
theorem Z0{α:Type}{xs:List α}{i:Nat}(h:i<xs.length):Ok (idx xs (i:Int)) (fun y=>xs[i]? = some y):=by
 rw[dY];exact⟨xs[i],by simp[h],by simp[h]⟩
theorem Gx{i n:Nat}(h:i<n)(hn:n≤9223372036854775807):w64 ((i:Int)+1)=((i+1:Nat):Int):=by rw[cX (by omega)];omega
def SpV(l:List aY):Prop:=∀s∈l,0≤s.q5.q0∧s.q5.q0<s.q5.q9∧s.q5.q9≤1000000000000
theorem aqq(l:List aY)(h:l.length≤9223372036854775807)(hx:∀x∈l,okN x.q8):Ok (p9 l) (fun r=>r=0→SpV l):=by
 unfold p9
 refine f8 (Q:=s8 (fun _=>SpV l) (fun r=>r≠0)) (axJ l.length (fun n=>∀(k:Nat) s,k<n→l[k]? = some s→0≤s.q5.q0∧s.q5.q0<s.q5.q9∧s.q5.q9≤1000000000000) h (by intro k s hk;omega) (fun i hI h2=>?_)) (fun _ hq=>?_) (fun r hr=>cq (fun e=>absurd e hr))
 ·unfold yQ
  refine bY (fun hi=>?_) (fun hi=>d8 (fun s hs=>?_))
  ·refine ax (Z0 (by omega)) (fun y hy=>?_)
   refine ax (Q:=fun v=>v=false→0≤y.q5.q0∧y.q5.q0<y.q5.q9∧y.q5.q9≤1000000000000) ?_ (fun v hv=>?_)
   ·refine bY (fun _=>cq (by simp)) (fun _=>?_)
    refine bY (fun _=>cq (by simp)) (fun _=>?_)
    refine ax (JW y.q5) (fun b hb=>cq (fun e=>hb (by simpa using e)))
   refine cj (fun _=>d8 (show(2:Int)≠0 by omega)) (fun e=>?_)
   refine ax (nj _ (hx _ (ek hy))) (fun r _=>?_)
   refine cQ (fun h0=>d8 h0) (fun _=>?_)
   refine ax (Q:=Yes) ?_ (fun v2 _=>?_)
   ·refine bY (fun h0=>?_) (fun _=>dj)
    rw[show w64 ((i:Int)-1)=(i:Int)-1 from cX (by omega)]
    refine ax (dX (by omega) (by omega)) (fun z _=>?_)
    exact ax (I1 _ _) (fun _ _=>dj)
   refine cj (fun _=>d8 (show(11:Int)≠0 by omega)) (fun _=>?_)
   rw[Gx (n:=l.length) (by omega) h]
   refine jq ⟨by omega,rfl,fun k s hk hs=>?_⟩
   by_cases e2:k=i
   ·subst e2;rw[hy]at hs;cases hs;exact hv e
   ·exact hI k s (by omega) hs
  ·obtain⟨k,hk⟩:=List.getElem?_of_mem hs
   exact hI k s (by have:=dZ hk;omega) hk
 ·have hq':SpV l:=hq
  dsimp only
  refine ax (Q:=Yes) ?_ (fun v _=>cj (fun _=>cq (fun e=>by simp at e)) (fun _=>cq (fun _=>hq')))
  refine ax (JK l h) (fun b hb=>?_)
  refine d4 (fun _=>dj) (fun e=>?_)
  exact ax (Mj l h (hb e)) (fun _ _=>dj)
theorem aYJ{t:a0}(h:pV t):Siz t:=by
 have e:reachBytes=140737488351232:=by decide
 unfold pV okL MK Oz MJ P3 N7 agZ okL at h
 rw[e]at h
 obtain⟨_,_,h1,h2,h3,h4,h5,h6,h7,h8⟩:=h
 refine⟨by omega,by omega,by omega,by omega,by omega,by omega,by omega,by omega,fun x hx=>?_,fun x hx=>?_,fun x hx=>?_,fun x hx=>?_,fun x hx=>?_⟩
 ·have:=(h1.2 x hx).2.1;unfold okN;omega
 ·have:=(h2.2 x hx).2.2.2.1;unfold okN;omega
 ·have:=(h5.2 x hx).2.2.2;exact⟨by omega,fun y hy=>by have:=this.2 y hy;unfold okN;omega⟩
 ·have:=(h6.2 x hx).1;unfold okN;omega
 ·have:=(h7.2 x hx).2.2.2.2.2.1;exact⟨by omega,fun y hy=>by have:=this.2 y hy;unfold okN;omega⟩
def axx(l:List aY)(i:Nat)(y:aY):Prop :=
 (y.z1 = -1∧y.z9=0)∨∃p z,y.z1=((p:Nat):Int)∧p<i∧l[p]? = some z∧z.q6=y.q6∧z.q5.q0≤y.q5.q0∧y.q5.q9≤z.q5.q9∧y.z9=w64 (z.z9+1)
def Nest(l:List aY):Prop:=∀(i:Nat) y,l[i]? = some y→axx l i y
theorem aYY(l:List aY)(h:l.length≤9223372036854775807):Ok (zJ l) (fun b=>b=true→Nest l):=by
 unfold zJ
 refine f8 (Q:=s8 (fun _=>Nest l) (fun b=>b=false)) (axJ l.length (fun n=>∀(k:Nat) y,k<n→l[k]? = some y→axx l k y) h (by intro k y hk;omega) (fun i hI h2=>?_)) (fun _ hq=>cq (fun _=>hq)) (fun r hr=>cq (fun e=>?_))
 ·unfold sZ
  refine bY (fun hi=>?_) (fun hi=>d8 (fun k y hy=>hI k y (by have:=dZ hy;omega) hy))
  refine ax (Z0 (by omega)) (fun y hy=>?_)
  have no:s8 (fun _:Unit=>Nest l) (fun b=>b=false) (.inr false):=rfl
  have nx:axx l i y→Ok (some (.inl (w64 ((i:Int)+1)))) (s8 (fun a=>i<l.length∧a=((i+1:Nat):Int)∧∀(k:Nat) y,k<i+1→l[k]? = some y→axx l k y) (s8 (fun _:Unit=>Nest l) (fun b=>b=false))):=by
   intro hn
   rw[Gx (n:=l.length) (by omega) h]
   refine jq ⟨by omega,rfl,fun k z hk hz=>?_⟩
   by_cases e:k=i
   ·subst e;rw[hy]at hz;cases hz;exact hn
   ·exact hI k z (by omega) hz
  refine ax (Q:=fun v=>v=false→-1≤y.z1∧y.z1<i) ?_ (fun v hv=>?_)
  ·refine bY (fun _=>cq (by simp)) (fun h3=>cq (fun h4=>?_))
   have:=of_decide_eq_false h4
   omega
  refine cj (fun _=>d8 no) (fun h0=>?_)
  have hp:=hv h0
  refine bY (fun e1=>?_) (fun hne=>?_)
  ·refine cQ (fun _=>d8 no) (fun e2=>nx (.inl ⟨e1,e2⟩))
  ·obtain⟨p,hpe⟩:=Int.eq_ofNat_of_zero_le (show 0≤y.z1 by omega)
   rw[hpe]
   refine ax (Z0 (by omega)) (fun z hz=>?_)
   refine ax (Q:=fun v=>v=false→z.q6=y.q6∧z.q5.q0≤y.q5.q0∧y.q5.q9≤z.q5.q9∧y.z9=w64 (z.z9+1)) ?_ (fun v hv=>?_)
   ·refine cQ (fun _=>cq (by simp)) (fun g1=>?_)
    refine bY (fun _=>cq (by simp)) (fun g2=>?_)
    refine bY (fun _=>cq (by simp)) (fun g3=>cq (fun g4=>?_))
    exact⟨g1,by omega,by omega,by simpa using g4⟩
   refine cj (fun _=>d8 no) (fun e=>nx (.inr ⟨p,z,hpe,by omega,hz,hv e⟩))
 ·have:r=false:=hr
  simp[this]at e
theorem Nest.up{l:List aY}(h:Nest l):Up l l.length:=by
 intro j y hj hy
 rcases h j y hy with⟨e,_⟩ | ⟨p,z,e,hp,_⟩<;>omega
theorem aaK(l:List aY)(h:l.length≤9223372036854775807)(hx:∀x∈l,okN x.q8):Ok (p9 l) (fun r=>r=0→Nest l):=by
 unfold p9
 refine f8 (Q:=s8 (fun _=>True) (fun r=>r≠0)) (axJ l.length (fun _=>True) h trivial (fun i _ h2=>?_)) (fun _ _=>?_) (fun r hr=>cq (fun e=>absurd e hr))
 ·unfold yQ
  refine bY (fun hi=>?_) (fun hi=>d8 trivial)
  refine ax (Z0 (by omega)) (fun y hy=>?_)
  refine ax (Q:=Yes) ?_ (fun v _=>?_)
  ·refine bY (fun _=>dj) (fun _=>?_)
   refine bY (fun _=>dj) (fun _=>?_)
   exact ax (JW y.q5) (fun b _=>dj)
  refine cj (fun _=>d8 (show(2:Int)≠0 by omega)) (fun _=>?_)
  refine ax (nj _ (hx _ (ek hy))) (fun r _=>?_)
  refine cQ (fun h0=>d8 h0) (fun _=>?_)
  refine ax (Q:=Yes) ?_ (fun v2 _=>?_)
  ·refine bY (fun h0=>?_) (fun _=>dj)
   rw[show w64 ((i:Int)-1)=(i:Int)-1 from cX (by omega)]
   refine ax (dX (by omega) (by omega)) (fun z _=>?_)
   exact ax (I1 _ _) (fun _ _=>dj)
  refine cj (fun _=>d8 (show(11:Int)≠0 by omega)) (fun _=>?_)
  rw[Gx (n:=l.length) (by omega) h]
  exact jq ⟨by omega,rfl,trivial⟩
 ·dsimp only
  refine ax (Q:=fun v=>v=false→Nest l) ?_ (fun v hv=>cj (fun _=>cq (fun e=>by simp at e)) (fun e=>cq (fun _=>hv e)))
  refine ax (aYY l h) (fun b hb=>?_)
  refine d4 (fun _=>cq (by simp)) (fun e=>?_)
  exact ax (Mj l h ((hb e).up)) (fun _ _=>cq (fun _=>hb e))
theorem aXJ{α:Type}(p s:List α)(x:α):(p++x::s)[p.length]? = some x:=by simp
theorem aNK{α:Type}(p s:List α)(x y:α):(p++x::s).set p.length y=p++y::s:=by simp
theorem arJ{α:Type}(p q s:List α)(x y x' y':α) :
  (p++x::(q++y::s))[p.length]? = some x∧(p++x::(q++y::s))[p.length+1+q.length]? = some y∧((p++x::(q++y::s)).set p.length x')=p++x'::(q++y::s)∧((p++x::(q++y::s)).set (p.length+1+q.length) y')=p++x::(q++y'::s):=by
 have e:∀(x:α) (y:α),p++x::(q++y::s)=(p++x::q)++y::s:=fun x y=>by simp
 have l:∀x:α,(p++x::q).length=p.length+1+q.length:=fun x=>by simp;omega
 refine⟨aXJ p _ x,?_,aNK p _ x x',?_⟩
 ·rw[e,←l x];exact aXJ _ _ _
 ·rw[e,←l x,aNK,←e]
theorem anq(u X z Y v:List aX)(n:Nat)(hX:X.length=n)(hY:Y.length=n)(hl:(u++X++z++Y++v).length≤1000000)(i1 i2 i3:Int)(e1:i1=u.length)(e2:i2=(u.length+n+z.length:Nat))(e3:i3=n) :
  eJ (u++X++z++Y++v) i1 i2 i3=some (u++Y++z++X++v):=by
 subst e1 e2 e3
 simp only[ck]at hl
 have:Ok (eJ (u++X++z++Y++v) (u.length:Int) ((u.length+n+z.length:Nat):Int) (n:Int)) (fun r=>r=u++Y++z++X++v):=by
  unfold eJ
  refine M7 n (fun a i=>∃Xd Xr Yd Yr,X=Xd++Xr∧Y=Yd++Yr∧Xd.length=i∧Yd.length=i∧a=u++Yd++Xr++z++Xd++Yr++v) (by omega) ⟨[],X,[],Y,by simp,by simp,rfl,rfl,by simp⟩ (fun a i hI h2=>?_)
  obtain⟨Xd,Xr,Yd,Yr,rfl,rfl,g1,g2,rfl⟩:=hI
  rw[ck]at hX hY
  unfold l5
  dsimp only
  refine bY (fun hi=>?_) (fun hi=>d8 ?_)
  ·cases Xr with
   | nil=>simp at hX;omega
   | cons x Xr =>
    cases Yr with
    | nil=>simp at hY;omega
    | cons y Yr =>
     simp only[fk]at hX hY
     simp only[ck,fk]at hl
     have form:u++Yd++x::Xr++z++Xd++y::Yr++v=(u++Yd)++x::((Xr++z++Xd)++y::(Yr++v)):=by simp
     have p1:(u++Yd).length=u.length+i:=by rw[ck];omega
     have p2:(u++Yd).length+1+(Xr++z++Xd).length=u.length+n+z.length+i:=by simp only[ck];omega
     have w1:w64 ((u.length:Int)+(i:Int))=((u++Yd).length:Int):=by rw[cX (by omega),p1];omega
     have w2:w64 (((u.length+n+z.length:Nat):Int)+(i:Int))=(((u++Yd).length+1+(Xr++z++Xd).length:Nat):Int):=by rw[cX (by omega),p2];omega
     rw[form]
     obtain⟨a1,a2,a3,a4⟩:=arJ (u++Yd) (Xr++z++Xd) (Yr++v) x y y x
     obtain⟨b1,b2,b3,b4⟩:=arJ (u++Yd) (Xr++z++Xd) (Yr++v) y y y x
     rw[w1,w2,dY,dY,a1,a2]
     simp only[Option.bind_some,Int.toNat_natCast]
     rw[a3,dY,b2,Option.bind_some,b4,Gx (n:=n) (by omega) (by omega)]
     refine jq ⟨by omega,rfl,Xd++[x],Xr,Yd++[y],Yr,by simp,by simp,by simp;omega,by simp;omega,by simp⟩
  ·have hXr:Xr=[]:=dk (by omega)
   have hYr:Yr=[]:=dk (by omega)
   subst hXr hYr
   simp
 obtain⟨r,h1,h2⟩:=this
 rw[h1,h2]
theorem aSZ(pre A B post:List aX)(hA:A≠[])(hB:B≠[])(hl:(pre++A++B++post).length≤1000000)(i1 i2 i3:Int)(e1:i1=pre.length)(e2:i2=(pre.length+A.length:Nat))(e3:i3=(pre.length+A.length+B.length:Nat)) :
  gJ (pre++A++B++post) i1 i2 i3=some (pre++B++A++post):=by
 subst e1 e2 e3
 have la:0<A.length:=List.length_pos_iff.2 hA
 have lb:0<B.length:=List.length_pos_iff.2 hB
 simp only[ck]at hl
 have:Ok (gJ (pre++A++B++post) (pre.length:Int) ((pre.length+A.length:Nat):Int) ((pre.length+A.length+B.length:Nat):Int)) (fun r=>r=pre++B++A++post):=by
  unfold gJ
  rw[cX (n:=((pre.length+A.length:Nat):Int)-(pre.length:Int)) (by omega),cX (n:=((pre.length+A.length+B.length:Nat):Int)-((pre.length+A.length:Nat):Int)) (by omega)]
  refine ax (Q:=fun r:List aX×Int=>∃u X Y v,X.length=Y.length∧0<X.length∧u.length+X.length=pre.length+A.length∧(u++X++Y++v).length=(pre++A++B++post).length∧r.1=u++X++Y++v∧r.2=X.length∧u++Y++X++v=pre++B++A++post)
   (uJ (fun s:List aX×Int×Int=>∃u X Y v,0<X.length∧0<Y.length∧u.length+X.length=pre.length+A.length∧(u++X++Y++v).length=(pre++A++B++post).length∧s.1=u++X++Y++v∧s.2.1=X.length∧s.2.2=Y.length∧u++Y++X++v=pre++B++A++post) (fun s=>(s.2.1+s.2.2).toNat) (fun s hs=>?_) ⟨pre,A,B,post,la,lb,rfl,rfl,rfl,by simp only;omega,by simp only;omega,rfl⟩ (by simp[fY];omega)) (fun r hr=>?_)
  ·obtain⟨a,i,j⟩:=s
   obtain⟨u,X,Y,v,h1,h2,h3,h4,rfl,h6,h7,h8⟩:=hs
   simp only at h6 h7
   subst h6 h7
   simp only[ck]at h4
   unfold oq
   dsimp only
   refine cQ (fun hne=>?_) (fun heq=>d8 ⟨u,X,Y,v,by omega,h1,h3,by simp only[ck];omega,rfl,rfl,h8⟩)
   have hu:w64 (((pre.length+A.length:Nat):Int)-(X.length:Int))=(u.length:Int):=by rw[cX (by omega)];omega
   rw[hu]
   refine bY (fun hlt=>?_) (fun hge=>?_)
   ·
    have hX:X=X.take Y.length++X.drop Y.length:=(List.take_append_drop _ _).symm
    have t1:(X.take Y.length).length=Y.length:=by rw[pw];omega
    have t2:(X.drop Y.length).length=X.length-Y.length:=by rw[List.length_drop]
    generalize X.take Y.length=X1 at *
    generalize X.drop Y.length=X2 at *
    subst hX
    rw[ck]at h3 h4 hlt t2 ⊢
    have form:u++(X1++X2)++Y++v=u++X1++X2++Y++v:=by simp
    rw[form,anq u X1 X2 Y v Y.length t1 rfl (by simp only[ck];omega) _ _ _ rfl (by omega) rfl,Option.bind_some]
    rw[cX (by omega)]
    refine jq ⟨⟨u++Y,X2,X1,v,by omega,by omega,by rw[ck];omega,by simp only[ck];omega,rfl,by simp only;omega,by simp only;omega,by rw[←h8];simp⟩,by simp only;omega⟩
   ·have hY:Y=Y.take (Y.length-X.length)++Y.drop (Y.length-X.length):=(List.take_append_drop _ _).symm
    have t1:(Y.take (Y.length-X.length)).length=Y.length-X.length:=by rw[pw];omega
    have t2:(Y.drop (Y.length-X.length)).length=X.length:=by rw[List.length_drop];omega
    generalize Y.take (Y.length-X.length)=Y1 at *
    generalize Y.drop (Y.length-X.length)=Y2 at *
    subst hY
    rw[ck]at h2 h4 hne hge t1 ⊢
    have form:u++X++(Y1++Y2)++v=u++X++Y1++Y2++v:=by simp
    have w2:w64 (w64 (((pre.length+A.length:Nat):Int)+((Y1.length+Y2.length:Nat):Int))-(X.length:Int))=((u.length+X.length+Y1.length:Nat):Int):=by
     rw[cX (n:=((pre.length+A.length:Nat):Int)+((Y1.length+Y2.length:Nat):Int)) (by omega),cX (by omega)];omega
    rw[form,w2,anq u X Y1 Y2 v X.length rfl t2 (by simp only[ck];omega) _ _ _ rfl rfl rfl,Option.bind_some]
    rw[cX (by omega)]
    refine jq ⟨⟨u,Y2,Y1,X++v,by omega,by omega,by omega,by simp only[ck];omega,by simp,by simp only;omega,by simp only;omega,by rw[←h8];simp⟩,by simp only;omega⟩
  ·obtain⟨a,i⟩:=r
   obtain⟨u,X,Y,v,h1,h2,h3,h4,rfl,h6,h8⟩:=hr
   simp only at h6
   subst h6
   simp only[ck]at h4
   have hu:w64 (((pre.length+A.length:Nat):Int)-(X.length:Int))=(u.length:Int):=by rw[cX (by omega)];omega
   dsimp only
   have form:u++X++Y++v=u++X++[]++Y++v:=by simp
   rw[hu,form,anq u X [] Y v X.length rfl h1.symm (by simp only[ck,List.length_nil];omega) _ _ _ rfl (by simp only[List.length_nil];omega) rfl,Option.bind_some]
   exact cq (by rw[←h8];simp)
 obtain⟨r,h1,h2⟩:=this
 rw[h1,h2]
abbrev DS:=aX×Nat
def kl(a b:aX):Prop:=a.z4.q5.q0<b.z4.q5.q0∨(a.z4.q5.q0=b.z4.q5.q0∧(b.z4.q5.q9<a.z4.q5.q9∨(b.z4.q5.q9=a.z4.q5.q9∧a.z4.q6<b.z4.q6)))
instance (a b:aX):Decidable (kl a b):=by unfold kl;infer_instance
def lt(x y:DS):Prop:=kl x.1 y.1∨(¬kl y.1 x.1∧x.2<y.2)
theorem beX{a:aX} : ¬kl a a:=by unfold kl;omega
theorem bgK{a b:aX}(h:kl a b) : ¬kl b a:=by unfold kl at *;omega
theorem aEQ{a b c:aX}(h1 : ¬kl c b)(h2 : ¬kl b a) : ¬kl c a:=by unfold kl at *;omega
theorem bcY{a b c:aX}(h1 : ¬kl b a)(h2:kl b c):kl a c:=by unfold kl at *;omega
theorem biz{a b c:aX}(h1:kl a b)(h2 : ¬kl c b):kl a c:=by unfold kl at *;omega
theorem bjq{x y z:DS}(h1:lt x y)(h2:lt y z):lt x z:=by unfold lt kl at *;omega
theorem bjQ{x y:DS}(h:lt x y) : ¬kl y.1 x.1:=h.elim bgK (·.1)
theorem XZ(a b:aX):∃r,o7 a b=some r∧(decide (r<0)=decide (kl a b)):=by
 refine⟨orI [if a.z4.q5.q0<b.z4.q5.q0 then -1 else if b.z4.q5.q0<a.z4.q5.q0 then 1 else 0,if b.z4.q5.q9<a.z4.q5.q9 then -1 else if a.z4.q5.q9<b.z4.q5.q9 then 1 else 0,if a.z4.q6<b.z4.q6 then -1 else if b.z4.q6<a.z4.q6 then 1 else 0],?_,?_⟩
 ·unfold o7
  simp only[agY,Option.bind_some]
  rw[Zz _ (Nat.le_of_ble_eq_true rfl),Option.bind_some]
 ·rw[decide_eq_decide]
  simp only[orI,kl]
  repeat' split
  all_goals omega
theorem aiK{α:Type}(p s:List α)(x y:α):(p++y::x::s)[p.length]? = some y∧(p++y::x::s)[p.length+1]? = some x∧((p++y::x::s).set (p.length+1) y)=p++y::y::s∧((p++y::y::s).set p.length x)=p++x::y::s∧(p++y::y::s)[p.length]? = some y:=by
 obtain⟨a1,a2,a3,a4⟩:=arJ p [] s y x x y
 obtain⟨b1,b2,b3,b4⟩:=arJ p [] s y y x y
 exact⟨a1,a2,a4,b3,b1⟩
theorem V0{C1 C2:List DS}{x:DS}(h:(C1++C2).Pairwise lt)(h1:∀y∈C1,lt y x)(h2:∀y∈C2,lt x y):(C1++x::C2).Pairwise lt:=by
 rw[List.pairwise_append]at h ⊢
 refine⟨h.1,List.pairwise_cons.2 ⟨h2,h.2.1⟩,fun a ha b hb=>?_⟩
 rcases iw.1 hb with rfl | hb
 ·exact h1 a ha
 ·exact h.2.2 a ha b hb
theorem a8V(pre C rest:List DS)(x:DS)(hC:C.Pairwise lt)(hx:∀y∈C,y.2<x.2)(hl:(pre++C++[x]++rest).length≤1000000)(lo j:Int)(e1:lo=pre.length)(e2:j=(pre.length+C.length:Nat)) :
  Ok (loop (i5 lo) ((pre++C++[x]++rest).map (·.1),j)) (fun r=>∃C',r=(pre++C'++rest).map (·.1)∧C'.Perm (x::C)∧C'.Pairwise lt):=by
 subst e1 e2
 simp only[ck,fk,List.length_nil]at hl
 refine uJ (fun s:List aX×Int=>∃C1 C2,C=C1++C2∧s.1=(pre++C1++[x]++C2++rest).map (·.1)∧s.2=(pre.length+C1.length:Nat)∧∀y∈C2,lt x y) (fun s=>s.2.toNat) (fun s hs=>?_) ⟨C,[],by simp,by simp,rfl,by simp⟩ (by simp[fY];omega)
 obtain⟨a,j⟩:=s
 obtain⟨C1,C2,rfl,rfl,h3,h4⟩:=hs
 simp only at h3
 subst h3
 unfold i5
 dsimp only
 simp only[ck]at hl
 have done:(∀y∈C1,lt y x)→Ok (some (Sum.inr ((pre++C1++[x]++C2++rest).map (·.1))):Option ((List aX×Int) ⊕ List aX)) (s8 (fun s':List aX×Int=>(∃C1' C2',C1++C2=C1'++C2'∧s'.1=(pre++C1'++[x]++C2'++rest).map (·.1)∧s'.2=(pre.length+C1'.length:Nat)∧∀y∈C2',lt x y)∧s'.2.toNat<((pre.length+C1.length:Nat):Int).toNat) (fun r=>∃C',r=(pre++C'++rest).map (·.1)∧C'.Perm (x::(C1++C2))∧C'.Pairwise lt)):=fun hlast =>
  d8 ⟨C1++x::C2,by simp,List.perm_middle,V0 hC hlast h4⟩
 by_cases g:((pre.length:Nat):Int)<((pre.length+C1.length:Nat):Int)
 ·obtain⟨C0,y,rfl⟩ : ∃C0 y,C1=C0++[y]:=by
   have:C1≠[]:=fun e=>by subst e;simp at g
   exact⟨C1.dropLast,C1.getLast this,(List.dropLast_concat_getLast this).symm⟩
  simp only[ck,fk,List.length_nil]at hl g
  have form:((pre++(C0++[y])++[x]++C2++rest).map (·.1))=((pre++C0).map (·.1))++y.1::x.1::((C2++rest).map (·.1)):=by simp
  have lp:((pre++C0).map (·.1)).length=pre.length+C0.length:=by simp
  obtain⟨s1,s2,s3,s4,s5⟩:=aiK ((pre++C0).map (·.1)) ((C2++rest).map (·.1)) x.1 y.1
  rw[lp]at s1 s2 s3 s4 s5
  rw[form]at done ⊢
  have j1:w64 (((pre.length+(C0++[y]).length:Nat):Int)-1)=((pre.length+C0.length:Nat):Int):=by rw[ck,fk,List.length_nil,cX (by omega)];omega
  have j0:((pre.length+(C0++[y]).length:Nat):Int)=((pre.length+C0.length+1:Nat):Int):=by rw[ck,fk,List.length_nil];omega
  have gg:(pre.length:Int)<((pre.length+(C0++[y]).length:Nat):Int):=by rw[j0];omega
  obtain⟨r,hr,hr2⟩:=XZ x.1 y.1
  rw[decide_eq_true gg,cond_true,j1]
  rw[j0,dY,s2,dY,s1]
  simp only[Option.bind_some]
  rw[hr,Option.bind_some,Option.bind_some,hr2]
  refine bY (fun hlt=>?_) (fun hge=>?_)
  ·simp only[Int.toNat_natCast,s3,dY,s5,Option.bind_some,s4]
   refine jq ⟨⟨C0,y::C2,by simp,by simp,rfl,fun z hz=>?_⟩,by simp only[Int.toNat_natCast];omega⟩
   rcases iw.1 hz with rfl | hz
   ·exact .inl hlt
   ·exact h4 z hz
  ·rw[j0]at done
   refine done (fun z hz=>?_)
   have hy:=hx y (by simp)
   have hyx:lt y x:=.inr ⟨hge,hy⟩
   rcases jk.1 hz with hz | hz
   ·have:=(List.pairwise_append.1 (List.pairwise_append.1 hC).1).2.2 z hz y (by simp)
    exact bjq this hyx
   ·simp only[ew]at hz;subst hz;exact hyx
 ·rw[decide_eq_false g]
  simp only[cond_false,Option.bind_some]
  have:C1=[]:=dk (by omega)
  exact done (fun z hz=>by subst this;simp at hz)
theorem aiJ(pre S post:List DS)(hS:S.Pairwise (fun x y=>x.2<y.2))(hl:(pre++S++post).length≤1000000)(lo hi:Int)(e1:lo=pre.length)(e2:hi=(pre.length+S.length:Nat)) :
  Ok (e9 ((pre++S++post).map (·.1)) lo hi) (fun r=>∃C,r=(pre++C++post).map (·.1)∧C.Perm S∧C.Pairwise lt):=by
 subst e1 e2
 simp only[ck]at hl
 unfold e9
 rw[cX (by omega)]
 by_cases h0:S=[]
 ·subst h0
  refine uJ (fun s:List aX×Int=>s=((pre++[]++post).map (fun x:DS=>x.1),(pre.length:Int)+1)) (fun _=>0) (fun s hs=>?_) rfl (by simp[fY])
  subst hs
  unfold i6
  dsimp only
  refine bY (fun h=>by simp at h;omega) (fun _=>d8 ⟨[],rfl,List.Perm.refl _,List.Pairwise.nil⟩)
 ·have hpos:0<S.length:=List.length_pos_iff.2 h0
  refine uJ (fun s:List aX×Int=>∃(k:Nat) (C:List DS),1≤k∧k≤S.length∧s.2=(pre.length+k:Nat)∧C.Perm (S.take k)∧C.Pairwise lt∧s.1=(pre++C++S.drop k++post).map (·.1)) (fun s=>((pre.length+S.length:Nat)-s.2).toNat) (fun s hs=>?_) ⟨1,S.take 1,by omega,by omega,by simp only;omega,List.Perm.refl _,?_,?_⟩ (by simp[fY];omega)
  ·obtain⟨a,i⟩:=s
   obtain⟨k,C,h1,h2,h3,h4,h5,rfl⟩:=hs
   simp only at h3
   subst h3
   unfold i6
   dsimp only
   refine bY (fun hi=>?_) (fun hi=>d8 ?_)
   ·obtain⟨x,hx⟩ : ∃x,S[k]? = some x:=⟨_,bk (by omega)⟩
    have hd:S.drop k=x::S.drop (k+1):=by
     rw[List.drop_eq_getElem_cons (by omega)]
     rw[bk (by omega)]at hx
     rw[Option.some.inj hx]
    have hcl:C.length=k:=by rw[h4.length_eq,pw];omega
    have hxlt:∀y∈C,y.2<x.2:=by
     intro y hy
     have hy2:=h4.mem_iff.1 hy
     obtain⟨q,hq,rfl⟩:=List.mem_take_iff_getElem.1 hy2
     have:=List.pairwise_iff_getElem.1 hS q k (by omega) (by omega) (by omega)
     rw[bk (by omega)]at hx
     rw[←Option.some.inj hx]
     exact this
    have form:pre++C++S.drop k++post=pre++C++[x]++(S.drop (k+1)++post):=by rw[hd];simp
    rw[form]
    refine ax (a8V pre C (S.drop (k+1)++post) x h5 hxlt (by simp only[ck,fk,List.length_nil,List.length_drop];omega) _ _ rfl (by rw[hcl])) (fun r hr=>?_)
    obtain⟨C',rfl,c2,c3⟩:=hr
    rw[cX (by omega)]
    refine jq ⟨⟨k+1,C',by omega,by omega,by simp only;omega,?_,c3,by simp⟩,by simp only;omega⟩
    refine c2.trans ?_
    rw[List.take_add_one,hx]
    simp only[Option.toList_some]
    exact((h4.cons x).trans (List.perm_append_singleton x _).symm)
   ·have hk:k=S.length:=by omega
    subst hk
    rw[List.take_length]at h4
    exact⟨C,by simp,h4,h5⟩
  ·have:(S.take 1).length≤1:=by rw[pw];omega
   cases hS1:S.take 1 with
   | nil=>exact List.Pairwise.nil
   | cons z l =>
    rw[hS1]at this
    have:l=[]:=dk (by simpa using this)
    subst this;exact List.pairwise_singleton _ _
  ·simp only
   rw[qk pre (S.take 1),List.take_append_drop]
theorem bgJ{n:Int}(h:0≤n∧n<18446744073709551616):IntKind.wrap .u64 n=n:=by
 have e:(2:Int) ^ (64:Nat)=18446744073709551616:=by decide
 simp only[IntKind.wrap,IntKind.bits,IntKind.signed,e,Bool.false_and,ik,gw]
 omega
theorem anx(i j:Nat)(hi:i≤1000000)(hj:j≤1000000):w64 (shR .u64 (IntKind.wrap .u64 (w64 ((i:Int)+(j:Int)))) 1)=(((i+j) / 2:Nat):Int):=by
 have e:(2:Int) ^ min (1:Int).toNat (IntKind.u64).bits=2:=by decide
 unfold shR
 rw[cX (n:=(i:Int)+(j:Int)) (by omega),bgJ (by omega),e,Int.fdiv_eq_ediv_of_nonneg _ (by omega),cX (by omega)]
 omega
theorem ayz{step:Int×Int→Option ((Int×Int) ⊕ Int)}(P:Nat→Bool)(lo hi:Nat)(hlh:lo≤hi)(hhi:hi≤1000000)(mono:∀i j,lo≤i→i≤j→j<hi→P j=true→P i=true)
  (h:∀(i j:Nat),lo≤i→i<j→j≤hi→step ((i:Int),(j:Int))=some (if P ((i+j) / 2)=true then .inl ((((i+j) / 2+1:Nat):Int),(j:Int))else .inl ((i:Int),(((i+j) / 2:Nat):Int)))) (h2:∀i:Nat,step ((i:Int),(i:Int))=some (.inr (i:Int))) :
  ∃e:Nat,loop step ((lo:Int),(hi:Int))=some (e:Int)∧lo≤e∧e≤hi∧(∀k,lo≤k→k<e→P k=true)∧(∀k,e≤k→k<hi→P k=false):=by
 have:Ok (loop step ((lo:Int),(hi:Int))) (fun r=>∃e:Nat,r=(e:Int)∧lo≤e∧e≤hi∧(∀k,lo≤k→k<e→P k=true)∧(∀k,e≤k→k<hi→P k=false)):=by
  refine uJ (fun s:Int×Int=>∃i j:Nat,s=((i:Int),(j:Int))∧lo≤i∧i≤j∧j≤hi∧(∀k,lo≤k→k<i→P k=true)∧(∀k,j≤k→k<hi→P k=false)) (fun s=>(s.2-s.1).toNat) (fun s hs=>?_) ⟨lo,hi,rfl,by omega,by omega,by omega,fun k h1 h2=>by omega,fun k h1 h2=>by omega⟩ (by simp[fY];omega)
  obtain⟨i,j,rfl,h3,h4,h5,h6,h7⟩:=hs
  by_cases g:i<j
  ·rw[h i j h3 g h5]
   by_cases hp:P ((i+j) / 2)=true
   ·rw[if_pos hp]
    refine jq ⟨⟨(i+j) / 2+1,j,rfl,by omega,by omega,by omega,fun k h8 h9=>?_,h7⟩,by simp only;omega⟩
    exact mono k ((i+j) / 2) h8 (by omega) (by omega) hp
   ·rw[if_neg hp]
    refine jq ⟨⟨i,(i+j) / 2,rfl,by omega,by omega,by omega,h6,fun k h8 h9=>?_⟩,by simp only;omega⟩
    cases hk:P k with
    | false=>rfl
    | true=>exact absurd (mono ((i+j) / 2) k (by omega) h8 h9 hk) hp
  ·have:i=j:=by omega
   subst this
   rw[h2 i]
   exact d8 ⟨i,rfl,h3,h5,h6,h7⟩
 obtain⟨r,h1,e,rfl,h3⟩:=this
 exact⟨e,h1,h3⟩
theorem aWZ{α:Type}(p s:List α)(x y:α):(p++x::y::s)[p.length]? = some x∧(p++x::y::s)[p.length+1]? = some y∧((p++x::y::s).set p.length y)=p++y::y::s∧((p++y::y::s).set (p.length+1) x)=p++y::x::s∧(p++y::y::s)[p.length+1]? = some y:=by
 obtain⟨a1,a2,a3,a4⟩:=arJ p [] s x y y x
 obtain⟨b1,b2,b3,b4⟩:=arJ p [] s y y y x
 exact⟨a1,a2,a3,b4,b2⟩
theorem a2Y(p B s:List aX)(x:aX)(hl:(p++x::(B++s)).length≤1000000)(e k:Int)(h1:e=(p.length+1+B.length:Nat))(h2:k=p.length) :
  loop (iz e) (p++x::(B++s),k)=some (p++(B++x::s)):=by
 subst h1 h2
 simp only[ck,fk]at hl
 have:Ok (loop (iz ((p.length+1+B.length:Nat):Int)) (p++x::(B++s),(p.length:Int))) (fun r=>r=p++(B++x::s)):=by
  refine uJ (fun a:List aX×Int=>∃Bd Br,B=Bd++Br∧a.1=(p++Bd)++x::(Br++s)∧a.2=((p++Bd).length:Nat)) (fun a=>((p.length+B.length:Nat)-a.2).toNat) (fun a ha=>?_) ⟨[],B,rfl,by simp,by simp⟩ (by simp[fY];omega)
  obtain⟨a,k⟩:=a
  obtain⟨Bd,Br,rfl,rfl,h3⟩:=ha
  simp only at h3
  subst h3
  simp only[ck]at hl ⊢
  unfold iz
  dsimp only
  rw[show w64 (((p.length+1+(Bd.length+Br.length):Nat):Int)-1)=((p.length+Bd.length+Br.length:Nat):Int)from by rw[cX (by omega)];omega]
  refine bY (fun hi=>?_) (fun hi=>d8 ?_)
  ·cases Br with
   | nil=>simp at hi
   | cons y Br =>
    obtain⟨a1,a2,a3,a4,a5⟩:=aWZ (p++Bd) (Br++s) x y
    simp only[fk]at hl hi ⊢
    rw[ck]at a1 a2 a3 a4 a5
    have k1:w64 (((p.length+Bd.length:Nat):Int)+1)=((p.length+Bd.length+1:Nat):Int):=by rw[cX (by omega)];omega
    rw[k1]
    simp only[List.cons_append,dY,a1,a2,Option.bind_some,Int.toNat_natCast,a3,a5,a4]
    exact jq ⟨⟨Bd++[y],Br,by simp,by simp,by simp;omega⟩,by simp only;omega⟩
  ·have:Br=[]:=dk (by omega)
   subst this
   simp
 obtain⟨r,h1,h2⟩:=this
 rw[h1,h2]
theorem bcx(p A s:List aX)(y:aX)(hl:(p++(A++y::s)).length≤1000000)(e k:Int)(h1:e=p.length)(h2:k=(p.length+A.length:Nat)) :
  loop (gK e) (p++(A++y::s),k)=some (p++y::(A++s)):=by
 subst h1 h2
 simp only[ck,fk]at hl
 have:Ok (loop (gK (p.length:Int)) (p++(A++y::s),((p.length+A.length:Nat):Int))) (fun r=>r=p++y::(A++s)):=by
  refine uJ (fun a:List aX×Int=>∃Ar Ad,A=Ar++Ad∧a.1=(p++Ar)++y::(Ad++s)∧a.2=(p.length+Ar.length:Nat)) (fun a=>a.2.toNat) (fun a ha=>?_) ⟨A,[],by simp,by simp,rfl⟩ (by simp[fY];omega)
  obtain⟨a,k⟩:=a
  obtain⟨Ar,Ad,rfl,rfl,h3⟩:=ha
  simp only at h3
  subst h3
  simp only[ck]at hl ⊢
  unfold gK
  dsimp only
  refine bY (fun hi=>?_) (fun hi=>d8 ?_)
  ·obtain⟨A0,z,rfl⟩ : ∃A0 z,Ar=A0++[z]:=by
    have:Ar≠[]:=fun e=>by subst e;simp at hi
    exact⟨Ar.dropLast,Ar.getLast this,(List.dropLast_concat_getLast this).symm⟩
   have form:(p++(A0++[z]))++y::(Ad++s)=(p++A0)++z::y::(Ad++s):=by simp
   obtain⟨a1,a2,a3,a4,a5⟩:=aiK (p++A0) (Ad++s) y z
   simp only[ck,fk,List.length_nil]at hl hi a1 a2 a3 a4 a5 ⊢
   have k0:((p.length+(A0.length+(0+1)):Nat):Int)=((p.length+A0.length+1:Nat):Int):=by omega
   have k1:w64 (((p.length+A0.length+1:Nat):Int)-1)=((p.length+A0.length:Nat):Int):=by rw[cX (by omega)];omega
   rw[form,k0,k1]
   simp only[dY,a1,a2,Option.bind_some,Int.toNat_natCast,a3,a5,a4]
   exact jq ⟨⟨A0,z::Ad,by simp,by simp,rfl⟩,by simp only;omega⟩
  ·have:Ar=[]:=dk (by omega)
   subst this
   simp
 obtain⟨r,h1,h2⟩:=this
 rw[h1,h2]
theorem SJ{L:List DS}(h:L.Pairwise lt){i j:Nat}{x y:DS}(hi:L[i]? = some x)(hj:L[j]? = some y)(hij:i≤j) : ¬kl y.1 x.1:=by
 have h1:=dZ hi
 have h2:=dZ hj
 rw[bk h1]at hi
 rw[bk h2]at hj
 have e1:=Option.some.inj hi
 have e2:=Option.some.inj hj
 by_cases e:i=j
 ·subst e;rw[e1]at e2;rw[e2];exact beX
 ·have:=List.pairwise_iff_getElem.1 h i j h1 h2 (by omega)
  rw[e1,e2]at this
  exact bjQ this
theorem bdq(pre A B post:List DS)(c:Nat)(h1:pre.length≤c)(h2:c<pre.length+A.length):∃x,A[c-pre.length]? = some x∧((pre++A++B++post).map (·.1))[c]? = some x.1:=by
 refine⟨A[c-pre.length]'(by omega),bk (by omega),?_⟩
 rw[List.getElem?_map,qk,qk,List.getElem?_append_right h1,List.getElem?_append_left (by omega),bk (by omega)]
 rfl
theorem bez(pre A B post:List DS)(c:Nat)(h1:pre.length+A.length≤c)(h2:c<pre.length+A.length+B.length):∃x,B[c-(pre.length+A.length)]? = some x∧((pre++A++B++post).map (·.1))[c]? = some x.1:=by
 refine⟨B[c-(pre.length+A.length)]'(by omega),bk (by omega),?_⟩
 rw[List.getElem?_map,qk,List.getElem?_append_right (by rw[ck];omega),List.getElem?_append_left (by rw[ck];omega),bk (by rw[ck];omega)]
 simp[ck]
set_option maxHeartbeats 1000000 in
theorem NK:∀(n:Nat) (pre A B post:List DS),A≠[]→B≠[]→A.length+B.length≤n→A.Pairwise lt→B.Pairwise lt→(∀x∈A,∀y∈B,x.2<y.2)→(pre++A++B++post).length≤1000000 →
  Ok (fV n ((pre++A++B++post).map (·.1)) (pre.length:Int) ((pre.length+A.length:Nat):Int) ((pre.length+A.length+B.length:Nat):Int)) (fun r=>∃C,r=(pre++C++post).map (·.1)∧C.Perm (A++B)∧C.Pairwise lt)
 | 0,pre,A,B,post,hA,hB,hn,_,_,_,_=>by
  have:=List.length_pos_iff.2 hA
  omega
 | n+1,pre,A,B,post,hA,hB,hn,sA,sB,hAB,hl=>by
  have la:=List.length_pos_iff.2 hA
  have lb:=List.length_pos_iff.2 hB
  simp only[ck]at hl
  unfold fV m5
  rw[cX (n:=((pre.length+A.length:Nat):Int)-(pre.length:Int)) (by omega),cX (n:=((pre.length+A.length+B.length:Nat):Int)-((pre.length+A.length:Nat):Int)) (by omega)]
  refine bY (fun h1=>?_) (fun h1=>?_)
  ·
   obtain⟨x,rfl⟩ : ∃x,A=[x]:=by
    match A,(by omega:A.length=1)with
    | [x],_=>exact⟨x,rfl⟩
   simp only[fk,List.length_nil]at hl hn ⊢
   obtain⟨e,he,e1,e2,e3,e4⟩ := ayz (step := gW ((pre ++ [x] ++ B ++ post).map (·.1)) (pre.length:Int)) (fun c => match B[c-(pre.length+1)]? with | some b => decide (kl b.1 x.1) | none => false) (pre.length+1) (pre.length+1+B.length) (by omega) (by omega)
    (fun i j hi hij hj hp=>by
     obtain⟨b,hb⟩ : ∃b,B[j-(pre.length+1)]? = some b:=⟨_,bk (by omega)⟩
     obtain⟨a,ha⟩ : ∃a,B[i-(pre.length+1)]? = some a:=⟨_,bk (by omega)⟩
     have:=SJ sB ha hb (by omega)
     simp only[hb,decide_eq_true_eq]at hp
     simp only[ha,decide_eq_true_eq]
     exact bcY this hp)
    (fun i j hi hij hj=>by
     unfold gW
     dsimp only
     rw[decide_eq_true (by omega:(i:Int)<(j:Int)),cond_true,anx i j (by omega) (by omega)]
     obtain⟨b,hb,hb2⟩:=bez pre [x] B post ((i+j) / 2) (by simp;omega) (by simp;omega)
     obtain⟨a,ha,ha2⟩:=bdq pre [x] B post pre.length (by omega) (by simp)
     simp at ha
     subst ha
     obtain⟨r,hr,hr2⟩:=XZ b.1 x.1
     simp only[fk,List.length_nil]at hb
     rw[dY,hb2,dY,ha2]
     simp only[Option.bind_some]
     rw[hr,Option.bind_some,hr2,show(pre.length+(0+1))=pre.length+1 by omega]at *
     rw[hb]
     rw[cX (n:=(((i+j) / 2:Nat):Int)+1) (by omega)]
     by_cases g:kl b.1 x.1
     ·simp[g]
     ·simp[g])
    (fun i=>by unfold gW;simp)
   rw[he,Option.bind_some]
   have hBs:B=B.take (e-(pre.length+1))++B.drop (e-(pre.length+1)):=(List.take_append_drop _ _).symm
   have t1:(B.take (e-(pre.length+1))).length=e-(pre.length+1):=by rw[pw];omega
   have form:((pre++[x]++B++post).map (·.1))=pre.map (·.1)++x.1::((B.take (e-(pre.length+1))).map (·.1)++((B.drop (e-(pre.length+1))).map (·.1)++post.map (·.1))):=by
    conv=>lhs;rw[hBs]
    simp only[List.map_append,List.map_cons,List.map_nil,qk,List.cons_append,List.nil_append]
   rw[form,a2Y (pre.map (·.1)) _ _ _ (by
    simp only[ck,fk,List.length_map,pw,List.length_drop];omega) _ _ (by simp only[List.length_map,t1];omega) (by simp),Option.bind_some]
   refine cq ⟨B.take (e-(pre.length+1))++x::B.drop (e-(pre.length+1)),by simp only[List.map_append,List.map_cons,List.map_nil,qk,List.cons_append,List.nil_append],?_,V0 (by rw[←hBs];exact sB) (fun b hb=>?_) (fun b hb=>?_)⟩
   ·refine List.perm_middle.trans ?_
    rw[←hBs];rfl
   ·obtain⟨q,hq,rfl⟩:=List.mem_take_iff_getElem.1 hb
    have hp:=e3 (q+(pre.length+1)) (by omega) (by omega)
    rw[show q+(pre.length+1)-(pre.length+1)=q by omega,bk (by omega)]at hp
    exact .inl (of_decide_eq_true hp)
   ·obtain⟨q,hq,rfl⟩:=List.mem_drop_iff_getElem.1 hb
    have hp:=e4 (e+q) (by omega) (by omega)
    rw[show e+q-(pre.length+1)=e-(pre.length+1)+q by omega,bk (by omega)]at hp
    have h3:=of_decide_eq_false hp
    have h4:=hAB x (by simp) B[e-(pre.length+1)+q] (List.getElem_mem _)
    exact .inr ⟨h3,h4⟩
  refine bY (fun h2=>?_) (fun h2=>?_)
  ·
   obtain⟨y,rfl⟩ : ∃y,B=[y]:=by
    match B,(by omega:B.length=1)with
    | [y],_=>exact⟨y,rfl⟩
   simp only[fk,List.length_nil]at hl hn ⊢
   obtain⟨e,he,e1,e2,e3,e4⟩ := ayz (step := gV ((pre ++ A ++ [y] ++ post).map (·.1)) ((pre.length+A.length:Nat):Int)) (fun c => match A[c-pre.length]? with | some a => !decide (kl y.1 a.1) | none => false) pre.length (pre.length+A.length) (by omega) (by omega)
    (fun i j hi hij hj hp=>by
     obtain⟨b,hb⟩ : ∃b,A[j-pre.length]? = some b:=⟨_,bk (by omega)⟩
     obtain⟨a,ha⟩ : ∃a,A[i-pre.length]? = some a:=⟨_,bk (by omega)⟩
     have:=SJ sA ha hb (by omega)
     simp only[hb,mw,decide_eq_false_iff_not]at hp
     simp only[ha,mw,decide_eq_false_iff_not]
     exact aEQ hp this)
    (fun i j hi hij hj=>by
     unfold gV
     dsimp only
     rw[decide_eq_true (by omega:(i:Int)<(j:Int)),cond_true,anx i j (by omega) (by omega)]
     obtain⟨a,ha,ha2⟩:=bdq pre A [y] post ((i+j) / 2) (by omega) (by omega)
     obtain⟨b,hb,hb2⟩:=bez pre A [y] post (pre.length+A.length) (by omega) (by simp)
     simp at hb
     subst hb
     obtain⟨r,hr,hr2⟩:=XZ y.1 a.1
     rw[dY,hb2,dY,ha2]
     simp only[Option.bind_some]
     rw[hr,Option.bind_some,hr2,ha]
     rw[cX (n:=(((i+j) / 2:Nat):Int)+1) (by omega)]
     by_cases g:kl y.1 a.1
     ·simp[g]
     ·simp[g])
    (fun i=>by unfold gV;simp)
   rw[he,Option.bind_some]
   have hAs:A=A.take (e-pre.length)++A.drop (e-pre.length):=(List.take_append_drop _ _).symm
   have t1:(A.take (e-pre.length)).length=e-pre.length:=by rw[pw];omega
   have t2:(A.drop (e-pre.length)).length=A.length-(e-pre.length):=by rw[List.length_drop]
   have form:((pre++A++[y]++post).map (·.1))=(pre++A.take (e-pre.length)).map (·.1)++((A.drop (e-pre.length)).map (·.1)++y.1::post.map (·.1)):=by
    conv=>lhs;rw[hAs]
    simp only[List.map_append,List.map_cons,List.map_nil,qk,List.cons_append,List.nil_append]
   rw[form,bcx ((pre++A.take (e-pre.length)).map (·.1)) _ _ _ (by
    simp only[ck,fk,List.length_map,pw,List.length_drop];omega) _ _ (by simp only[ck,List.length_map,t1];omega) (by simp only[ck,List.length_map,t1,t2];omega),Option.bind_some]
   refine cq ⟨A.take (e-pre.length)++y::A.drop (e-pre.length),by simp only[List.map_append,List.map_cons,List.map_nil,qk,List.cons_append,List.nil_append],?_,V0 (by rw[←hAs];exact sA) (fun a ha=>?_) (fun a ha=>?_)⟩
   ·refine List.perm_middle.trans ?_
    rw[←hAs]
    exact(List.perm_append_singleton _ _).symm
   ·obtain⟨q,hq,rfl⟩:=List.mem_take_iff_getElem.1 ha
    have hp:=e3 (pre.length+q) (by omega) (by omega)
    rw[show pre.length+q-pre.length=q by omega,bk (by omega)]at hp
    simp only[mw,decide_eq_false_iff_not]at hp
    have h4:=hAB A[q] (List.getElem_mem _) y (by simp)
    exact .inr ⟨hp,h4⟩
   ·obtain⟨q,hq,rfl⟩:=List.mem_drop_iff_getElem.1 ha
    have hp:=e4 (e+q) (by omega) (by omega)
    rw[show e+q-pre.length=e-pre.length+q by omega,bk (by omega)]at hp
    simp only[Bool.not_eq_false',decide_eq_true_eq]at hp
    exact .inl hp
  have la2:2≤A.length:=by omega
  have lb2:2≤B.length:=by omega
  rw[anx pre.length (pre.length+A.length+B.length) (by omega) (by omega)]
  generalize hmid:(pre.length+(pre.length+A.length+B.length)) / 2=mid at *
  generalize hN:pre.length+A.length+B.length=hi at *
  have e0:w64 ((mid:Int)+((pre.length+A.length:Nat):Int))=((mid+(pre.length+A.length):Nat):Int):=by rw[cX (by omega)];omega
  rw[e0]
  have hst:∃s0 r0:Nat,((bif (decide ((mid:Int)<((pre.length+A.length:Nat):Int)))then some ((w64 (((mid+(pre.length+A.length):Nat):Int)-(hi:Int))),(mid:Int))else some ((pre.length:Int),((pre.length+A.length:Nat):Int))):Option (Int×Int))=some ((s0:Int),(r0:Int))∧pre.length≤s0∧s0≤r0∧r0≤pre.length+A.length∧r0≤mid∧mid+(pre.length+A.length)-s0≤hi∧(s0=pre.length∨mid+(pre.length+A.length)-s0=hi)∧(r0=pre.length+A.length∨r0=mid):=by
   by_cases g:mid<pre.length+A.length
   ·refine⟨mid+(pre.length+A.length)-hi,mid,?_,by omega,by omega,by omega,by omega,by omega,by omega,by omega⟩
    rw[decide_eq_true (by omega:(mid:Int)<((pre.length+A.length:Nat):Int)),cond_true,cX (by omega)]
    congr 2
    omega
   ·refine⟨pre.length,pre.length+A.length,?_,by omega,by omega,by omega,by omega,by omega,by omega,by omega⟩
    rw[decide_eq_false (by omega : ¬(mid:Int)<((pre.length+A.length:Nat):Int)),cond_false]
  obtain⟨s0,r0,hsr,g1,g2,g3,g4,g5,g6,g7⟩:=hst
  rw[hsr,Option.bind_some]
  dsimp only
  obtain⟨s,hs,s1,s2,s3,s4⟩ := ayz (step := ij ((pre ++ A ++ B ++ post).map (·.1)) (pre.length:Int) ((pre.length+A.length:Nat):Int) (hi:Int)) (fun c => match A[c-pre.length]?,B[mid-1-c]? with | some a,some b => !decide (kl b.1 a.1) | _,_ => false) s0 r0 (by omega) (by omega)
   (fun i j hi1 hij hj hp=>by
    obtain⟨a,ha⟩ : ∃a,A[i-pre.length]? = some a:=⟨_,bk (by omega)⟩
    obtain⟨a',ha'⟩ : ∃a,A[j-pre.length]? = some a:=⟨_,bk (by omega)⟩
    obtain⟨b,hb⟩ : ∃b,B[mid-1-i]? = some b:=⟨_,bk (by omega)⟩
    obtain⟨b',hb'⟩ : ∃b,B[mid-1-j]? = some b:=⟨_,bk (by omega)⟩
    have k1:=SJ sA ha ha' (by omega)
    have k2:=SJ sB hb' hb (by omega)
    simp only[ha',hb',mw,decide_eq_false_iff_not]at hp
    simp only[ha,hb,mw,decide_eq_false_iff_not]
    exact aEQ k2 (aEQ hp k1))
   (fun i j hi1 hij hj=>by
    unfold ij
    dsimp only
    have hm2:=anx pre.length hi (by omega) (by omega)
    rw[hmid]at hm2
    rw[decide_eq_true (by omega:(i:Int)<(j:Int)),cond_true,anx i j (by omega) (by omega),hm2,e0]
    have c1:w64 (w64 (((mid+(pre.length+A.length):Nat):Int)-1)-(((i+j) / 2:Nat):Int))=((pre.length+A.length+(mid-1-(i+j) / 2):Nat):Int):=by
     rw[cX (n:=((mid+(pre.length+A.length):Nat):Int)-1) (by omega),cX (by omega)];omega
    obtain⟨a,ha,ha2⟩:=bdq pre A B post ((i+j) / 2) (by omega) (by omega)
    obtain⟨b,hb,hb2⟩:=bez pre A B post (pre.length+A.length+(mid-1-(i+j) / 2)) (by omega) (by omega)
    rw[show pre.length+A.length+(mid-1-(i+j) / 2)-(pre.length+A.length)=mid-1-(i+j) / 2 by omega]at hb
    obtain⟨r,hr,hr2⟩:=XZ b.1 a.1
    rw[c1,dY,hb2,dY,ha2]
    simp only[Option.bind_some]
    rw[hr,Option.bind_some,hr2,ha,hb]
    rw[cX (n:=(((i+j) / 2:Nat):Int)+1) (by omega)]
    by_cases g:kl b.1 a.1
    ·simp[g]
    ·simp[g])
   (fun i=>by unfold ij;simp)
  rw[hs,Option.bind_some]
  have e5:w64 (((mid+(pre.length+A.length):Nat):Int)-(s:Int))=((mid+(pre.length+A.length)-s:Nat):Int):=by rw[cX (by omega)];omega
  rw[e5]
  have hAs:A=A.take (s-pre.length)++A.drop (s-pre.length):=(List.take_append_drop _ _).symm
  have hBs:B=B.take (mid-s)++B.drop (mid-s):=(List.take_append_drop _ _).symm
  have t1:(A.take (s-pre.length)).length=s-pre.length:=by rw[pw];omega
  have t2:(A.drop (s-pre.length)).length=pre.length+A.length-s:=by rw[List.length_drop];omega
  have t3:(B.take (mid-s)).length=mid-s:=by rw[pw];omega
  have t4:(B.drop (mid-s)).length=B.length-(mid-s):=by rw[List.length_drop]
  have c12:∀x∈A.take (s-pre.length),∀y∈B.drop (mid-s),lt x y:=by
   intro x hx y hy
   have hix:=hAB x (List.mem_of_mem_take hx) y (List.mem_of_mem_drop hy)
   obtain⟨q,hq,rfl⟩:=List.mem_take_iff_getElem.1 hx
   obtain⟨q2,hq2,rfl⟩:=List.mem_drop_iff_getElem.1 hy
   have hp:=s3 (s-1) (by omega) (by omega)
   obtain⟨a,ha⟩ : ∃a,A[s-1-pre.length]? = some a:=⟨_,bk (by omega)⟩
   obtain⟨b,hb⟩ : ∃b,B[mid-1-(s-1)]? = some b:=⟨_,bk (by omega)⟩
   simp only[ha,hb,mw,decide_eq_false_iff_not]at hp
   have k1:=SJ sA (bk (by omega):A[q]? = some A[q]) ha (by omega)
   have k2:=SJ sB hb (bk (by omega):B[mid-s+q2]? = some B[mid-s+q2]) (by omega)
   exact .inr ⟨aEQ k2 (aEQ hp k1),hix⟩
  have c21:∀x∈B.take (mid-s),∀y∈A.drop (s-pre.length),lt x y:=by
   intro x hx y hy
   obtain⟨q,hq,rfl⟩:=List.mem_take_iff_getElem.1 hx
   obtain⟨q2,hq2,rfl⟩:=List.mem_drop_iff_getElem.1 hy
   have hp:=s4 s (by omega) (by omega)
   obtain⟨a,ha⟩ : ∃a,A[s-pre.length]? = some a:=⟨_,bk (by omega)⟩
   obtain⟨b,hb⟩ : ∃b,B[mid-1-s]? = some b:=⟨_,bk (by omega)⟩
   simp only[ha,hb,Bool.not_eq_false',decide_eq_true_eq]at hp
   have k1:=SJ sA ha (bk (by omega):A[s-pre.length+q2]? = some A[s-pre.length+q2]) (by omega)
   have k2:=SJ sB (bk (by omega):B[q]? = some B[q]) hb (by omega)
   exact .inl (biz (bcY k2 hp) k1)
  have ixA:∀x∈A.take (s-pre.length),∀y∈B.take (mid-s),x.2<y.2:=fun x hx y hy=>hAB x (List.mem_of_mem_take hx) y (List.mem_of_mem_take hy)
  have ixB:∀x∈A.drop (s-pre.length),∀y∈B.drop (mid-s),x.2<y.2:=fun x hx y hy=>hAB x (List.mem_of_mem_drop hx) y (List.mem_of_mem_drop hy)
  have sAs:=sA
  have sBs:=sB
  rw[hAs,List.pairwise_append]at sAs
  rw[hBs,List.pairwise_append]at sBs
  have permAB:(A.take (s-pre.length)++B.take (mid-s)++(A.drop (s-pre.length)++B.drop (mid-s))).Perm (A++B):=by
   conv=>rhs;rw[hAs,hBs]
   rw[qk,qk]
   refine List.Perm.append_left _ ?_
   rw[←qk,←qk]
   exact List.Perm.append_right _ List.perm_append_comm
  have hAl:A.length=A.length:=rfl
  refine ax (Q:=fun v=>v=decide (s<pre.length+A.length∧pre.length+A.length<mid+(pre.length+A.length)-s)) ?_ (fun v hv=>?_)
  ·by_cases q1:s<pre.length+A.length
   ·rw[decide_eq_true (by omega:(s:Int)<((pre.length+A.length:Nat):Int)),cond_true]
    refine cq ?_
    refine decide_eq_decide.2 ?_
    omega
   ·rw[decide_eq_false (by omega : ¬(s:Int)<((pre.length+A.length:Nat):Int)),cond_false]
    exact cq (decide_eq_false (by omega)).symm
  refine ax (Q:=fun r=>r=(pre++A.take (s-pre.length)++B.take (mid-s)++(A.drop (s-pre.length)++B.drop (mid-s)++post)).map (·.1)) ?_ (fun r hr=>?_)
  ·rw[hv]
   have form:((pre++A++B++post).map (·.1))=(pre++A.take (s-pre.length)).map (·.1)++(A.drop (s-pre.length)).map (·.1)++(B.take (mid-s)).map (·.1)++(B.drop (mid-s)++post).map (·.1):=by
    conv=>lhs;rw[hAs,hBs]
    simp only[List.map_append,List.map_cons,List.map_nil,qk,List.cons_append,List.nil_append]
   refine bY (fun hc=>?_) (fun hc=>cq ?_)
   ·rw[form,aSZ ((pre++A.take (s-pre.length)).map (·.1)) ((A.drop (s-pre.length)).map (·.1)) ((B.take (mid-s)).map (·.1)) ((B.drop (mid-s)++post).map (·.1)) (by
      intro h;have:=congrArg List.length h;rw[List.length_map,t2]at this;simp at this;omega) (by
      intro h;have:=congrArg List.length h;rw[List.length_map,t3]at this;simp at this;omega) (by
      simp only[ck,List.length_map,t1,t2,t3,t4];omega) _ _ _ (by
      simp only[ck,List.length_map,t1];omega) (by
      simp only[ck,List.length_map,t1,t2];omega) (by
      simp only[ck,List.length_map,t1,t2,t3];omega),Option.bind_some]
    exact cq (by simp only[List.map_append,List.map_cons,List.map_nil,qk,List.cons_append,List.nil_append])
   ·rw[form]
    by_cases q1:s<pre.length+A.length
    ·have:B.take (mid-s)=[]:=dk (by rw[t3];omega)
     rw[this];simp only[List.map_append,List.map_cons,List.map_nil,qk,List.cons_append,List.nil_append]
    ·have:A.drop (s-pre.length)=[]:=dk (by rw[t2];omega)
     rw[this];simp only[List.map_append,List.map_cons,List.map_nil,qk,List.cons_append,List.nil_append]
  refine ax (Q:=fun v=>v=decide (pre.length<s∧s<mid)) ?_ (fun v2 hv2=>?_)
  ·by_cases q1:pre.length<s
   ·rw[decide_eq_true (by omega:(pre.length:Int)<(s:Int)),cond_true]
    refine cq ?_
    refine decide_eq_decide.2 ?_
    omega
   ·rw[decide_eq_false (by omega : ¬(pre.length:Int)<(s:Int)),cond_false]
    exact cq (decide_eq_false (by omega)).symm
  refine ax (Q:=fun r=>∃C1,r=(pre++C1++(A.drop (s-pre.length)++B.drop (mid-s)++post)).map (·.1)∧C1.Perm (A.take (s-pre.length)++B.take (mid-s))∧C1.Pairwise lt) ?_ (fun r2 hr2=>?_)
  ·rw[hv2,hr]
   refine bY (fun hc=>?_) (fun hc=>cq ?_)
   ·have ih:=NK n pre (A.take (s-pre.length)) (B.take (mid-s)) (A.drop (s-pre.length)++B.drop (mid-s)++post) (by
      intro h;rw[h]at t1;simp at t1;omega) (by
      intro h;rw[h]at t3;simp at t3;omega) (by omega) sAs.1 sBs.1 ixA (by simp only[ck,t1,t2,t3,t4];omega)
    rw[show((pre.length+(A.take (s-pre.length)).length:Nat):Int)=(s:Int)by rw[t1];omega,show((pre.length+(A.take (s-pre.length)).length+(B.take (mid-s)).length:Nat):Int)=(mid:Int)by rw[t1,t3];omega]at ih
    exact ax ih (fun r h=>cq h)
   ·refine⟨A.take (s-pre.length)++B.take (mid-s),by simp,List.Perm.refl _,?_⟩
    by_cases q1:pre.length<s
    ·have:B.take (mid-s)=[]:=dk (by rw[t3];omega)
     rw[this,List.append_nil];exact sAs.1
    ·have:A.take (s-pre.length)=[]:=dk (by rw[t1];omega)
     rw[this,List.nil_append];exact sBs.1
  obtain⟨C1,rfl,p1,q1⟩:=hr2
  have lC1:C1.length=mid-pre.length:=by rw[p1.length_eq,ck,t1,t3];omega
  refine ax (Q:=fun v=>v=decide (mid<mid+(pre.length+A.length)-s∧mid+(pre.length+A.length)-s<hi)) ?_ (fun v3 hv3=>?_)
  ·by_cases q2:mid<mid+(pre.length+A.length)-s
   ·rw[decide_eq_true (by omega:(mid:Int)<((mid+(pre.length+A.length)-s:Nat):Int)),cond_true]
    refine cq ?_
    refine decide_eq_decide.2 ?_
    omega
   ·rw[decide_eq_false (by omega : ¬(mid:Int)<((mid+(pre.length+A.length)-s:Nat):Int)),cond_false]
    exact cq (decide_eq_false (by omega)).symm
  have fin:∀C2:List DS,C2.Perm (A.drop (s-pre.length)++B.drop (mid-s))→C2.Pairwise lt→∃C,(pre++C1++C2++post).map (·.1)=(pre++C++post).map (·.1)∧C.Perm (A++B)∧C.Pairwise lt:=by
   intro C2 p2 q2
   refine⟨C1++C2,by simp,(p1.append p2).trans permAB,List.pairwise_append.2 ⟨q1,q2,fun x hx y hy=>?_⟩⟩
   rcases jk.1 (p1.mem_iff.1 hx)with hx | hx
   ·rcases jk.1 (p2.mem_iff.1 hy)with hy | hy
    ·exact sAs.2.2 x hx y hy
    ·exact c12 x hx y hy
   ·rcases jk.1 (p2.mem_iff.1 hy)with hy | hy
    ·exact c21 x hx y hy
    ·exact sBs.2.2 x hx y hy
  have form2:pre++C1++(A.drop (s-pre.length)++B.drop (mid-s)++post)=(pre++C1)++A.drop (s-pre.length)++B.drop (mid-s)++post:=by simp
  rw[form2,hv3]
  refine bY (fun hc=>?_) (fun hc=>cq ?_)
  ·have ih:=NK n (pre++C1) (A.drop (s-pre.length)) (B.drop (mid-s)) post (by
     intro h;rw[h]at t2;simp at t2;omega) (by
     intro h;rw[h]at t4;simp at t4;omega) (by omega) sAs.2.1 sBs.2.1 ixB (by simp only[ck,t2,t4];omega)
   rw[show(((pre++C1).length:Nat):Int)=(mid:Int)by rw[ck];omega,show(((pre++C1).length+(A.drop (s-pre.length)).length:Nat):Int)=((mid+(pre.length+A.length)-s:Nat):Int)by rw[ck,t2];omega,show(((pre++C1).length+(A.drop (s-pre.length)).length+(B.drop (mid-s)).length:Nat):Int)=(hi:Int)by rw[ck,t2,t4];omega]at ih
   refine ax ih (fun r h=>cq ?_)
   obtain⟨C2,rfl,p2,q2⟩:=h
   exact fin C2 p2 q2
  ·have:(A.drop (s-pre.length)++B.drop (mid-s)).Pairwise lt:=by
    by_cases q2:mid<mid+(pre.length+A.length)-s
    ·have:B.drop (mid-s)=[]:=dk (by rw[t4];omega)
     rw[this,List.append_nil];exact sAs.2.1
    ·have:A.drop (s-pre.length)=[]:=dk (by rw[t2];omega)
     rw[this,List.nil_append];exact sBs.2.1
   obtain⟨C,h1,h2,h3⟩:=fin _ (List.Perm.refl _) this
   exact⟨C,by rw[←h1];simp,h2,h3⟩
def Bk(bs:Nat):List (List DS)→Prop
 | []=>True
 | [X]=>0<X.length∧X.length≤bs
 | X::Y::r=>X.length=bs∧Bk bs (Y::r)
theorem aaj{bs:Nat}(hb:0<bs):∀(M R:List (List DS)),(∀X∈M,X.length=bs)→Bk bs R→Bk bs (M++R)
 | [],R,_,h=>h
 | [X],[],hm,_=>by have:=hm X (by simp);simp[Bk];omega
 | [X],Y::r,hm,h=>⟨hm X (by simp),h⟩
 | X::Z::M,R,hm,h=>⟨hm X (by simp),aaj hb (Z::M) R (fun Y hY=>hm Y (List.mem_cons_of_mem _ hY)) h⟩
structure Bs(S:List DS)(L:List (List DS)):Prop where
 srt:∀X∈L,X.Pairwise lt
 crs:L.Pairwise (fun X Y=>∀x∈X,∀y∈Y,x.2<y.2)
 prm:L.flatten.Perm S
theorem Bs.merge{S:List DS}{M R:List (List DS)}{X Y C:List DS}(h:Bs S (M++X::Y::R))(hp:C.Perm (X++Y))(hs:C.Pairwise lt):Bs S (M++C::R):=by
 have hc:=List.pairwise_append.1 h.crs
 have hc2:=List.pairwise_cons.1 hc.2.1
 have hc3:=List.pairwise_cons.1 hc2.2
 refine⟨fun Z hZ=>?_,?_,?_⟩
 ·rcases jk.1 hZ with hZ | hZ
  ·exact h.srt Z (by simp[hZ])
  ·rcases iw.1 hZ with rfl | hZ
   ·exact hs
   ·exact h.srt Z (by simp[hZ])
 ·refine List.pairwise_append.2 ⟨hc.1,List.pairwise_cons.2 ⟨fun Z hZ x hx y hy=>?_,hc3.2⟩,fun Z hZ W hW x hx y hy=>?_⟩
  ·rcases jk.1 (hp.mem_iff.1 hx)with hx | hx
   ·exact hc2.1 Z (by simp[hZ]) x hx y hy
   ·exact hc3.1 Z hZ x hx y hy
  ·rcases iw.1 hW with rfl | hW
   ·rcases jk.1 (hp.mem_iff.1 hy)with hy | hy
    ·exact hc.2.2 Z hZ X (by simp) x hx y hy
    ·exact hc.2.2 Z hZ Y (by simp) x hx y hy
   ·exact hc.2.2 Z hZ W (by simp[hW]) x hx y hy
 ·refine List.Perm.trans ?_ h.prm
  simp only[List.flatten_append,nw]
  refine List.Perm.append_left _ ?_
  rw[←qk]
  exact hp.append_right _
theorem a2j(S:List DS)(hn:S.length≤1000000)(bs:Nat)(hb:0<bs)(hb2:bs<S.length)(L:List (List DS))(hk:Bk bs L)(h:Bs S L) :
  Ok (loop (i4 (S.length:Int) (bs:Int)) (L.flatten.map (·.1),0,(w64 (2*(bs:Int))))) (fun r=>∃M R:List (List DS),r=((M.flatten++R.flatten).map (·.1),(M.flatten.length:Int))∧(∀X∈M,X.length=2*bs)∧Bk bs R∧R.flatten.length<2*bs∧Bs S (M++R)):=by
 rw[cX (n:=2*(bs:Int)) (by omega)]
 refine uJ (fun s:List aX×Int×Int=>∃M R:List (List DS),s.1=(M.flatten++R.flatten).map (·.1)∧s.2.1=(M.flatten.length:Nat)∧s.2.2=(M.flatten.length+2*bs:Nat)∧(∀X∈M,X.length=2*bs)∧Bk bs R∧Bs S (M++R)) (fun s=>((3*S.length+1:Nat)-s.2.2).toNat) (fun s hs=>?_) ⟨[],L,by simp,by simp,by simp,by simp,hk,h⟩ (by simp[fY];omega)
 obtain⟨a,i,j⟩:=s
 obtain⟨M,R,h1,h2,h3,h4,h5,h6⟩:=hs
 simp only at h1 h2 h3
 subst h1 h2 h3
 have hlen:M.flatten.length+R.flatten.length=S.length:=by
  have:=h6.prm.length_eq
  rw[List.flatten_append,ck]at this;exact this
 unfold i4
 dsimp only
 refine bY (fun hle=>?_) (fun hgt=>d8 ⟨M,R,rfl,h4,h5,by omega,h6⟩)
 obtain⟨X,Y,R',rfl,lX,lY,hR'⟩ : ∃X Y R',R=X::Y::R'∧X.length=bs∧Y.length=bs∧Bk bs R':=by
  match R,h5,hlen with
  | [],_,hlen=>simp only[nw,List.flatten_nil,ck,List.length_nil,Nat.add_zero,List.append_nil]at hlen;omega
  | [X],h5,hlen=>simp only[nw,List.flatten_nil,ck,List.length_nil,Nat.add_zero,List.append_nil]at hlen;simp only[Bk]at h5;omega
  | [X,Y],h5,hlen=>simp only[nw,List.flatten_nil,ck,List.length_nil,Nat.add_zero,List.append_nil]at hlen;simp only[Bk]at h5;exact⟨X,Y,[],rfl,h5.1,by omega,trivial⟩
  | X::Y::Z::r,h5,hlen=>exact⟨X,Y,Z::r,rfl,h5.1,h5.2.1,h5.2.2⟩
 have hcr:=List.pairwise_append.1 h6.crs
 have hcx:=(List.pairwise_cons.1 hcr.2.1).1 Y (by simp)
 simp only[nw,ck]at hlen
 have form:(M.flatten++(X::Y::R').flatten).map (fun x:DS=>x.1)=(M.flatten++X++Y++R'.flatten).map (fun x:DS=>x.1):=by simp only[nw,qk]
 have hm:=NK 9223372036854775808 M.flatten X Y R'.flatten (fun e=>by subst e;simp at lX;omega) (fun e=>by subst e;simp at lY;omega) (by omega) (h6.srt X (by simp)) (h6.srt Y (by simp)) hcx (by simp only[ck];omega)
 rw[cX (n:=((M.flatten.length:Nat):Int)+(bs:Int)) (by omega),form]
 rw[lX,lY]at hm
 rw[show((M.flatten.length+bs:Nat):Int)=((M.flatten.length:Nat):Int)+(bs:Int)by omega,show((M.flatten.length+bs+bs:Nat):Int)=((M.flatten.length+2*bs:Nat):Int)by omega]at hm
 unfold gz
 refine ax hm (fun r hr=>?_)
 obtain⟨C,rfl,c1,c2⟩:=hr
 have lC:C.length=2*bs:=by rw[c1.length_eq,ck];omega
 have hfl:(M++[C]).flatten.length=M.flatten.length+2*bs:=by simp[lC]
 rw[cX (n:=2*(bs:Int)) (by omega),cX (by omega)]
 refine jq ⟨⟨M++[C],R',by simp,by simp only;omega,by simp only;omega,fun Z hZ=>?_,hR',?_⟩,by simp only;omega⟩
 ·rcases jk.1 hZ with hZ | hZ
  ·exact h4 Z hZ
  ·simp at hZ;subst hZ;exact lC
 ·have:=h6.merge c1 c2
  simpa using this
theorem a0X(S:List DS)(hn:S.length≤1000000)(bs:Nat)(hb:0<bs)(hb2:bs<S.length)(L:List (List DS))(hk:Bk bs L)(h:Bs S L) :
  Ok ((loop (i4 (S.length:Int) (bs:Int)) (L.flatten.map (·.1),0,(w64 (2*(bs:Int))))).bind fun(e100,e101)=>(((bif (decide ((w64 (e101+(bs:Int)))<(S.length:Int)))then((gz e100 e101 (w64 (e101+(bs:Int))) (S.length:Int)).bind fun r103=>some r103)else some e100):Option (List aX)))) (fun r=>∃L':List (List DS),r=L'.flatten.map (·.1)∧Bk (2*bs) L'∧Bs S L'):=by
 refine ax (a2j S hn bs hb hb2 L hk h) (fun r hr=>?_)
 obtain⟨M,R,rfl,h4,h5,h7,h6⟩:=hr
 have hlen:M.flatten.length+R.flatten.length=S.length:=by
  have:=h6.prm.length_eq
  rw[List.flatten_append,ck]at this;exact this
 dsimp only
 rw[cX (n:=((M.flatten.length:Nat):Int)+(bs:Int)) (by omega)]
 match R,h5,h7,hlen,h6 with
 | [],_,_,hlen,h6 =>
  simp only[nw,List.flatten_nil,ck,List.length_nil,Nat.add_zero,List.append_nil]at hlen
  refine bY (fun hc=>by omega) (fun _=>cq ⟨M,by simp,?_,by simpa using h6⟩)
  have:=aaj (bs:=2*bs) (by omega) M [] h4 trivial
  simpa using this
 | [X],h5,_,hlen,h6 =>
  simp only[nw,List.flatten_nil,ck,List.length_nil,Nat.add_zero,List.append_nil]at hlen
  simp only[Bk]at h5
  refine bY (fun hc=>by omega) (fun _=>cq ⟨M++[X],by simp,?_,h6⟩)
  exact aaj (by omega) M [X] h4 ⟨h5.1,by omega⟩
 | [X,Y],h5,h7,hlen,h6 =>
  simp only[nw,List.flatten_nil,ck,List.length_nil,Nat.add_zero,List.append_nil]at hlen
  simp only[nw,List.flatten_nil,ck,List.length_nil,Nat.add_zero,List.append_nil]at h7
  simp only[Bk]at h5
  have hcr:=List.pairwise_append.1 h6.crs
  have hcx:=(List.pairwise_cons.1 hcr.2.1).1 Y (by simp)
  refine bY (fun hc=>?_) (fun hc=>by omega)
  have form:(M.flatten++[X,Y].flatten).map (fun x:DS=>x.1)=(M.flatten++X++Y++[]).map (fun x:DS=>x.1):=by simp
  have hm:=NK 9223372036854775808 M.flatten X Y [] (fun e=>by subst e;simp at h5;omega) (fun e=>by subst e;simp at h5) (by omega) (h6.srt X (by simp)) (h6.srt Y (by simp)) hcx (by simp only[ck,List.length_nil];omega)
  rw[h5.1]at hm
  rw[show((M.flatten.length+bs:Nat):Int)=((M.flatten.length:Nat):Int)+(bs:Int)by omega,show((M.flatten.length+bs+Y.length:Nat):Int)=(S.length:Int)by omega]at hm
  rw[form]
  unfold gz
  refine ax hm (fun r hr=>?_)
  obtain⟨C,rfl,c1,c2⟩:=hr
  have lC:C.length=bs+Y.length:=by rw[c1.length_eq,ck];omega
  refine cq ⟨M++[C],by simp,aaj (by omega) M [C] h4 ⟨by omega,by omega⟩,?_⟩
  exact h6.merge c1 c2
 | X::Y::Z::r,h5,h7,_,_ =>
  exfalso
  have h8:=h5.1
  have h9:=h5.2.1
  simp only[nw,ck]at h7
  omega
theorem a4V(S:List DS)(hn:S.length≤1000000)(hS:S.Pairwise (fun x y=>x.2<y.2)) :
  Ok ((loop (kz (S.length:Int)) (S.map (·.1),0,20)).bind fun(e19,e20)=>(e9 e19 e20 (S.length:Int))) (fun r=>∃L:List (List DS),r=L.flatten.map (·.1)∧Bk 20 L∧Bs S L):=by
 refine ax (Q:=fun s:List aX×Int=>∃(M:List (List DS)) (T:List DS),s=((M.flatten++T).map (·.1),(M.flatten.length:Int))∧(∀X∈M,X.length=20)∧T.length<20∧T.Pairwise (fun x y=>x.2<y.2)∧(∀X∈M,X.Pairwise lt)∧M.Pairwise (fun X Y=>∀x∈X,∀y∈Y,x.2<y.2)∧(∀X∈M,∀x∈X,∀y∈T,x.2<y.2)∧(M.flatten++T).Perm S)
  (uJ (fun s:List aX×Int×Int=>∃(M:List (List DS)) (T:List DS),s.1=(M.flatten++T).map (·.1)∧s.2.1=(M.flatten.length:Nat)∧s.2.2=(M.flatten.length+20:Nat)∧(∀X∈M,X.length=20)∧T.Pairwise (fun x y=>x.2<y.2)∧(∀X∈M,X.Pairwise lt)∧M.Pairwise (fun X Y=>∀x∈X,∀y∈Y,x.2<y.2)∧(∀X∈M,∀x∈X,∀y∈T,x.2<y.2)∧(M.flatten++T).Perm S) (fun s=>((S.length+21:Nat)-s.2.2).toNat) (fun s hs=>?_) ⟨[],S,by simp,by simp,by simp,by simp,hS,by simp,List.Pairwise.nil,by simp,by simp⟩ (by simp[fY];omega)) (fun s hs=>?_)
 ·obtain⟨a,i,j⟩:=s
  obtain⟨M,T,h1,h2,h3,h4,h5,h6,h7,h8,h9⟩:=hs
  simp only at h1 h2 h3
  subst h1 h2 h3
  have hlen:M.flatten.length+T.length=S.length:=by have:=h9.length_eq;rw[ck]at this;exact this
  unfold kz
  dsimp only
  refine bY (fun hle=>?_) (fun hgt=>d8 ⟨M,T,rfl,h4,by omega,h5,h6,h7,h8,h9⟩)
  have hT:T=T.take 20++T.drop 20:=(List.take_append_drop _ _).symm
  have t1:(T.take 20).length=20:=by rw[pw];omega
  have s5:=h5
  rw[hT,List.pairwise_append]at s5
  have hi:=aiJ M.flatten (T.take 20) (T.drop 20) s5.1 (by rw[qk,List.take_append_drop,ck];omega) (M.flatten.length:Int) ((M.flatten.length+20:Nat):Int) rfl (by rw[t1])
  rw[qk,List.take_append_drop]at hi
  refine ax hi (fun r hr=>?_)
  obtain⟨C,rfl,c1,c2⟩:=hr
  have lC:C.length=20:=by rw[c1.length_eq,t1]
  have hfl:(M++[C]).flatten.length=M.flatten.length+20:=by simp[lC]
  rw[cX (by omega)]
  refine jq ⟨⟨M++[C],T.drop 20,by simp,by simp only;omega,by simp only;omega,fun X hX=>?_,s5.2.1,fun X hX=>?_,List.pairwise_append.2 ⟨h7,List.pairwise_singleton _ _,fun X hX Y hY x hx y hy=>?_⟩,fun X hX x hx y hy=>?_,?_⟩,by simp only;omega⟩
  ·rcases jk.1 hX with hX | hX
   ·exact h4 X hX
   ·simp at hX;subst hX;exact lC
  ·rcases jk.1 hX with hX | hX
   ·exact h6 X hX
   ·simp at hX;subst hX;exact c2
  ·simp at hY;subst hY
   exact h8 X hX x hx y (List.mem_of_mem_take (c1.mem_iff.1 hy))
  ·rcases jk.1 hX with hX | hX
   ·exact h8 X hX x hx y (List.mem_of_mem_drop hy)
   ·simp at hX;subst hX
    exact s5.2.2 x (c1.mem_iff.1 hx) y hy
  ·refine List.Perm.trans ?_ h9
   simp only[List.flatten_append,nw,List.flatten_nil,List.append_nil,qk]
   refine List.Perm.append_left _ ?_
   have:=c1.append_right (T.drop 20)
   rwa [List.take_append_drop]at this
 ·obtain⟨M,T,rfl,h4,h3,h5,h6,h7,h8,h9⟩:=hs
  have hlen:M.flatten.length+T.length=S.length:=by have:=h9.length_eq;rw[ck]at this;exact this
  dsimp only
  have hi:=aiJ M.flatten T [] h5 (by simp only[ck,List.length_nil];omega) (M.flatten.length:Int) (S.length:Int) rfl (by rw[←hlen])
  rw[List.append_nil]at hi
  refine hi.mono (fun r hr=>?_)
  obtain⟨C,rfl,c1,c2⟩:=hr
  by_cases hT:T=[]
  ·subst hT
   have hC:C=[]:=dk (by rw[c1.length_eq];rfl)
   subst hC
   refine⟨M,by simp,?_,h6,h7,by simpa using h9⟩
   have:=aaj (bs:=20) (by omega) M [] h4 trivial
   simpa using this
  ·have hp:=List.length_pos_iff.2 hT
   have lC:C.length=T.length:=c1.length_eq
   refine⟨M++[C],by simp,aaj (by omega) M [C] h4 ⟨by omega,by omega⟩,fun X hX=>?_,List.pairwise_append.2 ⟨h7,List.pairwise_singleton _ _,fun X hX Y hY x hx y hy=>?_⟩,?_⟩
   ·rcases jk.1 hX with hX | hX
    ·exact h6 X hX
    ·simp at hX;subst hX;exact c2
   ·simp at hY;subst hY
    exact h8 X hX x hx y (c1.mem_iff.1 hy)
   ·refine List.Perm.trans ?_ h9
    simp only[List.flatten_append,nw,List.flatten_nil,List.append_nil]
    exact c1.append_left _
theorem aSV(S:List DS)(hn:S.length≤1000000)(hS:S.Pairwise (fun x y=>x.2<y.2)):Ok (jZ (S.map (·.1)) (S.length:Int)) (fun r=>∃C:List DS,r=C.map (·.1)∧C.Perm S∧C.Pairwise lt):=by
 unfold jZ
 have h1:=a4V S hn hS
 obtain⟨r21,hr,L,rfl,hk,hb⟩:=h1
 obtain⟨⟨e19,e20⟩,ha,hr⟩:=bB hr
 rw[ha,Option.bind_some]
 dsimp only at hr ⊢
 rw[hr,Option.bind_some]
 refine uJ (fun s:List aX×Int=>∃(bs:Nat) (L:List (List DS)),20≤bs∧s.1=L.flatten.map (·.1)∧s.2=(bs:Int)∧Bk bs L∧Bs S L) (fun s=>((S.length:Int)-s.2).toNat) (fun s hs=>?_) ⟨20,L,by omega,rfl,rfl,hk,hb⟩ (by simp[fY];omega)
 obtain⟨a,b⟩:=s
 obtain⟨bs,L,h20,h2,h3,h4,h5⟩:=hs
 simp only at h2 h3
 subst h2 h3
 unfold nK
 dsimp only
 refine bY (fun hlt=>?_) (fun hge=>d8 ?_)
 ·obtain⟨v,hv,L',rfl,k1,k2⟩:=a0X S hn bs (by omega) (by omega) L h4 h5
  obtain⟨⟨e100,e101⟩,hp,hv⟩:=bB hv
  rw[hp,Option.bind_some]
  dsimp only at hv ⊢
  rw[hv,Option.bind_some,cX (by omega)]
  exact jq ⟨⟨2*bs,L',by omega,rfl,by simp only;omega,k1,k2⟩,by simp only;omega⟩
 ·have hlen:L.flatten.length=S.length:=h5.prm.length_eq
  match L,h4,h5,hlen with
  | [],_,h5,_=>exact⟨[],rfl,by simpa using h5.prm,List.Pairwise.nil⟩
  | [X],_,h5,_=>exact⟨X,by simp,by simpa using h5.prm,h5.srt X (by simp)⟩
  | X::Y::r,h4,_,hlen =>
   exfalso
   have h8:=h4.1
   have h9:0<Y.length:=by
    cases r with
    | nil=>exact h4.2.1
    | cons Z r=>have:=h4.2.1;omega
   simp only[nw,ck]at hlen
   omega
theorem a0q(w:List aX):w.zipIdx.Pairwise (fun x y:DS=>x.2<y.2):=by
 have h:(w.zipIdx.map (fun x:DS=>x.2)).Pairwise (· < ·):=by
  have:w.zipIdx.map (fun x:DS=>x.2)=List.range' 0 w.length:=by
   have:=List.zipIdx_map_snd 0 w
   exact this
  rw[this]
  exact List.pairwise_lt_range' ..
 exact List.pairwise_map.1 h
theorem aPq(w:List aX):w.zipIdx.map (fun x:DS=>x.1)=w:=List.zipIdx_map_fst 0 w
theorem aqQ(w:List aX)(h:w.length≤1000000):Ok (d9 w) (fun r=>∃C:List DS,r=C.map (·.1)∧C.Perm w.zipIdx∧C.Pairwise lt):=by
 unfold d9
 have hl:w.zipIdx.length=w.length:=by simp
 have:=aSV w.zipIdx (by omega) (a0q w)
 rw[aPq,hl]at this
 exact ax this (fun r hr=>cq hr)
theorem Y9(s c:aZ):kV s c=nY s c:=by
 unfold kV nY
 by_cases h1:s.q0<c.q0
 ·by_cases h2:c.q9<s.q9
  ·have e1:max s.q0 c.q0=c.q0:=by omega
   have e2:min s.q9 c.q9=c.q9:=by omega
   simp[h1,h2,e1,e2]
  ·have e1:max s.q0 c.q0=c.q0:=by omega
   have e2:min s.q9 c.q9=s.q9:=by omega
   simp[h1,h2,e1,e2]
 ·by_cases h2:c.q9<s.q9
  ·have e1:max s.q0 c.q0=s.q0:=by omega
   have e2:min s.q9 c.q9=c.q9:=by omega
   simp[h1,h2,e1,e2]
  ·have e1:max s.q0 c.q0=s.q0:=by omega
   have e2:min s.q9 c.q9=s.q9:=by omega
   simp[h1,h2,e1,e2]
abbrev UK(r:aZ×Bool×Bool)(s:aZ):aZ:={q0:=(w64 (r.1.q0+s.q0)),q9:=(w64 (r.1.q9+s.q0))}
theorem awX(t:a0)(s:aZ)(r:aZ×Bool×Bool):yY t s r=nX t.z8 (UK r s):=by
 funext ⟨a,i⟩
 unfold yY nX
 simp only[Y9]
 congr 2
 congr 1
 funext y
 congr 1
 funext r
 cases r.2.1<;>rfl
theorem aDV(t:a0)(s:aZ)(r:aZ×Bool×Bool):D2 t s r=rj t.z6 (UK r s):=rfl
theorem apj(t:a0)(s:aZ)(r:aZ×Bool×Bool):D1 t s r=o6 t.z2 (UK r s):=rfl
theorem awZ(t:a0)(c:aZ):wK t c=nQ t.z5 c:=by
 funext ⟨a,i⟩
 unfold wK nQ
 simp only[Y9]
theorem axZ(t:a0)(c:aZ):xq t c=nz t.j7 c:=by
 funext ⟨a,i⟩
 unfold xq nz
 simp only[Y9]
theorem avz{α β:Type}{step:List β×Int→Option ((List β×Int) ⊕ List β)}(xs:List α)(g:Nat→α→Option β)(hl:xs.length≤100000)
  (h1:∀(i:Nat) y a,xs[i]? = some y→a.length≤i→step (a,(i:Int))=some (.inl (a++(g i y).toList,((i+1:Nat):Int)))) (h2:∀a,step (a,(xs.length:Int))=some (.inr a)) :
  loop step ([],0)=some (xs.zipIdx.filterMap fun p=>g p.2 p.1):=by
 have:Ok (loop step ([],0)) (fun r=>r=xs.zipIdx.filterMap fun p=>g p.2 p.1):=by
  refine M7 xs.length (fun a i=>a=(xs.zipIdx.take i).filterMap fun p=>g p.2 p.1) (by omega) (by simp) (fun a i hI h2'=>?_)
  subst hI
  by_cases hi:i<xs.length
  ·obtain⟨y,hy⟩ : ∃y,xs[i]? = some y:=⟨_,bk hi⟩
   rw[h1 i y _ hy (Nat.le_trans (List.length_filterMap_le _ _) (by rw[pw];omega))]
   refine jq ⟨hi,rfl,?_⟩
   have hz:xs.zipIdx[i]? = some (y,i):=by rw[List.getElem?_zipIdx,hy];simp
   rw[List.take_add_one,hz,List.filterMap_append]
   cases e:g i y<;>simp[e]
  ·have:i=xs.length:=by omega
   subst this
   rw[h2]
   refine d8 ?_
   rw[List.take_of_length_le (by simp)]
 obtain⟨r,e,rfl⟩:=this
 exact e
def pcF(c:aZ)(i:Nat)(y:aY):Option aX :=
 if max y.q5.q0 c.q0<min y.q5.q9 c.q9 then some {z4:={q6:=y.q6,z1:=y.z1,z9:=y.z9,q8:=y.q8,q5:={q0:=w64 (max y.q5.q0 c.q0-c.q0),q9:=w64 (min y.q5.q9 c.q9-c.q0)},j9:=y.j9,v8:=y.v8||decide (c.q9<y.q5.q9)},fold:=(i:Int)} else none
def itF(p:aX):c9:={x8:=p.z4,x7:=p.fold}
def pcs(l:List aY)(c:aZ):List aX:=l.zipIdx.filterMap fun p=>pcF c p.2 p.1
theorem bgX(l:List aY)(c:aZ)(h:l.length≤1000):loop (x9 l c) ([],0)=some (pcs l c):=by
 refine avz l (pcF c) (by omega) (fun i y a hy ha=>?_) (fun a=>?_)
 ·have hi:=dZ hy
  unfold x9 nY
  simp only[decide_eq_true (Int.ofNat_lt.2 hi),cond_true,dY,hy,Option.bind_some,pcF]
  have hr:∀z:aX,Ej 80 (a.length+[z].length)=true:=fun z=>D6 (by simp only[fk,List.length_nil];omega) (by simp only[fk,List.length_nil];omega)
  rw[Gx (n:=l.length) (by omega) (by omega)]
  simp only[hr,cond_true]
  by_cases g:max y.q5.q0 c.q0<min y.q5.q9 c.q9
  ·cases y.v8<;>simp[g]
  ·simp[g]
 ·unfold x9
  simp
theorem bfV(t:a0)(s:aZ)(r:aZ×Bool×Bool)(h:t.z3.length≤1000):loop (s6 t s r) ([],0)=some ((pcs t.z3 (UK r s)).map itF):=by
 rw[show(pcs t.z3 (UK r s)).map itF=t.z3.zipIdx.filterMap fun p=>(pcF (UK r s) p.2 p.1).map itF by unfold pcs;rw[List.map_filterMap]]
 refine avz t.z3 (fun i y=>(pcF (UK r s) i y).map itF) (by omega) (fun i y a hy ha=>?_) (fun a=>?_)
 ·have hi:=dZ hy
  unfold s6
  simp only[Y9]
  unfold nY
  simp only[decide_eq_true (Int.ofNat_lt.2 hi),cond_true,dY,hy,Option.bind_some,pcF]
  have hr:∀z:c9,Ej 80 (a.length+[z].length)=true:=fun z=>D6 (by simp only[fk,List.length_nil];omega) (by simp only[fk,List.length_nil];omega)
  rw[Gx (n:=t.z3.length) (by omega) (by omega)]
  simp only[hr,cond_true]
  by_cases g:max y.q5.q0 (UK r s).q0<min y.q5.q9 (UK r s).q9
  ·cases y.v8<;>simp[g,itF]
  ·simp[g]
 ·unfold s6
  simp
theorem bcq{l:List aY}{c:aZ}{p:aX}(h:p∈pcs l c):∃(i:Nat) (y:aY),l[i]? = some y∧pcF c i y=some p:=by
 obtain⟨⟨y,i⟩,h1,h2⟩:=List.mem_filterMap.1 h
 exact⟨i,y,List.mem_zipIdx_iff_getElem?.1 h1,h2⟩
theorem bfQ{l:List aY}{c:aZ}{i:Nat}{y:aY}{p:aX}(h:l[i]? = some y)(h2:pcF c i y=some p):p∈pcs l c :=
 List.mem_filterMap.2 ⟨(y,i),List.mem_zipIdx_iff_getElem?.2 h,h2⟩
theorem agV{c:aZ}{i:Nat}{y:aY}{p:aX}(h:pcF c i y=some p):p.fold=(i:Int):=by
 unfold pcF at h
 split at h
 ·cases h;rfl
 ·cases h
theorem aPZ(l:List aY)(c:aZ):(pcs l c).length≤l.length:=by
 unfold pcs
 exact Nat.le_trans (List.length_filterMap_le _ _) (by simp)
theorem a5Y(l:List aY)(c:aZ):(pcs l c).Pairwise (fun p q=>p.fold<q.fold):=by
 have key:∀(l:List aY) (n:Nat),((l.zipIdx n).filterMap fun p=>pcF c p.2 p.1).Pairwise (fun p q=>p.fold<q.fold)∧∀q∈((l.zipIdx n).filterMap fun p=>pcF c p.2 p.1),(n:Int)≤q.fold:=by
  intro l
  induction l with
  | nil=>intro n;simp
  | cons y l ih =>
   intro n
   obtain⟨h1,h2⟩:=ih (n+1)
   rw[List.zipIdx_cons,List.filterMap_cons]
   cases e:pcF c n y with
   | none=>exact⟨h1,fun q hq=>by have:=h2 q hq;omega⟩
   | some p =>
    have h3:=agV e
    refine⟨List.pairwise_cons.2 ⟨fun q hq=>by have:=h2 q hq;omega,h1⟩,fun q hq=>?_⟩
    rcases iw.1 hq with rfl | hq
    ·omega
    ·have:=h2 q hq;omega
 exact(key l 0).1
def lo(p q:aX):Prop:=kl p q∨(¬kl q p∧p.fold<q.fold)
theorem biq{x y z:aX}(h1:lo x y)(h2:lo y z):lo x z:=by unfold lo kl at *;omega
theorem aNZ{x y:aX}(h1:lo x y)(h2:lo y x):False:=by unfold lo kl at *;omega
theorem arq:∀a b:List aX,a.Perm b→a.Pairwise lo→b.Pairwise lo→a=b
 | [],b,h,_,_=>(List.nil_perm.1 h).symm▸rfl
 | x::a,[],h,_,_=>by have:=h.length_eq;simp at this
 | x::a,y::b,h,ha,hb=>by
  have ha':=List.pairwise_cons.1 ha
  have hb':=List.pairwise_cons.1 hb
  have e:x=y:=by
   rcases iw.1 (h.mem_iff.2 (List.mem_cons_self:y ∈ y::b))with e | e
   ·exact e.symm
   ·rcases iw.1 (h.mem_iff.1 (List.mem_cons_self:x ∈ x::a))with e2 | e2
    ·exact e2
    ·exact(aNZ (ha'.1 y e) (hb'.1 x e2)).elim
  subst e
  rw[arq a b h.cons_inv ha'.2 hb'.2]
theorem aYV{w:List aX}{x:aX}{i:Nat}(h:(x,i)∈w.zipIdx):w[i]? = some x:=List.mem_zipIdx_iff_getElem?.1 h
theorem a8X(w:List aX)(h:w.length≤1000000)(hp:w.Pairwise (fun p q=>p.fold<q.fold)):Ok (d9 w) (fun r=>r.Perm w∧r.Pairwise lo):=by
 obtain⟨r,h1,C,rfl,h3,h4⟩:=aqQ w h
 refine⟨_,h1,?_,?_⟩
 ·have:=h3.map (fun x:DS=>x.1)
  rwa [aPq]at this
 ·rw[List.pairwise_map]
  refine(List.Pairwise.and_mem.1 h4).imp (fun {x y} ⟨hx,hy,hl⟩=>?_)
  rcases hl with hl | ⟨hl,hi⟩
  ·exact .inl hl
  ·refine .inr ⟨hl,?_⟩
   have g1:=aYV (h3.mem_iff.1 hx)
   have g2:=aYV (h3.mem_iff.1 hy)
   have k1:=dZ g1
   have k2:=dZ g2
   have:=List.pairwise_iff_getElem.1 hp x.2 y.2 k1 k2 hi
   rw[bk k1]at g1
   rw[bk k2]at g2
   rw[Option.some.inj g1,Option.some.inj g2]at this
   exact this
instance (a b:aX):Decidable (lo a b):=by unfold lo;infer_instance
theorem aIZ(x y:aX):rV (itF x) (itF y)=some (decide (lo x y)):=by
 unfold rV itF
 by_cases h1:x.z4.q5.q0=y.z4.q5.q0
 ·by_cases h2:x.z4.q5.q9=y.z4.q5.q9
  ·by_cases h3:x.z4.q6=y.z4.q6
   ·simp[lo,kl,h1,h2,h3]
   ·have:(x.z4.q6<y.z4.q6)↔lo x y:=by unfold lo kl;omega
    simp[h1,h2,h3,this]
  ·have:(y.z4.q5.q9<x.z4.q5.q9)↔lo x y:=by unfold lo kl;omega
   simp[h1,h2,this]
 ·have:(x.z4.q5.q0<y.z4.q5.q0)↔lo x y:=by unfold lo kl;omega
  simp[h1,this]
theorem bdV{C1 C2:List aX}{x:aX}(h:(C1++C2).Pairwise lo)(h1:∀y∈C1,lo y x)(h2:∀y∈C2,lo x y):(C1++x::C2).Pairwise lo:=by
 rw[List.pairwise_append]at h ⊢
 refine⟨h.1,List.pairwise_cons.2 ⟨h2,h.2.1⟩,fun a ha b hb=>?_⟩
 rcases iw.1 hb with rfl | hb
 ·exact h1 a ha
 ·exact h.2.2 a ha b hb
theorem biX(C:List aX)(x:aX)(hC:C.Pairwise lo)(hx:∀y∈C,y.fold<x.fold)(hl:C.length≤1000) :
  Ok (loop uX ((C++[x]).map itF,(C.length:Int))) (fun r=>∃C':List aX,r=C'.map itF∧C'.Perm (x::C)∧C'.Pairwise lo):=by
 refine uJ (fun s:List c9×Int=>∃C1 C2:List aX,C=C1++C2∧s.1=(C1++x::C2).map itF∧s.2=(C1.length:Nat)∧∀y∈C2,lo x y) (fun s=>s.2.toNat) (fun s hs=>?_) ⟨C,[],by simp,by simp,rfl,by simp⟩ (by simp[fY];omega)
 obtain⟨a,j⟩:=s
 obtain⟨C1,C2,rfl,rfl,h3,h4⟩:=hs
 simp only at h3
 subst h3
 unfold uX
 dsimp only
 simp only[ck]at hl
 have done:(∀y∈C1,lo y x)→Ok (some (Sum.inr ((C1++x::C2).map itF)):Option ((List c9×Int) ⊕ List c9)) (s8 (fun s':List c9×Int=>(∃C1' C2':List aX,C1++C2=C1'++C2'∧s'.1=(C1'++x::C2').map itF∧s'.2=(C1'.length:Nat)∧∀y∈C2',lo x y)∧s'.2.toNat<((C1.length:Nat):Int).toNat) (fun r=>∃C':List aX,r=C'.map itF∧C'.Perm (x::(C1++C2))∧C'.Pairwise lo)):=fun hlast =>
  d8 ⟨C1++x::C2,rfl,List.perm_middle,bdV hC hlast h4⟩
 by_cases g:(0:Int)<((C1.length:Nat):Int)
 ·obtain⟨C0,y,rfl⟩ : ∃C0 y,C1=C0++[y]:=by
   have:C1≠[]:=fun e=>by subst e;simp at g
   exact⟨C1.dropLast,C1.getLast this,(List.dropLast_concat_getLast this).symm⟩
  simp only[ck,fk,List.length_nil]at hl g
  have form:((C0++[y]++x::C2).map itF)=(C0.map itF)++itF y::itF x::(C2.map itF):=by simp
  have lp:(C0.map itF).length=C0.length:=by simp
  obtain⟨s1,s2,s3,s4,s5⟩:=aiK (C0.map itF) (C2.map itF) (itF x) (itF y)
  rw[lp]at s1 s2 s3 s4 s5
  rw[form]at done ⊢
  have j1:w64 (((C0++[y]).length:Int)-1)=(C0.length:Int):=by rw[ck,fk,List.length_nil,cX (by omega)];omega
  have j0:(((C0++[y]).length:Nat):Int)=((C0.length+1:Nat):Int):=by rw[ck,fk,List.length_nil]
  rw[decide_eq_true (by rw[j0];omega:(0:Int)<(((C0++[y]).length:Nat):Int)),cond_true,j1]
  rw[j0,dY,s2,dY,s1]
  simp only[Option.bind_some,aIZ]
  refine bY (fun hlt=>?_) (fun hge=>?_)
  ·simp only[Int.toNat_natCast,s3,s5,dY,Option.bind_some,s4]
   refine jq ⟨⟨C0,y::C2,by simp,by simp,rfl,fun z hz=>?_⟩,by simp only[Int.toNat_natCast];omega⟩
   rcases iw.1 hz with rfl | hz
   ·exact hlt
   ·exact h4 z hz
  ·rw[j0]at done
   refine done (fun z hz=>?_)
   have hy:=hx y (by simp)
   have hyx:lo y x:=by unfold lo kl at *;omega
   rcases jk.1 hz with hz | hz
   ·have:=(List.pairwise_append.1 (List.pairwise_append.1 hC).1).2.2 z hz y (by simp)
    exact biq this hyx
   ·simp only[ew]at hz;subst hz;exact hyx
 ·rw[decide_eq_false g]
  simp only[cond_false,Option.bind_some]
  have:C1=[]:=dk (by omega)
  exact done (fun z hz=>by subst this;simp at hz)
theorem bkJ(w:List aX)(h:w.length≤1000)(hp:w.Pairwise (fun p q=>p.fold<q.fold)):Ok (loop (pQ (w.map itF)) ([],0)) (fun r=>∃D:List aX,r=D.map itF∧D.Perm w∧D.Pairwise lo):=by
 refine M7 w.length (fun a i=>∃C:List aX,a=C.map itF∧C.Perm (w.take i)∧C.Pairwise lo) (by omega) ⟨[],rfl,by simp,List.Pairwise.nil⟩ (fun a i hI h2=>?_)
 obtain⟨C,rfl,c1,c2⟩:=hI
 have hcl:C.length≤i:=by rw[c1.length_eq,pw];omega
 unfold pQ
 dsimp only
 rw[List.length_map]
 refine bY (fun hi=>?_) (fun hi=>d8 ?_)
 ·obtain⟨x,hx⟩ : ∃x,w[i]? = some x:=⟨_,bk (by omega)⟩
  have hidx:∀y∈C,y.fold<x.fold:=by
   intro y hy
   obtain⟨q,hq,rfl⟩:=List.mem_take_iff_getElem.1 (c1.mem_iff.1 hy)
   have:=List.pairwise_iff_getElem.1 hp q i (by omega) (by omega) (by omega)
   rw[bk (by omega)]at hx
   rwa [Option.some.inj hx]at this
  rw[dY,List.getElem?_map,hx,Option.map_some,Option.bind_some,D6 (by simp only[List.length_map,fk,List.length_nil];omega) (by simp only[List.length_map,fk,List.length_nil];omega),cond_true]
  have e1:C.map itF++[itF x]=(C++[x]).map itF:=by simp
  rw[e1,cX (by rw[List.length_map,ck,fk,List.length_nil];omega),show((((C++[x]).map itF).length:Nat):Int)-1=(C.length:Int)by rw[List.length_map,ck,fk,List.length_nil];omega]
  refine ax (biX C x c2 hidx (by omega)) (fun r hr=>?_)
  obtain⟨C',rfl,d1,d2⟩:=hr
  rw[Gx (n:=w.length) (by omega) (by omega)]
  refine jq ⟨by omega,rfl,C',rfl,d1.trans ?_,d2⟩
  rw[List.take_add_one,hx]
  simp only[Option.toList_some]
  exact(c1.cons x).trans (List.perm_append_singleton x _).symm
 ·rw[List.take_of_length_le (by omega)]at c1
  exact⟨C,rfl,c1,c2⟩
theorem bhQ(w:List aX)(h:w.length≤1000)(hp:w.Pairwise (fun p q=>p.fold<q.fold)):∃D:List aX,d9 w=some D∧loop (pQ (w.map itF)) ([],0)=some (D.map itF)∧D.Perm w∧D.Pairwise lo:=by
 obtain⟨r,h1,h2,h3⟩:=a8X w (by omega) hp
 obtain⟨_,h4,D,rfl,h5,h6⟩:=bkJ w h hp
 have:=arq r D (h2.trans h5.symm) h3 h6
 subst this
 exact⟨r,h1,h4,h2,h3⟩
structure a4X(so:List aX):Prop where
 len:so.length≤1000
 pos:∀(i:Nat) p,so[i]? = some p→0≤p.fold
 ne:∀(i j:Nat) p q,i<j→so[i]? = some p→so[j]? = some q→p.fold≠q.fold
 par:∀(i:Nat) p,so[i]? = some p→p.z4.z1 = -1∨∃k q,k<i∧so[k]? = some q∧q.fold=p.z4.z1
theorem bdz{so:List aX}(h:a4X so):Ok (loop (CQ so) (alj (-1) (-1) [],0)) (fun m=>xZ (-1) m=some (-1)∧∀(k:Nat) q,so[k]? = some q→xZ q.fold m=some (k:Int)):=by
 have hl:=h.len
 refine M7 so.length (fun m i=>xZ (-1) m=some (-1)∧∀(k:Nat) q,k<i→so[k]? = some q→xZ q.fold m=some (k:Int)) (by omega) ⟨by rw[OV];simp,fun k q hk=>by omega⟩ (fun m i hI h2=>?_)
 unfold CQ
 dsimp only
 refine bY (fun hi=>?_) (fun hi=>d8 ⟨hI.1,fun k q hq=>hI.2 k q (by have:=dZ hq;omega) hq⟩)
 refine ax (Z0 (by omega)) (fun y hy=>?_)
 rw[Gx (n:=so.length) (by omega) (by omega)]
 refine jq ⟨by omega,rfl,?_,fun k q hk hq=>?_⟩
 ·have:=h.pos i y hy
  rw[OV,if_neg (by omega)];exact hI.1
 ·rw[OV]
  by_cases e:k=i
  ·subst e;rw[hy]at hq;cases hq;simp
  ·have:=h.ne k i q y (by omega) hq hy
   rw[if_neg this];exact hI.2 k q (by omega) hq
theorem aLZ{so:List aX}(h:a4X so)(a:List aY)(i:Nat)(p:aX)(hi:i≤so.length)(hp:p.z4.z1 = -1):loop (iJ (so.map itF) (i:Int) (itF p)) (a,(-1),0,0)=some (a,-1,0):=by
 have hl:=h.len
 have:Ok (loop (iJ (so.map itF) (i:Int) (itF p)) (a,(-1),0,0)) (fun r=>r=(a,-1,0)):=by
  refine uJ (fun s:List aY×Int×Int×Int=>∃n:Nat,s=(a,-1,0,(n:Int))∧n≤i) (fun s=>((i:Int)-s.2.2.2).toNat) (fun s hs=>?_) ⟨0,rfl,by omega⟩ (by simp[fY];omega)
  obtain⟨n,rfl,hn⟩:=hs
  unfold iJ
  dsimp only
  refine bY (fun hlt=>?_) (fun _=>d8 rfl)
  obtain⟨q,hq⟩ : ∃q,so[n]? = some q:=⟨_,bk (by omega)⟩
  have hpos:=h.pos n q hq
  rw[dY,List.getElem?_map,hq,Option.map_some,Option.bind_some,decide_eq_false (by show ¬q.fold=p.z4.z1;omega),cond_false,Option.bind_some,Gx (n:=so.length) (by omega) (by omega)]
  exact jq ⟨⟨n+1,rfl,by omega⟩,by simp only;omega⟩
 obtain⟨r,e,rfl⟩:=this
 exact e
def upS(x:aY)(d:Int):aY:={q6:=x.q6,z1:=x.z1,z9:=x.z9,q8:=x.q8,q5:=x.q5,j9:=(w64 (x.j9-d)),v8:=x.v8}
theorem aNx{so:List aX}(h:a4X so)(a:List aY)(i k:Nat)(p q:aX)(x:aY)(hi:i≤so.length)(hk:k<i)(hq:so[k]? = some q)(hp:q.fold=p.z4.z1)(hx:a[k]? = some x) :
  loop (iJ (so.map itF) (i:Int) (itF p)) (a,(-1),0,0)=some (a.set k (upS x (w64 (p.z4.q5.q9-p.z4.q5.q0))),(k:Int),w64 (x.z9+1)):=by
 have hl:=h.len
 have:Ok (loop (iJ (so.map itF) (i:Int) (itF p)) (a,(-1),0,0)) (fun r=>r=(a.set k (upS x (w64 (p.z4.q5.q9-p.z4.q5.q0))),(k:Int),w64 (x.z9+1))):=by
  refine uJ (fun s:List aY×Int×Int×Int=>∃n:Nat,n≤i∧s=if n≤k then(a,-1,0,(n:Int))else(a.set k (upS x (w64 (p.z4.q5.q9-p.z4.q5.q0))),(k:Int),w64 (x.z9+1),(n:Int))) (fun s=>((i:Int)-s.2.2.2).toNat) (fun s hs=>?_) ⟨0,by omega,by simp⟩ (by simp[fY];omega)
  obtain⟨n,hn,rfl⟩:=hs
  by_cases hnk:n≤k
  ·rw[if_pos hnk]
   obtain⟨u,hu⟩ : ∃u,so[n]? = some u:=⟨_,bk (by omega)⟩
   unfold iJ
   dsimp only
   rw[decide_eq_true (by omega:(n:Int)<(i:Int)),cond_true,dY,List.getElem?_map,hu,Option.map_some,Option.bind_some,Gx (n:=so.length) (by omega) (by omega)]
   by_cases e:n=k
   ·subst e
    rw[hq]at hu;cases hu
    rw[decide_eq_true (show(itF q).x7=(itF p).x8.z1 from hp),cond_true,dY,hx]
    simp only[Option.bind_some,Int.toNat_natCast]
    refine jq ⟨⟨n+1,by omega,?_⟩,by simp only;omega⟩
    rw[if_neg (by omega)];rfl
   ·have:=h.ne n k u q (by omega) hu hq
    rw[decide_eq_false (by show ¬u.fold=p.z4.z1;omega),cond_false,Option.bind_some]
    refine jq ⟨⟨n+1,by omega,?_⟩,by simp only;omega⟩
    rw[if_pos (by omega)]
  ·rw[if_neg hnk]
   unfold iJ
   dsimp only
   refine bY (fun hlt=>?_) (fun _=>d8 rfl)
   obtain⟨u,hu⟩ : ∃u,so[n]? = some u:=⟨_,bk (by omega)⟩
   have:=h.ne k n q u (by omega) hq hu
   rw[dY,List.getElem?_map,hu,Option.map_some,Option.bind_some,decide_eq_false (by show ¬u.fold=p.z4.z1;omega),cond_false,Option.bind_some,Gx (n:=so.length) (by omega) (by omega)]
   refine jq ⟨⟨n+1,by omega,?_⟩,by simp only;omega⟩
   rw[if_neg (by omega)]
 obtain⟨r,e,rfl⟩:=this
 exact e
def mkS(y:aY)(k d:Int):aY:={q6:=y.q6,z1:=k,z9:=d,q8:=y.q8,q5:=y.q5,j9:=(w64 (y.q5.q9-y.q5.q0)),v8:=y.v8}
def avJ(m:List (Int×Int))(a:List aY)(p:aX):List aY :=
 let k:=Option.getD (xZ p.z4.z1 m) 0
 if 0≤k then match a[k.toNat]? with
  | some x=>a.set k.toNat (upS x (w64 (p.z4.q5.q9-p.z4.q5.q0)))++[mkS p.z4 k (w64 (x.z9+1))]
  | none=>a++[mkS p.z4 k 0]
 else a++[mkS p.z4 k 0]
theorem auj(m:List (Int×Int))(a:List aY)(p:aX):(avJ m a p).length=a.length+1:=by
 unfold avJ
 dsimp only
 split
 ·split<;>simp
 ·simp
theorem bix{so:List aX}(h:a4X so){m:List (Int×Int)}(hm:xZ (-1) m=some (-1)∧∀(k:Nat) q,so[k]? = some q→xZ q.fold m=some (k:Int)) :
  ∃r,r.length=so.length∧loop (l4 so m) ([],0)=some r∧loop (mj (so.map itF)) ([],0)=some r:=by
 have hl:=h.len
 have hroom:∀(b:List aY) (z:aY),b.length≤1000→Ej 72 (b.length+[z].length)=true:=fun b z hb=>D6 (by simp only[fk,List.length_nil];omega) (by simp only[fk,List.length_nil];omega)
 have st1:∀(a:List aY) (i:Nat) p,so[i]? = some p→a.length=i→l4 so m (a,(i:Int))=some (.inl (avJ m a p,((i+1:Nat):Int))):=by
  intro a i p hp ha
  have hi:=dZ hp
  unfold l4 avJ
  dsimp only
  rw[decide_eq_true (Int.ofNat_lt.2 hi),cond_true,dY,hp,Option.bind_some,Gx (n:=so.length) (by omega) (by omega)]
  rcases h.par i p hp with e | ⟨k,q,hk,hq,e⟩
  ·rw[e,hm.1]
   simp only[Option.getD_some,Int.reduceNeg,Int.reduceLE,decide_false,cond_false,Option.bind_some,gw]
   rw[hroom a _ (by omega),cond_true]
   rfl
  ·rw[←e,hm.2 k q hq]
   obtain⟨x,hx⟩ : ∃x,a[k]? = some x:=⟨_,bk (by omega)⟩
   simp only[Option.getD_some,Int.natCast_nonneg,decide_true,cond_true,dY,hx,Option.bind_some,jw,Int.toNat_natCast]
   rw[hroom _ _ (by rw[List.length_set];omega),cond_true]
   rfl
 have st2:∀(a:List aY) (i:Nat) p,so[i]? = some p→a.length=i→mj (so.map itF) (a,(i:Int))=some (.inl (avJ m a p,((i+1:Nat):Int))):=by
  intro a i p hp ha
  have hi:=dZ hp
  unfold mj avJ
  dsimp only
  rw[List.length_map,decide_eq_true (Int.ofNat_lt.2 hi),cond_true,dY,List.getElem?_map,hp,Option.map_some,Option.bind_some,Gx (n:=so.length) (by omega) (by omega)]
  rcases h.par i p hp with e | ⟨k,q,hk,hq,e⟩
  ·rw[aLZ h a i p (by omega) e,e,hm.1]
   simp only[Option.getD_some,Int.reduceNeg,Int.reduceLE,Option.bind_some,gw]
   rw[hroom a _ (by omega),cond_true]
   rfl
  ·obtain⟨x,hx⟩ : ∃x,a[k]? = some x:=⟨_,bk (by omega)⟩
   rw[aNx h a i k p q x (by omega) hk hq e hx,←e,hm.2 k q hq]
   simp only[Option.getD_some,Int.natCast_nonneg,hx,Option.bind_some,jw,Int.toNat_natCast]
   rw[hroom _ _ (by rw[List.length_set];omega),cond_true]
   rfl
 have e1:Ok (loop (l4 so m) ([],0)) (fun r=>r.length=so.length):=by
  refine M7 so.length (fun a i=>a.length=i) (by omega) rfl (fun a i hI h2=>?_)
  by_cases hi:i<so.length
  ·rw[st1 a i _ (bk hi) hI]
   exact jq ⟨hi,rfl,by rw[auj];omega⟩
  ·have:i=so.length:=by omega
   subst this
   unfold l4
   dsimp only
   exact bY (fun h=>by omega) (fun _=>d8 hI)
 obtain⟨r,h1,h2⟩:=e1
 refine⟨r,h2,h1,?_⟩
 rw[←h1]
 refine(Q7 (fun s:List aY×Int=>∃n:Nat,s.2=(n:Int)∧n≤so.length∧s.1.length=n) (fun s hs=>?_) (fun s s' hs e=>?_) ⟨0,rfl,by omega,rfl⟩).symm
 ·obtain⟨a,i⟩:=s
  obtain⟨n,rfl,hn,ha⟩:=hs
  by_cases hi:n<so.length
  ·rw[st1 a n _ (bk hi) ha,st2 a n _ (bk hi) ha]
  ·have:n=so.length:=by omega
   subst this
   unfold l4 mj
   simp
 ·obtain⟨a,i⟩:=s
  obtain⟨n,rfl,hn,ha⟩:=hs
  by_cases hi:n<so.length
  ·rw[st1 a n _ (bk hi) ha]at e
   cases e
   exact⟨n+1,rfl,by omega,by rw[auj];simp only at ha;omega⟩
  ·have:n=so.length:=by omega
   subst this
   unfold l4 at e
   simp at e
theorem a3x{c:aZ}{i:Nat}{y:aY}{p:aX}(h:pcF c i y=some p)(hv:0≤y.q5.q0∧y.q5.q0<y.q5.q9∧y.q5.q9≤1000000000000)(hc:0≤c.q0∧c.q9≤1000000000000) :
  max y.q5.q0 c.q0<min y.q5.q9 c.q9∧p.z4.q6=y.q6∧p.z4.z1=y.z1∧p.z4.q5.q0=max y.q5.q0 c.q0-c.q0∧p.z4.q5.q9=min y.q5.q9 c.q9-c.q0∧p.fold=(i:Int):=by
 unfold pcF at h
 split at h
 ·rename_i g
  cases h
  refine⟨g,rfl,rfl,?_,?_,rfl⟩
  ·simp only;rw[cX (by omega)]
  ·simp only;rw[cX (by omega)]
 ·cases h
theorem aVV{l:List aY}{c:aZ}(hl:l.length≤1000)(hN:Nest l)(hV:SpV l)(hc:0≤c.q0∧c.q9≤1000000000000){D:List aX}(hD:D.Perm (pcs l c))(hs:D.Pairwise lo):a4X D:=by
 have hlen:D.length≤l.length:=by rw[hD.length_eq];exact aPZ l c
 have hm:∀(i:Nat) p,D[i]? = some p→∃(n:Nat) (y:aY),l[n]? = some y∧pcF c n y=some p∧0≤y.q5.q0∧y.q5.q0<y.q5.q9∧y.q5.q9≤1000000000000:=by
  intro i p hp
  obtain⟨n,y,h1,h2⟩:=bcq (hD.mem_iff.1 (ek hp))
  exact⟨n,y,h1,h2,hV y (ek h1)⟩
 have hlt:∀(i j:Nat) p q,i<j→D[i]? = some p→D[j]? = some q→lo p q:=by
  intro i j p q hij hp hq
  have k1:=dZ hp
  have k2:=dZ hq
  have:=List.pairwise_iff_getElem.1 hs i j k1 k2 hij
  rw[bk k1]at hp
  rw[bk k2]at hq
  rwa [Option.some.inj hp,Option.some.inj hq]at this
 refine⟨by omega,fun i p hp=>?_,fun i j p q hij hp hq e=>?_,fun i p hp=>?_⟩
 ·obtain⟨n,y,_,h2,_⟩:=hm i p hp
  rw[agV h2];omega
 ·obtain⟨n,y,h1,h2,_⟩:=hm i p hp
  obtain⟨n',y',h1',h2',_⟩:=hm j q hq
  have:=agV h2
  have:=agV h2'
  have:n=n':=by omega
  subst this
  rw[h1]at h1';cases h1'
  rw[h2]at h2';cases h2'
  exact aNZ (hlt i j p p hij hp hq) (hlt i j p p hij hp hq)
 ·obtain⟨n,y,h1,h2,v⟩:=hm i p hp
  obtain⟨g,e1,e2,e3,e4,e5⟩:=a3x h2 v hc
  rcases hN n y h1 with⟨e,_⟩ | ⟨k,z,e,hk,hz,e6,e7,e8,_⟩
  ·left;rw[e2,e]
  ·right
   have v2:=hV z (ek hz)
   obtain⟨q,hq⟩ : ∃q,pcF c k z=some q:=by
    unfold pcF
    rw[if_pos (by omega)]
    exact⟨_,rfl⟩
   obtain⟨_,f1,_,f3,f4,f5⟩:=a3x hq v2 hc
   obtain⟨j,hj⟩:=List.getElem?_of_mem (hD.mem_iff.2 (bfQ hz hq))
   have hl2:lo q p:=by unfold lo kl;omega
   refine⟨j,q,?_,hj,by rw[f5,e2,e]⟩
   rcases Nat.lt_trichotomy j i with h | h | h
   ·exact h
   ·subst h;rw[hp]at hj;cases hj;omega
   ·exact(aNZ (hlt i j p q h hp hj) hl2).elim
theorem axW{l:List aY}{c:aZ}(hl:l.length≤1000)(hN:Nest l)(hV:SpV l)(hc:0≤c.q0∧c.q9≤1000000000000) :
  ∃r,r.length≤l.length∧Dz l c=some r∧sK ((pcs l c).map itF)=some r:=by
 have hpl:=aPZ l c
 obtain⟨D,h1,h2,h3,h4⟩:=bhQ (pcs l c) (by omega) (a5Y l c)
 have so:=aVV hl hN hV hc h3 h4
 obtain⟨m,hm,hm2⟩:=bdz so
 obtain⟨r,g1,g2,g3⟩:=bix so hm2
 refine⟨r,by rw[g1,h3.length_eq];exact hpl,?_,?_⟩
 ·unfold Dz
  rw[bgX l c hl,Option.bind_some,h1,Option.bind_some,hm,Option.bind_some,g2,Option.bind_some]
 ·unfold sK
  rw[h2,Option.bind_some,g3,Option.bind_some]
theorem aoZ:∀ {x y z:List UInt8},Op.bytesLess x y=true→Op.bytesLess y z=true→Op.bytesLess x z=true
 | [],y,z,h1,h2=>by
  cases z with
  | nil=>cases y<;>simp[Op.bytesLess]at h2
  | cons c z=>simp[Op.bytesLess]
 | a::x,[],z,h1,h2=>by simp[Op.bytesLess]at h1
 | a::x,b::y,[],h1,h2=>by simp[Op.bytesLess]at h2
 | a::x,b::y,c::z,h1,h2=>by
  simp only[Op.bytesLess,Bool.or_eq_true,cw,decide_eq_true_eq,beq_iff_eq]at h1 h2 ⊢
  rcases h1 with h1 | ⟨rfl,h1⟩<;>rcases h2 with h2 | ⟨rfl,h2⟩
  ·exact .inl (UInt8.lt_trans h1 h2)
  ·exact .inl h1
  ·exact .inl h2
  ·exact .inr ⟨rfl,aoZ h1 h2⟩
theorem arQ{a b c:ByteArray}(h1:sLt a b=true)(h2:sLt b c=true):sLt a c=true:=aoZ h1 h2
def stL(x y:cV):Prop:=sLt x.q8 y.q8=true∨(x.q8=y.q8∧x.j8<y.j8)
theorem bgx{x y z:cV}(h1:stL x y)(h2:stL y z):stL x z:=by
 rcases h1 with h1 | ⟨h1,g1⟩<;>rcases h2 with h2 | ⟨h2,g2⟩
 ·exact .inl (arQ h1 h2)
 ·exact .inl (h2▸h1)
 ·exact .inl (h1.symm▸h2)
 ·exact .inr ⟨h1.trans h2,by omega⟩
theorem a1Z{x y:cV}(h:stL x y)(e:x.q8=y.q8):x.j8<y.j8:=by
 rcases h with h | h
 ·exact absurd e (ahq h).2
 ·exact h.2
structure StV(l:List cV):Prop where
 srt:l.Pairwise stL
 rng:∀x∈l,0≤x.j8∧x.j8≤1000000000000
theorem aRQ(l:List cV)(h:l.length≤9223372036854775807)(hx:∀x∈l,okN x.q8):Ok (rz l) (fun r=>r=0→StV l):=by
 have adj:Ok (rz l) (fun r=>r=0→(∀(i:Nat) x y,l[i]? = some x→l[i+1]? = some y→stL x y)∧∀x∈l,0≤x.j8∧x.j8≤1000000000000):=by
  unfold rz
  refine f8 (Q:=s8 (fun _=>(∀(i:Nat) x y,l[i]? = some x→l[i+1]? = some y→stL x y)∧∀x∈l,0≤x.j8∧x.j8≤1000000000000) (fun r=>r≠0)) (axJ l.length (fun n=>(∀(i:Nat) x y,i+1<n→l[i]? = some x→l[i+1]? = some y→stL x y)∧∀(i:Nat) x,i<n→l[i]? = some x→0≤x.j8∧x.j8≤1000000000000) h ⟨fun i x y hi=>by omega,fun i x hi=>by omega⟩ (fun n hI h2=>?_)) (fun _ hq=>cq (fun _=>hq)) (fun r hr=>cq (fun e=>absurd e hr))
  unfold xQ
  refine bY (fun hi=>?_) (fun hi=>d8 ⟨fun i x y hx hy=>hI.1 i x y (by have:=dZ hy;omega) hx hy,fun x hx=>?_⟩)
  ·refine ax (Z0 (by omega)) (fun y hy=>?_)
   refine ax (nj _ (hx _ (ek hy))) (fun r _=>?_)
   refine cQ (fun h0=>d8 h0) (fun _=>?_)
   refine ax (Q:=fun v=>v=false→0≤y.j8∧y.j8≤1000000000000) ?_ (fun v hv=>?_)
   ·refine bY (fun _=>cq (by simp)) (fun g1=>?_)
    refine bY (fun _=>cq (by simp)) (fun g2=>?_)
    exact ax (T1 _) (fun b _=>cq (fun _=>⟨by omega,by omega⟩))
   refine cj (fun _=>d8 (show(2:Int)≠0 by omega)) (fun hv0=>?_)
   refine ax (Q:=fun v=>v=false→∀(i:Nat) x,i+1=n→l[i]? = some x→stL x y) ?_ (fun v hv2=>?_)
   ·refine bY (fun g=>?_) (fun g=>cq (fun _ i x hin _=>by omega))
    obtain⟨k,rfl⟩ : ∃k,n=k+1:=⟨n-1,by omega⟩
    have e1:w64 (((k+1:Nat):Int)-1)=(k:Int):=by rw[cX (by omega)];omega
    obtain⟨x,hx1⟩ : ∃x,l[k]? = some x:=⟨_,bk (by omega)⟩
    rw[e1,dY,hx1]
    simp only[Option.bind_some]
    unfold uZ
    rw[aQK,Option.bind_some,agY,Option.bind_some,Zz _ (Nat.le_of_ble_eq_true rfl),Option.bind_some,Option.bind_some]
    refine bY (fun _=>cq (by simp)) (fun g2=>?_)
    have hst:stL x y:=by
     simp only[orI]at g2
     cases s1:sLt x.q8 y.q8 with
     | true=>exact .inl s1
     | false =>
      cases s2:sLt y.q8 x.q8 with
      | true=>simp[s1,s2]at g2
      | false =>
       have e3:=Y8 x.q8 y.q8
       rw[s1,s2]at e3
       simp at e3
       refine .inr ⟨e3,?_⟩
       simp only[s1,s2]at g2
       by_cases g3:x.j8<y.j8
       ·exact g3
       ·by_cases g4:y.j8<x.j8<;>simp[g3,g4]at g2
    have fin:∀b:Bool,Ok (some b:Option Bool) (fun v=>v=false→∀(i:Nat) x,i+1=k+1→l[i]? = some x→stL x y):=fun b=>cq (fun _ i x' hi hx'=>by
     have:i=k:=by omega
     subst this
     rw[hx1]at hx';cases hx';exact hst)
    refine bY (fun _=>fin _) (fun _=>fin _)
   refine cj (fun _=>d8 (show(11:Int)≠0 by omega)) (fun hv1=>?_)
   rw[Gx (n:=l.length) (by omega) h]
   refine jq ⟨by omega,rfl,fun i x z hi hx hz=>?_,fun i x hi hx=>?_⟩
   ·by_cases e:i+1=n
    ·subst e;rw[hy]at hz;cases hz
     exact hv2 hv1 i x rfl hx
    ·exact hI.1 i x z (by omega) hx hz
   ·by_cases e:i=n
    ·subst e;rw[hy]at hx;cases hx;exact hv hv0
    ·exact hI.2 i x (by omega) hx
  ·obtain⟨i,hi2⟩:=List.getElem?_of_mem hx
   exact hI.2 i x (by have:=dZ hi2;omega) hi2
 refine adj.mono (fun r hr e=>?_)
 obtain⟨h1,h2⟩:=hr e
 refine⟨?_,h2⟩
 have chain:∀(k i:Nat) x y,l[i]? = some x→l[i+k+1]? = some y→stL x y:=by
  intro k
  induction k with
  | zero=>intro i x y hx hy;exact h1 i x y hx hy
  | succ k ih =>
   intro i x y hx hy
   have:=dZ hy
   obtain⟨z,hz⟩ : ∃z,l[i+k+1]? = some z:=⟨_,bk (by omega)⟩
   exact bgx (ih i x z hx hz) (h1 (i+k+1) z y hz (by rw[←hy];congr 1))
 rw[List.pairwise_iff_getElem]
 intro i j hi hj hij
 exact chain (j-i-1) i _ _ (bk hi) (by rw[show i+(j-i-1)+1=j by omega];exact bk hj)
def stN(n:ByteArray)(a v:Int):cV:={q8:=n,j8:=a,j2:=v}
def nP(c:aZ)(a:List cV)(x:cV):List cV :=
 if c.q9≤x.j8 then a else match a.getLast? with
  | some o=>if o.q8=x.q8∧x.j8≤c.q0 then a.dropLast++[stN x.q8 (max (x.j8-c.q0) 0) x.j2]else a++[stN x.q8 (max (x.j8-c.q0) 0) x.j2]
  | none=>a++[stN x.q8 (max (x.j8-c.q0) 0) x.j2]
def R7(c:aZ)(x:cV):Option cV→Prop
 | none=>True
 | some z=>¬z.q8=x.q8∨c.q0<z.j8
instance (c:aZ) (x:cV) (z:Option cV):Decidable (R7 c x z):=by unfold R7;cases z<;>infer_instance
def nR(c:aZ)(a:List cV)(x:cV)(z:Option cV):List cV :=
 if x.j8≤c.q0 then(if R7 c x z then a++[stN x.q8 0 x.j2]else a)else if x.j8<c.q9 then a++[stN x.q8 (x.j8-c.q0) x.j2]else a
def fR(c:aZ):List cV→List cV→List cV
 | [],a=>a
 | x::r,a=>fR c r (nR c a x r.head?)
theorem amz(c:aZ)(hc:c.q0<c.q9):∀(ys:List cV),ys.Pairwise stL→∀a:List cV,(∀o∈a,∀y∈ys,o.q8=y.q8→c.q0<y.j8) →
  ys.foldl (nP c) a=fR c ys a∧∀y r o,ys=y::r→o.q8=y.q8→y.j8≤c.q0→ys.foldl (nP c) (a++[o])=fR c ys a
 | [],_,a,_=>⟨rfl,fun y r o e=>by cases e⟩
 | x::r,hp,a,hJ=>by
  have hp':=List.pairwise_cons.1 hp
  have ih:=amz c hc r hp'.2
  have hJr:∀o∈a,∀y∈r,o.q8=y.q8→c.q0<y.j8:=fun o ho y hy=>hJ o ho y (List.mem_cons_of_mem _ hy)
  have mid:x.j8≤c.q0→r.foldl (nP c) (a++[stN x.q8 0 x.j2])=fR c (x::r) a:=by
   intro hx
   simp only[fR,nR,if_pos hx]
   by_cases hl:R7 c x r.head?
   ·rw[if_pos hl]
    refine(ih _ (fun o ho y hy e=>?_)).1
    rcases jk.1 ho with ho | ho
    ·exact hJr o ho y hy e
    ·simp only[ew]at ho;subst ho
     cases r with
     | nil=>simp at hy
     | cons z r =>
      simp only[List.head?_cons,R7]at hl
      have hxz:=hp'.1 z (by simp)
      rcases iw.1 hy with rfl | hy
      ·rcases hl with hl | hl
       ·exact absurd e.symm hl
       ·exact hl
      ·have hzy:=(List.pairwise_cons.1 hp'.2).1 y hy
       have e1:x.q8=z.q8:=by
        rcases hxz with h | h
        ·rcases hzy with h2 | h2
         ·exact absurd e (ahq (arQ h h2)).2
         ·rw[h2.1]at h;exact absurd e (ahq h).2
        ·exact h.1
       rcases hl with hl | hl
       ·exact absurd e1.symm hl
       ·have:=a1Z hzy (e1.symm.trans e);omega
   ·rw[if_neg hl]
    cases r with
    | nil=>exact absurd trivial hl
    | cons z r =>
     simp only[List.head?_cons,R7,not_or,Decidable.not_not]at hl
     exact(ih a hJr).2 z r _ rfl hl.1.symm (by omega)
  have e0:x.j8≤c.q0→max (x.j8-c.q0) 0=0:=fun h=>by omega
  refine⟨?_,fun y r' o e hn hy=>?_⟩
  ·rw[List.foldl_cons]
   by_cases hx:x.j8≤c.q0
   ·rw[←mid hx]
    congr 1
    unfold nP
    rw[if_neg (by omega),e0 hx]
    cases hg:a.getLast? with
    | none=>rfl
    | some o =>
     simp only[]
     rw[if_neg (fun h=>by have:=hJ o (List.mem_of_getLast? hg) x (by simp) h.1;omega)]
   ·by_cases hx2:x.j8<c.q9
    ·have e1:nP c a x=a++[stN x.q8 (x.j8-c.q0) x.j2]:=by
      unfold nP
      rw[if_neg (by omega),show max (x.j8-c.q0) 0=x.j8-c.q0 by omega]
      cases hg:a.getLast? with
      | none=>rfl
      | some o =>
       simp only[]
       rw[if_neg (fun h=>hx h.2)]
     rw[e1]
     simp only[fR,nR,if_neg hx,if_pos hx2]
     refine(ih _ (fun o ho y hy e=>?_)).1
     rcases jk.1 ho with ho | ho
     ·exact hJr o ho y hy e
     ·simp only[ew]at ho;subst ho
      have:=a1Z (hp'.1 y hy) e;omega
    ·have e1:nP c a x=a:=by unfold nP;rw[if_pos (by omega)]
     rw[e1]
     simp only[fR,nR,if_neg hx,if_neg hx2]
     exact(ih a hJr).1
  ·cases e
   rw[List.foldl_cons,←mid hy]
   congr 1
   unfold nP
   rw[if_neg (by omega),e0 hy]
   simp[hn,hy]
theorem bdW(c:aZ)(a:List cV)(x:cV):(nP c a x).length≤a.length+1:=by
 unfold nP
 split
 ·omega
 ·split
  ·split<;>simp<;>omega
  ·simp
theorem bfK(c:aZ)(a:List cV)(x:cV)(z:Option cV):(nR c a x z).length≤a.length+1:=by
 unfold nR
 split
 ·split<;>simp
 ·split<;>simp
theorem bdJ(l:List cV)(c:aZ)(hl:l.length≤1000)(hr:∀x∈l,0≤x.j8∧x.j8≤1000000000000)(hc:0≤c.q0∧c.q0≤1000000000000):loop (zK l c) ([],0)=some (l.foldl (nP c) [])∧(l.foldl (nP c) []).length≤l.length:=by
 have:Ok (loop (zK l c) ([],0)) (fun r=>r=l.foldl (nP c) []∧r.length≤l.length):=by
  refine M7 l.length (fun a i=>a=(l.take i).foldl (nP c) []∧a.length≤i) (by omega) ⟨rfl,by simp⟩ (fun a i hI h2=>?_)
  unfold zK
  dsimp only
  refine bY (fun hi=>?_) (fun hi=>d8 ?_)
  ·have hi':i<l.length:=by omega
   obtain⟨y,hy⟩ : ∃y,l[i]? = some y:=⟨_,bk hi'⟩
   have hy2:=hr y (ek hy)
   have hla:=hI.2
   rw[dY,hy,Option.bind_some,Gx (n:=l.length) hi' (by omega),cX (n:=y.j8-c.q0) (by omega)]
   have hroom:∀z:cV,Ej 32 (a.length+[z].length)=true:=fun z=>D6 (by simp only[fk,List.length_nil];omega) (by simp only[fk,List.length_nil];omega)
   refine ax (Q:=fun b=>b=nP c a y) ?_ (fun b hb=>jq ⟨hi',rfl,?_,?_⟩)
   ·unfold nP
    refine bY (fun g=>cq (by rw[if_pos g])) (fun g=>?_)
    rw[if_neg g]
    rcases List.eq_nil_or_concat a with e | ⟨b,o,e⟩
    ·subst e
     simp only[List.length_nil]at hroom
     simp only[List.length_nil,Int.natCast_zero,Int.lt_irrefl,decide_false,cond_false,Option.bind_some,List.getLast?_nil]
     rw[hroom,cond_true]
     exact cq rfl
    ·rw[List.concat_eq_append]at e
     subst e
     have hla2:b.length+1≤i:=by simpa using hla
     have e1:w64 (((b++[o]).length:Int)-1)=(b.length:Int):=by rw[cX (by rw[ck,fk,List.length_nil];omega)];simp
     have e2:(b++[o])[b.length]? = some o:=by simp
     rw[decide_eq_true (by rw[ck,fk,List.length_nil];omega:(0:Int)<((b++[o]).length:Int)),cond_true,e1,dY,e2]
     simp only[Option.bind_some,List.getLast?_append,List.getLast?_singleton,Option.some_or,Int.toNat_natCast]
     by_cases g1:o.q8=y.q8
     ·by_cases g2:y.j8≤c.q0
      ·rw[decide_eq_true g1,cond_true,decide_eq_true (by omega:max (y.j8-c.q0) 0=0),Option.bind_some,cond_true,if_pos ⟨g1,g2⟩]
       exact cq (by simp[stN])
      ·rw[decide_eq_true g1,cond_true,decide_eq_false (by omega : ¬max (y.j8-c.q0) 0=0),Option.bind_some,cond_false,if_neg (fun h=>g2 h.2),hroom,cond_true]
       exact cq rfl
     ·rw[decide_eq_false g1,cond_false,Option.bind_some,cond_false,if_neg (fun h=>g1 h.1),hroom,cond_true]
      exact cq rfl
   ·subst hb
    simp only
    rw[List.take_add_one,hy,Option.toList_some,List.foldl_append,←hI.1];rfl
   ·subst hb
    have:=bdW c a y
    simp only;omega
  ·have:i=l.length:=by omega
   subst this
   rw[List.take_length]at hI
   exact hI
 obtain⟨r,e,rfl,e2⟩:=this
 exact⟨e,e2⟩

end Go.VM
