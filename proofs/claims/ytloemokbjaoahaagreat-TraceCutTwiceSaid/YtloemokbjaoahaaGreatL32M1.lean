/- The law holds: plain mathematics on what the functions compute. -/
import Derived.Test.YtloemokbjaoahaaGreatL32B
namespace Go.VM
def EQ{α ρ:Type}(g:Nat→α→Option ρ):List α→Nat→Option ρ
 | [],_=>none
 | y::ys,i=>match g i y with
  | some r=>some r
  | none=>EQ g ys (i+1)
theorem abX{α ρ:Type}(g:Nat → α → Option ρ)(e:ρ):∀(xs:List α) (i:Nat),aEY (fun i y (_:Unit) => match g i y with | some r => Sum.inr r | none => .inl ()) (fun _ => e) xs i ()=(EQ g xs i).getD e
 | [],_=>rfl
 | y::ys,i=>by
  simp only[aEY,EQ]
  cases g i y with
  | some r=>rfl
  | none=>exact abX g e ys (i+1)
theorem RY{α ρ:Type}{step:Int→Option (Int ⊕ ρ)}(xs:List α)(g:Nat→α→Option ρ)(e:ρ)(hl:xs.length<i6)
  (h1:∀(i:Nat) y,xs[i]? = some y → step (i:Int)=some (match g i y with | some r => .inr r | none => .inl ((i:Int)+1))) (h2:step (xs.length:Int)=some (.inr e)):loop step 0=some ((EQ g xs 0).getD e) := by
 have := aOx (σ := Unit) (step := step) xs (fun i _ => (i:Int)) (fun i y _ => match g i y with | some r => .inr r | none => .inl ()) (fun _ => e) hl
  (fun i y s hy=>by
   rw[h1 i y hy]
   cases g i y<;>simp)
  (fun _=>h2) ()
 rw[show(0:Int)=((0:Nat):Int)from rfl,this,abX]
theorem dZ{α:Type}{xs:List α}{i:Nat}{y:α}(h:xs[i]? = some y):i<xs.length:=(fk.1 h).1
theorem apz{i:Nat}(h:i<9223372036854775807):w64 ((i:Int)+1)=(i:Int)+1:=bQ (by omega)
end Go.VM
namespace Go.VM
def Ok{α:Type}(x:Option α)(P:α→Prop):Prop:=∃r,x=some r∧P r
def Yes{α:Type}:α→Prop:=fun _=>True
def tq{α β:Type}(A:α→Prop)(B:β→Prop):α ⊕ β→Prop
 | .inl a=>A a
 | .inr b=>B b
theorem aV{α:Type}{P:α→Prop}{r:α}(h:P r):Ok (some r) P:=⟨r,rfl,h⟩
theorem n5{α β:Type}{A:α→Prop}{B:β→Prop}{a:α}(h:A a):Ok (some (.inl a)) (tq A B):=⟨_,rfl,h⟩
theorem eW{α β:Type}{A:α→Prop}{B:β→Prop}{b:β}(h:B b):Ok (some (.inr b)) (tq A B):=⟨_,rfl,h⟩
theorem aq{α β:Type}{x:Option α}{f:α→Option β}{Q:α→Prop}{P:β→Prop}(hx:Ok x Q)(hf:∀r,Q r→Ok (f r) P):Ok (x.bind f) P:=by
 obtain⟨r,h1,h2⟩:=hx
 subst h1;exact hf r h2
theorem f8{α β γ:Type}{x:Option (α ⊕ γ)}{f:α ⊕ γ→Option β}{Q:α ⊕ γ→Prop}{P:β→Prop}(hx:Ok x Q)(hf:∀r,Q (.inl r)→Ok (f (.inl r)) P)(hg:∀r,Q (.inr r)→Ok (f (.inr r)) P):Ok (x.bind f) P :=
 aq hx (fun r => match r with | .inl a => hf a | .inr b => hg b)
theorem aVX{α β:Type}{x:Option α}{f:α→Option β}{P:β→Prop}(hx:Ok x Yes)(hf:∀r,x=some r→Ok (f r) P):Ok (x.bind f) P:=by
 obtain⟨r,h1,h2⟩:=hx
 subst h1;exact hf r rfl
theorem bK{α:Type}{b:Bool}{x y:Option α}{P:α→Prop}(h1:b=true→Ok x P)(h2:b=false→Ok y P):Ok (cond b x y) P:=by
 cases b
 ·exact h2 rfl
 ·exact h1 rfl
theorem Ok.mono{α:Type}{x:Option α}{P Q:α→Prop}(h:Ok x P)(hq:∀r,P r→Q r):Ok x Q:=by
 obtain⟨r,h1,h2⟩:=h;exact⟨r,h1,hq r h2⟩
theorem Ok.yes{α:Type}{x:Option α}{P:α→Prop}(h:Ok x P):Ok x Yes:=h.mono (fun _ _=>trivial)
theorem Ok.of_eq{α:Type}{x:Option α}{P:α→Prop}{r:α}(h:Ok x P)(e:x=some r):P r:=by
 obtain⟨r',h1,h2⟩:=h;rw[e]at h1;cases h1;exact h2
theorem cK{α:Type}{xs:List α}{i:Int}(h1:0≤i:=by first | assumption | omega | (rw[bQ]<;>omega))(h2:i<xs.length:=by first | assumption | omega | (rw[bQ]<;>omega)):Ok (idx xs i) (fun y=>xs[i.toNat]? = some y):=by
 obtain⟨n,rfl⟩:=Int.eq_ofNat_of_zero_le h1
 have h3:n<xs.length:=by omega
 rw[dX]
 exact⟨xs[n],by simp[h3],by simp[h3]⟩
theorem vV{S ρ:Type}{step:S→Option (S ⊕ ρ)}(Inv:S→Prop)(m:S→Nat){Post:ρ→Prop}
  (h:∀s,Inv s→Ok (step s) (tq (fun s'=>Inv s'∧m s'<m s) Post)) {s:S} (hs:Inv s) (hm:m s<i6):Ok (loop step s) Post:=by
 refine aTW Inv m Post (fun s hs=>?_) hs hm
 obtain⟨r,h1,h2⟩:=h s hs
 cases r with
 | inl a=>exact Or.inl ⟨a,h1,h2⟩
 | inr b=>exact Or.inr ⟨b,h1,h2⟩
theorem xX{ρ:Type}{step:Int→Option (Int ⊕ ρ)}(n:Nat){Post:ρ→Prop}(hn:n≤9223372036854775807)
  (h:∀i:Int,0≤i→i≤n→Ok (step i) (tq (fun a=>i<n∧a=i+1) Post)):Ok (loop step 0) Post:=by
 refine vV (fun i:Int=>0≤i∧i≤(n:Int)) (fun i:Int=>((n:Int)-i).toNat) (fun i hi=>(h i hi.1 hi.2).mono ?_) ⟨by omega,by omega⟩ (by simp[i6];omega)
 rintro (a | b) hr
 ·obtain⟨h1,rfl⟩ : i<n∧a=i+1:=hr
  exact⟨⟨by omega,by omega⟩,by omega⟩
 ·exact hr
theorem cZ{α:Type}{r:α}:Ok (some r) Yes:=⟨r,rfl,trivial⟩
theorem cY{α β:Type}{B:β→Prop}{a:α}:Ok (some (.inl a)) (tq Yes B):=⟨_,rfl,trivial⟩
theorem cQ{α β:Type}{A:α→Prop}{b:β}:Ok (some (.inr b)) (tq A Yes):=⟨_,rfl,trivial⟩
theorem cJ{ρ:Type}{i:Int}{n:Nat}{P:ρ→Prop}(h1:0≤i:=by first | assumption | omega | (rw[bQ]<;>omega))(h2:i<(n:Int):=by first | assumption | omega | (rw[bQ]<;>omega))(h3:n≤9223372036854775807:=by first | assumption | omega | (rw[bQ]<;>omega)):Ok (some (.inl (w64 (i+1)))) (tq (fun a:Int=>i<(n:Int)∧a=i+1) P) :=
 n5 ⟨h2,bQ (by omega)⟩
theorem a0{α:Type}{p:Prop}[Decidable p]{x y:Option α}{P:α→Prop}(h1:p→Ok x P)(h2 : ¬p→Ok y P):Ok (cond (decide p) x y) P :=
 bK (fun h=>h1 (of_decide_eq_true h)) (fun h=>h2 (of_decide_eq_false h))
theorem bX{α:Type}{p:Prop}[Decidable p]{x y:Option α}{P:α→Prop}(h1 : ¬p→Ok x P)(h2:p→Ok y P):Ok (cond (!decide p) x y) P:=by
 by_cases h:p
 ·simpa[h]using h2 h
 ·simpa[h]using h1 h
theorem dq{α:Type}{b:Bool}{x y:Option α}{P:α→Prop}(h1:b=false→Ok x P)(h2:b=true→Ok y P):Ok (cond (!b) x y) P:=by
 cases b
 ·exact h1 rfl
 ·exact h2 rfl
abbrev Tot{α:Type}(x:Option α):Prop:=Ok x Yes
theorem VY{σ ρ:Type}{step:σ×Int→Option ((σ×Int) ⊕ ρ)}(n:Nat)(Inv:σ→Int→Prop){Post:ρ→Prop}(hn:n≤9223372036854775807){s0:σ}(h0:Inv s0 0)
  (h:∀(s:σ) (i:Int),Inv s i→0≤i→i≤n→Ok (step (s,i)) (tq (fun a=>i<n∧a.2=i+1∧Inv a.1 (i+1)) Post)):Ok (loop step (s0,0)) Post:=by
 refine vV (fun s:σ×Int=>Inv s.1 s.2∧0≤s.2∧s.2≤(n:Int)) (fun s:σ×Int=>((n:Int)-s.2).toNat) (fun s hi=>(h s.1 s.2 hi.1 hi.2.1 hi.2.2).mono ?_) ⟨h0,by simp,by simp⟩ (by simp[i6];omega)
 rintro (⟨a,j⟩ | b) hr
 ·obtain⟨h1,h2,h3⟩ : s.2<n∧j=s.2+1∧Inv a (s.2+1):=hr
  subst h2
  exact⟨⟨h3,by simp;omega,by simp;omega⟩,by simp;omega⟩
 ·exact hr
theorem R5{σ ρ:Type}{s:σ}{i:Int}{n:Nat}{Inv:σ→Int→Prop}{P:ρ→Prop}(hI:Inv s (i+1))(h1:0≤i)(h2:i<(n:Int))(h3:n≤9223372036854775807):Ok (some (.inl (s,w64 (i+1)))) (tq (fun a:σ×Int=>i<(n:Int)∧a.2=i+1∧Inv a.1 (i+1)) P) :=
 n5 ⟨h2,bQ (by omega),hI⟩
theorem aCQ{ρ:Type}{step:Int→Option (Int ⊕ ρ)}(n:Nat)(Inv:Int→Prop){Post:ρ→Prop}(hn:n≤9223372036854775807)(h0:Inv 0)
  (h:∀i:Int,Inv i→0≤i→i≤n→Ok (step i) (tq (fun a=>i<n∧a=i+1∧Inv (i+1)) Post)):Ok (loop step 0) Post:=by
 refine vV (fun i:Int=>Inv i∧0≤i∧i≤(n:Int)) (fun i:Int=>((n:Int)-i).toNat) (fun i hi=>(h i hi.1 hi.2.1 hi.2.2).mono ?_) ⟨h0,by omega,by omega⟩ (by simp[i6];omega)
 rintro (a | b) hr
 ·obtain⟨h1,rfl,h3⟩ : i<n∧a=i+1∧Inv (i+1):=hr
  exact⟨⟨h3,by omega,by omega⟩,by omega⟩
 ·exact hr
theorem azV{ρ:Type}{i:Int}{n:Nat}{Inv:Int→Prop}{P:ρ→Prop}(hI:Inv (i+1))(h1:0≤i)(h2:i<(n:Int))(h3:n≤9223372036854775807):Ok (some (.inl (w64 (i+1)))) (tq (fun a:Int=>i<(n:Int)∧a=i+1∧Inv (i+1)) P) :=
 n5 ⟨h2,bQ (by omega),hI⟩
theorem Gq{b n:Nat}(h1:n*b≤140737488355328)(h2:n≤9223372036854775807):H7 b n=true:=by
 simp only[H7,dk]
 exact⟨Nat.ble_eq_true_of_le h1,Nat.ble_eq_true_of_le h2⟩
theorem sZ(s:az):lz s=some (decide (0≤s.q5∧s.q5<s.q8∧s.q8≤1000000000000)):=by
 unfold lz
 by_cases h1:0≤s.q5<;>by_cases h2:s.q5<s.q8<;>by_cases h3:s.q8≤1000000000000<;>simp[h1,h2,h3]
theorem VZ(c:Int):Ok (Bz c) Yes:=by
 unfold Bz jY pq
 repeat' (first | (with_reducible first | intro _ | exact cZ | exact cQ | exact cY | exact cJ | refine aq cK fun _ _=>?_ | apply bX | apply a0 | apply dq | apply bK | apply aq (Q:=Yes)) | dsimp only)
theorem l7(s:ByteArray)(h:s.size≤9223372036854775807):Ok (rz s) Yes:=by
 unfold rz
 refine aq (Q:=Yes) ?_ (fun v _=>?_)
 ·repeat' (first | (with_reducible first | intro _ | exact cZ | exact cQ | exact cY | exact cJ | refine aq cK fun _ _=>?_ | apply bX | apply a0 | apply dq | apply bK | apply aq (Q:=Yes)) | dsimp only)
 refine bK (fun _=>aV trivial) (fun _=>?_)
 have e:s.data.toList.length=s.size:=by rw[Array.length_toList];rfl
 refine f8 (Q:=Yes) (xX s.size h fun i h1 h2=>?_) (fun _ _=>?_) (fun _ _=>?_)
 ·unfold HV
  repeat' (first | (with_reducible first | intro _ | exact cZ | exact cQ | exact cY | exact cJ | refine aq cK fun _ _=>?_ | apply bX | apply a0 | apply dq | apply bK | (refine Ok.yes (cK ?_ (by rw[e];(first | assumption | omega | rw[bQ]<;>omega)))<;>(first | assumption | omega | rw[bQ]<;>omega)) | (refine Ok.yes (VZ _)<;>(first | assumption | omega | rw[bQ]<;>omega)) | apply aq (Q:=Yes)) | dsimp only)
 ·repeat' (first | (with_reducible first | intro _ | exact cZ | exact cQ | exact cY | exact cJ | refine aq cK fun _ _=>?_ | apply bX | apply a0 | apply dq | apply bK | apply aq (Q:=Yes)) | dsimp only)
 ·repeat' (first | (with_reducible first | intro _ | exact cZ | exact cQ | exact cY | exact cJ | refine aq cK fun _ _=>?_ | apply bX | apply a0 | apply dq | apply bK | apply aq (Q:=Yes)) | dsimp only)
abbrev okN(s:ByteArray):Prop:=s.size≤9223372036854775807
theorem G5(t:i5)(h:okN t.q7):Ok (xQ t) Yes:=by
 unfold xQ
 repeat' (first | (with_reducible first | intro _ | exact cZ | exact cQ | exact cY | exact cJ | refine aq cK fun _ _=>?_ | apply bX | apply a0 | apply dq | apply bK | (refine Ok.yes (l7 _ h)<;>(first | assumption | omega | rw[bQ]<;>omega)) | apply aq (Q:=Yes)) | dsimp only)
theorem DV(s:az):Ok (lz s) Yes:=by
 unfold lz
 repeat' (first | (with_reducible first | intro _ | exact cZ | exact cQ | exact cY | exact cJ | refine aq cK fun _ _=>?_ | apply bX | apply a0 | apply dq | apply bK | apply aq (Q:=Yes)) | dsimp only)
theorem H1(a b:Int):Ok (jJ a b) Yes:=by
 unfold jJ yQ
 repeat' (first | (with_reducible first | intro _ | exact cZ | exact cQ | exact cY | exact cJ | refine aq cK fun _ _=>?_ | apply bX | apply a0 | apply dq | apply bK | apply aq (Q:=Yes)) | dsimp only)
theorem PQ(l:List Int)(h:l.length≤9223372036854775807):Ok (vK l) Yes:=by
 unfold vK
 refine f8 (Q:=Yes) (xX l.length (by omega) fun i h1 h2=>?_) (fun _ _=>?_) (fun _ _=>?_)
 ·unfold BQ
  repeat' (first | (with_reducible first | intro _ | exact cZ | exact cQ | exact cY | exact cJ | refine aq cK fun _ _=>?_ | apply bX | apply a0 | apply dq | apply bK | apply aq (Q:=Yes)) | dsimp only)
 ·repeat' (first | (with_reducible first | intro _ | exact cZ | exact cQ | exact cY | exact cJ | refine aq cK fun _ _=>?_ | apply bX | apply a0 | apply dq | apply bK | apply aq (Q:=Yes)) | dsimp only)
 ·repeat' (first | (with_reducible first | intro _ | exact cZ | exact cQ | exact cY | exact cJ | refine aq cK fun _ _=>?_ | apply bX | apply a0 | apply dq | apply bK | apply aq (Q:=Yes)) | dsimp only)
theorem J3(a b:aX):Ok (rq a b) Yes:=by
 unfold rq
 repeat' (first | (with_reducible first | intro _ | exact cZ | exact cQ | exact cY | exact cJ | refine aq cK fun _ _=>?_ | apply bX | apply a0 | apply dq | apply bK | (refine Ok.yes (H1 _ _)<;>(first | assumption | omega | rw[bQ]<;>omega)) | (refine Ok.yes (PQ _ (Nat.le_of_ble_eq_true rfl))<;>(first | assumption | omega | rw[bQ]<;>omega)) | apply aq (Q:=Yes)) | dsimp only)
theorem rJ(l:List ByteArray)(h:l.length≤9223372036854775807)(hx:∀x∈l,okN x):Ok (qW l) Yes:=by
 unfold qW
 refine a0 (fun _=>cZ) (fun _=>?_)
 refine f8 (Q:=Yes) (xX l.length (by omega) fun i h1 h2=>?_) (fun _ _=>?_) (fun _ _=>?_)
 ·unfold EY
  repeat' (first | (with_reducible first | intro _ | exact cZ | exact cQ | exact cY | exact cJ | refine aq cK fun _ _=>?_ | apply bX | apply a0 | apply dq | apply bK | (refine Ok.yes (l7 _ (hx _ (ew (by assumption))))<;>(first | assumption | omega | rw[bQ]<;>omega)) | apply aq (Q:=Yes)) | dsimp only)
 ·repeat' (first | (with_reducible first | intro _ | exact cZ | exact cQ | exact cY | exact cJ | refine aq cK fun _ _=>?_ | apply bX | apply a0 | apply dq | apply bK | (refine Ok.yes (l7 _ (hx _ (ew (by assumption))))<;>(first | assumption | omega | rw[bQ]<;>omega)) | apply aq (Q:=Yes)) | dsimp only)
 ·repeat' (first | (with_reducible first | intro _ | exact cZ | exact cQ | exact cY | exact cJ | refine aq cK fun _ _=>?_ | apply bX | apply a0 | apply dq | apply bK | (refine Ok.yes (l7 _ (hx _ (ew (by assumption))))<;>(first | assumption | omega | rw[bQ]<;>omega)) | apply aq (Q:=Yes)) | dsimp only)
structure Siz(t:cW):Prop where
 th:t.z3.length≤9223372036854775807
 sl:t.z6.length≤9223372036854775807
 st:t.j7.length≤9223372036854775807
 fl:t.v9.length≤9223372036854775807
 sa:t.z9.length≤9223372036854775807
 sp:t.w4.length≤9223372036854775807
 bl:t.j5.length≤9223372036854775807
 lo:t.x4.length≤9223372036854775807
 nTh:∀x∈t.z3,okN x.q7
 nSl:∀x∈t.z6,okN x.q7
 nSa:∀x∈t.z9,x.j4.length≤9223372036854775807∧∀y∈x.j4,okN y
 nSp:∀x∈t.w4,okN x.q7
 nBl:∀x∈t.j5,x.j4.length≤9223372036854775807∧∀y∈x.j4,okN y
theorem V8(t:cW)(hl:t.z3.length≤9223372036854775807)(hn:∀x∈t.z3,okN x.q7):Ok (m8 t) (tq (fun r=>r.2≠0) Yes):=by
 unfold m8
 refine a0 (fun _=>n5 (by simp)) (fun _=>?_)
 refine f8 (Q:=tq Yes (tq (fun r=>r.2≠0) Yes)) (VY t.z3.length (fun _ _=>True) hl trivial (fun a i _ h1 h2=>?_)) (fun _ _=>?_) (fun r hr=>?_)
 ·unfold rY
  dsimp only
  refine a0 (fun h=>?_) (fun _=>eW trivial)
  refine aq (cK h1 h) (fun y hy=>?_)
  refine aq (G5 _ (hn _ (ew hy))) (fun r _=>?_)
  refine bX (fun h0=>eW h0) (fun _=>?_)
  refine bK (fun _=>eW (by simp[tq])) (fun _=>?_)
  exact R5 (Inv:=fun _ _=>True) trivial h1 h hl
 ·exact eW trivial
 ·exact⟨_,rfl,hr⟩
theorem C6(a):Tot (Az a):=⟨_,rfl,trivial⟩
theorem zq(e:Int)(m)(l:List aX)(h:l.length≤9223372036854775807):Tot (iQ e m l):=by
 unfold iQ
 refine bX (fun _=>cZ) (fun _=>?_)
 refine f8 (Q:=Yes) (xX l.length (by omega) fun i h1 h2=>?_) (fun _ _=>?_) (fun _ _=>?_)
 ·unfold mz
  repeat' (first | (with_reducible first | intro _ | exact cZ | exact cQ | exact cY | exact cJ | refine aq cK fun _ _=>?_ | apply bX | apply a0 | apply dq | apply bK | (refine Ok.yes (C6 _)<;>(first | assumption | omega | rw[bQ]<;>omega)) | apply aq (Q:=Yes)) | dsimp only)
 ·repeat' (first | (with_reducible first | intro _ | exact cZ | exact cQ | exact cY | exact cJ | refine aq cK fun _ _=>?_ | apply bX | apply a0 | apply dq | apply bK | (refine Ok.yes (C6 _)<;>(first | assumption | omega | rw[bQ]<;>omega)) | apply aq (Q:=Yes)) | dsimp only)
 ·repeat' (first | (with_reducible first | intro _ | exact cZ | exact cQ | exact cY | exact cJ | refine aq cK fun _ _=>?_ | apply bX | apply a0 | apply dq | apply bK | (refine Ok.yes (C6 _)<;>(first | assumption | omega | rw[bQ]<;>omega)) | apply aq (Q:=Yes)) | dsimp only)
theorem DQ(a):Tot (Aj a):=⟨_,rfl,trivial⟩
theorem Aq(e:Int)(m)(l:List c7)(h:l.length≤9223372036854775807):Tot (kJ e m l):=by
 unfold kJ
 refine bX (fun _=>cZ) (fun _=>?_)
 refine f8 (Q:=Yes) (xX l.length (by omega) fun i h1 h2=>?_) (fun _ _=>?_) (fun _ _=>?_)
 ·unfold m7
  repeat' (first | (with_reducible first | intro _ | exact cZ | exact cQ | exact cY | exact cJ | refine aq cK fun _ _=>?_ | apply bX | apply a0 | apply dq | apply bK | (refine Ok.yes (DQ _)<;>(first | assumption | omega | rw[bQ]<;>omega)) | apply aq (Q:=Yes)) | dsimp only)
 ·repeat' (first | (with_reducible first | intro _ | exact cZ | exact cQ | exact cY | exact cJ | refine aq cK fun _ _=>?_ | apply bX | apply a0 | apply dq | apply bK | (refine Ok.yes (DQ _)<;>(first | assumption | omega | rw[bQ]<;>omega)) | apply aq (Q:=Yes)) | dsimp only)
 ·repeat' (first | (with_reducible first | intro _ | exact cZ | exact cQ | exact cY | exact cJ | refine aq cK fun _ _=>?_ | apply bX | apply a0 | apply dq | apply bK | (refine Ok.yes (DQ _)<;>(first | assumption | omega | rw[bQ]<;>omega)) | apply aq (Q:=Yes)) | dsimp only)
theorem Dj(a):Tot (zW a):=⟨_,rfl,trivial⟩
theorem Ax(e:Int)(m)(l:List c7)(h:l.length≤9223372036854775807):Tot (kj e m l):=by
 unfold kj
 refine bX (fun _=>cZ) (fun _=>?_)
 refine f8 (Q:=Yes) (xX l.length (by omega) fun i h1 h2=>?_) (fun _ _=>?_) (fun _ _=>?_)
 ·unfold mK
  repeat' (first | (with_reducible first | intro _ | exact cZ | exact cQ | exact cY | exact cJ | refine aq cK fun _ _=>?_ | apply bX | apply a0 | apply dq | apply bK | (refine Ok.yes (Dj _)<;>(first | assumption | omega | rw[bQ]<;>omega)) | apply aq (Q:=Yes)) | dsimp only)
 ·repeat' (first | (with_reducible first | intro _ | exact cZ | exact cQ | exact cY | exact cJ | refine aq cK fun _ _=>?_ | apply bX | apply a0 | apply dq | apply bK | (refine Ok.yes (Dj _)<;>(first | assumption | omega | rw[bQ]<;>omega)) | apply aq (Q:=Yes)) | dsimp only)
 ·repeat' (first | (with_reducible first | intro _ | exact cZ | exact cQ | exact cY | exact cJ | refine aq cK fun _ _=>?_ | apply bX | apply a0 | apply dq | apply bK | (refine Ok.yes (Dj _)<;>(first | assumption | omega | rw[bQ]<;>omega)) | apply aq (Q:=Yes)) | dsimp only)
theorem DX(a):Tot (AV a):=⟨_,rfl,trivial⟩
theorem xz(e:Int)(m)(l:List bY)(h:l.length≤9223372036854775807):Tot (jZ e m l):=by
 unfold jZ
 refine bX (fun _=>cZ) (fun _=>?_)
 refine f8 (Q:=Yes) (xX l.length (by omega) fun i h1 h2=>?_) (fun _ _=>?_) (fun _ _=>?_)
 ·unfold lV
  repeat' (first | (with_reducible first | intro _ | exact cZ | exact cQ | exact cY | exact cJ | refine aq cK fun _ _=>?_ | apply bX | apply a0 | apply dq | apply bK | (refine Ok.yes (DX _)<;>(first | assumption | omega | rw[bQ]<;>omega)) | apply aq (Q:=Yes)) | dsimp only)
 ·repeat' (first | (with_reducible first | intro _ | exact cZ | exact cQ | exact cY | exact cJ | refine aq cK fun _ _=>?_ | apply bX | apply a0 | apply dq | apply bK | (refine Ok.yes (DX _)<;>(first | assumption | omega | rw[bQ]<;>omega)) | apply aq (Q:=Yes)) | dsimp only)
 ·repeat' (first | (with_reducible first | intro _ | exact cZ | exact cQ | exact cY | exact cJ | refine aq cK fun _ _=>?_ | apply bX | apply a0 | apply dq | apply bK | (refine Ok.yes (DX _)<;>(first | assumption | omega | rw[bQ]<;>omega)) | apply aq (Q:=Yes)) | dsimp only)
theorem DZ(a):Tot (zX a):=⟨_,rfl,trivial⟩
theorem zx(e:Int)(m)(l:List cz)(h:l.length≤9223372036854775807):Tot (jK e m l):=by
 unfold jK
 refine bX (fun _=>cZ) (fun _=>?_)
 refine f8 (Q:=Yes) (xX l.length (by omega) fun i h1 h2=>?_) (fun _ _=>?_) (fun _ _=>?_)
 ·unfold mZ
  repeat' (first | (with_reducible first | intro _ | exact cZ | exact cQ | exact cY | exact cJ | refine aq cK fun _ _=>?_ | apply bX | apply a0 | apply dq | apply bK | (refine Ok.yes (DZ _)<;>(first | assumption | omega | rw[bQ]<;>omega)) | apply aq (Q:=Yes)) | dsimp only)
 ·repeat' (first | (with_reducible first | intro _ | exact cZ | exact cQ | exact cY | exact cJ | refine aq cK fun _ _=>?_ | apply bX | apply a0 | apply dq | apply bK | (refine Ok.yes (DZ _)<;>(first | assumption | omega | rw[bQ]<;>omega)) | apply aq (Q:=Yes)) | dsimp only)
 ·repeat' (first | (with_reducible first | intro _ | exact cZ | exact cQ | exact cY | exact cJ | refine aq cK fun _ _=>?_ | apply bX | apply a0 | apply dq | apply bK | (refine Ok.yes (DZ _)<;>(first | assumption | omega | rw[bQ]<;>omega)) | apply aq (Q:=Yes)) | dsimp only)
theorem Hx(m)(l:List fJ)(h:l.length≤9223372036854775807):Tot (qj m l):=by
 unfold qj
 refine f8 (Q:=Yes) (xX l.length (by omega) fun i h1 h2=>?_) (fun _ _=>?_) (fun _ _=>?_)
 ·unfold sj
  repeat' (first | (with_reducible first | intro _ | exact cZ | exact cQ | exact cY | exact cJ | refine aq cK fun _ _=>?_ | apply bX | apply a0 | apply dq | apply bK | (refine Ok.yes (DV _)<;>(first | assumption | omega | rw[bQ]<;>omega)) | apply aq (Q:=Yes)) | dsimp only)
 ·repeat' (first | (with_reducible first | intro _ | exact cZ | exact cQ | exact cY | exact cJ | refine aq cK fun _ _=>?_ | apply bX | apply a0 | apply dq | apply bK | (refine Ok.yes (DV _)<;>(first | assumption | omega | rw[bQ]<;>omega)) | apply aq (Q:=Yes)) | dsimp only)
 ·repeat' (first | (with_reducible first | intro _ | exact cZ | exact cQ | exact cY | exact cJ | refine aq cK fun _ _=>?_ | apply bX | apply a0 | apply dq | apply bK | (refine Ok.yes (DV _)<;>(first | assumption | omega | rw[bQ]<;>omega)) | apply aq (Q:=Yes)) | dsimp only)
theorem M3(a b:Int):Tot (oJ a b):=by
 unfold oJ
 repeat' (first | (with_reducible first | intro _ | exact cZ | exact cQ | exact cY | exact cJ | refine aq cK fun _ _=>?_ | apply bX | apply a0 | apply dq | apply bK | apply aq (Q:=Yes)) | dsimp only)
theorem HZ(a):Tot (zZ a):=by
 unfold zZ
 repeat' (first | (with_reducible first | intro _ | exact cZ | exact cQ | exact cY | exact cJ | refine aq cK fun _ _=>?_ | apply bX | apply a0 | apply dq | apply bK | apply aq (Q:=Yes)) | dsimp only)
theorem OZ(a):Tot (WY a):=by
 unfold WY
 repeat' (first | (with_reducible first | intro _ | exact cZ | exact cQ | exact cY | exact cJ | refine aq cK fun _ _=>?_ | apply bX | apply a0 | apply dq | apply bK | apply aq (Q:=Yes)) | dsimp only)
theorem Mz(a b):Tot (oq a b):=by
 unfold oq rV
 repeat' (first | (with_reducible first | intro _ | exact cZ | exact cQ | exact cY | exact cJ | refine aq cK fun _ _=>?_ | apply bX | apply a0 | apply dq | apply bK | apply aq (Q:=Yes)) | dsimp only)
theorem EK(a b):Tot (rQ a b):=by
 unfold rQ
 repeat' (first | (with_reducible first | intro _ | exact cZ | exact cQ | exact cY | exact cJ | refine aq cK fun _ _=>?_ | apply bX | apply a0 | apply dq | apply bK | (refine Ok.yes (Mz _ _)<;>(first | assumption | omega | rw[bQ]<;>omega)) | (refine Ok.yes (H1 _ _)<;>(first | assumption | omega | rw[bQ]<;>omega)) | (refine Ok.yes (PQ _ (Nat.le_of_ble_eq_true rfl))<;>(first | assumption | omega | rw[bQ]<;>omega)) | apply aq (Q:=Yes)) | dsimp only)
theorem PY(l:List c7)(h:l.length≤9223372036854775807):Tot (Cq l):=by
 unfold Cq
 refine f8 (Q:=Yes) (xX l.length (by omega) fun i h1 h2=>?_) (fun _ _=>?_) (fun _ _=>?_)
 ·unfold Bx
  repeat' (first | (with_reducible first | intro _ | exact cZ | exact cQ | exact cY | exact cJ | refine aq cK fun _ _=>?_ | apply bX | apply a0 | apply dq | apply bK | (refine Ok.yes (M3 _ _)<;>(first | assumption | omega | rw[bQ]<;>omega)) | apply aq (Q:=Yes)) | dsimp only)
 ·repeat' (first | (with_reducible first | intro _ | exact cZ | exact cQ | exact cY | exact cJ | refine aq cK fun _ _=>?_ | apply bX | apply a0 | apply dq | apply bK | (refine Ok.yes (M3 _ _)<;>(first | assumption | omega | rw[bQ]<;>omega)) | apply aq (Q:=Yes)) | dsimp only)
 ·repeat' (first | (with_reducible first | intro _ | exact cZ | exact cQ | exact cY | exact cJ | refine aq cK fun _ _=>?_ | apply bX | apply a0 | apply dq | apply bK | (refine Ok.yes (M3 _ _)<;>(first | assumption | omega | rw[bQ]<;>omega)) | apply aq (Q:=Yes)) | dsimp only)
theorem L2(l:List bY)(h:l.length≤9223372036854775807)(hx:∀x∈l,x.j4.length≤9223372036854775807∧∀y∈x.j4,okN y):Tot (wZ l):=by
 unfold wZ
 refine f8 (Q:=Yes) (xX l.length (by omega) fun i h1 h2=>?_) (fun _ _=>?_) (fun _ _=>?_)
 ·unfold xq
  repeat' (first | (with_reducible first | intro _ | exact cZ | exact cQ | exact cY | exact cJ | refine aq cK fun _ _=>?_ | apply bX | apply a0 | apply dq | apply bK | (refine Ok.yes (HZ _)<;>(first | assumption | omega | rw[bQ]<;>omega)) | (refine Ok.yes (rJ _ (hx _ (ew (by assumption))).1 (hx _ (ew (by assumption))).2)<;>(first | assumption | omega | rw[bQ]<;>omega)) | apply aq (Q:=Yes)) | dsimp only)
 ·repeat' (first | (with_reducible first | intro _ | exact cZ | exact cQ | exact cY | exact cJ | refine aq cK fun _ _=>?_ | apply bX | apply a0 | apply dq | apply bK | (refine Ok.yes (HZ _)<;>(first | assumption | omega | rw[bQ]<;>omega)) | (refine Ok.yes (rJ _ (hx _ (ew (by assumption))).1 (hx _ (ew (by assumption))).2)<;>(first | assumption | omega | rw[bQ]<;>omega)) | apply aq (Q:=Yes)) | dsimp only)
 ·repeat' (first | (with_reducible first | intro _ | exact cZ | exact cQ | exact cY | exact cJ | refine aq cK fun _ _=>?_ | apply bX | apply a0 | apply dq | apply bK | (refine Ok.yes (HZ _)<;>(first | assumption | omega | rw[bQ]<;>omega)) | (refine Ok.yes (rJ _ (hx _ (ew (by assumption))).1 (hx _ (ew (by assumption))).2)<;>(first | assumption | omega | rw[bQ]<;>omega)) | apply aq (Q:=Yes)) | dsimp only)
theorem Xj(l:List bJ)(h:l.length≤9223372036854775807)(hx:∀x∈l,okN x.q7):Tot (oY l):=by
 unfold oY
 refine f8 (Q:=Yes) (xX l.length (by omega) fun i h1 h2=>?_) (fun _ _=>?_) (fun _ _=>?_)
 ·unfold rZ
  repeat' (first | (with_reducible first | intro _ | exact cZ | exact cQ | exact cY | exact cJ | refine aq cK fun _ _=>?_ | apply bX | apply a0 | apply dq | apply bK | (refine Ok.yes (OZ _)<;>(first | assumption | omega | rw[bQ]<;>omega)) | (refine Ok.yes (EK _ _)<;>(first | assumption | omega | rw[bQ]<;>omega)) | (refine Ok.yes (l7 _ (hx _ (ew (by assumption))))<;>(first | assumption | omega | rw[bQ]<;>omega)) | apply aq (Q:=Yes)) | dsimp only)
 ·repeat' (first | (with_reducible first | intro _ | exact cZ | exact cQ | exact cY | exact cJ | refine aq cK fun _ _=>?_ | apply bX | apply a0 | apply dq | apply bK | (refine Ok.yes (OZ _)<;>(first | assumption | omega | rw[bQ]<;>omega)) | (refine Ok.yes (EK _ _)<;>(first | assumption | omega | rw[bQ]<;>omega)) | (refine Ok.yes (l7 _ (hx _ (ew (by assumption))))<;>(first | assumption | omega | rw[bQ]<;>omega)) | apply aq (Q:=Yes)) | dsimp only)
 ·repeat' (first | (with_reducible first | intro _ | exact cZ | exact cQ | exact cY | exact cJ | refine aq cK fun _ _=>?_ | apply bX | apply a0 | apply dq | apply bK | (refine Ok.yes (OZ _)<;>(first | assumption | omega | rw[bQ]<;>omega)) | (refine Ok.yes (EK _ _)<;>(first | assumption | omega | rw[bQ]<;>omega)) | (refine Ok.yes (l7 _ (hx _ (ew (by assumption))))<;>(first | assumption | omega | rw[bQ]<;>omega)) | apply aq (Q:=Yes)) | dsimp only)
theorem s7(a b):Tot (qZ a b):=by
 unfold qZ
 repeat' (first | (with_reducible first | intro _ | exact cZ | exact cQ | exact cY | exact cJ | refine aq cK fun _ _=>?_ | apply bX | apply a0 | apply dq | apply bK | apply aq (Q:=Yes)) | dsimp only)
theorem s6(a b):Tot (lZ a b):=by
 unfold lZ
 repeat' (first | (with_reducible first | intro _ | exact cZ | exact cQ | exact cY | exact cJ | refine aq cK fun _ _=>?_ | apply bX | apply a0 | apply dq | apply bK | apply aq (Q:=Yes)) | dsimp only)
theorem yX(a b):Tot (pZ a b):=by
 unfold pZ
 repeat' (first | (with_reducible first | intro _ | exact cZ | exact cQ | exact cY | exact cJ | refine aq cK fun _ _=>?_ | apply bX | apply a0 | apply dq | apply bK | (refine Ok.yes (s7 _ _)<;>(first | assumption | omega | rw[bQ]<;>omega)) | (refine Ok.yes (s6 _ _)<;>(first | assumption | omega | rw[bQ]<;>omega)) | apply aq (Q:=Yes)) | dsimp only)
theorem uq(l:List aX)(a)(h:l.length≤9223372036854775807):Tot (d5 l a):=by
 unfold d5
 refine aq (Q:=Yes) ?_ (fun _ _=>cZ)
 unfold iz
 refine f8 (Q:=Yes) (xX l.length (by omega) fun i h1 h2=>?_) (fun _ _=>?_) (fun _ _=>?_)
 ·unfold gq
  repeat' (first | (with_reducible first | intro _ | exact cZ | exact cQ | exact cY | exact cJ | refine aq cK fun _ _=>?_ | apply bX | apply a0 | apply dq | apply bK | (refine Ok.yes (yX _ _)<;>(first | assumption | omega | rw[bQ]<;>omega)) | apply aq (Q:=Yes)) | dsimp only)
 ·repeat' (first | (with_reducible first | intro _ | exact cZ | exact cQ | exact cY | exact cJ | refine aq cK fun _ _=>?_ | apply bX | apply a0 | apply dq | apply bK | (refine Ok.yes (yX _ _)<;>(first | assumption | omega | rw[bQ]<;>omega)) | apply aq (Q:=Yes)) | dsimp only)
 ·repeat' (first | (with_reducible first | intro _ | exact cZ | exact cQ | exact cY | exact cJ | refine aq cK fun _ _=>?_ | apply bX | apply a0 | apply dq | apply bK | (refine Ok.yes (yX _ _)<;>(first | assumption | omega | rw[bQ]<;>omega)) | apply aq (Q:=Yes)) | dsimp only)
theorem yV(a b):Tot (pJ a b):=by
 unfold pJ
 repeat' (first | (with_reducible first | intro _ | exact cZ | exact cQ | exact cY | exact cJ | refine aq cK fun _ _=>?_ | apply bX | apply a0 | apply dq | apply bK | (refine Ok.yes (s7 _ _)<;>(first | assumption | omega | rw[bQ]<;>omega)) | (refine Ok.yes (s6 _ _)<;>(first | assumption | omega | rw[bQ]<;>omega)) | apply aq (Q:=Yes)) | dsimp only)
theorem uj(l:List bj)(a)(h:l.length≤9223372036854775807):Tot (dW l a):=by
 unfold dW
 refine aq (Q:=Yes) ?_ (fun _ _=>cZ)
 unfold ij
 refine f8 (Q:=Yes) (xX l.length (by omega) fun i h1 h2=>?_) (fun _ _=>?_) (fun _ _=>?_)
 ·unfold f9
  repeat' (first | (with_reducible first | intro _ | exact cZ | exact cQ | exact cY | exact cJ | refine aq cK fun _ _=>?_ | apply bX | apply a0 | apply dq | apply bK | (refine Ok.yes (yV _ _)<;>(first | assumption | omega | rw[bQ]<;>omega)) | apply aq (Q:=Yes)) | dsimp only)
 ·repeat' (first | (with_reducible first | intro _ | exact cZ | exact cQ | exact cY | exact cJ | refine aq cK fun _ _=>?_ | apply bX | apply a0 | apply dq | apply bK | (refine Ok.yes (yV _ _)<;>(first | assumption | omega | rw[bQ]<;>omega)) | apply aq (Q:=Yes)) | dsimp only)
 ·repeat' (first | (with_reducible first | intro _ | exact cZ | exact cQ | exact cY | exact cJ | refine aq cK fun _ _=>?_ | apply bX | apply a0 | apply dq | apply bK | (refine Ok.yes (yV _ _)<;>(first | assumption | omega | rw[bQ]<;>omega)) | apply aq (Q:=Yes)) | dsimp only)
theorem yK(a b):Tot (pQ a b):=by
 unfold pQ
 repeat' (first | (with_reducible first | intro _ | exact cZ | exact cQ | exact cY | exact cJ | refine aq cK fun _ _=>?_ | apply bX | apply a0 | apply dq | apply bK | (refine Ok.yes (s7 _ _)<;>(first | assumption | omega | rw[bQ]<;>omega)) | (refine Ok.yes (s6 _ _)<;>(first | assumption | omega | rw[bQ]<;>omega)) | apply aq (Q:=Yes)) | dsimp only)
theorem tW(l:List cz)(a)(h:l.length≤9223372036854775807):Tot (d0 l a):=by
 unfold d0
 refine aq (Q:=Yes) ?_ (fun _ _=>cZ)
 unfold iq
 refine f8 (Q:=Yes) (xX l.length (by omega) fun i h1 h2=>?_) (fun _ _=>?_) (fun _ _=>?_)
 ·unfold f7
  repeat' (first | (with_reducible first | intro _ | exact cZ | exact cQ | exact cY | exact cJ | refine aq cK fun _ _=>?_ | apply bX | apply a0 | apply dq | apply bK | (refine Ok.yes (yK _ _)<;>(first | assumption | omega | rw[bQ]<;>omega)) | apply aq (Q:=Yes)) | dsimp only)
 ·repeat' (first | (with_reducible first | intro _ | exact cZ | exact cQ | exact cY | exact cJ | refine aq cK fun _ _=>?_ | apply bX | apply a0 | apply dq | apply bK | (refine Ok.yes (yK _ _)<;>(first | assumption | omega | rw[bQ]<;>omega)) | apply aq (Q:=Yes)) | dsimp only)
 ·repeat' (first | (with_reducible first | intro _ | exact cZ | exact cQ | exact cY | exact cJ | refine aq cK fun _ _=>?_ | apply bX | apply a0 | apply dq | apply bK | (refine Ok.yes (yK _ _)<;>(first | assumption | omega | rw[bQ]<;>omega)) | apply aq (Q:=Yes)) | dsimp only)
theorem yJ(a b):Tot (pV a b):=by
 unfold pV
 repeat' (first | (with_reducible first | intro _ | exact cZ | exact cQ | exact cY | exact cJ | refine aq cK fun _ _=>?_ | apply bX | apply a0 | apply dq | apply bK | (refine Ok.yes (s7 _ _)<;>(first | assumption | omega | rw[bQ]<;>omega)) | (refine Ok.yes (s6 _ _)<;>(first | assumption | omega | rw[bQ]<;>omega)) | apply aq (Q:=Yes)) | dsimp only)
theorem u9(l:List c7)(a)(h:l.length≤9223372036854775807):Tot (d8 l a):=by
 unfold d8
 refine aq (Q:=Yes) ?_ (fun _ _=>cZ)
 unfold iK
 refine f8 (Q:=Yes) (xX l.length (by omega) fun i h1 h2=>?_) (fun _ _=>?_) (fun _ _=>?_)
 ·unfold gJ
  repeat' (first | (with_reducible first | intro _ | exact cZ | exact cQ | exact cY | exact cJ | refine aq cK fun _ _=>?_ | apply bX | apply a0 | apply dq | apply bK | (refine Ok.yes (yJ _ _)<;>(first | assumption | omega | rw[bQ]<;>omega)) | apply aq (Q:=Yes)) | dsimp only)
 ·repeat' (first | (with_reducible first | intro _ | exact cZ | exact cQ | exact cY | exact cJ | refine aq cK fun _ _=>?_ | apply bX | apply a0 | apply dq | apply bK | (refine Ok.yes (yJ _ _)<;>(first | assumption | omega | rw[bQ]<;>omega)) | apply aq (Q:=Yes)) | dsimp only)
 ·repeat' (first | (with_reducible first | intro _ | exact cZ | exact cQ | exact cY | exact cJ | refine aq cK fun _ _=>?_ | apply bX | apply a0 | apply dq | apply bK | (refine Ok.yes (yJ _ _)<;>(first | assumption | omega | rw[bQ]<;>omega)) | apply aq (Q:=Yes)) | dsimp only)
theorem yZ(a b):Tot (pz a b):=by
 unfold pz
 repeat' (first | (with_reducible first | intro _ | exact cZ | exact cQ | exact cY | exact cJ | refine aq cK fun _ _=>?_ | apply bX | apply a0 | apply dq | apply bK | (refine Ok.yes (s7 _ _)<;>(first | assumption | omega | rw[bQ]<;>omega)) | (refine Ok.yes (s6 _ _)<;>(first | assumption | omega | rw[bQ]<;>omega)) | apply aq (Q:=Yes)) | dsimp only)
theorem s9(l:List bY)(a)(h:l.length≤9223372036854775807):Tot (dJ l a):=by
 unfold dJ
 refine aq (Q:=Yes) ?_ (fun _ _=>cZ)
 unfold gj
 refine f8 (Q:=Yes) (xX l.length (by omega) fun i h1 h2=>?_) (fun _ _=>?_) (fun _ _=>?_)
 ·unfold fV
  repeat' (first | (with_reducible first | intro _ | exact cZ | exact cQ | exact cY | exact cJ | refine aq cK fun _ _=>?_ | apply bX | apply a0 | apply dq | apply bK | (refine Ok.yes (yZ _ _)<;>(first | assumption | omega | rw[bQ]<;>omega)) | apply aq (Q:=Yes)) | dsimp only)
 ·repeat' (first | (with_reducible first | intro _ | exact cZ | exact cQ | exact cY | exact cJ | refine aq cK fun _ _=>?_ | apply bX | apply a0 | apply dq | apply bK | (refine Ok.yes (yZ _ _)<;>(first | assumption | omega | rw[bQ]<;>omega)) | apply aq (Q:=Yes)) | dsimp only)
 ·repeat' (first | (with_reducible first | intro _ | exact cZ | exact cQ | exact cY | exact cJ | refine aq cK fun _ _=>?_ | apply bX | apply a0 | apply dq | apply bK | (refine Ok.yes (yZ _ _)<;>(first | assumption | omega | rw[bQ]<;>omega)) | apply aq (Q:=Yes)) | dsimp only)
theorem yY(a b):Tot (pX a b):=by
 unfold pX
 repeat' (first | (with_reducible first | intro _ | exact cZ | exact cQ | exact cY | exact cJ | refine aq cK fun _ _=>?_ | apply bX | apply a0 | apply dq | apply bK | (refine Ok.yes (s7 _ _)<;>(first | assumption | omega | rw[bQ]<;>omega)) | (refine Ok.yes (s6 _ _)<;>(first | assumption | omega | rw[bQ]<;>omega)) | apply aq (Q:=Yes)) | dsimp only)
theorem vq(l:List bJ)(a)(h:l.length≤9223372036854775807):Tot (d9 l a):=by
 unfold d9
 refine aq (Q:=Yes) ?_ (fun _ _=>cZ)
 unfold iY
 refine f8 (Q:=Yes) (xX l.length (by omega) fun i h1 h2=>?_) (fun _ _=>?_) (fun _ _=>?_)
 ·unfold gX
  repeat' (first | (with_reducible first | intro _ | exact cZ | exact cQ | exact cY | exact cJ | refine aq cK fun _ _=>?_ | apply bX | apply a0 | apply dq | apply bK | (refine Ok.yes (yY _ _)<;>(first | assumption | omega | rw[bQ]<;>omega)) | apply aq (Q:=Yes)) | dsimp only)
 ·repeat' (first | (with_reducible first | intro _ | exact cZ | exact cQ | exact cY | exact cJ | refine aq cK fun _ _=>?_ | apply bX | apply a0 | apply dq | apply bK | (refine Ok.yes (yY _ _)<;>(first | assumption | omega | rw[bQ]<;>omega)) | apply aq (Q:=Yes)) | dsimp only)
 ·repeat' (first | (with_reducible first | intro _ | exact cZ | exact cQ | exact cY | exact cJ | refine aq cK fun _ _=>?_ | apply bX | apply a0 | apply dq | apply bK | (refine Ok.yes (yY _ _)<;>(first | assumption | omega | rw[bQ]<;>omega)) | apply aq (Q:=Yes)) | dsimp only)
theorem WQ(t:cW)(h:Siz t):Tot (oK t):=by
 unfold oK
 repeat' (first | (with_reducible first | intro _ | exact cZ | exact cQ | exact cY | exact cJ | refine aq cK fun _ _=>?_ | apply bX | apply a0 | apply dq | apply bK | (refine Ok.yes (uq _ _ h.sl)<;>(first | assumption | omega | rw[bQ]<;>omega)) | (refine Ok.yes (uj _ _ h.st)<;>(first | assumption | omega | rw[bQ]<;>omega)) | (refine Ok.yes (tW _ _ h.bl)<;>(first | assumption | omega | rw[bQ]<;>omega)) | (refine Ok.yes (u9 _ _ h.fl)<;>(first | assumption | omega | rw[bQ]<;>omega)) | (refine Ok.yes (s9 _ _ h.sa)<;>(first | assumption | omega | rw[bQ]<;>omega)) | (refine Ok.yes (vq _ _ h.sp)<;>(first | assumption | omega | rw[bQ]<;>omega)) | apply aq (Q:=Yes)) | dsimp only)
theorem CK(l:List Int)(a:Int)(h:l.length≤9223372036854775807):Tot (eZ l a):=by
 unfold eZ
 refine f8 (Q:=Yes) (xX l.length (by omega) fun i h1 h2=>?_) (fun _ _=>?_) (fun _ _=>?_)
 ·unfold oz
  repeat' (first | (with_reducible first | intro _ | exact cZ | exact cQ | exact cY | exact cJ | refine aq cK fun _ _=>?_ | apply bX | apply a0 | apply dq | apply bK | apply aq (Q:=Yes)) | dsimp only)
 ·repeat' (first | (with_reducible first | intro _ | exact cZ | exact cQ | exact cY | exact cJ | refine aq cK fun _ _=>?_ | apply bX | apply a0 | apply dq | apply bK | apply aq (Q:=Yes)) | dsimp only)
 ·repeat' (first | (with_reducible first | intro _ | exact cZ | exact cQ | exact cY | exact cJ | refine aq cK fun _ _=>?_ | apply bX | apply a0 | apply dq | apply bK | apply aq (Q:=Yes)) | dsimp only)
theorem H5(l:List Int)(a:Int)(h:l.length≤9223372036854775807):Tot (oX l a):=by
 unfold oX
 repeat' (first | (with_reducible first | intro _ | exact cZ | exact cQ | exact cY | exact cJ | refine aq cK fun _ _=>?_ | apply bX | apply a0 | apply dq | apply bK | (refine Ok.yes (CK _ _ h)<;>(first | assumption | omega | rw[bQ]<;>omega)) | apply aq (Q:=Yes)) | dsimp only)
theorem L4(a):Tot (n7 a):=by
 unfold n7
 repeat' (first | (with_reducible first | intro _ | exact cZ | exact cQ | exact cY | exact cJ | refine aq cK fun _ _=>?_ | apply bX | apply a0 | apply dq | apply bK | apply aq (Q:=Yes)) | dsimp only)
theorem aiZ(a b):Tot (Cz a b):=by
 unfold Cz
 repeat' (first | (with_reducible first | intro _ | exact cZ | exact cQ | exact cY | exact cJ | refine aq cK fun _ _=>?_ | apply bX | apply a0 | apply dq | apply bK | apply aq (Q:=Yes)) | dsimp only)
def Up(l:List aX)(n:Int):Prop:=∀(j:Nat) y,(j:Int)<n→l[j]? = some y→-1≤y.z2∧y.z2<(j:Int)
theorem Zq(l:List aX)(h:l.length≤9223372036854775807):Ok (qV l) (fun b=>b=true→Up l l.length):=by
 unfold qV
 refine f8 (Q:=tq (fun _=>Up l l.length) (fun b=>b=false)) (aCQ l.length (Up l) h (by intro j y hj;omega) (fun i hI h1 h2=>?_)) (fun _ hq=>aV (fun _=>hq)) (fun r hr=>aV (fun e=>?_))
 ·unfold qQ
  refine a0 (fun hi=>?_) (fun hi=>eW (by have:i=l.length:=(by omega);subst this;exact hI))
  refine aq (cK h1 hi) (fun y hy=>?_)
  have no:tq (fun _:Unit=>Up l l.length) (fun b=>b=false) (.inr false):=rfl
  refine aq (Q:=fun v=>v=false→-1≤y.z2∧y.z2<i) ?_ (fun v hv=>?_)
  ·refine a0 (fun _=>aV (by simp)) (fun h3=>aV (fun h4=>?_))
   have:=of_decide_eq_false h4
   omega
  refine bK (fun _=>eW no) (fun h0=>?_)
  have hp:=hv h0
  have nx:Up l (i+1):=by
   intro j z hj hz
   by_cases e:(j:Int)=i
   ·have:i.toNat=j:=by omega
    rw[this]at hy
    rw[hy]at hz;cases hz
    omega
   ·exact hI j z (by omega) hz
  refine a0 (fun _=>?_) (fun hne=>?_)
  ·refine bX (fun _=>eW no) (fun _=>azV nx h1 hi h)
  ·refine aq (cK (by omega) (by omega)) (fun z _=>?_)
   refine aq (Q:=Yes) (by repeat' (first | (with_reducible first | intro _ | exact cZ | exact cQ | exact cY | exact cJ | refine aq cK fun _ _=>?_ | apply bX | apply a0 | apply dq | apply bK | apply aq (Q:=Yes)) | dsimp only)) (fun v _=>?_)
   refine bK (fun _=>eW no) (fun _=>azV nx h1 hi h)
 ·have:r=false:=hr
  simp[this]at e
theorem afz(l:List aX)(h:l.length≤9223372036854775807)(hu:Up l l.length)(a b:Int)(hb:b<l.length):Tot (zJ l a b):=by
 unfold zJ
 refine f8 (Q:=Yes) (vV (fun i:Int=>i<l.length) (fun i:Int=>(i+1).toNat) (fun i hi=>?_) hb (by simp[i6];omega)) (fun _ _=>cZ) (fun _ _=>cZ)
 unfold Dq
 refine a0 (fun h0=>?_) (fun _=>cQ)
 refine a0 (fun _=>cQ) (fun _=>?_)
 refine aq (cK h0 hi) (fun y hy=>?_)
 have:=hu i.toNat y (by omega) hy
 exact n5 ⟨by omega,by omega⟩
theorem M6(l:List aX)(h:l.length≤9223372036854775807)(hu:Up l l.length):Tot (zK l):=by
 unfold zK
 refine f8 (Q:=Yes) (xX l.length h fun i h1 h2=>?_) (fun _ _=>cZ) (fun _ _=>cZ)
 unfold C5
 refine a0 (fun hi=>?_) (fun _=>cQ)
 refine aq (cK h1 hi) (fun y hy=>?_)
 refine f8 (Q:=tq Yes (tq (fun _=>False) Yes)) (VY l.length (fun _ _=>True) h trivial (fun a j _ h3 h4=>?_)) (fun _ _=>?_) (fun r hr=>?_)
 ·unfold DW
  dsimp only
  refine a0 (fun hj=>?_) (fun _=>eW trivial)
  refine aq (cK h3 hj) (fun z hz=>?_)
  refine aq (Q:=Yes) (by repeat' (first | (with_reducible first | intro _ | exact cZ | exact cQ | exact cY | exact cJ | refine aq cK fun _ _=>?_ | apply bX | apply a0 | apply dq | apply bK | apply aq (Q:=Yes)) | dsimp only)) (fun v _=>?_)
  refine aq (Q:=Yes) (by repeat' (first | (with_reducible first | intro _ | exact cZ | exact cQ | exact cY | exact cJ | refine aq cK fun _ _=>?_ | apply bX | apply a0 | apply dq | apply bK | (refine Ok.yes (afz l h hu _ _ hi)<;>(first | assumption | omega | rw[bQ]<;>omega)) | apply aq (Q:=Yes)) | dsimp only)) (fun v _=>?_)
  refine bK (fun _=>eW trivial) (fun _=>R5 (Inv:=fun _ _=>True) trivial h3 hj h)
 ·dsimp only
  repeat' (first | (with_reducible first | intro _ | exact cZ | exact cQ | exact cY | exact cJ | refine aq cK fun _ _=>?_ | apply bX | apply a0 | apply dq | apply bK | apply aq (Q:=Yes)) | dsimp only)
 ·rcases r with r | r
  ·exact(hr:False).elim
  ·exact cQ
theorem L5(l:List cz)(h:l.length≤9223372036854775807)(hx:∀x∈l,x.j4.length≤9223372036854775807∧∀y∈x.j4,okN y):Tot (vX l):=by
 unfold vX
 refine f8 (Q:=Yes) (xX l.length h fun i h1 h2=>?_) (fun _ _=>cZ) (fun _ _=>cZ)
 unfold wV
 refine a0 (fun hi=>?_) (fun _=>cQ)
 refine aq (cK h1 hi) (fun y hy=>?_)
 refine aq (Q:=Yes) (by repeat' (first | (with_reducible first | intro _ | exact cZ | exact cQ | exact cY | exact cJ | refine aq cK fun _ _=>?_ | apply bX | apply a0 | apply dq | apply bK | (refine Ok.yes (DV _)<;>(first | assumption | omega | rw[bQ]<;>omega)) | apply aq (Q:=Yes)) | dsimp only)) (fun v _=>?_)
 refine bK (fun _=>cQ) (fun _=>?_)
 refine aq (Q:=Yes) (rJ _ (hx _ (ew hy)).1 (hx _ (ew hy)).2) (fun v _=>?_)
 refine bX (fun _=>cQ) (fun _=>?_)
 refine aq (Q:=Yes) (by repeat' (first | (with_reducible first | intro _ | exact cZ | exact cQ | exact cY | exact cJ | refine aq cK fun _ _=>?_ | apply bX | apply a0 | apply dq | apply bK | apply aq (Q:=Yes)) | dsimp only)) (fun v _=>?_)
 refine bK (fun _=>cQ) (fun _=>?_)
 refine aq (Q:=fun ys=>ys.length≤9223372036854775807) ?_ (fun ys hys=>?_)
 ·unfold N2
  rw[if_pos ⟨by omega,by omega,by omega⟩]
  exact aV (by simp;omega)
 refine f8 (Q:=tq Yes (tq (fun _=>False) Yes)) (xX ys.length hys fun j h3 h4=>?_) (fun _ _=>cJ h1 hi h) (fun r hr=>?_)
 ·unfold sW
  refine a0 (fun hj=>?_) (fun _=>eW trivial)
  refine aq (cK h3 hj) (fun z hz=>?_)
  refine aq (Q:=Yes) (by repeat' (first | (with_reducible first | intro _ | exact cZ | exact cQ | exact cY | exact cJ | refine aq cK fun _ _=>?_ | apply bX | apply a0 | apply dq | apply bK | apply aq (Q:=Yes)) | dsimp only)) (fun v _=>?_)
  refine bK (fun _=>eW trivial) (fun _=>cJ h3 hj hys)
 ·rcases r with r | r
  ·exact(hr:False).elim
  ·exact cQ
theorem p9(l:List Int)(a:Int)(h:l.length≤9223372036854775807):Ok (eZ l a) (fun r=>(0≤r→l[r.toNat]? = some a)∧r<l.length):=by
 unfold eZ
 refine f8 (Q:=tq Yes (fun r:Int=>(0≤r→l[r.toNat]? = some a)∧r<l.length)) (xX l.length h fun i h1 h2=>?_) (fun _ _=>aV (And.intro (by omega) (by omega))) (fun _ hr=>?_)
 rotate_left
 ·exact aV hr
 unfold oz
 refine a0 (fun hi=>?_) (fun _=>eW trivial)
 refine aq (cK h1 hi) (fun y hy=>?_)
 exact a0 (fun e=>eW ⟨fun _=>by rw[hy,e],hi⟩) (fun _=>cJ h1 hi h)
theorem IY(l:List i5)(h:l.length≤1000000):Ok (rK l) (fun r=>r.length≤l.length):=by
 unfold rK
 refine aq (Q:=fun r=>r.length≤l.length) (VY l.length (fun a i=>(a.length:Int)≤i) (by omega) (by simp) (fun a i hI h1 h2=>?_)) (fun r hr=>aV hr)
 unfold Dz
 dsimp only
 refine a0 (fun hi=>?_) (fun _=>eW (by omega))
 refine aq (Q:=fun r:List Int=>(r.length:Int)≤i+1) ?_ (fun r hr=>R5 (Inv:=fun(a:List Int) i=>(a.length:Int)≤i) hr h1 hi (by omega))
 refine aq (cK h1 hi) (fun y hy=>?_)
 refine aq (H5 a y.x6 (by omega)) (fun v _=>?_)
 refine dq (fun _=>?_) (fun _=>aV (by omega))
 rw[Gq (by simp;omega) (by simp;omega)]
 exact aV (by simp;omega)
def baq(l:List bj)(n:Int):Prop:=∀(j k:Nat) s s',j<k→(k:Int)<n→l[j]? = some s→l[k]? = some s'→s.q6=s'.q6→s.q0.q8≤s'.q0.q5
def baJ(l:List bj)(n:Int):Prop:=∀(j:Nat) s,(j:Int)<n→l[j]? = some s→0≤s.q0.q5∧s.q0.q5<s.q0.q8∧s.q0.q8≤1000000000000
def Gd(l:List bj):Prop:=baq l l.length∧baJ l l.length
structure Tab(l:List bj)(ix:List Int)(r i:Int):Prop where
 le:∀(j:Nat) s,(j:Int)<i→l[j]? = some s→∃x,eZ ix s.q6=some x∧x≤r
 last:∀s,0<i→l[(i-1).toNat]? = some s→eZ ix s.q6=some r
 pos:0≤r→0<i
 neg:i=0→r = -1
 rng : -1≤r∧r<ix.length
 v:baJ l i
 d:baq l i
theorem aOQ{l:List bj}{ix:List Int}{r r' i:Int}{y:bj}(hix:ix.length≤9223372036854775807)(H:Tab l ix r i)(h1:0≤i)(hy:l[i.toNat]? = some y)(hr:eZ ix y.q6=some r')(h0:0≤r')(hv:0≤y.q0.q5∧y.q0.q5<y.q0.q8∧y.q0.q8≤1000000000000)
  (hs:r'=r→∀s,l[(i-1).toNat]? = some s→y.q0.q5=s.q0.q8) (hn:r'≠r→r'=r+1):Tab l ix r' (i+1):=by
 have hle:r≤r':=by
  by_cases e:r'=r
  ·omega
  ·have:=hn e;omega
 refine⟨fun j s hj hs'=>?_,fun s _ hs'=>?_,fun _=>by omega,fun _=>by omega,⟨by omega,((p9 ix _ hix).of_eq hr).2⟩,fun j s hj hs'=>?_,fun j k s s' hjk hk hj' hk' ht=>?_⟩
 ·by_cases e:(j:Int)=i
  ·have:i.toNat=j:=by omega
   rw[this,hs']at hy;cases hy
   exact⟨r',hr,by omega⟩
  ·obtain⟨x,h2,h3⟩:=H.le j s (by omega) hs'
   exact⟨x,h2,by omega⟩
 ·rw[show i+1-1=i by omega,hy]at hs';cases hs'
  exact hr
 ·by_cases e:(j:Int)=i
  ·have:i.toNat=j:=by omega
   rw[this,hs']at hy;cases hy
   exact hv
  ·exact H.v j s (by omega) hs'
 ·by_cases e:(k:Int)=i
  ·have:i.toNat=k:=by omega
   rw[this,hk']at hy;cases hy
   obtain⟨x,h2,h3⟩:=H.le j s (by omega) hj'
   rw[ht,hr]at h2;cases h2
   by_cases e':r'=r
   ·obtain⟨u,hu⟩ : ∃u,l[(i-1).toNat]? = some u:=by
     have:=dZ hk'
     exact⟨_,bw (by omega)⟩
    have h5:=hs e' u hu
    by_cases e2:j=(i-1).toNat
    ·subst e2;rw[hj']at hu;cases hu;omega
    ·have hlu:=H.last u (by omega) hu
     have hh:s.q6=u.q6→s.q0.q8≤u.q0.q5:=H.d j (i-1).toNat s u (by omega) (by omega) hj' hu
     have hvu:=H.v (i-1).toNat u (by omega) hu
     have a1:=(p9 ix _ hix).of_eq hlu |>.1 (by omega)
     have a2:=(p9 ix _ hix).of_eq hr |>.1 h0
     rw[e',a1]at a2
     injection a2 with a2
     have:=hh (by rw[ht,←a2])
     omega
   ·have:=hn e';omega
  ·exact H.d j k s s' hjk (by omega) hj' hk' ht
theorem Fj(s:az):Ok (lz s) (fun b=>b=true→0≤s.q5∧s.q5<s.q8∧s.q8≤1000000000000):=by
 rw[sZ]
 exact aV (fun h=>of_decide_eq_true h)
theorem NX(ths:List i5)(l:List bj)(ht:ths.length≤1000000)(h:l.length≤9223372036854775807):Ok (vQ ths l) (fun r=>r=0→Gd l):=by
 unfold vQ
 refine aq (IY ths ht) (fun ix hix=>?_)
 have hix':ix.length≤9223372036854775807:=by omega
 refine f8 (Q:=tq (fun _=>Gd l) (fun r=>r≠0)) (VY l.length (fun r i=>Tab l ix r i) h ⟨by intro j s hj;omega,by intro s hj;omega,by omega,by simp,⟨by omega,by omega⟩,by intro j s hj;omega,by intro j k s s' _ hj;omega⟩ (fun r i hI h1 h2=>?_)) (fun r hd=>?_) (fun r hr=>?_)
 ·unfold AZ
  dsimp only
  have no:∀n:Int,n≠0→tq (fun _:Int=>Gd l) (fun r=>r≠0) (.inr n):=fun n h=>h
  refine a0 (fun hi=>?_) (fun hi=>eW (by have e:i=l.length:=(by omega);have g1:=hI.d;have g2:=hI.v;rw[e]at g1 g2;exact⟨g1,g2⟩))
  refine aq (cK h1 hi) (fun y hy=>?_)
  refine aVX (CK ix y.q6 hix') (fun x hx=>?_)
  refine a0 (fun _=>eW (no _ (by simp))) (fun h0=>?_)
  refine aq (Fj y.q0) (fun v hv=>?_)
  refine dq (fun _=>eW (no _ (by simp))) (fun ev=>?_)
  refine aq (L4 y) (fun _ _=>?_)
  refine dq (fun _=>eW (no _ (by simp))) (fun _=>?_)
  refine aq (Q:=fun v=>v=false→x=r→∀s,l[(i-1).toNat]? = some s→y.q0.q5=s.q0.q8) ?_ (fun v1 hv1=>?_)
  ·refine a0 (fun e=>?_) (fun e=>aV (fun _ e'=>absurd e' e))
   have hpos:=hI.pos (by omega)
   rw[show w64 (i-1)=i-1 from bQ (by omega)]
   refine aq (cK (by omega) (by omega)) (fun z hz=>?_)
   refine bX (fun _=>aV (by simp)) (fun e2=>?_)
   refine aq (Q:=Yes) ⟨z,hz▸by simp[idx,hz];omega,trivial⟩ (fun w _=>?_)
   refine(aq (Q:=Yes) (aiZ _ _) (fun b _=>aV (P:=fun v=>v=false→x=r→∀s,l[(i-1).toNat]? = some s→y.q0.q5=s.q0.q8) (fun _ _ s hs=>?_)))
   rw[hz]at hs;cases hs;exact e2
  refine bK (fun _=>eW (no _ (by simp))) (fun e1=>?_)
  refine aq (Q:=fun v=>v=false→x≠r→x=r+1) ?_ (fun v2 hv2=>?_)
  ·refine bX (fun e=>?_) (fun e=>aV (fun _ e'=>absurd e e'))
   have hb:=hI.rng
   rw[bQ (n:=r+1) (by omega)]
   refine bX (fun _=>aV (by simp)) (fun e3=>aV (fun _ _=>e3))
  refine bK (fun _=>eW (no _ (by simp))) (fun e2=>?_)
  exact R5 (Inv:=fun r i=>Tab l ix r i) (aOQ hix' hI h1 hy hx (by omega) (hv ev) (hv1 e1) (hv2 e2)) h1 hi h
 ·dsimp only
  refine a0 (fun _=>aV (fun _=>hd)) (fun hne=>?_)
  rw[show w64 ((l.length:Int)-1)=(l.length:Int)-1 from bQ (by omega)]
  refine aq (cK (by omega) (by omega)) (fun y _=>?_)
  refine f8 (Q:=Yes) (xX l.length h fun j h3 h4=>?_) (fun _ _=>?_) (fun r hr=>aV (fun _=>hd))
  ·unfold uZ
   refine a0 (fun hj=>?_) (fun _=>cQ)
   refine aq (cK h3 hj) (fun z hz=>?_)
   have e:w64 (j+1)=j+1:=bQ (by omega)
   rw[e]
   refine aq (Q:=Yes) ?_ (fun v _=>?_)
   ·refine a0 (fun _=>cZ) (fun hne=>?_)
    exact aq (cK (by omega) (by omega)) (fun _ _=>cZ)
   ·refine aq (Q:=Yes) (by repeat' (first | (with_reducible first | intro _ | exact cZ | exact cQ | exact cY | exact cJ | refine aq cK fun _ _=>?_ | apply bX | apply a0 | apply dq | apply bK | apply aq (Q:=Yes)) | dsimp only)) (fun v _=>?_)
    exact bK (fun _=>cQ) (fun _=>n5 ⟨hj,rfl⟩)
  ·exact bX (fun _=>aV (fun _=>hd)) (fun _=>aV (fun _=>hd))
 ·exact aV (fun e=>absurd e hr)
theorem O4{κ ν:Type}[DecidableEq κ](k k':κ)(v:ν):∀(m:List (κ×ν)),nY k (afK k' v m)=if k=k' then some v else nY k m
 | []=>by simp[afK,nY]
 | p::r=>by
  simp only[afK]
  by_cases e:k'=p.1
  ·subst e
   simp only[if_true,nY]
   by_cases e2:k=p.1<;>simp[e2]
  ·rw[if_neg e]
   simp only[nY]
   rw[O4 k k' v r]
   by_cases e2:k=p.1
   ·subst e2
    rw[if_pos rfl,if_pos rfl,if_neg (fun h=>e h.symm)]
   ·rw[if_neg e2,if_neg e2]
theorem awY:∀x y:List UInt8,(!(Op.bytesLess x y||decide (x=y)))=Op.bytesLess y x
 | [],[]=>by simp[Op.bytesLess]
 | [],b::y=>by simp[Op.bytesLess]
 | a::x,[]=>by simp[Op.bytesLess]
 | a::x,b::y=>by
  have ih:=awY x y
  simp only[Op.bytesLess,List.cons.injEq]
  by_cases h1:a<b
  ·have h2 : ¬b<a:=UInt8.lt_asymm h1
   have h3 : ¬a=b:=UInt8.ne_of_lt h1
   have h4 : ¬b=a:=fun e=>h3 e.symm
   simp[h1,h2,h3,h4]
  ·by_cases h2:a=b
   ·subst h2
    simp[h1,←ih]
   ·have h3:b<a:=by
     rcases UInt8.lt_or_lt_of_ne h2 with h | h
     ·exact absurd h h1
     ·exact h
    have h4 : ¬b=a:=fun e=>h2 e.symm
    simp[h1,h2,h3]
theorem aTK(a b:ByteArray):a.toList=b.toList↔a=b:=by
 constructor
 ·intro h
  rw[ByteArray.toList_eq,ByteArray.toList_eq]at h
  exact Go.WideShapes.bytes_inj h
 ·intro h;rw[h]
theorem Tx(a b:ByteArray):(!(sLt a b||decide (a=b)))=sLt b a:=by
 unfold sLt
 rw[←awY a.toList b.toList]
 simp only[aTK]
theorem Kx{a b:ByteArray}(h:sLt a b=true):sLt b a=false∧a≠b:=by
 have h1:=Tx a b
 have h2:=Tx b a
 rw[h]at h1 h2
 simp at h1 h2
 exact⟨h1,fun e=>h2.2 e.symm⟩
theorem aJz(a b:ByteArray):oq a b=some (if sLt a b then -1 else if sLt b a then 1 else 0):=by
 unfold oq rV
 simp only[decide_true,Bool.not_true,bk,cond_false,Tx]
 cases sLt a b<;>cases sLt b a<;>rfl
theorem Z2(a b:Int):jJ a b=some (if a<b then -1 else if b<a then 1 else 0):=by
 unfold jJ yQ
 by_cases h1:a<b<;>by_cases h2:b<a<;>simp[h1,h2]
def orI:List Int→Int
 | []=>0
 | x::r=>if x=0 then orI r else x
theorem akq:∀(l:List Int) (i:Nat),(match(EQ (fun _ y => if y=0 then none else some (.inr y)) l i).getD (.inl ())with | (.inl _:Unit ⊕ Int) => 0 | .inr rv => rv)=orI l
 | [],_=>rfl
 | x::r,i=>by
  simp only[EQ,orI]
  by_cases h:x=0
  ·simp only[h,if_true];exact akq r (i+1)
  ·simp[h]
theorem UV(l:List Int)(hl:l.length≤9223372036854775807):vK l=some (orI l):=by
 unfold vK
 rw[RY l (fun _ y=>if y=0 then none else some (.inr y)) (.inl ()) (by simp[i6];omega) (fun i y hy=>?_) (by simp[BQ])]
 ·rw[bk,←akq l 0]
  generalize (EQ _ l 0).getD (Sum.inl ())=q
  cases q<;>rfl
 ·have hi:=dZ hy
  have h1:(i:Int)<l.length:=by omega
  simp only[BQ,h1,decide_true,cond_true,dX,hy,bk]
  by_cases h:y=0<;>simp[h,apz (i:=i) (by omega)]
inductive Desc(l:List aX)(j:Int):Int→Prop
 | self:Desc l j j
 | up {a:Int} {y:aX}:0≤a→l[a.toNat]? = some y→Desc l j y.z2→Desc l j a
theorem Desc.le{l:List aX}(hu:Up l l.length){j a:Int}(h:Desc l j a):j≤a:=by
 induction h with
 | self=>omega
 | up h0 hy _ ih =>
  have:=hu _ _ (by have:=dZ hy;omega) hy
  omega
theorem Desc.step{l:List aX}{j a:Int}{y:aX}(h0:0≤a)(hy:l[a.toNat]? = some y)(hne:j≠a):Desc l j a↔Desc l j y.z2:=by
 constructor
 ·intro h
  cases h with
  | self=>exact absurd rfl hne
  | up _ hy' h=>rw[hy]at hy';cases hy';exact h
 ·exact Desc.up h0 hy
theorem aUV(l:List aX)(h:l.length≤9223372036854775807)(hu:Up l l.length)(j i:Int)(hj:0≤j)(hi:i<l.length):Ok (zJ l j i) (fun r=>r=true↔Desc l j i):=by
 unfold zJ
 refine f8 (Q:=tq (fun _=>¬Desc l j i) (fun r=>r=true∧Desc l j i)) (vV (fun s:Int=>s<l.length∧(Desc l j s↔Desc l j i)) (fun s:Int=>(s+1).toNat) (fun s hs=>?_) ⟨hi,Iff.rfl⟩ (by simp[i6];omega)) (fun _ hq=>aV ⟨fun e=>by simp at e,fun e=>absurd e hq⟩) (fun r hr=>aV ⟨fun _=>hr.2,fun _=>hr.1⟩)
 obtain⟨h1,h2⟩:=hs
 unfold Dq
 refine a0 (fun h0=>?_) (fun h0=>eW (fun e=>?_))
 ·refine a0 (fun e=>eW ⟨rfl,h2.1 (e▸Desc.self)⟩) (fun hne=>?_)
  refine aq (cK h0 h1) (fun y hy=>?_)
  have:=hu s.toNat y (by omega) hy
  exact n5 ⟨⟨by omega,(Desc.step h0 hy hne).symm.trans h2⟩,by omega⟩
 ·have:=(h2.2 e).le hu;omega
def wK(l:List aX)(i s0:Int):Nat→Int
 | 0=>s0
 | n+1=>match l[n]? with
  | some z=>if z.z2=i then w64 (wK l i s0 n-w64 (z.q0.q8-z.q0.q5))else wK l i s0 n
  | none=>wK l i s0 n
def Bad(l:List aX)(j i:Int)(z y:aX):Prop:=z.q6=y.q6∧y.q0.q5<z.q0.q8∧z.q0.q5<y.q0.q8∧¬Desc l j i
def L8(l:List aX):Prop:=∀(i:Nat) y,l[i]? = some y→y.x3=wK l i (w64 (y.q0.q8-y.q0.q5)) l.length∧∀(j:Nat) z,j<i→l[j]? = some z→¬Bad l j i z y
theorem aBZ{l:List aX}{i s0:Int}{n:Nat}{z:aX}(hz:l[n]? = some z):Ok (bif decide (z.z2=i)then some (w64 (wK l i s0 n-w64 (z.q0.q8-z.q0.q5)))else some (wK l i s0 n)) (fun v=>v=wK l i s0 (n+1)):=by
 refine a0 (fun e=>aV ?_) (fun e=>aV ?_)<;>simp[wK,hz,e]
theorem a0z{σ ρ:Type}{step:σ×Int→Option ((σ×Int) ⊕ ρ)}(n:Nat)(Inv:σ→Nat→Prop){Post:ρ→Prop}(hn:n≤9223372036854775807){s0:σ}(h0:Inv s0 0)
  (h:∀(s:σ) (i:Nat),Inv s i→i≤n→Ok (step (s,(i:Int))) (tq (fun a=>i<n∧a.2=((i+1:Nat):Int)∧Inv a.1 (i+1)) Post)):Ok (loop step (s0,0)) Post:=by
 refine VY n (fun s i=>Inv s i.toNat) hn h0 (fun s i hI h1 h2=>?_)
 obtain⟨k,rfl⟩:=Int.eq_ofNat_of_zero_le h1
 refine(h s k hI (by omega)).mono ?_
 rintro (⟨a,b⟩ | b) hr
 ·obtain⟨h3,h4,h5⟩ : k<n∧b=((k+1:Nat):Int)∧Inv a (k+1):=hr
  refine⟨by omega,by omega,?_⟩
  rw[show((k:Int)+1).toNat=k+1 by omega];exact h5
 ·exact hr
theorem a8K{ρ:Type}{step:Int→Option (Int ⊕ ρ)}(n:Nat)(Inv:Nat→Prop){Post:ρ→Prop}(hn:n≤9223372036854775807)(h0:Inv 0)
  (h:∀i:Nat,Inv i→i≤n→Ok (step (i:Int)) (tq (fun a=>i<n∧a=((i+1:Nat):Int)∧Inv (i+1)) Post)):Ok (loop step 0) Post:=by
 refine aCQ n (fun i=>Inv i.toNat) hn h0 (fun i hI h1 h2=>?_)
 obtain⟨k,rfl⟩:=Int.eq_ofNat_of_zero_le h1
 refine(h k hI (by omega)).mono ?_
 rintro (b | b) hr
 ·obtain⟨h3,h4,h5⟩ : k<n∧b=((k+1:Nat):Int)∧Inv (k+1):=hr
  refine⟨by omega,by omega,?_⟩
  rw[show((k:Int)+1).toNat=k+1 by omega];exact h5
 ·exact hr
theorem aPK{α:Type}{xs:List α}{i:Nat}(h:i<xs.length):Ok (idx xs (i:Int)) (fun y=>xs[i]? = some y):=by
 rw[dX];exact⟨xs[i],by simp[h],by simp[h]⟩
theorem a4K{i n:Nat}(h:i<n)(hn:n≤9223372036854775807):w64 ((i:Int)+1)=((i+1:Nat):Int):=by rw[bQ (by omega)];omega
theorem aXV(l:List aX)(h:l.length≤9223372036854775807)(hu:Up l l.length):Ok (zK l) (fun b=>b=true↔L8 l):=by
 unfold zK
 let A:Nat→Prop:=fun n=>∀(i:Nat) y,i<n→l[i]? = some y→y.x3=wK l i (w64 (y.q0.q8-y.q0.q5)) l.length∧∀(j:Nat) z,j<i→l[j]? = some z→¬Bad l j i z y
 refine f8 (Q:=tq (fun _=>L8 l) (fun b=>b=false∧¬L8 l)) (a8K l.length A h (by intro i y hi;omega) (fun i hI h2=>?_)) (fun _ hq=>aV ⟨fun _=>hq,fun _=>rfl⟩) (fun r hr=>aV ⟨fun e=>by rw[hr.1]at e;simp at e,fun e=>absurd e hr.2⟩)
 unfold C5
 refine a0 (fun hi=>?_) (fun hi=>eW (fun i' y hy=>hI i' y (by have:=dZ hy;omega) hy))
 refine aq (aPK (by omega)) (fun y hy=>?_)
 refine f8 (Q:=tq (fun e=>e=wK l i (w64 (y.q0.q8-y.q0.q5)) l.length∧∀(j:Nat) z,j<i→l[j]? = some z→¬Bad l j i z y) (tq (fun _=>False) (fun r=>r = .inr false∧¬L8 l))) (a0z l.length (fun a n=>a=wK l i (w64 (y.q0.q8-y.q0.q5)) n∧∀(j:Nat) z,j<n→j<i→l[j]? = some z→¬Bad l j i z y) h ⟨rfl,by intro j z hj;omega⟩ (fun a j hJ h4=>?_)) (fun e he=>?_) (fun r hr=>?_)
 ·unfold DW
  dsimp only
  refine a0 (fun hj=>?_) (fun hj=>eW ⟨?_,fun j' z hj' hz=>hJ.2 j' z (by have:=dZ hz;omega) hj' hz⟩)
  ·refine aq (aPK (by omega)) (fun z hz=>?_)
   rw[hJ.1]
   refine aq (aBZ hz) (fun v hv=>?_)
   refine aq (Q:=fun b=>b=true↔(j<i∧Bad l j i z y)) ?_ (fun b hb=>?_)
   ·refine a0 (fun h5=>?_) (fun h5=>aV ⟨fun e=>by simp at e,fun e=>absurd e.1 (by omega)⟩)
    refine a0 (fun h6=>?_) (fun h6=>aV ⟨fun e=>by simp at e,fun e=>absurd e.2.1 h6⟩)
    refine a0 (fun h7=>?_) (fun h7=>aV ⟨fun e=>by simp at e,fun e=>absurd e.2.2.1 h7⟩)
    refine a0 (fun h8=>?_) (fun h8=>aV ⟨fun e=>by simp at e,fun e=>absurd e.2.2.2.1 h8⟩)
    refine aq (aUV l h hu j i (by omega) (by omega)) (fun r hr=>aV ?_)
    constructor
    ·intro e
     refine⟨by omega,h6,h7,h8,fun hd=>?_⟩
     rw[hr.2 hd]at e;simp at e
    ·intro e
     cases r with
     | false=>rfl
     | true=>exact absurd (hr.1 rfl) e.2.2.2.2
   ·refine bK (fun e=>eW ⟨rfl,fun hA=>?_⟩) (fun e=>?_)
    ·obtain⟨g1,g2⟩:=hb.1 e
     exact(hA i y hy).2 j z g1 hz g2
    ·rw[a4K (n:=l.length) (by omega) h]
     refine n5 ⟨by omega,rfl,hv,fun j' z' hj' hji hz' hbad=>?_⟩
     by_cases e2:j'=j
     ·subst e2;rw[hz]at hz';cases hz'
      rw[hb.2 ⟨hji,hbad⟩]at e;simp at e
     ·exact hJ.2 j' z' (by omega) hji hz' hbad
  ·rw[hJ.1,show j=l.length by omega]
 ·dsimp only
  refine bX (fun hne=>eW ⟨rfl,fun hA=>hne ((hA i y hy).1.trans he.1.symm)⟩) (fun heq=>?_)
  rw[a4K (n:=l.length) (by omega) h]
  refine n5 ⟨by omega,rfl,fun i' y' hi' hy'=>?_⟩
  by_cases e2:i'=i
  ·subst e2;rw[hy]at hy';cases hy'
   exact⟨heq.trans he.1,he.2⟩
  ·exact hI i' y' (by omega) hy'
 ·rcases r with r | r
  ·exact(hr:False).elim
  ·obtain⟨e1,e2⟩ : r = .inr false∧¬L8 l:=hr
   subst e1
   exact eW ⟨rfl,e2⟩
theorem aNZ(ix:List Int)(a:Int)(h:ix.length≤9223372036854775807):Ok (eZ ix a) (fun r=>(r = -1∨0≤r)∧r<ix.length):=by
 unfold eZ
 refine f8 (Q:=tq Yes (fun r:Int=>0≤r∧r<ix.length)) (xX ix.length h fun i h1 h2=>?_) (fun _ _=>aV ⟨.inl rfl,by omega⟩) (fun r hr=>aV ?_)
 ·unfold oz
  refine a0 (fun hi=>?_) (fun _=>eW trivial)
  refine aq (cK h1 hi) (fun y hy=>?_)
  exact a0 (fun e=>eW ⟨h1,hi⟩) (fun _=>cJ h1 hi h)
 ·have hr':0≤r∧r<ix.length:=hr
  exact⟨.inr hr'.1,hr'.2⟩
theorem akW{α:Type}{step:Int→Option (Int ⊕ (Unit ⊕ Int))}(l:List α)(p:α→Bool)(hl:l.length≤9223372036854775807)
  (hs:∀(i:Nat) y,l[i]? = some y→step (i:Int)=some (if p y=true then .inr (.inr (i:Int))else .inl (w64 ((i:Int)+1)))) (he:step (l.length:Int)=some (.inr (.inl ()))) :
  (((loop step 0).bind fun | .inl _=>some (-1) | .inr rv=>some rv).bind fun r=>some (decide (0≤r)))=some (l.any p):=by
 rw[RY l (fun i y=>if p y=true then some (.inr (i:Int))else none) (.inl ()) (by simp[i6];omega) (fun i y hy=>?_) he,bk]
 ·have key:∀(l:List α) (i:Nat),(((match(EQ (fun i y => if p y=true then some (Sum.inr (i:Int):Unit ⊕ Int)else none) l i).getD (.inl ())with | .inl _ => some (-1) | .inr rv => some rv):Option Int).bind fun r => some (decide (0≤r)))=some (l.any p) := by
   intro l
   induction l with
   | nil=>intro i;simp[EQ]
   | cons x l ih =>
    intro i
    simp only[EQ,List.any_cons]
    cases hp:p x with
    | true=>simp
    | false=>simpa[hp]using ih (i+1)
  have:=key l 0
  generalize (EQ _ l 0).getD (Sum.inl ())=q at *
  cases q<;>simpa using this
 ·rw[hs i y hy,apz (i:=i) (by have:=dZ hy;omega)]
  split<;>rfl
theorem aMq(y:fJ):((lz y.q0).bind fun r32=>bif !r32 then some true else bif decide (y.w6<1)then some true else some (decide (1000000000000000<y.w6)))=some (!decide ((0≤y.q0.q5∧y.q0.q5<y.q0.q8∧y.q0.q8≤1000000000000)∧1≤y.w6∧y.w6≤1000000000000000)):=by
 rw[sZ,bk]
 by_cases h1:0≤y.q0.q5∧y.q0.q5<y.q0.q8∧y.q0.q8≤1000000000000
 ·by_cases h2:y.w6<1
  ·have : ¬1≤y.w6:=by omega
   simp[h1,h2,this]
  ·have h3:1≤y.w6:=by omega
   by_cases h4:1000000000000000<y.w6
   ·have : ¬y.w6≤1000000000000000:=by omega
    simp[h1,h2,h3,h4,this]
   ·have:y.w6≤1000000000000000:=by omega
    simp[h1,h2,h3,h4,this]
 ·simp[h1]
def wiB(p s:az):Bool:=decide (s.q5≤p.q5)&&decide (p.q8≤s.q8)
def inB(s:az)(x:Int):Bool:=decide (s.q5≤x)&&decide (x<s.q8)
theorem I8(p s:az):qZ p s=some (wiB p s):=by
 unfold qZ wiB;by_cases h:s.q5≤p.q5<;>simp[h]
theorem Jj(s:az)(x:Int):lZ s x=some (inB s x):=by
 unfold lZ inB;by_cases h:s.q5≤x<;>simp[h]
theorem aNq(s:az)(l:List aX)(hl:l.length≤9223372036854775807):d5 l s=some (!l.all fun y=>wiB y.q0 s):=by
 unfold d5 iz
 refine(akW l (fun y=>!(wiB y.q0 s)) hl (fun i y hy=>?_) (by simp[gq])).trans (by rw[List.not_all_eq_any_not])
 have hi:(i:Int)<l.length:=by have:=dZ hy;omega
 simp only[gq,hi,decide_true,cond_true,dX,hy,bk,pZ,I8,Jj]
 by_cases h1:wiB y.q0 s=true<;>simp[h1]
theorem aLq(s:az)(l:List bj)(hl:l.length≤9223372036854775807):dW l s=some (!l.all fun y=>wiB y.q0 s):=by
 unfold dW ij
 refine(akW l (fun y=>!(wiB y.q0 s)) hl (fun i y hy=>?_) (by simp[f9])).trans (by rw[List.not_all_eq_any_not])
 have hi:(i:Int)<l.length:=by have:=dZ hy;omega
 simp only[f9,hi,decide_true,cond_true,dX,hy,bk,pJ,I8,Jj]
 by_cases h1:wiB y.q0 s=true<;>simp[h1]
theorem aJY(s:az)(l:List cz)(hl:l.length≤9223372036854775807):d0 l s=some (!l.all fun y=>wiB y.q0 s):=by
 unfold d0 iq
 refine(akW l (fun y=>!(wiB y.q0 s)) hl (fun i y hy=>?_) (by simp[f7])).trans (by rw[List.not_all_eq_any_not])
 have hi:(i:Int)<l.length:=by have:=dZ hy;omega
 simp only[f7,hi,decide_true,cond_true,dX,hy,bk,pQ,I8,Jj]
 by_cases h1:wiB y.q0 s=true<;>simp[h1]
theorem aVK(s:az)(l:List c7)(hl:l.length≤9223372036854775807):d8 l s=some (!l.all fun y=>(inB s y.w9&&inB s y.v8)):=by
 unfold d8 iK
 refine(akW l (fun y=>!(inB s y.w9&&inB s y.v8)) hl (fun i y hy=>?_) (by simp[gJ])).trans (by rw[List.not_all_eq_any_not])
 have hi:(i:Int)<l.length:=by have:=dZ hy;omega
 simp only[gJ,hi,decide_true,cond_true,dX,hy,bk,pV,I8,Jj]
 by_cases h1:inB s y.w9=true<;>by_cases h2:inB s y.v8=true<;>simp[h1,h2]
theorem aCq(s:az)(l:List bY)(hl:l.length≤9223372036854775807):dJ l s=some (!l.all fun y=>inB s y.j9):=by
 unfold dJ gj
 refine(akW l (fun y=>!(inB s y.j9)) hl (fun i y hy=>?_) (by simp[fV])).trans (by rw[List.not_all_eq_any_not])
 have hi:(i:Int)<l.length:=by have:=dZ hy;omega
 simp only[fV,hi,decide_true,cond_true,dX,hy,bk,pz,I8,Jj]
 by_cases h1:inB s y.j9=true<;>simp[h1]
theorem aWK(s:az)(l:List bJ)(hl:l.length≤9223372036854775807):d9 l s=some (!l.all fun y=>inB s y.j9):=by
 unfold d9 iY
 refine(akW l (fun y=>!(inB s y.j9)) hl (fun i y hy=>?_) (by simp[gX])).trans (by rw[List.not_all_eq_any_not])
 have hi:(i:Int)<l.length:=by have:=dZ hy;omega
 simp only[gX,hi,decide_true,cond_true,dX,hy,bk,pX,I8,Jj]
 by_cases h1:inB s y.j9=true<;>simp[h1]
theorem Lz{σ ρ:Type}{step:σ×Int→Option ((σ×Int) ⊕ ρ)}(n:Nat)(Inv:σ→Nat→Prop){Post:ρ→Prop}(hn:n≤9223372036854775807){s0:σ}(h0:Inv s0 0)
  (h:∀(s:σ) (i:Nat),Inv s i→i≤n→Ok (step (s,(i:Int))) (tq (fun a=>i<n∧a.2=((i+1:Nat):Int)∧Inv a.1 (i+1)) Post)):Ok (loop step (s0,0)) Post:=by
 refine VY n (fun s i=>Inv s i.toNat) hn h0 (fun s i hI h1 h2=>?_)
 obtain⟨k,rfl⟩:=Int.eq_ofNat_of_zero_le h1
 refine(h s k hI (by omega)).mono ?_
 rintro (⟨a,b⟩ | b) hr
 ·obtain⟨h3,h4,h5⟩ : k<n∧b=((k+1:Nat):Int)∧Inv a (k+1):=hr
  refine⟨by omega,by omega,?_⟩
  rw[show((k:Int)+1).toNat=k+1 by omega];exact h5
 ·exact hr
theorem adQ{ρ:Type}{step:Int→Option (Int ⊕ ρ)}(n:Nat)(Inv:Nat→Prop){Post:ρ→Prop}(hn:n≤9223372036854775807)(h0:Inv 0)
  (h:∀i:Nat,Inv i→i≤n→Ok (step (i:Int)) (tq (fun a=>i<n∧a=((i+1:Nat):Int)∧Inv (i+1)) Post)):Ok (loop step 0) Post:=by
 refine aCQ n (fun i=>Inv i.toNat) hn h0 (fun i hI h1 h2=>?_)
 obtain⟨k,rfl⟩:=Int.eq_ofNat_of_zero_le h1
 refine(h k hI (by omega)).mono ?_
 rintro (b | b) hr
 ·obtain⟨h3,h4,h5⟩ : k<n∧b=((k+1:Nat):Int)∧Inv (k+1):=hr
  refine⟨by omega,by omega,?_⟩
  rw[show((k:Int)+1).toNat=k+1 by omega];exact h5
 ·exact hr
theorem QZ{α:Type}{xs:List α}{i:Nat}(h:i<xs.length):Ok (idx xs (i:Int)) (fun y=>xs[i]? = some y):=by
 rw[dX];exact⟨xs[i],by simp[h],by simp[h]⟩
theorem sY{i n:Nat}(h:i<n)(hn:n≤9223372036854775807):w64 ((i:Int)+1)=((i+1:Nat):Int):=by rw[bQ (by omega)];omega
def SpV(l:List aX):Prop:=∀s∈l,0≤s.q0.q5∧s.q0.q5<s.q0.q8∧s.q0.q8≤1000000000000
theorem P3(l:List aX)(h:l.length≤9223372036854775807)(hx:∀x∈l,okN x.q7):Ok (o4 l) (fun r=>r=0→SpV l):=by
 unfold o4
 refine f8 (Q:=tq (fun _=>SpV l) (fun r=>r≠0)) (adQ l.length (fun n=>∀(k:Nat) s,k<n→l[k]? = some s→0≤s.q0.q5∧s.q0.q5<s.q0.q8∧s.q0.q8≤1000000000000) h (by intro k s hk;omega) (fun i hI h2=>?_)) (fun _ hq=>?_) (fun r hr=>aV (fun e=>absurd e hr))
 ·unfold sq
  refine a0 (fun hi=>?_) (fun hi=>eW (fun s hs=>?_))
  ·refine aq (QZ (by omega)) (fun y hy=>?_)
   refine aq (Q:=fun v=>v=false→0≤y.q0.q5∧y.q0.q5<y.q0.q8∧y.q0.q8≤1000000000000) ?_ (fun v hv=>?_)
   ·refine a0 (fun _=>aV (by simp)) (fun _=>?_)
    refine a0 (fun _=>aV (by simp)) (fun _=>?_)
    refine aq (Fj y.q0) (fun b hb=>aV (fun e=>hb (by simpa using e)))
   refine bK (fun _=>eW (show(2:Int)≠0 by omega)) (fun e=>?_)
   refine aq (l7 _ (hx _ (ew hy))) (fun r _=>?_)
   refine bX (fun h0=>eW h0) (fun _=>?_)
   refine aq (Q:=Yes) ?_ (fun v2 _=>?_)
   ·refine a0 (fun h0=>?_) (fun _=>cZ)
    rw[show w64 ((i:Int)-1)=(i:Int)-1 from bQ (by omega)]
    refine aq (cK (by omega) (by omega)) (fun z _=>?_)
    exact aq (J3 _ _) (fun _ _=>cZ)
   refine bK (fun _=>eW (show(11:Int)≠0 by omega)) (fun _=>?_)
   rw[sY (n:=l.length) (by omega) h]
   refine n5 ⟨by omega,rfl,fun k s hk hs=>?_⟩
   by_cases e2:k=i
   ·subst e2;rw[hy]at hs;cases hs;exact hv e
   ·exact hI k s (by omega) hs
  ·obtain⟨k,hk⟩:=List.getElem?_of_mem hs
   exact hI k s (by have:=dZ hk;omega) hk
 ·have hq':SpV l:=hq
  dsimp only
  refine aq (Q:=Yes) ?_ (fun v _=>bK (fun _=>aV (fun e=>by simp at e)) (fun _=>aV (fun _=>hq')))
  refine aq (Zq l h) (fun b hb=>?_)
  refine dq (fun _=>cZ) (fun e=>?_)
  exact aq (M6 l h (hb e)) (fun _ _=>cZ)
theorem aXJ{t:cW}(h:rX t):Siz t:=by
 have e:reachBytes=140737488351232:=by decide
 unfold rX okL Hz I5 Hj LK I0 Z1 okL at h
 rw[e]at h
 obtain⟨_,_,h1,h2,h3,h4,h5,h6,h7,h8⟩:=h
 refine⟨by omega,by omega,by omega,by omega,by omega,by omega,by omega,by omega,fun x hx=>?_,fun x hx=>?_,fun x hx=>?_,fun x hx=>?_,fun x hx=>?_⟩
 ·have:=(h1.2 x hx).2.1;unfold okN;omega
 ·have:=(h2.2 x hx).2.2.2.1;unfold okN;omega
 ·have:=(h5.2 x hx).2.2.2;exact⟨by omega,fun y hy=>by have:=this.2 y hy;unfold okN;omega⟩
 ·have:=(h6.2 x hx).1;unfold okN;omega
 ·have:=(h7.2 x hx).2.2.2.2.2.1;exact⟨by omega,fun y hy=>by have:=this.2 y hy;unfold okN;omega⟩
def aaz(l:List aX)(i:Nat)(y:aX):Prop :=
 (y.z2 = -1∧y.j3=0)∨∃p z,y.z2=((p:Nat):Int)∧p<i∧l[p]? = some z∧z.q6=y.q6∧z.q0.q5≤y.q0.q5∧y.q0.q8≤z.q0.q8∧y.j3=w64 (z.j3+1)
def Nest(l:List aX):Prop:=∀(i:Nat) y,l[i]? = some y→aaz l i y
theorem aWQ(l:List aX)(h:l.length≤9223372036854775807):Ok (qV l) (fun b=>b=true→Nest l):=by
 unfold qV
 refine f8 (Q:=tq (fun _=>Nest l) (fun b=>b=false)) (adQ l.length (fun n=>∀(k:Nat) y,k<n→l[k]? = some y→aaz l k y) h (by intro k y hk;omega) (fun i hI h2=>?_)) (fun _ hq=>aV (fun _=>hq)) (fun r hr=>aV (fun e=>?_))
 ·unfold qQ
  refine a0 (fun hi=>?_) (fun hi=>eW (fun k y hy=>hI k y (by have:=dZ hy;omega) hy))
  refine aq (QZ (by omega)) (fun y hy=>?_)
  have no:tq (fun _:Unit=>Nest l) (fun b=>b=false) (.inr false):=rfl
  have nx:aaz l i y→Ok (some (.inl (w64 ((i:Int)+1)))) (tq (fun a=>i<l.length∧a=((i+1:Nat):Int)∧∀(k:Nat) y,k<i+1→l[k]? = some y→aaz l k y) (tq (fun _:Unit=>Nest l) (fun b=>b=false))):=by
   intro hn
   rw[sY (n:=l.length) (by omega) h]
   refine n5 ⟨by omega,rfl,fun k z hk hz=>?_⟩
   by_cases e:k=i
   ·subst e;rw[hy]at hz;cases hz;exact hn
   ·exact hI k z (by omega) hz
  refine aq (Q:=fun v=>v=false→-1≤y.z2∧y.z2<i) ?_ (fun v hv=>?_)
  ·refine a0 (fun _=>aV (by simp)) (fun h3=>aV (fun h4=>?_))
   have:=of_decide_eq_false h4
   omega
  refine bK (fun _=>eW no) (fun h0=>?_)
  have hp:=hv h0
  refine a0 (fun e1=>?_) (fun hne=>?_)
  ·refine bX (fun _=>eW no) (fun e2=>nx (.inl ⟨e1,e2⟩))
  ·obtain⟨p,hpe⟩:=Int.eq_ofNat_of_zero_le (show 0≤y.z2 by omega)
   rw[hpe]
   refine aq (QZ (by omega)) (fun z hz=>?_)
   refine aq (Q:=fun v=>v=false→z.q6=y.q6∧z.q0.q5≤y.q0.q5∧y.q0.q8≤z.q0.q8∧y.j3=w64 (z.j3+1)) ?_ (fun v hv=>?_)
   ·refine bX (fun _=>aV (by simp)) (fun g1=>?_)
    refine a0 (fun _=>aV (by simp)) (fun g2=>?_)
    refine a0 (fun _=>aV (by simp)) (fun g3=>aV (fun g4=>?_))
    exact⟨g1,by omega,by omega,by simpa using g4⟩
   refine bK (fun _=>eW no) (fun e=>nx (.inr ⟨p,z,hpe,by omega,hz,hv e⟩))
 ·have:r=false:=hr
  simp[this]at e
theorem Nest.up{l:List aX}(h:Nest l):Up l l.length:=by
 intro j y hj hy
 rcases h j y hy with⟨e,_⟩ | ⟨p,z,e,hp,_⟩<;>omega
theorem W5(l:List aX)(h:l.length≤9223372036854775807)(hx:∀x∈l,okN x.q7):Ok (o4 l) (fun r=>r=0→Nest l):=by
 unfold o4
 refine f8 (Q:=tq (fun _=>True) (fun r=>r≠0)) (adQ l.length (fun _=>True) h trivial (fun i _ h2=>?_)) (fun _ _=>?_) (fun r hr=>aV (fun e=>absurd e hr))
 ·unfold sq
  refine a0 (fun hi=>?_) (fun hi=>eW trivial)
  refine aq (QZ (by omega)) (fun y hy=>?_)
  refine aq (Q:=Yes) ?_ (fun v _=>?_)
  ·refine a0 (fun _=>cZ) (fun _=>?_)
   refine a0 (fun _=>cZ) (fun _=>?_)
   exact aq (Fj y.q0) (fun b _=>cZ)
  refine bK (fun _=>eW (show(2:Int)≠0 by omega)) (fun _=>?_)
  refine aq (l7 _ (hx _ (ew hy))) (fun r _=>?_)
  refine bX (fun h0=>eW h0) (fun _=>?_)
  refine aq (Q:=Yes) ?_ (fun v2 _=>?_)
  ·refine a0 (fun h0=>?_) (fun _=>cZ)
   rw[show w64 ((i:Int)-1)=(i:Int)-1 from bQ (by omega)]
   refine aq (cK (by omega) (by omega)) (fun z _=>?_)
   exact aq (J3 _ _) (fun _ _=>cZ)
  refine bK (fun _=>eW (show(11:Int)≠0 by omega)) (fun _=>?_)
  rw[sY (n:=l.length) (by omega) h]
  exact n5 ⟨by omega,rfl,trivial⟩
 ·dsimp only
  refine aq (Q:=fun v=>v=false→Nest l) ?_ (fun v hv=>bK (fun _=>aV (fun e=>by simp at e)) (fun e=>aV (fun _=>hv e)))
  refine aq (aWQ l h) (fun b hb=>?_)
  refine dq (fun _=>aV (by simp)) (fun e=>?_)
  exact aq (M6 l h ((hb e).up)) (fun _ _=>aV (fun _=>hb e))
theorem aSx{α:Type}(p s:List α)(x:α):(p++x::s)[p.length]? = some x:=by simp
theorem aGQ{α:Type}(p s:List α)(x y:α):(p++x::s).set p.length y=p++y::s:=by simp
theorem akQ{α:Type}(p q s:List α)(x y x' y':α) :
  (p++x::(q++y::s))[p.length]? = some x∧(p++x::(q++y::s))[p.length+1+q.length]? = some y∧((p++x::(q++y::s)).set p.length x')=p++x'::(q++y::s)∧((p++x::(q++y::s)).set (p.length+1+q.length) y')=p++x::(q++y'::s):=by
 have e:∀(x:α) (y:α),p++x::(q++y::s)=(p++x::q)++y::s:=fun x y=>by simp
 have l:∀x:α,(p++x::q).length=p.length+1+q.length:=fun x=>by simp;omega
 refine⟨aSx p _ x,?_,aGQ p _ x x',?_⟩
 ·rw[e,←l x];exact aSx _ _ _
 ·rw[e,←l x,aGQ,←e]
theorem abY(u X z Y v:List ax)(n:Nat)(hX:X.length=n)(hY:Y.length=n)(hl:(u++X++z++Y++v).length≤1000000)(i1 i2 i3:Int)(e1:i1=u.length)(e2:i2=(u.length+n+z.length:Nat))(e3:i3=n) :
  dY (u++X++z++Y++v) i1 i2 i3=some (u++Y++z++X++v):=by
 subst e1 e2 e3
 simp only[cw]at hl
 have:Ok (dY (u++X++z++Y++v) (u.length:Int) ((u.length+n+z.length:Nat):Int) (n:Int)) (fun r=>r=u++Y++z++X++v):=by
  unfold dY
  refine Lz n (fun a i=>∃Xd Xr Yd Yr,X=Xd++Xr∧Y=Yd++Yr∧Xd.length=i∧Yd.length=i∧a=u++Yd++Xr++z++Xd++Yr++v) (by omega) ⟨[],X,[],Y,by simp,by simp,rfl,rfl,by simp⟩ (fun a i hI h2=>?_)
  obtain⟨Xd,Xr,Yd,Yr,rfl,rfl,g1,g2,rfl⟩:=hI
  rw[cw]at hX hY
  unfold lK
  dsimp only
  refine a0 (fun hi=>?_) (fun hi=>eW ?_)
  ·cases Xr with
   | nil=>simp at hX;omega
   | cons x Xr =>
    cases Yr with
    | nil=>simp at hY;omega
    | cons y Yr =>
     simp only[nw]at hX hY
     simp only[cw,nw]at hl
     have form:u++Yd++x::Xr++z++Xd++y::Yr++v=(u++Yd)++x::((Xr++z++Xd)++y::(Yr++v)):=by simp
     have p1:(u++Yd).length=u.length+i:=by rw[cw];omega
     have p2:(u++Yd).length+1+(Xr++z++Xd).length=u.length+n+z.length+i:=by simp only[cw];omega
     have w1:w64 ((u.length:Int)+(i:Int))=((u++Yd).length:Int):=by rw[bQ (by omega),p1];omega
     have w2:w64 (((u.length+n+z.length:Nat):Int)+(i:Int))=(((u++Yd).length+1+(Xr++z++Xd).length:Nat):Int):=by rw[bQ (by omega),p2];omega
     rw[form]
     obtain⟨a1,a2,a3,a4⟩:=akQ (u++Yd) (Xr++z++Xd) (Yr++v) x y y x
     obtain⟨b1,b2,b3,b4⟩:=akQ (u++Yd) (Xr++z++Xd) (Yr++v) y y y x
     rw[w1,w2,dX,dX,a1,a2]
     simp only[bk,Int.toNat_natCast]
     rw[a3,dX,b2,bk,b4,sY (n:=n) (by omega) (by omega)]
     refine n5 ⟨by omega,rfl,Xd++[x],Xr,Yd++[y],Yr,by simp,by simp,by simp;omega,by simp;omega,by simp⟩
  ·have hXr:Xr=[]:=dw (by omega)
   have hYr:Yr=[]:=dw (by omega)
   subst hXr hYr
   simp
 obtain⟨r,h1,h2⟩:=this
 rw[h1,h2]
theorem aKz(pre A B post:List ax)(hA:A≠[])(hB:B≠[])(hl:(pre++A++B++post).length≤1000000)(i1 i2 i3:Int)(e1:i1=pre.length)(e2:i2=(pre.length+A.length:Nat))(e3:i3=(pre.length+A.length+B.length:Nat)) :
  gQ (pre++A++B++post) i1 i2 i3=some (pre++B++A++post):=by
 subst e1 e2 e3
 have la:0<A.length:=List.length_pos_iff.2 hA
 have lb:0<B.length:=List.length_pos_iff.2 hB
 simp only[cw]at hl
 have:Ok (gQ (pre++A++B++post) (pre.length:Int) ((pre.length+A.length:Nat):Int) ((pre.length+A.length+B.length:Nat):Int)) (fun r=>r=pre++B++A++post):=by
  unfold gQ
  rw[bQ (n:=((pre.length+A.length:Nat):Int)-(pre.length:Int)) (by omega),bQ (n:=((pre.length+A.length+B.length:Nat):Int)-((pre.length+A.length:Nat):Int)) (by omega)]
  refine aq (Q:=fun r:List ax×Int=>∃u X Y v,X.length=Y.length∧0<X.length∧u.length+X.length=pre.length+A.length∧(u++X++Y++v).length=(pre++A++B++post).length∧r.1=u++X++Y++v∧r.2=X.length∧u++Y++X++v=pre++B++A++post)
   (vV (fun s:List ax×Int×Int=>∃u X Y v,0<X.length∧0<Y.length∧u.length+X.length=pre.length+A.length∧(u++X++Y++v).length=(pre++A++B++post).length∧s.1=u++X++Y++v∧s.2.1=X.length∧s.2.2=Y.length∧u++Y++X++v=pre++B++A++post) (fun s=>(s.2.1+s.2.2).toNat) (fun s hs=>?_) ⟨pre,A,B,post,la,lb,rfl,rfl,rfl,by simp only;omega,by simp only;omega,rfl⟩ (by simp[i6];omega)) (fun r hr=>?_)
  ·obtain⟨a,i,j⟩:=s
   obtain⟨u,X,Y,v,h1,h2,h3,h4,rfl,h6,h7,h8⟩:=hs
   simp only at h6 h7
   subst h6 h7
   simp only[cw]at h4
   unfold mY
   dsimp only
   refine bX (fun hne=>?_) (fun heq=>eW ⟨u,X,Y,v,by omega,h1,h3,by simp only[cw];omega,rfl,rfl,h8⟩)
   have hu:w64 (((pre.length+A.length:Nat):Int)-(X.length:Int))=(u.length:Int):=by rw[bQ (by omega)];omega
   rw[hu]
   refine a0 (fun hlt=>?_) (fun hge=>?_)
   ·
    have hX:X=X.take Y.length++X.drop Y.length:=(List.take_append_drop _ _).symm
    have t1:(X.take Y.length).length=Y.length:=by rw[uk];omega
    have t2:(X.drop Y.length).length=X.length-Y.length:=by rw[List.length_drop]
    generalize X.take Y.length=X1 at *
    generalize X.drop Y.length=X2 at *
    subst hX
    rw[cw]at h3 h4 hlt t2 ⊢
    have form:u++(X1++X2)++Y++v=u++X1++X2++Y++v:=by simp
    rw[form,abY u X1 X2 Y v Y.length t1 rfl (by simp only[cw];omega) _ _ _ rfl (by omega) rfl,bk]
    rw[bQ (by omega)]
    refine n5 ⟨⟨u++Y,X2,X1,v,by omega,by omega,by rw[cw];omega,by simp only[cw];omega,rfl,by simp only;omega,by simp only;omega,by rw[←h8];simp⟩,by simp only;omega⟩
   ·have hY:Y=Y.take (Y.length-X.length)++Y.drop (Y.length-X.length):=(List.take_append_drop _ _).symm
    have t1:(Y.take (Y.length-X.length)).length=Y.length-X.length:=by rw[uk];omega
    have t2:(Y.drop (Y.length-X.length)).length=X.length:=by rw[List.length_drop];omega
    generalize Y.take (Y.length-X.length)=Y1 at *
    generalize Y.drop (Y.length-X.length)=Y2 at *
    subst hY
    rw[cw]at h2 h4 hne hge t1 ⊢
    have form:u++X++(Y1++Y2)++v=u++X++Y1++Y2++v:=by simp
    have w2:w64 (w64 (((pre.length+A.length:Nat):Int)+((Y1.length+Y2.length:Nat):Int))-(X.length:Int))=((u.length+X.length+Y1.length:Nat):Int):=by
     rw[bQ (n:=((pre.length+A.length:Nat):Int)+((Y1.length+Y2.length:Nat):Int)) (by omega),bQ (by omega)];omega
    rw[form,w2,abY u X Y1 Y2 v X.length rfl t2 (by simp only[cw];omega) _ _ _ rfl rfl rfl,bk]
    rw[bQ (by omega)]
    refine n5 ⟨⟨u,Y2,Y1,X++v,by omega,by omega,by omega,by simp only[cw];omega,by simp,by simp only;omega,by simp only;omega,by rw[←h8];simp⟩,by simp only;omega⟩
  ·obtain⟨a,i⟩:=r
   obtain⟨u,X,Y,v,h1,h2,h3,h4,rfl,h6,h8⟩:=hr
   simp only at h6
   subst h6
   simp only[cw]at h4
   have hu:w64 (((pre.length+A.length:Nat):Int)-(X.length:Int))=(u.length:Int):=by rw[bQ (by omega)];omega
   dsimp only
   have form:u++X++Y++v=u++X++[]++Y++v:=by simp
   rw[hu,form,abY u X [] Y v X.length rfl h1.symm (by simp only[cw,List.length_nil];omega) _ _ _ rfl (by simp only[List.length_nil];omega) rfl,bk]
   exact aV (by rw[←h8];simp)
 obtain⟨r,h1,h2⟩:=this
 rw[h1,h2]
abbrev DS:=ax×Nat
def kl(a b:ax):Prop:=a.q9.q0.q5<b.q9.q0.q5∨(a.q9.q0.q5=b.q9.q0.q5∧(b.q9.q0.q8<a.q9.q0.q8∨(b.q9.q0.q8=a.q9.q0.q8∧a.q9.q6<b.q9.q6)))
instance (a b:ax):Decidable (kl a b):=by unfold kl;infer_instance
def lt(x y:DS):Prop:=kl x.1 y.1∨(¬kl y.1 x.1∧x.2<y.2)
theorem a7Z{a:ax} : ¬kl a a:=by unfold kl;omega
theorem a7Y{a b:ax}(h:kl a b) : ¬kl b a:=by unfold kl at *;omega
theorem awz{a b c:ax}(h1 : ¬kl c b)(h2 : ¬kl b a) : ¬kl c a:=by unfold kl at *;omega
theorem a4J{a b c:ax}(h1 : ¬kl b a)(h2:kl b c):kl a c:=by unfold kl at *;omega
theorem bbq{a b c:ax}(h1:kl a b)(h2 : ¬kl c b):kl a c:=by unfold kl at *;omega
theorem baQ{x y z:DS}(h1:lt x y)(h2:lt y z):lt x z:=by unfold lt kl at *;omega
theorem bbY{x y:DS}(h:lt x y) : ¬kl y.1 x.1:=h.elim a7Y (·.1)
theorem UX(a b:ax):∃r,nZ a b=some r∧(decide (r<0)=decide (kl a b)):=by
 refine⟨orI [if a.q9.q0.q5<b.q9.q0.q5 then -1 else if b.q9.q0.q5<a.q9.q0.q5 then 1 else 0,if b.q9.q0.q8<a.q9.q0.q8 then -1 else if a.q9.q0.q8<b.q9.q0.q8 then 1 else 0,if a.q9.q6<b.q9.q6 then -1 else if b.q9.q6<a.q9.q6 then 1 else 0],?_,?_⟩
 ·unfold nZ
  simp only[Z2,bk]
  rw[UV _ (Nat.le_of_ble_eq_true rfl),bk]
 ·rw[decide_eq_decide]
  simp only[orI,kl]
  repeat' split
  all_goals omega
theorem asZ{α:Type}(p s:List α)(x y:α):(p++y::x::s)[p.length]? = some y∧(p++y::x::s)[p.length+1]? = some x∧((p++y::x::s).set (p.length+1) y)=p++y::y::s∧((p++y::y::s).set p.length x)=p++x::y::s∧(p++y::y::s)[p.length]? = some y:=by
 obtain⟨a1,a2,a3,a4⟩:=akQ p [] s y x x y
 obtain⟨b1,b2,b3,b4⟩:=akQ p [] s y y x y
 exact⟨a1,a2,a4,b3,b1⟩
theorem Q3{C1 C2:List DS}{x:DS}(h:(C1++C2).Pairwise lt)(h1:∀y∈C1,lt y x)(h2:∀y∈C2,lt x y):(C1++x::C2).Pairwise lt:=by
 rw[List.pairwise_append]at h ⊢
 refine⟨h.1,List.pairwise_cons.2 ⟨h2,h.2.1⟩,fun a ha b hb=>?_⟩
 rcases jw.1 hb with rfl | hb
 ·exact h1 a ha
 ·exact h.2.2 a ha b hb
theorem a1K(pre C rest:List DS)(x:DS)(hC:C.Pairwise lt)(hx:∀y∈C,y.2<x.2)(hl:(pre++C++[x]++rest).length≤1000000)(lo j:Int)(e1:lo=pre.length)(e2:j=(pre.length+C.length:Nat)) :
  Ok (loop (iZ lo) ((pre++C++[x]++rest).map (·.1),j)) (fun r=>∃C',r=(pre++C'++rest).map (·.1)∧C'.Perm (x::C)∧C'.Pairwise lt):=by
 subst e1 e2
 simp only[cw,nw,List.length_nil]at hl
 refine vV (fun s:List ax×Int=>∃C1 C2,C=C1++C2∧s.1=(pre++C1++[x]++C2++rest).map (·.1)∧s.2=(pre.length+C1.length:Nat)∧∀y∈C2,lt x y) (fun s=>s.2.toNat) (fun s hs=>?_) ⟨C,[],by simp,by simp,rfl,by simp⟩ (by simp[i6];omega)
 obtain⟨a,j⟩:=s
 obtain⟨C1,C2,rfl,rfl,h3,h4⟩:=hs
 simp only at h3
 subst h3
 unfold iZ
 dsimp only
 simp only[cw]at hl
 have done:(∀y∈C1,lt y x)→Ok (some (Sum.inr ((pre++C1++[x]++C2++rest).map (·.1))):Option ((List ax×Int) ⊕ List ax)) (tq (fun s':List ax×Int=>(∃C1' C2',C1++C2=C1'++C2'∧s'.1=(pre++C1'++[x]++C2'++rest).map (·.1)∧s'.2=(pre.length+C1'.length:Nat)∧∀y∈C2',lt x y)∧s'.2.toNat<((pre.length+C1.length:Nat):Int).toNat) (fun r=>∃C',r=(pre++C'++rest).map (·.1)∧C'.Perm (x::(C1++C2))∧C'.Pairwise lt)):=fun hlast =>
  eW ⟨C1++x::C2,by simp,List.perm_middle,Q3 hC hlast h4⟩
 by_cases g:((pre.length:Nat):Int)<((pre.length+C1.length:Nat):Int)
 ·obtain⟨C0,y,rfl⟩ : ∃C0 y,C1=C0++[y]:=by
   have:C1≠[]:=fun e=>by subst e;simp at g
   exact⟨C1.dropLast,C1.getLast this,(List.dropLast_concat_getLast this).symm⟩
  simp only[cw,nw,List.length_nil]at hl g
  have form:((pre++(C0++[y])++[x]++C2++rest).map (·.1))=((pre++C0).map (·.1))++y.1::x.1::((C2++rest).map (·.1)):=by simp
  have lp:((pre++C0).map (·.1)).length=pre.length+C0.length:=by simp
  obtain⟨s1,s2,s3,s4,s5⟩:=asZ ((pre++C0).map (·.1)) ((C2++rest).map (·.1)) x.1 y.1
  rw[lp]at s1 s2 s3 s4 s5
  rw[form]at done ⊢
  have j1:w64 (((pre.length+(C0++[y]).length:Nat):Int)-1)=((pre.length+C0.length:Nat):Int):=by rw[cw,nw,List.length_nil,bQ (by omega)];omega
  have j0:((pre.length+(C0++[y]).length:Nat):Int)=((pre.length+C0.length+1:Nat):Int):=by rw[cw,nw,List.length_nil];omega
  have gg:(pre.length:Int)<((pre.length+(C0++[y]).length:Nat):Int):=by rw[j0];omega
  obtain⟨r,hr,hr2⟩:=UX x.1 y.1
  rw[decide_eq_true gg,cond_true,j1]
  rw[j0,dX,s2,dX,s1]
  simp only[bk]
  rw[hr,bk,bk,hr2]
  refine a0 (fun hlt=>?_) (fun hge=>?_)
  ·simp only[Int.toNat_natCast,s3,dX,s5,bk,s4]
   refine n5 ⟨⟨C0,y::C2,by simp,by simp,rfl,fun z hz=>?_⟩,by simp only[Int.toNat_natCast];omega⟩
   rcases jw.1 hz with rfl | hz
   ·exact .inl hlt
   ·exact h4 z hz
  ·rw[j0]at done
   refine done (fun z hz=>?_)
   have hy:=hx y (by simp)
   have hyx:lt y x:=.inr ⟨hge,hy⟩
   rcases kw.1 hz with hz | hz
   ·have:=(List.pairwise_append.1 (List.pairwise_append.1 hC).1).2.2 z hz y (by simp)
    exact baQ this hyx
   ·simp only[gw]at hz;subst hz;exact hyx
 ·rw[lk g]
  simp only[cond_false,bk]
  have:C1=[]:=dw (by omega)
  exact done (fun z hz=>by subst this;simp at hz)
theorem aeX(pre S post:List DS)(hS:S.Pairwise (fun x y=>x.2<y.2))(hl:(pre++S++post).length≤1000000)(lo hi:Int)(e1:lo=pre.length)(e2:hi=(pre.length+S.length:Nat)) :
  Ok (d4 ((pre++S++post).map (·.1)) lo hi) (fun r=>∃C,r=(pre++C++post).map (·.1)∧C.Perm S∧C.Pairwise lt):=by
 subst e1 e2
 simp only[cw]at hl
 unfold d4
 rw[bQ (by omega)]
 by_cases h0:S=[]
 ·subst h0
  refine vV (fun s:List ax×Int=>s=((pre++[]++post).map (fun x:DS=>x.1),(pre.length:Int)+1)) (fun _=>0) (fun s hs=>?_) rfl (by simp[i6])
  subst hs
  unfold iJ
  dsimp only
  refine a0 (fun h=>by simp at h;omega) (fun _=>eW ⟨[],rfl,List.Perm.refl _,List.Pairwise.nil⟩)
 ·have hpos:0<S.length:=List.length_pos_iff.2 h0
  refine vV (fun s:List ax×Int=>∃(k:Nat) (C:List DS),1≤k∧k≤S.length∧s.2=(pre.length+k:Nat)∧C.Perm (S.take k)∧C.Pairwise lt∧s.1=(pre++C++S.drop k++post).map (·.1)) (fun s=>((pre.length+S.length:Nat)-s.2).toNat) (fun s hs=>?_) ⟨1,S.take 1,by omega,by omega,by simp only;omega,List.Perm.refl _,?_,?_⟩ (by simp[i6];omega)
  ·obtain⟨a,i⟩:=s
   obtain⟨k,C,h1,h2,h3,h4,h5,rfl⟩:=hs
   simp only at h3
   subst h3
   unfold iJ
   dsimp only
   refine a0 (fun hi=>?_) (fun hi=>eW ?_)
   ·obtain⟨x,hx⟩ : ∃x,S[k]? = some x:=⟨_,bw (by omega)⟩
    have hd:S.drop k=x::S.drop (k+1):=by
     rw[List.drop_eq_getElem_cons (by omega)]
     rw[bw (by omega)]at hx
     rw[Option.some.inj hx]
    have hcl:C.length=k:=by rw[h4.length_eq,uk];omega
    have hxlt:∀y∈C,y.2<x.2:=by
     intro y hy
     have hy2:=h4.mem_iff.1 hy
     obtain⟨q,hq,rfl⟩:=List.mem_take_iff_getElem.1 hy2
     have:=List.pairwise_iff_getElem.1 hS q k (by omega) (by omega) (by omega)
     rw[bw (by omega)]at hx
     rw[←Option.some.inj hx]
     exact this
    have form:pre++C++S.drop k++post=pre++C++[x]++(S.drop (k+1)++post):=by rw[hd];simp
    rw[form]
    refine aq (a1K pre C (S.drop (k+1)++post) x h5 hxlt (by simp only[cw,nw,List.length_nil,List.length_drop];omega) _ _ rfl (by rw[hcl])) (fun r hr=>?_)
    obtain⟨C',rfl,c2,c3⟩:=hr
    rw[bQ (by omega)]
    refine n5 ⟨⟨k+1,C',by omega,by omega,by simp only;omega,?_,c3,by simp⟩,by simp only;omega⟩
    refine c2.trans ?_
    rw[List.take_add_one,hx]
    simp only[Option.toList_some]
    exact((h4.cons x).trans (List.perm_append_singleton x _).symm)
   ·have hk:k=S.length:=by omega
    subst hk
    rw[List.take_length]at h4
    exact⟨C,by simp,h4,h5⟩
  ·have:(S.take 1).length≤1:=by rw[uk];omega
   cases hS1:S.take 1 with
   | nil=>exact List.Pairwise.nil
   | cons z l =>
    rw[hS1]at this
    have:l=[]:=dw (by simpa using this)
    subst this;exact List.pairwise_singleton _ _
  ·simp only
   rw[ow pre (S.take 1),List.take_append_drop]
theorem a8Q{n:Int}(h:0≤n∧n<18446744073709551616):IntKind.wrap .u64 n=n:=by
 have e:(2:Int) ^ (64:Nat)=18446744073709551616:=by decide
 simp only[IntKind.wrap,IntKind.bits,IntKind.signed,e,Bool.false_and,jk,iw]
 omega
theorem aej(i j:Nat)(hi:i≤1000000)(hj:j≤1000000):w64 (shR .u64 (IntKind.wrap .u64 (w64 ((i:Int)+(j:Int)))) 1)=(((i+j) / 2:Nat):Int):=by
 have e:(2:Int) ^ min (1:Int).toNat (IntKind.u64).bits=2:=by decide
 unfold shR
 rw[bQ (n:=(i:Int)+(j:Int)) (by omega),a8Q (by omega),e,Int.fdiv_eq_ediv_of_nonneg _ (by omega),bQ (by omega)]
 omega
theorem arY{step:Int×Int→Option ((Int×Int) ⊕ Int)}(P:Nat→Bool)(lo hi:Nat)(hlh:lo≤hi)(hhi:hi≤1000000)(mono:∀i j,lo≤i→i≤j→j<hi→P j=true→P i=true)
  (h:∀(i j:Nat),lo≤i→i<j→j≤hi→step ((i:Int),(j:Int))=some (if P ((i+j) / 2)=true then .inl ((((i+j) / 2+1:Nat):Int),(j:Int))else .inl ((i:Int),(((i+j) / 2:Nat):Int)))) (h2:∀i:Nat,step ((i:Int),(i:Int))=some (.inr (i:Int))) :
  ∃e:Nat,loop step ((lo:Int),(hi:Int))=some (e:Int)∧lo≤e∧e≤hi∧(∀k,lo≤k→k<e→P k=true)∧(∀k,e≤k→k<hi→P k=false):=by
 have:Ok (loop step ((lo:Int),(hi:Int))) (fun r=>∃e:Nat,r=(e:Int)∧lo≤e∧e≤hi∧(∀k,lo≤k→k<e→P k=true)∧(∀k,e≤k→k<hi→P k=false)):=by
  refine vV (fun s:Int×Int=>∃i j:Nat,s=((i:Int),(j:Int))∧lo≤i∧i≤j∧j≤hi∧(∀k,lo≤k→k<i→P k=true)∧(∀k,j≤k→k<hi→P k=false)) (fun s=>(s.2-s.1).toNat) (fun s hs=>?_) ⟨lo,hi,rfl,by omega,by omega,by omega,fun k h1 h2=>by omega,fun k h1 h2=>by omega⟩ (by simp[i6];omega)
  obtain⟨i,j,rfl,h3,h4,h5,h6,h7⟩:=hs
  by_cases g:i<j
  ·rw[h i j h3 g h5]
   by_cases hp:P ((i+j) / 2)=true
   ·rw[if_pos hp]
    refine n5 ⟨⟨(i+j) / 2+1,j,rfl,by omega,by omega,by omega,fun k h8 h9=>?_,h7⟩,by simp only;omega⟩
    exact mono k ((i+j) / 2) h8 (by omega) (by omega) hp
   ·rw[if_neg hp]
    refine n5 ⟨⟨i,(i+j) / 2,rfl,by omega,by omega,by omega,h6,fun k h8 h9=>?_⟩,by simp only;omega⟩
    cases hk:P k with
    | false=>rfl
    | true=>exact absurd (mono ((i+j) / 2) k (by omega) h8 h9 hk) hp
  ·have:i=j:=by omega
   subst this
   rw[h2 i]
   exact eW ⟨i,rfl,h3,h5,h6,h7⟩
 obtain⟨r,h1,e,rfl,h3⟩:=this
 exact⟨e,h1,h3⟩
theorem aNK{α:Type}(p s:List α)(x y:α):(p++x::y::s)[p.length]? = some x∧(p++x::y::s)[p.length+1]? = some y∧((p++x::y::s).set p.length y)=p++y::y::s∧((p++y::y::s).set (p.length+1) x)=p++y::x::s∧(p++y::y::s)[p.length+1]? = some y:=by
 obtain⟨a1,a2,a3,a4⟩:=akQ p [] s x y y x
 obtain⟨b1,b2,b3,b4⟩:=akQ p [] s y y y x
 exact⟨a1,a2,a3,b4,b2⟩
theorem aOY(p B s:List ax)(x:ax)(hl:(p++x::(B++s)).length≤1000000)(e k:Int)(h1:e=(p.length+1+B.length:Nat))(h2:k=p.length) :
  loop (gW e) (p++x::(B++s),k)=some (p++(B++x::s)):=by
 subst h1 h2
 simp only[cw,nw]at hl
 have:Ok (loop (gW ((p.length+1+B.length:Nat):Int)) (p++x::(B++s),(p.length:Int))) (fun r=>r=p++(B++x::s)):=by
  refine vV (fun a:List ax×Int=>∃Bd Br,B=Bd++Br∧a.1=(p++Bd)++x::(Br++s)∧a.2=((p++Bd).length:Nat)) (fun a=>((p.length+B.length:Nat)-a.2).toNat) (fun a ha=>?_) ⟨[],B,rfl,by simp,by simp⟩ (by simp[i6];omega)
  obtain⟨a,k⟩:=a
  obtain⟨Bd,Br,rfl,rfl,h3⟩:=ha
  simp only at h3
  subst h3
  simp only[cw]at hl ⊢
  unfold gW
  dsimp only
  rw[show w64 (((p.length+1+(Bd.length+Br.length):Nat):Int)-1)=((p.length+Bd.length+Br.length:Nat):Int)from by rw[bQ (by omega)];omega]
  refine a0 (fun hi=>?_) (fun hi=>eW ?_)
  ·cases Br with
   | nil=>simp at hi
   | cons y Br =>
    obtain⟨a1,a2,a3,a4,a5⟩:=aNK (p++Bd) (Br++s) x y
    simp only[nw]at hl hi ⊢
    rw[cw]at a1 a2 a3 a4 a5
    have k1:w64 (((p.length+Bd.length:Nat):Int)+1)=((p.length+Bd.length+1:Nat):Int):=by rw[bQ (by omega)];omega
    rw[k1]
    simp only[List.cons_append,dX,a1,a2,bk,Int.toNat_natCast,a3,a5,a4]
    exact n5 ⟨⟨Bd++[y],Br,by simp,by simp,by simp;omega⟩,by simp only;omega⟩
  ·have:Br=[]:=dw (by omega)
   subst this
   simp
 obtain⟨r,h1,h2⟩:=this
 rw[h1,h2]
theorem a3Z(p A s:List ax)(y:ax)(hl:(p++(A++y::s)).length≤1000000)(e k:Int)(h1:e=p.length)(h2:k=(p.length+A.length:Nat)) :
  loop (gV e) (p++(A++y::s),k)=some (p++y::(A++s)):=by
 subst h1 h2
 simp only[cw,nw]at hl
 have:Ok (loop (gV (p.length:Int)) (p++(A++y::s),((p.length+A.length:Nat):Int))) (fun r=>r=p++y::(A++s)):=by
  refine vV (fun a:List ax×Int=>∃Ar Ad,A=Ar++Ad∧a.1=(p++Ar)++y::(Ad++s)∧a.2=(p.length+Ar.length:Nat)) (fun a=>a.2.toNat) (fun a ha=>?_) ⟨A,[],by simp,by simp,rfl⟩ (by simp[i6];omega)
  obtain⟨a,k⟩:=a
  obtain⟨Ar,Ad,rfl,rfl,h3⟩:=ha
  simp only at h3
  subst h3
  simp only[cw]at hl ⊢
  unfold gV
  dsimp only
  refine a0 (fun hi=>?_) (fun hi=>eW ?_)
  ·obtain⟨A0,z,rfl⟩ : ∃A0 z,Ar=A0++[z]:=by
    have:Ar≠[]:=fun e=>by subst e;simp at hi
    exact⟨Ar.dropLast,Ar.getLast this,(List.dropLast_concat_getLast this).symm⟩
   have form:(p++(A0++[z]))++y::(Ad++s)=(p++A0)++z::y::(Ad++s):=by simp
   obtain⟨a1,a2,a3,a4,a5⟩:=asZ (p++A0) (Ad++s) y z
   simp only[cw,nw,List.length_nil]at hl hi a1 a2 a3 a4 a5 ⊢
   have k0:((p.length+(A0.length+(0+1)):Nat):Int)=((p.length+A0.length+1:Nat):Int):=by omega
   have k1:w64 (((p.length+A0.length+1:Nat):Int)-1)=((p.length+A0.length:Nat):Int):=by rw[bQ (by omega)];omega
   rw[form,k0,k1]
   simp only[dX,a1,a2,bk,Int.toNat_natCast,a3,a5,a4]
   exact n5 ⟨⟨A0,z::Ad,by simp,by simp,rfl⟩,by simp only;omega⟩
  ·have:Ar=[]:=dw (by omega)
   subst this
   simp
 obtain⟨r,h1,h2⟩:=this
 rw[h1,h2]
theorem MW{L:List DS}(h:L.Pairwise lt){i j:Nat}{x y:DS}(hi:L[i]? = some x)(hj:L[j]? = some y)(hij:i≤j) : ¬kl y.1 x.1:=by
 have h1:=dZ hi
 have h2:=dZ hj
 rw[bw h1]at hi
 rw[bw h2]at hj
 have e1:=Option.some.inj hi
 have e2:=Option.some.inj hj
 by_cases e:i=j
 ·subst e;rw[e1]at e2;rw[e2];exact a7Z
 ·have:=List.pairwise_iff_getElem.1 h i j h1 h2 (by omega)
  rw[e1,e2]at this
  exact bbY this
theorem a7j(pre A B post:List DS)(c:Nat)(h1:pre.length≤c)(h2:c<pre.length+A.length):∃x,A[c-pre.length]? = some x∧((pre++A++B++post).map (·.1))[c]? = some x.1:=by
 refine⟨A[c-pre.length]'(by omega),bw (by omega),?_⟩
 rw[List.getElem?_map,ow,ow,List.getElem?_append_right h1,rk (by omega),bw (by omega)]
 rfl
theorem a6q(pre A B post:List DS)(c:Nat)(h1:pre.length+A.length≤c)(h2:c<pre.length+A.length+B.length):∃x,B[c-(pre.length+A.length)]? = some x∧((pre++A++B++post).map (·.1))[c]? = some x.1:=by
 refine⟨B[c-(pre.length+A.length)]'(by omega),bw (by omega),?_⟩
 rw[List.getElem?_map,ow,List.getElem?_append_right (by rw[cw];omega),rk (by rw[cw];omega),bw (by rw[cw];omega)]
 simp[cw]
set_option maxHeartbeats 1000000 in
theorem IW:∀(n:Nat) (pre A B post:List DS),A≠[]→B≠[]→A.length+B.length≤n→A.Pairwise lt→B.Pairwise lt→(∀x∈A,∀y∈B,x.2<y.2)→(pre++A++B++post).length≤1000000 →
  Ok (eX n ((pre++A++B++post).map (·.1)) (pre.length:Int) ((pre.length+A.length:Nat):Int) ((pre.length+A.length+B.length:Nat):Int)) (fun r=>∃C,r=(pre++C++post).map (·.1)∧C.Perm (A++B)∧C.Pairwise lt)
 | 0,pre,A,B,post,hA,hB,hn,_,_,_,_=>by
  have:=List.length_pos_iff.2 hA
  omega
 | n+1,pre,A,B,post,hA,hB,hn,sA,sB,hAB,hl=>by
  have la:=List.length_pos_iff.2 hA
  have lb:=List.length_pos_iff.2 hB
  simp only[cw]at hl
  unfold eX mV
  rw[bQ (n:=((pre.length+A.length:Nat):Int)-(pre.length:Int)) (by omega),bQ (n:=((pre.length+A.length+B.length:Nat):Int)-((pre.length+A.length:Nat):Int)) (by omega)]
  refine a0 (fun h1=>?_) (fun h1=>?_)
  ·
   obtain⟨x,rfl⟩ : ∃x,A=[x]:=by
    match A,(by omega:A.length=1)with
    | [x],_=>exact⟨x,rfl⟩
   simp only[nw,List.length_nil]at hl hn ⊢
   obtain⟨e,he,e1,e2,e3,e4⟩ := arY (step := gZ ((pre ++ [x] ++ B ++ post).map (·.1)) (pre.length:Int)) (fun c => match B[c-(pre.length+1)]? with | some b => decide (kl b.1 x.1) | none => false) (pre.length+1) (pre.length+1+B.length) (by omega) (by omega)
    (fun i j hi hij hj hp=>by
     obtain⟨b,hb⟩ : ∃b,B[j-(pre.length+1)]? = some b:=⟨_,bw (by omega)⟩
     obtain⟨a,ha⟩ : ∃a,B[i-(pre.length+1)]? = some a:=⟨_,bw (by omega)⟩
     have:=MW sB ha hb (by omega)
     simp only[hb,decide_eq_true_eq]at hp
     simp only[ha,decide_eq_true_eq]
     exact a4J this hp)
    (fun i j hi hij hj=>by
     unfold gZ
     dsimp only
     rw[decide_eq_true (by omega:(i:Int)<(j:Int)),cond_true,aej i j (by omega) (by omega)]
     obtain⟨b,hb,hb2⟩:=a6q pre [x] B post ((i+j) / 2) (by simp;omega) (by simp;omega)
     obtain⟨a,ha,ha2⟩:=a7j pre [x] B post pre.length (by omega) (by simp)
     simp at ha
     subst ha
     obtain⟨r,hr,hr2⟩:=UX b.1 x.1
     simp only[nw,List.length_nil]at hb
     rw[dX,hb2,dX,ha2]
     simp only[bk]
     rw[hr,bk,hr2,show(pre.length+(0+1))=pre.length+1 by omega]at *
     rw[hb]
     rw[bQ (n:=(((i+j) / 2:Nat):Int)+1) (by omega)]
     by_cases g:kl b.1 x.1
     ·simp[g]
     ·simp[g])
    (fun i=>by unfold gZ;simp)
   rw[he,bk]
   have hBs:B=B.take (e-(pre.length+1))++B.drop (e-(pre.length+1)):=(List.take_append_drop _ _).symm
   have t1:(B.take (e-(pre.length+1))).length=e-(pre.length+1):=by rw[uk];omega
   have form:((pre++[x]++B++post).map (·.1))=pre.map (·.1)++x.1::((B.take (e-(pre.length+1))).map (·.1)++((B.drop (e-(pre.length+1))).map (·.1)++post.map (·.1))):=by
    conv=>lhs;rw[hBs]
    simp only[List.map_append,List.map_cons,List.map_nil,ow,List.cons_append,List.nil_append]
   rw[form,aOY (pre.map (·.1)) _ _ _ (by
    simp only[cw,nw,List.length_map,uk,List.length_drop];omega) _ _ (by simp only[List.length_map,t1];omega) (by simp),bk]
   refine aV ⟨B.take (e-(pre.length+1))++x::B.drop (e-(pre.length+1)),by simp only[List.map_append,List.map_cons,List.map_nil,ow,List.cons_append,List.nil_append],?_,Q3 (by rw[←hBs];exact sB) (fun b hb=>?_) (fun b hb=>?_)⟩
   ·refine List.perm_middle.trans ?_
    rw[←hBs];rfl
   ·obtain⟨q,hq,rfl⟩:=List.mem_take_iff_getElem.1 hb
    have hp:=e3 (q+(pre.length+1)) (by omega) (by omega)
    rw[show q+(pre.length+1)-(pre.length+1)=q by omega,bw (by omega)]at hp
    exact .inl (of_decide_eq_true hp)
   ·obtain⟨q,hq,rfl⟩:=List.mem_drop_iff_getElem.1 hb
    have hp:=e4 (e+q) (by omega) (by omega)
    rw[show e+q-(pre.length+1)=e-(pre.length+1)+q by omega,bw (by omega)]at hp
    have h3:=of_decide_eq_false hp
    have h4:=hAB x (by simp) B[e-(pre.length+1)+q] (List.getElem_mem _)
    exact .inr ⟨h3,h4⟩
  refine a0 (fun h2=>?_) (fun h2=>?_)
  ·
   obtain⟨y,rfl⟩ : ∃y,B=[y]:=by
    match B,(by omega:B.length=1)with
    | [y],_=>exact⟨y,rfl⟩
   simp only[nw,List.length_nil]at hl hn ⊢
   obtain⟨e,he,e1,e2,e3,e4⟩ := arY (step := gY ((pre ++ A ++ [y] ++ post).map (·.1)) ((pre.length+A.length:Nat):Int)) (fun c => match A[c-pre.length]? with | some a => !decide (kl y.1 a.1) | none => false) pre.length (pre.length+A.length) (by omega) (by omega)
    (fun i j hi hij hj hp=>by
     obtain⟨b,hb⟩ : ∃b,A[j-pre.length]? = some b:=⟨_,bw (by omega)⟩
     obtain⟨a,ha⟩ : ∃a,A[i-pre.length]? = some a:=⟨_,bw (by omega)⟩
     have:=MW sA ha hb (by omega)
     simp only[hb,pw,decide_eq_false_iff_not]at hp
     simp only[ha,pw,decide_eq_false_iff_not]
     exact awz hp this)
    (fun i j hi hij hj=>by
     unfold gY
     dsimp only
     rw[decide_eq_true (by omega:(i:Int)<(j:Int)),cond_true,aej i j (by omega) (by omega)]
     obtain⟨a,ha,ha2⟩:=a7j pre A [y] post ((i+j) / 2) (by omega) (by omega)
     obtain⟨b,hb,hb2⟩:=a6q pre A [y] post (pre.length+A.length) (by omega) (by simp)
     simp at hb
     subst hb
     obtain⟨r,hr,hr2⟩:=UX y.1 a.1
     rw[dX,hb2,dX,ha2]
     simp only[bk]
     rw[hr,bk,hr2,ha]
     rw[bQ (n:=(((i+j) / 2:Nat):Int)+1) (by omega)]
     by_cases g:kl y.1 a.1
     ·simp[g]
     ·simp[g])
    (fun i=>by unfold gY;simp)
   rw[he,bk]
   have hAs:A=A.take (e-pre.length)++A.drop (e-pre.length):=(List.take_append_drop _ _).symm
   have t1:(A.take (e-pre.length)).length=e-pre.length:=by rw[uk];omega
   have t2:(A.drop (e-pre.length)).length=A.length-(e-pre.length):=by rw[List.length_drop]
   have form:((pre++A++[y]++post).map (·.1))=(pre++A.take (e-pre.length)).map (·.1)++((A.drop (e-pre.length)).map (·.1)++y.1::post.map (·.1)):=by
    conv=>lhs;rw[hAs]
    simp only[List.map_append,List.map_cons,List.map_nil,ow,List.cons_append,List.nil_append]
   rw[form,a3Z ((pre++A.take (e-pre.length)).map (·.1)) _ _ _ (by
    simp only[cw,nw,List.length_map,uk,List.length_drop];omega) _ _ (by simp only[cw,List.length_map,t1];omega) (by simp only[cw,List.length_map,t1,t2];omega),bk]
   refine aV ⟨A.take (e-pre.length)++y::A.drop (e-pre.length),by simp only[List.map_append,List.map_cons,List.map_nil,ow,List.cons_append,List.nil_append],?_,Q3 (by rw[←hAs];exact sA) (fun a ha=>?_) (fun a ha=>?_)⟩
   ·refine List.perm_middle.trans ?_
    rw[←hAs]
    exact(List.perm_append_singleton _ _).symm
   ·obtain⟨q,hq,rfl⟩:=List.mem_take_iff_getElem.1 ha
    have hp:=e3 (pre.length+q) (by omega) (by omega)
    rw[show pre.length+q-pre.length=q by omega,bw (by omega)]at hp
    simp only[pw,decide_eq_false_iff_not]at hp
    have h4:=hAB A[q] (List.getElem_mem _) y (by simp)
    exact .inr ⟨hp,h4⟩
   ·obtain⟨q,hq,rfl⟩:=List.mem_drop_iff_getElem.1 ha
    have hp:=e4 (e+q) (by omega) (by omega)
    rw[show e+q-pre.length=e-pre.length+q by omega,bw (by omega)]at hp
    simp only[Bool.not_eq_false',decide_eq_true_eq]at hp
    exact .inl hp
  have la2:2≤A.length:=by omega
  have lb2:2≤B.length:=by omega
  rw[aej pre.length (pre.length+A.length+B.length) (by omega) (by omega)]
  generalize hmid:(pre.length+(pre.length+A.length+B.length)) / 2=mid at *
  generalize hN:pre.length+A.length+B.length=hi at *
  have e0:w64 ((mid:Int)+((pre.length+A.length:Nat):Int))=((mid+(pre.length+A.length):Nat):Int):=by rw[bQ (by omega)];omega
  rw[e0]
  have hst:∃s0 r0:Nat,((bif (decide ((mid:Int)<((pre.length+A.length:Nat):Int)))then some ((w64 (((mid+(pre.length+A.length):Nat):Int)-(hi:Int))),(mid:Int))else some ((pre.length:Int),((pre.length+A.length:Nat):Int))):Option (Int×Int))=some ((s0:Int),(r0:Int))∧pre.length≤s0∧s0≤r0∧r0≤pre.length+A.length∧r0≤mid∧mid+(pre.length+A.length)-s0≤hi∧(s0=pre.length∨mid+(pre.length+A.length)-s0=hi)∧(r0=pre.length+A.length∨r0=mid):=by
   by_cases g:mid<pre.length+A.length
   ·refine⟨mid+(pre.length+A.length)-hi,mid,?_,by omega,by omega,by omega,by omega,by omega,by omega,by omega⟩
    rw[decide_eq_true (by omega:(mid:Int)<((pre.length+A.length:Nat):Int)),cond_true,bQ (by omega)]
    congr 2
    omega
   ·refine⟨pre.length,pre.length+A.length,?_,by omega,by omega,by omega,by omega,by omega,by omega,by omega⟩
    rw[lk (by omega : ¬(mid:Int)<((pre.length+A.length:Nat):Int)),cond_false]
  obtain⟨s0,r0,hsr,g1,g2,g3,g4,g5,g6,g7⟩:=hst
  rw[hsr,bk]
  dsimp only
  obtain⟨s,hs,s1,s2,s3,s4⟩ := arY (step := gK ((pre ++ A ++ B ++ post).map (·.1)) (pre.length:Int) ((pre.length+A.length:Nat):Int) (hi:Int)) (fun c => match A[c-pre.length]?,B[mid-1-c]? with | some a,some b => !decide (kl b.1 a.1) | _,_ => false) s0 r0 (by omega) (by omega)
   (fun i j hi1 hij hj hp=>by
    obtain⟨a,ha⟩ : ∃a,A[i-pre.length]? = some a:=⟨_,bw (by omega)⟩
    obtain⟨a',ha'⟩ : ∃a,A[j-pre.length]? = some a:=⟨_,bw (by omega)⟩
    obtain⟨b,hb⟩ : ∃b,B[mid-1-i]? = some b:=⟨_,bw (by omega)⟩
    obtain⟨b',hb'⟩ : ∃b,B[mid-1-j]? = some b:=⟨_,bw (by omega)⟩
    have k1:=MW sA ha ha' (by omega)
    have k2:=MW sB hb' hb (by omega)
    simp only[ha',hb',pw,decide_eq_false_iff_not]at hp
    simp only[ha,hb,pw,decide_eq_false_iff_not]
    exact awz k2 (awz hp k1))
   (fun i j hi1 hij hj=>by
    unfold gK
    dsimp only
    have hm2:=aej pre.length hi (by omega) (by omega)
    rw[hmid]at hm2
    rw[decide_eq_true (by omega:(i:Int)<(j:Int)),cond_true,aej i j (by omega) (by omega),hm2,e0]
    have c1:w64 (w64 (((mid+(pre.length+A.length):Nat):Int)-1)-(((i+j) / 2:Nat):Int))=((pre.length+A.length+(mid-1-(i+j) / 2):Nat):Int):=by
     rw[bQ (n:=((mid+(pre.length+A.length):Nat):Int)-1) (by omega),bQ (by omega)];omega
    obtain⟨a,ha,ha2⟩:=a7j pre A B post ((i+j) / 2) (by omega) (by omega)
    obtain⟨b,hb,hb2⟩:=a6q pre A B post (pre.length+A.length+(mid-1-(i+j) / 2)) (by omega) (by omega)
    rw[show pre.length+A.length+(mid-1-(i+j) / 2)-(pre.length+A.length)=mid-1-(i+j) / 2 by omega]at hb
    obtain⟨r,hr,hr2⟩:=UX b.1 a.1
    rw[c1,dX,hb2,dX,ha2]
    simp only[bk]
    rw[hr,bk,hr2,ha,hb]
    rw[bQ (n:=(((i+j) / 2:Nat):Int)+1) (by omega)]
    by_cases g:kl b.1 a.1
    ·simp[g]
    ·simp[g])
   (fun i=>by unfold gK;simp)
  rw[hs,bk]
  have e5:w64 (((mid+(pre.length+A.length):Nat):Int)-(s:Int))=((mid+(pre.length+A.length)-s:Nat):Int):=by rw[bQ (by omega)];omega
  rw[e5]
  have hAs:A=A.take (s-pre.length)++A.drop (s-pre.length):=(List.take_append_drop _ _).symm
  have hBs:B=B.take (mid-s)++B.drop (mid-s):=(List.take_append_drop _ _).symm
  have t1:(A.take (s-pre.length)).length=s-pre.length:=by rw[uk];omega
  have t2:(A.drop (s-pre.length)).length=pre.length+A.length-s:=by rw[List.length_drop];omega
  have t3:(B.take (mid-s)).length=mid-s:=by rw[uk];omega
  have t4:(B.drop (mid-s)).length=B.length-(mid-s):=by rw[List.length_drop]
  have c12:∀x∈A.take (s-pre.length),∀y∈B.drop (mid-s),lt x y:=by
   intro x hx y hy
   have hix:=hAB x (List.mem_of_mem_take hx) y (List.mem_of_mem_drop hy)
   obtain⟨q,hq,rfl⟩:=List.mem_take_iff_getElem.1 hx
   obtain⟨q2,hq2,rfl⟩:=List.mem_drop_iff_getElem.1 hy
   have hp:=s3 (s-1) (by omega) (by omega)
   obtain⟨a,ha⟩ : ∃a,A[s-1-pre.length]? = some a:=⟨_,bw (by omega)⟩
   obtain⟨b,hb⟩ : ∃b,B[mid-1-(s-1)]? = some b:=⟨_,bw (by omega)⟩
   simp only[ha,hb,pw,decide_eq_false_iff_not]at hp
   have k1:=MW sA (bw (by omega):A[q]? = some A[q]) ha (by omega)
   have k2:=MW sB hb (bw (by omega):B[mid-s+q2]? = some B[mid-s+q2]) (by omega)
   exact .inr ⟨awz k2 (awz hp k1),hix⟩
  have c21:∀x∈B.take (mid-s),∀y∈A.drop (s-pre.length),lt x y:=by
   intro x hx y hy
   obtain⟨q,hq,rfl⟩:=List.mem_take_iff_getElem.1 hx
   obtain⟨q2,hq2,rfl⟩:=List.mem_drop_iff_getElem.1 hy
   have hp:=s4 s (by omega) (by omega)
   obtain⟨a,ha⟩ : ∃a,A[s-pre.length]? = some a:=⟨_,bw (by omega)⟩
   obtain⟨b,hb⟩ : ∃b,B[mid-1-s]? = some b:=⟨_,bw (by omega)⟩
   simp only[ha,hb,Bool.not_eq_false',decide_eq_true_eq]at hp
   have k1:=MW sA ha (bw (by omega):A[s-pre.length+q2]? = some A[s-pre.length+q2]) (by omega)
   have k2:=MW sB (bw (by omega):B[q]? = some B[q]) hb (by omega)
   exact .inl (bbq (a4J k2 hp) k1)
  have ixA:∀x∈A.take (s-pre.length),∀y∈B.take (mid-s),x.2<y.2:=fun x hx y hy=>hAB x (List.mem_of_mem_take hx) y (List.mem_of_mem_take hy)
  have ixB:∀x∈A.drop (s-pre.length),∀y∈B.drop (mid-s),x.2<y.2:=fun x hx y hy=>hAB x (List.mem_of_mem_drop hx) y (List.mem_of_mem_drop hy)
  have sAs:=sA
  have sBs:=sB
  rw[hAs,List.pairwise_append]at sAs
  rw[hBs,List.pairwise_append]at sBs
  have permAB:(A.take (s-pre.length)++B.take (mid-s)++(A.drop (s-pre.length)++B.drop (mid-s))).Perm (A++B):=by
   conv=>rhs;rw[hAs,hBs]
   rw[ow,ow]
   refine List.Perm.append_left _ ?_
   rw[←ow,←ow]
   exact List.Perm.append_right _ List.perm_append_comm
  have hAl:A.length=A.length:=rfl
  refine aq (Q:=fun v=>v=decide (s<pre.length+A.length∧pre.length+A.length<mid+(pre.length+A.length)-s)) ?_ (fun v hv=>?_)
  ·by_cases q1:s<pre.length+A.length
   ·rw[decide_eq_true (by omega:(s:Int)<((pre.length+A.length:Nat):Int)),cond_true]
    refine aV ?_
    refine decide_eq_decide.2 ?_
    omega
   ·rw[lk (by omega : ¬(s:Int)<((pre.length+A.length:Nat):Int)),cond_false]
    exact aV (lk (by omega)).symm
  refine aq (Q:=fun r=>r=(pre++A.take (s-pre.length)++B.take (mid-s)++(A.drop (s-pre.length)++B.drop (mid-s)++post)).map (·.1)) ?_ (fun r hr=>?_)
  ·rw[hv]
   have form:((pre++A++B++post).map (·.1))=(pre++A.take (s-pre.length)).map (·.1)++(A.drop (s-pre.length)).map (·.1)++(B.take (mid-s)).map (·.1)++(B.drop (mid-s)++post).map (·.1):=by
    conv=>lhs;rw[hAs,hBs]
    simp only[List.map_append,List.map_cons,List.map_nil,ow,List.cons_append,List.nil_append]
   refine a0 (fun hc=>?_) (fun hc=>aV ?_)
   ·rw[form,aKz ((pre++A.take (s-pre.length)).map (·.1)) ((A.drop (s-pre.length)).map (·.1)) ((B.take (mid-s)).map (·.1)) ((B.drop (mid-s)++post).map (·.1)) (by
      intro h;have:=congrArg List.length h;rw[List.length_map,t2]at this;simp at this;omega) (by
      intro h;have:=congrArg List.length h;rw[List.length_map,t3]at this;simp at this;omega) (by
      simp only[cw,List.length_map,t1,t2,t3,t4];omega) _ _ _ (by
      simp only[cw,List.length_map,t1];omega) (by
      simp only[cw,List.length_map,t1,t2];omega) (by
      simp only[cw,List.length_map,t1,t2,t3];omega),bk]
    exact aV (by simp only[List.map_append,List.map_cons,List.map_nil,ow,List.cons_append,List.nil_append])
   ·rw[form]
    by_cases q1:s<pre.length+A.length
    ·have:B.take (mid-s)=[]:=dw (by rw[t3];omega)
     rw[this];simp only[List.map_append,List.map_cons,List.map_nil,ow,List.cons_append,List.nil_append]
    ·have:A.drop (s-pre.length)=[]:=dw (by rw[t2];omega)
     rw[this];simp only[List.map_append,List.map_cons,List.map_nil,ow,List.cons_append,List.nil_append]
  refine aq (Q:=fun v=>v=decide (pre.length<s∧s<mid)) ?_ (fun v2 hv2=>?_)
  ·by_cases q1:pre.length<s
   ·rw[decide_eq_true (by omega:(pre.length:Int)<(s:Int)),cond_true]
    refine aV ?_
    refine decide_eq_decide.2 ?_
    omega
   ·rw[lk (by omega : ¬(pre.length:Int)<(s:Int)),cond_false]
    exact aV (lk (by omega)).symm
  refine aq (Q:=fun r=>∃C1,r=(pre++C1++(A.drop (s-pre.length)++B.drop (mid-s)++post)).map (·.1)∧C1.Perm (A.take (s-pre.length)++B.take (mid-s))∧C1.Pairwise lt) ?_ (fun r2 hr2=>?_)
  ·rw[hv2,hr]
   refine a0 (fun hc=>?_) (fun hc=>aV ?_)
   ·have ih:=IW n pre (A.take (s-pre.length)) (B.take (mid-s)) (A.drop (s-pre.length)++B.drop (mid-s)++post) (by
      intro h;rw[h]at t1;simp at t1;omega) (by
      intro h;rw[h]at t3;simp at t3;omega) (by omega) sAs.1 sBs.1 ixA (by simp only[cw,t1,t2,t3,t4];omega)
    rw[show((pre.length+(A.take (s-pre.length)).length:Nat):Int)=(s:Int)by rw[t1];omega,show((pre.length+(A.take (s-pre.length)).length+(B.take (mid-s)).length:Nat):Int)=(mid:Int)by rw[t1,t3];omega]at ih
    exact aq ih (fun r h=>aV h)
   ·refine⟨A.take (s-pre.length)++B.take (mid-s),by simp,List.Perm.refl _,?_⟩
    by_cases q1:pre.length<s
    ·have:B.take (mid-s)=[]:=dw (by rw[t3];omega)
     rw[this,List.append_nil];exact sAs.1
    ·have:A.take (s-pre.length)=[]:=dw (by rw[t1];omega)
     rw[this,List.nil_append];exact sBs.1
  obtain⟨C1,rfl,p1,q1⟩:=hr2
  have lC1:C1.length=mid-pre.length:=by rw[p1.length_eq,cw,t1,t3];omega
  refine aq (Q:=fun v=>v=decide (mid<mid+(pre.length+A.length)-s∧mid+(pre.length+A.length)-s<hi)) ?_ (fun v3 hv3=>?_)
  ·by_cases q2:mid<mid+(pre.length+A.length)-s
   ·rw[decide_eq_true (by omega:(mid:Int)<((mid+(pre.length+A.length)-s:Nat):Int)),cond_true]
    refine aV ?_
    refine decide_eq_decide.2 ?_
    omega
   ·rw[lk (by omega : ¬(mid:Int)<((mid+(pre.length+A.length)-s:Nat):Int)),cond_false]
    exact aV (lk (by omega)).symm
  have fin:∀C2:List DS,C2.Perm (A.drop (s-pre.length)++B.drop (mid-s))→C2.Pairwise lt→∃C,(pre++C1++C2++post).map (·.1)=(pre++C++post).map (·.1)∧C.Perm (A++B)∧C.Pairwise lt:=by
   intro C2 p2 q2
   refine⟨C1++C2,by simp,(p1.append p2).trans permAB,List.pairwise_append.2 ⟨q1,q2,fun x hx y hy=>?_⟩⟩
   rcases kw.1 (p1.mem_iff.1 hx)with hx | hx
   ·rcases kw.1 (p2.mem_iff.1 hy)with hy | hy
    ·exact sAs.2.2 x hx y hy
    ·exact c12 x hx y hy
   ·rcases kw.1 (p2.mem_iff.1 hy)with hy | hy
    ·exact c21 x hx y hy
    ·exact sBs.2.2 x hx y hy
  have form2:pre++C1++(A.drop (s-pre.length)++B.drop (mid-s)++post)=(pre++C1)++A.drop (s-pre.length)++B.drop (mid-s)++post:=by simp
  rw[form2,hv3]
  refine a0 (fun hc=>?_) (fun hc=>aV ?_)
  ·have ih:=IW n (pre++C1) (A.drop (s-pre.length)) (B.drop (mid-s)) post (by
     intro h;rw[h]at t2;simp at t2;omega) (by
     intro h;rw[h]at t4;simp at t4;omega) (by omega) sAs.2.1 sBs.2.1 ixB (by simp only[cw,t2,t4];omega)
   rw[show(((pre++C1).length:Nat):Int)=(mid:Int)by rw[cw];omega,show(((pre++C1).length+(A.drop (s-pre.length)).length:Nat):Int)=((mid+(pre.length+A.length)-s:Nat):Int)by rw[cw,t2];omega,show(((pre++C1).length+(A.drop (s-pre.length)).length+(B.drop (mid-s)).length:Nat):Int)=(hi:Int)by rw[cw,t2,t4];omega]at ih
   refine aq ih (fun r h=>aV ?_)
   obtain⟨C2,rfl,p2,q2⟩:=h
   exact fin C2 p2 q2
  ·have:(A.drop (s-pre.length)++B.drop (mid-s)).Pairwise lt:=by
    by_cases q2:mid<mid+(pre.length+A.length)-s
    ·have:B.drop (mid-s)=[]:=dw (by rw[t4];omega)
     rw[this,List.append_nil];exact sAs.2.1
    ·have:A.drop (s-pre.length)=[]:=dw (by rw[t2];omega)
     rw[this,List.nil_append];exact sBs.2.1
   obtain⟨C,h1,h2,h3⟩:=fin _ (List.Perm.refl _) this
   exact⟨C,by rw[←h1];simp,h2,h3⟩
def Bk(bs:Nat):List (List DS)→Prop
 | []=>True
 | [X]=>0<X.length∧X.length≤bs
 | X::Y::r=>X.length=bs∧Bk bs (Y::r)
theorem VW{bs:Nat}(hb:0<bs):∀(M R:List (List DS)),(∀X∈M,X.length=bs)→Bk bs R→Bk bs (M++R)
 | [],R,_,h=>h
 | [X],[],hm,_=>by have:=hm X (by simp);simp[Bk];omega
 | [X],Y::r,hm,h=>⟨hm X (by simp),h⟩
 | X::Z::M,R,hm,h=>⟨hm X (by simp),VW hb (Z::M) R (fun Y hY=>hm Y (List.mem_cons_of_mem _ hY)) h⟩
structure Bs(S:List DS)(L:List (List DS)):Prop where
 srt:∀X∈L,X.Pairwise lt
 crs:L.Pairwise (fun X Y=>∀x∈X,∀y∈Y,x.2<y.2)
 prm:L.flatten.Perm S
theorem Bs.merge{S:List DS}{M R:List (List DS)}{X Y C:List DS}(h:Bs S (M++X::Y::R))(hp:C.Perm (X++Y))(hs:C.Pairwise lt):Bs S (M++C::R):=by
 have hc:=List.pairwise_append.1 h.crs
 have hc2:=List.pairwise_cons.1 hc.2.1
 have hc3:=List.pairwise_cons.1 hc2.2
 refine⟨fun Z hZ=>?_,?_,?_⟩
 ·rcases kw.1 hZ with hZ | hZ
  ·exact h.srt Z (by simp[hZ])
  ·rcases jw.1 hZ with rfl | hZ
   ·exact hs
   ·exact h.srt Z (by simp[hZ])
 ·refine List.pairwise_append.2 ⟨hc.1,List.pairwise_cons.2 ⟨fun Z hZ x hx y hy=>?_,hc3.2⟩,fun Z hZ W hW x hx y hy=>?_⟩
  ·rcases kw.1 (hp.mem_iff.1 hx)with hx | hx
   ·exact hc2.1 Z (by simp[hZ]) x hx y hy
   ·exact hc3.1 Z hZ x hx y hy
  ·rcases jw.1 hW with rfl | hW
   ·rcases kw.1 (hp.mem_iff.1 hy)with hy | hy
    ·exact hc.2.2 Z hZ X (by simp) x hx y hy
    ·exact hc.2.2 Z hZ Y (by simp) x hx y hy
   ·exact hc.2.2 Z hZ W (by simp[hW]) x hx y hy
 ·refine List.Perm.trans ?_ h.prm
  simp only[List.flatten_append,sk]
  refine List.Perm.append_left _ ?_
  rw[←ow]
  exact hp.append_right _
theorem aTj(S:List DS)(hn:S.length≤1000000)(bs:Nat)(hb:0<bs)(hb2:bs<S.length)(L:List (List DS))(hk:Bk bs L)(h:Bs S L) :
  Ok (loop (iX (S.length:Int) (bs:Int)) (L.flatten.map (·.1),0,(w64 (2*(bs:Int))))) (fun r=>∃M R:List (List DS),r=((M.flatten++R.flatten).map (·.1),(M.flatten.length:Int))∧(∀X∈M,X.length=2*bs)∧Bk bs R∧R.flatten.length<2*bs∧Bs S (M++R)):=by
 rw[bQ (n:=2*(bs:Int)) (by omega)]
 refine vV (fun s:List ax×Int×Int=>∃M R:List (List DS),s.1=(M.flatten++R.flatten).map (·.1)∧s.2.1=(M.flatten.length:Nat)∧s.2.2=(M.flatten.length+2*bs:Nat)∧(∀X∈M,X.length=2*bs)∧Bk bs R∧Bs S (M++R)) (fun s=>((3*S.length+1:Nat)-s.2.2).toNat) (fun s hs=>?_) ⟨[],L,by simp,by simp,by simp,by simp,hk,h⟩ (by simp[i6];omega)
 obtain⟨a,i,j⟩:=s
 obtain⟨M,R,h1,h2,h3,h4,h5,h6⟩:=hs
 simp only at h1 h2 h3
 subst h1 h2 h3
 have hlen:M.flatten.length+R.flatten.length=S.length:=by
  have:=h6.prm.length_eq
  rw[List.flatten_append,cw]at this;exact this
 unfold iX
 dsimp only
 refine a0 (fun hle=>?_) (fun hgt=>eW ⟨M,R,rfl,h4,h5,by omega,h6⟩)
 obtain⟨X,Y,R',rfl,lX,lY,hR'⟩ : ∃X Y R',R=X::Y::R'∧X.length=bs∧Y.length=bs∧Bk bs R':=by
  match R,h5,hlen with
  | [],_,hlen=>simp only[sk,List.flatten_nil,cw,List.length_nil,Nat.add_zero,List.append_nil]at hlen;omega
  | [X],h5,hlen=>simp only[sk,List.flatten_nil,cw,List.length_nil,Nat.add_zero,List.append_nil]at hlen;simp only[Bk]at h5;omega
  | [X,Y],h5,hlen=>simp only[sk,List.flatten_nil,cw,List.length_nil,Nat.add_zero,List.append_nil]at hlen;simp only[Bk]at h5;exact⟨X,Y,[],rfl,h5.1,by omega,trivial⟩
  | X::Y::Z::r,h5,hlen=>exact⟨X,Y,Z::r,rfl,h5.1,h5.2.1,h5.2.2⟩
 have hcr:=List.pairwise_append.1 h6.crs
 have hcx:=(List.pairwise_cons.1 hcr.2.1).1 Y (by simp)
 simp only[sk,cw]at hlen
 have form:(M.flatten++(X::Y::R').flatten).map (fun x:DS=>x.1)=(M.flatten++X++Y++R'.flatten).map (fun x:DS=>x.1):=by simp only[sk,ow]
 have hm:=IW 9223372036854775808 M.flatten X Y R'.flatten (fun e=>by subst e;simp at lX;omega) (fun e=>by subst e;simp at lY;omega) (by omega) (h6.srt X (by simp)) (h6.srt Y (by simp)) hcx (by simp only[cw];omega)
 rw[bQ (n:=((M.flatten.length:Nat):Int)+(bs:Int)) (by omega),form]
 rw[lX,lY]at hm
 rw[show((M.flatten.length+bs:Nat):Int)=((M.flatten.length:Nat):Int)+(bs:Int)by omega,show((M.flatten.length+bs+bs:Nat):Int)=((M.flatten.length+2*bs:Nat):Int)by omega]at hm
 unfold fK
 refine aq hm (fun r hr=>?_)
 obtain⟨C,rfl,c1,c2⟩:=hr
 have lC:C.length=2*bs:=by rw[c1.length_eq,cw];omega
 have hfl:(M++[C]).flatten.length=M.flatten.length+2*bs:=by simp[lC]
 rw[bQ (n:=2*(bs:Int)) (by omega),bQ (by omega)]
 refine n5 ⟨⟨M++[C],R',by simp,by simp only;omega,by simp only;omega,fun Z hZ=>?_,hR',?_⟩,by simp only;omega⟩
 ·rcases kw.1 hZ with hZ | hZ
  ·exact h4 Z hZ
  ·simp at hZ;subst hZ;exact lC
 ·have:=h6.merge c1 c2
  simpa using this
theorem aUx(S:List DS)(hn:S.length≤1000000)(bs:Nat)(hb:0<bs)(hb2:bs<S.length)(L:List (List DS))(hk:Bk bs L)(h:Bs S L) :
  Ok ((loop (iX (S.length:Int) (bs:Int)) (L.flatten.map (·.1),0,(w64 (2*(bs:Int))))).bind fun(e100,e101)=>(((bif (decide ((w64 (e101+(bs:Int)))<(S.length:Int)))then((fK e100 e101 (w64 (e101+(bs:Int))) (S.length:Int)).bind fun r103=>some r103)else some e100):Option (List ax)))) (fun r=>∃L':List (List DS),r=L'.flatten.map (·.1)∧Bk (2*bs) L'∧Bs S L'):=by
 refine aq (aTj S hn bs hb hb2 L hk h) (fun r hr=>?_)
 obtain⟨M,R,rfl,h4,h5,h7,h6⟩:=hr
 have hlen:M.flatten.length+R.flatten.length=S.length:=by
  have:=h6.prm.length_eq
  rw[List.flatten_append,cw]at this;exact this
 dsimp only
 rw[bQ (n:=((M.flatten.length:Nat):Int)+(bs:Int)) (by omega)]
 match R,h5,h7,hlen,h6 with
 | [],_,_,hlen,h6 =>
  simp only[sk,List.flatten_nil,cw,List.length_nil,Nat.add_zero,List.append_nil]at hlen
  refine a0 (fun hc=>by omega) (fun _=>aV ⟨M,by simp,?_,by simpa using h6⟩)
  have:=VW (bs:=2*bs) (by omega) M [] h4 trivial
  simpa using this
 | [X],h5,_,hlen,h6 =>
  simp only[sk,List.flatten_nil,cw,List.length_nil,Nat.add_zero,List.append_nil]at hlen
  simp only[Bk]at h5
  refine a0 (fun hc=>by omega) (fun _=>aV ⟨M++[X],by simp,?_,h6⟩)
  exact VW (by omega) M [X] h4 ⟨h5.1,by omega⟩
 | [X,Y],h5,h7,hlen,h6 =>
  simp only[sk,List.flatten_nil,cw,List.length_nil,Nat.add_zero,List.append_nil]at hlen
  simp only[sk,List.flatten_nil,cw,List.length_nil,Nat.add_zero,List.append_nil]at h7
  simp only[Bk]at h5
  have hcr:=List.pairwise_append.1 h6.crs
  have hcx:=(List.pairwise_cons.1 hcr.2.1).1 Y (by simp)
  refine a0 (fun hc=>?_) (fun hc=>by omega)
  have form:(M.flatten++[X,Y].flatten).map (fun x:DS=>x.1)=(M.flatten++X++Y++[]).map (fun x:DS=>x.1):=by simp
  have hm:=IW 9223372036854775808 M.flatten X Y [] (fun e=>by subst e;simp at h5;omega) (fun e=>by subst e;simp at h5) (by omega) (h6.srt X (by simp)) (h6.srt Y (by simp)) hcx (by simp only[cw,List.length_nil];omega)
  rw[h5.1]at hm
  rw[show((M.flatten.length+bs:Nat):Int)=((M.flatten.length:Nat):Int)+(bs:Int)by omega,show((M.flatten.length+bs+Y.length:Nat):Int)=(S.length:Int)by omega]at hm
  rw[form]
  unfold fK
  refine aq hm (fun r hr=>?_)
  obtain⟨C,rfl,c1,c2⟩:=hr
  have lC:C.length=bs+Y.length:=by rw[c1.length_eq,cw];omega
  refine aV ⟨M++[C],by simp,VW (by omega) M [C] h4 ⟨by omega,by omega⟩,?_⟩
  exact h6.merge c1 c2
 | X::Y::Z::r,h5,h7,_,_ =>
  exfalso
  have h8:=h5.1
  have h9:=h5.2.1
  simp only[sk,cw]at h7
  omega
theorem aPJ(S:List DS)(hn:S.length≤1000000)(hS:S.Pairwise (fun x y=>x.2<y.2)) :
  Ok ((loop (jV (S.length:Int)) (S.map (·.1),0,20)).bind fun(e19,e20)=>(d4 e19 e20 (S.length:Int))) (fun r=>∃L:List (List DS),r=L.flatten.map (·.1)∧Bk 20 L∧Bs S L):=by
 refine aq (Q:=fun s:List ax×Int=>∃(M:List (List DS)) (T:List DS),s=((M.flatten++T).map (·.1),(M.flatten.length:Int))∧(∀X∈M,X.length=20)∧T.length<20∧T.Pairwise (fun x y=>x.2<y.2)∧(∀X∈M,X.Pairwise lt)∧M.Pairwise (fun X Y=>∀x∈X,∀y∈Y,x.2<y.2)∧(∀X∈M,∀x∈X,∀y∈T,x.2<y.2)∧(M.flatten++T).Perm S)
  (vV (fun s:List ax×Int×Int=>∃(M:List (List DS)) (T:List DS),s.1=(M.flatten++T).map (·.1)∧s.2.1=(M.flatten.length:Nat)∧s.2.2=(M.flatten.length+20:Nat)∧(∀X∈M,X.length=20)∧T.Pairwise (fun x y=>x.2<y.2)∧(∀X∈M,X.Pairwise lt)∧M.Pairwise (fun X Y=>∀x∈X,∀y∈Y,x.2<y.2)∧(∀X∈M,∀x∈X,∀y∈T,x.2<y.2)∧(M.flatten++T).Perm S) (fun s=>((S.length+21:Nat)-s.2.2).toNat) (fun s hs=>?_) ⟨[],S,by simp,by simp,by simp,by simp,hS,by simp,List.Pairwise.nil,by simp,by simp⟩ (by simp[i6];omega)) (fun s hs=>?_)
 ·obtain⟨a,i,j⟩:=s
  obtain⟨M,T,h1,h2,h3,h4,h5,h6,h7,h8,h9⟩:=hs
  simp only at h1 h2 h3
  subst h1 h2 h3
  have hlen:M.flatten.length+T.length=S.length:=by have:=h9.length_eq;rw[cw]at this;exact this
  unfold jV
  dsimp only
  refine a0 (fun hle=>?_) (fun hgt=>eW ⟨M,T,rfl,h4,by omega,h5,h6,h7,h8,h9⟩)
  have hT:T=T.take 20++T.drop 20:=(List.take_append_drop _ _).symm
  have t1:(T.take 20).length=20:=by rw[uk];omega
  have s5:=h5
  rw[hT,List.pairwise_append]at s5
  have hi:=aeX M.flatten (T.take 20) (T.drop 20) s5.1 (by rw[ow,List.take_append_drop,cw];omega) (M.flatten.length:Int) ((M.flatten.length+20:Nat):Int) rfl (by rw[t1])
  rw[ow,List.take_append_drop]at hi
  refine aq hi (fun r hr=>?_)
  obtain⟨C,rfl,c1,c2⟩:=hr
  have lC:C.length=20:=by rw[c1.length_eq,t1]
  have hfl:(M++[C]).flatten.length=M.flatten.length+20:=by simp[lC]
  rw[bQ (by omega)]
  refine n5 ⟨⟨M++[C],T.drop 20,by simp,by simp only;omega,by simp only;omega,fun X hX=>?_,s5.2.1,fun X hX=>?_,List.pairwise_append.2 ⟨h7,List.pairwise_singleton _ _,fun X hX Y hY x hx y hy=>?_⟩,fun X hX x hx y hy=>?_,?_⟩,by simp only;omega⟩
  ·rcases kw.1 hX with hX | hX
   ·exact h4 X hX
   ·simp at hX;subst hX;exact lC
  ·rcases kw.1 hX with hX | hX
   ·exact h6 X hX
   ·simp at hX;subst hX;exact c2
  ·simp at hY;subst hY
   exact h8 X hX x hx y (List.mem_of_mem_take (c1.mem_iff.1 hy))
  ·rcases kw.1 hX with hX | hX
   ·exact h8 X hX x hx y (List.mem_of_mem_drop hy)
   ·simp at hX;subst hX
    exact s5.2.2 x (c1.mem_iff.1 hx) y hy
  ·refine List.Perm.trans ?_ h9
   simp only[List.flatten_append,sk,List.flatten_nil,List.append_nil,ow]
   refine List.Perm.append_left _ ?_
   have:=c1.append_right (T.drop 20)
   rwa [List.take_append_drop]at this
 ·obtain⟨M,T,rfl,h4,h3,h5,h6,h7,h8,h9⟩:=hs
  have hlen:M.flatten.length+T.length=S.length:=by have:=h9.length_eq;rw[cw]at this;exact this
  dsimp only
  have hi:=aeX M.flatten T [] h5 (by simp only[cw,List.length_nil];omega) (M.flatten.length:Int) (S.length:Int) rfl (by rw[←hlen])
  rw[List.append_nil]at hi
  refine hi.mono (fun r hr=>?_)
  obtain⟨C,rfl,c1,c2⟩:=hr
  by_cases hT:T=[]
  ·subst hT
   have hC:C=[]:=dw (by rw[c1.length_eq];rfl)
   subst hC
   refine⟨M,by simp,?_,h6,h7,by simpa using h9⟩
   have:=VW (bs:=20) (by omega) M [] h4 trivial
   simpa using this
  ·have hp:=List.length_pos_iff.2 hT
   have lC:C.length=T.length:=c1.length_eq
   refine⟨M++[C],by simp,VW (by omega) M [C] h4 ⟨by omega,by omega⟩,fun X hX=>?_,List.pairwise_append.2 ⟨h7,List.pairwise_singleton _ _,fun X hX Y hY x hx y hy=>?_⟩,?_⟩
   ·rcases kw.1 hX with hX | hX
    ·exact h6 X hX
    ·simp at hX;subst hX;exact c2
   ·simp at hY;subst hY
    exact h8 X hX x hx y (c1.mem_iff.1 hy)
   ·refine List.Perm.trans ?_ h9
    simp only[List.flatten_append,sk,List.flatten_nil,List.append_nil]
    exact c1.append_left _
theorem aNX(S:List DS)(hn:S.length≤1000000)(hS:S.Pairwise (fun x y=>x.2<y.2)):Ok (jq (S.map (·.1)) (S.length:Int)) (fun r=>∃C:List DS,r=C.map (·.1)∧C.Perm S∧C.Pairwise lt):=by
 unfold jq
 have h1:=aPJ S hn hS
 obtain⟨r21,hr,L,rfl,hk,hb⟩:=h1
 obtain⟨⟨e19,e20⟩,ha,hr⟩:=bB hr
 rw[ha,bk]
 dsimp only at hr ⊢
 rw[hr,bk]
 refine vV (fun s:List ax×Int=>∃(bs:Nat) (L:List (List DS)),20≤bs∧s.1=L.flatten.map (·.1)∧s.2=(bs:Int)∧Bk bs L∧Bs S L) (fun s=>((S.length:Int)-s.2).toNat) (fun s hs=>?_) ⟨20,L,by omega,rfl,rfl,hk,hb⟩ (by simp[i6];omega)
 obtain⟨a,b⟩:=s
 obtain⟨bs,L,h20,h2,h3,h4,h5⟩:=hs
 simp only at h2 h3
 subst h2 h3
 unfold m5
 dsimp only
 refine a0 (fun hlt=>?_) (fun hge=>eW ?_)
 ·obtain⟨v,hv,L',rfl,k1,k2⟩:=aUx S hn bs (by omega) (by omega) L h4 h5
  obtain⟨⟨e100,e101⟩,hp,hv⟩:=bB hv
  rw[hp,bk]
  dsimp only at hv ⊢
  rw[hv,bk,bQ (by omega)]
  exact n5 ⟨⟨2*bs,L',by omega,rfl,by simp only;omega,k1,k2⟩,by simp only;omega⟩
 ·have hlen:L.flatten.length=S.length:=h5.prm.length_eq
  match L,h4,h5,hlen with
  | [],_,h5,_=>exact⟨[],rfl,by simpa using h5.prm,List.Pairwise.nil⟩
  | [X],_,h5,_=>exact⟨X,by simp,by simpa using h5.prm,h5.srt X (by simp)⟩
  | X::Y::r,h4,_,hlen =>
   exfalso
   have h8:=h4.1
   have h9:0<Y.length:=by
    cases r with
    | nil=>exact h4.2.1
    | cons Z r=>have:=h4.2.1;omega
   simp only[sk,cw]at hlen
   omega
theorem aQj(w:List ax):w.zipIdx.Pairwise (fun x y:DS=>x.2<y.2):=by
 have h:(w.zipIdx.map (fun x:DS=>x.2)).Pairwise (· < ·):=by
  have:w.zipIdx.map (fun x:DS=>x.2)=List.range' 0 w.length:=by
   have:=List.zipIdx_map_snd 0 w
   exact this
  rw[this]
  exact List.pairwise_lt_range' ..
 exact List.pairwise_map.1 h
theorem aIW(w:List ax):w.zipIdx.map (fun x:DS=>x.1)=w:=List.zipIdx_map_fst 0 w
theorem ahX(w:List ax)(h:w.length≤1000000):Ok (dK w) (fun r=>∃C:List DS,r=C.map (·.1)∧C.Perm w.zipIdx∧C.Pairwise lt):=by
 unfold dK
 have hl:w.zipIdx.length=w.length:=by simp
 have:=aNX w.zipIdx (by omega) (aQj w)
 rw[aIW,hl]at this
 exact aq this (fun r hr=>aV hr)
theorem anq{α β:Type}{step:List β×Int→Option ((List β×Int) ⊕ List β)}(xs:List α)(g:Nat→α→Option β)(hl:xs.length≤100000)
  (h1:∀(i:Nat) y a,xs[i]? = some y→a.length≤i→step (a,(i:Int))=some (.inl (a++(g i y).toList,((i+1:Nat):Int)))) (h2:∀a,step (a,(xs.length:Int))=some (.inr a)) :
  loop step ([],0)=some (xs.zipIdx.filterMap fun p=>g p.2 p.1):=by
 have:Ok (loop step ([],0)) (fun r=>r=xs.zipIdx.filterMap fun p=>g p.2 p.1):=by
  refine Lz xs.length (fun a i=>a=(xs.zipIdx.take i).filterMap fun p=>g p.2 p.1) (by omega) (by simp) (fun a i hI h2'=>?_)
  subst hI
  by_cases hi:i<xs.length
  ·obtain⟨y,hy⟩ : ∃y,xs[i]? = some y:=⟨_,bw hi⟩
   rw[h1 i y _ hy (Nat.le_trans (List.length_filterMap_le _ _) (by rw[uk];omega))]
   refine n5 ⟨hi,rfl,?_⟩
   have hz:xs.zipIdx[i]? = some (y,i):=by rw[List.getElem?_zipIdx,hy];simp
   rw[List.take_add_one,hz,List.filterMap_append]
   cases e:g i y<;>simp[e]
  ·have:i=xs.length:=by omega
   subst this
   rw[h2]
   refine eW ?_
   rw[List.take_of_length_le (by simp)]
 obtain⟨r,e,rfl⟩:=this
 exact e
def pcF(c:az)(i:Nat)(y:aX):Option ax :=
 if max y.q0.q5 c.q5<min y.q0.q8 c.q8 then some {q9:={q6:=y.q6,z2:=y.z2,j3:=y.j3,q7:=y.q7,q0:={q5:=w64 (max y.q0.q5 c.q5-c.q5),q8:=w64 (min y.q0.q8 c.q8-c.q5)},x3:=y.x3,w7:=y.w7||decide (c.q8<y.q0.q8)},fold:=(i:Int)} else none
def pcs(l:List aX)(c:az):List ax:=l.zipIdx.filterMap fun p=>pcF c p.2 p.1
theorem a8V(l:List aX)(c:az)(h:l.length≤1000):loop (sX l c) ([],0)=some (pcs l c):=by
 refine anq l (pcF c) (by omega) (fun i y a hy ha=>?_) (fun a=>?_)
 ·have hi:=dZ hy
  unfold sX oW
  simp only[decide_eq_true (Int.ofNat_lt.2 hi),cond_true,dX,hy,bk,pcF]
  have hr:∀z:ax,H7 80 (a.length+[z].length)=true:=fun z=>Gq (by simp only[nw,List.length_nil];omega) (by simp only[nw,List.length_nil];omega)
  rw[sY (n:=l.length) (by omega) (by omega)]
  simp only[hr,cond_true]
  by_cases g:max y.q0.q5 c.q5<min y.q0.q8 c.q8
  ·cases y.w7<;>simp[g]
  ·simp[g]
 ·unfold sX
  simp
theorem aGq{l:List aX}{c:az}{p:ax}(h:p∈pcs l c):∃(i:Nat) (y:aX),l[i]? = some y∧pcF c i y=some p:=by
 obtain⟨⟨y,i⟩,h1,h2⟩:=List.mem_filterMap.1 h
 exact⟨i,y,List.mem_zipIdx_iff_getElem?.1 h1,h2⟩
theorem a6j{l:List aX}{c:az}{i:Nat}{y:aX}{p:ax}(h:l[i]? = some y)(h2:pcF c i y=some p):p∈pcs l c :=
 List.mem_filterMap.2 ⟨(y,i),List.mem_zipIdx_iff_getElem?.2 h,h2⟩
theorem Z0{c:az}{i:Nat}{y:aX}{p:ax}(h:pcF c i y=some p):p.fold=(i:Int):=by
 unfold pcF at h
 split at h
 ·cases h;rfl
 ·cases h
theorem aoQ(l:List aX)(c:az):(pcs l c).length≤l.length:=by
 unfold pcs
 exact Nat.le_trans (List.length_filterMap_le _ _) (by simp)
theorem aVz(l:List aX)(c:az):(pcs l c).Pairwise (fun p q=>p.fold<q.fold):=by
 have key:∀(l:List aX) (n:Nat),((l.zipIdx n).filterMap fun p=>pcF c p.2 p.1).Pairwise (fun p q=>p.fold<q.fold)∧∀q∈((l.zipIdx n).filterMap fun p=>pcF c p.2 p.1),(n:Int)≤q.fold:=by
  intro l
  induction l with
  | nil=>intro n;simp
  | cons y l ih =>
   intro n
   obtain⟨h1,h2⟩:=ih (n+1)
   rw[List.zipIdx_cons,List.filterMap_cons]
   cases e:pcF c n y with
   | none=>exact⟨h1,fun q hq=>by have:=h2 q hq;omega⟩
   | some p =>
    have h3:=Z0 e
    refine⟨List.pairwise_cons.2 ⟨fun q hq=>by have:=h2 q hq;omega,h1⟩,fun q hq=>?_⟩
    rcases jw.1 hq with rfl | hq
    ·omega
    ·have:=h2 q hq;omega
 exact(key l 0).1
def lo(p q:ax):Prop:=kl p q∨(¬kl q p∧p.fold<q.fold)
theorem abV{x y:ax}(h1:lo x y)(h2:lo y x):False:=by unfold lo kl at *;omega
theorem alZ:∀a b:List ax,a.Perm b→a.Pairwise lo→b.Pairwise lo→a=b
 | [],b,h,_,_=>(List.nil_perm.1 h).symm▸rfl
 | x::a,[],h,_,_=>by have:=h.length_eq;simp at this
 | x::a,y::b,h,ha,hb=>by
  have ha':=List.pairwise_cons.1 ha
  have hb':=List.pairwise_cons.1 hb
  have e:x=y:=by
   rcases jw.1 (h.mem_iff.2 (List.mem_cons_self:y ∈ y::b))with e | e
   ·exact e.symm
   ·rcases jw.1 (h.mem_iff.1 (List.mem_cons_self:x ∈ x::a))with e2 | e2
    ·exact e2
    ·exact(abV (ha'.1 y e) (hb'.1 x e2)).elim
  subst e
  rw[alZ a b h.cons_inv ha'.2 hb'.2]
theorem aPW{w:List ax}{x:ax}{i:Nat}(h:(x,i)∈w.zipIdx):w[i]? = some x:=List.mem_zipIdx_iff_getElem?.1 h
theorem a1J(w:List ax)(h:w.length≤1000000)(hp:w.Pairwise (fun p q=>p.fold<q.fold)):Ok (dK w) (fun r=>r.Perm w∧r.Pairwise lo):=by
 obtain⟨r,h1,C,rfl,h3,h4⟩:=ahX w h
 refine⟨_,h1,?_,?_⟩
 ·have:=h3.map (fun x:DS=>x.1)
  rwa [aIW]at this
 ·rw[List.pairwise_map]
  refine(List.Pairwise.and_mem.1 h4).imp (fun {x y} ⟨hx,hy,hl⟩=>?_)
  rcases hl with hl | ⟨hl,hi⟩
  ·exact .inl hl
  ·refine .inr ⟨hl,?_⟩
   have g1:=aPW (h3.mem_iff.1 hx)
   have g2:=aPW (h3.mem_iff.1 hy)
   have k1:=dZ g1
   have k2:=dZ g2
   have:=List.pairwise_iff_getElem.1 hp x.2 y.2 k1 k2 hi
   rw[bw k1]at g1
   rw[bw k2]at g2
   rw[Option.some.inj g1,Option.some.inj g2]at this
   exact this
instance (a b:ax):Decidable (lo a b):=by unfold lo;infer_instance
structure aEZ(so:List ax):Prop where
 len:so.length≤1000
 pos:∀(i:Nat) p,so[i]? = some p→0≤p.fold
 ne:∀(i j:Nat) p q,i<j→so[i]? = some p→so[j]? = some q→p.fold≠q.fold
 par:∀(i:Nat) p,so[i]? = some p→p.q9.z2 = -1∨∃k q,k<i∧so[k]? = some q∧q.fold=p.q9.z2
theorem a9Z{so:List ax}(h:aEZ so):Ok (loop (wz so) (afK (-1) (-1) [],0)) (fun m=>nY (-1) m=some (-1)∧∀(k:Nat) q,so[k]? = some q→nY q.fold m=some (k:Int)):=by
 have hl:=h.len
 refine Lz so.length (fun m i=>nY (-1) m=some (-1)∧∀(k:Nat) q,k<i→so[k]? = some q→nY q.fold m=some (k:Int)) (by omega) ⟨by rw[O4];simp,fun k q hk=>by omega⟩ (fun m i hI h2=>?_)
 unfold wz
 dsimp only
 refine a0 (fun hi=>?_) (fun hi=>eW ⟨hI.1,fun k q hq=>hI.2 k q (by have:=dZ hq;omega) hq⟩)
 refine aq (QZ (by omega)) (fun y hy=>?_)
 rw[sY (n:=so.length) (by omega) (by omega)]
 refine n5 ⟨by omega,rfl,?_,fun k q hk hq=>?_⟩
 ·have:=h.pos i y hy
  rw[O4,if_neg (by omega)];exact hI.1
 ·rw[O4]
  by_cases e:k=i
  ·subst e;rw[hy]at hq;cases hq;simp
  ·have:=h.ne k i q y (by omega) hq hy
   rw[if_neg this];exact hI.2 k q (by omega) hq
def upS(x:aX)(d:Int):aX:={q6:=x.q6,z2:=x.z2,j3:=x.j3,q7:=x.q7,q0:=x.q0,x3:=(w64 (x.x3-d)),w7:=x.w7}
def mkS(y:aX)(k d:Int):aX:={q6:=y.q6,z2:=k,j3:=d,q7:=y.q7,q0:=y.q0,x3:=(w64 (y.q0.q8-y.q0.q5)),w7:=y.w7}
def Fq(m:List (Int×Int))(a:List aX)(p:ax):List aX :=
 let k:=Option.getD (nY p.q9.z2 m) 0
 if 0≤k then match a[k.toNat]? with
  | some x=>a.set k.toNat (upS x (w64 (p.q9.q0.q8-p.q9.q0.q5)))++[mkS p.q9 k (w64 (x.j3+1))]
  | none=>a++[mkS p.q9 k 0]
 else a++[mkS p.q9 k 0]
theorem amz(m:List (Int×Int))(a:List aX)(p:ax):(Fq m a p).length=a.length+1:=by
 unfold Fq
 dsimp only
 split
 ·split<;>simp
 ·simp
theorem aWq{c:az}{i:Nat}{y:aX}{p:ax}(h:pcF c i y=some p)(hv:0≤y.q0.q5∧y.q0.q5<y.q0.q8∧y.q0.q8≤1000000000000)(hc:0≤c.q5∧c.q8≤1000000000000) :
  max y.q0.q5 c.q5<min y.q0.q8 c.q8∧p.q9.q6=y.q6∧p.q9.z2=y.z2∧p.q9.q0.q5=max y.q0.q5 c.q5-c.q5∧p.q9.q0.q8=min y.q0.q8 c.q8-c.q5∧p.fold=(i:Int):=by
 unfold pcF at h
 split at h
 ·rename_i g
  cases h
  refine⟨g,rfl,rfl,?_,?_,rfl⟩
  ·simp only;rw[bQ (by omega)]
  ·simp only;rw[bQ (by omega)]
 ·cases h
theorem aKJ{l:List aX}{c:az}(hl:l.length≤1000)(hN:Nest l)(hV:SpV l)(hc:0≤c.q5∧c.q8≤1000000000000){D:List ax}(hD:D.Perm (pcs l c))(hs:D.Pairwise lo):aEZ D:=by
 have hlen:D.length≤l.length:=by rw[hD.length_eq];exact aoQ l c
 have hm:∀(i:Nat) p,D[i]? = some p→∃(n:Nat) (y:aX),l[n]? = some y∧pcF c n y=some p∧0≤y.q0.q5∧y.q0.q5<y.q0.q8∧y.q0.q8≤1000000000000:=by
  intro i p hp
  obtain⟨n,y,h1,h2⟩:=aGq (hD.mem_iff.1 (ew hp))
  exact⟨n,y,h1,h2,hV y (ew h1)⟩
 have hlt:∀(i j:Nat) p q,i<j→D[i]? = some p→D[j]? = some q→lo p q:=by
  intro i j p q hij hp hq
  have k1:=dZ hp
  have k2:=dZ hq
  have:=List.pairwise_iff_getElem.1 hs i j k1 k2 hij
  rw[bw k1]at hp
  rw[bw k2]at hq
  rwa [Option.some.inj hp,Option.some.inj hq]at this
 refine⟨by omega,fun i p hp=>?_,fun i j p q hij hp hq e=>?_,fun i p hp=>?_⟩
 ·obtain⟨n,y,_,h2,_⟩:=hm i p hp
  rw[Z0 h2];omega
 ·obtain⟨n,y,h1,h2,_⟩:=hm i p hp
  obtain⟨n',y',h1',h2',_⟩:=hm j q hq
  have:=Z0 h2
  have:=Z0 h2'
  have:n=n':=by omega
  subst this
  rw[h1]at h1';cases h1'
  rw[h2]at h2';cases h2'
  exact abV (hlt i j p p hij hp hq) (hlt i j p p hij hp hq)
 ·obtain⟨n,y,h1,h2,v⟩:=hm i p hp
  obtain⟨g,e1,e2,e3,e4,e5⟩:=aWq h2 v hc
  rcases hN n y h1 with⟨e,_⟩ | ⟨k,z,e,hk,hz,e6,e7,e8,_⟩
  ·left;rw[e2,e]
  ·right
   have v2:=hV z (ew hz)
   obtain⟨q,hq⟩ : ∃q,pcF c k z=some q:=by
    unfold pcF
    rw[if_pos (by omega)]
    exact⟨_,rfl⟩
   obtain⟨_,f1,_,f3,f4,f5⟩:=aWq hq v2 hc
   obtain⟨j,hj⟩:=List.getElem?_of_mem (hD.mem_iff.2 (a6j hz hq))
   have hl2:lo q p:=by unfold lo kl;omega
   refine⟨j,q,?_,hj,by rw[f5,e2,e]⟩
   rcases Nat.lt_trichotomy j i with h | h | h
   ·exact h
   ·subst h;rw[hp]at hj;cases hj;omega
   ·exact(abV (hlt i j p q h hp hj) hl2).elim
theorem aeV:∀ {x y z:List UInt8},Op.bytesLess x y=true→Op.bytesLess y z=true→Op.bytesLess x z=true
 | [],y,z,h1,h2=>by
  cases z with
  | nil=>cases y<;>simp[Op.bytesLess]at h2
  | cons c z=>simp[Op.bytesLess]
 | a::x,[],z,h1,h2=>by simp[Op.bytesLess]at h1
 | a::x,b::y,[],h1,h2=>by simp[Op.bytesLess]at h2
 | a::x,b::y,c::z,h1,h2=>by
  simp only[Op.bytesLess,Bool.or_eq_true,dk,decide_eq_true_eq,beq_iff_eq]at h1 h2 ⊢
  rcases h1 with h1 | ⟨rfl,h1⟩<;>rcases h2 with h2 | ⟨rfl,h2⟩
  ·exact .inl (UInt8.lt_trans h1 h2)
  ·exact .inl h1
  ·exact .inl h2
  ·exact .inr ⟨rfl,aeV h1 h2⟩
theorem G0{a b c:ByteArray}(h1:sLt a b=true)(h2:sLt b c=true):sLt a c=true:=aeV h1 h2
def stL(x y:bJ):Prop:=sLt x.q7 y.q7=true∨(x.q7=y.q7∧x.j9<y.j9)
theorem a6z{x y z:bJ}(h1:stL x y)(h2:stL y z):stL x z:=by
 rcases h1 with h1 | ⟨h1,g1⟩<;>rcases h2 with h2 | ⟨h2,g2⟩
 ·exact .inl (G0 h1 h2)
 ·exact .inl (h2▸h1)
 ·exact .inl (h1.symm▸h2)
 ·exact .inr ⟨h1.trans h2,by omega⟩
theorem aoX{x y:bJ}(h:stL x y)(e:x.q7=y.q7):x.j9<y.j9:=by
 rcases h with h | h
 ·exact absurd e (Kx h).2
 ·exact h.2
structure StV(l:List bJ):Prop where
 srt:l.Pairwise stL
 rng:∀x∈l,0≤x.j9∧x.j9≤1000000000000
theorem W7(l:List bJ)(h:l.length≤9223372036854775807)(hx:∀x∈l,okN x.q7):Ok (oY l) (fun r=>r=0→StV l):=by
 have adj:Ok (oY l) (fun r=>r=0→(∀(i:Nat) x y,l[i]? = some x→l[i+1]? = some y→stL x y)∧∀x∈l,0≤x.j9∧x.j9≤1000000000000):=by
  unfold oY
  refine f8 (Q:=tq (fun _=>(∀(i:Nat) x y,l[i]? = some x→l[i+1]? = some y→stL x y)∧∀x∈l,0≤x.j9∧x.j9≤1000000000000) (fun r=>r≠0)) (adQ l.length (fun n=>(∀(i:Nat) x y,i+1<n→l[i]? = some x→l[i+1]? = some y→stL x y)∧∀(i:Nat) x,i<n→l[i]? = some x→0≤x.j9∧x.j9≤1000000000000) h ⟨fun i x y hi=>by omega,fun i x hi=>by omega⟩ (fun n hI h2=>?_)) (fun _ hq=>aV (fun _=>hq)) (fun r hr=>aV (fun e=>absurd e hr))
  unfold rZ
  refine a0 (fun hi=>?_) (fun hi=>eW ⟨fun i x y hx hy=>hI.1 i x y (by have:=dZ hy;omega) hx hy,fun x hx=>?_⟩)
  ·refine aq (QZ (by omega)) (fun y hy=>?_)
   refine aq (l7 _ (hx _ (ew hy))) (fun r _=>?_)
   refine bX (fun h0=>eW h0) (fun _=>?_)
   refine aq (Q:=fun v=>v=false→0≤y.j9∧y.j9≤1000000000000) ?_ (fun v hv=>?_)
   ·refine a0 (fun _=>aV (by simp)) (fun g1=>?_)
    refine a0 (fun _=>aV (by simp)) (fun g2=>?_)
    exact aq (OZ _) (fun b _=>aV (fun _=>⟨by omega,by omega⟩))
   refine bK (fun _=>eW (show(2:Int)≠0 by omega)) (fun hv0=>?_)
   refine aq (Q:=fun v=>v=false→∀(i:Nat) x,i+1=n→l[i]? = some x→stL x y) ?_ (fun v hv2=>?_)
   ·refine a0 (fun g=>?_) (fun g=>aV (fun _ i x hin _=>by omega))
    obtain⟨k,rfl⟩ : ∃k,n=k+1:=⟨n-1,by omega⟩
    have e1:w64 (((k+1:Nat):Int)-1)=(k:Int):=by rw[bQ (by omega)];omega
    obtain⟨x,hx1⟩ : ∃x,l[k]? = some x:=⟨_,bw (by omega)⟩
    rw[e1,dX,hx1]
    simp only[bk]
    unfold rQ
    rw[aJz,bk,Z2,bk,UV _ (Nat.le_of_ble_eq_true rfl),bk,bk]
    refine a0 (fun _=>aV (by simp)) (fun g2=>?_)
    have hst:stL x y:=by
     simp only[orI]at g2
     cases s1:sLt x.q7 y.q7 with
     | true=>exact .inl s1
     | false =>
      cases s2:sLt y.q7 x.q7 with
      | true=>simp[s1,s2]at g2
      | false =>
       have e3:=Tx x.q7 y.q7
       rw[s1,s2]at e3
       simp at e3
       refine .inr ⟨e3,?_⟩
       simp only[s1,s2]at g2
       by_cases g3:x.j9<y.j9
       ·exact g3
       ·by_cases g4:y.j9<x.j9<;>simp[g3,g4]at g2
    have fin:∀b:Bool,Ok (some b:Option Bool) (fun v=>v=false→∀(i:Nat) x,i+1=k+1→l[i]? = some x→stL x y):=fun b=>aV (fun _ i x' hi hx'=>by
     have:i=k:=by omega
     subst this
     rw[hx1]at hx';cases hx';exact hst)
    refine a0 (fun _=>fin _) (fun _=>fin _)
   refine bK (fun _=>eW (show(11:Int)≠0 by omega)) (fun hv1=>?_)
   rw[sY (n:=l.length) (by omega) h]
   refine n5 ⟨by omega,rfl,fun i x z hi hx hz=>?_,fun i x hi hx=>?_⟩
   ·by_cases e:i+1=n
    ·subst e;rw[hy]at hz;cases hz
     exact hv2 hv1 i x rfl hx
    ·exact hI.1 i x z (by omega) hx hz
   ·by_cases e:i=n
    ·subst e;rw[hy]at hx;cases hx;exact hv hv0
    ·exact hI.2 i x (by omega) hx
  ·obtain⟨i,hi2⟩:=List.getElem?_of_mem hx
   exact hI.2 i x (by have:=dZ hi2;omega) hi2
 refine adj.mono (fun r hr e=>?_)
 obtain⟨h1,h2⟩:=hr e
 refine⟨?_,h2⟩
 have chain:∀(k i:Nat) x y,l[i]? = some x→l[i+k+1]? = some y→stL x y:=by
  intro k
  induction k with
  | zero=>intro i x y hx hy;exact h1 i x y hx hy
  | succ k ih =>
   intro i x y hx hy
   have:=dZ hy
   obtain⟨z,hz⟩ : ∃z,l[i+k+1]? = some z:=⟨_,bw (by omega)⟩
   exact a6z (ih i x z hx hz) (h1 (i+k+1) z y hz (by rw[←hy];congr 1))
 rw[List.pairwise_iff_getElem]
 intro i j hi hj hij
 exact chain (j-i-1) i _ _ (bw hi) (by rw[show i+(j-i-1)+1=j by omega];exact bw hj)
def stN(n:ByteArray)(a v:Int):bJ:={q7:=n,j9:=a,j6:=v}
def nP(c:az)(a:List bJ)(x:bJ):List bJ :=
 if c.q8≤x.j9 then a else match a.getLast? with
  | some o=>if o.q7=x.q7∧x.j9≤c.q5 then a.dropLast++[stN x.q7 (max (x.j9-c.q5) 0) x.j6]else a++[stN x.q7 (max (x.j9-c.q5) 0) x.j6]
  | none=>a++[stN x.q7 (max (x.j9-c.q5) 0) x.j6]
def C4(c:az)(x:bJ):Option bJ→Prop
 | none=>True
 | some z=>¬z.q7=x.q7∨c.q5<z.j9
instance (c:az) (x:bJ) (z:Option bJ):Decidable (C4 c x z):=by unfold C4;cases z<;>infer_instance
def nR(c:az)(a:List bJ)(x:bJ)(z:Option bJ):List bJ :=
 if x.j9≤c.q5 then(if C4 c x z then a++[stN x.q7 0 x.j6]else a)else if x.j9<c.q8 then a++[stN x.q7 (x.j9-c.q5) x.j6]else a
def fR(c:az):List bJ→List bJ→List bJ
 | [],a=>a
 | x::r,a=>fR c r (nR c a x r.head?)
theorem Z6(c:az)(hc:c.q5<c.q8):∀(ys:List bJ),ys.Pairwise stL→∀a:List bJ,(∀o∈a,∀y∈ys,o.q7=y.q7→c.q5<y.j9) →
  ys.foldl (nP c) a=fR c ys a∧∀y r o,ys=y::r→o.q7=y.q7→y.j9≤c.q5→ys.foldl (nP c) (a++[o])=fR c ys a
 | [],_,a,_=>⟨rfl,fun y r o e=>by cases e⟩
 | x::r,hp,a,hJ=>by
  have hp':=List.pairwise_cons.1 hp
  have ih:=Z6 c hc r hp'.2
  have hJr:∀o∈a,∀y∈r,o.q7=y.q7→c.q5<y.j9:=fun o ho y hy=>hJ o ho y (List.mem_cons_of_mem _ hy)
  have mid:x.j9≤c.q5→r.foldl (nP c) (a++[stN x.q7 0 x.j6])=fR c (x::r) a:=by
   intro hx
   simp only[fR,nR,if_pos hx]
   by_cases hl:C4 c x r.head?
   ·rw[if_pos hl]
    refine(ih _ (fun o ho y hy e=>?_)).1
    rcases kw.1 ho with ho | ho
    ·exact hJr o ho y hy e
    ·simp only[gw]at ho;subst ho
     cases r with
     | nil=>simp at hy
     | cons z r =>
      simp only[List.head?_cons,C4]at hl
      have hxz:=hp'.1 z (by simp)
      rcases jw.1 hy with rfl | hy
      ·rcases hl with hl | hl
       ·exact absurd e.symm hl
       ·exact hl
      ·have hzy:=(List.pairwise_cons.1 hp'.2).1 y hy
       have e1:x.q7=z.q7:=by
        rcases hxz with h | h
        ·rcases hzy with h2 | h2
         ·exact absurd e (Kx (G0 h h2)).2
         ·rw[h2.1]at h;exact absurd e (Kx h).2
        ·exact h.1
       rcases hl with hl | hl
       ·exact absurd e1.symm hl
       ·have:=aoX hzy (e1.symm.trans e);omega
   ·rw[if_neg hl]
    cases r with
    | nil=>exact absurd trivial hl
    | cons z r =>
     simp only[List.head?_cons,C4,not_or,Decidable.not_not]at hl
     exact(ih a hJr).2 z r _ rfl hl.1.symm (by omega)
  have e0:x.j9≤c.q5→max (x.j9-c.q5) 0=0:=fun h=>by omega
  refine⟨?_,fun y r' o e hn hy=>?_⟩
  ·rw[List.foldl_cons]
   by_cases hx:x.j9≤c.q5
   ·rw[←mid hx]
    congr 1
    unfold nP
    rw[if_neg (by omega),e0 hx]
    cases hg:a.getLast? with
    | none=>rfl
    | some o =>
     simp only[]
     rw[if_neg (fun h=>by have:=hJ o (List.mem_of_getLast? hg) x (by simp) h.1;omega)]
   ·by_cases hx2:x.j9<c.q8
    ·have e1:nP c a x=a++[stN x.q7 (x.j9-c.q5) x.j6]:=by
      unfold nP
      rw[if_neg (by omega),show max (x.j9-c.q5) 0=x.j9-c.q5 by omega]
      cases hg:a.getLast? with
      | none=>rfl
      | some o =>
       simp only[]
       rw[if_neg (fun h=>hx h.2)]
     rw[e1]
     simp only[fR,nR,if_neg hx,if_pos hx2]
     refine(ih _ (fun o ho y hy e=>?_)).1
     rcases kw.1 ho with ho | ho
     ·exact hJr o ho y hy e
     ·simp only[gw]at ho;subst ho
      have:=aoX (hp'.1 y hy) e;omega
    ·have e1:nP c a x=a:=by unfold nP;rw[if_pos (by omega)]
     rw[e1]
     simp only[fR,nR,if_neg hx,if_neg hx2]
     exact(ih a hJr).1
  ·cases e
   rw[List.foldl_cons,←mid hy]
   congr 1
   unfold nP
   rw[if_neg (by omega),e0 hy]
   simp[hn,hy]
theorem a8Z(c:az)(a:List bJ)(x:bJ):(nP c a x).length≤a.length+1:=by
 unfold nP
 split
 ·omega
 ·split
  ·split<;>simp<;>omega
  ·simp
theorem a8q(l:List bJ)(c:az)(hl:l.length≤1000)(hr:∀x∈l,0≤x.j9∧x.j9≤1000000000000)(hc:0≤c.q5∧c.q5≤1000000000000):loop (tj l c) ([],0)=some (l.foldl (nP c) [])∧(l.foldl (nP c) []).length≤l.length:=by
 have:Ok (loop (tj l c) ([],0)) (fun r=>r=l.foldl (nP c) []∧r.length≤l.length):=by
  refine Lz l.length (fun a i=>a=(l.take i).foldl (nP c) []∧a.length≤i) (by omega) ⟨rfl,by simp⟩ (fun a i hI h2=>?_)
  unfold tj
  dsimp only
  refine a0 (fun hi=>?_) (fun hi=>eW ?_)
  ·have hi':i<l.length:=by omega
   obtain⟨y,hy⟩ : ∃y,l[i]? = some y:=⟨_,bw hi'⟩
   have hy2:=hr y (ew hy)
   have hla:=hI.2
   rw[dX,hy,bk,sY (n:=l.length) hi' (by omega),bQ (n:=y.j9-c.q5) (by omega)]
   have hroom:∀z:bJ,H7 32 (a.length+[z].length)=true:=fun z=>Gq (by simp only[nw,List.length_nil];omega) (by simp only[nw,List.length_nil];omega)
   refine aq (Q:=fun b=>b=nP c a y) ?_ (fun b hb=>n5 ⟨hi',rfl,?_,?_⟩)
   ·unfold nP
    refine a0 (fun g=>aV (by rw[if_pos g])) (fun g=>?_)
    rw[if_neg g]
    rcases List.eq_nil_or_concat a with e | ⟨b,o,e⟩
    ·subst e
     simp only[List.length_nil]at hroom
     simp only[List.length_nil,Int.natCast_zero,Int.lt_irrefl,decide_false,cond_false,bk,List.getLast?_nil]
     rw[hroom,cond_true]
     exact aV rfl
    ·rw[List.concat_eq_append]at e
     subst e
     have hla2:b.length+1≤i:=by simpa using hla
     have e1:w64 (((b++[o]).length:Int)-1)=(b.length:Int):=by rw[bQ (by rw[cw,nw,List.length_nil];omega)];simp
     have e2:(b++[o])[b.length]? = some o:=by simp
     rw[decide_eq_true (by rw[cw,nw,List.length_nil];omega:(0:Int)<((b++[o]).length:Int)),cond_true,e1,dX,e2]
     simp only[bk,List.getLast?_append,List.getLast?_singleton,Option.some_or,Int.toNat_natCast]
     by_cases g1:o.q7=y.q7
     ·by_cases g2:y.j9≤c.q5
      ·rw[decide_eq_true g1,cond_true,decide_eq_true (by omega:max (y.j9-c.q5) 0=0),bk,cond_true,if_pos ⟨g1,g2⟩]
       exact aV (by simp[stN])
      ·rw[decide_eq_true g1,cond_true,lk (by omega : ¬max (y.j9-c.q5) 0=0),bk,cond_false,if_neg (fun h=>g2 h.2),hroom,cond_true]
       exact aV rfl
     ·rw[lk g1,cond_false,bk,cond_false,if_neg (fun h=>g1 h.1),hroom,cond_true]
      exact aV rfl
   ·subst hb
    simp only
    rw[List.take_add_one,hy,Option.toList_some,List.foldl_append,←hI.1];rfl
   ·subst hb
    have:=a8Z c a y
    simp only;omega
  ·have:i=l.length:=by omega
   subst this
   rw[List.take_length]at hI
   exact hI
 obtain⟨r,e,rfl,e2⟩:=this
 exact⟨e,e2⟩
def F3{α:Type}(p:α→α→Bool)(xs ys:List α):Bool:=(xs.zip ys).all fun z=>p z.1 z.2
theorem AK{α:Type}{p:α→α→Bool}{xs:List α}(h:∀x∈xs,p x x=true):F3 p xs xs=true:=by
 unfold F3
 rw[lw]
 intro z hz
 induction xs with
 | nil=>simp at hz
 | cons x xs ih =>
  rw[List.zip_cons_cons]at hz
  rcases jw.1 hz with rfl | hz
  ·exact h x (by simp)
  ·exact ih (fun y hy=>h y (List.mem_cons_of_mem _ hy)) hz
theorem GQ{α:Type}{step:Int→Option (Int ⊕ (Unit ⊕ Bool))}(xs ys:List α)(p:α→α→Bool)(hn:xs.length=ys.length)(hl:xs.length≤9223372036854775807)
  (h1:∀(i:Nat) x y,xs[i]? = some x→ys[i]? = some y→step (i:Int)=some (if p x y=true then .inl (w64 ((i:Int)+1))else .inr (.inr false))) (h2:step (xs.length:Int)=some (.inr (.inl ()))) :
  loop step 0=some (if F3 p xs ys=true then .inl ()else .inr false):=by
 have hz:(xs.zip ys).length=xs.length:=by rw[List.length_zip];omega
 rw[RY (xs.zip ys) (fun _ z=>if p z.1 z.2=true then none else some (.inr false)) (.inl ()) (by rw[hz];simp[i6];omega) (fun i z hi=>?_) (by rw[hz,h2])]
 ·congr 1
  have:∀(l:List (α×α)) (i:Nat),(EQ (fun _ z=>if p z.1 z.2=true then none else some (Sum.inr false:Unit ⊕ Bool)) l i).getD (.inl ())=if(l.all fun z=>p z.1 z.2)=true then .inl ()else .inr false:=by
   intro l
   induction l with
   | nil=>intro i;rfl
   | cons z l ih =>
    intro i
    simp only[EQ]
    by_cases h:p z.1 z.2=true
    ·have e2:((z::l).all fun z=>p z.1 z.2)=(l.all fun z=>p z.1 z.2):=by simp[h]
     rw[if_pos h,e2];exact ih (i+1)
    ·have e2:((z::l).all fun z=>p z.1 z.2)=false:=by simp[h]
     rw[if_neg h,e2];rfl
  exact this _ _
 ·have hil:=dZ hi
  rw[hz]at hil
  rw[List.getElem?_zip_eq_some]at hi
  rw[h1 i z.1 z.2 hi.1 hi.2,apz (by omega)]
  by_cases h:p z.1 z.2=true<;>simp[h]
def aox(x y:i5):Bool:=(decide (x.x6=y.x6)&&(decide (x.q7=y.q7)&&(decide (x.x8=y.x8)&&true)))
def aqQ(x y:aX):Bool:=(decide (x.q6=y.q6)&&(decide (x.z2=y.z2)&&(decide (x.j3=y.j3)&&(decide (x.q7=y.q7)&&(decide (x.q0.q5=y.q0.q5)&&(decide (x.q0.q8=y.q0.q8)&&(decide (x.x3=y.x3)&&(decide (x.w7=y.w7)&&true))))))))
def arX(x y:bj):Bool:=(decide (x.q6=y.q6)&&(decide (x.j8=y.j8)&&(decide (x.q0.q5=y.q0.q5)&&(decide (x.q0.q8=y.q0.q8)&&(decide (x.x7=y.x7)&&(decide (x.g8=y.g8)&&(decide (x.g9=y.g9)&&true)))))))
def apQ(x y:c7):Bool:=(decide (x.x6=y.x6)&&(decide (x.q5.q6=y.q5.q6)&&(decide (x.q5.w8=y.q5.w8)&&(decide (x.q8.q6=y.q8.q6)&&(decide (x.q8.w8=y.q8.w8)&&(decide (x.w9=y.w9)&&(decide (x.v8=y.v8)&&true)))))))
def aqx(x y:bJ):Bool:=(decide (x.q7=y.q7)&&(decide (x.j9=y.j9)&&(decide (x.j6=y.j6)&&true)))
def aqW(x y:fJ):Bool:=(decide (x.q6=y.q6)&&(decide (x.q0.q5=y.q0.q5)&&(decide (x.q0.q8=y.q0.q8)&&(decide (x.w6=y.w6)&&true))))
def aTq(a b:List ByteArray):Bool:=decide (a.length=b.length)&&F3 (fun x y=>decide (x=y)) a b
def ahZ(x y:bY):Bool:=decide (x.q6=y.q6)&&(decide (x.j9=y.j9)&&(decide (x.w5=y.w5)&&aTq x.j4 y.j4))
def ahJ(x y:cz):Bool:=decide (x.x6=y.x6)&&(decide (x.q6=y.q6)&&(decide (x.x5=y.x5)&&((decide (x.q0.q5=y.q0.q5)&&(decide (x.q0.q8=y.q0.q8)&&true))&&(decide (x.x9=y.x9)&&aTq x.j4 y.j4))))
def Shk(l:List ByteArray):Prop:=l.length≤9223372036854775807
theorem bcj(a b:Nat):decide ((a:Int)=(b:Int))=decide (a=b):=by
 by_cases h:a=b
 ·simp[h]
 ·have : ¬(a:Int)=(b:Int):=by omega
  simp[h,this]
theorem GV{α:Type}{step:Int→Option (Int ⊕ (Unit ⊕ Bool))}(xs ys:List α)(p:α→α→Bool)(hl:xs.length≤9223372036854775807)(h1:xs.length=ys.length→loop step 0=some (if F3 p xs ys=true then .inl ()else .inr false)) :
  (bif (!decide ((xs.length:Int)=(ys.length:Int)))then some false else((loop step 0).bind fun | .inl _=>some true | .inr rv=>some rv))=some (decide (xs.length=ys.length)&&F3 p xs ys):=by
 rw[bcj]
 by_cases h:xs.length=ys.length
 ·rw[decide_eq_true h,h1 h]
  cases F3 p xs ys<;>rfl
 ·rw[lk h];rfl
theorem a7z(xs ys:List i5)(hl:xs.length≤9223372036854775807):lQ xs ys=some (decide (xs.length=ys.length)&&F3 aox xs ys):=by
 refine GV xs ys aox hl (fun h=>GQ xs ys aox h hl (fun i x y hx hy=>?_) (by unfold jW;simp))
 unfold jW
 rw[decide_eq_true (Int.ofNat_lt.2 (dZ hx)),cond_true,dX,hx,bk,dX,hy,bk]
 show(bif aox x y != true then _ else _)=_
 cases aox x y<;>rfl
theorem a8X(xs ys:List aX)(hl:xs.length≤9223372036854775807):mQ xs ys=some (decide (xs.length=ys.length)&&F3 aqQ xs ys):=by
 refine GV xs ys aqQ hl (fun h=>GQ xs ys aqQ h hl (fun i x y hx hy=>?_) (by unfold kY;simp))
 unfold kY
 rw[decide_eq_true (Int.ofNat_lt.2 (dZ hx)),cond_true,dX,hx,bk,dX,hy,bk]
 show(bif aqQ x y != true then _ else _)=_
 cases aqQ x y<;>rfl
theorem a9x(xs ys:List bj)(hl:xs.length≤9223372036854775807):mj xs ys=some (decide (xs.length=ys.length)&&F3 arX xs ys):=by
 refine GV xs ys arX hl (fun h=>GQ xs ys arX h hl (fun i x y hx hy=>?_) (by unfold kK;simp))
 unfold kK
 rw[decide_eq_true (Int.ofNat_lt.2 (dZ hx)),cond_true,dX,hx,bk,dX,hy,bk]
 show(bif arX x y != true then _ else _)=_
 cases arX x y<;>rfl
theorem a5J(xs ys:List c7)(hl:xs.length≤9223372036854775807):nz xs ys=some (decide (xs.length=ys.length)&&F3 apQ xs ys):=by
 refine GV xs ys apQ hl (fun h=>GQ xs ys apQ h hl (fun i x y hx hy=>?_) (by unfold mq;simp))
 unfold mq
 rw[decide_eq_true (Int.ofNat_lt.2 (dZ hx)),cond_true,dX,hx,bk,dX,hy,bk]
 show(bif apQ x y != true then _ else _)=_
 cases apQ x y<;>rfl
theorem a9z(xs ys:List bJ)(hl:xs.length≤9223372036854775807):m9 xs ys=some (decide (xs.length=ys.length)&&F3 aqx xs ys):=by
 refine GV xs ys aqx hl (fun h=>GQ xs ys aqx h hl (fun i x y hx hy=>?_) (by unfold l9;simp))
 unfold l9
 rw[decide_eq_true (Int.ofNat_lt.2 (dZ hx)),cond_true,dX,hx,bk,dX,hy,bk]
 show(bif aqx x y != true then _ else _)=_
 cases aqx x y<;>rfl
theorem a5V(xs ys:List fJ)(hl:xs.length≤9223372036854775807):nq xs ys=some (decide (xs.length=ys.length)&&F3 aqW xs ys):=by
 refine GV xs ys aqW hl (fun h=>GQ xs ys aqW h hl (fun i x y hx hy=>?_) (by unfold l8;simp))
 unfold l8
 rw[decide_eq_true (Int.ofNat_lt.2 (dZ hx)),cond_true,dX,hx,bk,dX,hy,bk]
 show(bif aqW x y != true then _ else _)=_
 cases aqW x y<;>rfl
theorem aXx(xs ys:List ByteArray)(hl:xs.length≤9223372036854775807):mW xs ys=some (aTq xs ys):=by
 refine GV xs ys (fun x y=>decide (x=y)) hl (fun h=>GQ xs ys (fun x y=>decide (x=y)) h hl (fun i x y hx hy=>?_) (by unfold nV;simp))
 unfold nV
 rw[decide_eq_true (Int.ofNat_lt.2 (dZ hx)),cond_true,dX,hx,bk,dX,hy,bk]
 by_cases e:x=y<;>simp[e]
theorem aZV(x y:bY)(h:Shk x.j4):uV x y=some (ahZ x y):=by
 unfold uV ahZ
 rw[aXx _ _ h]
 by_cases h1:x.q6=y.q6<;>by_cases h2:x.j9=y.j9<;>by_cases h3:x.w5=y.w5<;>simp[h1,h2,h3]
theorem a2Y(x y:cz)(h:Shk x.j4):xW x y=some (ahJ x y):=by
 unfold xW ahJ
 rw[aXx _ _ h]
 generalize (decide (x.q0.q5=y.q0.q5)&&(decide (x.q0.q8=y.q0.q8)&&true))=b1
 generalize decide (x.x9=y.x9)=b2
 by_cases h1:x.x6=y.x6<;>by_cases h2:x.q6=y.q6<;>by_cases h3:x.x5=y.x5<;>cases b1<;>cases b2<;>simp[h1,h2,h3]
theorem a9j(xs ys:List bY)(hl:xs.length≤9223372036854775807)(hs:∀x∈xs,Shk x.j4):d7 xs ys=some (decide (xs.length=ys.length)&&F3 ahZ xs ys):=by
 refine GV xs ys ahZ hl (fun h=>GQ xs ys ahZ h hl (fun i x y hx hy=>?_) (by unfold d6;simp))
 unfold d6 F9
 rw[decide_eq_true (Int.ofNat_lt.2 (dZ hx)),cond_true,dX,hx,bk,dX,hy,bk,aZV x y (hs x (ew hx)),bk,bk]
 cases ahZ x y<;>rfl
theorem a6Z(xs ys:List cz)(hl:xs.length≤9223372036854775807)(hs:∀x∈xs,Shk x.j4):eJ xs ys=some (decide (xs.length=ys.length)&&F3 ahJ xs ys):=by
 refine GV xs ys ahJ hl (fun h=>GQ xs ys ahJ h hl (fun i x y hx hy=>?_) (by unfold eQ;simp))
 unfold eQ Gj
 rw[decide_eq_true (Int.ofNat_lt.2 (dZ hx)),cond_true,dX,hx,bk,dX,hy,bk,a2Y x y (hs x (ew hx)),bk,bk]
 cases ahJ x y<;>rfl
structure aKY(t:cW):Prop where
 th:t.z3.length≤1000
 sl:t.z6.length≤1000
 st:t.j7.length≤1000
 fl:t.v9.length≤1000
 sa:t.z9.length≤1000
 sp:t.w4.length≤1000
 bl:t.j5.length≤1000
 lo:t.x4.length≤1000
 ka:∀x∈t.z9,Shk x.j4
 kb:∀x∈t.j5,Shk x.j4
def aIj(x y:az):Bool:=(decide (x.q5=y.q5)&&(decide (x.q8=y.q8)&&true))
def PV{α:Type}(p:α→α→Bool)(xs ys:List α):Bool:=decide (xs.length=ys.length)&&F3 p xs ys
def eqT(t u:cW):Bool:=aIj t.q0 u.q0&&(PV aox t.z3 u.z3&&(PV aqQ t.z6 u.z6&&(PV arX t.j7 u.j7&&(PV apQ t.v9 u.v9&&(PV aqx t.w4 u.w4&&(PV aqW t.x4 u.x4&&(PV ahZ t.z9 u.z9&&PV ahJ t.j5 u.j5)))))))
theorem aqK(t u:cW)(h:aKY t):G2 t u=some (eqT t u):=by
 unfold G2
 rw[a7z _ _ (by have:=h.th;omega),a8X _ _ (by have:=h.sl;omega),a9x _ _ (by have:=h.st;omega),a5J _ _ (by have:=h.fl;omega),a9z _ _ (by have:=h.sp;omega),a5V _ _ (by have:=h.lo;omega),a9j _ _ (by have:=h.sa;omega) h.ka,a6Z _ _ (by have:=h.bl;omega) h.kb]
 unfold eqT PV
 show((bif (aIj t.q0 u.q0 != false)then _ else _:Option Bool).bind _)=_
 generalize aIj t.q0 u.q0=b0
 generalize (decide (t.z3.length=u.z3.length)&&F3 aox t.z3 u.z3)=b1
 generalize (decide (t.z6.length=u.z6.length)&&F3 aqQ t.z6 u.z6)=b2
 generalize (decide (t.j7.length=u.j7.length)&&F3 arX t.j7 u.j7)=b3
 generalize (decide (t.v9.length=u.v9.length)&&F3 apQ t.v9 u.v9)=b4
 generalize (decide (t.w4.length=u.w4.length)&&F3 aqx t.w4 u.w4)=b5
 generalize (decide (t.x4.length=u.x4.length)&&F3 aqW t.x4 u.x4)=b6
 generalize (decide (t.z9.length=u.z9.length)&&F3 ahZ t.z9 u.z9)=b7
 generalize (decide (t.j5.length=u.j5.length)&&F3 ahJ t.j5 u.j5)=b8
 simp only[bk]
 cases b0;rfl
 cases b1;rfl
 cases b2;rfl
 cases b3;rfl
 cases b4;rfl
 cases b5;rfl
 cases b6;rfl
 cases b7<;>rfl
theorem ajQ(l:List ByteArray):aTq l l=true:=by
 unfold aTq
 rw[decide_eq_true rfl,Bool.true_and]
 exact AK (fun x _=>decide_eq_true rfl)
theorem aQX(t:cW):eqT t t=true:=by
 unfold eqT PV
 rw[AK (p:=aox) (fun x _=>by simp[aox]),AK (p:=aqQ) (fun x _=>by simp[aqQ]),AK (p:=arX) (fun x _=>by simp[arX]),AK (p:=apQ) (fun x _=>by simp[apQ]),AK (p:=aqx) (fun x _=>by simp[aqx]),AK (p:=aqW) (fun x _=>by simp[aqW]),AK (p:=ahZ) (fun x _=>by simp[ahZ,ajQ]),AK (p:=ahJ) (fun x _=>by simp[ahJ,ajQ])]
 simp[aIj]
structure bcJ(t:cW):Prop where
 sl:SpV t.z6
 ne:Nest t.z6
 st:StV t.w4
 sp:0≤t.q0.q5∧t.q0.q5≤t.q0.q8∧t.q0.q8≤1000000000000
theorem a0Q(t:cW)(hz:Siz t)(ht:t.z3.length≤1000000):Ok (lq t) (fun r=>r=0→bcJ t):=by
 have hs:Ok (o4 t.z6) (fun r=>r=0→SpV t.z6∧Nest t.z6):=by
  obtain⟨r,e,h1⟩:=P3 t.z6 hz.sl hz.nSl
  have h2:=(W5 t.z6 hz.sl hz.nSl).of_eq e
  exact⟨r,e,fun e0=>⟨h1 e0,h2 e0⟩⟩
 unfold lq
 refine aq (Q:=fun r=>r=0→(SpV t.z6∧Nest t.z6)∧StV t.w4) ?_ (fun r hr=>?_)
 ·unfold tx
  refine f8 (V8 t hz.th hz.nTh) (fun r hr=>?_) (fun r _=>?_)
  ·exact bX (fun h0=>aV (fun e=>absurd e h0)) (fun h0=>absurd h0 hr)
  ·dsimp only
   refine bX (fun h0=>aV (fun e=>absurd e h0)) (fun _=>?_)
   refine aq hs (fun r4 h4=>?_)
   by_cases h40:r4=0
   ·have hd:=h4 h40
    refine aq (zq _ _ _ hz.sl) (fun r5 _=>?_)
    refine bX (fun h0=>aV (fun e=>absurd e h0)) (fun _=>?_)
    refine aq (NX _ _ ht hz.st) (fun r6 h6=>?_)
    refine bX (fun h0=>aV (fun e=>absurd e h0)) (fun e6=>?_)
    refine aq (PY _ hz.fl) (fun r7 _=>?_)
    refine aq (Aq _ _ _ hz.fl) (fun r8 _=>?_)
    refine aq (Ax _ _ _ hz.fl) (fun r9 _=>?_)
    refine bX (fun h0=>aV (fun e=>absurd e h0)) (fun _=>?_)
    refine aq (L2 _ hz.sa hz.nSa) (fun r10 _=>?_)
    refine aq (xz _ _ _ hz.sa) (fun r11 _=>?_)
    refine bX (fun h0=>aV (fun e=>absurd e h0)) (fun _=>?_)
    refine aq (W7 _ hz.sp hz.nSp) (fun r12 h12=>?_)
    refine bX (fun h0=>aV (fun e=>absurd e h0)) (fun e12=>?_)
    have he:=h12 e12
    refine aq (L5 _ hz.bl hz.nBl) (fun r13 _=>?_)
    refine aq (zx _ _ _ hz.bl) (fun r14 _=>?_)
    refine bX (fun h0=>aV (fun e=>absurd e h0)) (fun _=>?_)
    refine aq (Hx _ _ hz.lo) (fun r15 _=>?_)
    exact aV (fun _=>⟨hd,he⟩)
   ·have:Ok (iQ r4 r.1 t.z6) (fun q=>q=r4):=by
     unfold iQ
     exact bX (fun _=>aV rfl) (fun e=>absurd e h40)
    refine aq this (fun r5 h5=>?_)
    subst h5
    exact bX (fun h0=>aV (fun e=>absurd e h0)) (fun e=>absurd e h40)
 ·refine bX (fun h0=>aV (fun e=>absurd e h0)) (fun e=>?_)
  have hd:=hr e
  refine aq (Q:=fun v=>v=false→0≤t.q0.q5∧t.q0.q5≤t.q0.q8∧t.q0.q8≤1000000000000) ?_ (fun v hv=>?_)
  ·refine a0 (fun _=>aV (by simp)) (fun g1=>?_)
   refine a0 (fun _=>aV (by simp)) (fun g2=>?_)
   exact aV (fun g3=>⟨by omega,by omega,by simpa using g3⟩)
  refine bK (fun _=>aV (fun e=>by omega)) (fun hv0=>?_)
  refine aq (WQ t hz) (fun v _=>?_)
  exact bK (fun _=>aV (fun _=>⟨hd.1.1,hd.1.2,hd.2,hv hv0⟩)) (fun _=>aV (fun _=>⟨hd.1.1,hd.1.2,hd.2,hv hv0⟩))
def noT(l:List i5):cW:={q0:=({q5:=0,q8:=0}:az),z3:=l,z6:=[],j7:=[],v9:=[],z9:=[],w4:=[],j5:=[],x4:=[]}
theorem bbX(t:cW):Ok (sJ t) (fun b=>b=true→t.z3.length≤1000∧t.z6.length≤1000∧t.j7.length≤1000∧t.v9.length≤1000∧t.z9.length≤1000∧t.w4.length≤1000∧t.j5.length≤1000∧t.x4.length≤1000):=by
 unfold sJ
 refine aq (Q:=fun b=>b=true→t.z3.length≤1000∧t.z6.length≤1000∧t.j7.length≤1000∧t.v9.length≤1000∧t.z9.length≤1000∧t.w4.length≤1000∧t.j5.length≤1000∧t.x4.length≤1000) ?_ (fun v hv=>aV hv)
 refine a0 (fun h1=>?_) (fun _=>aV (by simp))
 refine a0 (fun h2=>?_) (fun _=>aV (by simp))
 refine a0 (fun h3=>?_) (fun _=>aV (by simp))
 refine a0 (fun h4=>?_) (fun _=>aV (by simp))
 refine a0 (fun h5=>?_) (fun _=>aV (by simp))
 refine a0 (fun h6=>?_) (fun _=>aV (by simp))
 refine a0 (fun h7=>?_) (fun _=>aV (by simp))
 refine aV (fun h8=>?_)
 have:=of_decide_eq_true h8
 omega
theorem aBJ:oQ=some true:=rfl
theorem bcY{t:cW}(h:rX t)(hf:t.z3.length≤1000∧t.z6.length≤1000∧t.j7.length≤1000∧t.v9.length≤1000∧t.z9.length≤1000∧t.w4.length≤1000∧t.j5.length≤1000∧t.x4.length≤1000):aKY t:=by
 have hz:=aXJ h
 obtain⟨h1,h2,h3,h4,h5,h6,h7,h8⟩:=hf
 exact⟨h1,h2,h3,h4,h5,h6,h7,h8,fun x hx=>by have:=(hz.nSa x hx).1;unfold Shk;omega,fun x hx=>by have:=(hz.nBl x hx).1;unfold Shk;omega⟩
def Dec(x:Option Bool)(p:Prop):Prop:=Ok x (fun b=>b=true↔p)
theorem yq{p:Prop}[Decidable p]:Dec (some (decide p)) p:=aV (by simp)
theorem N4{p:Prop}[Decidable p]:Dec (some (!decide p)) (¬p):=aV (by simp)
theorem DK{p q:Prop}[Decidable p]{y:Option Bool}(h:Dec y q):Dec (bif decide p then y else some false) (p∧q):=by
 obtain⟨b,rfl,hb⟩:=h
 by_cases hp:p
 ·exact⟨b,by simp[hp],by simp[hp,hb]⟩
 ·exact⟨false,by simp[hp],by simp[hp]⟩
theorem B9{p q:Prop}[Decidable p]{y:Option Bool}(h:Dec y q):Dec (bif decide p then some true else y) (p∨q):=by
 obtain⟨b,rfl,hb⟩:=h
 by_cases hp:p
 ·exact⟨true,by simp[hp],by simp[hp]⟩
 ·exact⟨b,by simp[hp],by simp[hp,hb]⟩
theorem ZV{p q:Prop}[Decidable p]{y:Option Bool}(h:Dec y q):Dec (bif !decide p then some true else y) (¬p∨q):=by
 obtain⟨b,rfl,hb⟩:=h
 by_cases hp:p
 ·exact⟨b,by simp[hp],by simp[hp,hb]⟩
 ·exact⟨true,by simp[hp],by simp[hp]⟩
theorem OK{x:Option Bool}{p:Prop}(h:Dec x p):Dec (x.bind fun v=>some v) p:=by
 obtain⟨b,rfl,hb⟩:=h;exact⟨b,rfl,hb⟩
theorem aqY{x:Option Bool}{p:Prop}(h:Dec x p):Dec (x.bind fun v=>some (!v)) (¬p):=by
 obtain⟨b,rfl,hb⟩:=h;exact⟨!b,rfl,by rw[←hb];cases b<;>simp⟩
theorem OV{x y:Option Bool}{p q:Prop}(h:Dec x p)(h2:Dec y q):Dec (x.bind fun r=>bif r then some r else y) (p∨q):=by
 obtain⟨b,rfl,hb⟩:=h
 obtain⟨c,rfl,hc⟩:=h2
 cases b
 ·refine⟨c,rfl,?_⟩
  show c=true↔p∨q
  rw[hc,←hb];simp
 ·refine⟨true,rfl,?_⟩
  show true=true↔p∨q
  rw[←hb];simp
theorem A5{α:Type}{x:Option Bool}{p:Prop}{f g:Option α}{Q:α→Prop}(h:Dec x p)(h1:p→Ok f Q)(h2 : ¬p→Ok g Q):Ok (x.bind fun v=>bif v then f else g) Q:=by
 obtain⟨b,rfl,hb⟩:=h
 cases b
 ·exact h2 (by rw[←hb];simp)
 ·exact h1 (hb.1 rfl)
theorem aoK{α:Type}{x:Option Bool}{p:Prop}{f g:Option α}{Q:α→Prop}(h:Dec x p)(h1 : ¬p→Ok f Q)(h2:p→Ok g Q):Ok (x.bind fun v=>bif !v then f else g) Q:=by
 obtain⟨b,rfl,hb⟩:=h
 cases b
 ·exact h1 (by rw[←hb];simp)
 ·exact h2 (hb.1 rfl)
theorem V2(s:az):Dec (lz s) (0≤s.q5∧s.q5<s.q8∧s.q8≤1000000000000):=by
 rw[sZ];exact yq
theorem Gz{x:Option Bool}{p q:Prop}(h:Dec x p)(e:p↔q):Dec x q:=by
 obtain⟨b,rfl,hb⟩:=h;exact⟨b,rfl,hb.trans e⟩
def pW{α:Type}(P:Nat→α→Prop)(xs:List α):Prop:=∀(i:Nat) y,xs[i]? = some y→P i y
theorem zz{α ρ:Type}{step:Int→Option (Int ⊕ (Unit ⊕ ρ))}(xs:List α)(P:Nat→α→Prop)(E:ρ→Prop)(hl:xs.length≤1000000)
  (h:∀(i:Nat) y,i<xs.length→xs[i]? = some y→Ok (step i) (fun s=>(s = .inl ((i+1:Nat):Int)∧P i y)∨(∃e,E e∧s = .inr (.inr e)∧¬P i y)))
  (h2:step (xs.length:Int)=some (.inr (.inl ()))):∃q,loop step 0=some q∧((q = .inl ()∧pW P xs)∨(∃e,E e∧q = .inr e∧¬pW P xs)):=by
 refine adQ xs.length (fun n=>∀(i:Nat) y,i<n→xs[i]? = some y→P i y) (by omega) (fun i y hi=>by omega) (fun i hI hi=>?_)
 by_cases hlt:i<xs.length
 ·obtain⟨y,hy⟩ : ∃y,xs[i]? = some y:=⟨_,bw hlt⟩
  obtain⟨s,e,hs⟩:=h i y hlt hy
  rw[e]
  rcases hs with⟨rfl,hs⟩ | ⟨r,hr,rfl,hs⟩
  ·refine n5 ⟨hlt,rfl,fun k z hk hz=>?_⟩
   by_cases ek:k=i
   ·subst ek;rw[hy]at hz;cases hz;exact hs
   ·exact hI k z (by omega) hz
  ·exact eW (.inr ⟨r,hr,rfl,fun hg=>hs (hg i y hy)⟩)
 ·have:i=xs.length:=by omega
  subst this
  rw[h2]
  exact eW (.inl ⟨rfl,fun i y hy=>hI i y (dZ hy) hy⟩)
theorem Bj{α:Type}{step:Int→Option (Int ⊕ (Unit ⊕ Int))}{xs:List α}{P:Nat→α→Prop}(h:∃q,loop step 0=some q∧((q = .inl ()∧pW P xs)∨(∃e,e≠0∧q = .inr e∧¬pW P xs))) :
  ((loop step 0).bind fun | .inl _=>some 0 | .inr rv=>some rv)=some 0↔pW P xs:=by
 obtain⟨q,e,h⟩:=h
 rw[e]
 rcases h with⟨rfl,h⟩ | ⟨r,hr,rfl,h⟩
 ·exact⟨fun _=>h,fun _=>rfl⟩
 ·refine⟨fun e=>?_,fun g=>absurd g h⟩
  simp only[bk,ck]at e
  exact absurd e hr
def agQ{α:Type}(R:α→Prop)(rel:α→α→Prop)(xs:List α)(i:Nat)(y:α):Prop:=R y∧∀(j:Nat) x,j+1=i→xs[j]? = some x→rel x y
theorem N9{α:Type}{R:α→Prop}{rel:α→α→Prop}{xs:List α}(tr:∀x y z,rel x y→rel y z→rel x z):pW (agQ R rel xs) xs↔(∀x∈xs,R x)∧xs.Pairwise rel:=by
 constructor
 ·intro h
  refine⟨fun x hx=>?_,?_⟩
  ·obtain⟨i,hi⟩:=List.getElem?_of_mem hx
   exact(h i x hi).1
  ·have chain:∀(k i:Nat) x y,xs[i]? = some x→xs[i+k+1]? = some y→rel x y:=by
    intro k
    induction k with
    | zero=>intro i x y hx hy;exact(h (i+1) y hy).2 i x rfl hx
    | succ k ih =>
     intro i x y hx hy
     have:=dZ hy
     obtain⟨z,hz⟩ : ∃z,xs[i+k+1]? = some z:=⟨_,bw (by omega)⟩
     exact tr _ _ _ (ih i x z hx hz) ((h (i+k+2) y (by rw[←hy];congr 1)).2 (i+k+1) z rfl hz)
   rw[List.pairwise_iff_getElem]
   intro i j hi hj hij
   exact chain (j-i-1) i _ _ (bw hi) (by rw[show i+(j-i-1)+1=j by omega];exact bw hj)
 ·rintro⟨h1,h2⟩ i y hy
  refine⟨h1 y (ew hy),fun j x hj hx=>?_⟩
  have k1:=dZ hx
  have k2:=dZ hy
  have:=List.pairwise_iff_getElem.1 h2 j i k1 k2 (by omega)
  rw[bw k1]at hx
  rw[bw k2]at hy
  rwa [Option.some.inj hx,Option.some.inj hy]at this
theorem Sq{α:Type}{xs:List α}{i:Nat}{f:α→Option Bool}{p:α→Prop}(hi:i<xs.length)(hl:xs.length≤1000000)(h:∀x,Dec (f x) (p x)) :
  Dec (bif decide (0<(i:Int))then((idx xs (w64 ((i:Int)-1))).bind f)else some false) (∃(j:Nat) (x:_),j+1=i∧xs[j]? = some x∧p x):=by
 cases i with
 | zero=>exact⟨false,rfl,by simp⟩
 | succ j =>
  obtain⟨x,hx⟩ : ∃x,xs[j]? = some x:=⟨_,bw (by omega)⟩
  rw[decide_eq_true (by omega:(0:Int)<((j+1:Nat):Int)),cond_true,show w64 (((j+1:Nat):Int)-1)=(j:Int)by rw[bQ (by omega)];omega,dX,hx,bk]
  refine Gz (h x) ⟨fun hp=>⟨j,x,rfl,hx,hp⟩,?_⟩
  rintro⟨k,z,hk,hz,hp⟩
  have:k=j:=by omega
  subst this;rw[hx]at hz;cases hz;exact hp
def adx(n:Int):Prop:=0≤n∧n≤1000000000000000
def aNJ(n:Int):Prop:=0≤n∧n≤1000000000000
def FlR(y:c7):Prop:=(adx y.x6∧adx y.q5.q6∧adx y.q5.w8∧adx y.q8.q6∧adx y.q8.w8∧aNJ y.w9∧aNJ y.v8)∧y.w9≤y.v8
theorem K7(n m:Int):Dec (oJ n m) (¬(0≤n∧n≤m)):=by
 unfold oJ
 exact Gz (OK (B9 yq)) (by omega)
theorem auX(l:List c7)(hl:l.length≤1000000):Cq l=some 0↔(∀y∈l,FlR y)∧l.Pairwise (fun x y=>x.v8≤y.v8):=by
 refine Iff.trans ?_ (N9 (R:=FlR) (rel:=fun x y:c7=>x.v8≤y.v8) (fun x y z h1 h2=>Int.le_trans h1 h2))
 refine Bj (zz l (agQ FlR (fun x y=>x.v8≤y.v8) l) (fun e=>e≠0) hl (fun i y hi hy=>?_) (by unfold Bx;simp))
 unfold Bx
 rw[decide_eq_true (Int.ofNat_lt.2 hi),cond_true,dX,hy,bk,sY (n:=l.length) hi (by omega)]
 have hr:Dec ((oJ y.x6 1000000000000000).bind fun r72=>(bif r72 then some r72 else((oJ y.q5.q6 1000000000000000).bind fun r80=>(bif r80 then some r80 else((oJ y.q5.w8 1000000000000000).bind fun r81=>(bif r81 then some r81 else((oJ y.q8.q6 1000000000000000).bind fun r82=>(bif r82 then some r82 else((oJ y.q8.w8 1000000000000000).bind fun r83=>(bif r83 then some r83 else((oJ y.w9 1000000000000).bind fun r84=>(bif r84 then some r84 else((oJ y.v8 1000000000000).bind fun r85=>some r85))))))))))))) (¬(adx y.x6∧adx y.q5.q6∧adx y.q5.w8∧adx y.q8.q6∧adx y.q8.w8∧aNJ y.w9∧aNJ y.v8)) :=
  Gz (OV (K7 _ _) (OV (K7 _ _) (OV (K7 _ _) (OV (K7 _ _) (OV (K7 _ _) (OV (K7 _ _) (OK (K7 _ _)))))))) (by unfold adx aNJ;omega)
 rw[←Option.bind_assoc]
 refine A5 hr (fun g=>aV (.inr ⟨2,by omega,rfl,fun h=>g h.1.1⟩)) (fun g=>?_)
 have g:=Classical.not_not.1 g
 refine A5 (p:=y.v8<y.w9∨∃(j:Nat) (x:_),j+1=i∧l[j]? = some x∧y.v8<x.v8) ?_ (fun g2=>aV (.inr ⟨11,by omega,rfl,fun h=>?_⟩)) (fun g2=>aV (.inl ⟨rfl,⟨g,by omega⟩,fun j x hj hx=>?_⟩))
 ·by_cases g3:y.v8<y.w9
  ·exact⟨true,by simp[g3],by simp[g3]⟩
  ·rw[lk g3,cond_false]
   exact Gz (Sq hi hl (fun x=>yq)) (by simp[g3])
 ·rcases g2 with g2 | ⟨j,x,hj,hx,hlt⟩
  ·have:=h.1.2;omega
  ·have:=h.2 j x hj hx;omega
 ·by_cases g3:y.v8<x.v8
  ·exact absurd (.inr ⟨j,x,hj,hx,g3⟩) g2
  ·omega
def SaR(y:bY):Prop:=(0≤y.q6∧y.q6≤1000000000000000∧0≤y.j9∧y.j9≤1000000000000∧1≤y.w5∧y.w5≤1000000000000)∧qW y.j4=some 0
theorem aRY(y:bY):Dec (zZ y) (0≤y.q6∧y.q6≤1000000000000000∧0≤y.j9∧y.j9≤1000000000000∧1≤y.w5∧y.w5≤1000000000000):=by
 unfold zZ
 exact OK (DK (DK (DK (DK (DK yq)))))
theorem acX(l:List bY)(hl:l.length≤1000000)(hx:∀x∈l,x.j4.length≤9223372036854775807∧∀y∈x.j4,okN y):wZ l=some 0↔(∀y∈l,SaR y)∧l.Pairwise (fun x y=>x.j9≤y.j9):=by
 refine Iff.trans ?_ (N9 (R:=SaR) (rel:=fun x y:bY=>x.j9≤y.j9) (fun x y z h1 h2=>Int.le_trans h1 h2))
 refine Bj (zz l (agQ SaR (fun x y=>x.j9≤y.j9) l) (fun e=>e≠0) hl (fun i y hi hy=>?_) (by unfold xq;simp))
 unfold xq
 rw[decide_eq_true (Int.ofNat_lt.2 hi),cond_true,dX,hy,bk,sY (n:=l.length) hi (by omega)]
 refine aoK (aRY y) (fun g=>aV (.inr ⟨2,by omega,rfl,fun h=>g h.1.1⟩)) (fun g=>?_)
 obtain⟨r,e,_⟩:=rJ y.j4 (hx y (ew hy)).1 (hx y (ew hy)).2
 rw[e,bk]
 refine bX (fun h0=>aV (.inr ⟨r,h0,rfl,fun h=>?_⟩)) (fun h0=>?_)
 ·have:=h.1.2;rw[e]at this;cases this;exact h0 rfl
 ·subst h0
  refine A5 (Sq hi hl (fun x=>yq)) (fun g2=>aV (.inr ⟨11,by omega,rfl,fun h=>?_⟩)) (fun g2=>aV (.inl ⟨rfl,⟨g,e⟩,fun j x hj hx=>?_⟩))
  ·obtain⟨j,x,hj,hx,hlt⟩:=g2
   have:=h.2 j x hj hx;omega
  ·by_cases g3:y.j9<x.j9
   ·exact absurd ⟨j,x,hj,hx,g3⟩ g2
   ·omega
def StR(y:bJ):Prop:=rz y.q7=some 0∧(0≤y.j9∧y.j9≤1000000000000∧-1000000000000000≤y.j6∧y.j6≤1000000000000000)
def aFz(x y:bJ):Prop:=stL x y∧¬(x.q7=y.q7∧x.j6=y.j6)
theorem a2X(x y:bJ):∃r,rQ x y=some r∧(0≤r↔¬stL x y):=by
 refine⟨orI [if sLt x.q7 y.q7 then -1 else if sLt y.q7 x.q7 then 1 else 0,if x.j9<y.j9 then -1 else if y.j9<x.j9 then 1 else 0],?_,?_⟩
 ·unfold rQ
  rw[aJz,bk,Z2,bk,UV _ (Nat.le_of_ble_eq_true rfl),bk]
 ·have e3:=Tx x.q7 y.q7
  unfold stL
  simp only[orI]
  cases s1:sLt x.q7 y.q7 with
  | true=>simp
  | false =>
   cases s2:sLt y.q7 x.q7 with
   | true =>
    have : ¬x.q7=y.q7:=fun e=>by rw[e]at s2;exact absurd rfl (Kx s2).2
    simp[this]
   | false =>
    rw[s1,s2]at e3
    have e4:x.q7=y.q7:=by simpa using e3
    by_cases g3:x.j9<y.j9
    ·simp[e4,g3]
    ·by_cases g4:y.j9<x.j9<;>simp[e4,g3,g4]
theorem M5(l:List bJ)(hl:l.length≤1000000)(hx:∀x∈l,okN x.q7):oY l=some 0↔pW (agQ StR aFz l) l:=by
 refine Bj (zz l (agQ StR aFz l) (fun e=>e≠0) hl (fun i y hi hy=>?_) (by unfold rZ;simp))
 unfold rZ
 rw[decide_eq_true (Int.ofNat_lt.2 hi),cond_true,dX,hy,bk,sY (n:=l.length) hi (by omega)]
 obtain⟨r,e,_⟩:=l7 y.q7 (hx y (ew hy))
 rw[e,bk]
 refine bX (fun h0=>aV (.inr ⟨r,h0,rfl,fun h=>?_⟩)) (fun h0=>?_)
 ·have:=h.1.1;rw[e]at this;cases this;exact h0 rfl
 ·subst h0
  refine A5 (p:=¬(0≤y.j9∧y.j9≤1000000000000∧-1000000000000000≤y.j6∧y.j6≤1000000000000000)) ?_ (fun g=>aV (.inr ⟨2,by omega,rfl,fun h=>g h.1.2⟩)) (fun g=>?_)
  ·refine Gz (B9 (B9 (aqY (p:=-1000000000000000≤y.j6∧y.j6≤1000000000000000) ?_))) (by omega)
   unfold WY
   exact OK (DK yq)
  have g:=Classical.not_not.1 g
  refine A5 (p:=∃(j:Nat) (x:bJ),j+1=i∧l[j]? = some x∧¬aFz x y) ?_ (fun g2=>aV (.inr ⟨11,by omega,rfl,fun h=>?_⟩)) (fun g2=>aV (.inl ⟨rfl,⟨e,g⟩,fun j x hj hx=>?_⟩))
  ·cases i with
   | zero=>exact⟨false,rfl,by simp⟩
   | succ j =>
    obtain⟨x,hxj⟩ : ∃x,l[j]? = some x:=⟨_,bw (by omega)⟩
    rw[decide_eq_true (by omega:(0:Int)<((j+1:Nat):Int)),cond_true,show w64 (((j+1:Nat):Int)-1)=(j:Int)by rw[bQ (by omega)];omega,dX,hxj]
    simp only[bk]
    obtain⟨q,e2,hq⟩:=a2X x y
    rw[e2,bk]
    refine Gz (B9 (DK yq)) ⟨fun h=>⟨j,x,rfl,hxj,fun h2=>?_⟩,?_⟩
    ·rcases h with h | h
     ·exact hq.1 h h2.1
     ·exact h2.2 h
    ·rintro⟨k,z,hk,hz,hn⟩
     have:k=j:=by omega
     subst this;rw[hxj]at hz;cases hz
     by_cases h:0≤q
     ·exact .inl h
     ·refine .inr ?_
      have:stL x y:=Classical.not_not.1 (fun h2=>h (hq.2 h2))
      exact Classical.not_not.1 (fun h2=>hn ⟨this,h2⟩)
  ·obtain⟨j,x,hj,hx,hlt⟩:=g2
   exact hlt (h.2 j x hj hx)
  ·exact Classical.not_not.1 (fun h=>g2 ⟨j,x,hj,hx,h⟩)
def BlR(y:cz):Prop:=((0≤y.x6∧y.x6≤1000000000000000∧0≤y.q6∧y.q6≤1000000000000000∧1≤y.x5∧y.x5≤1000000000000)∧(0≤y.q0.q5∧y.q0.q5<y.q0.q8∧y.q0.q8≤1000000000000))∧qW y.j4=some 0
def blB(x y:cz):Prop:=x.x6=y.x6∧x.q0.q5<y.q0.q8∧y.q0.q5<x.q0.q8
def blP(l:List cz)(i:Nat)(y:cz):Prop:=agQ BlR (fun x y=>x.q0.q5≤y.q0.q5) l i y∧∀x∈l.take i,¬blB x y
theorem a7W(y:cz)(xs:List cz)(hl:xs.length≤1000000):∃q,loop (sW y xs) 0=some q∧((q = .inl ()∧pW (fun _ x=>¬blB x y) xs)∨(∃e,e=(Sum.inr (Sum.inr 4):Int ⊕ (Unit ⊕ Int))∧q = .inr e∧¬pW (fun _ x=>¬blB x y) xs)):=by
 refine zz xs (fun _ x=>¬blB x y) (fun e=>e=(Sum.inr (Sum.inr 4):Int ⊕ (Unit ⊕ Int))) hl (fun i x hi hx=>?_) (by unfold sW;simp)
 unfold sW
 rw[decide_eq_true (Int.ofNat_lt.2 hi),cond_true,dX,hx,bk,sY (n:=xs.length) hi (by omega)]
 refine A5 (DK (DK yq)) (fun g=>aV (.inr ⟨_,rfl,rfl,fun h=>h g⟩)) (fun g=>aV (.inl ⟨rfl,g⟩))
theorem afJ(l:List cz)(hl:l.length≤1000000)(hx:∀x∈l,x.j4.length≤9223372036854775807∧∀y∈x.j4,okN y):vX l=some 0↔pW (blP l) l:=by
 refine Bj (zz l (blP l) (fun e=>e≠0) hl (fun i y hi hy=>?_) (by unfold wV;simp))
 unfold wV
 rw[decide_eq_true (Int.ofNat_lt.2 hi),cond_true,dX,hy,bk,sY (n:=l.length) hi (by omega)]
 refine A5 (p:=¬((0≤y.x6∧y.x6≤1000000000000000∧0≤y.q6∧y.q6≤1000000000000000∧1≤y.x5∧y.x5≤1000000000000)∧(0≤y.q0.q5∧y.q0.q5<y.q0.q8∧y.q0.q8≤1000000000000))) (Gz (B9 (B9 (B9 (B9 (B9 (B9 (aqY (V2 _)))))))) (by omega)) (fun g=>aV (.inr ⟨2,by omega,rfl,fun h=>g h.1.1.1⟩)) (fun g=>?_)
 have g:=Classical.not_not.1 g
 obtain⟨r,e,_⟩:=rJ y.j4 (hx y (ew hy)).1 (hx y (ew hy)).2
 rw[e,bk]
 refine bX (fun h0=>aV (.inr ⟨r,h0,rfl,fun h=>?_⟩)) (fun h0=>?_)
 ·have:=h.1.1.2;rw[e]at this;cases this;exact h0 rfl
 ·subst h0
  refine A5 (Sq hi hl (fun x=>yq)) (fun g2=>aV (.inr ⟨11,by omega,rfl,fun h=>?_⟩)) (fun g2=>?_)
  ·obtain⟨j,x,hj,hx,hlt⟩:=g2
   have:=h.1.2 j x hj hx;omega
  ·have hsl:N2 l 0 (i:Int)=some (l.take i):=by
    unfold N2;rw[if_pos ⟨by omega,by omega,by omega⟩];rfl
   rw[hsl,bk]
   obtain⟨q,e3,hq⟩:=a7W y (l.take i) (by rw[uk];omega)
   rw[e3]
   have adj:agQ BlR (fun x y=>x.q0.q5≤y.q0.q5) l i y:=⟨⟨g,e⟩,fun j x hj hx=>by
    by_cases g3:y.q0.q5<x.q0.q5
    ·exact absurd ⟨j,x,hj,hx,g3⟩ g2
    ·omega⟩
   rcases hq with⟨rfl,hq⟩ | ⟨e4,he4,rfl,hq⟩
   ·refine aV (.inl ⟨rfl,adj,fun x hx=>?_⟩)
    obtain⟨k,hk⟩:=List.getElem?_of_mem hx
    exact hq k x hk
   ·subst he4
    refine aV (.inr ⟨4,by omega,rfl,fun h=>hq (fun k x hk=>h.2 x (ew hk))⟩)
def LoR(ids:List (Int×ByteArray))(y:fJ):Prop:=(Option.isSome (nY y.q6 ids)=true)∧(0≤y.q0.q5∧y.q0.q5<y.q0.q8∧y.q0.q8≤1000000000000)∧1≤y.w6∧y.w6≤1000000000000000
theorem agV(ids:List (Int×ByteArray))(l:List fJ)(hl:l.length≤1000000):qj ids l=some 0↔pW (fun _ y=>LoR ids y) l:=by
 refine Bj (zz l (fun _ y=>LoR ids y) (fun e=>e≠0) hl (fun i y hi hy=>?_) (by unfold sj;simp))
 unfold sj
 rw[decide_eq_true (Int.ofNat_lt.2 hi),cond_true,dX,hy,bk,sY (n:=l.length) hi (by omega)]
 refine dq (fun g=>aV (.inr ⟨5,by omega,rfl,fun h=>by rw[h.1]at g;cases g⟩)) (fun g=>?_)
 rw[aMq,bk]
 refine bX (fun g2=>aV (.inr ⟨2,by omega,rfl,fun h=>g2 h.2⟩)) (fun g2=>aV (.inl ⟨rfl,g,g2⟩))
theorem ayz(ids:List (Int×ByteArray))(l:List aX)(hl:l.length≤1000000):iQ 0 ids l=some 0↔pW (fun _ y=>Option.isSome (nY y.q6 ids)=true) l:=by
 refine Bj (zz l (fun _ y=>Option.isSome (nY y.q6 ids)=true) (fun e=>e≠0) hl (fun i y hi hy=>?_) (by unfold mz;simp))
 unfold mz Az
 rw[decide_eq_true (Int.ofNat_lt.2 hi),cond_true,dX,hy,bk,bk,sY (n:=l.length) hi (by omega)]
 exact dq (fun g=>aV (.inr ⟨5,by omega,rfl,fun h=>by rw[h]at g;cases g⟩)) (fun g=>aV (.inl ⟨rfl,g⟩))
theorem amQ(ids:List (Int×ByteArray))(l:List c7)(hl:l.length≤1000000):kJ 0 ids l=some 0↔pW (fun _ y=>Option.isSome (nY y.q5.q6 ids)=true) l:=by
 refine Bj (zz l (fun _ y=>Option.isSome (nY y.q5.q6 ids)=true) (fun e=>e≠0) hl (fun i y hi hy=>?_) (by unfold m7;simp))
 unfold m7 Aj
 rw[decide_eq_true (Int.ofNat_lt.2 hi),cond_true,dX,hy,bk,bk,sY (n:=l.length) hi (by omega)]
 exact dq (fun g=>aV (.inr ⟨5,by omega,rfl,fun h=>by rw[h]at g;cases g⟩)) (fun g=>aV (.inl ⟨rfl,g⟩))
theorem amV(ids:List (Int×ByteArray))(l:List c7)(hl:l.length≤1000000):kj 0 ids l=some 0↔pW (fun _ y=>Option.isSome (nY y.q8.q6 ids)=true) l:=by
 refine Bj (zz l (fun _ y=>Option.isSome (nY y.q8.q6 ids)=true) (fun e=>e≠0) hl (fun i y hi hy=>?_) (by unfold mK;simp))
 unfold mK zW
 rw[decide_eq_true (Int.ofNat_lt.2 hi),cond_true,dX,hy,bk,bk,sY (n:=l.length) hi (by omega)]
 exact dq (fun g=>aV (.inr ⟨5,by omega,rfl,fun h=>by rw[h]at g;cases g⟩)) (fun g=>aV (.inl ⟨rfl,g⟩))
theorem axj(ids:List (Int×ByteArray))(l:List bY)(hl:l.length≤1000000):jZ 0 ids l=some 0↔pW (fun _ y=>Option.isSome (nY y.q6 ids)=true) l:=by
 refine Bj (zz l (fun _ y=>Option.isSome (nY y.q6 ids)=true) (fun e=>e≠0) hl (fun i y hi hy=>?_) (by unfold lV;simp))
 unfold lV AV
 rw[decide_eq_true (Int.ofNat_lt.2 hi),cond_true,dX,hy,bk,bk,sY (n:=l.length) hi (by omega)]
 exact dq (fun g=>aV (.inr ⟨5,by omega,rfl,fun h=>by rw[h]at g;cases g⟩)) (fun g=>aV (.inl ⟨rfl,g⟩))
theorem avK(ids:List (Int×ByteArray))(l:List cz)(hl:l.length≤1000000):jK 0 ids l=some 0↔pW (fun _ y=>Option.isSome (nY y.q6 ids)=true) l:=by
 refine Bj (zz l (fun _ y=>Option.isSome (nY y.q6 ids)=true) (fun e=>e≠0) hl (fun i y hi hy=>?_) (by unfold mZ;simp))
 unfold mZ zX
 rw[decide_eq_true (Int.ofNat_lt.2 hi),cond_true,dX,hy,bk,bk,sY (n:=l.length) hi (by omega)]
 exact dq (fun g=>aV (.inr ⟨5,by omega,rfl,fun h=>by rw[h]at g;cases g⟩)) (fun g=>aV (.inl ⟨rfl,g⟩))
def kls(a b:aX):Prop:=a.q0.q5<b.q0.q5∨(a.q0.q5=b.q0.q5∧(b.q0.q8<a.q0.q8∨(b.q0.q8=a.q0.q8∧a.q6<b.q6)))
theorem aKZ(a b:aX):∃c,rq a b=some c∧(0<c↔kls b a):=by
 refine⟨orI [if a.q0.q5<b.q0.q5 then -1 else if b.q0.q5<a.q0.q5 then 1 else 0,if b.q0.q8<a.q0.q8 then -1 else if a.q0.q8<b.q0.q8 then 1 else 0,if a.q6<b.q6 then -1 else if b.q6<a.q6 then 1 else 0],?_,?_⟩
 ·unfold rq
  simp only[Z2,bk]
  rw[UV _ (Nat.le_of_ble_eq_true rfl),bk]
 ·simp only[orI,kls]
  repeat' split
  all_goals omega
def SlR(y:aX):Prop:=(0≤y.q6∧y.q6≤1000000000000000∧(0≤y.q0.q5∧y.q0.q5<y.q0.q8∧y.q0.q8≤1000000000000))∧rz y.q7=some 0
theorem aDz(l:List aX)(hl:l.length≤1000000):Ok (qV l) (fun b=>b=true↔Nest l):=by
 obtain⟨q,e,hq⟩:=zz (step:=qQ l) l (aaz l) (fun e:Bool=>e=false) hl (fun i y hi hy=>by
  unfold qQ
  rw[decide_eq_true (Int.ofNat_lt.2 hi),cond_true,dX,hy,bk,sY (n:=l.length) hi (by omega)]
  refine A5 (B9 yq) (fun g=>aV (.inr ⟨false,rfl,rfl,fun h=>?_⟩)) (fun g=>?_)
  ·rcases h with⟨e1,_⟩ | ⟨p,z,e1,hp,_⟩<;>omega
  ·refine a0 (fun e1=>?_) (fun e1=>?_)
   ·refine bX (fun e2=>aV (.inr ⟨false,rfl,rfl,fun h=>?_⟩)) (fun e2=>aV (.inl ⟨rfl,.inl ⟨e1,e2⟩⟩))
    rcases h with⟨_,e3⟩ | ⟨p,z,e3,hp,_⟩
    ·exact e2 e3
    ·omega
   ·obtain⟨p,hp⟩:=Int.eq_ofNat_of_zero_le (show 0≤y.z2 by omega)
    obtain⟨z,hz⟩ : ∃z,l[p]? = some z:=⟨_,bw (by omega)⟩
    rw[hp,dX,hz,bk]
    refine A5 (ZV (B9 (B9 N4))) (fun g2=>aV (.inr ⟨false,rfl,rfl,fun h=>?_⟩)) (fun g2=>aV (.inl ⟨rfl,.inr ⟨p,z,hp,by omega,hz,?_⟩⟩))
    ·rcases h with⟨e3,_⟩ | ⟨p',z',e3,hp',hz',h1,h2,h3,h4⟩
     ·omega
     ·have:p=p':=by omega
      subst this;rw[hz]at hz';cases hz'
      rcases g2 with g2 | g2 | g2 | g2
      ·exact g2 h1
      ·omega
      ·omega
      ·exact g2 h4
    ·simp only[not_or,Classical.not_not]at g2
     exact⟨g2.1,by omega,by omega,g2.2.2.2⟩) (by unfold qQ;simp)
 unfold qV
 rw[e]
 rcases hq with⟨rfl,hq⟩ | ⟨r,hr,rfl,hq⟩
 ·exact aV ⟨fun _=>hq,fun _=>rfl⟩
 ·exact aV ⟨fun h=>(by rw[hr]at h;cases h),fun h=>absurd h hq⟩
theorem amX(l:List aX)(hl:l.length≤1000000)(hx:∀x∈l,okN x.q7):o4 l=some 0↔((∀y∈l,SlR y)∧l.Pairwise (fun x y=>¬kls y x))∧Nest l∧L8 l:=by
 rw[←N9 (R:=SlR) (rel:=fun x y=>¬kls y x) (fun x y z h1 h2=>by unfold kls at *;omega)]
 obtain⟨q,e,hq⟩:=zz (step:=sq l) l (agQ SlR (fun x y=>¬kls y x) l) (fun e:Int=>e≠0) hl (fun i y hi hy=>by
  unfold sq
  rw[decide_eq_true (Int.ofNat_lt.2 hi),cond_true,dX,hy,bk,sY (n:=l.length) hi (by omega)]
  refine A5 (p:=¬(0≤y.q6∧y.q6≤1000000000000000∧(0≤y.q0.q5∧y.q0.q5<y.q0.q8∧y.q0.q8≤1000000000000))) (Gz (B9 (B9 (aqY (V2 _)))) (by omega)) (fun g=>aV (.inr ⟨2,by omega,rfl,fun h=>g h.1.1⟩)) (fun g=>?_)
  have g:=Classical.not_not.1 g
  obtain⟨r,e,_⟩:=l7 y.q7 (hx y (ew hy))
  rw[e,bk]
  refine bX (fun h0=>aV (.inr ⟨r,h0,rfl,fun h=>?_⟩)) (fun h0=>?_)
  ·have:=h.1.2;rw[e]at this;cases this;exact h0 rfl
  ·subst h0
   refine A5 (Sq (f:=fun y58=>(rq y58 y).bind fun r59=>some (decide (0<r59))) (p:=fun x=>kls y x) hi hl (fun x=>?_)) (fun g2=>aV (.inr ⟨11,by omega,rfl,fun h=>?_⟩)) (fun g2=>aV (.inl ⟨rfl,⟨g,e⟩,fun j x hj hx hk=>g2 ⟨j,x,hj,hx,hk⟩⟩))
   ·obtain⟨c,e2,hc⟩:=aKZ x y
    rw[e2,bk]
    exact Gz yq hc
   ·obtain⟨j,x,hj,hx,hk⟩:=g2
    exact h.2 j x hj hx hk) (by unfold sq;simp)
 unfold o4
 rw[e]
 rcases hq with⟨rfl,hq⟩ | ⟨r,hr,rfl,hq⟩
 ·obtain⟨b,e1,h1⟩:=aDz l hl
  simp only[bk]
  rw[e1,bk]
  cases b with
  | false =>
   refine⟨fun h=>by simp at h,fun h=>?_⟩
   have:=h1.2 h.2.1
   cases this
  | true =>
   have hN:=h1.1 rfl
   obtain⟨b2,e2,h2⟩:=aXV l (by omega) hN.up
   rw[e2]
   cases b2 with
   | false =>
    refine⟨fun h=>by simp at h,fun h=>?_⟩
    have:=h2.2 h.2.2
    cases this
   | true=>exact⟨fun _=>⟨hq,hN,h2.1 rfl⟩,fun _=>rfl⟩
 ·simp only[bk,ck]
  exact⟨fun h=>absurd h hr,fun h=>absurd h.1 hq⟩
def kx(ix:List Int)(a:Int):Int:=(eZ ix a).getD 0
theorem aSz(ix:List Int)(a:Int)(h:ix.length≤1000000):eZ ix a=some (kx ix a)∧(kx ix a = -1∨0≤kx ix a)∧kx ix a<ix.length∧(0≤kx ix a→ix[(kx ix a).toNat]? = some a):=by
 obtain⟨r,e,h1,h2⟩:=aNZ ix a (by omega)
 have h3:=(p9 ix a (by omega)).of_eq e
 unfold kx
 rw[e]
 exact⟨rfl,h1,h2,h3.1⟩
theorem a7x{ix:List Int}{a b:Int}(h:ix.length≤1000000)(ha:0≤kx ix a)(e:kx ix a=kx ix b):a=b:=by
 have h1:=(aSz ix a h).2.2.2 ha
 have h2:=(aSz ix b h).2.2.2 (e▸ha)
 rw[e,h2]at h1
 exact(Option.some.inj h1).symm
def anK(x y:bj):Prop:=x.j8=y.j8∧x.x7=y.x7∧x.g8=y.g8
theorem aVQ(x y:bj):Dec (Cz x y) (anK x y):=by
 unfold Cz anK
 exact OK (DK (DK yq))
theorem aXX(y:bj):Dec (n7 y) (n7 y=some true):=by
 obtain⟨b,e,_⟩:=L4 y
 rw[e]
 exact aV (by simp)
def StO(ix:List Int)(y:bj):Prop:=0≤kx ix y.q6∧(0≤y.q0.q5∧y.q0.q5<y.q0.q8∧y.q0.q8≤1000000000000)∧n7 y=some true
def Rst(ix:List Int)(x y:bj):Prop:=(kx ix x.q6=kx ix y.q6∧y.q0.q5=x.q0.q8∧¬anK y x)∨(kx ix y.q6=kx ix x.q6+1∧y.q0.q5=0)
def P2(ix:List Int)(l:List bj)(i:Nat)(y:bj):Prop:=StO ix y∧(i=0→kx ix y.q6=0∧y.q0.q5=0)∧∀(j:Nat) x,j+1=i→l[j]? = some x→Rst ix x y
def atK(ix:List Int)(l:List bj):Nat→Int
 | 0=>-1
 | i+1 => match l[i]? with | some x => kx ix x.q6 | none => -1
theorem a6Q(ix:List Int)(l:List bj)(hx:ix.length≤1000000)(hl:l.length≤1000000):Ok (loop (AZ l ix) (-1,0)) (fun q=>(q = .inl (atK ix l l.length)∧pW (P2 ix l) l)∨(∃e,e≠0∧q = .inr e∧¬pW (P2 ix l) l)):=by
 refine Lz l.length (fun a i=>a=atK ix l i∧∀(j:Nat) y,j<i→l[j]? = some y→P2 ix l j y) (by omega) ⟨rfl,fun j y h=>by omega⟩ (fun a i hI h2=>?_)
 obtain⟨rfl,hI⟩:=hI
 unfold AZ
 dsimp only
 refine a0 (fun hi=>?_) (fun hi=>eW (.inl ⟨by rw[show i=l.length by omega],fun j y hy=>hI j y (by have:=dZ hy;omega) hy⟩))
 have hi':i<l.length:=by omega
 obtain⟨y,hy⟩ : ∃y,l[i]? = some y:=⟨_,bw hi'⟩
 obtain⟨k1,k2,k3,k4⟩:=aSz ix y.q6 hx
 have bad:∀e:Int,e≠0→¬P2 ix l i y→Ok (some (.inr (.inr e)):Option ((Int×Int) ⊕ (Int ⊕ Int))) (tq (fun a=>i<l.length∧a.2=((i+1:Nat):Int)∧a.1=atK ix l (i+1)∧∀(j:Nat) y,j<i+1→l[j]? = some y→P2 ix l j y) (fun q=>(q = .inl (atK ix l l.length)∧pW (P2 ix l) l)∨(∃e,e≠0∧q = .inr e∧¬pW (P2 ix l) l))):=fun e he hn=>eW (.inr ⟨e,he,rfl,fun h=>hn (h i y hy)⟩)
 rw[dX,hy,bk,k1,bk,sY (n:=l.length) hi' (by omega)]
 refine a0 (fun g=>bad 5 (by omega) (fun h=>by have:=h.1.1;omega)) (fun g0=>?_)
 refine aoK (V2 _) (fun g=>bad 2 (by omega) (fun h=>g h.1.2.1)) (fun g1=>?_)
 refine aoK (aXX y) (fun g=>bad 1 (by omega) (fun h=>g h.1.2.2)) (fun g2=>?_)
 have so:StO ix y:=⟨by omega,g1,g2⟩
 have good:P2 ix l i y→Ok (some (.inl (kx ix y.q6,((i+1:Nat):Int))):Option ((Int×Int) ⊕ (Int ⊕ Int))) (tq (fun a=>i<l.length∧a.2=((i+1:Nat):Int)∧a.1=atK ix l (i+1)∧∀(j:Nat) y,j<i+1→l[j]? = some y→P2 ix l j y) (fun q=>(q = .inl (atK ix l l.length)∧pW (P2 ix l) l)∨(∃e,e≠0∧q = .inr e∧¬pW (P2 ix l) l))):=fun hp=>n5 ⟨hi',rfl,by simp[atK,hy],fun j z hj hz=>by
  by_cases e:j=i
  ·subst e;rw[hy]at hz;cases hz;exact hp
  ·exact hI j z (by omega) hz⟩
 cases i with
 | zero =>
  rw[show atK ix l 0 = -1 from rfl,lk (by omega : ¬kx ix y.q6 = -1)]
  simp only[cond_false,bk,Bool.not_false,cond_true]
  rw[show w64 ((-1:Int)+1)=0 by rw[bQ (by omega)];omega]
  refine A5 (p:=¬kx ix y.q6=0∨¬y.q0.q5=0) (ZV N4) (fun g=>bad 11 (by omega) (fun h=>?_)) (fun g=>good ⟨so,fun _=>?_,fun j x hj=>by omega⟩)
  ·have:=h.2.1 rfl;omega
  ·omega
 | succ j =>
  obtain⟨x,hxj⟩ : ∃x,l[j]? = some x:=⟨_,bw (by omega)⟩
  have ea:atK ix l (j+1)=kx ix x.q6:=by simp[atK,hxj]
  have hxk:=(hI j x (by omega) hxj).1.1
  have hxl:=(aSz ix x.q6 hx).2.2.1
  rw[ea,show w64 (((j+1:Nat):Int)-1)=(j:Int)by rw[bQ (by omega)];omega,dX,hxj]
  simp only[bk]
  have toP:Rst ix x y→P2 ix l (j+1) y:=fun h=>⟨so,fun e=>by omega,fun k z hk hz=>by
   have:k=j:=by omega
   subst this;rw[hxj]at hz;cases hz;exact h⟩
  have ofP:P2 ix l (j+1) y→Rst ix x y:=fun h=>h.2.2 j x rfl hxj
  by_cases e:kx ix y.q6=kx ix x.q6
  ·rw[decide_eq_true e]
   simp only[cond_true,Bool.not_true,cond_false]
   refine A5 (p:=¬y.q0.q5=x.q0.q8∨anK y x) (ZV (OK (aVQ y x))) (fun g=>bad 11 (by omega) (fun h=>?_)) (fun g=>?_)
   ·rcases ofP h with h | h
    ·rcases g with g | g
     ·exact g h.2.1
     ·exact h.2.2 g
    ·omega
   ·rw[bk,cond_false]
    rw[not_or,Classical.not_not]at g
    exact good (toP (.inl ⟨e.symm,g.1,g.2⟩))
  ·rw[lk e]
   simp only[cond_false,Bool.not_false,cond_true,bk]
   rw[bQ (n:=kx ix x.q6+1) (by omega)]
   refine A5 (p:=¬kx ix y.q6=kx ix x.q6+1∨¬y.q0.q5=0) (ZV N4) (fun g=>bad 11 (by omega) (fun h=>?_)) (fun g=>good (toP (.inr ⟨?_,?_⟩)))
   ·rcases ofP h with h | h<;>omega
   ·omega
   ·omega
def P1(l:List bj)(E:Int)(i:Nat)(y:bj):Prop:=(∀z,l[i+1]? = some z→¬z.q6=y.q6)→y.q0.q8=E
theorem a6J(l:List bj)(u:bj)(hl:l.length≤1000000):∃q,loop (uZ l u) 0=some q∧((q = .inl ()∧pW (P1 l u.q0.q8) l)∨(∃e,e≠0∧q = .inr e∧¬pW (P1 l u.q0.q8) l)):=by
 refine zz l (P1 l u.q0.q8) (fun e:Int=>e≠0) hl (fun i y hi hy=>?_) (by unfold uZ;simp)
 unfold uZ
 rw[decide_eq_true (Int.ofNat_lt.2 hi),cond_true,dX,hy,bk,sY (n:=l.length) hi (by omega)]
 refine aq (Q:=fun b=>b=true↔∀z,l[i+1]? = some z→¬z.q6=y.q6) ?_ (fun b hb=>?_)
 ·refine a0 (fun g=>aV ?_) (fun g=>?_)
  ·have:l[i+1]? = none:=List.getElem?_eq_none (by omega)
   rw[this];simp
  ·obtain⟨z,hz⟩ : ∃z,l[i+1]? = some z:=⟨_,bw (by omega)⟩
   rw[dX,hz,bk]
   exact aV (by simp)
 ·cases b with
  | false =>
   rw[cond_false,bk,cond_false]
   refine aV (.inl ⟨rfl,fun h=>?_⟩)
   have:=hb.2 h
   cases this
  | true =>
   rw[cond_true]
   refine A5 N4 (fun g=>aV (.inr ⟨11,by omega,rfl,fun h=>g (h (hb.1 rfl))⟩)) (fun g=>aV (.inl ⟨rfl,fun _=>Classical.not_not.1 g⟩))
def SVs(ix:List Int)(E n:Int):Option bj→List bj→Prop
 | none,[]=>True
 | some x,[]=>kx ix x.q6+1=n∧x.q0.q8=E
 | none,y::r=>StO ix y∧(kx ix y.q6=0∧y.q0.q5=0)∧SVs ix E n (some y) r
 | some x,y::r=>StO ix y∧((kx ix x.q6=kx ix y.q6∧y.q0.q5=x.q0.q8∧¬anK y x)∨(kx ix y.q6=kx ix x.q6+1∧y.q0.q5=0∧x.q0.q8=E))∧SVs ix E n (some y) r
theorem aPY{ix:List Int}{l:List bj}{E:Int}(hx:ix.length≤1000000)(h2:pW (P2 ix l) l)(h1:pW (P1 l E) l)(h3:atK ix l l.length+1=(ix.length:Int)):∀(k i:Nat),i+k=l.length→0<l.length→SVs ix E ix.length (if i=0 then none else l[i-1]?) (l.drop i)
 | 0,i,e,hl=>by
  rw[List.drop_eq_nil_of_le (by omega),if_neg (by omega)]
  obtain⟨x,hxi⟩ : ∃x,l[i-1]? = some x:=⟨_,bw (by omega)⟩
  rw[hxi]
  refine⟨?_,h1 (i-1) x hxi (fun z hz=>?_)⟩
  ·rw[show l.length=(i-1)+1 by omega]at h3
   simpa[atK,hxi]using h3
  ·have:=dZ hz;omega
 | k+1,i,e,hl=>by
  obtain⟨y,hy⟩ : ∃y,l[i]? = some y:=⟨_,bw (by omega)⟩
  have hd:l.drop i=y::l.drop (i+1):=by
   rw[List.drop_eq_getElem_cons (by omega)]
   rw[bw (by omega)]at hy
   rw[Option.some.inj hy]
  have ih:=aPY hx h2 h1 h3 k (i+1) (by omega) hl
  rw[if_neg (by omega),Nat.add_sub_cancel,hy]at ih
  have hp:=h2 i y hy
  rw[hd]
  by_cases h0:i=0
  ·rw[if_pos h0]
   exact⟨hp.1,hp.2.1 h0,ih⟩
  ·rw[if_neg h0]
   obtain⟨x,hxi⟩ : ∃x,l[i-1]? = some x:=⟨_,bw (by omega)⟩
   rw[hxi]
   refine⟨hp.1,?_,ih⟩
   rcases hp.2.2 (i-1) x (by omega) hxi with h | h
   ·exact .inl h
   ·refine .inr ⟨h.1,h.2,h1 (i-1) x hxi (fun z hz e2=>?_)⟩
    rw[show i-1+1=i by omega,hy]at hz
    cases hz
    rw[e2]at h;omega
theorem aRj{ix:List Int}{E n:Int}(hx:ix.length≤1000000):∀(l pre:List bj) (p:Option bj),p=pre.getLast?→(∀x∈p,0≤kx ix x.q6)→SVs ix E n p l →
  (∀(i:Nat) y,l[i]? = some y→P2 ix (pre++l) (pre.length+i) y∧P1 (pre++l) E (pre.length+i) y)∧(∀x,p=some x→(∀z,l[0]? = some z→¬z.q6=x.q6)→x.q0.q8=E)∧(l≠[]∨p≠none→atK ix (pre++l) (pre++l).length+1=n)
 | [],pre,p,hp,hk,h=>by
  refine⟨fun i y hy=>by simp at hy,fun x hx2 _=>?_,fun hn=>?_⟩
  ·subst hx2;exact h.2
  ·cases p with
   | none=>simp at hn
   | some x =>
    have hne:pre≠[]:=fun e=>by subst e;simp at hp
    have e1:pre=pre.dropLast++[x]:=by
     have h2:=List.dropLast_concat_getLast hne
     rw[List.getLast?_eq_some_getLast hne]at hp
     rw[←Option.some.inj hp]at h2
     exact h2.symm
    rw[List.append_nil,e1,cw,List.length_singleton]
    simp only[atK]
    rw[List.getElem?_append_right (nk _)]
    simpa using h.1
 | y::r,pre,p,hp,hk,h=>by
  have hso:StO ix y:=by cases p with
   | none=>exact h.1
   | some x=>exact h.1
  have hr:SVs ix E n (some y) r:=by cases p with
   | none=>exact h.2.2
   | some x=>exact h.2.2
  obtain⟨g1,g2,g3⟩:=aRj hx r (pre++[y]) (some y) (by simp) (fun x hx2=>by cases hx2;exact hso.1) hr
  rw[ow,List.singleton_append]at g1 g3
  have gy:P2 ix (pre++y::r) pre.length y∧P1 (pre++y::r) E pre.length y:=by
   refine⟨⟨hso,fun e0=>?_,fun j x hj hxj=>?_⟩,fun hn=>g2 y rfl (fun z hz=>hn z ?_)⟩
   ·have:pre=[]:=dw e0
    subst this
    simp at hp;subst hp
    exact h.2.1
   ·have hne:pre≠[]:=fun e=>by subst e;simp at hj
    rw[List.getLast?_eq_some_getLast hne]at hp
    have hx2:x=pre.getLast hne:=by
     rw[rk (by omega)]at hxj
     rw[bw (by omega)]at hxj
     rw[←Option.some.inj hxj,List.getLast_eq_getElem]
     congr 1;omega
    subst hp
    rw[←hx2]at h
    rcases h.2.1 with h3 | h3
    ·exact .inl h3
    ·exact .inr ⟨h3.1,h3.2.1⟩
   ·rw[List.getElem?_append_right (by omega),show pre.length+1-pre.length=0+1 by omega,List.getElem?_cons_succ];exact hz
  refine⟨fun i z hz=>?_,fun x hx2 hn=>?_,fun _=>g3 (.inr (by simp))⟩
  ·cases i with
   | zero=>simp only[List.getElem?_cons_zero,ck]at hz;subst hz;exact gy
   | succ i =>
    have:=g1 i z (by simpa using hz)
    rw[cw,List.length_singleton]at this
    rw[show pre.length+(i+1)=pre.length+1+i by omega];exact this
  ·subst hx2
   rcases h.2.1 with h3 | h3
   ·exfalso
    exact hn y rfl (a7x hx (hk x rfl) h3.1).symm
   ·exact h3.2.2
theorem amK(ths:List i5)(l:List bj)(ht:ths.length≤1000000)(hl:l.length≤1000000):∃ix:List Int,ix.length≤1000000∧rK ths=some ix∧(vQ ths l=some 0↔∃E,SVs ix E ix.length none l):=by
 obtain⟨ix,e0,h0⟩:=IY ths ht
 refine⟨ix,by omega,e0,?_⟩
 have hx:ix.length≤1000000:=by omega
 unfold vQ
 rw[e0,bk]
 obtain⟨q,e,hq⟩:=a6Q ix l hx hl
 rw[e]
 have toG:∀ {E:Int},SVs ix E ix.length none l→pW (P2 ix l) l∧pW (P1 l E) l∧(l≠[]→atK ix l l.length+1=(ix.length:Int)):=by
  intro E h
  obtain⟨g1,_,g3⟩:=aRj hx l [] none rfl (by simp) h
  simp only[List.nil_append,List.length_nil,Nat.zero_add]at g1 g3
  exact⟨fun i y hy=>(g1 i y hy).1,fun i y hy=>(g1 i y hy).2,fun hn=>g3 (.inl hn)⟩
 rcases hq with⟨rfl,hq⟩ | ⟨r,hr,rfl,hq⟩
 ·simp only[bk]
  by_cases hn:l=[]
  ·subst hn
   simp only[List.length_nil,Int.natCast_zero,decide_true,cond_true,true_iff]
   exact⟨0,trivial⟩
  ·have hpos:=List.length_pos_iff.2 hn
   rw[lk (by omega : ¬(l.length:Int)=0),cond_false]
   obtain⟨u,hu⟩ : ∃u,l[l.length-1]? = some u:=⟨_,bw (by omega)⟩
   rw[show w64 ((l.length:Int)-1)=((l.length-1:Nat):Int)by rw[bQ (by omega)];omega,dX,hu,bk]
   obtain⟨q1,e1,hq1⟩:=a6J l u hl
   rw[e1]
   have hat:atK ix l l.length=kx ix u.q6:=by
    rw[show l.length=(l.length-1)+1 by omega]
    simp[atK,hu]
   have hkl:=(aSz ix u.q6 hx).2
   have uniq:∀ {E:Int},pW (P1 l E) l→u.q0.q8=E:=fun h=>h (l.length-1) u hu (fun z hz=>by have:=dZ hz;omega)
   rcases hq1 with⟨rfl,hq1⟩ | ⟨r,hr,rfl,hq1⟩
   ·simp only[bk]
    rw[hat,bQ (n:=kx ix u.q6+1) (by omega)]
    by_cases hk:kx ix u.q6+1=(ix.length:Int)
    ·rw[decide_eq_true hk]
     simp only[Bool.not_true,cond_false,true_iff]
     refine⟨u.q0.q8,?_⟩
     have:=aPY hx hq hq1 (by rw[hat];exact hk) l.length 0 (by omega) hpos
     simpa using this
    ·rw[lk hk]
     simp only[Bool.not_false,cond_true]
     refine⟨fun h=>by simp at h,fun⟨E,h⟩=>?_⟩
     have:=(toG h).2.2 hn
     rw[hat]at this
     exact absurd this hk
   ·simp only[bk,ck]
    refine⟨fun h=>absurd h hr,fun⟨E,h⟩=>?_⟩
    have h2:=(toG h).2.1
    have:=uniq h2
    subst this
    exact absurd h2 hq1
 ·simp only[bk,ck]
  exact⟨fun h=>absurd h hr,fun⟨E,h⟩=>absurd (toG h).1 hq⟩
theorem a6Y{α β:Type}(g:α→Option β)(xs:List α):(xs.zipIdx.filterMap fun p=>g p.1)=xs.filterMap g:=by
 have h:xs.filterMap g=(xs.zipIdx.map (·.1)).filterMap g:=by rw[List.zipIdx_map_fst]
 rw[h,List.filterMap_map];rfl
theorem S1{α β:Type}{step:List β×Int→Option ((List β×Int) ⊕ List β)}(xs:List α)(g:α→Option β)(hl:xs.length≤100000)
  (h1:∀(i:Nat) y a,xs[i]? = some y→a.length≤i→i<xs.length→step (a,(i:Int))=some (.inl (a++(g y).toList,((i+1:Nat):Int)))) (h2:∀a,step (a,(xs.length:Int))=some (.inr a)) :
  loop step ([],0)=some (xs.filterMap g):=by
 rw[←a6Y]
 exact anq xs (fun _ y=>g y) hl (fun i y a hy ha=>h1 i y a hy ha (dZ hy)) h2
structure CSp(c:az):Prop where
 a:0≤c.q5
 b:c.q5<c.q8
 d:c.q8≤1000000000000
def A9(s:az):Prop:=0≤s.q5∧s.q5<s.q8∧s.q8≤1000000000000
def nX(c s:az):Prop:=max s.q5 c.q5<min s.q8 c.q8
instance (c s:az):Decidable (nX c s):=by unfold nX;infer_instance
def tz(c s:az):az:={q5:=max s.q5 c.q5-c.q5,q8:=min s.q8 c.q8-c.q5}
theorem P8{c s:az}(hc:CSp c)(hs:A9 s):oW s c=some (tz c s,decide (nX c s),decide (c.q8<s.q8)):=by
 have:=hc.a;have:=hc.b;have:=hc.d
 unfold A9 at hs
 unfold oW tz nX
 rw[bQ (by omega),bQ (by omega)]
def A4(c:az)(y:bj):bj:={q6:=y.q6,j8:=y.j8,q0:=tz c y.q0,x7:=y.x7,g8:=y.g8,g9:=if c.q8<y.q0.q8 then -1 else y.g9}
def cSt(c:az)(y:bj):Option bj:=if nX c y.q0 then some (A4 c y)else none
theorem awV(l:List bj)(c:az)(hl:l.length≤1000)(hc:CSp c)(hv:∀y∈l,A9 y.q0):wW l c=some (l.filterMap (cSt c)):=by
 unfold wW
 rw[S1 l (cSt c) (by omega) (fun i y a hy ha hi=>?_) (fun a=>by unfold wq;simp),bk]
 have hroom:H7 56 (a.length+1)=true:=Gq (by omega) (by omega)
 unfold wq cSt
 dsimp only
 rw[decide_eq_true (Int.ofNat_lt.2 hi),cond_true,dX,hy,bk,sY (n:=l.length) hi (by omega),P8 hc (hv y (ew hy)),bk]
 by_cases g:nX c y.q0
 ·by_cases g2:c.q8<y.q0.q8
  ·simp[g,g2,hroom,A4]
  ·simp[g,g2,hroom,A4]
 ·simp[g]
def aaX(c:az)(y:c7):c7:={x6:=y.x6,q5:=y.q5,q8:=y.q8,w9:=y.w9-c.q5,v8:=y.v8-c.q5}
def CJ(c:az)(n:Int):Prop:=c.q5≤n∧n<c.q8
instance (c:az) (n:Int):Decidable (CJ c n):=by unfold CJ;infer_instance
theorem aqj(c:az)(n:Int):lZ c n=some (decide (CJ c n)):=by
 unfold lZ CJ
 by_cases h1:c.q5≤n<;>by_cases h2:n<c.q8<;>simp[h1,h2]
def cFl(c:az)(y:c7):Option c7:=if CJ c y.w9∧CJ c y.v8 then some (aaX c y)else none
theorem aAY(l:List c7)(c:az)(hl:l.length≤1000)(hc:CSp c):zY l c=some (l.filterMap (cFl c)):=by
 have:=hc.a;have:=hc.b;have:=hc.d
 unfold zY
 rw[S1 l (cFl c) (by omega) (fun i y a hy ha hi=>?_) (fun a=>by unfold yW;simp),bk]
 have hroom:H7 56 (a.length+1)=true:=Gq (by omega) (by omega)
 unfold yW cFl
 dsimp only
 rw[decide_eq_true (Int.ofNat_lt.2 hi),cond_true,dX,hy,bk,sY (n:=l.length) hi (by omega),aqj,aqj]
 by_cases g:CJ c y.w9
 ·by_cases g2:CJ c y.v8
  ·have h1:=g;have h2:=g2
   unfold CJ at h1 h2
   have e1:w64 (y.w9-c.q5)=y.w9-c.q5:=bQ (by omega)
   have e2:w64 (y.v8-c.q5)=y.v8-c.q5:=bQ (by omega)
   simp[g,g2,hroom,aaX,e1,e2]
  ·simp[g,g2]
 ·simp[g]
def YQ(c:az)(y:bY):bY:={q6:=y.q6,j9:=y.j9-c.q5,w5:=y.w5,j4:=y.j4}
def cSa(c:az)(y:bY):Option bY:=if CJ c y.j9 then some (YQ c y)else none
theorem apX(l:List bY)(c:az)(hl:l.length≤1000)(hc:CSp c):uK l c=some (l.filterMap (cSa c)):=by
 have:=hc.a;have:=hc.b;have:=hc.d
 unfold uK
 rw[S1 l (cSa c) (by omega) (fun i y a hy ha hi=>?_) (fun a=>by unfold uQ;simp),bk]
 have hroom:H7 48 (a.length+1)=true:=Gq (by omega) (by omega)
 unfold uQ cSa
 dsimp only
 rw[decide_eq_true (Int.ofNat_lt.2 hi),cond_true,dX,hy,bk,sY (n:=l.length) hi (by omega),aqj]
 by_cases g:CJ c y.j9
 ·have h1:=g
  unfold CJ at h1
  have e1:w64 (y.j9-c.q5)=y.j9-c.q5:=bQ (by omega)
  simp[g,hroom,YQ,e1]
 ·simp[g]
def X0(c:az)(y:cz):cz:={x6:=y.x6,q6:=y.q6,x5:=y.x5,q0:=tz c y.q0,j4:=y.j4,x9:=y.x9||decide (c.q8<y.q0.q8)}
def cBl(c:az)(y:cz):Option cz:=if nX c y.q0 then some (X0 c y)else none
theorem azj(l:List cz)(c:az)(hl:l.length≤1000)(hc:CSp c)(hv:∀y∈l,A9 y.q0):xV l c=some (l.filterMap (cBl c)):=by
 unfold xV
 rw[S1 l (cBl c) (by omega) (fun i y a hy ha hi=>?_) (fun a=>by unfold wQ;simp),bk]
 have hroom:H7 72 (a.length+1)=true:=Gq (by omega) (by omega)
 unfold wQ cBl
 dsimp only
 rw[decide_eq_true (Int.ofNat_lt.2 hi),cond_true,dX,hy,bk,sY (n:=l.length) hi (by omega),P8 hc (hv y (ew hy)),bk]
 by_cases g:nX c y.q0
 ·cases e:y.x9<;>simp[g,hroom,X0,e]
 ·simp[g]
def agz(c:az)(y:fJ):fJ:={q6:=y.q6,q0:=tz c y.q0,w6:=y.w6}
def cLs(c:az)(y:fJ):Option fJ:=if nX c y.q0 then some (agz c y)else none
theorem aux(l:List fJ)(c:az)(hl:l.length≤1000)(hc:CSp c)(hv:∀y∈l,A9 y.q0):xZ l c=some (l.filterMap (cLs c)):=by
 unfold xZ
 rw[S1 l (cLs c) (by omega) (fun i y a hy ha hi=>?_) (fun a=>by unfold vJ;simp),bk]
 have hroom:H7 32 (a.length+1)=true:=Gq (by omega) (by omega)
 unfold vJ cLs
 dsimp only
 rw[decide_eq_true (Int.ofNat_lt.2 hi),cond_true,dX,hy,bk,sY (n:=l.length) hi (by omega),P8 hc (hv y (ew hy)),bk]
 by_cases g:nX c y.q0
 ·simp[g,hroom,agz]
 ·simp[g]
theorem aAK(c:az)(y:bj)(h:n7 y=some true):n7 (A4 c y)=some true:=by
 have key:∀b:Int,(b = -1∨b=y.g9)→n7 {q6:=y.q6,j8:=y.j8,q0:=tz c y.q0,x7:=y.x7,g8:=y.g8,g9:=b}=some true:=by
  intro b hb
  rcases hb with rfl | rfl
  ·unfold n7 at h ⊢
   dsimp only at h ⊢
   by_cases a1:y.j8=4
   ·by_cases a2:y.x7<0<;>by_cases a3:64≤y.x7<;>by_cases a4:y.g8 = -1<;>simp[a1,a2,a3,a4]at h ⊢
   ·by_cases a2:y.j8=2
    ·by_cases a3:y.x7 = -1<;>by_cases a4:y.g8<0<;>by_cases a5:1000000000000000<y.g8<;>simp[a2,a3,a4,a5]at h ⊢
    ·by_cases a3:y.j8<0<;>by_cases a4:5<y.j8<;>by_cases a5:y.x7 = -1<;>by_cases a6:y.g8 = -1<;>by_cases a7:y.j8=1<;>simp[a1,a2,a3,a4,a5,a6,a7]at h ⊢
  ·exact h
 unfold A4
 by_cases g:c.q8<y.q0.q8
 ·rw[if_pos g];exact key _ (.inl rfl)
 ·rw[if_neg g];exact key _ (.inr rfl)
theorem aDq{ix:List Int}{E n:Int}:∀(r:List bj) (x:bj),SVs ix E n (some x) r→x.q0.q8≤E
 | [],x,h=>by have:=h.2;omega
 | y::r,x,h=>by
  rcases h.2.1 with h1 | h1
  ·have:=aDq r y h.2.2
   have:=h.1.2.1;omega
  ·omega
def Mo(ix:List Int)(c:az)(E:Int):Option bj→Option bj→Prop
 | none,p=>p=none
 | some x,p=>(x.q0.q8≤c.q5∧((p=none∧kx ix x.q6=0)∨∃w,p=some w∧kx ix w.q6+1=kx ix x.q6∧w.q0.q8=min E c.q8-c.q5))
  ∨ (c.q5<x.q0.q8∧x.q0.q5<c.q8∧p=some (A4 c x))
  ∨ (c.q8≤x.q0.q5∧∃w,p=some w∧kx ix w.q6=kx ix x.q6∧w.q0.q8=c.q8-c.q5)
theorem aHj{ix:List Int}{c:az}{y:bj}(hc:CSp c)(h:StO ix y)(hh:nX c y.q0):StO ix (A4 c y):=by
 have:=hc.a;have:=hc.b;have:=hc.d
 refine⟨h.1,?_,aAK c y h.2.2⟩
 have h1:=h.2.1
 unfold nX at hh
 simp only[A4,tz]
 omega
theorem adZ{ix:List Int}{c:az}{E n:Int}(hc:CSp c)(hE:c.q5<E):∀(l:List bj) (p p':Option bj),Mo ix c E p p'→(∀x,p=some x→0≤x.q0.q5∧x.q0.q5<x.q0.q8)→SVs ix E n p l→SVs ix (min E c.q8-c.q5) n p' (l.filterMap (cSt c))
 | [],p,p',hm,hv,h=>by
  cases p with
  | none=>rw[show p'=none from hm];exact trivial
  | some x =>
   have h1:=h.1
   have h2:=h.2
   have h3:=hv x rfl
   rcases hm with hm | hm | ⟨g,w,rfl,g2,g3⟩
   ·omega
   ·obtain⟨g1,g2,rfl⟩:=hm
    refine⟨h1,?_⟩
    simp only[A4,tz];omega
   ·exact⟨by omega,by omega⟩
 | y::r,p,p',hm,hv,h=>by
  have hca:=hc.a;have hcb:=hc.b
  have hso:StO ix y:=by cases p with
   | none=>exact h.1
   | some x=>exact h.1
  have hr:SVs ix E n (some y) r:=by cases p with
   | none=>exact h.2.2
   | some x=>exact h.2.2
  have hy:=hso.2.1
  have hyE:=aDq r y hr
  have ih:=fun p'' (hm':Mo ix c E (some y) p'')=>adZ hc hE r (some y) p'' hm' (fun x hx=>by cases hx;exact⟨hy.1,hy.2.1⟩) hr
  have keep:nX c y.q0→((p'=none→kx ix y.q6=0∧y.q0.q5≤c.q5)∧∀w,p'=some w→(kx ix w.q6=kx ix y.q6∧(A4 c y).q0.q5=w.q0.q8∧¬anK y w)∨(kx ix y.q6=kx ix w.q6+1∧y.q0.q5≤c.q5∧w.q0.q8=min E c.q8-c.q5))→SVs ix (min E c.q8-c.q5) n p' ((y::r).filterMap (cSt c)):=by
   intro hh hk
   have e:cSt c y=some (A4 c y):=if_pos hh
   rw[List.filterMap_cons_some e]
   have hh2:=hh
   unfold nX at hh2
   have hi:=ih (some (A4 c y)) (.inr (.inl ⟨by omega,by omega,rfl⟩))
   have z:y.q0.q5≤c.q5→(A4 c y).q0.q5=0:=fun g=>by simp only[A4,tz];omega
   cases p' with
   | none=>exact⟨aHj hc hso hh,⟨(hk.1 rfl).1,z (hk.1 rfl).2⟩,hi⟩
   | some w =>
    refine⟨aHj hc hso hh,?_,hi⟩
    rcases hk.2 w rfl with g | g
    ·exact .inl ⟨g.1,g.2.1,g.2.2⟩
    ·exact .inr ⟨g.1,z g.2.1,g.2.2⟩
  have drop : ¬nX c y.q0→Mo ix c E (some y) p'→SVs ix (min E c.q8-c.q5) n p' ((y::r).filterMap (cSt c)):=by
   intro hh hm'
   have e:cSt c y=none:=if_neg hh
   rw[List.filterMap_cons_none e]
   exact ih p' hm'
  cases p with
  | none =>
   have hp':p'=none:=hm
   subst hp'
   obtain⟨k0,f0⟩:=h.2.1
   by_cases hh:nX c y.q0
   ·exact keep hh ⟨fun _=>⟨k0,by omega⟩,fun w e=>by cases e⟩
   ·refine drop hh (.inl ⟨?_,.inl ⟨rfl,k0⟩⟩)
    unfold nX at hh;omega
  | some x =>
   have hxv:=hv x rfl
   rcases h.2.1 with⟨s1,s2,s3⟩ | ⟨n1,n2,n3⟩
   ·rcases hm with⟨m1,m2⟩ | ⟨m1,m2,rfl⟩ | ⟨m1,w,rfl,m2,m3⟩
    ·by_cases hh:nX c y.q0
     ·have hh2:=hh
      unfold nX at hh2
      refine keep hh ⟨fun e=>?_,fun w e=>?_⟩
      ·rcases m2 with⟨_,m2⟩ | ⟨w,m2,_⟩
       ·exact⟨by omega,by omega⟩
       ·rw[m2]at e;cases e
      ·rcases m2 with⟨m2,_⟩ | ⟨w',m2,m3,m4⟩
       ·rw[m2]at e;cases e
       ·rw[m2]at e;cases e
        exact .inr ⟨by omega,by omega,m4⟩
     ·refine drop hh (.inl ⟨?_,?_⟩)
      ·unfold nX at hh;omega
      ·rcases m2 with⟨m2,m3⟩ | ⟨w',m2,m3,m4⟩
       ·exact .inl ⟨m2,by omega⟩
       ·exact .inr ⟨w',m2,by omega,m4⟩
    ·by_cases hh:nX c y.q0
     ·have hh2:=hh
      unfold nX at hh2
      refine keep hh ⟨fun e=>(by cases e),fun w e=>?_⟩
      cases e
      refine .inl ⟨s1,?_,s3⟩
      simp only[A4,tz];omega
     ·refine drop hh (.inr (.inr ⟨?_,_,rfl,s1,?_⟩))
      ·unfold nX at hh;omega
      ·unfold nX at hh
       simp only[A4,tz];omega
    ·have hh : ¬nX c y.q0:=by unfold nX;omega
     exact drop hh (.inr (.inr ⟨by omega,w,rfl,by omega,m3⟩))
   ·have last:∃w,p'=some w∧kx ix w.q6=kx ix x.q6∧w.q0.q8=min E c.q8-c.q5:=by
     rcases hm with⟨m1,m2⟩ | ⟨m1,m2,rfl⟩ | ⟨m1,w,rfl,m2,m3⟩
     ·omega
     ·refine⟨_,rfl,rfl,?_⟩
      simp only[A4,tz];omega
     ·exact⟨w,rfl,m2,by omega⟩
    obtain⟨w,rfl,w1,w2⟩:=last
    by_cases hh:nX c y.q0
    ·refine keep hh ⟨fun e=>(by cases e),fun w' e=>?_⟩
     cases e
     exact .inr ⟨by omega,by omega,w2⟩
    ·refine drop hh (.inl ⟨?_,.inr ⟨w,rfl,by omega,w2⟩⟩)
     unfold nX at hh;omega
theorem A6{α β:Type}{f:α→Option β}{l:List α}{P:β→Prop}(h:∀y∈l,∀z,f y=some z→P z):∀z∈l.filterMap f,P z:=by
 intro z hz
 obtain⟨y,hy,e⟩:=List.mem_filterMap.1 hz
 exact h y hy z e
theorem aqq{α β:Type}{f:α→Option β}{l:List α}{R:α→α→Prop}{Q:β→β→Prop}(hp:l.Pairwise R)(h:∀x y,x∈l→y∈l→R x y→∀u v,f x=some u→f y=some v→Q u v):(l.filterMap f).Pairwise Q:=by
 rw[List.pairwise_filterMap]
 exact(List.Pairwise.and_mem.1 hp).imp (fun {x y} ⟨hx,hy,hr⟩ u hu v hv=>h x y hx hy hr u v hu hv)
theorem XX{c:az}{y z:c7}(h:cFl c y=some z):CJ c y.w9∧CJ c y.v8∧z=aaX c y:=by
 unfold cFl at h;split at h
 ·rename_i g;cases h;exact⟨g.1,g.2,rfl⟩
 ·cases h
theorem aTZ{c:az}(hc:CSp c){l:List c7}(h:(∀y∈l,FlR y)∧l.Pairwise (fun x y=>x.v8≤y.v8)):(∀y∈l.filterMap (cFl c),FlR y)∧(l.filterMap (cFl c)).Pairwise (fun x y=>x.v8≤y.v8):=by
 have:=hc.a;have:=hc.b;have:=hc.d
 refine⟨A6 fun y hy z hz=>?_,aqq h.2 fun x y _ _ hr u v hu hv=>?_⟩
 ·obtain⟨g1,g2,rfl⟩:=XX hz
  have hr:=h.1 y hy
  unfold FlR aNJ aaX at *
  unfold CJ at g1 g2
  simp only
  exact⟨⟨hr.1.1,hr.1.2.1,hr.1.2.2.1,hr.1.2.2.2.1,hr.1.2.2.2.2.1,by omega,by omega⟩,by omega⟩
 ·obtain⟨_,_,rfl⟩:=XX hu
  obtain⟨_,_,rfl⟩:=XX hv
  simp only[aaX];omega
theorem R3{c:az}{y z:bY}(h:cSa c y=some z):CJ c y.j9∧z=YQ c y:=by
 unfold cSa at h;split at h
 ·rename_i g;cases h;exact⟨g,rfl⟩
 ·cases h
theorem aDj{c:az}(hc:CSp c){l:List bY}(h:(∀y∈l,SaR y)∧l.Pairwise (fun x y=>x.j9≤y.j9)):(∀y∈l.filterMap (cSa c),SaR y)∧(l.filterMap (cSa c)).Pairwise (fun x y=>x.j9≤y.j9):=by
 have:=hc.a;have:=hc.b;have:=hc.d
 refine⟨A6 fun y hy z hz=>?_,aqq h.2 fun x y _ _ hr u v hu hv=>?_⟩
 ·obtain⟨g1,rfl⟩:=R3 hz
  have hr:=h.1 y hy
  unfold SaR YQ at *
  unfold CJ at g1
  simp only
  exact⟨by omega,hr.2⟩
 ·obtain⟨_,rfl⟩:=R3 hu
  obtain⟨_,rfl⟩:=R3 hv
  simp only[YQ];omega
theorem Q7{c:az}{y z:cz}(h:cBl c y=some z):nX c y.q0∧z=X0 c y:=by
 unfold cBl at h;split at h
 ·rename_i g;cases h;exact⟨g,rfl⟩
 ·cases h
theorem agZ{c s:az}(hc:CSp c)(hs:A9 s)(h:nX c s):A9 (tz c s):=by
 have:=hc.a;have:=hc.b;have:=hc.d
 unfold A9 tz nX at *
 simp only
 omega
theorem arJ(l:List cz):pW (blP l) l↔(∀y∈l,BlR y)∧l.Pairwise (fun x y=>x.q0.q5≤y.q0.q5∧¬blB x y):=by
 have gp:=N9 (R:=BlR) (rel:=fun x y:cz=>x.q0.q5≤y.q0.q5) (xs:=l) (fun x y z h1 h2=>Int.le_trans h1 h2)
 constructor
 ·intro h
  have h1:=gp.1 (fun i y hy=>(h i y hy).1)
  refine⟨h1.1,?_⟩
  rw[List.pairwise_iff_getElem]
  intro i j hi hj hij
  refine⟨List.pairwise_iff_getElem.1 h1.2 i j hi hj hij,(h j l[j] (bw hj)).2 l[i] ?_⟩
  exact List.mem_take_iff_getElem.2 ⟨i,by omega,rfl⟩
 ·rintro⟨h1,h2⟩ i y hy
  refine⟨gp.2 ⟨h1,h2.imp (fun h=>h.1)⟩ i y hy,fun x hx=>?_⟩
  obtain⟨k,hk,rfl⟩:=List.mem_take_iff_getElem.1 hx
  have hi:=dZ hy
  have:=(List.pairwise_iff_getElem.1 h2 k i (by omega) hi (by omega)).2
  rw[bw hi]at hy
  rwa [Option.some.inj hy]at this
theorem aMZ{c:az}(hc:CSp c){l:List cz}(h:pW (blP l) l):pW (blP (l.filterMap (cBl c))) (l.filterMap (cBl c)):=by
 have:=hc.a;have:=hc.b;have:=hc.d
 obtain⟨h1,h2⟩:=(arJ l).1 h
 refine(arJ _).2 ⟨A6 fun y hy z hz=>?_,aqq h2 fun x y _ _ hr u v hu hv=>?_⟩
 ·obtain⟨g1,rfl⟩:=Q7 hz
  have hr:=h1 y hy
  exact⟨⟨hr.1.1,agZ hc hr.1.2 g1⟩,hr.2⟩
 ·obtain⟨_,rfl⟩:=Q7 hu
  obtain⟨_,rfl⟩:=Q7 hv
  unfold blB at *
  simp only[X0,tz]
  omega
theorem a6x{c:az}{y z:fJ}(h:cLs c y=some z):nX c y.q0∧z=agz c y:=by
 unfold cLs at h;split at h
 ·rename_i g;cases h;exact⟨g,rfl⟩
 ·cases h
theorem a9X{c:az}{y z:bj}(h:cSt c y=some z):nX c y.q0∧z=A4 c y:=by
 unfold cSt at h;split at h
 ·rename_i g;cases h;exact⟨g,rfl⟩
 ·cases h
theorem bax{α:Type}{P:α→Prop}{l:List α}:pW (fun _ y=>P y) l↔∀y∈l,P y:=by
 constructor
 ·intro h y hy
  obtain⟨i,hi⟩:=List.getElem?_of_mem hy
  exact h i y hi
 ·exact fun h i y hy=>h y (ew hy)
theorem adK{α β:Type}{f g:α→Option β}:∀ {l:List α},(∀y∈l,f y=g y)→l.filterMap f=l.filterMap g
 | [],_=>rfl
 | x::l,h=>by
  have ih:=adK (l:=l) (fun y hy=>h y (List.mem_cons_of_mem _ hy))
  simp only[List.filterMap_cons,h x List.mem_cons_self,ih]
theorem U7{α:Type}{f1 f2 f3:α→Option α}{l:List α}(h:∀y∈l,(f1 y).bind f2=f3 y):(l.filterMap f1).filterMap f2=l.filterMap f3:=by
 rw[List.filterMap_filterMap]
 exact adK h
structure C3(c1 c2 c3:az):Prop where
 h1:CSp c1
 h2:CSp c2
 in2:c2.q8≤c1.q8-c1.q5
 f:c3.q5=c1.q5+c2.q5
 t:c3.q8=c1.q5+c2.q8
theorem C3.h3{c1 c2 c3:az}(h:C3 c1 c2 c3):CSp c3:=by
 have:=h.h1.a;have:=h.h1.d;have:=h.h2.a;have:=h.h2.b;have:=h.in2;have:=h.f;have:=h.t
 exact⟨by omega,by omega,by omega⟩
theorem M9{c1 c2 c3:az}(h:C3 c1 c2 c3){s:az}(hs:A9 s):(nX c3 s↔nX c1 s∧nX c2 (tz c1 s))∧(nX c3 s→tz c2 (tz c1 s)=tz c3 s∧(c3.q8<s.q8↔c1.q8<s.q8∨c2.q8<(tz c1 s).q8)):=by
 have:=h.h1.a;have:=h.h1.b;have:=h.h1.d;have:=h.h2.a;have:=h.h2.b;have:=h.in2;have:=h.f;have:=h.t
 unfold A9 nX tz at *
 simp only
 refine⟨by omega,fun g=>⟨?_,by omega⟩⟩
 congr 1<;>omega
theorem a4q{c1 c2 c3:az}(h:C3 c1 c2 c3){l:List bj}(hv:∀y∈l,A9 y.q0):(l.filterMap (cSt c1)).filterMap (cSt c2)=l.filterMap (cSt c3):=by
 refine U7 fun y hy=>?_
 obtain⟨e1,e2⟩:=M9 h (hv y hy)
 by_cases g:nX c3 y.q0
 ·obtain⟨g1,g2⟩:=e1.1 g
  obtain⟨e3,e4⟩:=e2 g
  unfold cSt
  rw[if_pos g1,if_pos g,bk,if_pos (show nX c2 (A4 c1 y).q0 from g2)]
  have hb:(if c2.q8<(tz c1 y.q0).q8 then(-1:Int)else if c1.q8<y.q0.q8 then -1 else y.g9)=if c3.q8<y.q0.q8 then -1 else y.g9:=by
   by_cases k1:c1.q8<y.q0.q8
   ·rw[if_pos k1,if_pos (e4.2 (.inl k1))];simp
   ·by_cases k2:c2.q8<(tz c1 y.q0).q8
    ·rw[if_pos k2,if_pos (e4.2 (.inr k2))]
    ·rw[if_neg k2,if_neg k1,if_neg (fun k=>(e4.1 k).elim k1 k2)]
  have e5:A4 c2 (A4 c1 y) = {q6:=y.q6,j8:=y.j8,q0:=tz c2 (tz c1 y.q0),x7:=y.x7,g8:=y.g8,g9:=if c2.q8<(tz c1 y.q0).q8 then(-1:Int)else if c1.q8<y.q0.q8 then -1 else y.g9}:=rfl
  rw[e5,e3,hb];rfl
 ·unfold cSt
  rw[if_neg g]
  by_cases g1:nX c1 y.q0
  ·rw[if_pos g1,bk,if_neg (fun k:nX c2 (A4 c1 y).q0=>g (e1.2 ⟨g1,k⟩))]
  ·rw[if_neg g1];rfl
theorem a1z{c1 c2 c3:az}(h:C3 c1 c2 c3){l:List cz}(hv:∀y∈l,A9 y.q0):(l.filterMap (cBl c1)).filterMap (cBl c2)=l.filterMap (cBl c3):=by
 refine U7 fun y hy=>?_
 obtain⟨e1,e2⟩:=M9 h (hv y hy)
 by_cases g:nX c3 y.q0
 ·obtain⟨g1,g2⟩:=e1.1 g
  obtain⟨e3,e4⟩:=e2 g
  unfold cBl
  rw[if_pos g1,if_pos g,bk,if_pos (show nX c2 (X0 c1 y).q0 from g2)]
  have hb:((y.x9||decide (c1.q8<y.q0.q8))||decide (c2.q8<(tz c1 y.q0).q8))=(y.x9||decide (c3.q8<y.q0.q8)):=by
   by_cases k1:c1.q8<y.q0.q8
   ·simp[k1,e4.2 (.inl k1)]
   ·by_cases k2:c2.q8<(tz c1 y.q0).q8
    ·simp[k2,e4.2 (.inr k2)]
    ·simp[k1,k2,fun k=>(e4.1 k).elim k1 k2,show ¬c3.q8<y.q0.q8 from fun k=>(e4.1 k).elim k1 k2]
  have e5:X0 c2 (X0 c1 y) = {x6:=y.x6,q6:=y.q6,x5:=y.x5,q0:=tz c2 (tz c1 y.q0),j4:=y.j4,x9:=((y.x9||decide (c1.q8<y.q0.q8))||decide (c2.q8<(tz c1 y.q0).q8))}:=rfl
  rw[e5,e3,hb];rfl
 ·unfold cBl
  rw[if_neg g]
  by_cases g1:nX c1 y.q0
  ·rw[if_pos g1,bk,if_neg (fun k:nX c2 (X0 c1 y).q0=>g (e1.2 ⟨g1,k⟩))]
  ·rw[if_neg g1];rfl
theorem aYY{c1 c2 c3:az}(h:C3 c1 c2 c3){l:List fJ}(hv:∀y∈l,A9 y.q0):(l.filterMap (cLs c1)).filterMap (cLs c2)=l.filterMap (cLs c3):=by
 refine U7 fun y hy=>?_
 obtain⟨e1,e2⟩:=M9 h (hv y hy)
 by_cases g:nX c3 y.q0
 ·obtain⟨g1,g2⟩:=e1.1 g
  obtain⟨e3,e4⟩:=e2 g
  unfold cLs
  rw[if_pos g1,if_pos g,bk,if_pos (show nX c2 (agz c1 y).q0 from g2)]
  have e5:agz c2 (agz c1 y) = {q6:=y.q6,q0:=tz c2 (tz c1 y.q0),w6:=y.w6}:=rfl
  rw[e5,e3];rfl
 ·unfold cLs
  rw[if_neg g]
  by_cases g1:nX c1 y.q0
  ·rw[if_pos g1,bk,if_neg (fun k:nX c2 (agz c1 y).q0=>g (e1.2 ⟨g1,k⟩))]
  ·rw[if_neg g1];rfl
theorem Z7{c1 c2 c3:az}(h:C3 c1 c2 c3)(n:Int):CJ c3 n↔CJ c1 n∧CJ c2 (n-c1.q5):=by
 have:=h.h1.a;have:=h.h1.b;have:=h.h2.a;have:=h.h2.b;have:=h.in2;have:=h.f;have:=h.t
 unfold CJ;omega
theorem a0V{c1 c2 c3:az}(h:C3 c1 c2 c3)(l:List c7):(l.filterMap (cFl c1)).filterMap (cFl c2)=l.filterMap (cFl c3):=by
 refine U7 fun y hy=>?_
 have e1:=Z7 h y.w9
 have e2:=Z7 h y.v8
 have hf:=h.f
 unfold cFl
 by_cases g:CJ c3 y.w9∧CJ c3 y.v8
 ·have g1:=e1.1 g.1
  have g2:=e2.1 g.2
  rw[if_pos g,if_pos ⟨g1.1,g2.1⟩,bk,if_pos ⟨g1.2,g2.2⟩]
  congr 1
  simp only[aaX]
  congr 1<;>omega
 ·rw[if_neg g]
  by_cases g1:CJ c1 y.w9∧CJ c1 y.v8
  ·rw[if_pos g1,bk,if_neg (fun k=>g ⟨e1.2 ⟨g1.1,k.1⟩,e2.2 ⟨g1.2,k.2⟩⟩)]
  ·rw[if_neg g1];rfl
theorem aZz{c1 c2 c3:az}(h:C3 c1 c2 c3)(l:List bY):(l.filterMap (cSa c1)).filterMap (cSa c2)=l.filterMap (cSa c3):=by
 refine U7 fun y hy=>?_
 have e1:=Z7 h y.j9
 have hf:=h.f
 unfold cSa
 by_cases g:CJ c3 y.j9
 ·have g1:=e1.1 g
  rw[if_pos g,if_pos g1.1,bk,if_pos (show CJ c2 (YQ c1 y).j9 from g1.2)]
  congr 1
  simp only[YQ]
  congr 1;omega
 ·rw[if_neg g]
  by_cases g1:CJ c1 y.j9
  ·rw[if_pos g1,bk,if_neg (fun k:CJ c2 (YQ c1 y).j9=>g (e1.2 ⟨g1,k⟩))]
  ·rw[if_neg g1];rfl
def gR(c:az):List bJ→List bJ
 | []=>[]
 | x::r=>(if x.j9≤c.q5 then(if C4 c x r.head? then[stN x.q7 0 x.j6]else[])else if x.j9<c.q8 then[stN x.q7 (x.j9-c.q5) x.j6]else[])++gR c r
theorem aUz(c:az):∀(l a:List bJ),fR c l a=a++gR c l
 | [],a=>by simp[fR,gR]
 | x::r,a=>by
  simp only[fR,gR]
  rw[aUz c r]
  unfold nR
  split
  ·split<;>simp
  ·split<;>simp
theorem aFK{l:List bJ}{c:az}(hl:l.length≤1000)(hv:StV l)(hc:CSp c):zV l c=some (gR c l)∧(gR c l).length≤l.length:=by
 have:=hc.a;have:=hc.b;have:=hc.d
 obtain⟨h1,h2⟩:=a8q l c hl hv.rng ⟨hc.a,by omega⟩
 have h3:=(Z6 c hc.b l hv.srt [] (fun o ho=>by simp at ho)).1
 rw[aUz,List.nil_append]at h3
 rw[h3]at h1 h2
 exact⟨by unfold zV;rw[h1,bk],h2⟩
def CHs:Option bJ→List bJ→Prop
 | _,[]=>True
 | p,y::r=>StR y∧(∀x,p=some x→aFz x y)∧CHs (some y) r
theorem aVx{l:List bJ}(h:pW (agQ StR aFz l) l):∀(k i:Nat),i+k=l.length→CHs (if i=0 then none else l[i-1]?) (l.drop i)
 | 0,i,e=>by rw[List.drop_eq_nil_of_le (by omega)];exact trivial
 | k+1,i,e=>by
  obtain⟨y,hy⟩ : ∃y,l[i]? = some y:=⟨_,bw (by omega)⟩
  have hd:l.drop i=y::l.drop (i+1):=by
   rw[List.drop_eq_getElem_cons (by omega)]
   rw[bw (by omega)]at hy
   rw[Option.some.inj hy]
  have ih:=aVx h k (i+1) (by omega)
  rw[if_neg (by omega),Nat.add_sub_cancel,hy]at ih
  rw[hd]
  refine⟨(h i y hy).1,fun x hx=>?_,ih⟩
  by_cases h0:i=0
  ·rw[if_pos h0]at hx;cases hx
  ·rw[if_neg h0]at hx
   exact(h i y hy).2 (i-1) x (by omega) hx
theorem aVq:∀(l pre:List bJ),CHs pre.getLast? l→∀(i:Nat) y,l[i]? = some y→agQ StR aFz (pre++l) (pre.length+i) y
 | [],pre,h,i,y,hy=>by simp at hy
 | z::r,pre,h,i,y,hy=>by
  cases i with
  | zero =>
   simp only[List.getElem?_cons_zero,ck]at hy;subst hy
   refine⟨h.1,fun j x hj hx=>h.2.1 x ?_⟩
   have hne:pre≠[]:=fun e=>by subst e;simp at hj
   rw[rk (by omega),bw (by omega)]at hx
   rw[List.getLast?_eq_some_getLast hne,List.getLast_eq_getElem,←Option.some.inj hx]
   congr 2;omega
  | succ i =>
   have:=aVq r (pre++[z]) (by rw[List.getLast?_append];simpa using h.2.2) i y (by simpa using hy)
   rw[ow,List.singleton_append,cw,List.length_singleton]at this
   rw[show pre.length+(i+1)=pre.length+1+i by omega];exact this
theorem arQ(l:List bJ):pW (agQ StR aFz l) l↔CHs none l:=by
 constructor
 ·intro h
  have:=aVx h l.length 0 (by omega)
  simpa using this
 ·intro h i y hy
  have:=aVq l [] h i y hy
  simpa using this
def Qs(c:az)(p p':Option bJ)(hd:Option bJ):Prop:=∀w,p'=some w→∃x,p=some x ∧
 ((w=stN x.q7 (max (x.j9-c.q5) 0) x.j6∧(x.j9≤c.q5→C4 c x hd))∨sLt w.q7 x.q7=true∨(w.q7=x.q7∧c.q8≤x.j9))
theorem Vx{c:az}(hc:CSp c):∀(l:List bJ) (p p':Option bJ),Qs c p p' l.head?→(∀x,p=some x→∀y∈l,stL x y)→l.Pairwise stL→CHs p l→CHs p' (gR c l)
 | [],p,p',_,_,_,_=>by unfold gR;exact trivial
 | y::r,p,p',hq,hpl,hpw,h=>by
  have hca:=hc.a;have hcb:=hc.b;have hcd:=hc.d
  have hp':=List.pairwise_cons.1 hpw
  have hy:=h.1
  have keep:y.j9<c.q8→(y.j9≤c.q5→C4 c y r.head?)→CHs p' (stN y.q7 (max (y.j9-c.q5) 0) y.j6::gR c r):=by
   intro g1 g2
   have rg:=hy.2
   refine⟨⟨hy.1,by simp only[stN];omega,by simp only[stN];omega,rg.2.2⟩,fun w hw=>?_,?_⟩
   ·obtain⟨x,hx,hcase⟩:=hq w hw
    have hxy:=h.2.1 x hx
    have hl:=hpl x hx y (by simp)
    rcases hcase with⟨rfl,hlast⟩ | hlt | ⟨he,hge⟩
    ·refine⟨?_,fun⟨e1,e2⟩=>hxy.2 ⟨e1,e2⟩⟩
     rcases hl with hl | hl
     ·exact .inl hl
     ·refine .inr ⟨hl.1,?_⟩
      simp only[stN]
      by_cases hxf:x.j9≤c.q5
      ·have:=hlast hxf
       simp only[List.head?_cons,C4]at this
       rcases this with this | this
       ·exact absurd hl.1.symm this
       ·omega
      ·omega
    ·have hs:sLt w.q7 y.q7=true:=by
      rcases hl with hl | hl
      ·exact G0 hlt hl
      ·rw[←hl.1];exact hlt
     exact⟨.inl hs,fun⟨e1,_⟩=>(Kx hs).2 e1⟩
    ·rcases hl with hl | hl
     ·have hs:sLt w.q7 y.q7=true:=by rw[he];exact hl
      exact⟨.inl hs,fun⟨e1,_⟩=>(Kx hs).2 e1⟩
     ·omega
   ·exact Vx hc r (some y) _ (fun w hw=>⟨y,rfl,.inl ⟨(Option.some.inj hw).symm,g2⟩⟩) (fun x hx=>by cases hx;exact hp'.1) hp'.2 h.2.2
  have drop:(∀w,p'=some w→sLt w.q7 y.q7=true∨(w.q7=y.q7∧c.q8≤y.j9))→CHs p' (gR c r):=fun hd =>
   Vx hc r (some y) p' (fun w hw=>⟨y,rfl,.inr (hd w hw)⟩) (fun x hx=>by cases hx;exact hp'.1) hp'.2 h.2.2
  simp only[gR]
  by_cases g:y.j9≤c.q5
  ·rw[if_pos g]
   by_cases g2:C4 c y r.head?
   ·rw[if_pos g2,List.singleton_append]
    have:=keep (by omega) (fun _=>g2)
    rwa [show max (y.j9-c.q5) 0=0 by omega]at this
   ·rw[if_neg g2,List.nil_append]
    refine drop fun w hw=>?_
    obtain⟨x,hx,hcase⟩:=hq w hw
    have hl:=hpl x hx y (by simp)
    rcases hcase with⟨rfl,hlast⟩ | hlt | ⟨he,hge⟩
    ·rcases hl with hl | hl
     ·exact .inl hl
     ·have:=hlast (by omega)
      simp only[List.head?_cons,C4]at this
      rcases this with this | this
      ·exact absurd hl.1.symm this
      ·omega
    ·left
     rcases hl with hl | hl
     ·exact G0 hlt hl
     ·rw[←hl.1];exact hlt
    ·rcases hl with hl | hl
     ·left;rw[he];exact hl
     ·omega
  ·rw[if_neg g]
   by_cases g2:y.j9<c.q8
   ·rw[if_pos g2,List.singleton_append]
    have:=keep g2 (fun k=>absurd k g)
    rwa [show max (y.j9-c.q5) 0=y.j9-c.q5 by omega]at this
   ·rw[if_neg g2,List.nil_append]
    refine drop fun w hw=>?_
    obtain⟨x,hx,hcase⟩:=hq w hw
    have hl:=hpl x hx y (by simp)
    have hwn:w.q7=x.q7∨sLt w.q7 x.q7=true:=by
     rcases hcase with⟨rfl,_⟩ | hlt | ⟨he,_⟩
     ·exact .inl rfl
     ·exact .inr hlt
     ·exact .inl he
    rcases hl with hl | hl
    ·left
     rcases hwn with e | e
     ·rw[e];exact hl
     ·exact G0 e hl
    ·rcases hwn with e | e
     ·right;exact⟨e.trans hl.1,by omega⟩
     ·left;rw[←hl.1];exact e
theorem aXZ{c1:az}(hc:CSp c1):∀(r:List bJ) (x:bJ),(∀y∈r,stL x y)→r.Pairwise stL→(∀z,r.head? = some z→z.q7=x.q7→c1.q5<z.j9) →
  ∀v,(gR c1 r).head? = some v→v.q7=x.q7→∃z,r.head? = some z∧z.q7=x.q7∧z.j9<c1.q8∧v.j9=z.j9-c1.q5
 | [],x,_,_,_,v,hv,_=>by simp[gR]at hv
 | z::r,x,hx,hp,hz,v,hv,hn=>by
  have hp':=List.pairwise_cons.1 hp
  have mem:∀(l:List bJ),∀u∈gR c1 l,∃y∈l,u.q7=y.q7∧y.j9<c1.q8:=by
   intro l
   induction l with
   | nil=>intro u hu;simp[gR]at hu
   | cons y l ih =>
    intro u hu
    simp only[gR]at hu
    rcases kw.1 hu with hu | hu
    ·have hcb:=hc.b
     split at hu
     ·split at hu
      ·simp only[gw]at hu;subst hu;exact⟨y,by simp,rfl,by omega⟩
      ·simp at hu
     ·split at hu
      ·simp only[gw]at hu;subst hu;exact⟨y,by simp,rfl,by assumption⟩
      ·simp at hu
    ·obtain⟨q,h1,h2⟩:=ih u hu
     exact⟨q,List.mem_cons_of_mem _ h1,h2⟩
  by_cases e:z.q7=x.q7
  ·have h1:=hz z rfl e
   by_cases g:z.j9<c1.q8
   ·simp only[gR,if_neg (show ¬z.j9≤c1.q5 by omega),if_pos g,List.singleton_append,List.head?_cons,ck]at hv
    subst hv
    exact⟨z,rfl,e,g,rfl⟩
   ·exfalso
    simp only[gR,if_neg (show ¬z.j9≤c1.q5 by omega),if_neg g,List.nil_append]at hv
    obtain⟨y,hy,h2,h3⟩:=mem r v (List.mem_of_mem_head? hv)
    have:=aoX (hp'.1 y hy) (e.trans (hn.symm.trans h2))
    omega
  ·exfalso
   obtain⟨y,hy,h2,h3⟩:=mem (z::r) v (List.mem_of_mem_head? hv)
   have hxz:sLt x.q7 z.q7=true:=(hx z (by simp)).resolve_right (fun h=>e h.1.symm)
   rcases jw.1 hy with rfl | hy
   ·exact e (h2.symm.trans hn)
   ·rcases hp'.1 y hy with h4 | h4
    ·have h5:=G0 hxz h4
     exact(Kx h5).2 (hn.symm.trans h2)
    ·exact e (h4.1.trans (h2.symm.trans hn))

end Go.VM
