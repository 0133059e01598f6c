/- The law holds: plain mathematics on what the functions compute. -/
import Derived.Test.YtkemjaomoopdnaaGreatL54B
namespace Go.VM
def tq{α ρ:Type}(g:Nat→α→Option ρ):List α→Nat→Option ρ
 | [],_=>none
 | y::ys,i=>match g i y with
  | some r=>some r
  | none=>tq g ys (i+1)
theorem WY{α ρ:Type}(p:α→Bool)(f:α→ρ):∀(xs:List α) (i:Nat),tq (fun _ y=>if p y=true then some (f y)else none) xs i=(xs.find? p).map f
 | [],_=>rfl
 | y::ys,i=>by
  simp only[tq,List.find?_cons]
  cases h:p y with
  | true=>simp
  | false=>simp[WY p f ys]
theorem anV{α ρ:Type}{g:Nat→α→Option ρ}:∀ {xs:List α} {i:Nat},tq g xs i=none↔∀j y,xs[j]? = some y→g (i+j) y=none
 | [],i=>by simp[tq]
 | y::ys,i=>by
  simp only[tq]
  cases h:g i y with
  | some r =>
   simp only[reduceCtorEq,false_iff]
   intro hx
   have:=hx 0 y rfl
   rw[Nat.add_zero,h]at this;simp at this
  | none =>
   rw[anV (xs:=ys) (i:=i+1)]
   constructor
   ·intro hx j y' hj
    cases j with
    | zero=>simp at hj;subst hj;exact h
    | succ j=>have:=hx j y' (by simpa using hj);rwa [show i+1+j=i+(j+1)from by omega]at this
   ·intro hx j y' hj
    have:=hx (j+1) y' (by simpa using hj)
    rwa [show i+(j+1)=i+1+j from by omega]at this
theorem abZ{α ρ:Type}(g:Nat → α → Option ρ)(e:ρ):∀(xs:List α) (i:Nat),adK (fun i y (_:Unit) => match g i y with | some r => Sum.inr r | none => .inl ()) (fun _ => e) xs i ()=(tq g xs i).getD e
 | [],_=>rfl
 | y::ys,i=>by
  simp only[adK,tq]
  cases g i y with
  | some r=>rfl
  | none=>exact abZ g e ys (i+1)
theorem LZ{α ρ:Type}{step:Int→Option (Int ⊕ ρ)}(xs:List α)(g:Nat→α→Option ρ)(e:ρ)(hl:xs.length<gz)
  (h1:∀(i:Nat) y,xs[i]? = some y → step (i:Int)=some (match g i y with | some r => .inr r | none => .inl ((i:Int)+1))) (h2:step (xs.length:Int)=some (.inr e)):loop step 0=some ((tq g xs 0).getD e) := by
 have := afJ (σ := Unit) (step := step) xs (fun i _ => (i:Int)) (fun i y _ => match g i y with | some r => .inr r | none => .inl ()) (fun _ => e) hl
  (fun i y s hy=>by
   rw[h1 i y hy]
   cases g i y<;>simp)
  (fun _=>h2) ()
 rw[show(0:Int)=((0:Nat):Int)from rfl,this,abZ]
theorem dJ{α:Type}{xs:List α}{i:Nat}{y:α}(h:xs[i]? = some y):i<xs.length:=(cw.1 h).1
theorem O6{i:Nat}(h:i<9223372036854775807):w64 ((i:Int)+1)=(i:Int)+1:=ax (by omega)
end Go.VM
namespace Go.VM
def Ok{α:Type}(x:Option α)(P:α→Prop):Prop:=∃r,x=some r∧P r
def Yes{α:Type}:α→Prop:=fun _=>True
def oZ{α β:Type}(A:α→Prop)(B:β→Prop):α ⊕ β→Prop
 | .inl a=>A a
 | .inr b=>B b
theorem bK{α:Type}{P:α→Prop}{r:α}(h:P r):Ok (some r) P:=⟨r,rfl,h⟩
theorem jQ{α β:Type}{A:α→Prop}{B:β→Prop}{a:α}(h:A a):Ok (some (.inl a)) (oZ A B):=⟨_,rfl,h⟩
theorem d8{α β:Type}{A:α→Prop}{B:β→Prop}{b:β}(h:B b):Ok (some (.inr b)) (oZ A B):=⟨_,rfl,h⟩
theorem aq{α β:Type}{x:Option α}{f:α→Option β}{Q:α→Prop}{P:β→Prop}(hx:Ok x Q)(hf:∀r,Q r→Ok (f r) P):Ok (x.bind f) P:=by
 obtain⟨r,h1,h2⟩:=hx
 subst h1;exact hf r h2
theorem eW{α β γ:Type}{x:Option (α ⊕ γ)}{f:α ⊕ γ→Option β}{Q:α ⊕ γ→Prop}{P:β→Prop}(hx:Ok x Q)(hf:∀r,Q (.inl r)→Ok (f (.inl r)) P)(hg:∀r,Q (.inr r)→Ok (f (.inr r)) P):Ok (x.bind f) P :=
 aq hx (fun r => match r with | .inl a => hf a | .inr b => hg b)
theorem aqY{α β:Type}{x:Option α}{f:α→Option β}{P:β→Prop}(hx:Ok x Yes)(hf:∀r,x=some r→Ok (f r) P):Ok (x.bind f) P:=by
 obtain⟨r,h1,h2⟩:=hx
 subst h1;exact hf r rfl
theorem bJ{α:Type}{b:Bool}{x y:Option α}{P:α→Prop}(h1:b=true→Ok x P)(h2:b=false→Ok y P):Ok (cond b x y) P:=by
 cases b
 ·exact h2 rfl
 ·exact h1 rfl
theorem Ok.mono{α:Type}{x:Option α}{P Q:α→Prop}(h:Ok x P)(hq:∀r,P r→Q r):Ok x Q:=by
 obtain⟨r,h1,h2⟩:=h;exact⟨r,h1,hq r h2⟩
theorem Ok.yes{α:Type}{x:Option α}{P:α→Prop}(h:Ok x P):Ok x Yes:=h.mono (fun _ _=>trivial)
theorem Ok.of_eq{α:Type}{x:Option α}{P:α→Prop}{r:α}(h:Ok x P)(e:x=some r):P r:=by
 obtain⟨r',h1,h2⟩:=h;rw[e]at h1;cases h1;exact h2
theorem cj{α:Type}{xs:List α}{i:Int}(h1:0≤i)(h2:i<xs.length):Ok (idx xs i) (fun y=>xs[i.toNat]? = some y):=by
 obtain⟨n,rfl⟩:=Int.eq_ofNat_of_zero_le h1
 have h3:n<xs.length:=by omega
 rw[j4]
 exact⟨xs[n],by simp[h3],by simp[h3]⟩
theorem A8{S ρ:Type}{step:S→Option (S ⊕ ρ)}(Inv:S→Prop)(m:S→Nat){Post:ρ→Prop}
  (h:∀s,Inv s→Ok (step s) (oZ (fun s'=>Inv s'∧m s'<m s) Post)) {s:S} (hs:Inv s) (hm:m s<gz):Ok (loop step s) Post:=by
 refine aJQ Inv m Post (fun s hs=>?_) hs hm
 obtain⟨r,h1,h2⟩:=h s hs
 cases r with
 | inl a=>exact Or.inl ⟨a,h1,h2⟩
 | inr b=>exact Or.inr ⟨b,h1,h2⟩
theorem wz{ρ:Type}{step:Int→Option (Int ⊕ ρ)}(n:Nat){Post:ρ→Prop}(hn:n≤9223372036854775807)
  (h:∀i:Int,0≤i→i≤n→Ok (step i) (oZ (fun a=>i<n∧a=i+1) Post)):Ok (loop step 0) Post:=by
 refine A8 (fun i:Int=>0≤i∧i≤(n:Int)) (fun i:Int=>((n:Int)-i).toNat) (fun i hi=>(h i hi.1 hi.2).mono ?_) ⟨by omega,by omega⟩ (by simp[gz];omega)
 rintro (a | b) hr
 ·obtain⟨h1,rfl⟩ : i<n∧a=i+1:=hr
  exact⟨⟨by omega,by omega⟩,by omega⟩
 ·exact hr
theorem cX{α:Type}{r:α}:Ok (some r) Yes:=⟨r,rfl,trivial⟩
theorem cJ{α β:Type}{B:β→Prop}{a:α}:Ok (some (.inl a)) (oZ Yes B):=⟨_,rfl,trivial⟩
theorem bW{α β:Type}{A:α→Prop}{b:β}:Ok (some (.inr b)) (oZ A Yes):=⟨_,rfl,trivial⟩
theorem cQ{ρ:Type}{i:Int}{n:Nat}{P:ρ→Prop}(h1:0≤i)(h2:i<(n:Int))(h3:n≤9223372036854775807):Ok (some (.inl (w64 (i+1)))) (oZ (fun a:Int=>i<(n:Int)∧a=i+1) P) :=
 jQ ⟨h2,ax (by omega)⟩
theorem bQ{α:Type}{p:Prop}[Decidable p]{x y:Option α}{P:α→Prop}(h1:p→Ok x P)(h2 : ¬p→Ok y P):Ok (cond (decide p) x y) P :=
 bJ (fun h=>h1 (of_decide_eq_true h)) (fun h=>h2 (of_decide_eq_false h))
theorem bX{α:Type}{p:Prop}[Decidable p]{x y:Option α}{P:α→Prop}(h1 : ¬p→Ok x P)(h2:p→Ok y P):Ok (cond (!decide p) x y) P:=by
 by_cases h:p
 ·simpa[h]using h2 h
 ·simpa[h]using h1 h
theorem c8{α:Type}{b:Bool}{x y:Option α}{P:α→Prop}(h1:b=false→Ok x P)(h2:b=true→Ok y P):Ok (cond (!b) x y) P:=by
 cases b
 ·exact h1 rfl
 ·exact h2 rfl
abbrev Tot{α:Type}(x:Option α):Prop:=Ok x Yes
theorem R5{σ ρ:Type}{step:σ×Int→Option ((σ×Int) ⊕ ρ)}(n:Nat)(Inv:σ→Int→Prop){Post:ρ→Prop}(hn:n≤9223372036854775807){s0:σ}(h0:Inv s0 0)
  (h:∀(s:σ) (i:Int),Inv s i→0≤i→i≤n→Ok (step (s,i)) (oZ (fun a=>i<n∧a.2=i+1∧Inv a.1 (i+1)) Post)):Ok (loop step (s0,0)) Post:=by
 refine A8 (fun s:σ×Int=>Inv s.1 s.2∧0≤s.2∧s.2≤(n:Int)) (fun s:σ×Int=>((n:Int)-s.2).toNat) (fun s hi=>(h s.1 s.2 hi.1 hi.2.1 hi.2.2).mono ?_) ⟨h0,by simp,by simp⟩ (by simp[gz];omega)
 rintro (⟨a,j⟩ | b) hr
 ·obtain⟨h1,h2,h3⟩ : s.2<n∧j=s.2+1∧Inv a (s.2+1):=hr
  subst h2
  exact⟨⟨h3,by simp;omega,by simp;omega⟩,by simp;omega⟩
 ·exact hr
theorem Tj{σ ρ:Type}{s:σ}{i:Int}{n:Nat}{Inv:σ→Int→Prop}{P:ρ→Prop}(hI:Inv s (i+1))(h1:0≤i)(h2:i<(n:Int))(h3:n≤9223372036854775807):Ok (some (.inl (s,w64 (i+1)))) (oZ (fun a:σ×Int=>i<(n:Int)∧a.2=i+1∧Inv a.1 (i+1)) P) :=
 jQ ⟨h2,ax (by omega),hI⟩
theorem avW{ρ:Type}{step:Int→Option (Int ⊕ ρ)}(n:Nat)(Inv:Int→Prop){Post:ρ→Prop}(hn:n≤9223372036854775807)(h0:Inv 0)
  (h:∀i:Int,Inv i→0≤i→i≤n→Ok (step i) (oZ (fun a=>i<n∧a=i+1∧Inv (i+1)) Post)):Ok (loop step 0) Post:=by
 refine A8 (fun i:Int=>Inv i∧0≤i∧i≤(n:Int)) (fun i:Int=>((n:Int)-i).toNat) (fun i hi=>(h i hi.1 hi.2.1 hi.2.2).mono ?_) ⟨h0,by omega,by omega⟩ (by simp[gz];omega)
 rintro (a | b) hr
 ·obtain⟨h1,rfl,h3⟩ : i<n∧a=i+1∧Inv (i+1):=hr
  exact⟨⟨h3,by omega,by omega⟩,by omega⟩
 ·exact hr
theorem atW{ρ:Type}{i:Int}{n:Nat}{Inv:Int→Prop}{P:ρ→Prop}(hI:Inv (i+1))(h1:0≤i)(h2:i<(n:Int))(h3:n≤9223372036854775807):Ok (some (.inl (w64 (i+1)))) (oZ (fun a:Int=>i<(n:Int)∧a=i+1∧Inv (i+1)) P) :=
 jQ ⟨h2,ax (by omega),hI⟩
theorem Gz{b n:Nat}(h1:n*b≤140737488355328)(h2:n≤9223372036854775807):KV b n=true:=by
 simp only[KV,bw]
 exact⟨Nat.ble_eq_true_of_le h1,Nat.ble_eq_true_of_le h2⟩
theorem A7(s:bZ):lQ s=some (decide (0≤s.fFrom∧s.fFrom<s.fTo∧s.fTo≤1000000000000)):=by
 unfold lQ
 by_cases h1:0≤s.fFrom<;>by_cases h2:s.fFrom<s.fTo<;>by_cases h3:s.fTo≤1000000000000<;>simp[h1,h2,h3]
theorem WQ(c:Int):Ok (u4 c) Yes:=by
 unfold u4 i6 o4
 repeat' (first | (with_reducible first | exact cX | exact bW | exact cJ | refine bX (fun _=>?_) fun _=>?_ | refine bQ (fun _=>?_) fun _=>?_ | refine c8 (fun _=>?_) fun _=>?_ | refine bJ (fun _=>?_) fun _=>?_) | (with_reducible refine cQ ?_ ?_ ?_<;>(first | assumption | omega | rw[ax]<;>omega)) | with_reducible refine aq (cj (by(first | assumption | omega | rw[ax]<;>omega)) (by(first | assumption | omega | rw[ax]<;>omega))) (fun _ _=>?_) | (with_reducible refine aq (Q:=Yes) ?_ fun _ _=>?_) | dsimp only)
theorem nW(s:ByteArray)(h:s.size≤9223372036854775807):Ok (nJ s) Yes:=by
 unfold nJ
 refine aq (Q:=Yes) ?_ (fun v _=>?_)
 ·repeat' (first | (with_reducible first | exact cX | exact bW | exact cJ | refine bX (fun _=>?_) fun _=>?_ | refine bQ (fun _=>?_) fun _=>?_ | refine c8 (fun _=>?_) fun _=>?_ | refine bJ (fun _=>?_) fun _=>?_) | (with_reducible refine cQ ?_ ?_ ?_<;>(first | assumption | omega | rw[ax]<;>omega)) | with_reducible refine aq (cj (by(first | assumption | omega | rw[ax]<;>omega)) (by(first | assumption | omega | rw[ax]<;>omega))) (fun _ _=>?_) | (with_reducible refine aq (Q:=Yes) ?_ fun _ _=>?_) | dsimp only)
 refine bJ (fun _=>bK trivial) (fun _=>?_)
 have e:s.data.toList.length=s.size:=by rw[Array.length_toList];rfl
 refine eW (Q:=Yes) (wz s.size h fun i h1 h2=>?_) (fun _ _=>?_) (fun _ _=>?_)
 ·unfold s5
  repeat' (first | (with_reducible first | exact cX | exact bW | exact cJ | refine bX (fun _=>?_) fun _=>?_ | refine bQ (fun _=>?_) fun _=>?_ | refine c8 (fun _=>?_) fun _=>?_ | refine bJ (fun _=>?_) fun _=>?_) | (with_reducible refine cQ ?_ ?_ ?_<;>(first | assumption | omega | rw[ax]<;>omega)) | with_reducible refine aq (cj (by(first | assumption | omega | rw[ax]<;>omega)) (by(first | assumption | omega | rw[ax]<;>omega))) (fun _ _=>?_) | (with_reducible refine Ok.yes (cj ?_ (by rw[e];(first | assumption | omega | rw[ax]<;>omega)))<;>(first | assumption | omega | rw[ax]<;>omega)) | (with_reducible refine Ok.yes (WQ _)<;>(first | assumption | omega | rw[ax]<;>omega)) | (with_reducible refine aq (Q:=Yes) ?_ fun _ _=>?_) | dsimp only)
 ·repeat' (first | (with_reducible first | exact cX | exact bW | exact cJ | refine bX (fun _=>?_) fun _=>?_ | refine bQ (fun _=>?_) fun _=>?_ | refine c8 (fun _=>?_) fun _=>?_ | refine bJ (fun _=>?_) fun _=>?_) | (with_reducible refine cQ ?_ ?_ ?_<;>(first | assumption | omega | rw[ax]<;>omega)) | with_reducible refine aq (cj (by(first | assumption | omega | rw[ax]<;>omega)) (by(first | assumption | omega | rw[ax]<;>omega))) (fun _ _=>?_) | (with_reducible refine aq (Q:=Yes) ?_ fun _ _=>?_) | dsimp only)
 ·repeat' (first | (with_reducible first | exact cX | exact bW | exact cJ | refine bX (fun _=>?_) fun _=>?_ | refine bQ (fun _=>?_) fun _=>?_ | refine c8 (fun _=>?_) fun _=>?_ | refine bJ (fun _=>?_) fun _=>?_) | (with_reducible refine cQ ?_ ?_ ?_<;>(first | assumption | omega | rw[ax]<;>omega)) | with_reducible refine aq (cj (by(first | assumption | omega | rw[ax]<;>omega)) (by(first | assumption | omega | rw[ax]<;>omega))) (fun _ _=>?_) | (with_reducible refine aq (Q:=Yes) ?_ fun _ _=>?_) | dsimp only)
abbrev okN(s:ByteArray):Prop:=s.size≤9223372036854775807
theorem C1(t:dz)(h:okN t.fName):Ok (n7 t) Yes:=by
 unfold n7
 repeat' (first | (with_reducible first | exact cX | exact bW | exact cJ | refine bX (fun _=>?_) fun _=>?_ | refine bQ (fun _=>?_) fun _=>?_ | refine c8 (fun _=>?_) fun _=>?_ | refine bJ (fun _=>?_) fun _=>?_) | (with_reducible refine cQ ?_ ?_ ?_<;>(first | assumption | omega | rw[ax]<;>omega)) | with_reducible refine aq (cj (by(first | assumption | omega | rw[ax]<;>omega)) (by(first | assumption | omega | rw[ax]<;>omega))) (fun _ _=>?_) | (with_reducible refine Ok.yes (nW _ h)<;>(first | assumption | omega | rw[ax]<;>omega)) | (with_reducible refine aq (Q:=Yes) ?_ fun _ _=>?_) | dsimp only)
theorem s9(s:bZ):Ok (lQ s) Yes:=by
 unfold lQ
 repeat' (first | (with_reducible first | exact cX | exact bW | exact cJ | refine bX (fun _=>?_) fun _=>?_ | refine bQ (fun _=>?_) fun _=>?_ | refine c8 (fun _=>?_) fun _=>?_ | refine bJ (fun _=>?_) fun _=>?_) | (with_reducible refine cQ ?_ ?_ ?_<;>(first | assumption | omega | rw[ax]<;>omega)) | with_reducible refine aq (cj (by(first | assumption | omega | rw[ax]<;>omega)) (by(first | assumption | omega | rw[ax]<;>omega))) (fun _ _=>?_) | (with_reducible refine aq (Q:=Yes) ?_ fun _ _=>?_) | dsimp only)
theorem H8(a b:Int):Ok (lY a b) Yes:=by
 unfold lY yK
 repeat' (first | (with_reducible first | exact cX | exact bW | exact cJ | refine bX (fun _=>?_) fun _=>?_ | refine bQ (fun _=>?_) fun _=>?_ | refine c8 (fun _=>?_) fun _=>?_ | refine bJ (fun _=>?_) fun _=>?_) | (with_reducible refine cQ ?_ ?_ ?_<;>(first | assumption | omega | rw[ax]<;>omega)) | with_reducible refine aq (cj (by(first | assumption | omega | rw[ax]<;>omega)) (by(first | assumption | omega | rw[ax]<;>omega))) (fun _ _=>?_) | (with_reducible refine aq (Q:=Yes) ?_ fun _ _=>?_) | dsimp only)
theorem Q2(l:List Int)(h:l.length≤9223372036854775807):Ok (A2 l) Yes:=by
 unfold A2
 refine eW (Q:=Yes) (wz l.length (by omega) fun i h1 h2=>?_) (fun _ _=>?_) (fun _ _=>?_)
 ·unfold Cx
  repeat' (first | (with_reducible first | exact cX | exact bW | exact cJ | refine bX (fun _=>?_) fun _=>?_ | refine bQ (fun _=>?_) fun _=>?_ | refine c8 (fun _=>?_) fun _=>?_ | refine bJ (fun _=>?_) fun _=>?_) | (with_reducible refine cQ ?_ ?_ ?_<;>(first | assumption | omega | rw[ax]<;>omega)) | with_reducible refine aq (cj (by(first | assumption | omega | rw[ax]<;>omega)) (by(first | assumption | omega | rw[ax]<;>omega))) (fun _ _=>?_) | (with_reducible refine aq (Q:=Yes) ?_ fun _ _=>?_) | dsimp only)
 ·repeat' (first | (with_reducible first | exact cX | exact bW | exact cJ | refine bX (fun _=>?_) fun _=>?_ | refine bQ (fun _=>?_) fun _=>?_ | refine c8 (fun _=>?_) fun _=>?_ | refine bJ (fun _=>?_) fun _=>?_) | (with_reducible refine cQ ?_ ?_ ?_<;>(first | assumption | omega | rw[ax]<;>omega)) | with_reducible refine aq (cj (by(first | assumption | omega | rw[ax]<;>omega)) (by(first | assumption | omega | rw[ax]<;>omega))) (fun _ _=>?_) | (with_reducible refine aq (Q:=Yes) ?_ fun _ _=>?_) | dsimp only)
 ·repeat' (first | (with_reducible first | exact cX | exact bW | exact cJ | refine bX (fun _=>?_) fun _=>?_ | refine bQ (fun _=>?_) fun _=>?_ | refine c8 (fun _=>?_) fun _=>?_ | refine bJ (fun _=>?_) fun _=>?_) | (with_reducible refine cQ ?_ ?_ ?_<;>(first | assumption | omega | rw[ax]<;>omega)) | with_reducible refine aq (cj (by(first | assumption | omega | rw[ax]<;>omega)) (by(first | assumption | omega | rw[ax]<;>omega))) (fun _ _=>?_) | (with_reducible refine aq (Q:=Yes) ?_ fun _ _=>?_) | dsimp only)
theorem Lz(a b:aK):Ok (sX a b) Yes:=by
 unfold sX
 repeat' (first | (with_reducible first | exact cX | exact bW | exact cJ | refine bX (fun _=>?_) fun _=>?_ | refine bQ (fun _=>?_) fun _=>?_ | refine c8 (fun _=>?_) fun _=>?_ | refine bJ (fun _=>?_) fun _=>?_) | (with_reducible refine cQ ?_ ?_ ?_<;>(first | assumption | omega | rw[ax]<;>omega)) | with_reducible refine aq (cj (by(first | assumption | omega | rw[ax]<;>omega)) (by(first | assumption | omega | rw[ax]<;>omega))) (fun _ _=>?_) | (with_reducible refine Ok.yes (H8 _ _)<;>(first | assumption | omega | rw[ax]<;>omega)) | (with_reducible refine Ok.yes (Q2 _ (Nat.le_of_ble_eq_true rfl))<;>(first | assumption | omega | rw[ax]<;>omega)) | (with_reducible refine aq (Q:=Yes) ?_ fun _ _=>?_) | dsimp only)
theorem vK(l:List ByteArray)(h:l.length≤9223372036854775807)(hx:∀x∈l,okN x):Ok (sY l) Yes:=by
 unfold sY
 refine bQ (fun _=>cX) (fun _=>?_)
 refine eW (Q:=Yes) (wz l.length (by omega) fun i h1 h2=>?_) (fun _ _=>?_) (fun _ _=>?_)
 ·unfold wx
  repeat' (first | (with_reducible first | exact cX | exact bW | exact cJ | refine bX (fun _=>?_) fun _=>?_ | refine bQ (fun _=>?_) fun _=>?_ | refine c8 (fun _=>?_) fun _=>?_ | refine bJ (fun _=>?_) fun _=>?_) | (with_reducible refine cQ ?_ ?_ ?_<;>(first | assumption | omega | rw[ax]<;>omega)) | with_reducible refine aq (cj (by(first | assumption | omega | rw[ax]<;>omega)) (by(first | assumption | omega | rw[ax]<;>omega))) (fun _ _=>?_) | (with_reducible refine Ok.yes (nW _ (hx _ (fk (by assumption))))<;>(first | assumption | omega | rw[ax]<;>omega)) | (with_reducible refine aq (Q:=Yes) ?_ fun _ _=>?_) | dsimp only)
 ·repeat' (first | (with_reducible first | exact cX | exact bW | exact cJ | refine bX (fun _=>?_) fun _=>?_ | refine bQ (fun _=>?_) fun _=>?_ | refine c8 (fun _=>?_) fun _=>?_ | refine bJ (fun _=>?_) fun _=>?_) | (with_reducible refine cQ ?_ ?_ ?_<;>(first | assumption | omega | rw[ax]<;>omega)) | with_reducible refine aq (cj (by(first | assumption | omega | rw[ax]<;>omega)) (by(first | assumption | omega | rw[ax]<;>omega))) (fun _ _=>?_) | (with_reducible refine Ok.yes (nW _ (hx _ (fk (by assumption))))<;>(first | assumption | omega | rw[ax]<;>omega)) | (with_reducible refine aq (Q:=Yes) ?_ fun _ _=>?_) | dsimp only)
 ·repeat' (first | (with_reducible first | exact cX | exact bW | exact cJ | refine bX (fun _=>?_) fun _=>?_ | refine bQ (fun _=>?_) fun _=>?_ | refine c8 (fun _=>?_) fun _=>?_ | refine bJ (fun _=>?_) fun _=>?_) | (with_reducible refine cQ ?_ ?_ ?_<;>(first | assumption | omega | rw[ax]<;>omega)) | with_reducible refine aq (cj (by(first | assumption | omega | rw[ax]<;>omega)) (by(first | assumption | omega | rw[ax]<;>omega))) (fun _ _=>?_) | (with_reducible refine Ok.yes (nW _ (hx _ (fk (by assumption))))<;>(first | assumption | omega | rw[ax]<;>omega)) | (with_reducible refine aq (Q:=Yes) ?_ fun _ _=>?_) | dsimp only)
structure Siz(t:aY):Prop where
 th:t.fThreads.length≤9223372036854775807
 sl:t.fSlices.length≤9223372036854775807
 st:t.fStates.length≤9223372036854775807
 fl:t.fFlows.length≤9223372036854775807
 sa:t.fSamples.length≤9223372036854775807
 sp:t.fSteps.length≤9223372036854775807
 bl:t.fBlocks.length≤9223372036854775807
 lo:t.fLost.length≤9223372036854775807
 nTh:∀x∈t.fThreads,okN x.fName
 nSl:∀x∈t.fSlices,okN x.fName
 nSa:∀x∈t.fSamples,x.fStack.length≤9223372036854775807∧∀y∈x.fStack,okN y
 nSp:∀x∈t.fSteps,okN x.fName
 nBl:∀x∈t.fBlocks,x.fStack.length≤9223372036854775807∧∀y∈x.fStack,okN y
theorem KW(t:aY)(hl:t.fThreads.length≤9223372036854775807)(hn:∀x∈t.fThreads,okN x.fName):Ok (pW t) (oZ (fun r=>r.2≠0) Yes):=by
 unfold pW
 refine bQ (fun _=>jQ (by simp)) (fun _=>?_)
 refine eW (Q:=oZ Yes (oZ (fun r=>r.2≠0) Yes)) (R5 t.fThreads.length (fun _ _=>True) hl trivial (fun a i _ h1 h2=>?_)) (fun _ _=>?_) (fun r hr=>?_)
 ·unfold Bx
  dsimp only
  refine bQ (fun h=>?_) (fun _=>d8 trivial)
  refine aq (cj h1 h) (fun y hy=>?_)
  refine aq (C1 _ (hn _ (fk hy))) (fun r _=>?_)
  refine bX (fun h0=>d8 h0) (fun _=>?_)
  refine bJ (fun _=>d8 (by simp[oZ])) (fun _=>?_)
  exact Tj (Inv:=fun _ _=>True) trivial h1 h hl
 ·exact d8 trivial
 ·exact⟨_,rfl,hr⟩
theorem Dz(a):Tot (z7 a):=⟨_,rfl,trivial⟩
theorem z1(e:Int)(m)(l:List aK)(h:l.length≤9223372036854775807):Tot (gZ e m l):=by
 unfold gZ
 refine bX (fun _=>cX) (fun _=>?_)
 refine eW (Q:=Yes) (wz l.length (by omega) fun i h1 h2=>?_) (fun _ _=>?_) (fun _ _=>?_)
 ·unfold kz
  repeat' (first | (with_reducible first | exact cX | exact bW | exact cJ | refine bX (fun _=>?_) fun _=>?_ | refine bQ (fun _=>?_) fun _=>?_ | refine c8 (fun _=>?_) fun _=>?_ | refine bJ (fun _=>?_) fun _=>?_) | (with_reducible refine cQ ?_ ?_ ?_<;>(first | assumption | omega | rw[ax]<;>omega)) | with_reducible refine aq (cj (by(first | assumption | omega | rw[ax]<;>omega)) (by(first | assumption | omega | rw[ax]<;>omega))) (fun _ _=>?_) | (with_reducible refine Ok.yes (Dz _)<;>(first | assumption | omega | rw[ax]<;>omega)) | (with_reducible refine aq (Q:=Yes) ?_ fun _ _=>?_) | dsimp only)
 ·repeat' (first | (with_reducible first | exact cX | exact bW | exact cJ | refine bX (fun _=>?_) fun _=>?_ | refine bQ (fun _=>?_) fun _=>?_ | refine c8 (fun _=>?_) fun _=>?_ | refine bJ (fun _=>?_) fun _=>?_) | (with_reducible refine cQ ?_ ?_ ?_<;>(first | assumption | omega | rw[ax]<;>omega)) | with_reducible refine aq (cj (by(first | assumption | omega | rw[ax]<;>omega)) (by(first | assumption | omega | rw[ax]<;>omega))) (fun _ _=>?_) | (with_reducible refine Ok.yes (Dz _)<;>(first | assumption | omega | rw[ax]<;>omega)) | (with_reducible refine aq (Q:=Yes) ?_ fun _ _=>?_) | dsimp only)
 ·repeat' (first | (with_reducible first | exact cX | exact bW | exact cJ | refine bX (fun _=>?_) fun _=>?_ | refine bQ (fun _=>?_) fun _=>?_ | refine c8 (fun _=>?_) fun _=>?_ | refine bJ (fun _=>?_) fun _=>?_) | (with_reducible refine cQ ?_ ?_ ?_<;>(first | assumption | omega | rw[ax]<;>omega)) | with_reducible refine aq (cj (by(first | assumption | omega | rw[ax]<;>omega)) (by(first | assumption | omega | rw[ax]<;>omega))) (fun _ _=>?_) | (with_reducible refine Ok.yes (Dz _)<;>(first | assumption | omega | rw[ax]<;>omega)) | (with_reducible refine aq (Q:=Yes) ?_ fun _ _=>?_) | dsimp only)
theorem DX(a):Tot (A6 a):=⟨_,rfl,trivial⟩
theorem AW(e:Int)(m)(l:List fX)(h:l.length≤9223372036854775807):Tot (jK e m l):=by
 unfold jK
 refine bX (fun _=>cX) (fun _=>?_)
 refine eW (Q:=Yes) (wz l.length (by omega) fun i h1 h2=>?_) (fun _ _=>?_) (fun _ _=>?_)
 ·unfold lJ
  repeat' (first | (with_reducible first | exact cX | exact bW | exact cJ | refine bX (fun _=>?_) fun _=>?_ | refine bQ (fun _=>?_) fun _=>?_ | refine c8 (fun _=>?_) fun _=>?_ | refine bJ (fun _=>?_) fun _=>?_) | (with_reducible refine cQ ?_ ?_ ?_<;>(first | assumption | omega | rw[ax]<;>omega)) | with_reducible refine aq (cj (by(first | assumption | omega | rw[ax]<;>omega)) (by(first | assumption | omega | rw[ax]<;>omega))) (fun _ _=>?_) | (with_reducible refine Ok.yes (DX _)<;>(first | assumption | omega | rw[ax]<;>omega)) | (with_reducible refine aq (Q:=Yes) ?_ fun _ _=>?_) | dsimp only)
 ·repeat' (first | (with_reducible first | exact cX | exact bW | exact cJ | refine bX (fun _=>?_) fun _=>?_ | refine bQ (fun _=>?_) fun _=>?_ | refine c8 (fun _=>?_) fun _=>?_ | refine bJ (fun _=>?_) fun _=>?_) | (with_reducible refine cQ ?_ ?_ ?_<;>(first | assumption | omega | rw[ax]<;>omega)) | with_reducible refine aq (cj (by(first | assumption | omega | rw[ax]<;>omega)) (by(first | assumption | omega | rw[ax]<;>omega))) (fun _ _=>?_) | (with_reducible refine Ok.yes (DX _)<;>(first | assumption | omega | rw[ax]<;>omega)) | (with_reducible refine aq (Q:=Yes) ?_ fun _ _=>?_) | dsimp only)
 ·repeat' (first | (with_reducible first | exact cX | exact bW | exact cJ | refine bX (fun _=>?_) fun _=>?_ | refine bQ (fun _=>?_) fun _=>?_ | refine c8 (fun _=>?_) fun _=>?_ | refine bJ (fun _=>?_) fun _=>?_) | (with_reducible refine cQ ?_ ?_ ?_<;>(first | assumption | omega | rw[ax]<;>omega)) | with_reducible refine aq (cj (by(first | assumption | omega | rw[ax]<;>omega)) (by(first | assumption | omega | rw[ax]<;>omega))) (fun _ _=>?_) | (with_reducible refine Ok.yes (DX _)<;>(first | assumption | omega | rw[ax]<;>omega)) | (with_reducible refine aq (Q:=Yes) ?_ fun _ _=>?_) | dsimp only)
theorem C5(a):Tot (AK a):=⟨_,rfl,trivial⟩
theorem A5(e:Int)(m)(l:List fX)(h:l.length≤9223372036854775807):Tot (jW e m l):=by
 unfold jW
 refine bX (fun _=>cX) (fun _=>?_)
 refine eW (Q:=Yes) (wz l.length (by omega) fun i h1 h2=>?_) (fun _ _=>?_) (fun _ _=>?_)
 ·unfold lV
  repeat' (first | (with_reducible first | exact cX | exact bW | exact cJ | refine bX (fun _=>?_) fun _=>?_ | refine bQ (fun _=>?_) fun _=>?_ | refine c8 (fun _=>?_) fun _=>?_ | refine bJ (fun _=>?_) fun _=>?_) | (with_reducible refine cQ ?_ ?_ ?_<;>(first | assumption | omega | rw[ax]<;>omega)) | with_reducible refine aq (cj (by(first | assumption | omega | rw[ax]<;>omega)) (by(first | assumption | omega | rw[ax]<;>omega))) (fun _ _=>?_) | (with_reducible refine Ok.yes (C5 _)<;>(first | assumption | omega | rw[ax]<;>omega)) | (with_reducible refine aq (Q:=Yes) ?_ fun _ _=>?_) | dsimp only)
 ·repeat' (first | (with_reducible first | exact cX | exact bW | exact cJ | refine bX (fun _=>?_) fun _=>?_ | refine bQ (fun _=>?_) fun _=>?_ | refine c8 (fun _=>?_) fun _=>?_ | refine bJ (fun _=>?_) fun _=>?_) | (with_reducible refine cQ ?_ ?_ ?_<;>(first | assumption | omega | rw[ax]<;>omega)) | with_reducible refine aq (cj (by(first | assumption | omega | rw[ax]<;>omega)) (by(first | assumption | omega | rw[ax]<;>omega))) (fun _ _=>?_) | (with_reducible refine Ok.yes (C5 _)<;>(first | assumption | omega | rw[ax]<;>omega)) | (with_reducible refine aq (Q:=Yes) ?_ fun _ _=>?_) | dsimp only)
 ·repeat' (first | (with_reducible first | exact cX | exact bW | exact cJ | refine bX (fun _=>?_) fun _=>?_ | refine bQ (fun _=>?_) fun _=>?_ | refine c8 (fun _=>?_) fun _=>?_ | refine bJ (fun _=>?_) fun _=>?_) | (with_reducible refine cQ ?_ ?_ ?_<;>(first | assumption | omega | rw[ax]<;>omega)) | with_reducible refine aq (cj (by(first | assumption | omega | rw[ax]<;>omega)) (by(first | assumption | omega | rw[ax]<;>omega))) (fun _ _=>?_) | (with_reducible refine Ok.yes (C5 _)<;>(first | assumption | omega | rw[ax]<;>omega)) | (with_reducible refine aq (Q:=Yes) ?_ fun _ _=>?_) | dsimp only)
theorem C6(a):Tot (Ax a):=⟨_,rfl,trivial⟩
theorem yZ(e:Int)(m)(l:List eY)(h:l.length≤9223372036854775807):Tot (i1 e m l):=by
 unfold i1
 refine bX (fun _=>cX) (fun _=>?_)
 refine eW (Q:=Yes) (wz l.length (by omega) fun i h1 h2=>?_) (fun _ _=>?_) (fun _ _=>?_)
 ·unfold j8
  repeat' (first | (with_reducible first | exact cX | exact bW | exact cJ | refine bX (fun _=>?_) fun _=>?_ | refine bQ (fun _=>?_) fun _=>?_ | refine c8 (fun _=>?_) fun _=>?_ | refine bJ (fun _=>?_) fun _=>?_) | (with_reducible refine cQ ?_ ?_ ?_<;>(first | assumption | omega | rw[ax]<;>omega)) | with_reducible refine aq (cj (by(first | assumption | omega | rw[ax]<;>omega)) (by(first | assumption | omega | rw[ax]<;>omega))) (fun _ _=>?_) | (with_reducible refine Ok.yes (C6 _)<;>(first | assumption | omega | rw[ax]<;>omega)) | (with_reducible refine aq (Q:=Yes) ?_ fun _ _=>?_) | dsimp only)
 ·repeat' (first | (with_reducible first | exact cX | exact bW | exact cJ | refine bX (fun _=>?_) fun _=>?_ | refine bQ (fun _=>?_) fun _=>?_ | refine c8 (fun _=>?_) fun _=>?_ | refine bJ (fun _=>?_) fun _=>?_) | (with_reducible refine cQ ?_ ?_ ?_<;>(first | assumption | omega | rw[ax]<;>omega)) | with_reducible refine aq (cj (by(first | assumption | omega | rw[ax]<;>omega)) (by(first | assumption | omega | rw[ax]<;>omega))) (fun _ _=>?_) | (with_reducible refine Ok.yes (C6 _)<;>(first | assumption | omega | rw[ax]<;>omega)) | (with_reducible refine aq (Q:=Yes) ?_ fun _ _=>?_) | dsimp only)
 ·repeat' (first | (with_reducible first | exact cX | exact bW | exact cJ | refine bX (fun _=>?_) fun _=>?_ | refine bQ (fun _=>?_) fun _=>?_ | refine c8 (fun _=>?_) fun _=>?_ | refine bJ (fun _=>?_) fun _=>?_) | (with_reducible refine cQ ?_ ?_ ?_<;>(first | assumption | omega | rw[ax]<;>omega)) | with_reducible refine aq (cj (by(first | assumption | omega | rw[ax]<;>omega)) (by(first | assumption | omega | rw[ax]<;>omega))) (fun _ _=>?_) | (with_reducible refine Ok.yes (C6 _)<;>(first | assumption | omega | rw[ax]<;>omega)) | (with_reducible refine aq (Q:=Yes) ?_ fun _ _=>?_) | dsimp only)
theorem D0(a):Tot (A0 a):=⟨_,rfl,trivial⟩
theorem z2(e:Int)(m)(l:List eJ)(h:l.length≤9223372036854775807):Tot (jx e m l):=by
 unfold jx
 refine bX (fun _=>cX) (fun _=>?_)
 refine eW (Q:=Yes) (wz l.length (by omega) fun i h1 h2=>?_) (fun _ _=>?_) (fun _ _=>?_)
 ·unfold kj
  repeat' (first | (with_reducible first | exact cX | exact bW | exact cJ | refine bX (fun _=>?_) fun _=>?_ | refine bQ (fun _=>?_) fun _=>?_ | refine c8 (fun _=>?_) fun _=>?_ | refine bJ (fun _=>?_) fun _=>?_) | (with_reducible refine cQ ?_ ?_ ?_<;>(first | assumption | omega | rw[ax]<;>omega)) | with_reducible refine aq (cj (by(first | assumption | omega | rw[ax]<;>omega)) (by(first | assumption | omega | rw[ax]<;>omega))) (fun _ _=>?_) | (with_reducible refine Ok.yes (D0 _)<;>(first | assumption | omega | rw[ax]<;>omega)) | (with_reducible refine aq (Q:=Yes) ?_ fun _ _=>?_) | dsimp only)
 ·repeat' (first | (with_reducible first | exact cX | exact bW | exact cJ | refine bX (fun _=>?_) fun _=>?_ | refine bQ (fun _=>?_) fun _=>?_ | refine c8 (fun _=>?_) fun _=>?_ | refine bJ (fun _=>?_) fun _=>?_) | (with_reducible refine cQ ?_ ?_ ?_<;>(first | assumption | omega | rw[ax]<;>omega)) | with_reducible refine aq (cj (by(first | assumption | omega | rw[ax]<;>omega)) (by(first | assumption | omega | rw[ax]<;>omega))) (fun _ _=>?_) | (with_reducible refine Ok.yes (D0 _)<;>(first | assumption | omega | rw[ax]<;>omega)) | (with_reducible refine aq (Q:=Yes) ?_ fun _ _=>?_) | dsimp only)
 ·repeat' (first | (with_reducible first | exact cX | exact bW | exact cJ | refine bX (fun _=>?_) fun _=>?_ | refine bQ (fun _=>?_) fun _=>?_ | refine c8 (fun _=>?_) fun _=>?_ | refine bJ (fun _=>?_) fun _=>?_) | (with_reducible refine cQ ?_ ?_ ?_<;>(first | assumption | omega | rw[ax]<;>omega)) | with_reducible refine aq (cj (by(first | assumption | omega | rw[ax]<;>omega)) (by(first | assumption | omega | rw[ax]<;>omega))) (fun _ _=>?_) | (with_reducible refine Ok.yes (D0 _)<;>(first | assumption | omega | rw[ax]<;>omega)) | (with_reducible refine aq (Q:=Yes) ?_ fun _ _=>?_) | dsimp only)
theorem Iq(m)(l:List yq)(h:l.length≤9223372036854775807):Tot (rJ m l):=by
 unfold rJ
 refine eW (Q:=Yes) (wz l.length (by omega) fun i h1 h2=>?_) (fun _ _=>?_) (fun _ _=>?_)
 ·unfold s7
  repeat' (first | (with_reducible first | exact cX | exact bW | exact cJ | refine bX (fun _=>?_) fun _=>?_ | refine bQ (fun _=>?_) fun _=>?_ | refine c8 (fun _=>?_) fun _=>?_ | refine bJ (fun _=>?_) fun _=>?_) | (with_reducible refine cQ ?_ ?_ ?_<;>(first | assumption | omega | rw[ax]<;>omega)) | with_reducible refine aq (cj (by(first | assumption | omega | rw[ax]<;>omega)) (by(first | assumption | omega | rw[ax]<;>omega))) (fun _ _=>?_) | (with_reducible refine Ok.yes (s9 _)<;>(first | assumption | omega | rw[ax]<;>omega)) | (with_reducible refine aq (Q:=Yes) ?_ fun _ _=>?_) | dsimp only)
 ·repeat' (first | (with_reducible first | exact cX | exact bW | exact cJ | refine bX (fun _=>?_) fun _=>?_ | refine bQ (fun _=>?_) fun _=>?_ | refine c8 (fun _=>?_) fun _=>?_ | refine bJ (fun _=>?_) fun _=>?_) | (with_reducible refine cQ ?_ ?_ ?_<;>(first | assumption | omega | rw[ax]<;>omega)) | with_reducible refine aq (cj (by(first | assumption | omega | rw[ax]<;>omega)) (by(first | assumption | omega | rw[ax]<;>omega))) (fun _ _=>?_) | (with_reducible refine Ok.yes (s9 _)<;>(first | assumption | omega | rw[ax]<;>omega)) | (with_reducible refine aq (Q:=Yes) ?_ fun _ _=>?_) | dsimp only)
 ·repeat' (first | (with_reducible first | exact cX | exact bW | exact cJ | refine bX (fun _=>?_) fun _=>?_ | refine bQ (fun _=>?_) fun _=>?_ | refine c8 (fun _=>?_) fun _=>?_ | refine bJ (fun _=>?_) fun _=>?_) | (with_reducible refine cQ ?_ ?_ ?_<;>(first | assumption | omega | rw[ax]<;>omega)) | with_reducible refine aq (cj (by(first | assumption | omega | rw[ax]<;>omega)) (by(first | assumption | omega | rw[ax]<;>omega))) (fun _ _=>?_) | (with_reducible refine Ok.yes (s9 _)<;>(first | assumption | omega | rw[ax]<;>omega)) | (with_reducible refine aq (Q:=Yes) ?_ fun _ _=>?_) | dsimp only)
theorem N3(a b:Int):Tot (wV a b):=by
 unfold wV
 repeat' (first | (with_reducible first | exact cX | exact bW | exact cJ | refine bX (fun _=>?_) fun _=>?_ | refine bQ (fun _=>?_) fun _=>?_ | refine c8 (fun _=>?_) fun _=>?_ | refine bJ (fun _=>?_) fun _=>?_) | (with_reducible refine cQ ?_ ?_ ?_<;>(first | assumption | omega | rw[ax]<;>omega)) | with_reducible refine aq (cj (by(first | assumption | omega | rw[ax]<;>omega)) (by(first | assumption | omega | rw[ax]<;>omega))) (fun _ _=>?_) | (with_reducible refine aq (Q:=Yes) ?_ fun _ _=>?_) | dsimp only)
theorem H7(a):Tot (E6 a):=by
 unfold E6
 repeat' (first | (with_reducible first | exact cX | exact bW | exact cJ | refine bX (fun _=>?_) fun _=>?_ | refine bQ (fun _=>?_) fun _=>?_ | refine c8 (fun _=>?_) fun _=>?_ | refine bJ (fun _=>?_) fun _=>?_) | (with_reducible refine cQ ?_ ?_ ?_<;>(first | assumption | omega | rw[ax]<;>omega)) | with_reducible refine aq (cj (by(first | assumption | omega | rw[ax]<;>omega)) (by(first | assumption | omega | rw[ax]<;>omega))) (fun _ _=>?_) | (with_reducible refine aq (Q:=Yes) ?_ fun _ _=>?_) | dsimp only)
theorem V5(a):Tot (RW a):=by
 unfold RW
 repeat' (first | (with_reducible first | exact cX | exact bW | exact cJ | refine bX (fun _=>?_) fun _=>?_ | refine bQ (fun _=>?_) fun _=>?_ | refine c8 (fun _=>?_) fun _=>?_ | refine bJ (fun _=>?_) fun _=>?_) | (with_reducible refine cQ ?_ ?_ ?_<;>(first | assumption | omega | rw[ax]<;>omega)) | with_reducible refine aq (cj (by(first | assumption | omega | rw[ax]<;>omega)) (by(first | assumption | omega | rw[ax]<;>omega))) (fun _ _=>?_) | (with_reducible refine aq (Q:=Yes) ?_ fun _ _=>?_) | dsimp only)
theorem NQ(a b):Tot (mK a b):=by
 unfold mK sW
 repeat' (first | (with_reducible first | exact cX | exact bW | exact cJ | refine bX (fun _=>?_) fun _=>?_ | refine bQ (fun _=>?_) fun _=>?_ | refine c8 (fun _=>?_) fun _=>?_ | refine bJ (fun _=>?_) fun _=>?_) | (with_reducible refine cQ ?_ ?_ ?_<;>(first | assumption | omega | rw[ax]<;>omega)) | with_reducible refine aq (cj (by(first | assumption | omega | rw[ax]<;>omega)) (by(first | assumption | omega | rw[ax]<;>omega))) (fun _ _=>?_) | (with_reducible refine aq (Q:=Yes) ?_ fun _ _=>?_) | dsimp only)
theorem EY(a b):Tot (sZ a b):=by
 unfold sZ
 repeat' (first | (with_reducible first | exact cX | exact bW | exact cJ | refine bX (fun _=>?_) fun _=>?_ | refine bQ (fun _=>?_) fun _=>?_ | refine c8 (fun _=>?_) fun _=>?_ | refine bJ (fun _=>?_) fun _=>?_) | (with_reducible refine cQ ?_ ?_ ?_<;>(first | assumption | omega | rw[ax]<;>omega)) | with_reducible refine aq (cj (by(first | assumption | omega | rw[ax]<;>omega)) (by(first | assumption | omega | rw[ax]<;>omega))) (fun _ _=>?_) | (with_reducible refine Ok.yes (NQ _ _)<;>(first | assumption | omega | rw[ax]<;>omega)) | (with_reducible refine Ok.yes (H8 _ _)<;>(first | assumption | omega | rw[ax]<;>omega)) | (with_reducible refine Ok.yes (Q2 _ (Nat.le_of_ble_eq_true rfl))<;>(first | assumption | omega | rw[ax]<;>omega)) | (with_reducible refine aq (Q:=Yes) ?_ fun _ _=>?_) | dsimp only)
theorem J0(l:List fX)(h:l.length≤9223372036854775807):Tot (CJ l):=by
 unfold CJ
 refine eW (Q:=Yes) (wz l.length (by omega) fun i h1 h2=>?_) (fun _ _=>?_) (fun _ _=>?_)
 ·unfold BK
  repeat' (first | (with_reducible first | exact cX | exact bW | exact cJ | refine bX (fun _=>?_) fun _=>?_ | refine bQ (fun _=>?_) fun _=>?_ | refine c8 (fun _=>?_) fun _=>?_ | refine bJ (fun _=>?_) fun _=>?_) | (with_reducible refine cQ ?_ ?_ ?_<;>(first | assumption | omega | rw[ax]<;>omega)) | with_reducible refine aq (cj (by(first | assumption | omega | rw[ax]<;>omega)) (by(first | assumption | omega | rw[ax]<;>omega))) (fun _ _=>?_) | (with_reducible refine Ok.yes (N3 _ _)<;>(first | assumption | omega | rw[ax]<;>omega)) | (with_reducible refine aq (Q:=Yes) ?_ fun _ _=>?_) | dsimp only)
 ·repeat' (first | (with_reducible first | exact cX | exact bW | exact cJ | refine bX (fun _=>?_) fun _=>?_ | refine bQ (fun _=>?_) fun _=>?_ | refine c8 (fun _=>?_) fun _=>?_ | refine bJ (fun _=>?_) fun _=>?_) | (with_reducible refine cQ ?_ ?_ ?_<;>(first | assumption | omega | rw[ax]<;>omega)) | with_reducible refine aq (cj (by(first | assumption | omega | rw[ax]<;>omega)) (by(first | assumption | omega | rw[ax]<;>omega))) (fun _ _=>?_) | (with_reducible refine Ok.yes (N3 _ _)<;>(first | assumption | omega | rw[ax]<;>omega)) | (with_reducible refine aq (Q:=Yes) ?_ fun _ _=>?_) | dsimp only)
 ·repeat' (first | (with_reducible first | exact cX | exact bW | exact cJ | refine bX (fun _=>?_) fun _=>?_ | refine bQ (fun _=>?_) fun _=>?_ | refine c8 (fun _=>?_) fun _=>?_ | refine bJ (fun _=>?_) fun _=>?_) | (with_reducible refine cQ ?_ ?_ ?_<;>(first | assumption | omega | rw[ax]<;>omega)) | with_reducible refine aq (cj (by(first | assumption | omega | rw[ax]<;>omega)) (by(first | assumption | omega | rw[ax]<;>omega))) (fun _ _=>?_) | (with_reducible refine Ok.yes (N3 _ _)<;>(first | assumption | omega | rw[ax]<;>omega)) | (with_reducible refine aq (Q:=Yes) ?_ fun _ _=>?_) | dsimp only)
theorem E9(l:List eY)(h:l.length≤9223372036854775807)(hx:∀x∈l,x.fStack.length≤9223372036854775807∧∀y∈x.fStack,okN y):Tot (xZ l):=by
 unfold xZ
 refine eW (Q:=Yes) (wz l.length (by omega) fun i h1 h2=>?_) (fun _ _=>?_) (fun _ _=>?_)
 ·unfold yz
  repeat' (first | (with_reducible first | exact cX | exact bW | exact cJ | refine bX (fun _=>?_) fun _=>?_ | refine bQ (fun _=>?_) fun _=>?_ | refine c8 (fun _=>?_) fun _=>?_ | refine bJ (fun _=>?_) fun _=>?_) | (with_reducible refine cQ ?_ ?_ ?_<;>(first | assumption | omega | rw[ax]<;>omega)) | with_reducible refine aq (cj (by(first | assumption | omega | rw[ax]<;>omega)) (by(first | assumption | omega | rw[ax]<;>omega))) (fun _ _=>?_) | (with_reducible refine Ok.yes (H7 _)<;>(first | assumption | omega | rw[ax]<;>omega)) | (with_reducible refine Ok.yes (vK _ (hx _ (fk (by assumption))).1 (hx _ (fk (by assumption))).2)<;>(first | assumption | omega | rw[ax]<;>omega)) | (with_reducible refine aq (Q:=Yes) ?_ fun _ _=>?_) | dsimp only)
 ·repeat' (first | (with_reducible first | exact cX | exact bW | exact cJ | refine bX (fun _=>?_) fun _=>?_ | refine bQ (fun _=>?_) fun _=>?_ | refine c8 (fun _=>?_) fun _=>?_ | refine bJ (fun _=>?_) fun _=>?_) | (with_reducible refine cQ ?_ ?_ ?_<;>(first | assumption | omega | rw[ax]<;>omega)) | with_reducible refine aq (cj (by(first | assumption | omega | rw[ax]<;>omega)) (by(first | assumption | omega | rw[ax]<;>omega))) (fun _ _=>?_) | (with_reducible refine Ok.yes (H7 _)<;>(first | assumption | omega | rw[ax]<;>omega)) | (with_reducible refine Ok.yes (vK _ (hx _ (fk (by assumption))).1 (hx _ (fk (by assumption))).2)<;>(first | assumption | omega | rw[ax]<;>omega)) | (with_reducible refine aq (Q:=Yes) ?_ fun _ _=>?_) | dsimp only)
 ·repeat' (first | (with_reducible first | exact cX | exact bW | exact cJ | refine bX (fun _=>?_) fun _=>?_ | refine bQ (fun _=>?_) fun _=>?_ | refine c8 (fun _=>?_) fun _=>?_ | refine bJ (fun _=>?_) fun _=>?_) | (with_reducible refine cQ ?_ ?_ ?_<;>(first | assumption | omega | rw[ax]<;>omega)) | with_reducible refine aq (cj (by(first | assumption | omega | rw[ax]<;>omega)) (by(first | assumption | omega | rw[ax]<;>omega))) (fun _ _=>?_) | (with_reducible refine Ok.yes (H7 _)<;>(first | assumption | omega | rw[ax]<;>omega)) | (with_reducible refine Ok.yes (vK _ (hx _ (fk (by assumption))).1 (hx _ (fk (by assumption))).2)<;>(first | assumption | omega | rw[ax]<;>omega)) | (with_reducible refine aq (Q:=Yes) ?_ fun _ _=>?_) | dsimp only)
theorem D7(l:List jj)(h:l.length≤9223372036854775807)(hx:∀x∈l,okN x.fName):Tot (uY l):=by
 unfold uY
 refine eW (Q:=Yes) (wz l.length (by omega) fun i h1 h2=>?_) (fun _ _=>?_) (fun _ _=>?_)
 ·unfold vW
  repeat' (first | (with_reducible first | exact cX | exact bW | exact cJ | refine bX (fun _=>?_) fun _=>?_ | refine bQ (fun _=>?_) fun _=>?_ | refine c8 (fun _=>?_) fun _=>?_ | refine bJ (fun _=>?_) fun _=>?_) | (with_reducible refine cQ ?_ ?_ ?_<;>(first | assumption | omega | rw[ax]<;>omega)) | with_reducible refine aq (cj (by(first | assumption | omega | rw[ax]<;>omega)) (by(first | assumption | omega | rw[ax]<;>omega))) (fun _ _=>?_) | (with_reducible refine Ok.yes (V5 _)<;>(first | assumption | omega | rw[ax]<;>omega)) | (with_reducible refine Ok.yes (EY _ _)<;>(first | assumption | omega | rw[ax]<;>omega)) | (with_reducible refine Ok.yes (nW _ (hx _ (fk (by assumption))))<;>(first | assumption | omega | rw[ax]<;>omega)) | (with_reducible refine aq (Q:=Yes) ?_ fun _ _=>?_) | dsimp only)
 ·repeat' (first | (with_reducible first | exact cX | exact bW | exact cJ | refine bX (fun _=>?_) fun _=>?_ | refine bQ (fun _=>?_) fun _=>?_ | refine c8 (fun _=>?_) fun _=>?_ | refine bJ (fun _=>?_) fun _=>?_) | (with_reducible refine cQ ?_ ?_ ?_<;>(first | assumption | omega | rw[ax]<;>omega)) | with_reducible refine aq (cj (by(first | assumption | omega | rw[ax]<;>omega)) (by(first | assumption | omega | rw[ax]<;>omega))) (fun _ _=>?_) | (with_reducible refine Ok.yes (V5 _)<;>(first | assumption | omega | rw[ax]<;>omega)) | (with_reducible refine Ok.yes (EY _ _)<;>(first | assumption | omega | rw[ax]<;>omega)) | (with_reducible refine Ok.yes (nW _ (hx _ (fk (by assumption))))<;>(first | assumption | omega | rw[ax]<;>omega)) | (with_reducible refine aq (Q:=Yes) ?_ fun _ _=>?_) | dsimp only)
 ·repeat' (first | (with_reducible first | exact cX | exact bW | exact cJ | refine bX (fun _=>?_) fun _=>?_ | refine bQ (fun _=>?_) fun _=>?_ | refine c8 (fun _=>?_) fun _=>?_ | refine bJ (fun _=>?_) fun _=>?_) | (with_reducible refine cQ ?_ ?_ ?_<;>(first | assumption | omega | rw[ax]<;>omega)) | with_reducible refine aq (cj (by(first | assumption | omega | rw[ax]<;>omega)) (by(first | assumption | omega | rw[ax]<;>omega))) (fun _ _=>?_) | (with_reducible refine Ok.yes (V5 _)<;>(first | assumption | omega | rw[ax]<;>omega)) | (with_reducible refine Ok.yes (EY _ _)<;>(first | assumption | omega | rw[ax]<;>omega)) | (with_reducible refine Ok.yes (nW _ (hx _ (fk (by assumption))))<;>(first | assumption | omega | rw[ax]<;>omega)) | (with_reducible refine aq (Q:=Yes) ?_ fun _ _=>?_) | dsimp only)
theorem uz(a b):Tot (sx a b):=by
 unfold sx
 repeat' (first | (with_reducible first | exact cX | exact bW | exact cJ | refine bX (fun _=>?_) fun _=>?_ | refine bQ (fun _=>?_) fun _=>?_ | refine c8 (fun _=>?_) fun _=>?_ | refine bJ (fun _=>?_) fun _=>?_) | (with_reducible refine cQ ?_ ?_ ?_<;>(first | assumption | omega | rw[ax]<;>omega)) | with_reducible refine aq (cj (by(first | assumption | omega | rw[ax]<;>omega)) (by(first | assumption | omega | rw[ax]<;>omega))) (fun _ _=>?_) | (with_reducible refine aq (Q:=Yes) ?_ fun _ _=>?_) | dsimp only)
theorem uq(a b):Tot (pY a b):=by
 unfold pY
 repeat' (first | (with_reducible first | exact cX | exact bW | exact cJ | refine bX (fun _=>?_) fun _=>?_ | refine bQ (fun _=>?_) fun _=>?_ | refine c8 (fun _=>?_) fun _=>?_ | refine bJ (fun _=>?_) fun _=>?_) | (with_reducible refine cQ ?_ ?_ ?_<;>(first | assumption | omega | rw[ax]<;>omega)) | with_reducible refine aq (cj (by(first | assumption | omega | rw[ax]<;>omega)) (by(first | assumption | omega | rw[ax]<;>omega))) (fun _ _=>?_) | (with_reducible refine aq (Q:=Yes) ?_ fun _ _=>?_) | dsimp only)
theorem zV(a b):Tot (o3 a b):=by
 unfold o3
 repeat' (first | (with_reducible first | exact cX | exact bW | exact cJ | refine bX (fun _=>?_) fun _=>?_ | refine bQ (fun _=>?_) fun _=>?_ | refine c8 (fun _=>?_) fun _=>?_ | refine bJ (fun _=>?_) fun _=>?_) | (with_reducible refine cQ ?_ ?_ ?_<;>(first | assumption | omega | rw[ax]<;>omega)) | with_reducible refine aq (cj (by(first | assumption | omega | rw[ax]<;>omega)) (by(first | assumption | omega | rw[ax]<;>omega))) (fun _ _=>?_) | (with_reducible refine Ok.yes (uz _ _)<;>(first | assumption | omega | rw[ax]<;>omega)) | (with_reducible refine Ok.yes (uq _ _)<;>(first | assumption | omega | rw[ax]<;>omega)) | (with_reducible refine aq (Q:=Yes) ?_ fun _ _=>?_) | dsimp only)
theorem vQ(l:List aK)(a)(h:l.length≤9223372036854775807):Tot (eQ l a):=by
 unfold eQ
 refine aq (Q:=Yes) ?_ (fun _ _=>cX)
 unfold gj
 refine eW (Q:=Yes) (wz l.length (by omega) fun i h1 h2=>?_) (fun _ _=>?_) (fun _ _=>?_)
 ·unfold fZ
  repeat' (first | (with_reducible first | exact cX | exact bW | exact cJ | refine bX (fun _=>?_) fun _=>?_ | refine bQ (fun _=>?_) fun _=>?_ | refine c8 (fun _=>?_) fun _=>?_ | refine bJ (fun _=>?_) fun _=>?_) | (with_reducible refine cQ ?_ ?_ ?_<;>(first | assumption | omega | rw[ax]<;>omega)) | with_reducible refine aq (cj (by(first | assumption | omega | rw[ax]<;>omega)) (by(first | assumption | omega | rw[ax]<;>omega))) (fun _ _=>?_) | (with_reducible refine Ok.yes (zV _ _)<;>(first | assumption | omega | rw[ax]<;>omega)) | (with_reducible refine aq (Q:=Yes) ?_ fun _ _=>?_) | dsimp only)
 ·repeat' (first | (with_reducible first | exact cX | exact bW | exact cJ | refine bX (fun _=>?_) fun _=>?_ | refine bQ (fun _=>?_) fun _=>?_ | refine c8 (fun _=>?_) fun _=>?_ | refine bJ (fun _=>?_) fun _=>?_) | (with_reducible refine cQ ?_ ?_ ?_<;>(first | assumption | omega | rw[ax]<;>omega)) | with_reducible refine aq (cj (by(first | assumption | omega | rw[ax]<;>omega)) (by(first | assumption | omega | rw[ax]<;>omega))) (fun _ _=>?_) | (with_reducible refine Ok.yes (zV _ _)<;>(first | assumption | omega | rw[ax]<;>omega)) | (with_reducible refine aq (Q:=Yes) ?_ fun _ _=>?_) | dsimp only)
 ·repeat' (first | (with_reducible first | exact cX | exact bW | exact cJ | refine bX (fun _=>?_) fun _=>?_ | refine bQ (fun _=>?_) fun _=>?_ | refine c8 (fun _=>?_) fun _=>?_ | refine bJ (fun _=>?_) fun _=>?_) | (with_reducible refine cQ ?_ ?_ ?_<;>(first | assumption | omega | rw[ax]<;>omega)) | with_reducible refine aq (cj (by(first | assumption | omega | rw[ax]<;>omega)) (by(first | assumption | omega | rw[ax]<;>omega))) (fun _ _=>?_) | (with_reducible refine Ok.yes (zV _ _)<;>(first | assumption | omega | rw[ax]<;>omega)) | (with_reducible refine aq (Q:=Yes) ?_ fun _ _=>?_) | dsimp only)
theorem zq(a b):Tot (o9 a b):=by
 unfold o9
 repeat' (first | (with_reducible first | exact cX | exact bW | exact cJ | refine bX (fun _=>?_) fun _=>?_ | refine bQ (fun _=>?_) fun _=>?_ | refine c8 (fun _=>?_) fun _=>?_ | refine bJ (fun _=>?_) fun _=>?_) | (with_reducible refine cQ ?_ ?_ ?_<;>(first | assumption | omega | rw[ax]<;>omega)) | with_reducible refine aq (cj (by(first | assumption | omega | rw[ax]<;>omega)) (by(first | assumption | omega | rw[ax]<;>omega))) (fun _ _=>?_) | (with_reducible refine Ok.yes (uz _ _)<;>(first | assumption | omega | rw[ax]<;>omega)) | (with_reducible refine Ok.yes (uq _ _)<;>(first | assumption | omega | rw[ax]<;>omega)) | (with_reducible refine aq (Q:=Yes) ?_ fun _ _=>?_) | dsimp only)
theorem vj(l:List cZ)(a)(h:l.length≤9223372036854775807):Tot (d9 l a):=by
 unfold d9
 refine aq (Q:=Yes) ?_ (fun _ _=>cX)
 unfold gQ
 refine eW (Q:=Yes) (wz l.length (by omega) fun i h1 h2=>?_) (fun _ _=>?_) (fun _ _=>?_)
 ·unfold fY
  repeat' (first | (with_reducible first | exact cX | exact bW | exact cJ | refine bX (fun _=>?_) fun _=>?_ | refine bQ (fun _=>?_) fun _=>?_ | refine c8 (fun _=>?_) fun _=>?_ | refine bJ (fun _=>?_) fun _=>?_) | (with_reducible refine cQ ?_ ?_ ?_<;>(first | assumption | omega | rw[ax]<;>omega)) | with_reducible refine aq (cj (by(first | assumption | omega | rw[ax]<;>omega)) (by(first | assumption | omega | rw[ax]<;>omega))) (fun _ _=>?_) | (with_reducible refine Ok.yes (zq _ _)<;>(first | assumption | omega | rw[ax]<;>omega)) | (with_reducible refine aq (Q:=Yes) ?_ fun _ _=>?_) | dsimp only)
 ·repeat' (first | (with_reducible first | exact cX | exact bW | exact cJ | refine bX (fun _=>?_) fun _=>?_ | refine bQ (fun _=>?_) fun _=>?_ | refine c8 (fun _=>?_) fun _=>?_ | refine bJ (fun _=>?_) fun _=>?_) | (with_reducible refine cQ ?_ ?_ ?_<;>(first | assumption | omega | rw[ax]<;>omega)) | with_reducible refine aq (cj (by(first | assumption | omega | rw[ax]<;>omega)) (by(first | assumption | omega | rw[ax]<;>omega))) (fun _ _=>?_) | (with_reducible refine Ok.yes (zq _ _)<;>(first | assumption | omega | rw[ax]<;>omega)) | (with_reducible refine aq (Q:=Yes) ?_ fun _ _=>?_) | dsimp only)
 ·repeat' (first | (with_reducible first | exact cX | exact bW | exact cJ | refine bX (fun _=>?_) fun _=>?_ | refine bQ (fun _=>?_) fun _=>?_ | refine c8 (fun _=>?_) fun _=>?_ | refine bJ (fun _=>?_) fun _=>?_) | (with_reducible refine cQ ?_ ?_ ?_<;>(first | assumption | omega | rw[ax]<;>omega)) | with_reducible refine aq (cj (by(first | assumption | omega | rw[ax]<;>omega)) (by(first | assumption | omega | rw[ax]<;>omega))) (fun _ _=>?_) | (with_reducible refine Ok.yes (zq _ _)<;>(first | assumption | omega | rw[ax]<;>omega)) | (with_reducible refine aq (Q:=Yes) ?_ fun _ _=>?_) | dsimp only)
theorem zY(a b):Tot (o6 a b):=by
 unfold o6
 repeat' (first | (with_reducible first | exact cX | exact bW | exact cJ | refine bX (fun _=>?_) fun _=>?_ | refine bQ (fun _=>?_) fun _=>?_ | refine c8 (fun _=>?_) fun _=>?_ | refine bJ (fun _=>?_) fun _=>?_) | (with_reducible refine cQ ?_ ?_ ?_<;>(first | assumption | omega | rw[ax]<;>omega)) | with_reducible refine aq (cj (by(first | assumption | omega | rw[ax]<;>omega)) (by(first | assumption | omega | rw[ax]<;>omega))) (fun _ _=>?_) | (with_reducible refine Ok.yes (uz _ _)<;>(first | assumption | omega | rw[ax]<;>omega)) | (with_reducible refine Ok.yes (uq _ _)<;>(first | assumption | omega | rw[ax]<;>omega)) | (with_reducible refine aq (Q:=Yes) ?_ fun _ _=>?_) | dsimp only)
theorem vX(l:List eJ)(a)(h:l.length≤9223372036854775807):Tot (ej l a):=by
 unfold ej
 refine aq (Q:=Yes) ?_ (fun _ _=>cX)
 unfold gX
 refine eW (Q:=Yes) (wz l.length (by omega) fun i h1 h2=>?_) (fun _ _=>?_) (fun _ _=>?_)
 ·unfold fJ
  repeat' (first | (with_reducible first | exact cX | exact bW | exact cJ | refine bX (fun _=>?_) fun _=>?_ | refine bQ (fun _=>?_) fun _=>?_ | refine c8 (fun _=>?_) fun _=>?_ | refine bJ (fun _=>?_) fun _=>?_) | (with_reducible refine cQ ?_ ?_ ?_<;>(first | assumption | omega | rw[ax]<;>omega)) | with_reducible refine aq (cj (by(first | assumption | omega | rw[ax]<;>omega)) (by(first | assumption | omega | rw[ax]<;>omega))) (fun _ _=>?_) | (with_reducible refine Ok.yes (zY _ _)<;>(first | assumption | omega | rw[ax]<;>omega)) | (with_reducible refine aq (Q:=Yes) ?_ fun _ _=>?_) | dsimp only)
 ·repeat' (first | (with_reducible first | exact cX | exact bW | exact cJ | refine bX (fun _=>?_) fun _=>?_ | refine bQ (fun _=>?_) fun _=>?_ | refine c8 (fun _=>?_) fun _=>?_ | refine bJ (fun _=>?_) fun _=>?_) | (with_reducible refine cQ ?_ ?_ ?_<;>(first | assumption | omega | rw[ax]<;>omega)) | with_reducible refine aq (cj (by(first | assumption | omega | rw[ax]<;>omega)) (by(first | assumption | omega | rw[ax]<;>omega))) (fun _ _=>?_) | (with_reducible refine Ok.yes (zY _ _)<;>(first | assumption | omega | rw[ax]<;>omega)) | (with_reducible refine aq (Q:=Yes) ?_ fun _ _=>?_) | dsimp only)
 ·repeat' (first | (with_reducible first | exact cX | exact bW | exact cJ | refine bX (fun _=>?_) fun _=>?_ | refine bQ (fun _=>?_) fun _=>?_ | refine c8 (fun _=>?_) fun _=>?_ | refine bJ (fun _=>?_) fun _=>?_) | (with_reducible refine cQ ?_ ?_ ?_<;>(first | assumption | omega | rw[ax]<;>omega)) | with_reducible refine aq (cj (by(first | assumption | omega | rw[ax]<;>omega)) (by(first | assumption | omega | rw[ax]<;>omega))) (fun _ _=>?_) | (with_reducible refine Ok.yes (zY _ _)<;>(first | assumption | omega | rw[ax]<;>omega)) | (with_reducible refine aq (Q:=Yes) ?_ fun _ _=>?_) | dsimp only)
theorem zJ(a b):Tot (o7 a b):=by
 unfold o7
 repeat' (first | (with_reducible first | exact cX | exact bW | exact cJ | refine bX (fun _=>?_) fun _=>?_ | refine bQ (fun _=>?_) fun _=>?_ | refine c8 (fun _=>?_) fun _=>?_ | refine bJ (fun _=>?_) fun _=>?_) | (with_reducible refine cQ ?_ ?_ ?_<;>(first | assumption | omega | rw[ax]<;>omega)) | with_reducible refine aq (cj (by(first | assumption | omega | rw[ax]<;>omega)) (by(first | assumption | omega | rw[ax]<;>omega))) (fun _ _=>?_) | (with_reducible refine Ok.yes (uz _ _)<;>(first | assumption | omega | rw[ax]<;>omega)) | (with_reducible refine Ok.yes (uq _ _)<;>(first | assumption | omega | rw[ax]<;>omega)) | (with_reducible refine aq (Q:=Yes) ?_ fun _ _=>?_) | dsimp only)
theorem w9(l:List fX)(a)(h:l.length≤9223372036854775807):Tot (eZ l a):=by
 unfold eZ
 refine aq (Q:=Yes) ?_ (fun _ _=>cX)
 unfold gW
 refine eW (Q:=Yes) (wz l.length (by omega) fun i h1 h2=>?_) (fun _ _=>?_) (fun _ _=>?_)
 ·unfold gq
  repeat' (first | (with_reducible first | exact cX | exact bW | exact cJ | refine bX (fun _=>?_) fun _=>?_ | refine bQ (fun _=>?_) fun _=>?_ | refine c8 (fun _=>?_) fun _=>?_ | refine bJ (fun _=>?_) fun _=>?_) | (with_reducible refine cQ ?_ ?_ ?_<;>(first | assumption | omega | rw[ax]<;>omega)) | with_reducible refine aq (cj (by(first | assumption | omega | rw[ax]<;>omega)) (by(first | assumption | omega | rw[ax]<;>omega))) (fun _ _=>?_) | (with_reducible refine Ok.yes (zJ _ _)<;>(first | assumption | omega | rw[ax]<;>omega)) | (with_reducible refine aq (Q:=Yes) ?_ fun _ _=>?_) | dsimp only)
 ·repeat' (first | (with_reducible first | exact cX | exact bW | exact cJ | refine bX (fun _=>?_) fun _=>?_ | refine bQ (fun _=>?_) fun _=>?_ | refine c8 (fun _=>?_) fun _=>?_ | refine bJ (fun _=>?_) fun _=>?_) | (with_reducible refine cQ ?_ ?_ ?_<;>(first | assumption | omega | rw[ax]<;>omega)) | with_reducible refine aq (cj (by(first | assumption | omega | rw[ax]<;>omega)) (by(first | assumption | omega | rw[ax]<;>omega))) (fun _ _=>?_) | (with_reducible refine Ok.yes (zJ _ _)<;>(first | assumption | omega | rw[ax]<;>omega)) | (with_reducible refine aq (Q:=Yes) ?_ fun _ _=>?_) | dsimp only)
 ·repeat' (first | (with_reducible first | exact cX | exact bW | exact cJ | refine bX (fun _=>?_) fun _=>?_ | refine bQ (fun _=>?_) fun _=>?_ | refine c8 (fun _=>?_) fun _=>?_ | refine bJ (fun _=>?_) fun _=>?_) | (with_reducible refine cQ ?_ ?_ ?_<;>(first | assumption | omega | rw[ax]<;>omega)) | with_reducible refine aq (cj (by(first | assumption | omega | rw[ax]<;>omega)) (by(first | assumption | omega | rw[ax]<;>omega))) (fun _ _=>?_) | (with_reducible refine Ok.yes (zJ _ _)<;>(first | assumption | omega | rw[ax]<;>omega)) | (with_reducible refine aq (Q:=Yes) ?_ fun _ _=>?_) | dsimp only)
theorem zQ(a b):Tot (o8 a b):=by
 unfold o8
 repeat' (first | (with_reducible first | exact cX | exact bW | exact cJ | refine bX (fun _=>?_) fun _=>?_ | refine bQ (fun _=>?_) fun _=>?_ | refine c8 (fun _=>?_) fun _=>?_ | refine bJ (fun _=>?_) fun _=>?_) | (with_reducible refine cQ ?_ ?_ ?_<;>(first | assumption | omega | rw[ax]<;>omega)) | with_reducible refine aq (cj (by(first | assumption | omega | rw[ax]<;>omega)) (by(first | assumption | omega | rw[ax]<;>omega))) (fun _ _=>?_) | (with_reducible refine Ok.yes (uz _ _)<;>(first | assumption | omega | rw[ax]<;>omega)) | (with_reducible refine Ok.yes (uq _ _)<;>(first | assumption | omega | rw[ax]<;>omega)) | (with_reducible refine aq (Q:=Yes) ?_ fun _ _=>?_) | dsimp only)
theorem uJ(l:List eY)(a)(h:l.length≤9223372036854775807):Tot (d4 l a):=by
 unfold d4
 refine aq (Q:=Yes) ?_ (fun _ _=>cX)
 unfold f0
 refine eW (Q:=Yes) (wz l.length (by omega) fun i h1 h2=>?_) (fun _ _=>?_) (fun _ _=>?_)
 ·unfold fj
  repeat' (first | (with_reducible first | exact cX | exact bW | exact cJ | refine bX (fun _=>?_) fun _=>?_ | refine bQ (fun _=>?_) fun _=>?_ | refine c8 (fun _=>?_) fun _=>?_ | refine bJ (fun _=>?_) fun _=>?_) | (with_reducible refine cQ ?_ ?_ ?_<;>(first | assumption | omega | rw[ax]<;>omega)) | with_reducible refine aq (cj (by(first | assumption | omega | rw[ax]<;>omega)) (by(first | assumption | omega | rw[ax]<;>omega))) (fun _ _=>?_) | (with_reducible refine Ok.yes (zQ _ _)<;>(first | assumption | omega | rw[ax]<;>omega)) | (with_reducible refine aq (Q:=Yes) ?_ fun _ _=>?_) | dsimp only)
 ·repeat' (first | (with_reducible first | exact cX | exact bW | exact cJ | refine bX (fun _=>?_) fun _=>?_ | refine bQ (fun _=>?_) fun _=>?_ | refine c8 (fun _=>?_) fun _=>?_ | refine bJ (fun _=>?_) fun _=>?_) | (with_reducible refine cQ ?_ ?_ ?_<;>(first | assumption | omega | rw[ax]<;>omega)) | with_reducible refine aq (cj (by(first | assumption | omega | rw[ax]<;>omega)) (by(first | assumption | omega | rw[ax]<;>omega))) (fun _ _=>?_) | (with_reducible refine Ok.yes (zQ _ _)<;>(first | assumption | omega | rw[ax]<;>omega)) | (with_reducible refine aq (Q:=Yes) ?_ fun _ _=>?_) | dsimp only)
 ·repeat' (first | (with_reducible first | exact cX | exact bW | exact cJ | refine bX (fun _=>?_) fun _=>?_ | refine bQ (fun _=>?_) fun _=>?_ | refine c8 (fun _=>?_) fun _=>?_ | refine bJ (fun _=>?_) fun _=>?_) | (with_reducible refine cQ ?_ ?_ ?_<;>(first | assumption | omega | rw[ax]<;>omega)) | with_reducible refine aq (cj (by(first | assumption | omega | rw[ax]<;>omega)) (by(first | assumption | omega | rw[ax]<;>omega))) (fun _ _=>?_) | (with_reducible refine Ok.yes (zQ _ _)<;>(first | assumption | omega | rw[ax]<;>omega)) | (with_reducible refine aq (Q:=Yes) ?_ fun _ _=>?_) | dsimp only)
theorem zj(a b):Tot (oW a b):=by
 unfold oW
 repeat' (first | (with_reducible first | exact cX | exact bW | exact cJ | refine bX (fun _=>?_) fun _=>?_ | refine bQ (fun _=>?_) fun _=>?_ | refine c8 (fun _=>?_) fun _=>?_ | refine bJ (fun _=>?_) fun _=>?_) | (with_reducible refine cQ ?_ ?_ ?_<;>(first | assumption | omega | rw[ax]<;>omega)) | with_reducible refine aq (cj (by(first | assumption | omega | rw[ax]<;>omega)) (by(first | assumption | omega | rw[ax]<;>omega))) (fun _ _=>?_) | (with_reducible refine Ok.yes (uz _ _)<;>(first | assumption | omega | rw[ax]<;>omega)) | (with_reducible refine Ok.yes (uq _ _)<;>(first | assumption | omega | rw[ax]<;>omega)) | (with_reducible refine aq (Q:=Yes) ?_ fun _ _=>?_) | dsimp only)
theorem xx(l:List jj)(a)(h:l.length≤9223372036854775807):Tot (eX l a):=by
 unfold eX
 refine aq (Q:=Yes) ?_ (fun _ _=>cX)
 unfold gY
 refine eW (Q:=Yes) (wz l.length (by omega) fun i h1 h2=>?_) (fun _ _=>?_) (fun _ _=>?_)
 ·unfold f6
  repeat' (first | (with_reducible first | exact cX | exact bW | exact cJ | refine bX (fun _=>?_) fun _=>?_ | refine bQ (fun _=>?_) fun _=>?_ | refine c8 (fun _=>?_) fun _=>?_ | refine bJ (fun _=>?_) fun _=>?_) | (with_reducible refine cQ ?_ ?_ ?_<;>(first | assumption | omega | rw[ax]<;>omega)) | with_reducible refine aq (cj (by(first | assumption | omega | rw[ax]<;>omega)) (by(first | assumption | omega | rw[ax]<;>omega))) (fun _ _=>?_) | (with_reducible refine Ok.yes (zj _ _)<;>(first | assumption | omega | rw[ax]<;>omega)) | (with_reducible refine aq (Q:=Yes) ?_ fun _ _=>?_) | dsimp only)
 ·repeat' (first | (with_reducible first | exact cX | exact bW | exact cJ | refine bX (fun _=>?_) fun _=>?_ | refine bQ (fun _=>?_) fun _=>?_ | refine c8 (fun _=>?_) fun _=>?_ | refine bJ (fun _=>?_) fun _=>?_) | (with_reducible refine cQ ?_ ?_ ?_<;>(first | assumption | omega | rw[ax]<;>omega)) | with_reducible refine aq (cj (by(first | assumption | omega | rw[ax]<;>omega)) (by(first | assumption | omega | rw[ax]<;>omega))) (fun _ _=>?_) | (with_reducible refine Ok.yes (zj _ _)<;>(first | assumption | omega | rw[ax]<;>omega)) | (with_reducible refine aq (Q:=Yes) ?_ fun _ _=>?_) | dsimp only)
 ·repeat' (first | (with_reducible first | exact cX | exact bW | exact cJ | refine bX (fun _=>?_) fun _=>?_ | refine bQ (fun _=>?_) fun _=>?_ | refine c8 (fun _=>?_) fun _=>?_ | refine bJ (fun _=>?_) fun _=>?_) | (with_reducible refine cQ ?_ ?_ ?_<;>(first | assumption | omega | rw[ax]<;>omega)) | with_reducible refine aq (cj (by(first | assumption | omega | rw[ax]<;>omega)) (by(first | assumption | omega | rw[ax]<;>omega))) (fun _ _=>?_) | (with_reducible refine Ok.yes (zj _ _)<;>(first | assumption | omega | rw[ax]<;>omega)) | (with_reducible refine aq (Q:=Yes) ?_ fun _ _=>?_) | dsimp only)
theorem KY(t:aY)(h:Siz t):Tot (yY t):=by
 unfold yY
 repeat' (first | (with_reducible first | exact cX | exact bW | exact cJ | refine bX (fun _=>?_) fun _=>?_ | refine bQ (fun _=>?_) fun _=>?_ | refine c8 (fun _=>?_) fun _=>?_ | refine bJ (fun _=>?_) fun _=>?_) | (with_reducible refine cQ ?_ ?_ ?_<;>(first | assumption | omega | rw[ax]<;>omega)) | with_reducible refine aq (cj (by(first | assumption | omega | rw[ax]<;>omega)) (by(first | assumption | omega | rw[ax]<;>omega))) (fun _ _=>?_) | (with_reducible refine Ok.yes (vQ _ _ h.sl)<;>(first | assumption | omega | rw[ax]<;>omega)) | (with_reducible refine Ok.yes (vj _ _ h.st)<;>(first | assumption | omega | rw[ax]<;>omega)) | (with_reducible refine Ok.yes (vX _ _ h.bl)<;>(first | assumption | omega | rw[ax]<;>omega)) | (with_reducible refine Ok.yes (w9 _ _ h.fl)<;>(first | assumption | omega | rw[ax]<;>omega)) | (with_reducible refine Ok.yes (uJ _ _ h.sa)<;>(first | assumption | omega | rw[ax]<;>omega)) | (with_reducible refine Ok.yes (xx _ _ h.sp)<;>(first | assumption | omega | rw[ax]<;>omega)) | (with_reducible refine aq (Q:=Yes) ?_ fun _ _=>?_) | dsimp only)
theorem qW(l:List Int)(a:Int)(h:l.length≤9223372036854775807):Tot (d0 l a):=by
 unfold d0
 refine eW (Q:=Yes) (wz l.length (by omega) fun i h1 h2=>?_) (fun _ _=>?_) (fun _ _=>?_)
 ·unfold jY
  repeat' (first | (with_reducible first | exact cX | exact bW | exact cJ | refine bX (fun _=>?_) fun _=>?_ | refine bQ (fun _=>?_) fun _=>?_ | refine c8 (fun _=>?_) fun _=>?_ | refine bJ (fun _=>?_) fun _=>?_) | (with_reducible refine cQ ?_ ?_ ?_<;>(first | assumption | omega | rw[ax]<;>omega)) | with_reducible refine aq (cj (by(first | assumption | omega | rw[ax]<;>omega)) (by(first | assumption | omega | rw[ax]<;>omega))) (fun _ _=>?_) | (with_reducible refine aq (Q:=Yes) ?_ fun _ _=>?_) | dsimp only)
 ·repeat' (first | (with_reducible first | exact cX | exact bW | exact cJ | refine bX (fun _=>?_) fun _=>?_ | refine bQ (fun _=>?_) fun _=>?_ | refine c8 (fun _=>?_) fun _=>?_ | refine bJ (fun _=>?_) fun _=>?_) | (with_reducible refine cQ ?_ ?_ ?_<;>(first | assumption | omega | rw[ax]<;>omega)) | with_reducible refine aq (cj (by(first | assumption | omega | rw[ax]<;>omega)) (by(first | assumption | omega | rw[ax]<;>omega))) (fun _ _=>?_) | (with_reducible refine aq (Q:=Yes) ?_ fun _ _=>?_) | dsimp only)
 ·repeat' (first | (with_reducible first | exact cX | exact bW | exact cJ | refine bX (fun _=>?_) fun _=>?_ | refine bQ (fun _=>?_) fun _=>?_ | refine c8 (fun _=>?_) fun _=>?_ | refine bJ (fun _=>?_) fun _=>?_) | (with_reducible refine cQ ?_ ?_ ?_<;>(first | assumption | omega | rw[ax]<;>omega)) | with_reducible refine aq (cj (by(first | assumption | omega | rw[ax]<;>omega)) (by(first | assumption | omega | rw[ax]<;>omega))) (fun _ _=>?_) | (with_reducible refine aq (Q:=Yes) ?_ fun _ _=>?_) | dsimp only)
theorem HY(l:List Int)(a:Int)(h:l.length≤9223372036854775807):Tot (kV l a):=by
 unfold kV
 repeat' (first | (with_reducible first | exact cX | exact bW | exact cJ | refine bX (fun _=>?_) fun _=>?_ | refine bQ (fun _=>?_) fun _=>?_ | refine c8 (fun _=>?_) fun _=>?_ | refine bJ (fun _=>?_) fun _=>?_) | (with_reducible refine cQ ?_ ?_ ?_<;>(first | assumption | omega | rw[ax]<;>omega)) | with_reducible refine aq (cj (by(first | assumption | omega | rw[ax]<;>omega)) (by(first | assumption | omega | rw[ax]<;>omega))) (fun _ _=>?_) | (with_reducible refine Ok.yes (qW _ _ h)<;>(first | assumption | omega | rw[ax]<;>omega)) | (with_reducible refine aq (Q:=Yes) ?_ fun _ _=>?_) | dsimp only)
theorem M9(a):Tot (x3 a):=by
 unfold x3
 repeat' (first | (with_reducible first | exact cX | exact bW | exact cJ | refine bX (fun _=>?_) fun _=>?_ | refine bQ (fun _=>?_) fun _=>?_ | refine c8 (fun _=>?_) fun _=>?_ | refine bJ (fun _=>?_) fun _=>?_) | (with_reducible refine cQ ?_ ?_ ?_<;>(first | assumption | omega | rw[ax]<;>omega)) | with_reducible refine aq (cj (by(first | assumption | omega | rw[ax]<;>omega)) (by(first | assumption | omega | rw[ax]<;>omega))) (fun _ _=>?_) | (with_reducible refine aq (Q:=Yes) ?_ fun _ _=>?_) | dsimp only)
theorem QQ(a b):Tot (CZ a b):=by
 unfold CZ
 repeat' (first | (with_reducible first | exact cX | exact bW | exact cJ | refine bX (fun _=>?_) fun _=>?_ | refine bQ (fun _=>?_) fun _=>?_ | refine c8 (fun _=>?_) fun _=>?_ | refine bJ (fun _=>?_) fun _=>?_) | (with_reducible refine cQ ?_ ?_ ?_<;>(first | assumption | omega | rw[ax]<;>omega)) | with_reducible refine aq (cj (by(first | assumption | omega | rw[ax]<;>omega)) (by(first | assumption | omega | rw[ax]<;>omega))) (fun _ _=>?_) | (with_reducible refine aq (Q:=Yes) ?_ fun _ _=>?_) | dsimp only)
def Up(l:List aK)(n:Int):Prop:=∀(j:Nat) y,(j:Int)<n→l[j]? = some y→-1≤y.fParent∧y.fParent<(j:Int)
theorem Nx(l:List aK)(h:l.length≤9223372036854775807):Ok (uV l) (fun b=>b=true→Up l l.length):=by
 unfold uV
 refine eW (Q:=oZ (fun _=>Up l l.length) (fun b=>b=false)) (avW l.length (Up l) h (by intro j y hj;omega) (fun i hI h1 h2=>?_)) (fun _ hq=>bK (fun _=>hq)) (fun r hr=>bK (fun e=>?_))
 ·unfold n6
  refine bQ (fun hi=>?_) (fun hi=>d8 (by have:i=l.length:=(by omega);subst this;exact hI))
  refine aq (cj h1 hi) (fun y hy=>?_)
  have no:oZ (fun _:Unit=>Up l l.length) (fun b=>b=false) (.inr false):=rfl
  refine aq (Q:=fun v=>v=false→-1≤y.fParent∧y.fParent<i) ?_ (fun v hv=>?_)
  ·refine bQ (fun _=>bK (by simp)) (fun h3=>bK (fun h4=>?_))
   have:=of_decide_eq_false h4
   omega
  refine bJ (fun _=>d8 no) (fun h0=>?_)
  have hp:=hv h0
  have nx:Up l (i+1):=by
   intro j z hj hz
   by_cases e:(j:Int)=i
   ·have:i.toNat=j:=by omega
    rw[this]at hy
    rw[hy]at hz;cases hz
    omega
   ·exact hI j z (by omega) hz
  refine bQ (fun _=>?_) (fun hne=>?_)
  ·refine bX (fun _=>d8 no) (fun _=>atW nx h1 hi h)
  ·refine aq (cj (by omega) (by omega)) (fun z _=>?_)
   refine aq (Q:=Yes) (by repeat' (first | (with_reducible first | exact cX | exact bW | exact cJ | refine bX (fun _=>?_) fun _=>?_ | refine bQ (fun _=>?_) fun _=>?_ | refine c8 (fun _=>?_) fun _=>?_ | refine bJ (fun _=>?_) fun _=>?_) | (with_reducible refine cQ ?_ ?_ ?_<;>(first | assumption | omega | rw[ax]<;>omega)) | with_reducible refine aq (cj (by(first | assumption | omega | rw[ax]<;>omega)) (by(first | assumption | omega | rw[ax]<;>omega))) (fun _ _=>?_) | (with_reducible refine aq (Q:=Yes) ?_ fun _ _=>?_) | dsimp only)) (fun v _=>?_)
   refine bJ (fun _=>d8 no) (fun _=>atW nx h1 hi h)
 ·have:r=false:=hr
  simp[this]at e
theorem ZZ(l:List aK)(h:l.length≤9223372036854775807)(hu:Up l l.length)(a b:Int)(hb:b<l.length):Tot (AY l a b):=by
 unfold AY
 refine eW (Q:=Yes) (A8 (fun i:Int=>i<l.length) (fun i:Int=>(i+1).toNat) (fun i hi=>?_) hb (by simp[gz];omega)) (fun _ _=>cX) (fun _ _=>cX)
 unfold C7
 refine bQ (fun h0=>?_) (fun _=>bW)
 refine bQ (fun _=>bW) (fun _=>?_)
 refine aq (cj h0 hi) (fun y hy=>?_)
 have:=hu i.toNat y (by omega) hy
 exact jQ ⟨by omega,by omega⟩
theorem NW(l:List aK)(h:l.length≤9223372036854775807)(hu:Up l l.length):Tot (Az l):=by
 unfold Az
 refine eW (Q:=Yes) (wz l.length h fun i h1 h2=>?_) (fun _ _=>cX) (fun _ _=>cX)
 unfold DW
 refine bQ (fun hi=>?_) (fun _=>bW)
 refine aq (cj h1 hi) (fun y hy=>?_)
 refine eW (Q:=oZ Yes (oZ (fun _=>False) Yes)) (R5 l.length (fun _ _=>True) h trivial (fun a j _ h3 h4=>?_)) (fun _ _=>?_) (fun r hr=>?_)
 ·unfold Dq
  dsimp only
  refine bQ (fun hj=>?_) (fun _=>d8 trivial)
  refine aq (cj h3 hj) (fun z hz=>?_)
  refine aq (Q:=Yes) (by repeat' (first | (with_reducible first | exact cX | exact bW | exact cJ | refine bX (fun _=>?_) fun _=>?_ | refine bQ (fun _=>?_) fun _=>?_ | refine c8 (fun _=>?_) fun _=>?_ | refine bJ (fun _=>?_) fun _=>?_) | (with_reducible refine cQ ?_ ?_ ?_<;>(first | assumption | omega | rw[ax]<;>omega)) | with_reducible refine aq (cj (by(first | assumption | omega | rw[ax]<;>omega)) (by(first | assumption | omega | rw[ax]<;>omega))) (fun _ _=>?_) | (with_reducible refine aq (Q:=Yes) ?_ fun _ _=>?_) | dsimp only)) (fun v _=>?_)
  refine aq (Q:=Yes) (by repeat' (first | (with_reducible first | exact cX | exact bW | exact cJ | refine bX (fun _=>?_) fun _=>?_ | refine bQ (fun _=>?_) fun _=>?_ | refine c8 (fun _=>?_) fun _=>?_ | refine bJ (fun _=>?_) fun _=>?_) | (with_reducible refine cQ ?_ ?_ ?_<;>(first | assumption | omega | rw[ax]<;>omega)) | with_reducible refine aq (cj (by(first | assumption | omega | rw[ax]<;>omega)) (by(first | assumption | omega | rw[ax]<;>omega))) (fun _ _=>?_) | (with_reducible refine Ok.yes (ZZ l h hu _ _ hi)<;>(first | assumption | omega | rw[ax]<;>omega)) | (with_reducible refine aq (Q:=Yes) ?_ fun _ _=>?_) | dsimp only)) (fun v _=>?_)
  refine bJ (fun _=>d8 trivial) (fun _=>Tj (Inv:=fun _ _=>True) trivial h3 hj h)
 ·dsimp only
  repeat' (first | (with_reducible first | exact cX | exact bW | exact cJ | refine bX (fun _=>?_) fun _=>?_ | refine bQ (fun _=>?_) fun _=>?_ | refine c8 (fun _=>?_) fun _=>?_ | refine bJ (fun _=>?_) fun _=>?_) | (with_reducible refine cQ ?_ ?_ ?_<;>(first | assumption | omega | rw[ax]<;>omega)) | with_reducible refine aq (cj (by(first | assumption | omega | rw[ax]<;>omega)) (by(first | assumption | omega | rw[ax]<;>omega))) (fun _ _=>?_) | (with_reducible refine aq (Q:=Yes) ?_ fun _ _=>?_) | dsimp only)
 ·rcases r with r | r
  ·exact(hr:False).elim
  ·exact bW
theorem OX(l:List aK)(h:l.length≤9223372036854775807)(hx:∀x∈l,okN x.fName):Tot (qJ l):=by
 unfold qJ
 refine eW (Q:=Yes) (wz l.length h fun i h1 h2=>?_) (fun _ _=>?_) (fun _ _=>cX)
 ·unfold wj
  repeat' (first | (with_reducible first | exact cX | exact bW | exact cJ | refine bX (fun _=>?_) fun _=>?_ | refine bQ (fun _=>?_) fun _=>?_ | refine c8 (fun _=>?_) fun _=>?_ | refine bJ (fun _=>?_) fun _=>?_) | (with_reducible refine cQ ?_ ?_ ?_<;>(first | assumption | omega | rw[ax]<;>omega)) | with_reducible refine aq (cj (by(first | assumption | omega | rw[ax]<;>omega)) (by(first | assumption | omega | rw[ax]<;>omega))) (fun _ _=>?_) | (with_reducible refine Ok.yes (Lz _ _)<;>(first | assumption | omega | rw[ax]<;>omega)) | (with_reducible refine Ok.yes (s9 _)<;>(first | assumption | omega | rw[ax]<;>omega)) | (with_reducible refine Ok.yes (nW _ (hx _ (fk (by assumption))))<;>(first | assumption | omega | rw[ax]<;>omega)) | (with_reducible refine aq (Q:=Yes) ?_ fun _ _=>?_) | dsimp only)
 ·dsimp only
  refine aq (Q:=Yes) ?_ (fun _ _=>by repeat' (first | (with_reducible first | exact cX | exact bW | exact cJ | refine bX (fun _=>?_) fun _=>?_ | refine bQ (fun _=>?_) fun _=>?_ | refine c8 (fun _=>?_) fun _=>?_ | refine bJ (fun _=>?_) fun _=>?_) | (with_reducible refine cQ ?_ ?_ ?_<;>(first | assumption | omega | rw[ax]<;>omega)) | with_reducible refine aq (cj (by(first | assumption | omega | rw[ax]<;>omega)) (by(first | assumption | omega | rw[ax]<;>omega))) (fun _ _=>?_) | (with_reducible refine aq (Q:=Yes) ?_ fun _ _=>?_) | dsimp only))
  refine aq (Nx l h) (fun b hb=>?_)
  refine c8 (fun _=>cX) (fun e=>?_)
  repeat' (first | (with_reducible first | exact cX | exact bW | exact cJ | refine bX (fun _=>?_) fun _=>?_ | refine bQ (fun _=>?_) fun _=>?_ | refine c8 (fun _=>?_) fun _=>?_ | refine bJ (fun _=>?_) fun _=>?_) | (with_reducible refine cQ ?_ ?_ ?_<;>(first | assumption | omega | rw[ax]<;>omega)) | with_reducible refine aq (cj (by(first | assumption | omega | rw[ax]<;>omega)) (by(first | assumption | omega | rw[ax]<;>omega))) (fun _ _=>?_) | (with_reducible refine Ok.yes (NW l h (hb e))<;>(first | assumption | omega | rw[ax]<;>omega)) | (with_reducible refine aq (Q:=Yes) ?_ fun _ _=>?_) | dsimp only)
theorem FQ(l:List eJ)(h:l.length≤9223372036854775807)(hx:∀x∈l,x.fStack.length≤9223372036854775807∧∀y∈x.fStack,okN y):Tot (xV l):=by
 unfold xV
 refine eW (Q:=Yes) (wz l.length h fun i h1 h2=>?_) (fun _ _=>cX) (fun _ _=>cX)
 unfold n9
 refine bQ (fun hi=>?_) (fun _=>bW)
 refine aq (cj h1 hi) (fun y hy=>?_)
 refine aq (Q:=Yes) (by repeat' (first | (with_reducible first | exact cX | exact bW | exact cJ | refine bX (fun _=>?_) fun _=>?_ | refine bQ (fun _=>?_) fun _=>?_ | refine c8 (fun _=>?_) fun _=>?_ | refine bJ (fun _=>?_) fun _=>?_) | (with_reducible refine cQ ?_ ?_ ?_<;>(first | assumption | omega | rw[ax]<;>omega)) | with_reducible refine aq (cj (by(first | assumption | omega | rw[ax]<;>omega)) (by(first | assumption | omega | rw[ax]<;>omega))) (fun _ _=>?_) | (with_reducible refine Ok.yes (s9 _)<;>(first | assumption | omega | rw[ax]<;>omega)) | (with_reducible refine aq (Q:=Yes) ?_ fun _ _=>?_) | dsimp only)) (fun v _=>?_)
 refine bJ (fun _=>bW) (fun _=>?_)
 refine aq (Q:=Yes) (vK _ (hx _ (fk hy)).1 (hx _ (fk hy)).2) (fun v _=>?_)
 refine bX (fun _=>bW) (fun _=>?_)
 refine aq (Q:=Yes) (by repeat' (first | (with_reducible first | exact cX | exact bW | exact cJ | refine bX (fun _=>?_) fun _=>?_ | refine bQ (fun _=>?_) fun _=>?_ | refine c8 (fun _=>?_) fun _=>?_ | refine bJ (fun _=>?_) fun _=>?_) | (with_reducible refine cQ ?_ ?_ ?_<;>(first | assumption | omega | rw[ax]<;>omega)) | with_reducible refine aq (cj (by(first | assumption | omega | rw[ax]<;>omega)) (by(first | assumption | omega | rw[ax]<;>omega))) (fun _ _=>?_) | (with_reducible refine aq (Q:=Yes) ?_ fun _ _=>?_) | dsimp only)) (fun v _=>?_)
 refine bJ (fun _=>bW) (fun _=>?_)
 refine aq (Q:=fun ys=>ys.length≤9223372036854775807) ?_ (fun ys hys=>?_)
 ·unfold F6
  rw[if_pos ⟨by omega,by omega,by omega⟩]
  exact bK (by simp;omega)
 refine eW (Q:=oZ Yes (oZ (fun _=>False) Yes)) (wz ys.length hys fun j h3 h4=>?_) (fun _ _=>cQ h1 hi h) (fun r hr=>?_)
 ·unfold rZ
  refine bQ (fun hj=>?_) (fun _=>d8 trivial)
  refine aq (cj h3 hj) (fun z hz=>?_)
  refine aq (Q:=Yes) (by repeat' (first | (with_reducible first | exact cX | exact bW | exact cJ | refine bX (fun _=>?_) fun _=>?_ | refine bQ (fun _=>?_) fun _=>?_ | refine c8 (fun _=>?_) fun _=>?_ | refine bJ (fun _=>?_) fun _=>?_) | (with_reducible refine cQ ?_ ?_ ?_<;>(first | assumption | omega | rw[ax]<;>omega)) | with_reducible refine aq (cj (by(first | assumption | omega | rw[ax]<;>omega)) (by(first | assumption | omega | rw[ax]<;>omega))) (fun _ _=>?_) | (with_reducible refine aq (Q:=Yes) ?_ fun _ _=>?_) | dsimp only)) (fun v _=>?_)
  refine bJ (fun _=>d8 trivial) (fun _=>cQ h3 hj hys)
 ·rcases r with r | r
  ·exact(hr:False).elim
  ·exact bW
theorem kJ(l:List Int)(a:Int)(h:l.length≤9223372036854775807):Ok (d0 l a) (fun r=>(0≤r→l[r.toNat]? = some a)∧r<l.length):=by
 unfold d0
 refine eW (Q:=oZ Yes (fun r:Int=>(0≤r→l[r.toNat]? = some a)∧r<l.length)) (wz l.length h fun i h1 h2=>?_) (fun _ _=>bK (And.intro (by omega) (by omega))) (fun _ hr=>?_)
 rotate_left
 ·exact bK hr
 unfold jY
 refine bQ (fun hi=>?_) (fun _=>d8 trivial)
 refine aq (cj h1 hi) (fun y hy=>?_)
 exact bQ (fun e=>d8 ⟨fun _=>by rw[hy,e],hi⟩) (fun _=>cQ h1 hi h)
theorem T0(l:List dz)(h:l.length≤1000000):Ok (p6 l) (fun r=>r.length≤l.length):=by
 unfold p6
 refine aq (Q:=fun r=>r.length≤l.length) (R5 l.length (fun a i=>(a.length:Int)≤i) (by omega) (by simp) (fun a i hI h1 h2=>?_)) (fun r hr=>bK hr)
 unfold z6
 dsimp only
 refine bQ (fun hi=>?_) (fun _=>d8 (by omega))
 refine aq (Q:=fun r:List Int=>(r.length:Int)≤i+1) ?_ (fun r hr=>Tj (Inv:=fun(a:List Int) i=>(a.length:Int)≤i) hr h1 hi (by omega))
 refine aq (cj h1 hi) (fun y hy=>?_)
 refine aq (HY a y.fId (by omega)) (fun v _=>?_)
 refine c8 (fun _=>?_) (fun _=>bK (by omega))
 rw[Gz (by simp;omega) (by simp;omega)]
 exact bK (by simp;omega)
def a0q(l:List cZ)(n:Int):Prop:=∀(j k:Nat) s s',j<k→(k:Int)<n→l[j]? = some s→l[k]? = some s'→s.fThread=s'.fThread→s.fSpan.fTo≤s'.fSpan.fFrom
def a1X(l:List cZ)(n:Int):Prop:=∀(j:Nat) s,(j:Int)<n→l[j]? = some s→0≤s.fSpan.fFrom∧s.fSpan.fFrom<s.fSpan.fTo∧s.fSpan.fTo≤1000000000000
def Gd(l:List cZ):Prop:=a0q l l.length∧a1X l l.length
structure Tab(l:List cZ)(ix:List Int)(r i:Int):Prop where
 le:∀(j:Nat) s,(j:Int)<i→l[j]? = some s→∃x,d0 ix s.fThread=some x∧x≤r
 last:∀s,0<i→l[(i-1).toNat]? = some s→d0 ix s.fThread=some r
 pos:0≤r→0<i
 neg:i=0→r = -1
 rng : -1≤r∧r<ix.length
 v:a1X l i
 d:a0q l i
theorem aFj{l:List cZ}{ix:List Int}{r r' i:Int}{y:cZ}(hix:ix.length≤9223372036854775807)(H:Tab l ix r i)(h1:0≤i)(hy:l[i.toNat]? = some y)(hr:d0 ix y.fThread=some r')(h0:0≤r')(hv:0≤y.fSpan.fFrom∧y.fSpan.fFrom<y.fSpan.fTo∧y.fSpan.fTo≤1000000000000)
  (hs:r'=r→∀s,l[(i-1).toNat]? = some s→y.fSpan.fFrom=s.fSpan.fTo) (hn:r'≠r→r'=r+1):Tab l ix r' (i+1):=by
 have hle:r≤r':=by
  by_cases e:r'=r
  ·omega
  ·have:=hn e;omega
 refine⟨fun j s hj hs'=>?_,fun s _ hs'=>?_,fun _=>by omega,fun _=>by omega,⟨by omega,((kJ ix _ hix).of_eq hr).2⟩,fun j s hj hs'=>?_,fun j k s s' hjk hk hj' hk' ht=>?_⟩
 ·by_cases e:(j:Int)=i
  ·have:i.toNat=j:=by omega
   rw[this,hs']at hy;cases hy
   exact⟨r',hr,by omega⟩
  ·obtain⟨x,h2,h3⟩:=H.le j s (by omega) hs'
   exact⟨x,h2,by omega⟩
 ·rw[show i+1-1=i by omega,hy]at hs';cases hs'
  exact hr
 ·by_cases e:(j:Int)=i
  ·have:i.toNat=j:=by omega
   rw[this,hs']at hy;cases hy
   exact hv
  ·exact H.v j s (by omega) hs'
 ·by_cases e:(k:Int)=i
  ·have:i.toNat=k:=by omega
   rw[this,hk']at hy;cases hy
   obtain⟨x,h2,h3⟩:=H.le j s (by omega) hj'
   rw[ht,hr]at h2;cases h2
   by_cases e':r'=r
   ·obtain⟨u,hu⟩ : ∃u,l[(i-1).toNat]? = some u:=by
     have:=dJ hk'
     exact⟨_,dw (by omega)⟩
    have h5:=hs e' u hu
    by_cases e2:j=(i-1).toNat
    ·subst e2;rw[hj']at hu;cases hu;omega
    ·have hlu:=H.last u (by omega) hu
     have hh:s.fThread=u.fThread→s.fSpan.fTo≤u.fSpan.fFrom:=H.d j (i-1).toNat s u (by omega) (by omega) hj' hu
     have hvu:=H.v (i-1).toNat u (by omega) hu
     have a1:=(kJ ix _ hix).of_eq hlu |>.1 (by omega)
     have a2:=(kJ ix _ hix).of_eq hr |>.1 h0
     rw[e',a1]at a2
     injection a2 with a2
     have:=hh (by rw[ht,←a2])
     omega
   ·have:=hn e';omega
  ·exact H.d j k s s' hjk (by omega) hj' hk' ht
theorem Nz(s:bZ):Ok (lQ s) (fun b=>b=true→0≤s.fFrom∧s.fFrom<s.fTo∧s.fTo≤1000000000000):=by
 rw[A7]
 exact bK (fun h=>of_decide_eq_true h)
theorem H6(ths:List dz)(l:List cZ)(ht:ths.length≤1000000)(h:l.length≤9223372036854775807):Ok (AJ ths l) (fun r=>r=0→Gd l):=by
 unfold AJ
 refine aq (T0 ths ht) (fun ix hix=>?_)
 have hix':ix.length≤9223372036854775807:=by omega
 refine eW (Q:=oZ (fun _=>Gd l) (fun r=>r≠0)) (R5 l.length (fun r i=>Tab l ix r i) h ⟨by intro j s hj;omega,by intro s hj;omega,by omega,by simp,⟨by omega,by omega⟩,by intro j s hj;omega,by intro j k s s' _ hj;omega⟩ (fun r i hI h1 h2=>?_)) (fun r hd=>?_) (fun r hr=>?_)
 ·unfold j7
  dsimp only
  have no:∀n:Int,n≠0→oZ (fun _:Int=>Gd l) (fun r=>r≠0) (.inr n):=fun n h=>h
  refine bQ (fun hi=>?_) (fun hi=>d8 (by have e:i=l.length:=(by omega);have g1:=hI.d;have g2:=hI.v;rw[e]at g1 g2;exact⟨g1,g2⟩))
  refine aq (cj h1 hi) (fun y hy=>?_)
  refine aqY (qW ix y.fThread hix') (fun x hx=>?_)
  refine bQ (fun _=>d8 (no _ (by simp))) (fun h0=>?_)
  refine aq (Nz y.fSpan) (fun v hv=>?_)
  refine c8 (fun _=>d8 (no _ (by simp))) (fun ev=>?_)
  refine aq (M9 y) (fun _ _=>?_)
  refine c8 (fun _=>d8 (no _ (by simp))) (fun _=>?_)
  refine aq (Q:=fun v=>v=false→x=r→∀s,l[(i-1).toNat]? = some s→y.fSpan.fFrom=s.fSpan.fTo) ?_ (fun v1 hv1=>?_)
  ·refine bQ (fun e=>?_) (fun e=>bK (fun _ e'=>absurd e' e))
   have hpos:=hI.pos (by omega)
   rw[show w64 (i-1)=i-1 from ax (by omega)]
   refine aq (cj (by omega) (by omega)) (fun z hz=>?_)
   refine bX (fun _=>bK (by simp)) (fun e2=>?_)
   refine aq (Q:=Yes) ⟨z,hz▸by simp[idx,hz];omega,trivial⟩ (fun w _=>?_)
   refine(aq (Q:=Yes) (QQ _ _) (fun b _=>bK (P:=fun v=>v=false→x=r→∀s,l[(i-1).toNat]? = some s→y.fSpan.fFrom=s.fSpan.fTo) (fun _ _ s hs=>?_)))
   rw[hz]at hs;cases hs;exact e2
  refine bJ (fun _=>d8 (no _ (by simp))) (fun e1=>?_)
  refine aq (Q:=fun v=>v=false→x≠r→x=r+1) ?_ (fun v2 hv2=>?_)
  ·refine bX (fun e=>?_) (fun e=>bK (fun _ e'=>absurd e e'))
   have hb:=hI.rng
   rw[ax (n:=r+1) (by omega)]
   refine bX (fun _=>bK (by simp)) (fun e3=>bK (fun _ _=>e3))
  refine bJ (fun _=>d8 (no _ (by simp))) (fun e2=>?_)
  exact Tj (Inv:=fun r i=>Tab l ix r i) (aFj hix' hI h1 hy hx (by omega) (hv ev) (hv1 e1) (hv2 e2)) h1 hi h
 ·dsimp only
  refine bQ (fun _=>bK (fun _=>hd)) (fun hne=>?_)
  rw[show w64 ((l.length:Int)-1)=(l.length:Int)-1 from ax (by omega)]
  refine aq (cj (by omega) (by omega)) (fun y _=>?_)
  refine eW (Q:=Yes) (wz l.length h fun j h3 h4=>?_) (fun _ _=>?_) (fun r hr=>bK (fun _=>hd))
  ·unfold A4
   refine bQ (fun hj=>?_) (fun _=>bW)
   refine aq (cj h3 hj) (fun z hz=>?_)
   have e:w64 (j+1)=j+1:=ax (by omega)
   rw[e]
   refine aq (Q:=Yes) ?_ (fun v _=>?_)
   ·refine bQ (fun _=>cX) (fun hne=>?_)
    exact aq (cj (by omega) (by omega)) (fun _ _=>cX)
   ·refine aq (Q:=Yes) (by repeat' (first | (with_reducible first | exact cX | exact bW | exact cJ | refine bX (fun _=>?_) fun _=>?_ | refine bQ (fun _=>?_) fun _=>?_ | refine c8 (fun _=>?_) fun _=>?_ | refine bJ (fun _=>?_) fun _=>?_) | (with_reducible refine cQ ?_ ?_ ?_<;>(first | assumption | omega | rw[ax]<;>omega)) | with_reducible refine aq (cj (by(first | assumption | omega | rw[ax]<;>omega)) (by(first | assumption | omega | rw[ax]<;>omega))) (fun _ _=>?_) | (with_reducible refine aq (Q:=Yes) ?_ fun _ _=>?_) | dsimp only)) (fun v _=>?_)
    exact bJ (fun _=>bW) (fun _=>jQ ⟨hj,rfl⟩)
  ·exact bX (fun _=>bK (fun _=>hd)) (fun _=>bK (fun _=>hd))
 ·exact bK (fun e=>absurd e hr)
theorem X2(t:aY)(h:Siz t)(ht:t.fThreads.length≤1000000):Ok (uj t) (fun r=>r=0→Gd t.fStates):=by
 unfold uj
 refine eW (KW t h.th h.nTh) (fun r hr=>?_) (fun r _=>?_)
 ·exact bX (fun h0=>bK (fun e=>absurd e h0)) (fun h0=>absurd h0 hr)
 ·dsimp only
  refine bX (fun h0=>bK (fun e=>absurd e h0)) (fun _=>?_)
  refine aq (OX _ h.sl h.nSl) (fun r4 _=>?_)
  refine aq (z1 _ _ _ h.sl) (fun r5 _=>?_)
  refine bX (fun h0=>bK (fun e=>absurd e h0)) (fun _=>?_)
  refine aq (H6 _ _ ht h.st) (fun r6 h6=>?_)
  refine bX (fun h0=>bK (fun e=>absurd e h0)) (fun e6=>?_)
  have hd:=h6 e6
  refine aq (J0 _ h.fl) (fun r7 _=>?_)
  refine aq (AW _ _ _ h.fl) (fun r8 _=>?_)
  refine aq (A5 _ _ _ h.fl) (fun r9 _=>?_)
  refine bX (fun h0=>bK (fun e=>absurd e h0)) (fun _=>?_)
  refine aq (E9 _ h.sa h.nSa) (fun r10 _=>?_)
  refine aq (yZ _ _ _ h.sa) (fun r11 _=>?_)
  refine bX (fun h0=>bK (fun e=>absurd e h0)) (fun _=>?_)
  refine aq (D7 _ h.sp h.nSp) (fun r12 _=>?_)
  refine bX (fun h0=>bK (fun e=>absurd e h0)) (fun _=>?_)
  refine aq (FQ _ h.bl h.nBl) (fun r13 _=>?_)
  refine aq (z2 _ _ _ h.bl) (fun r14 _=>?_)
  refine bX (fun h0=>bK (fun e=>absurd e h0)) (fun _=>?_)
  refine aq (Iq _ _ h.lo) (fun r15 _=>?_)
  exact bK (fun _=>hd)
theorem acq(t:aY)(h:Siz t)(ht:t.fThreads.length≤1000000):Ok (sJ t) (fun r=>r=0→Gd t.fStates):=by
 unfold sJ
 refine aq (X2 t h ht) (fun r hr=>?_)
 refine bX (fun h0=>bK (fun e=>absurd e h0)) (fun e=>?_)
 have hd:=hr e
 refine aq (Q:=Yes) (by repeat' (first | (with_reducible first | exact cX | exact bW | exact cJ | refine bX (fun _=>?_) fun _=>?_ | refine bQ (fun _=>?_) fun _=>?_ | refine c8 (fun _=>?_) fun _=>?_ | refine bJ (fun _=>?_) fun _=>?_) | (with_reducible refine cQ ?_ ?_ ?_<;>(first | assumption | omega | rw[ax]<;>omega)) | with_reducible refine aq (cj (by(first | assumption | omega | rw[ax]<;>omega)) (by(first | assumption | omega | rw[ax]<;>omega))) (fun _ _=>?_) | (with_reducible refine aq (Q:=Yes) ?_ fun _ _=>?_) | dsimp only)) (fun v _=>?_)
 refine bJ (fun _=>bK (fun _=>hd)) (fun _=>?_)
 refine aq (KY t h) (fun v _=>?_)
 exact bJ (fun _=>bK (fun _=>hd)) (fun _=>bK (fun _=>hd))
theorem ahX{κ ν:Type}[DecidableEq κ](k k':κ)(v:ν):∀(m:List (κ×ν)),D3 k (arz k' v m)=if k=k' then some v else D3 k m
 | []=>by simp[arz,D3]
 | p::r=>by
  simp only[arz]
  by_cases e:k'=p.1
  ·subst e
   simp only[ik,D3]
   by_cases e2:k=p.1<;>simp[e2]
  ·rw[if_neg e]
   simp only[D3]
   rw[ahX k k' v r]
   by_cases e2:k=p.1
   ·subst e2
    rw[if_pos rfl,if_pos rfl,if_neg (fun h=>e h.symm)]
   ·rw[if_neg e2,if_neg e2]
theorem acK{S ρ:Type}{step:S→Option (S ⊕ ρ)}{Q:ρ→Prop}(h:∀s r,step s=some (.inr r)→Q r){s:S}{r:ρ}(hr:loop step s=some r):Q r:=by
 have key:∀n s,iter step n s=some r→Q r:=by
  intro n
  induction n with
  | zero=>intro s h;simp[iter]at h
  | succ n ih =>
   intro s hs
   rw[ux]at hs
   cases e:step s with
   | none=>rw[e]at hs;simp at hs
   | some x =>
    rw[e]at hs
    cases x with
    | inl s'=>exact ih s' hs
    | inr r'=>simp only[bk]at hs;subst hs;exact h s _ e
 exact key _ s hr
theorem aEz(y:UInt8):u4 (y.toNat:Int)=oV (y.toNat:Int):=by
 have h:(List.range 256).all (fun n=>decide (u4 (n:Int)=oV (n:Int)))=true:=by kernel_rfl
 exact of_decide_eq_true (List.all_eq_true.1 h y.toNat (List.mem_range.2 (UInt8.toNat_lt y)))
theorem aDX(s:ByteArray):s=⟨#[]⟩↔(s.size:Int)<1:=by
 constructor
 ·intro h;subst h;decide
 ·intro h
  cases s with
  | mk a =>
   have:a.size=0:=by
    have:(ByteArray.mk a).size=a.size:=rfl
    omega
   rw[Array.eq_empty_of_size_eq_zero this]
theorem Yx(s:ByteArray):nJ s=j9 s:=by
 unfold nJ j9
 have h1:s5 s=sQ s:=by
  funext i
  simp only[s5,sQ,aEz]
 have h2:decide (s=⟨#[]⟩)=decide ((ByteArray.size s:Int)<1):=decide_eq_decide.2 (aDX s)
 rw[h1,h2]<;>rfl
theorem aTJ{s:ByteArray}{r:Int}(h:nJ s=some r):r=0∨r=3:=by
 unfold nJ at h
 obtain⟨v,_,h⟩:=bB h
 cases v with
 | true=>simp at h;exact .inr h.symm
 | false =>
  obtain⟨q,hq,h⟩:=bB (show(loop (s5 s) 0).bind _=some r from h)
  have:=acK (Q:=fun q:Unit ⊕ Int=>∀x,q = .inr x→x=3) (fun i r hr=>by
   unfold s5 at hr
   by_cases hi:i<(ByteArray.size s:Int)
   ·simp only[hi,decide_true,cond_true]at hr
    obtain⟨y,_,hr⟩:=bB hr
    obtain⟨z,_,hr⟩:=bB hr
    cases z
    ·simp only[fw,cond_true,bk,Sum.inr.injEq]at hr
     subst hr;intro x hx;cases hx;rfl
    ·simp at hr
   ·simp[hi]at hr;subst hr;intro x hx;cases hx) hq
  cases q with
  | inl _=>simp at h;exact .inl h.symm
  | inr x=>simp at h;subst h;exact .inr (this _ rfl)
theorem aEX(t:dz):n7 t=oX t:=by
 unfold n7 oX
 rw[Yx]
theorem Tz(s:bZ):lZ s=lQ s:=rfl
theorem ahK(l:List ByteArray):sY l=mj l:=by
 unfold sY mj
 have h1:wx l=pq l:=by
  funext i
  unfold wx pq
  cases idx l i with
  | none=>rfl
  | some y =>
   simp only[Option.bind_some,←Yx]
   cases e:nJ y with
   | none=>rfl
   | some r =>
    rcases aTJ e with rfl | rfl<;>rfl
 rw[h1]<;>rfl
theorem arj(a b:Int):wV a b=some (!decide (0≤a∧a≤b)):=by
 unfold wV
 by_cases h1:a<0<;>by_cases h2:b<a<;>simp[h1,h2]<;>omega
theorem axW(a:Int):iX a=some (decide (0≤a∧a≤1000000000000000)):=by
 unfold iX
 by_cases h1:0≤a<;>by_cases h2:a≤1000000000000000<;>simp[h1,h2]
theorem axK(a:Int):lK a=some (decide (0≤a∧a≤1000000000000)):=by
 unfold lK
 by_cases h1:0≤a<;>by_cases h2:a≤1000000000000<;>simp[h1,h2]
theorem aRQ(l:List fX):CJ l=p7 l:=by
 unfold CJ p7
 have h1:BK l=q6 l:=by
  funext i
  unfold BK q6
  cases idx l i with
  | none=>rfl
  | some y =>
   simp only[Option.bind_some,arj,axW,axK]
   generalize decide (0≤y.fId∧y.fId≤1000000000000000)=b1
   generalize decide (0≤y.fFrom.fThread∧y.fFrom.fThread≤1000000000000000)=b2
   generalize decide (0≤y.fFrom.fSerial∧y.fFrom.fSerial≤1000000000000000)=b3
   generalize decide (0≤y.fTo.fThread∧y.fTo.fThread≤1000000000000000)=b4
   generalize decide (0≤y.fTo.fSerial∧y.fTo.fSerial≤1000000000000000)=b5
   generalize decide (0≤y.fSend∧y.fSend≤1000000000000)=b6
   generalize decide (0≤y.fRecv∧y.fRecv≤1000000000000)=b7
   generalize decide (y.fRecv<y.fSend)=b8
   congr 1
   cases b1
   ·rfl
   cases b2
   ·rfl
   cases b3
   ·rfl
   cases b4
   ·rfl
   cases b5
   ·rfl
   cases b6
   ·rfl
   cases b7
   ·rfl
   cases b8<;>rfl
 rw[h1]<;>rfl
theorem aEV(l:List eY):xZ l=qz l:=by
 unfold xZ qz
 have h1:yz l=q8 l:=by
  funext i
  unfold yz q8
  cases e:idx l i with
  | none=>rfl
  | some y =>
   simp only[Option.bind_some,←ahK]
   rfl
 rw[h1]<;>rfl
theorem arQ:∀x y:List UInt8,(!(Op.bytesLess x y||decide (x=y)))=Op.bytesLess y x
 | [],[]=>by simp[Op.bytesLess]
 | [],b::y=>by simp[Op.bytesLess]
 | a::x,[]=>by simp[Op.bytesLess]
 | a::x,b::y=>by
  have ih:=arQ x y
  simp only[Op.bytesLess,List.cons.injEq]
  by_cases h1:a<b
  ·have h2 : ¬b<a:=UInt8.lt_asymm h1
   have h3 : ¬a=b:=UInt8.ne_of_lt h1
   have h4 : ¬b=a:=fun e=>h3 e.symm
   simp[h1,h2,h3,h4]
  ·by_cases h2:a=b
   ·subst h2
    simp[h1,←ih]
   ·have h3:b<a:=by
     rcases UInt8.lt_or_lt_of_ne h2 with h | h
     ·exact absurd h h1
     ·exact h
    have h4 : ¬b=a:=fun e=>h2 e.symm
    simp[h1,h2,h3]
theorem aJj(a b:ByteArray):a.toList=b.toList↔a=b:=by
 constructor
 ·intro h
  rw[ByteArray.toList_eq,ByteArray.toList_eq]at h
  exact Go.WideShapes.bytes_inj h
 ·intro h;rw[h]
theorem X7(a b:ByteArray):(!(sLt a b||decide (a=b)))=sLt b a:=by
 unfold sLt
 rw[←arQ a.toList b.toList]
 simp only[aJj]
theorem aSZ{a b:ByteArray}(h:sLt a b=true):sLt b a=false∧a≠b:=by
 have h1:=X7 a b
 have h2:=X7 b a
 rw[h]at h1 h2
 simp at h1 h2
 exact⟨h1,fun e=>h2.2 e.symm⟩
theorem aQY(a b:ByteArray):mK a b=some (if sLt a b then -1 else if sLt b a then 1 else 0):=by
 unfold mK sW
 simp only[decide_true,dk,Option.bind_some,cond_false,X7]
 cases sLt a b<;>cases sLt b a<;>rfl
theorem aBQ(a b:Int):lY a b=some (if a<b then -1 else if b<a then 1 else 0):=by
 unfold lY yK
 by_cases h1:a<b<;>by_cases h2:b<a<;>simp[h1,h2]
def orI:List Int→Int
 | []=>0
 | x::r=>if x=0 then orI r else x
theorem Wz:∀(l:List Int) (i:Nat),(match(tq (fun _ y => if y=0 then none else some (.inr y)) l i).getD (.inl ())with | (.inl _:Unit ⊕ Int) => 0 | .inr rv => rv)=orI l
 | [],_=>rfl
 | x::r,i=>by
  simp only[tq,orI]
  by_cases h:x=0
  ·simp only[h,ik];exact Wz r (i+1)
  ·simp[h]
theorem aox(l:List Int)(hl:l.length≤9223372036854775807):A2 l=some (orI l):=by
 unfold A2
 rw[LZ l (fun _ y=>if y=0 then none else some (.inr y)) (.inl ()) (by simp[gz];omega) (fun i y hy=>?_) (by simp[Cx])]
 ·rw[Option.bind_some,←Wz l 0]
  generalize (tq _ l 0).getD (Sum.inl ())=q
  cases q<;>rfl
 ·have hi:=dJ hy
  have h1:(i:Int)<l.length:=by omega
  simp only[Cx,h1,decide_true,cond_true,j4,hy,Option.bind_some]
  by_cases h:y=0<;>simp[h,O6 (i:=i) (by omega)]
theorem aNW(p c:jj):sZ p c=some (if sLt p.fName c.fName then -1 else if sLt c.fName p.fName then 1 else if p.fAt<c.fAt then -1 else if c.fAt<p.fAt then 1 else 0):=by
 unfold sZ
 simp only[aQY,aBQ,Option.bind_some]
 rw[aox _ (Nat.le_of_ble_eq_true rfl),Option.bind_some]
 simp only[orI]
 cases sLt p.fName c.fName
 ·cases sLt c.fName p.fName
  ·by_cases h1:p.fAt<c.fAt<;>by_cases h2:c.fAt<p.fAt<;>simp[h1,h2]
  ·simp
 ·simp
theorem azz(l:List jj):uY l=p8 l:=by
 unfold uY p8
 have h1:vW l=rj l:=by
  funext i
  unfold vW rj
  cases e:idx l i with
  | none=>rfl
  | some y =>
   simp only[Option.bind_some,←Yx]
   congr 1
   congr 1
   funext r60
   congr 1
   have hv:∀n:Int,RW n=some (decide (-1000000000000000≤n)&&decide (n≤1000000000000000)):=by
    intro n;unfold RW;by_cases h1:(-1000000000000000:Int)≤n<;>by_cases h2:n≤1000000000000000<;>simp[h1,h2]
   rw[hv]
   have e1:decide (y.fValue < -1000000000000000) = !decide (-1000000000000000≤y.fValue):=by
    by_cases h:(-1000000000000000:Int)≤y.fValue<;>simp[h]<;>omega
   have e2:decide (1000000000000000<y.fValue) = !decide (y.fValue≤1000000000000000):=by
    by_cases h:y.fValue≤1000000000000000<;>simp[h]<;>omega
   rw[e1,e2]
   have e3:(bif decide (y.fAt<0)then some true else bif decide (1000000000000<y.fAt)then some true else(some (decide (-1000000000000000≤y.fValue)&&decide (y.fValue≤1000000000000000))).bind fun r74=>some (!r74))=(bif decide (y.fAt<0)then some true else bif decide (1000000000000<y.fAt)then some true else bif !decide (-1000000000000000≤y.fValue)then some true else some (!decide (y.fValue≤1000000000000000))):=by
    simp only[Option.bind_some]
    cases decide (-1000000000000000≤y.fValue)<;>cases decide (y.fValue≤1000000000000000)<;>rfl
   rw[e3]
   congr 1
   funext v61
   congr 1
   have e4:(bif decide (0<i)then(idx l (w64 (i-1))).bind fun y65=>(sZ y65 y).bind fun r66=>bif decide (0≤r66)then some true else(idx l (w64 (i-1))).bind fun y68=>bif decide (y68.fName=y.fName)then(idx l (w64 (i-1))).bind fun y70=>some (decide (y70.fValue=y.fValue))else some false else some false)=(bif decide (0<i)then(idx l (w64 (i-1))).bind fun y93=>bif sLt y.fName y93.fName then some true else(idx l (w64 (i-1))).bind fun y96=>bif decide (y.fName=y96.fName)then(idx l (w64 (i-1))).bind fun y99=>bif decide (y.fAt≤y99.fAt)then some true else(idx l (w64 (i-1))).bind fun y102=>some (decide (y.fValue=y102.fValue))else some false else some false):=by
    congr 1
    cases e5:idx l (w64 (i-1))with
    | none=>rfl
    | some p =>
     simp only[Option.bind_some,aNW]
     cases s1:sLt p.fName y.fName with
     | true =>
      obtain⟨s2,s3⟩:=aSZ s1
      have s4 : ¬y.fName=p.fName:=fun e=>s3 e.symm
      simp[s2,s3,s4]
     | false =>
      cases s2:sLt y.fName p.fName with
      | true=>simp
      | false =>
       have s3:=X7 p.fName y.fName
       rw[s1,s2]at s3
       simp at s3
       rw[s3]
       by_cases h1:p.fAt<y.fAt
       ·have h2 : ¬y.fAt≤p.fAt:=by omega
        have h3:(p.fValue=y.fValue)↔(y.fValue=p.fValue):=⟨Eq.symm,Eq.symm⟩
        simp[h1,h2,h3]
       ·have h2:y.fAt≤p.fAt:=by omega
        by_cases h3:y.fAt<p.fAt<;>simp[h1,h2,h3]
   rw[e4]
 rw[h1]<;>rfl
theorem SX{S ρ:Type}{step step':S→Option (S ⊕ ρ)}(Inv:S→Prop)(h:∀s,Inv s→step s=step' s)(hI:∀s s',Inv s→step s=some (.inl s')→Inv s'){s:S}(hs:Inv s):loop step s=loop step' s:=by
 have key:∀n s,Inv s→iter step n s=iter step' n s:=by
  intro n
  induction n with
  | zero=>intro s _;rfl
  | succ n ih =>
   intro s hs
   rw[ux,ux,←h s hs]
   cases e:step s with
   | none=>rfl
   | some x =>
    cases x with
    | inl s'=>exact ih s' (hI s s' hs e)
    | inr r=>rfl
 exact key _ s hs
theorem aGj(s:bZ):(bif decide (s.fFrom<0)then some true else bif decide (s.fTo≤s.fFrom)then some true else some (decide (1000000000000<s.fTo)))=(lQ s).bind fun r=>some (!r):=by
 rw[A7,Option.bind_some]
 by_cases h1:s.fFrom<0<;>by_cases h2:s.fTo≤s.fFrom<;>by_cases h3:1000000000000<s.fTo<;>simp[h1,h2,h3]<;>omega
theorem aWX(l:List eJ)(i:Int)(y:eJ)(ys:List eJ)(h:F6 l 0 i=some ys)(hl:l.length≤9223372036854775807):loop (rZ y ys) 0=loop (rQ l i y) 0:=by
 unfold F6 at h
 by_cases h0:0≤(0:Int)∧0≤i∧i≤(l.length:Int)
 ·rw[if_pos h0]at h
  injection h with h
  have hlen:(ys.length:Int)=i:=by subst h;simp;omega
  refine SX (fun j=>0≤j) (fun j hj=>?_) (fun j j' hj hs=>?_) (show(0:Int)≤0 by omega)
  ·unfold rZ rQ
   rw[hlen]
   by_cases hi:j<i
   ·have e:idx ys j=idx l j:=by
     subst h
     obtain⟨n,rfl⟩:=Int.eq_ofNat_of_zero_le hj
     simp only[j4]
     simp[lk]
     omega
    rw[e]
    simp only[hi,decide_true,cond_true]
    cases idx l j with
    | none=>rfl
    | some z =>
     simp only[Option.bind_some,tX]
     by_cases g1:z.fId=y.fId<;>by_cases g2:z.fSpan.fFrom<y.fSpan.fTo<;>by_cases g3:y.fSpan.fFrom<z.fSpan.fTo<;>simp[g1,g2,g3]
   ·simp[hi]
  ·unfold rZ at hs
   by_cases hi:j<(ys.length:Int)
   ·simp only[hi,decide_true,cond_true]at hs
    obtain⟨z,_,hs⟩:=bB hs
    obtain⟨v,_,hs⟩:=bB hs
    cases v
    ·simp only[cond_false,bk,Sum.inl.injEq]at hs
     subst hs
     rw[ax (by omega)];omega
    ·simp at hs
   ·simp[hi]at hs
 ·rw[if_neg h0]at h;simp at h
theorem aeJ{ρ:Type}{step step':Int→Option (Int ⊕ ρ)}(n:Nat)(h1:∀i:Int,0≤i→i≤n→Ok (step i) (oZ (fun a=>i<n∧a=i+1) Yes))(h2:∀i:Int,0≤i→i≤n→step i=step' i):loop step 0=loop step' 0:=by
 refine SX (fun i:Int=>0≤i∧i≤n) (fun i hi=>h2 i hi.1 hi.2) (fun i j hi hs=>?_) ⟨by omega,by omega⟩
 have:=(h1 i hi.1 hi.2).of_eq hs
 obtain⟨h3,h4⟩ : i<n∧j=i+1:=this
 omega
theorem aFZ(l:List eJ)(h:l.length≤9223372036854775807)(hx:∀x∈l,x.fStack.length≤9223372036854775807∧∀y∈x.fStack,okN y)(i:Int)(h1:0≤i)(h2:i≤l.length):Ok (n9 l i) (oZ (fun a=>i<l.length∧a=i+1) Yes):=by
 unfold n9
 refine bQ (fun hi=>?_) (fun _=>bW)
 refine aq (cj h1 hi) (fun y hy=>?_)
 refine aq (Q:=Yes) (by repeat' (first | (with_reducible first | exact cX | exact bW | exact cJ | refine bX (fun _=>?_) fun _=>?_ | refine bQ (fun _=>?_) fun _=>?_ | refine c8 (fun _=>?_) fun _=>?_ | refine bJ (fun _=>?_) fun _=>?_) | (with_reducible refine cQ ?_ ?_ ?_<;>(first | assumption | omega | rw[ax]<;>omega)) | with_reducible refine aq (cj (by(first | assumption | omega | rw[ax]<;>omega)) (by(first | assumption | omega | rw[ax]<;>omega))) (fun _ _=>?_) | (with_reducible refine Ok.yes (s9 _)<;>(first | assumption | omega | rw[ax]<;>omega)) | (with_reducible refine aq (Q:=Yes) ?_ fun _ _=>?_) | dsimp only)) (fun v _=>?_)
 refine bJ (fun _=>bW) (fun _=>?_)
 refine aq (Q:=Yes) (vK _ (hx _ (fk hy)).1 (hx _ (fk hy)).2) (fun v _=>?_)
 refine bX (fun _=>bW) (fun _=>?_)
 refine aq (Q:=Yes) (by repeat' (first | (with_reducible first | exact cX | exact bW | exact cJ | refine bX (fun _=>?_) fun _=>?_ | refine bQ (fun _=>?_) fun _=>?_ | refine c8 (fun _=>?_) fun _=>?_ | refine bJ (fun _=>?_) fun _=>?_) | (with_reducible refine cQ ?_ ?_ ?_<;>(first | assumption | omega | rw[ax]<;>omega)) | with_reducible refine aq (cj (by(first | assumption | omega | rw[ax]<;>omega)) (by(first | assumption | omega | rw[ax]<;>omega))) (fun _ _=>?_) | (with_reducible refine aq (Q:=Yes) ?_ fun _ _=>?_) | dsimp only)) (fun v _=>?_)
 refine bJ (fun _=>bW) (fun _=>?_)
 refine aq (Q:=fun ys=>ys.length≤9223372036854775807) ?_ (fun ys hys=>?_)
 ·unfold F6
  rw[if_pos ⟨by omega,by omega,by omega⟩]
  exact bK (by simp;omega)
 refine eW (Q:=oZ Yes (oZ (fun _=>False) Yes)) (wz ys.length hys fun j h3 h4=>?_) (fun _ _=>cQ h1 hi h) (fun r hr=>?_)
 ·unfold rZ
  refine bQ (fun hj=>?_) (fun _=>d8 trivial)
  refine aq (cj h3 hj) (fun z hz=>?_)
  refine aq (Q:=Yes) (by repeat' (first | (with_reducible first | exact cX | exact bW | exact cJ | refine bX (fun _=>?_) fun _=>?_ | refine bQ (fun _=>?_) fun _=>?_ | refine c8 (fun _=>?_) fun _=>?_ | refine bJ (fun _=>?_) fun _=>?_) | (with_reducible refine cQ ?_ ?_ ?_<;>(first | assumption | omega | rw[ax]<;>omega)) | with_reducible refine aq (cj (by(first | assumption | omega | rw[ax]<;>omega)) (by(first | assumption | omega | rw[ax]<;>omega))) (fun _ _=>?_) | (with_reducible refine aq (Q:=Yes) ?_ fun _ _=>?_) | dsimp only)) (fun v _=>?_)
  refine bJ (fun _=>d8 trivial) (fun _=>cQ h3 hj hys)
 ·rcases r with r | r
  ·exact(hr:False).elim
  ·exact bW
theorem apY(l:List eJ)(hl:l.length≤9223372036854775807)(i:Int)(hi0:0≤i):n9 l i=kX l i:=by
 unfold n9 kX
 by_cases hi:i<(l.length:Int)
 ·simp only[hi,decide_true,cond_true]
  cases e:idx l i with
  | none=>rfl
  | some y =>
   simp only[Option.bind_some,←ahK,aGj]
   congr 1
   funext v144
   congr 1
   congr 1
   funext r145
   congr 1
   congr 1
   funext v146
   congr 1
   have hp:F6 l 0 i=some ((l.take i.toNat).drop 0):=by
    unfold F6;rw[if_pos ⟨by omega,hi0,by omega⟩];rfl
   rw[hp,Option.bind_some,aWX l i y _ hp hl]<;>rfl
 ·simp[hi]
theorem aFW(l:List eJ)(hl:l.length≤9223372036854775807)(hx:∀x∈l,x.fStack.length≤9223372036854775807∧∀y∈x.fStack,okN y):xV l=qV l:=by
 unfold xV qV
 have h0:loop (n9 l) 0=loop (kX l) 0:=by
  refine aeJ l.length (aFZ l hl hx) (step':=kX l) (fun i hi0 _=>?_)
  exact apY l hl i hi0
 rw[h0]<;>rfl
theorem avV(a b:aK):∃c,sX a b=some c∧kW b a=some (decide (0<c)):=by
 refine⟨orI [if a.fSpan.fFrom<b.fSpan.fFrom then -1 else if b.fSpan.fFrom<a.fSpan.fFrom then 1 else 0,if b.fSpan.fTo<a.fSpan.fTo then -1 else if a.fSpan.fTo<b.fSpan.fTo then 1 else 0,if a.fThread<b.fThread then -1 else if b.fThread<a.fThread then 1 else 0],?_,?_⟩
 ·unfold sX
  simp only[aBQ,Option.bind_some]
  rw[aox _ (Nat.le_of_ble_eq_true rfl),Option.bind_some]
 ·unfold kW
  simp only[orI]
  by_cases h1:a.fSpan.fFrom<b.fSpan.fFrom
  ·have h2 : ¬b.fSpan.fFrom=a.fSpan.fFrom:=by omega
   have h3 : ¬b.fSpan.fFrom<a.fSpan.fFrom:=by omega
   simp[h1,h2,h3]
  ·by_cases h2:b.fSpan.fFrom<a.fSpan.fFrom
   ·have h3 : ¬b.fSpan.fFrom=a.fSpan.fFrom:=by omega
    simp[h1,h2,h3]
   ·have h3:b.fSpan.fFrom=a.fSpan.fFrom:=by omega
    simp only[h1,h2,h3,decide_true,dk,cond_false,ck,ik]
    by_cases h4:b.fSpan.fTo<a.fSpan.fTo
    ·have h5 : ¬b.fSpan.fTo=a.fSpan.fTo:=by omega
     have h6 : ¬a.fSpan.fTo<b.fSpan.fTo:=by omega
     simp[h4,h5,h6]
    ·by_cases h5:a.fSpan.fTo<b.fSpan.fTo
     ·have h6 : ¬b.fSpan.fTo=a.fSpan.fTo:=by omega
      simp[h4,h5,h6]
     ·have h6:b.fSpan.fTo=a.fSpan.fTo:=by omega
      by_cases h7:a.fThread<b.fThread
      ·have h8 : ¬b.fThread<a.fThread:=by omega
       simp[h6,h7,h8]
      ·by_cases h8:b.fThread<a.fThread<;>simp[h6,h7,h8]
theorem anJ(l:List aK):n6 l=pZ l:=by
 funext i
 unfold n6 pZ
 cases e:idx l i with
 | none=>rfl
 | some y =>
  simp only[Option.bind_some]
  congr 1
  by_cases h1:y.fParent < -1
  ·simp[h1]
  ·by_cases h2:i≤y.fParent
   ·simp[h1,h2]
   ·simp only[h1,h2,decide_false,cond_false,Option.bind_some]
    by_cases h3:y.fParent = -1
    ·rw[h3]
     by_cases h4:y.fDepth=0<;>simp[h4]
    ·have h5:0≤y.fParent:=by omega
     simp only[h3,h5,decide_false,decide_true,cond_false,cond_true,Option.bind_some]
     cases idx l y.fParent with
     | none=>rfl
     | some z =>
      simp only[Option.bind_some,q9]
      by_cases g1:z.fThread=y.fThread<;>by_cases g2:y.fSpan.fFrom<z.fSpan.fFrom<;>by_cases g3:z.fSpan.fTo<y.fSpan.fTo<;>by_cases g4:y.fDepth=w64 (z.fDepth+1)<;>
       simp[g1,g2,g3,g4,Int.not_lt.1,Int.not_le.2]<;>(first | (rw[show(decide (z.fSpan.fFrom≤y.fSpan.fFrom))=false from decide_eq_false (by omega)];rfl) | (rw[show(decide (z.fSpan.fFrom≤y.fSpan.fFrom))=true from decide_eq_true (by omega)];first | rfl | (rw[show(decide (y.fSpan.fTo≤z.fSpan.fTo))=false from decide_eq_false (by omega)];rfl) | (rw[show(decide (y.fSpan.fTo≤z.fSpan.fTo))=true from decide_eq_true (by omega)];rfl)) | skip)
inductive Desc(l:List aK)(j:Int):Int→Prop
 | self:Desc l j j
 | up {a:Int} {y:aK}:0≤a→l[a.toNat]? = some y→Desc l j y.fParent→Desc l j a
theorem Desc.le{l:List aK}(hu:Up l l.length){j a:Int}(h:Desc l j a):j≤a:=by
 induction h with
 | self=>omega
 | up h0 hy _ ih =>
  have:=hu _ _ (by have:=dJ hy;omega) hy
  omega
theorem Desc.step{l:List aK}{j a:Int}{y:aK}(h0:0≤a)(hy:l[a.toNat]? = some y)(hne:j≠a):Desc l j a↔Desc l j y.fParent:=by
 constructor
 ·intro h
  cases h with
  | self=>exact absurd rfl hne
  | up _ hy' h=>rw[hy]at hy';cases hy';exact h
 ·exact Desc.up h0 hy
theorem aLK(l:List aK)(h:l.length≤9223372036854775807)(hu:Up l l.length)(j i:Int)(hj:0≤j)(hi:i<l.length):Ok (AY l j i) (fun r=>r=true↔Desc l j i):=by
 unfold AY
 refine eW (Q:=oZ (fun _=>¬Desc l j i) (fun r=>r=true∧Desc l j i)) (A8 (fun s:Int=>s<l.length∧(Desc l j s↔Desc l j i)) (fun s:Int=>(s+1).toNat) (fun s hs=>?_) ⟨hi,Iff.rfl⟩ (by simp[gz];omega)) (fun _ hq=>bK ⟨fun e=>by simp at e,fun e=>absurd e hq⟩) (fun r hr=>bK ⟨fun _=>hr.2,fun _=>hr.1⟩)
 obtain⟨h1,h2⟩:=hs
 unfold C7
 refine bQ (fun h0=>?_) (fun h0=>d8 (fun e=>?_))
 ·refine bQ (fun e=>d8 ⟨rfl,h2.1 (e▸Desc.self)⟩) (fun hne=>?_)
  refine aq (cj h0 h1) (fun y hy=>?_)
  have:=hu s.toNat y (by omega) hy
  exact jQ ⟨⟨by omega,(Desc.step h0 hy hne).symm.trans h2⟩,by omega⟩
 ·have:=(h2.2 e).le hu;omega
theorem aOQ(l:List aK)(h:l.length≤9223372036854775807)(hu:Up l l.length)(j i:Int)(hj:0≤j)(hi:i<l.length):Ok (qQ l j i) (fun r=>r=true↔Desc l j i):=by
 unfold qQ
 refine aq (Q:=fun a=>(Desc l j a↔Desc l j i)∧a≤j) (A8 (fun s:Int=>s<l.length∧(Desc l j s↔Desc l j i)) (fun s:Int=>(s+1).toNat) (fun s hs=>?_) ⟨hi,Iff.rfl⟩ (by simp[gz];omega)) (fun a ha=>bK ?_)
 ·obtain⟨h1,h2⟩:=hs
  unfold v8
  refine aq (Q:=fun v=>(v=true↔0≤s∧j<s)) ?_ (fun v hv=>?_)
  ·by_cases g1:0≤s<;>by_cases g2:j<s<;>simp[g1,g2,Ok]
  ·refine bJ (fun e=>?_) (fun e=>d8 ⟨h2,?_⟩)
   ·obtain⟨h0,hlt⟩:=hv.1 e
    refine aq (cj h0 h1) (fun y hy=>?_)
    have:=hu s.toNat y (by omega) hy
    exact jQ ⟨⟨by omega,(Desc.step h0 hy (by omega)).symm.trans h2⟩,by omega⟩
   ·have : ¬(0≤s∧j<s):=fun hh=>by have:=hv.2 hh;simp[e]at this
    omega
 ·rw[←ha.1]
  constructor
  ·intro e
   rw[←of_decide_eq_true e]
   exact Desc.self
  ·intro hd
   have:=hd.le hu
   exact decide_eq_true (by omega)
def H9(l:List aK)(i s0:Int):Nat→Int
 | 0=>s0
 | n+1=>match l[n]? with
  | some z=>if z.fParent=i then w64 (H9 l i s0 n-w64 (z.fSpan.fTo-z.fSpan.fFrom))else H9 l i s0 n
  | none=>H9 l i s0 n
def Bad(l:List aK)(j i:Int)(z y:aK):Prop:=z.fThread=y.fThread∧y.fSpan.fFrom<z.fSpan.fTo∧z.fSpan.fFrom<y.fSpan.fTo∧¬Desc l j i
def OK(l:List aK):Prop:=∀(i:Nat) y,l[i]? = some y→y.fSelf=H9 l i (w64 (y.fSpan.fTo-y.fSpan.fFrom)) l.length∧∀(j:Nat) z,j<i→l[j]? = some z→¬Bad l j i z y
def Z3(l:List aK):Prop:=∀(i:Nat) y,l[i]? = some y→y.fSelf=H9 l i (w64 (y.fSpan.fTo-y.fSpan.fFrom)) l.length∧∀(j:Nat) z,i<j→l[j]? = some z→¬Bad l i j y z
theorem aiK(l:List aK):OK l↔Z3 l:=by
 constructor
 ·intro h i y hy
  exact⟨(h i y hy).1,fun j z hj hz=>(h j z hz).2 i y hj hy⟩
 ·intro h i y hy
  exact⟨(h i y hy).1,fun j z hj hz=>(h j z hz).2 i y hj hy⟩
theorem Z7{l:List aK}{i s0:Int}{n:Nat}{z:aK}(hz:l[n]? = some z):Ok (bif decide (z.fParent=i)then some (w64 (H9 l i s0 n-w64 (z.fSpan.fTo-z.fSpan.fFrom)))else some (H9 l i s0 n)) (fun v=>v=H9 l i s0 (n+1)):=by
 refine bQ (fun e=>bK ?_) (fun e=>bK ?_)<;>simp[H9,hz,e]
theorem Ux{σ ρ:Type}{step:σ×Int→Option ((σ×Int) ⊕ ρ)}(n:Nat)(Inv:σ→Nat→Prop){Post:ρ→Prop}(hn:n≤9223372036854775807){s0:σ}(h0:Inv s0 0)
  (h:∀(s:σ) (i:Nat),Inv s i→i≤n→Ok (step (s,(i:Int))) (oZ (fun a=>i<n∧a.2=((i+1:Nat):Int)∧Inv a.1 (i+1)) Post)):Ok (loop step (s0,0)) Post:=by
 refine R5 n (fun s i=>Inv s i.toNat) hn h0 (fun s i hI h1 h2=>?_)
 obtain⟨k,rfl⟩:=Int.eq_ofNat_of_zero_le h1
 refine(h s k hI (by omega)).mono ?_
 rintro (⟨a,b⟩ | b) hr
 ·obtain⟨h3,h4,h5⟩ : k<n∧b=((k+1:Nat):Int)∧Inv a (k+1):=hr
  refine⟨by omega,by omega,?_⟩
  rw[show((k:Int)+1).toNat=k+1 by omega];exact h5
 ·exact hr
theorem Y2{ρ:Type}{step:Int→Option (Int ⊕ ρ)}(n:Nat)(Inv:Nat→Prop){Post:ρ→Prop}(hn:n≤9223372036854775807)(h0:Inv 0)
  (h:∀i:Nat,Inv i→i≤n→Ok (step (i:Int)) (oZ (fun a=>i<n∧a=((i+1:Nat):Int)∧Inv (i+1)) Post)):Ok (loop step 0) Post:=by
 refine avW n (fun i=>Inv i.toNat) hn h0 (fun i hI h1 h2=>?_)
 obtain⟨k,rfl⟩:=Int.eq_ofNat_of_zero_le h1
 refine(h k hI (by omega)).mono ?_
 rintro (b | b) hr
 ·obtain⟨h3,h4,h5⟩ : k<n∧b=((k+1:Nat):Int)∧Inv (k+1):=hr
  refine⟨by omega,by omega,?_⟩
  rw[show((k:Int)+1).toNat=k+1 by omega];exact h5
 ·exact hr
theorem Hj{α:Type}{xs:List α}{i:Nat}(h:i<xs.length):Ok (idx xs (i:Int)) (fun y=>xs[i]? = some y):=by
 rw[j4];exact⟨xs[i],by simp[h],by simp[h]⟩
theorem QZ{i n:Nat}(h:i<n)(hn:n≤9223372036854775807):w64 ((i:Int)+1)=((i+1:Nat):Int):=by rw[ax (by omega)];omega
theorem aJZ(l:List aK)(h:l.length≤9223372036854775807)(hu:Up l l.length):Ok (Az l) (fun b=>b=true↔OK l):=by
 unfold Az
 let A:Nat→Prop:=fun n=>∀(i:Nat) y,i<n→l[i]? = some y→y.fSelf=H9 l i (w64 (y.fSpan.fTo-y.fSpan.fFrom)) l.length∧∀(j:Nat) z,j<i→l[j]? = some z→¬Bad l j i z y
 refine eW (Q:=oZ (fun _=>OK l) (fun b=>b=false∧¬OK l)) (Y2 l.length A h (by intro i y hi;omega) (fun i hI h2=>?_)) (fun _ hq=>bK ⟨fun _=>hq,fun _=>rfl⟩) (fun r hr=>bK ⟨fun e=>by rw[hr.1]at e;simp at e,fun e=>absurd e hr.2⟩)
 unfold DW
 refine bQ (fun hi=>?_) (fun hi=>d8 (fun i' y hy=>hI i' y (by have:=dJ hy;omega) hy))
 refine aq (Hj (by omega)) (fun y hy=>?_)
 refine eW (Q:=oZ (fun e=>e=H9 l i (w64 (y.fSpan.fTo-y.fSpan.fFrom)) l.length∧∀(j:Nat) z,j<i→l[j]? = some z→¬Bad l j i z y) (oZ (fun _=>False) (fun r=>r = .inr false∧¬OK l))) (Ux l.length (fun a n=>a=H9 l i (w64 (y.fSpan.fTo-y.fSpan.fFrom)) n∧∀(j:Nat) z,j<n→j<i→l[j]? = some z→¬Bad l j i z y) h ⟨rfl,by intro j z hj;omega⟩ (fun a j hJ h4=>?_)) (fun e he=>?_) (fun r hr=>?_)
 ·unfold Dq
  dsimp only
  refine bQ (fun hj=>?_) (fun hj=>d8 ⟨?_,fun j' z hj' hz=>hJ.2 j' z (by have:=dJ hz;omega) hj' hz⟩)
  ·refine aq (Hj (by omega)) (fun z hz=>?_)
   rw[hJ.1]
   refine aq (Z7 hz) (fun v hv=>?_)
   refine aq (Q:=fun b=>b=true↔(j<i∧Bad l j i z y)) ?_ (fun b hb=>?_)
   ·refine bQ (fun h5=>?_) (fun h5=>bK ⟨fun e=>by simp at e,fun e=>absurd e.1 (by omega)⟩)
    refine bQ (fun h6=>?_) (fun h6=>bK ⟨fun e=>by simp at e,fun e=>absurd e.2.1 h6⟩)
    refine bQ (fun h7=>?_) (fun h7=>bK ⟨fun e=>by simp at e,fun e=>absurd e.2.2.1 h7⟩)
    refine bQ (fun h8=>?_) (fun h8=>bK ⟨fun e=>by simp at e,fun e=>absurd e.2.2.2.1 h8⟩)
    refine aq (aLK l h hu j i (by omega) (by omega)) (fun r hr=>bK ?_)
    constructor
    ·intro e
     refine⟨by omega,h6,h7,h8,fun hd=>?_⟩
     rw[hr.2 hd]at e;simp at e
    ·intro e
     cases r with
     | false=>rfl
     | true=>exact absurd (hr.1 rfl) e.2.2.2.2
   ·refine bJ (fun e=>d8 ⟨rfl,fun hA=>?_⟩) (fun e=>?_)
    ·obtain⟨g1,g2⟩:=hb.1 e
     exact(hA i y hy).2 j z g1 hz g2
    ·rw[QZ (n:=l.length) (by omega) h]
     refine jQ ⟨by omega,rfl,hv,fun j' z' hj' hji hz' hbad=>?_⟩
     by_cases e2:j'=j
     ·subst e2;rw[hz]at hz';cases hz'
      rw[hb.2 ⟨hji,hbad⟩]at e;simp at e
     ·exact hJ.2 j' z' (by omega) hji hz' hbad
  ·rw[hJ.1,show j=l.length by omega]
 ·dsimp only
  refine bX (fun hne=>d8 ⟨rfl,fun hA=>hne ((hA i y hy).1.trans he.1.symm)⟩) (fun heq=>?_)
  rw[QZ (n:=l.length) (by omega) h]
  refine jQ ⟨by omega,rfl,fun i' y' hi' hy'=>?_⟩
  by_cases e2:i'=i
  ·subst e2;rw[hy]at hy';cases hy'
   exact⟨heq.trans he.1,he.2⟩
  ·exact hI i' y' (by omega) hy'
 ·rcases r with r | r
  ·exact(hr:False).elim
  ·obtain⟨e1,e2⟩ : r = .inr false∧¬OK l:=hr
   subst e1
   exact d8 ⟨rfl,e2⟩
theorem aHx(l:List aK)(h:l.length≤9223372036854775807)(hu:Up l l.length):Ok (loop (pX l) 0) (fun q=>(∃u,q = .inl u∧Z3 l)∨(q = .inr false∧¬Z3 l)):=by
 let A:Nat→Prop:=fun n=>∀(i:Nat) y,i<n→l[i]? = some y→y.fSelf=H9 l i (w64 (y.fSpan.fTo-y.fSpan.fFrom)) l.length∧∀(j:Nat) z,i<j→l[j]? = some z→¬Bad l i j y z
 refine Y2 l.length A h (by intro i y hi;omega) (fun i hI h2=>?_)
 unfold pX
 refine bQ (fun hi=>?_) (fun hi=>d8 (.inl ⟨(),rfl,fun i' y hy=>hI i' y (by have:=dJ hy;omega) hy⟩))
 obtain⟨y,hiy,hy⟩:=Hj (xs:=l) (i:=i) (by omega)
 simp only[hiy,Option.bind_some]
 refine eW (Q:=oZ (fun e=>e=H9 l i (w64 (y.fSpan.fTo-y.fSpan.fFrom)) l.length∧∀(j:Nat) z,i<j→l[j]? = some z→¬Bad l i j y z) (oZ (fun _=>False) (fun r=>r = .inr false∧¬Z3 l))) (Ux l.length (fun a n=>a=H9 l i (w64 (y.fSpan.fTo-y.fSpan.fFrom)) n∧∀(j:Nat) z,j<n→i<j→l[j]? = some z→¬Bad l i j y z) h ⟨rfl,by intro j z hj;omega⟩ (fun a j hJ h4=>?_)) (fun e he=>?_) (fun r hr=>?_)
 ·unfold uK
  dsimp only
  refine bQ (fun hj=>?_) (fun hj=>d8 ⟨?_,fun j' z hj' hz=>hJ.2 j' z (by have:=dJ hz;omega) hj' hz⟩)
  ·obtain⟨z,hjz,hz⟩:=Hj (xs:=l) (i:=j) (by omega)
   simp only[hjz,hiy,Option.bind_some]
   rw[hJ.1]
   refine aq (Z7 hz) (fun v hv=>?_)
   refine aq (Q:=fun b=>b=true↔(y.fSpan.fFrom<z.fSpan.fTo∧z.fSpan.fFrom<y.fSpan.fTo)) ?_ (fun v9 hv9=>?_)
   ·by_cases g1:y.fSpan.fFrom<z.fSpan.fTo<;>by_cases g2:z.fSpan.fFrom<y.fSpan.fTo<;>simp[g1,g2,Ok]
   refine aq (Q:=fun b=>b=true↔(i<j∧Bad l i j y z)) ?_ (fun b hb=>?_)
   ·refine bQ (fun h5=>?_) (fun h5=>bK ⟨fun e=>by simp at e,fun e=>absurd e.1 (by omega)⟩)
    refine bQ (fun h6=>?_) (fun h6=>bK ⟨fun e=>by simp at e,fun e=>absurd e.2.1 h6⟩)
    refine bJ (fun h7=>?_) (fun h7=>bK ⟨fun e=>by simp at e,fun e=>?_⟩)
    ·refine aq (aOQ l h hu i j (by omega) (by omega)) (fun r hr=>bK ?_)
     have h8:=hv9.1 h7
     constructor
     ·intro e
      refine⟨by omega,h6,h8.2,h8.1,fun hd=>?_⟩
      rw[hr.2 hd]at e;simp at e
     ·intro e
      cases r with
      | false=>rfl
      | true=>exact absurd (hr.1 rfl) e.2.2.2.2
    ·have:=hv9.2 ⟨e.2.2.2.1,e.2.2.1⟩
     rw[h7]at this;simp at this
   ·refine bJ (fun e=>d8 ⟨rfl,fun hA=>?_⟩) (fun e=>?_)
    ·obtain⟨g1,g2⟩:=hb.1 e
     exact(hA i y hy).2 j z g1 hz g2
    ·rw[QZ (n:=l.length) (by omega) h]
     refine jQ ⟨by omega,rfl,hv,fun j' z' hj' hji hz' hbad=>?_⟩
     by_cases e2:j'=j
     ·subst e2;rw[hz]at hz';cases hz'
      rw[hb.2 ⟨hji,hbad⟩]at e;simp at e
     ·exact hJ.2 j' z' (by omega) hji hz' hbad
  ·rw[hJ.1,show j=l.length by omega]
 ·dsimp only
  refine bX (fun hne=>d8 (.inr ⟨rfl,fun hA=>hne ((hA i y hy).1.trans he.1.symm)⟩)) (fun heq=>?_)
  rw[QZ (n:=l.length) (by omega) h]
  refine jQ ⟨by omega,rfl,fun i' y' hi' hy'=>?_⟩
  by_cases e2:i'=i
  ·subst e2;rw[hy]at hy';cases hy'
   exact⟨heq.trans he.1,he.2⟩
  ·exact hI i' y' (by omega) hy'
 ·rcases r with r | r
  ·exact(hr:False).elim
  ·obtain⟨e1,e2⟩ : r = .inr false∧¬Z3 l:=hr
   subst e1
   exact d8 (.inr ⟨rfl,e2⟩)
theorem ayW{l:List aK}{q:Unit ⊕ Bool}(h:loop (n6 l) 0=some q):∀x,q = .inr x→x=false:=by
 refine acK (Q:=fun q:Unit ⊕ Bool=>∀x,q = .inr x→x=false) (fun i r hr=>?_) h
 unfold n6 at hr
 cases h1:decide (i<(l.length:Int))with
 | false=>rw[h1]at hr;simp at hr;subst hr;intro x hx;cases hx
 | true =>
  rw[h1]at hr
  simp only[cond_true]at hr
  obtain⟨y,_,hr⟩:=bB hr
  obtain⟨v,_,hr⟩:=bB hr
  cases v
  ·simp only[cond_false]at hr
   cases h2:decide (y.fParent = -1)with
   | true =>
    rw[h2]at hr
    simp only[cond_true]at hr
    cases h3:decide (y.fDepth=0)<;>simp[h3]at hr
    subst hr;intro x hx;cases hx;rfl
   | false =>
    rw[h2]at hr
    simp only[cond_false]at hr
    obtain⟨z,_,hr⟩:=bB hr
    obtain⟨w,_,hr⟩:=bB hr
    cases w<;>simp at hr
    subst hr;intro x hx;cases hx;rfl
  ·simp at hr;subst hr;intro x hx;cases hx;rfl
theorem aoJ(l:List aK):wj l=q7 l:=by
 funext i
 unfold wj q7
 cases e:idx l i with
 | none=>rfl
 | some y =>
  simp only[Option.bind_some,←Yx,Tz]
  congr 1
  congr 1
  funext v53
  congr 1
  congr 1
  funext r54
  congr 1
  have e4:(bif decide (0<i)then(idx l (w64 (i-1))).bind fun y58=>(sX y58 y).bind fun r59=>some (decide (0<r59))else some false)=(bif decide (0<i)then(idx l (w64 (i-1))).bind fun y68=>(kW y y68).bind fun r69=>some r69 else some false):=by
   congr 1
   congr 1
   funext p
   obtain⟨c,h1,h2⟩:=avV p y
   rw[h1,h2];rfl
  rw[e4]
theorem aOJ(l:List aK)(h:l.length≤9223372036854775807):qJ l=qq l:=by
 unfold qJ qq
 rw[aoJ]
 congr 1
 funext q
 cases q with
 | inr x=>rfl
 | inl u =>
  obtain⟨b,hb,hUp⟩:=Nx l h
  dsimp only
  rw[hb,Option.bind_some]
  unfold uV at hb
  unfold tj
  rw[←anJ]
  obtain⟨q,hq,hb⟩:=bB hb
  rw[hq,Option.bind_some]
  cases q with
  | inr x =>
   have:=ayW hq x rfl
   subst this
   simp at hb;subst hb
   rfl
  | inl u' =>
   simp at hb;subst hb
   have hu:=hUp rfl
   obtain⟨b1,h1,h2⟩:=aJZ l h hu
   obtain⟨q2,h3,h4⟩:=aHx l h hu
   simp only[h1,h3,Option.bind_some,dk,cond_false]
   rcases h4 with⟨u2,rfl,h5⟩ | ⟨rfl,h5⟩
   ·rw[h2.2 ((aiK l).2 h5)];rfl
   ·cases b1
    ·rfl
    ·exact absurd ((aiK l).1 (h2.1 rfl)) h5
theorem aMx{α β:Type}(f:α→β)(l:List α)(i:Int):idx (l.map f) i=(idx l i).map f:=by
 unfold idx
 split<;>simp
theorem anQ(l:List dz)(a:Int):m9 l a=d0 (l.map (·.fId)) a:=by
 unfold m9 d0
 have h:qK l a=jY (l.map (·.fId)) a:=by
  funext i
  unfold qK jY
  rw[aMx,List.length_map]
  cases idx l i with
  | none=>rfl
  | some y =>
   simp only[ek,Option.bind_some]
   have:decide (y.fId=a)=decide (a=y.fId):=decide_eq_decide.2 ⟨Eq.symm,Eq.symm⟩
   rw[this]
 rw[h]<;>rfl
def BX(ths:List dz):Nat→List dz
 | 0=>[]
 | n+1=>match ths[n]? with
  | some y=>if d0 ((BX ths n).map (·.fId)) y.fId=some (-1)then BX ths n++[y]else BX ths n
  | none=>BX ths n
theorem PY(ths:List dz):∀n,(BX ths n).length≤n
 | 0=>by simp[BX]
 | n+1=>by
  have:=PY ths n
  simp only[BX]
  split
  ·split<;>simp<;>omega
  ·omega
theorem afz(ix:List Int)(a:Int)(h:ix.length≤9223372036854775807):Ok (d0 ix a) (fun r=>(r = -1∨0≤r)∧r<ix.length):=by
 unfold d0
 refine eW (Q:=oZ Yes (fun r:Int=>0≤r∧r<ix.length)) (wz ix.length h fun i h1 h2=>?_) (fun _ _=>bK ⟨.inl rfl,by omega⟩) (fun r hr=>bK ?_)
 ·unfold jY
  refine bQ (fun hi=>?_) (fun _=>d8 trivial)
  refine aq (cj h1 hi) (fun y hy=>?_)
  exact bQ (fun e=>d8 ⟨h1,hi⟩) (fun _=>cQ h1 hi h)
 ·have hr':0≤r∧r<ix.length:=hr
  exact⟨.inr hr'.1,hr'.2⟩
theorem awz(ths:List dz)(h:ths.length≤1000000):p6 ths=some ((BX ths ths.length).map (·.fId)):=by
 have:Ok (p6 ths) (fun r=>r=(BX ths ths.length).map (·.fId)):=by
  unfold p6
  refine aq (Q:=fun r=>r=(BX ths ths.length).map (·.fId)) (Ux ths.length (fun a n=>a=(BX ths n).map (·.fId)) (by omega) rfl (fun a i hI h2=>?_)) (fun r hr=>bK hr)
  unfold z6
  dsimp only
  subst hI
  have hlen:=PY ths i
  refine bQ (fun hi=>?_) (fun hi=>d8 (by rw[show i=ths.length by omega]))
  refine aq (Q:=fun r=>r=(BX ths (i+1)).map (·.fId)) ?_ (fun r hr=>?_)
  ·obtain⟨y,hiy,hy⟩:=Hj (xs:=ths) (i:=i) (by omega)
   rw[hiy,Option.bind_some]
   unfold kV
   obtain⟨x,hx,hx1,hx2⟩:=afz ((BX ths i).map (·.fId)) y.fId (by simp;omega)
   rw[hx]
   simp only[Option.bind_some,BX,hy,hx]
   rcases hx1 with rfl | hx1
   ·rw[Gz (by simp;omega) (by simp;omega)]
    exact bK (by simp)
   ·have : ¬x = -1:=by omega
    simp only[hx1,decide_true,dk,cond_false]
    exact bK (by simp[this])
  ·rw[QZ (n:=ths.length) (by omega) (by omega)]
   exact jQ ⟨by omega,rfl,hr⟩
 obtain⟨r,h1,h2⟩:=this
 rw[h1,h2]
theorem avZ(ths:List dz)(h:ths.length≤1000000):kZ ths=some (BX ths ths.length):=by
 have:Ok (kZ ths) (fun r=>r=BX ths ths.length):=by
  unfold kZ
  refine aq (Q:=fun r=>r=BX ths ths.length) (Ux ths.length (fun a n=>a=BX ths n) (by omega) rfl (fun a i hI h2=>?_)) (fun r hr=>bK hr)
  unfold tx
  dsimp only
  subst hI
  have hlen:=PY ths i
  refine bQ (fun hi=>?_) (fun hi=>d8 (by rw[show i=ths.length by omega]))
  refine aq (Q:=fun r=>r=BX ths (i+1)) ?_ (fun r hr=>?_)
  ·obtain⟨y,hiy,hy⟩:=Hj (xs:=ths) (i:=i) (by omega)
   rw[hiy,Option.bind_some,anQ]
   obtain⟨x,hx,hx1,hx2⟩:=afz ((BX ths i).map (·.fId)) y.fId (by simp;omega)
   rw[hx]
   simp only[Option.bind_some,BX,hy,hx]
   rcases hx1 with rfl | hx1
   ·rw[Gz (by simp;omega) (by simp;omega)]
    exact bK (by simp)
   ·have e1 : ¬x = -1:=by omega
    have e2 : ¬x<0:=by omega
    simp only[e2,decide_false,cond_false]
    exact bK (by simp[e1])
  ·rw[QZ (n:=ths.length) (by omega) (by omega)]
   exact jQ ⟨by omega,rfl,hr⟩
 obtain⟨r,h1,h2⟩:=this
 rw[h1,h2]
theorem aPQ(s:cZ):p9 s=x3 s:=by
 unfold p9 x3
 have e:decide (63<s.fCpu)=decide (64≤s.fCpu):=decide_eq_decide.2 (by omega)
 rw[e]
 generalize decide (s.fState<0)=a1
 generalize decide (5<s.fState)=a2
 generalize decide (s.fState=4)=a3
 generalize decide (s.fCpu<0)=a4
 generalize decide (64≤s.fCpu)=a5
 generalize decide (s.fCpu = -1)=a6
 generalize decide (s.fState=2)=a7
 generalize decide (s.fOn<0)=a8
 generalize decide (1000000000000000<s.fOn)=a9
 generalize decide (s.fOn = -1)=a10
 generalize decide (s.fBy = -1)=a11
 generalize decide (0≤s.fBy)=a12
 generalize decide (s.fBy≤1000000000000000)=a13
 generalize decide (s.fState=1)=a14
 cases a14<;>cases a7<;>cases a3<;>cases a1<;>first
  | rfl
  | (cases a2<;>first
   | rfl
   | (cases a4<;>cases a5<;>cases a6<;>first
    | rfl
    | (cases a8<;>cases a9<;>cases a10<;>first
     | rfl
     | (cases a11<;>cases a12<;>cases a13<;>rfl))))
theorem aUY(a b:cZ):(bif decide (b.fState=a.fState)then bif decide (b.fCpu=a.fCpu)then some (decide (b.fOn=a.fOn))else some false else some false)=CZ a b:=by
 unfold CZ
 by_cases h1:a.fState=b.fState<;>by_cases h2:a.fCpu=b.fCpu<;>by_cases h3:a.fOn=b.fOn<;>simp[h1,h2,h3,Ne.symm,eq_comm]<;>simp_all[eq_comm]
theorem D2{σ ρ:Type}{step step':σ×Int→Option ((σ×Int) ⊕ ρ)}(n:Nat)(Inv:σ→Int→Prop){s0:σ}(h0:Inv s0 0)(h1:∀(s:σ) (i:Int),Inv s i→0≤i→i≤n→Ok (step (s,i)) (oZ (fun a=>i<n∧a.2=i+1∧Inv a.1 (i+1)) Yes))(h2:∀(s:σ) (i:Int),Inv s i→0≤i→i≤n→step (s,i)=step' (s,i)):loop step (s0,0)=loop step' (s0,0):=by
 refine SX (fun s:σ×Int=>Inv s.1 s.2∧0≤s.2∧s.2≤n) (fun s hi=>h2 s.1 s.2 hi.1 hi.2.1 hi.2.2) (fun s s' hi hs=>?_) ⟨h0,by simp,by simp⟩
 obtain⟨a,j⟩:=s'
 have:=(h1 s.1 s.2 hi.1 hi.2.1 hi.2.2).of_eq hs
 obtain⟨h3,h4,h5⟩ : s.2<n∧j=s.2+1∧Inv a (s.2+1):=this
 subst h4
 exact⟨h5,by simp;omega,by simp;omega⟩
structure AtIx(l:List cZ)(ix:List Int)(a i:Int):Prop where
 z:i=0→a = -1
 p:0<i→∀s,l[(i-1).toNat]? = some s→d0 ix s.fThread=some a∧0≤a
 r : -1≤a∧a<ix.length
theorem AtIx.next{l:List cZ}{ix:List Int}(hx:ix.length≤1000000){i x:Int}(h0:0≤i){y:cZ}(hy:l[i.toNat]? = some y)(hi:d0 ix y.fThread=some x)(hp:0≤x):AtIx l ix x (i+1):=by
 have:=(kJ ix y.fThread (by omega)).of_eq hi
 exact⟨by omega,fun _ s hs=>by rw[show i+1-1=i by omega,hy]at hs;cases hs;exact⟨hi,hp⟩,by omega,this.2⟩
theorem WJ(l:List cZ)(ix:List Int)(hl:l.length≤9223372036854775807)(hx:ix.length≤1000000)(a i:Int)(H:AtIx l ix a i)(h1:0≤i)(h2:i≤l.length):Ok (j7 l ix (a,i)) (oZ (fun s:Int×Int=>i<(l.length:Int)∧s.2=i+1∧AtIx l ix s.1 (i+1)) (oZ (fun e:Int=>-1≤e∧e<(ix.length:Int)) Yes)):=by
 unfold j7
 dsimp only
 have no:∀n:Int,oZ (fun s:Int×Int=>i<(l.length:Int)∧s.2=i+1∧AtIx l ix s.1 (i+1)) (oZ (fun e:Int=>-1≤e∧e<(ix.length:Int)) Yes) (.inr (.inr n)):=fun _=>trivial
 refine bQ (fun hi=>?_) (fun _=>d8 H.r)
 refine aq (cj h1 hi) (fun y hy=>?_)
 refine aqY (qW ix y.fThread (by omega)) (fun x hxx=>?_)
 refine bQ (fun _=>⟨_,rfl,no _⟩) (fun h0=>?_)
 refine aq (s9 y.fSpan) (fun v _=>?_)
 refine c8 (fun _=>⟨_,rfl,no _⟩) (fun _=>?_)
 refine aq (M9 y) (fun _ _=>?_)
 refine c8 (fun _=>⟨_,rfl,no _⟩) (fun _=>?_)
 refine aq (Q:=Yes) ?_ (fun v1 _=>?_)
 ·refine bQ (fun e=>?_) (fun _=>cX)
  have hpos:0<i:=by
   by_cases e0:i=0
   ·have:=H.z e0;omega
   ·omega
  rw[show w64 (i-1)=i-1 from ax (by omega)]
  refine aq (cj (by omega) (by omega)) (fun z hz=>?_)
  refine bX (fun _=>cX) (fun _=>?_)
  refine aq (cj (by omega) (by omega)) (fun z' hz'=>?_)
  exact aq (QQ _ _) (fun _ _=>cX)
 refine bJ (fun _=>⟨_,rfl,no _⟩) (fun _=>?_)
 refine aq (Q:=Yes) (by repeat' (first | (with_reducible first | exact cX | exact bW | exact cJ | refine bX (fun _=>?_) fun _=>?_ | refine bQ (fun _=>?_) fun _=>?_ | refine c8 (fun _=>?_) fun _=>?_ | refine bJ (fun _=>?_) fun _=>?_) | (with_reducible refine cQ ?_ ?_ ?_<;>(first | assumption | omega | rw[ax]<;>omega)) | with_reducible refine aq (cj (by(first | assumption | omega | rw[ax]<;>omega)) (by(first | assumption | omega | rw[ax]<;>omega))) (fun _ _=>?_) | (with_reducible refine aq (Q:=Yes) ?_ fun _ _=>?_) | dsimp only)) (fun v2 _=>?_)
 refine bJ (fun _=>⟨_,rfl,no _⟩) (fun _=>?_)
 exact jQ ⟨hi,ax (by omega),AtIx.next hx h1 hy hxx (by omega)⟩
theorem arx(l:List cZ)(ths:List dz)(hl:l.length≤9223372036854775807)(hx:ths.length≤1000000)(a i:Int)(H:AtIx l (ths.map (·.fId)) a i)(h1:0≤i)(h2:i≤l.length):j7 l (ths.map (·.fId)) (a,i)=nz l ths (a,i):=by
 unfold j7 nz
 dsimp only
 by_cases hi:i<(l.length:Int)
 ·simp only[hi,decide_true,cond_true]
  obtain⟨y,hiy,hy⟩:=cj h1 hi
  simp only[hiy,Option.bind_some,anQ,Tz,aPQ]
  obtain⟨x,hx0,_⟩:=qW (ths.map (·.fId)) y.fThread (by simp;omega)
  rw[hx0,Option.bind_some,Option.bind_some]
  by_cases hx1:x<0
  ·simp[hx1]
  ·simp only[hx1,decide_false,cond_false]
   congr 1
   funext v
   congr 1
   congr 1
   funext w
   congr 1
   have hxl:=(kJ (ths.map (·.fId)) y.fThread (by simp;omega)).of_eq hx0
   by_cases h0:0<i
   ·rw[show w64 (i-1)=i-1 from ax (by omega)]
    obtain⟨p,hip,hp⟩:=cj (xs:=l) (i:=i-1) (by omega) (by omega)
    obtain⟨hpa,ha0⟩:=H.p h0 p hp
    have hpl:=(kJ (ths.map (·.fId)) p.fThread (by simp;omega)).of_eq hpa
    simp only[hip,h0,decide_true,cond_true,Option.bind_some]
    by_cases ht:p.fThread=y.fThread
    ·have hxa:x=a:=by rw[ht,hx0]at hpa;cases hpa;rfl
     subst hxa
     simp only[ht,decide_true,cond_true,dk,cond_false,Option.bind_some]
     rw[←aUY]
     by_cases g1:y.fSpan.fFrom=p.fSpan.fTo
     ·have g2:p.fSpan.fTo=y.fSpan.fFrom:=g1.symm
      simp only[decide_eq_true g1,decide_eq_true g2,dk,cond_false]
      by_cases g3:p.fState=y.fState<;>by_cases g4:p.fCpu=y.fCpu<;>by_cases g5:p.fOn=y.fOn<;>simp[g3,g4,g5]
     ·have g2 : ¬p.fSpan.fTo=y.fSpan.fFrom:=fun e=>g1 e.symm
      simp[g1,g2]
    ·have hxa : ¬x=a:=by
      intro e
      subst e
      have e1:=hxl.1 (by omega)
      have e2:=hpl.1 (by omega)
      rw[e1]at e2
      exact ht (Option.some.inj e2).symm
     simp only[ht,hxa,decide_false,cond_false,fw,cond_true,Option.bind_some]
     by_cases g1:x=w64 (a+1)<;>by_cases g2:y.fSpan.fFrom=0<;>simp[g1,g2]
   ·have e0:i=0:=by omega
    have ea:=H.z e0
    have hxa : ¬x=a:=by omega
    simp only[h0,hxa,decide_false,cond_false,fw,cond_true,Option.bind_some]
    by_cases g1:x=w64 (a+1)<;>by_cases g2:y.fSpan.fFrom=0<;>simp[g1,g2]
 ·simp[hi]
def aUX(l:List cZ)(e:Int):Prop:=∀(i:Nat) s s',l[i]? = some s→l[i+1]? = some s'→s'.fThread≠s.fThread→s.fSpan.fTo=e
theorem aQV(l:List cZ)(hl:l.length≤9223372036854775807)(y:cZ)(hy:l[l.length-1]? = some y):Ok (loop (A4 l y) 0) (fun q=>(∃u,q = .inl u∧aUX l y.fSpan.fTo)∨(q = .inr 11∧¬aUX l y.fSpan.fTo)):=by
 refine Y2 l.length (fun n=>∀(i:Nat) s s',i<n→l[i]? = some s→l[i+1]? = some s'→s'.fThread≠s.fThread→s.fSpan.fTo=y.fSpan.fTo) hl (by intro i s s' hi;omega) (fun i hI h2=>?_)
 unfold A4
 refine bQ (fun hi=>?_) (fun hi=>d8 (.inl ⟨(),rfl,fun i' s s' hs hs'=>hI i' s s' (by have:=dJ hs;omega) hs hs'⟩))
 obtain⟨z,hiz,hz⟩:=Hj (xs:=l) (i:=i) (by omega)
 rw[hiz,Option.bind_some,QZ (n:=l.length) (by omega) hl]
 have nx:(∀s',l[i+1]? = some s'→s'.fThread≠z.fThread→z.fSpan.fTo=y.fSpan.fTo)→∀(i':Nat) s s',i'<i+1→l[i']? = some s→l[i'+1]? = some s'→s'.fThread≠s.fThread→s.fSpan.fTo=y.fSpan.fTo:=by
  intro h i' s s' hi' hs hs' hne
  by_cases e:i'=i
  ·subst e;rw[hz]at hs;cases hs;exact h s' hs' hne
  ·exact hI i' s s' (by omega) hs hs' hne
 by_cases hlast:i+1=l.length
 ·have e1:(((i+1:Nat):Int)=(l.length:Int)):=by omega
  have e2:z=y:=by
   rw[show l.length-1=i by omega,hz]at hy;exact Option.some.inj hy
  subst e2
  simp only[e1,decide_true,cond_true,Option.bind_some,dk,cond_false]
  refine jQ ⟨by omega,by omega,nx (fun s' hs'=>?_)⟩
  have:=dJ hs';omega
 ·have e1 : ¬(((i+1:Nat):Int)=(l.length:Int)):=by omega
  obtain⟨s',his,hs'⟩:=Hj (xs:=l) (i:=i+1) (by omega)
  simp only[e1,his,decide_false,cond_false,Option.bind_some]
  by_cases g1:s'.fThread=z.fThread
  ·simp only[g1,decide_true,dk,cond_false,Option.bind_some]
   refine jQ ⟨by omega,rfl,nx (fun s'' hs'' hne=>?_)⟩
   rw[hs']at hs'';cases hs'';exact absurd g1 hne
  ·by_cases g2:z.fSpan.fTo=y.fSpan.fTo
   ·simp only[g1,g2,decide_true,decide_false,dk,fw,cond_true,cond_false,Option.bind_some]
    exact jQ ⟨by omega,rfl,nx (fun s'' hs'' hne=>g2)⟩
   ·simp only[g1,g2,decide_false,fw,cond_true,Option.bind_some]
    exact d8 (.inr ⟨rfl,fun hA=>g2 (hA i z s' hz hs' g1)⟩)
theorem aSW(l:List cZ)(hl:l.length≤9223372036854775807)(y:cZ)(hy:l[l.length-1]? = some y)(h0:0<l.length):Ok (loop (rq l) 1) (fun q=>(∃u,q = .inl u∧aUX l y.fSpan.fTo)∨(q = .inr 11∧¬aUX l y.fSpan.fTo)):=by
 refine A8 (fun i:Int=>1≤i∧i≤l.length∧∀(k:Nat) s s',(k:Int)+1<i→l[k]? = some s→l[k+1]? = some s'→s'.fThread≠s.fThread→s.fSpan.fTo=y.fSpan.fTo) (fun i:Int=>((l.length:Int)-i).toNat) (fun i hi=>?_) ⟨by omega,by omega,by intro k s s' hk;omega⟩ (by simp[gz];omega)
 obtain⟨h1,h2,hI⟩:=hi
 unfold rq
 refine bQ (fun hi=>?_) (fun hi=>d8 (.inl ⟨(),rfl,fun i' s s' hs hs'=>hI i' s s' (by have:=dJ hs';omega) hs hs'⟩))
 rw[show w64 (i-1)=i-1 from ax (by omega),show w64 (i+1)=i+1 from ax (by omega),show w64 ((l.length:Int)-1)=(l.length:Int)-1 from ax (by omega)]
 obtain⟨s',his,hs'⟩:=cj (xs:=l) (i:=i) (by omega) hi
 obtain⟨z,hiz,hz⟩:=cj (xs:=l) (i:=i-1) (by omega) (by omega)
 obtain⟨y',hiy,hy'⟩:=cj (xs:=l) (i:=(l.length:Int)-1) (by omega) (by omega)
 have ey:y'=y:=by
  rw[show((l.length:Int)-1).toNat=l.length-1 by omega,hy]at hy';exact(Option.some.inj hy').symm
 subst ey
 simp only[his,hiz,hiy,Option.bind_some]
 have hz':l[(i-1).toNat+1]? = some s':=by rw[show(i-1).toNat+1=i.toNat by omega];exact hs'
 have nx:(s'.fThread≠z.fThread→z.fSpan.fTo=y'.fSpan.fTo)→∀(k:Nat) s s'',(k:Int)+1<i+1→l[k]? = some s→l[k+1]? = some s''→s''.fThread≠s.fThread→s.fSpan.fTo=y'.fSpan.fTo:=by
  intro h k s s'' hk hs hs'' hne
  by_cases e:(k:Int)+1=i
  ·have:(i-1).toNat=k:=by omega
   rw[this]at hz hz'
   rw[hz]at hs;rw[hz']at hs'';cases hs;cases hs''
   exact h hne
  ·exact hI k s s'' (by omega) hs hs'' hne
 by_cases g1:s'.fThread=z.fThread
 ·simp only[g1,decide_true,dk,cond_false,Option.bind_some]
  exact jQ ⟨⟨by omega,by omega,nx (fun hne=>absurd g1 hne)⟩,by omega⟩
 ·by_cases g2:z.fSpan.fTo=y'.fSpan.fTo
  ·simp only[g1,g2,decide_true,decide_false,dk,fw,cond_true,cond_false,Option.bind_some]
   exact jQ ⟨⟨by omega,by omega,nx (fun _=>g2)⟩,by omega⟩
  ·simp only[g1,g2,decide_false,fw,cond_true,Option.bind_some]
   exact d8 (.inr ⟨rfl,fun hA=>g2 (hA _ z s' hz hz' g1)⟩)
theorem aMX(ths:List dz)(l:List cZ)(hx:ths.length≤1000000)(hl:l.length≤9223372036854775807):AJ ths l=qx ths l:=by
 unfold AJ qx
 rw[awz ths hx,avZ ths hx,Option.bind_some,Option.bind_some]
 have hdl:=PY ths ths.length
 generalize BX ths ths.length=ds at *
 have hds:ds.length≤1000000:=by omega
 have hdm:(ds.map (·.fId)).length≤1000000:=by simpa using hds
 have h0:AtIx l (ds.map (·.fId)) (-1) 0:=⟨fun _=>rfl,by omega,by omega⟩
 have hloop:loop (j7 l (ds.map (·.fId))) (-1,0)=loop (nz l ds) (-1,0) :=
  D2 l.length (AtIx l (ds.map (·.fId))) h0 (fun a i hI h1 h2=>(WJ l _ hl hdm a i hI h1 h2).mono (by
   rintro (s | r) hs
   ·exact hs
   ·trivial)) (fun a i hI h1 h2=>arx l ds hl hds a i hI h1 h2)
 obtain⟨q,hq,hpost⟩ : Ok (loop (j7 l (ds.map (·.fId))) (-1,0)) (oZ (fun e:Int=>-1≤e∧e<((ds.map (·.fId)).length:Int)) Yes) :=
  R5 l.length (AtIx l (ds.map (·.fId))) hl h0 (fun a i hI h1 h2=>WJ l _ hl hdm a i hI h1 h2)
 by_cases hn:l.length=0
 ·have e:l=[]:=List.length_eq_zero_iff.1 hn
  subst e
  have:loop (j7 [] (ds.map (·.fId))) (-1,0)=some (.inl (-1)):=by
   have:Ok (loop (j7 [] (ds.map (·.fId))) (-1,0)) (fun q=>q = .inl (-1)):=by
    refine A8 (fun s=>s=(-1,0)) (fun _=>0) (fun s hs=>?_) rfl (by simp[gz])
    subst hs
    unfold j7
    simp
    exact d8 rfl
   obtain⟨r,h1,h2⟩:=this
   rw[h1,h2]
  rw[this]
  rfl
 ·have hn' : ¬((l.length:Int)=0):=by omega
  simp only[hn',decide_false,cond_false]
  rw[←hloop,hq]
  cases q with
  | inr r=>rfl
  | inl e =>
   have he : -1≤e∧e<((ds.map (·.fId)).length:Int):=hpost
   simp at he
   dsimp only[Option.bind_some]
   rw[show w64 ((l.length:Int)-1)=(l.length:Int)-1 from ax (by omega)]
   obtain⟨y,hiy,hy⟩:=cj (xs:=l) (i:=(l.length:Int)-1) (by omega) (by omega)
   have hy':l[l.length-1]? = some y:=by rw[show l.length-1=((l.length:Int)-1).toNat by omega];exact hy
   rw[hiy]
   dsimp only[Option.bind_some]
   obtain⟨q1,hq1,hp1⟩:=aQV l hl y hy'
   obtain⟨q2,hq2,hp2⟩:=aSW l hl y hy' (by omega)
   rw[hq1,hq2]
   have e1:decide (w64 (e+1)=((ds.map (·.fId)).length:Int))=decide (e=w64 ((ds.length:Int)-1)):=by
    rw[ax (n:=e+1) (by omega),ax (n:=(ds.length:Int)-1) (by omega),List.length_map]
    exact decide_eq_decide.2 (by omega)
   rw[e1]
   rcases hp1 with⟨u,rfl,g1⟩ | ⟨rfl,g1⟩<;>rcases hp2 with⟨u',rfl,g2⟩ | ⟨rfl,g2⟩
   ·rfl
   ·exact absurd g1 g2
   ·exact absurd g2 g1
   ·cases decide (e=w64 ((ds.length:Int)-1))<;>rfl
theorem afW{α ρ:Type}{g:Nat→α→Option ρ}{r:ρ}:∀ {xs:List α} {i j:Nat} {y:α},xs[j]? = some y→g (i+j) y=some r→(∀k z,k<j→xs[k]? = some z→g (i+k) z=none)→tq g xs i=some r
 | [],i,j,y,h,_,_=>by simp at h
 | x::xs,i,j,y,h,h1,h2=>by
  simp only[tq]
  cases j with
  | zero =>
   simp at h;subst h
   rw[show i+0=i from rfl]at h1
   rw[h1]
  | succ j =>
   have:=h2 0 x (by omega) rfl
   rw[show i+0=i from rfl]at this
   rw[this]
   exact afW (j:=j) (y:=y) (by simpa using h) (by rw[show i+1+j=i+(j+1)by omega];exact h1) (fun k z hk hz=>by rw[show i+1+k=i+(k+1)by omega];exact h2 (k+1) z (by omega) (by simpa using hz))
theorem afV{α:Type}{step:Int→Option (Int ⊕ (Unit ⊕ Int))}(l:List α)(c:α→Int)(hl:l.length≤9223372036854775807)
  (hs:∀(i:Nat) y,l[i]? = some y→step (i:Int)=some (if c y=0 then .inl (w64 ((i:Int)+1))else .inr (.inr (c y)))) (he:step (l.length:Int)=some (.inr (.inl ()))) :
  ((loop step 0).bind fun | .inl _=>some 0 | .inr rv=>some rv)=some (orI (l.map c)):=by
 rw[LZ l (fun _ y=>if c y=0 then none else some (.inr (c y))) (.inl ()) (by simp[gz];omega) (fun i y hy=>?_) he,Option.bind_some,←Wz (l.map c) 0]
 ·have:∀(l:List α) (i:Nat),(tq (fun _ y=>if c y=0 then none else some (Sum.inr (c y):Unit ⊕ Int)) l i)=tq (fun _ y=>if y=0 then none else some (.inr y)) (l.map c) i:=by
   intro l
   induction l with
   | nil=>intro i;rfl
   | cons x l ih=>intro i;simp only[tq,lw];split<;>simp_all
  rw[this]
  generalize (tq _ (l.map c) 0).getD (Sum.inl ())=q
  cases q<;>rfl
 ·rw[hs i y hy,O6 (i:=i) (by have:=dJ hy;omega)]
  split<;>rfl
theorem atQ{α:Type}{step:Int×Int→Option ((Int×Int) ⊕ Int)}(l:List α)(c:α→Int)(hl:l.length≤9223372036854775807)
  (hs:∀(i:Nat) y,l[i]? = some y→step (0,(i:Int))=some (.inl (c y,w64 ((i:Int)+1)))) (he:step (0,(l.length:Int))=some (.inr 0)) (hn:∀(e i:Int),e≠0→step (e,i)=some (.inr e)) (e:Int) :
  loop step (e,0)=some (if e=0 then orI (l.map c)else e):=by
 have stop:∀(e:Int) (i:Int) n,e≠0→iter step (n+1) (e,i)=some e:=by
  intro e i n h;rw[ux,hn e i h]
 by_cases h0:e=0
 ·subst h0
  rw[if_pos rfl]
  have key:∀(ys:List α) (i:Nat),l.drop i=ys→i+ys.length=l.length→iter step (ys.length+2) (0,(i:Int))=some (orI (ys.map c)):=by
   intro ys
   induction ys with
   | nil =>
    intro i _ hi
    have:i=l.length:=by simpa using hi
    subst this
    rw[ux,he];rfl
   | cons y ys ih =>
    intro i hd hi
    have hy:l[i]? = some y:=by
     have:=congrArg (·[0]?) hd
     simpa[List.getElem?_drop]using this
    rw[ux,hs i y hy,O6 (i:=i) (by have:=dJ hy;omega)]
    simp only[lw,orI]
    by_cases hc:c y=0
    ·rw[if_pos hc,hc]
     exact ih (i+1) (by rw[←List.drop_drop,hd];rfl) (by simp at hi;omega)
    ·rw[if_neg hc]
     exact stop _ _ _ hc
  exact L9 (by simp[gz];omega) (key l 0 (by simp) (by simp))
 ·rw[if_neg h0]
  exact L9 (n:=1) (by simp[gz]) (stop e 0 0 h0)
theorem agJ{α:Type}{step:Bool×Int→Option ((Bool×Int) ⊕ Bool)}(l:List α)(f:α→Bool)(hl:l.length≤9223372036854775807)
  (hs:∀b (i:Nat) y,l[i]? = some y→step (b,(i:Int))=some (.inl (b&&f y,w64 ((i:Int)+1)))) (he:∀b,step (b,(l.length:Int))=some (.inr b)) (b:Bool) :
  loop step (b,0)=some (b&&l.all f):=by
 have:=afJ (step:=step) l (fun i b=>(b,(i:Int))) (fun i y b=>.inl (b&&f y)) (fun b=>b) (by simp[gz];omega) (fun i y b hy=>by rw[hs b i y hy,O6 (i:=i) (by have:=dJ hy;omega)];rfl) he b
 rw[show((b,0):Bool×Int)=(b,((0:Nat):Int))from rfl,this]
 have key:∀(l:List α) (i:Nat) (b:Bool),adK (fun _ y b=>(Sum.inl (b&&f y):Bool ⊕ Bool)) (fun b=>b) l i b=(b&&l.all f):=by
  intro l
  induction l with
  | nil=>intro i b;simp[adK]
  | cons x l ih=>intro i b;simp only[adK,ih,List.all_cons,Bool.and_assoc]
 rw[key]
theorem afx{α:Type}{step:Int→Option (Int ⊕ (Unit ⊕ Int))}(l:List α)(p:α→Bool)(hl:l.length≤9223372036854775807)
  (hs:∀(i:Nat) y,l[i]? = some y→step (i:Int)=some (if p y=true then .inr (.inr (i:Int))else .inl (w64 ((i:Int)+1)))) (he:step (l.length:Int)=some (.inr (.inl ()))) :
  (((loop step 0).bind fun | .inl _=>some (-1) | .inr rv=>some rv).bind fun r=>some (decide (0≤r)))=some (l.any p):=by
 rw[LZ l (fun i y=>if p y=true then some (.inr (i:Int))else none) (.inl ()) (by simp[gz];omega) (fun i y hy=>?_) he,Option.bind_some]
 ·have key:∀(l:List α) (i:Nat),(((match(tq (fun i y => if p y=true then some (Sum.inr (i:Int):Unit ⊕ Int)else none) l i).getD (.inl ())with | .inl _ => some (-1) | .inr rv => some rv):Option Int).bind fun r => some (decide (0≤r)))=some (l.any p) := by
   intro l
   induction l with
   | nil=>intro i;simp[tq]
   | cons x l ih =>
    intro i
    simp only[tq,List.any_cons]
    cases hp:p x with
    | true=>simp
    | false=>simpa[hp]using ih (i+1)
  have:=key l 0
  generalize (tq _ l 0).getD (Sum.inl ())=q at *
  cases q<;>simpa using this
 ·rw[hs i y hy,O6 (i:=i) (by have:=dJ hy;omega)]
  split<;>rfl
def B5(t:aY)(k:Int):Bool:=t.fThreads.any (fun x=>decide (x.fId=k))
theorem Y4(t:aY)(k:Int)(h:t.fThreads.length≤9223372036854775807):jq t k=some (B5 t k):=by
 unfold jq
 rw[LZ t.fThreads (fun _ y=>if(fun x:dz=>decide (x.fId=k)) y=true then some ((fun _=>Sum.inr true) y)else none) (.inl ()) (by simp[gz];omega) (fun i y hy=>?_) (by simp[tZ]),WY]
 ·unfold B5
  cases e:t.fThreads.find? (fun x=>decide (x.fId=k))with
  | none =>
   simp only[Option.map_none,Option.getD_none,Option.bind_some]
   rw[eq_comm,bk,List.any_eq_false]
   exact List.find?_eq_none.1 e
  | some x =>
   simp only[ek,Option.getD_some,Option.bind_some]
   rw[eq_comm,bk,List.any_eq_true]
   exact⟨x,List.mem_of_find?_eq_some e,List.find?_some (p:=fun x:dz=>decide (x.fId=k)) e⟩
 ·have hi:(i:Int)<t.fThreads.length:=by have:=dJ hy;omega
  simp only[tZ,hi,decide_true,cond_true,j4,hy,Option.bind_some]
  by_cases h1:y.fId=k<;>simp[h1,O6 (i:=i) (by omega)]
def cK(t:aY)(k:Int):Int:=if B5 t k=true then 0 else 5
theorem akZ(t:aY)(m:List (Int×ByteArray))(hm:∀k,(D3 k m).isSome=B5 t k)(e:Int)(l:List aK)(hl:l.length≤9223372036854775807):gZ e m l=some (if e=0 then orI (l.map fun y=>cK t y.fThread)else e):=by
 unfold gZ
 by_cases h0:e=0
 ·subst h0
  simp only[decide_true,dk,cond_false,ik]
  refine afV l (fun y=>cK t y.fThread) hl (fun i y hy=>?_) (by simp[kz])
  have hi:(i:Int)<l.length:=by have:=dJ hy;omega
  simp only[kz,hi,decide_true,cond_true,j4,hy,Option.bind_some,z7,hm,cK]
  by_cases hb:B5 t y.fThread=true<;>simp[hb]
 ·simp[h0]
theorem atx(t:aY)(m:List (Int×ByteArray))(hm:∀k,(D3 k m).isSome=B5 t k)(e:Int)(l:List fX)(hl:l.length≤9223372036854775807):jK e m l=some (if e=0 then orI (l.map fun y=>cK t y.fFrom.fThread)else e):=by
 unfold jK
 by_cases h0:e=0
 ·subst h0
  simp only[decide_true,dk,cond_false,ik]
  refine afV l (fun y=>cK t y.fFrom.fThread) hl (fun i y hy=>?_) (by simp[lJ])
  have hi:(i:Int)<l.length:=by have:=dJ hy;omega
  simp only[lJ,hi,decide_true,cond_true,j4,hy,Option.bind_some,A6,hm,cK]
  by_cases hb:B5 t y.fFrom.fThread=true<;>simp[hb]
 ·simp[h0]
theorem asW(t:aY)(m:List (Int×ByteArray))(hm:∀k,(D3 k m).isSome=B5 t k)(e:Int)(l:List fX)(hl:l.length≤9223372036854775807):jW e m l=some (if e=0 then orI (l.map fun y=>cK t y.fTo.fThread)else e):=by
 unfold jW
 by_cases h0:e=0
 ·subst h0
  simp only[decide_true,dk,cond_false,ik]
  refine afV l (fun y=>cK t y.fTo.fThread) hl (fun i y hy=>?_) (by simp[lV])
  have hi:(i:Int)<l.length:=by have:=dJ hy;omega
  simp only[lV,hi,decide_true,cond_true,j4,hy,Option.bind_some,AK,hm,cK]
  by_cases hb:B5 t y.fTo.fThread=true<;>simp[hb]
 ·simp[h0]
theorem aeK(t:aY)(m:List (Int×ByteArray))(hm:∀k,(D3 k m).isSome=B5 t k)(e:Int)(l:List eY)(hl:l.length≤9223372036854775807):i1 e m l=some (if e=0 then orI (l.map fun y=>cK t y.fThread)else e):=by
 unfold i1
 by_cases h0:e=0
 ·subst h0
  simp only[decide_true,dk,cond_false,ik]
  refine afV l (fun y=>cK t y.fThread) hl (fun i y hy=>?_) (by simp[j8])
  have hi:(i:Int)<l.length:=by have:=dJ hy;omega
  simp only[j8,hi,decide_true,cond_true,j4,hy,Option.bind_some,Ax,hm,cK]
  by_cases hb:B5 t y.fThread=true<;>simp[hb]
 ·simp[h0]
theorem amZ(t:aY)(m:List (Int×ByteArray))(hm:∀k,(D3 k m).isSome=B5 t k)(e:Int)(l:List eJ)(hl:l.length≤9223372036854775807):jx e m l=some (if e=0 then orI (l.map fun y=>cK t y.fThread)else e):=by
 unfold jx
 by_cases h0:e=0
 ·subst h0
  simp only[decide_true,dk,cond_false,ik]
  refine afV l (fun y=>cK t y.fThread) hl (fun i y hy=>?_) (by simp[kj])
  have hi:(i:Int)<l.length:=by have:=dJ hy;omega
  simp only[kj,hi,decide_true,cond_true,j4,hy,Option.bind_some,A0,hm,cK]
  by_cases hb:B5 t y.fThread=true<;>simp[hb]
 ·simp[h0]
theorem aTV(t:aY)(ht:t.fThreads.length≤9223372036854775807)(hl:t.fSlices.length≤9223372036854775807)(e:Int):loop (l3 t) (e,0)=some (if e=0 then orI (t.fSlices.map fun y=>cK t y.fThread)else e):=by
 refine atQ t.fSlices (fun y=>cK t y.fThread) hl (fun i y hy=>?_) (by simp[l3]) (fun e i h=>?_) e
 ·have hi:(i:Int)<t.fSlices.length:=by have:=dJ hy;omega
  simp only[l3,hi,decide_true,cond_true,j4,hy,Option.bind_some,Y4 t _ ht,cK]
  by_cases hb:B5 t y.fThread=true<;>simp[hb]
 ·by_cases hi:i<(t.fSlices.length:Int)<;>simp[l3,hi,h]
theorem aSQ(t:aY)(ht:t.fThreads.length≤9223372036854775807)(hl:t.fSamples.length≤9223372036854775807)(e:Int):loop (l9 t) (e,0)=some (if e=0 then orI (t.fSamples.map fun y=>cK t y.fThread)else e):=by
 refine atQ t.fSamples (fun y=>cK t y.fThread) hl (fun i y hy=>?_) (by simp[l9]) (fun e i h=>?_) e
 ·have hi:(i:Int)<t.fSamples.length:=by have:=dJ hy;omega
  simp only[l9,hi,decide_true,cond_true,j4,hy,Option.bind_some,Y4 t _ ht,cK]
  by_cases hb:B5 t y.fThread=true<;>simp[hb]
 ·by_cases hi:i<(t.fSamples.length:Int)<;>simp[l9,hi,h]
theorem aSz(t:aY)(ht:t.fThreads.length≤9223372036854775807)(hl:t.fBlocks.length≤9223372036854775807)(e:Int):loop (lW t) (e,0)=some (if e=0 then orI (t.fBlocks.map fun y=>cK t y.fThread)else e):=by
 refine atQ t.fBlocks (fun y=>cK t y.fThread) hl (fun i y hy=>?_) (by simp[lW]) (fun e i h=>?_) e
 ·have hi:(i:Int)<t.fBlocks.length:=by have:=dJ hy;omega
  simp only[lW,hi,decide_true,cond_true,j4,hy,Option.bind_some,Y4 t _ ht,cK]
  by_cases hb:B5 t y.fThread=true<;>simp[hb]
 ·by_cases hi:i<(t.fBlocks.length:Int)<;>simp[lW,hi,h]
theorem aTK(t:aY)(ht:t.fThreads.length≤9223372036854775807)(hl:t.fFlows.length≤9223372036854775807)(e:Int):loop (l8 t) (e,0)=some (if e=0 then orI (t.fFlows.map fun y=>if B5 t y.fFrom.fThread=true∧B5 t y.fTo.fThread=true then 0 else 5)else e):=by
 refine atQ t.fFlows (fun y=>if B5 t y.fFrom.fThread=true∧B5 t y.fTo.fThread=true then 0 else 5) hl (fun i y hy=>?_) (by simp[l8]) (fun e i h=>?_) e
 ·have hi:(i:Int)<t.fFlows.length:=by have:=dJ hy;omega
  simp only[l8,hi,decide_true,cond_true,j4,hy,Option.bind_some,Y4 t _ ht]
  by_cases hb1:B5 t y.fFrom.fThread=true<;>by_cases hb2:B5 t y.fTo.fThread=true<;>simp[hb1,hb2]
 ·by_cases hi:i<(t.fFlows.length:Int)<;>simp[l8,hi,h]
def cLo(t:aY)(y:yq):Int:=if B5 t y.fThread=true then(if(0≤y.fSpan.fFrom∧y.fSpan.fFrom<y.fSpan.fTo∧y.fSpan.fTo≤1000000000000)∧1≤y.fCount∧y.fCount≤1000000000000000 then 0 else 2)else 5
theorem aiX(y:yq):((lQ y.fSpan).bind fun r32=>bif !r32 then some true else bif decide (y.fCount<1)then some true else some (decide (1000000000000000<y.fCount)))=some (!decide ((0≤y.fSpan.fFrom∧y.fSpan.fFrom<y.fSpan.fTo∧y.fSpan.fTo≤1000000000000)∧1≤y.fCount∧y.fCount≤1000000000000000)):=by
 rw[A7,Option.bind_some]
 by_cases h1:0≤y.fSpan.fFrom∧y.fSpan.fFrom<y.fSpan.fTo∧y.fSpan.fTo≤1000000000000
 ·by_cases h2:y.fCount<1
  ·have : ¬1≤y.fCount:=by omega
   simp[h1,h2,this]
  ·have h3:1≤y.fCount:=by omega
   by_cases h4:1000000000000000<y.fCount
   ·have : ¬y.fCount≤1000000000000000:=by omega
    simp[h1,h2,h3,h4,this]
   ·have:y.fCount≤1000000000000000:=by omega
    simp[h1,h2,h3,h4,this]
 ·simp[h1]
theorem aLV(t:aY)(m:List (Int×ByteArray))(hm:∀k,(D3 k m).isSome=B5 t k)(l:List yq)(hl:l.length≤9223372036854775807):rJ m l=some (orI (l.map (cLo t))):=by
 unfold rJ
 refine afV l (cLo t) hl (fun i y hy=>?_) (by simp[s7])
 have hi:(i:Int)<l.length:=by have:=dJ hy;omega
 simp only[s7,hi,decide_true,cond_true,j4,hy,Option.bind_some,hm,cLo,aiX]
 by_cases hb:B5 t y.fThread=true<;>by_cases h:((0≤y.fSpan.fFrom∧y.fSpan.fFrom<y.fSpan.fTo∧y.fSpan.fTo≤1000000000000)∧1≤y.fCount∧y.fCount≤1000000000000000)<;>simp only[hb,h,decide_true,decide_false,ik,ck,dk,fw,cond_true,cond_false]<;>simp
theorem aQW(t:aY)(ht:t.fThreads.length≤9223372036854775807)(hl:t.fLost.length≤9223372036854775807)(e:Int):loop (l7 t) (e,0)=some (if e=0 then orI (t.fLost.map (cLo t))else e):=by
 refine atQ t.fLost (cLo t) hl (fun i y hy=>?_) (by simp[l7]) (fun e i h=>?_) e
 ·have hi:(i:Int)<t.fLost.length:=by have:=dJ hy;omega
  simp only[l7,hi,decide_true,cond_true,j4,hy,Option.bind_some,Y4 t _ ht,cLo,Tz,aiX]
  by_cases hb:B5 t y.fThread=true<;>by_cases h:((0≤y.fSpan.fFrom∧y.fSpan.fFrom<y.fSpan.fTo∧y.fSpan.fTo≤1000000000000)∧1≤y.fCount∧y.fCount≤1000000000000000)<;>simp only[hb,h,decide_true,decide_false,ik,ck,dk,fw,cond_true,cond_false]<;>simp
 ·by_cases hi:i<(t.fLost.length:Int)<;>simp[l7,hi,h]
theorem ajQ(t:aY):∀l:List fX,orI (l.map fun y=>if B5 t y.fFrom.fThread=true∧B5 t y.fTo.fThread=true then 0 else 5)=if orI (l.map fun y=>cK t y.fFrom.fThread)=0 then orI (l.map fun y=>cK t y.fTo.fThread)else orI (l.map fun y=>cK t y.fFrom.fThread)
 | []=>rfl
 | y::l=>by
  have ih:=ajQ t l
  have h5:∀(f:fX→Int) (l:List fX),orI (l.map fun y=>cK t (f y))=0∨orI (l.map fun y=>cK t (f y))=5:=by
   intro f l
   induction l with
   | nil=>exact .inl rfl
   | cons x l ih =>
    simp only[lw,orI]
    split
    ·exact ih
    ·rename_i h
     unfold cK at h ⊢
     split at h
     ·exact absurd rfl h
     ·rename_i h';exact .inr (by rw[if_neg h'])
  simp only[lw,orI]
  rw[ih]
  rcases h5 (fun y => y.fFrom.fThread) l with a | a<;>rcases h5 (fun y => y.fTo.fThread) l with b | b<;>simp only[cK]at a b ⊢<;>simp only[a,b]<;>by_cases hb1:B5 t y.fFrom.fThread=true<;>by_cases hb2:B5 t y.fTo.fThread=true<;>simp[hb1,hb2]
def thG(t:aY)(i:Nat)(y:dz):Option Int:=match n7 y with
 | some r=>if r≠0 then some r else if(t.fThreads.take i).any (fun x=>decide (x.fId=y.fId))=true then some 4 else none
 | none=>none
def Xj(t:aY):Option Int:=tq (thG t) t.fThreads 0
theorem UY{t:aY}{j:Nat}{y:dz}{r:Int}(hy:t.fThreads[j]? = some y)(h:thG t j y=some r)(hb:∀k z,k<j→t.fThreads[k]? = some z→thG t k z=none):Xj t=some r :=
 afW hy (by simpa using h) (fun k z hk hz=>by simpa using hb k z hk hz)
theorem abX{t:aY}(hb:∀(k:Nat) z,t.fThreads[k]? = some z→thG t k z=none):Xj t=none :=
 anV.2 (fun k z hz=>by simpa using hb k z hz)
theorem aFX(t:aY)(hl:t.fThreads.length≤9223372036854775807)(hn:∀x∈t.fThreads,okN x.fName)(h64 : ¬(64:Int)<t.fThreads.length):Ok (pW t) (fun q=>(∃r,r≠0∧q = .inl ([],r)∧Xj t=some r)∨(∃m,q = .inr (m,0)∧Xj t=none∧∀k,(D3 k m).isSome=B5 t k)):=by
 unfold pW
 simp only[h64,decide_false,cond_false]
 refine eW (Q:=oZ (fun m=>Xj t=none∧∀k,(D3 k m).isSome=B5 t k) (fun q:(List (Int×ByteArray)×Int) ⊕ (List (Int×ByteArray)×Int)=>∃r,r≠0∧q = .inl ([],r)∧Xj t=some r)) (Ux t.fThreads.length (fun m n=>(∀k,(D3 k m).isSome=(t.fThreads.take n).any (fun x=>decide (x.fId=k)))∧∀(k:Nat) z,k<n→t.fThreads[k]? = some z→thG t k z=none) hl ⟨by intro k;simp[D3],by intro k z hk;omega⟩ (fun m i hI h2=>?_)) (fun m hm=>bK (.inr ⟨m,rfl,hm.1,hm.2⟩)) (fun q hq=>bK (.inl hq))
 unfold Bx
 dsimp only
 refine bQ (fun hi=>?_) (fun hi=>d8 ⟨abX (fun k z hz=>hI.2 k z (by have:=dJ hz;omega) hz),fun k=>?_⟩)
 ·obtain⟨y,hiy,hy⟩:=Hj (xs:=t.fThreads) (i:=i) (by omega)
  rw[hiy,Option.bind_some]
  obtain⟨r,hr,_⟩:=C1 y (hn y (fk hy))
  rw[hr,Option.bind_some]
  refine bX (fun h0=>d8 ⟨r,h0,rfl,UY hy (by simp[thG,hr,h0]) hI.2⟩) (fun h0=>?_)
  rw[hI.1 y.fId]
  refine bJ (fun e=>d8 ⟨4,by omega,rfl,UY hy (by simp only[thG,hr,h0,ne_eq,not_true_eq_false,ck];rw[if_pos e]) hI.2⟩) (fun e=>?_)
  rw[QZ (n:=t.fThreads.length) (by omega) hl]
  refine jQ ⟨by omega,rfl,fun k=>?_,fun k z hk hz=>?_⟩
  ·rw[ahX,List.take_add_one,hy]
   simp only[List.any_append,←hI.1 k]
   by_cases e2:k=y.fId
   ·subst e2;simp
   ·have : ¬y.fId=k:=fun h=>e2 h.symm
    simp[e2,this]
  ·by_cases e2:k=i
   ·subst e2;rw[hy]at hz;cases hz
    simp only[thG,hr,h0,ne_eq,not_true_eq_false,ck]
    rw[if_neg (by rw[e];simp)]
   ·exact hI.2 k z (by omega) hz
 ·rw[hI.1 k,show i=t.fThreads.length by omega,List.take_length];rfl
theorem aDZ(t:aY)(hl:t.fThreads.length≤9223372036854775807)(hn:∀x∈t.fThreads,okN x.fName):Ok (loop (pV t) 0) (fun q=>(∃r,r≠0∧q = .inr r∧Xj t=some r)∨(∃u,q = .inl u∧Xj t=none)):=by
 refine Y2 t.fThreads.length (fun n=>∀(k:Nat) z,k<n→t.fThreads[k]? = some z→thG t k z=none) hl (by intro k z hk;omega) (fun i hI h2=>?_)
 unfold pV
 refine bQ (fun hi=>?_) (fun hi=>d8 (.inr ⟨(),rfl,abX (fun k z hz=>hI k z (by have:=dJ hz;omega) hz)⟩))
 obtain⟨y,hiy,hy⟩:=Hj (xs:=t.fThreads) (i:=i) (by omega)
 rw[hiy,Option.bind_some]
 obtain⟨r,hr,_⟩:=C1 y (hn y (fk hy))
 rw[←aEX,hr,Option.bind_some]
 refine bX (fun h0=>d8 (.inl ⟨r,h0,rfl,UY hy (by simp[thG,hr,h0]) hI⟩)) (fun h0=>?_)
 refine eW (Q:=oZ (fun _=>(t.fThreads.take i).any (fun x=>decide (x.fId=y.fId))=false) (fun q=>q = .inr (.inr 4)∧(t.fThreads.take i).any (fun x=>decide (x.fId=y.fId))=true)) (Y2 i (fun n=>∀(k:Nat) z,k<n→t.fThreads[k]? = some z→z.fId≠y.fId) (by omega) (by intro k z hk;omega) (fun j hJ h4=>?_)) (fun _ hq=>?_) (fun q hq=>?_)
 ·unfold u7
  refine bQ (fun hj=>?_) (fun hj=>d8 ?_)
  ·obtain⟨z,hjz,hz⟩:=Hj (xs:=t.fThreads) (i:=j) (by omega)
   rw[hjz,Option.bind_some,hiy,Option.bind_some]
   refine bQ (fun e=>d8 ⟨rfl,?_⟩) (fun e=>?_)
   ·rw[List.any_eq_true]
    refine⟨z,?_,decide_eq_true e⟩
    exact fk (i:=j) (by rw[lk,if_pos (by omega)];exact hz)
   ·rw[QZ (n:=i) (by omega) (by omega)]
    refine jQ ⟨by omega,rfl,fun k z' hk hz'=>?_⟩
    by_cases e2:k=j
    ·subst e2;rw[hz]at hz';cases hz';exact e
    ·exact hJ k z' (by omega) hz'
  ·show(t.fThreads.take i).any _=false
   rw[List.any_eq_false]
   intro x hx
   obtain⟨k,hk⟩:=List.getElem?_of_mem hx
   rw[lk]at hk
   split at hk
   ·simpa using hJ k x (by omega) hk
   ·simp at hk
 ·have hq':(t.fThreads.take i).any (fun x=>decide (x.fId=y.fId))=false:=hq
  dsimp only
  rw[QZ (n:=t.fThreads.length) (by omega) hl]
  refine jQ ⟨by omega,rfl,fun k z hk hz=>?_⟩
  by_cases e2:k=i
  ·subst e2;rw[hy]at hz;cases hz
   simp only[thG,hr,h0,ne_eq,not_true_eq_false,ck]
   rw[if_neg (by rw[hq'];simp)]
  ·exact hI k z (by omega) hz
 ·obtain⟨e1,e2⟩ : q = .inr (.inr 4)∧(t.fThreads.take i).any (fun x=>decide (x.fId=y.fId))=true:=hq
  subst e1
  exact d8 (.inl ⟨4,by omega,rfl,UY hy (by simp only[thG,hr,h0,ne_eq,not_true_eq_false,ck];rw[if_pos e2]) hI⟩)
theorem aDQ(t:aY)(hz:Siz t)(ht:t.fThreads.length≤1000000):uj t=oJ t:=by
 unfold uj oJ
 by_cases h64:(64:Int)<t.fThreads.length
 ·have:pW t=some (.inl ([],7)):=by unfold pW;simp[h64]
  rw[this]
  simp[h64]
 ·obtain⟨q,hq,hp⟩:=aFX t hz.th hz.nTh h64
  obtain⟨q',hq',hr⟩:=aDZ t hz.th hz.nTh
  rw[hq,hq']
  simp only[h64,decide_false,cond_false]
  rcases hp with⟨r,h0,rfl,he⟩ | ⟨m,rfl,he,hm⟩
  ·rcases hr with⟨r',h0',rfl,he'⟩ | ⟨u,rfl,he'⟩
   ·rw[he]at he';cases he'
    simp[h0]
   ·rw[he]at he';simp at he'
  ·rcases hr with⟨r',h0',rfl,he'⟩ | ⟨u,rfl,he'⟩
   ·rw[he]at he';simp at he'
   ·dsimp only[Option.bind_some]
    unfold vJ
    obtain⟨c1,h1,_⟩:=OX t.fSlices hz.sl hz.nSl
    obtain⟨c2,h2,_⟩:=H6 t.fThreads t.fStates ht hz.st
    obtain⟨c3,h3,_⟩:=J0 t.fFlows hz.fl
    obtain⟨c4,h4,_⟩:=E9 t.fSamples hz.sa hz.nSa
    obtain⟨c5,h5,_⟩:=D7 t.fSteps hz.sp hz.nSp
    obtain⟨c6,h6,_⟩:=FQ t.fBlocks hz.bl hz.nBl
    rw[←aOJ _ hz.sl,←aMX _ _ ht hz.st,←aRQ,←aEV,←azz,←aFW _ hz.bl hz.nBl]
    simp only[h1,h2,h3,h4,h5,h6,Option.bind_some,akZ t m hm _ _ hz.sl,atx t m hm _ _ hz.fl,asW t m hm _ _ hz.fl,aeK t m hm _ _ hz.sa,amZ t m hm _ _ hz.bl,aLV t m hm _ hz.lo,aQW t hz.th hz.lo,aSz t hz.th hz.bl,aSQ t hz.th hz.sa,aTK t hz.th hz.fl,aTV t hz.th hz.sl,ajQ,decide_true,dk,cond_false]
    generalize orI (t.fSlices.map fun y=>cK t y.fThread)=k1
    generalize orI (t.fFlows.map fun y=>cK t y.fFrom.fThread)=k2
    generalize orI (t.fFlows.map fun y=>cK t y.fTo.fThread)=k3
    generalize orI (t.fSamples.map fun y=>cK t y.fThread)=k4
    generalize orI (t.fBlocks.map fun y=>cK t y.fThread)=k5
    generalize orI (t.fLost.map (cLo t))=k6
    clear h1 h2 h3 h4 h5 h6
    by_cases g1:c1=0
    ·by_cases g2:k1=0
     ·by_cases g3:c2=0
      ·by_cases g4:c3=0
       ·by_cases g5:k2=0
        ·by_cases g6:k3=0
         ·by_cases g7:c4=0
          ·by_cases g8:k4=0
           ·by_cases g9:c5=0
            ·by_cases g10:c6=0
             ·by_cases g11:k5=0<;>simp[g1,g2,g3,g4,g5,g6,g7,g8,g9,g10,g11]
             ·simp[g1,g2,g3,g4,g5,g6,g7,g8,g9,g10]
            ·simp[g1,g2,g3,g4,g5,g6,g7,g8,g9]
           ·simp[g1,g2,g3,g4,g5,g6,g7,g8]
          ·simp[g1,g2,g3,g4,g5,g6,g7]
         ·simp[g1,g2,g3,g4,g5,g6]
        ·simp[g1,g2,g3,g4,g5]
       ·simp[g1,g2,g3,g4]
      ·simp[g1,g2,g3]
     ·simp[g1,g2]
    ·simp[g1]
def wiB(p s:bZ):Bool:=decide (s.fFrom≤p.fFrom)&&decide (p.fTo≤s.fTo)
def inB(s:bZ)(x:Int):Bool:=decide (s.fFrom≤x)&&decide (x<s.fTo)
theorem K3(p s:bZ):sx p s=some (wiB p s):=by
 unfold sx wiB;by_cases h:s.fFrom≤p.fFrom<;>simp[h]
theorem K8(s:bZ)(x:Int):pY s x=some (inB s x):=by
 unfold pY inB;by_cases h:s.fFrom≤x<;>simp[h]
theorem Lq(p s:bZ):kq p s=some (wiB p s):=by
 unfold kq wiB;by_cases h:s.fFrom≤p.fFrom<;>simp[h]
theorem KX(s:bZ)(x:Int):jX x s=some (inB s x):=by
 unfold jX inB;by_cases h:s.fFrom≤x<;>simp[h]
theorem aIq(s:bZ)(l:List aK)(hl:l.length≤9223372036854775807):eQ l s=some (!l.all fun y=>wiB y.fSpan s):=by
 unfold eQ gj
 refine(afx l (fun y=>!(wiB y.fSpan s)) hl (fun i y hy=>?_) (by simp[fZ])).trans (by rw[List.not_all_eq_any_not])
 have hi:(i:Int)<l.length:=by have:=dJ hy;omega
 simp only[fZ,hi,decide_true,cond_true,j4,hy,Option.bind_some,o3,K3,K8]
 by_cases h1:wiB y.fSpan s=true<;>simp[h1]
theorem aWY(t:aY)(hl:t.fSlices.length≤9223372036854775807)(b:Bool):loop (m5 t) (b,0)=some (b&&t.fSlices.all fun y=>wiB y.fSpan t.fSpan):=by
 refine agJ t.fSlices (fun y=>wiB y.fSpan t.fSpan) hl (fun b i y hy=>?_) (fun b=>by simp[m5]) b
 have hi:(i:Int)<t.fSlices.length:=by have:=dJ hy;omega
 simp only[m5,hi,decide_true,cond_true,j4,hy,Option.bind_some,Lq,KX]
 cases b<;>simp
theorem aEK(s:bZ)(l:List cZ)(hl:l.length≤9223372036854775807):d9 l s=some (!l.all fun y=>wiB y.fSpan s):=by
 unfold d9 gQ
 refine(afx l (fun y=>!(wiB y.fSpan s)) hl (fun i y hy=>?_) (by simp[fY])).trans (by rw[List.not_all_eq_any_not])
 have hi:(i:Int)<l.length:=by have:=dJ hy;omega
 simp only[fY,hi,decide_true,cond_true,j4,hy,Option.bind_some,o9,K3,K8]
 by_cases h1:wiB y.fSpan s=true<;>simp[h1]
theorem aZX(t:aY)(hl:t.fStates.length≤9223372036854775807)(b:Bool):loop (nX t) (b,0)=some (b&&t.fStates.all fun y=>wiB y.fSpan t.fSpan):=by
 refine agJ t.fStates (fun y=>wiB y.fSpan t.fSpan) hl (fun b i y hy=>?_) (fun b=>by simp[nX]) b
 have hi:(i:Int)<t.fStates.length:=by have:=dJ hy;omega
 simp only[nX,hi,decide_true,cond_true,j4,hy,Option.bind_some,Lq,KX]
 cases b<;>simp
theorem aFK(s:bZ)(l:List eJ)(hl:l.length≤9223372036854775807):ej l s=some (!l.all fun y=>wiB y.fSpan s):=by
 unfold ej gX
 refine(afx l (fun y=>!(wiB y.fSpan s)) hl (fun i y hy=>?_) (by simp[fJ])).trans (by rw[List.not_all_eq_any_not])
 have hi:(i:Int)<l.length:=by have:=dJ hy;omega
 simp only[fJ,hi,decide_true,cond_true,j4,hy,Option.bind_some,o6,K3,K8]
 by_cases h1:wiB y.fSpan s=true<;>simp[h1]
theorem aYj(t:aY)(hl:t.fBlocks.length≤9223372036854775807)(b:Bool):loop (m7 t) (b,0)=some (b&&t.fBlocks.all fun y=>wiB y.fSpan t.fSpan):=by
 refine agJ t.fBlocks (fun y=>wiB y.fSpan t.fSpan) hl (fun b i y hy=>?_) (fun b=>by simp[m7]) b
 have hi:(i:Int)<t.fBlocks.length:=by have:=dJ hy;omega
 simp only[m7,hi,decide_true,cond_true,j4,hy,Option.bind_some,Lq,KX]
 cases b<;>simp
theorem aOq(s:bZ)(l:List fX)(hl:l.length≤9223372036854775807):eZ l s=some (!l.all fun y=>(inB s y.fSend&&inB s y.fRecv)):=by
 unfold eZ gW
 refine(afx l (fun y=>!(inB s y.fSend&&inB s y.fRecv)) hl (fun i y hy=>?_) (by simp[gq])).trans (by rw[List.not_all_eq_any_not])
 have hi:(i:Int)<l.length:=by have:=dJ hy;omega
 simp only[gq,hi,decide_true,cond_true,j4,hy,Option.bind_some,o7,K3,K8]
 by_cases h1:inB s y.fSend=true<;>by_cases h2:inB s y.fRecv=true<;>simp[h1,h2]
theorem aXq(t:aY)(hl:t.fFlows.length≤9223372036854775807)(b:Bool):loop (nQ t) (b,0)=some (b&&t.fFlows.all fun y=>(inB t.fSpan y.fSend&&inB t.fSpan y.fRecv)):=by
 refine agJ t.fFlows (fun y=>(inB t.fSpan y.fSend&&inB t.fSpan y.fRecv)) hl (fun b i y hy=>?_) (fun b=>by simp[nQ]) b
 have hi:(i:Int)<t.fFlows.length:=by have:=dJ hy;omega
 simp only[nQ,hi,decide_true,cond_true,j4,hy,Option.bind_some,Lq,KX]
 cases b<;>by_cases h1:inB t.fSpan y.fSend=true<;>by_cases h2:inB t.fSpan y.fRecv=true<;>simp[h1,h2]
theorem awq(s:bZ)(l:List eY)(hl:l.length≤9223372036854775807):d4 l s=some (!l.all fun y=>inB s y.fAt):=by
 unfold d4 f0
 refine(afx l (fun y=>!(inB s y.fAt)) hl (fun i y hy=>?_) (by simp[fj])).trans (by rw[List.not_all_eq_any_not])
 have hi:(i:Int)<l.length:=by have:=dJ hy;omega
 simp only[fj,hi,decide_true,cond_true,j4,hy,Option.bind_some,o8,K3,K8]
 by_cases h1:inB s y.fAt=true<;>simp[h1]
theorem aZq(t:aY)(hl:t.fSamples.length≤9223372036854775807)(b:Bool):loop (nj t) (b,0)=some (b&&t.fSamples.all fun y=>inB t.fSpan y.fAt):=by
 refine agJ t.fSamples (fun y=>inB t.fSpan y.fAt) hl (fun b i y hy=>?_) (fun b=>by simp[nj]) b
 have hi:(i:Int)<t.fSamples.length:=by have:=dJ hy;omega
 simp only[nj,hi,decide_true,cond_true,j4,hy,Option.bind_some,Lq,KX]
 cases b<;>simp
theorem aNj(s:bZ)(l:List jj)(hl:l.length≤9223372036854775807):eX l s=some (!l.all fun y=>inB s y.fAt):=by
 unfold eX gY
 refine(afx l (fun y=>!(inB s y.fAt)) hl (fun i y hy=>?_) (by simp[f6])).trans (by rw[List.not_all_eq_any_not])
 have hi:(i:Int)<l.length:=by have:=dJ hy;omega
 simp only[f6,hi,decide_true,cond_true,j4,hy,Option.bind_some,oW,K3,K8]
 by_cases h1:inB s y.fAt=true<;>simp[h1]
theorem aWj(t:aY)(hl:t.fSteps.length≤9223372036854775807)(b:Bool):loop (mW t) (b,0)=some (b&&t.fSteps.all fun y=>inB t.fSpan y.fAt):=by
 refine agJ t.fSteps (fun y=>inB t.fSpan y.fAt) hl (fun b i y hy=>?_) (fun b=>by simp[mW]) b
 have hi:(i:Int)<t.fSteps.length:=by have:=dJ hy;omega
 simp only[mW,hi,decide_true,cond_true,j4,hy,Option.bind_some,Lq,KX]
 cases b<;>simp
theorem aaK(t:aY)(hz:Siz t)(ht:t.fThreads.length≤1000000):sJ t=p5 t:=by
 unfold sJ p5
 rw[aDQ t hz ht]
 congr 1
 funext r
 congr 1
 congr 1
 funext v
 congr 1
 rw[aWY t hz.sl]
 simp only[Option.bind_some,aZX t hz.st,aYj t hz.bl,aXq t hz.fl,aZq t hz.sa,aWj t hz.sp,yY,aIq t.fSpan _ hz.sl,aEK t.fSpan _ hz.st,aFK t.fSpan _ hz.bl,aOq t.fSpan _ hz.fl,awq t.fSpan _ hz.sa,aNj t.fSpan _ hz.sp]
 generalize (t.fSlices.all fun y=>wiB y.fSpan t.fSpan)=b1
 generalize (t.fStates.all fun y=>wiB y.fSpan t.fSpan)=b2
 generalize (t.fBlocks.all fun y=>wiB y.fSpan t.fSpan)=b3
 generalize (t.fFlows.all fun y=>(inB t.fSpan y.fSend&&inB t.fSpan y.fRecv))=b4
 generalize (t.fSamples.all fun y=>inB t.fSpan y.fAt)=b5
 generalize (t.fSteps.all fun y=>inB t.fSpan y.fAt)=b6
 cases b1<;>cases b2<;>cases b3<;>cases b4<;>cases b5<;>cases b6<;>rfl
theorem S5{σ ρ:Type}{step:σ×Int→Option ((σ×Int) ⊕ ρ)}(n:Nat)(Inv:σ→Nat→Prop){Post:ρ→Prop}(hn:n≤9223372036854775807){s0:σ}(h0:Inv s0 0)
  (h:∀(s:σ) (i:Nat),Inv s i→i≤n→Ok (step (s,(i:Int))) (oZ (fun a=>i<n∧a.2=((i+1:Nat):Int)∧Inv a.1 (i+1)) Post)):Ok (loop step (s0,0)) Post:=by
 refine R5 n (fun s i=>Inv s i.toNat) hn h0 (fun s i hI h1 h2=>?_)
 obtain⟨k,rfl⟩:=Int.eq_ofNat_of_zero_le h1
 refine(h s k hI (by omega)).mono ?_
 rintro (⟨a,b⟩ | b) hr
 ·obtain⟨h3,h4,h5⟩ : k<n∧b=((k+1:Nat):Int)∧Inv a (k+1):=hr
  refine⟨by omega,by omega,?_⟩
  rw[show((k:Int)+1).toNat=k+1 by omega];exact h5
 ·exact hr
theorem Q7{ρ:Type}{step:Int→Option (Int ⊕ ρ)}(n:Nat)(Inv:Nat→Prop){Post:ρ→Prop}(hn:n≤9223372036854775807)(h0:Inv 0)
  (h:∀i:Nat,Inv i→i≤n→Ok (step (i:Int)) (oZ (fun a=>i<n∧a=((i+1:Nat):Int)∧Inv (i+1)) Post)):Ok (loop step 0) Post:=by
 refine avW n (fun i=>Inv i.toNat) hn h0 (fun i hI h1 h2=>?_)
 obtain⟨k,rfl⟩:=Int.eq_ofNat_of_zero_le h1
 refine(h k hI (by omega)).mono ?_
 rintro (b | b) hr
 ·obtain⟨h3,h4,h5⟩ : k<n∧b=((k+1:Nat):Int)∧Inv (k+1):=hr
  refine⟨by omega,by omega,?_⟩
  rw[show((k:Int)+1).toNat=k+1 by omega];exact h5
 ·exact hr
theorem DK{α:Type}{xs:List α}{i:Nat}(h:i<xs.length):Ok (idx xs (i:Int)) (fun y=>xs[i]? = some y):=by
 rw[j4];exact⟨xs[i],by simp[h],by simp[h]⟩
theorem Jz{i n:Nat}(h:i<n)(hn:n≤9223372036854775807):w64 ((i:Int)+1)=((i+1:Nat):Int):=by rw[ax (by omega)];omega
def lenS(s:aK):Int:=w64 (s.fSpan.fTo-s.fSpan.fFrom)
def isC(name:ByteArray)(s:aK):Bool:=decide (s.fName=name) && !s.fOpen
def vZ(l:List aK)(name:ByteArray):List Int:=(l.filter (isC name)).map lenS
theorem I3(l:List aK)(name:ByteArray):(vZ l name).length≤l.length:=by
 unfold vZ;simp only[List.length_map];exact List.length_filter_le _ _
theorem S8(t:aY)(name:ByteArray)(h:t.fSlices.length≤60):nK t name=some (vZ t.fSlices name):=by
 have:Ok (nK t name) (fun r=>r=vZ t.fSlices name):=by
  unfold nK
  refine aq (Q:=fun r=>r=vZ t.fSlices name) (S5 t.fSlices.length (fun a n=>a=vZ (t.fSlices.take n) name) (by omega) (by simp[vZ]) (fun a i hI h2=>?_)) (fun r hr=>bK hr)
  unfold uQ
  dsimp only
  subst hI
  have hl:=I3 (t.fSlices.take i) name
  rw[List.length_take]at hl
  refine bQ (fun hi=>?_) (fun hi=>d8 (by rw[List.take_of_length_le (by omega)]))
  obtain⟨y,hiy,hy⟩:=DK (xs:=t.fSlices) (i:=i) (by omega)
  refine aq (Q:=fun r=>r=vZ (t.fSlices.take (i+1)) name) ?_ (fun r hr=>?_)
  ·rw[hiy,Option.bind_some]
   have e:vZ (t.fSlices.take (i+1)) name=vZ (t.fSlices.take i) name++(if isC name y=true then[lenS y]else[]):=by
    unfold vZ
    rw[List.take_add_one,hy]
    simp only[Option.toList_some,List.filter_append,List.map_append]
    by_cases hc:isC name y=true<;>simp[hc]
   rw[e]
   by_cases h1:y.fName=name
   ·cases h2:y.fOpen with
    | true=>simp[h1,h2,isC,Ok]
    | false =>
     simp only[h1,h2,isC,iz,decide_true,cond_true,fw,Option.bind_some,Bool.and_self,ik]
     rw[Gz (by simp;omega) (by simp;omega)]
     exact bK rfl
   ·simp[h1,isC,Ok]
  ·rw[Jz (n:=t.fSlices.length) (by omega) (by omega)]
   exact jQ ⟨by omega,rfl,hr⟩
 obtain⟨r,h1,h2⟩:=this
 rw[h1,h2]
def qIx(n:Nat):Int:=max (((n:Int)+1) / 2) 1-1
theorem a0V:(List.range 61).all (fun n=>decide ((((x8 (IntKind.wrap .u64 1) (IntKind.wrap .u64 (n:Int))).bind fun r4=>((x6 r4.1 r4.2 (IntKind.wrap .u64 2)).bind fun r5=>(((bif (decide (0<r5.2))then some (IntKind.wrap .u64 (r5.1+1))else some r5.1):Option Int).bind fun v6=>some (IntKind.wrap .u64 ((max v6 1)-1))))))=some (qIx n)))=true:=by kernel_rfl
def aez(l:List Int):Int×Bool:=match(yJ l)[(qIx l.length).toNat]? with
 | some x=>(x,true)
 | none=>(0,false)
theorem R1(l:List Int)(h:l.length≤60):Dx l 1 2=some (aez l):=by
 unfold Dx
 have hsl:(yJ l).length=l.length:=(xK l).length_eq
 by_cases h0:(l.length:Int)=0
 ·have:l=[]:=List.length_eq_zero_iff.1 (by omega)
  subst this
  rfl
 ·have hq:=of_decide_eq_true (List.all_eq_true.1 a0V l.length (List.mem_range.2 (by omega)))
  have hs:aNZ l=true:=decide_eq_true (by omega)
  simp only[h0,decide_false,cond_false,Option.bind_some,zZ,Aq,hs,cond_true,show decide ((2:Int)<1)=false from rfl,show decide ((1000000000000000:Int)<2)=false from rfl,show decide ((1:Int)<0)=false from rfl,show decide ((2:Int)<1)=false from rfl]
  generalize x8 (IntKind.wrap .u64 1) (IntKind.wrap .u64 (l.length:Int))=A at *
  cases A with
  | none=>simp at hq
  | some r4 =>
   simp only[Option.bind_some]at hq ⊢
   generalize x6 r4.1 r4.2 (IntKind.wrap .u64 2)=B at *
   cases B with
   | none=>simp at hq
   | some r5 =>
    simp only[Option.bind_some]at hq ⊢
    generalize (bif (decide (0<r5.2))then some (IntKind.wrap .u64 (r5.1+1))else some r5.1:Option Int)=C at *
    cases C with
    | none=>simp at hq
    | some v6 =>
     simp only[Option.bind_some,bk]at hq ⊢
     rw[hq]
     have hr:0≤qIx l.length∧qIx l.length<l.length:=by unfold qIx;omega
     obtain⟨y,h3,h4⟩:=cj (xs:=yJ l) (i:=qIx l.length) hr.1 (by omega)
     rw[h3]
     unfold aez
     rw[h4]
     rfl
def usu(t:aY)(name:ByteArray):Int×Bool:=(mJ t name).getD (0,false)
structure Usu(t:aY)(name:ByteArray)(r:Int×Bool):Prop where
 rng:0≤r.1∧r.1<t.fSlices.length
 s:∃s,t.fSlices[r.1.toNat]? = some s∧isC name s=true∧aez (vZ t.fSlices name)=(lenS s,true)
theorem aQj(t:aY)(name:ByteArray)(h:t.fSlices.length≤60):Ok (mJ t name) (fun r=>r.2=true→Usu t name r):=by
 unfold mJ
 have hcl:=I3 t.fSlices name
 rw[S8 t name h,Option.bind_some,R1 _ (by omega),Option.bind_some]
 generalize hm:aez (vZ t.fSlices name)=m
 refine c8 (fun _=>bK (by simp)) (fun e=>?_)
 refine eW (Q:=oZ Yes (fun r:Int×Bool=>r.2=true→Usu t name r)) (Q7 t.fSlices.length (fun _=>True) (by omega) trivial (fun i _ h2=>?_)) (fun _ _=>bK (by simp)) (fun r hr=>bK hr)
 unfold nZ
 refine bQ (fun hi=>?_) (fun _=>d8 trivial)
 obtain⟨y,hiy,hy⟩:=DK (xs:=t.fSlices) (i:=i) (by omega)
 rw[hiy,Option.bind_some]
 refine aq (Q:=fun v=>v=true→isC name y=true∧lenS y=m.1) ?_ (fun v hv=>?_)
 ·refine bQ (fun h1=>?_) (fun _=>bK (by simp))
  refine c8 (fun h3=>?_) (fun _=>bK (by simp))
  simp only[iz,Option.bind_some]
  exact bK (fun h4=>⟨by simp[isC,h1,h3],of_decide_eq_true h4⟩)
 refine bJ (fun e1=>d8 (fun _=>⟨⟨by simp,by simp;omega⟩,y,by simpa using hy,(hv e1).1,?_⟩)) (fun _=>?_)
 ·rw[hm,(hv e1).2,←e]
 ·rw[Jz (n:=t.fSlices.length) (by omega) (by omega)]
  exact jQ ⟨by omega,rfl,trivial⟩
theorem akQ(t:aY)(name:ByteArray)(h:t.fSlices.length≤60):mJ t name=some (usu t name)∧((usu t name).2=true→Usu t name (usu t name)):=by
 obtain⟨r,h1,h2⟩:=aQj t name h
 unfold usu
 rw[h1]
 exact⟨rfl,h2⟩
theorem aoZ{S S' ρ ρ':Type}{step:S→Option (S ⊕ ρ)}{step':S'→Option (S' ⊕ ρ')}(φ:S→S')(g:ρ→ρ')
  (h:∀s,step' (φ s)=(step s).map (fun x => match x with | .inl s => .inl (φ s) | .inr r => .inr (g r))) (s:S):loop step' (φ s)=(loop step s).map g := by
 have key:∀n s,iter step' n (φ s)=(iter step n s).map g:=by
  intro n
  induction n with
  | zero=>intro s;rfl
  | succ n ih =>
   intro s
   rw[ux,ux,h s]
   cases step s with
   | none=>rfl
   | some x =>
    cases x with
    | inl s'=>exact ih s'
    | inr r=>rfl
 exact key _ s
theorem aKY(l:List cZ)(a b:Int)(p:bZ)(hl:l.length≤200)(hv:∀(j:Nat) s,l[j]? = some s→0≤s.fSpan.fFrom∧s.fSpan.fFrom<s.fSpan.fTo∧s.fSpan.fTo≤1000000000000):qX l a b p=xQ l a b p:=by
 unfold qX xQ
 rw[Tz,A7,Option.bind_some,Option.bind_some]
 by_cases hp:0≤p.fFrom∧p.fFrom<p.fTo∧p.fTo≤1000000000000
 ·simp only[hp,and_self,decide_true,dk,cond_false]
  have hloop:loop (wW l a b p) (0,0)=loop (q0 l a b p) (0,0):=by
   refine D2 l.length (fun x i=>0≤x∧x≤i*1000000000000) ⟨by omega,by omega⟩ (fun x i hI h1 h2=>?_) (fun x i hI h1 h2=>?_)
   ·unfold wW
    dsimp only
    refine bQ (fun hi=>?_) (fun _=>bW)
    refine aq (Q:=fun r:Int=>0≤r∧r≤(i+1)*1000000000000) ?_ (fun r hr=>jQ ⟨hi,ax (by omega),hr⟩)
    obtain⟨y,hiy,hy⟩:=cj (xs:=l) h1 hi
    have:=hv _ y hy
    rw[hiy,Option.bind_some]
    refine aq (Q:=Yes) (by repeat' (first | (with_reducible first | exact cX | exact bW | exact cJ | refine bX (fun _=>?_) fun _=>?_ | refine bQ (fun _=>?_) fun _=>?_ | refine c8 (fun _=>?_) fun _=>?_ | refine bJ (fun _=>?_) fun _=>?_) | (with_reducible refine cQ ?_ ?_ ?_<;>(first | assumption | omega | rw[ax]<;>omega)) | with_reducible refine aq (cj (by(first | assumption | omega | rw[ax]<;>omega)) (by(first | assumption | omega | rw[ax]<;>omega))) (fun _ _=>?_) | (with_reducible refine aq (Q:=Yes) ?_ fun _ _=>?_) | dsimp only)) (fun v _=>bJ (fun _=>bK ?_) (fun _=>bK (by omega)))
    rw[ax (n:=min y.fSpan.fTo p.fTo-max y.fSpan.fFrom p.fFrom) (by omega),ax (by omega)]
    omega
   ·unfold wW q0
    dsimp only
    by_cases hi:i<(l.length:Int)
    ·obtain⟨y,hiy,hy⟩:=cj (xs:=l) h1 hi
     have hvy:=hv _ y hy
     simp only[hi,decide_true,cond_true,hiy,Option.bind_some]
     by_cases g1:y.fThread=a
     ·by_cases g2:y.fState=b
      ·simp only[g1,g2,decide_true,cond_true,dk,cond_false,Option.bind_some]
       have e1:(bif decide (y.fSpan.fFrom<p.fFrom)then some p.fFrom else some y.fSpan.fFrom)=some (max y.fSpan.fFrom p.fFrom):=by
        by_cases g:y.fSpan.fFrom<p.fFrom
        ·simp only[g,decide_true,cond_true];congr 1;omega
        ·simp only[g,decide_false,cond_false];congr 1;omega
       have e2:(bif decide (p.fTo<y.fSpan.fTo)then some p.fTo else some y.fSpan.fTo)=some (min y.fSpan.fTo p.fTo):=by
        by_cases g:p.fTo<y.fSpan.fTo
        ·simp only[g,decide_true,cond_true];congr 1;omega
        ·simp only[g,decide_false,cond_false];congr 1;omega
       rw[e1,e2]
       simp only[Option.bind_some]
       rw[ax (n:=min y.fSpan.fTo p.fTo-max y.fSpan.fFrom p.fFrom) (by omega)]
       by_cases g:max y.fSpan.fFrom p.fFrom<min y.fSpan.fTo p.fTo
       ·simp only[g,decide_true,cond_true,Option.bind_some]
        rw[ax (n:=x+min y.fSpan.fTo p.fTo) (by omega)]
        congr 4;omega
       ·simp only[g,decide_false,cond_false,Option.bind_some]
        have:max 0 (min y.fSpan.fTo p.fTo-max y.fSpan.fFrom p.fFrom)=0:=by omega
        rw[this,Int.add_zero,ax (n:=x) (by omega)]
      ·simp[g1,g2]
     ·simp[g1]
    ·simp[hi]
  rw[hloop]<;>rfl
 ·simp only[hp,decide_false,fw,cond_true]
theorem atJ(t:aY)(i:Int)(s:aK)(hs:idx t.fSlices i=some s)(hl:t.fStates.length≤200)(hv:∀(j:Nat) s,t.fStates[j]? = some s→0≤s.fSpan.fFrom∧s.fSpan.fFrom<s.fSpan.fTo∧s.fSpan.fTo≤1000000000000):j3 t i=m8 t s:=by
 unfold j3 m8 iz
 rw[hs,Option.bind_some,Option.bind_some,show mkB 8 6=true from by rfl]
 simp only[cond_true]
 have:=aoZ (step:=n4 t s) (step':=rz t s) (fun x:Int×List Int×Int=>(x.2.1,x.1,x.2.2)) (fun r:Int×List Int=>(r.2,r.1)) (fun x=>by
  obtain⟨a,l,k⟩:=x
  unfold n4 rz
  dsimp only
  have e:decide (k≤5)=decide (k<6):=decide_eq_decide.2 (by omega)
  rw[e,aKY _ _ _ _ hl hv]
  cases decide (k<6)with
  | false=>rfl
  | true =>
   cases xQ t.fStates s.fThread k s.fSpan with
   | none=>rfl
   | some r =>
    simp only[cond_true,Option.bind_some]
    cases KV 8 (l.length+[r].length)<;>rfl) (w64 (s.fSpan.fTo-s.fSpan.fFrom),[],0)
 simp only at this
 rw[this]
 cases loop (n4 t s) (w64 (s.fSpan.fTo-s.fSpan.fFrom),[],0)with
 | none=>rfl
 | some r=>rfl
theorem acZ(t:aY)(name:ByteArray):l6 t name=nK t name:=by
 unfold l6 nK
 have:oz t name=uQ t name:=by
  funext x
  obtain⟨a,i⟩:=x
  unfold oz uQ
  simp only[iz,Option.bind_some]
 rw[this]<;>rfl
def EX(l:List Int)(x:Int):Nat:=(l.filter (fun z=>decide (z≤x))).length
theorem aVj(l:List Int)(i:Nat)(x:Int)(hx:l[i]? = some x)(h:l.length≤60):loop (lj l (i:Int)) (0,0)=some (EX l x:Int):=by
 have:Ok (loop (lj l (i:Int)) (0,0)) (fun r=>r=(EX l x:Int)):=by
  refine S5 l.length (fun a n=>a=(EX (l.take n) x:Int)) (by omega) (by simp[EX]) (fun a j hJ hj=>?_)
  unfold lj
  dsimp only
  have hle:EX (l.take j) x≤j:=by
   unfold EX
   have:=List.length_filter_le (fun z=>decide (z≤x)) (l.take j)
   rw[List.length_take]at this;omega
  refine bQ (fun hj2=>?_) (fun hj2=>d8 (by rw[hJ,List.take_of_length_le (by omega)]))
  obtain⟨z,hjz,hz⟩:=DK (xs:=l) (i:=j) (by omega)
  refine aq (Q:=fun r=>r=(EX (l.take (j+1)) x:Int)) ?_ (fun r hr=>?_)
  ·rw[hjz,j4,hx,Option.bind_some,Option.bind_some]
   have e:EX (l.take (j+1)) x=EX (l.take j) x+(if z≤x then 1 else 0):=by
    unfold EX
    rw[List.take_add_one,hz]
    simp only[Option.toList_some,List.filter_append,ow,List.filter_cons,List.filter_nil]
    by_cases g:z≤x<;>simp[g]
   rw[e]
   by_cases g:z≤x
   ·simp only[g,decide_true,cond_true,ik]
    rw[ax (by omega)]
    exact bK (by omega)
   ·simp only[g,decide_false,cond_false,ck]
    exact bK (by omega)
  ·rw[Jz (n:=l.length) (by omega) (by omega)]
   exact jQ ⟨by omega,rfl,hr⟩
 obtain⟨r,h1,h2⟩:=this
 rw[h1,h2]
theorem arZ(l:List Int)(x:Int):EX (yJ l) x=EX l x:=((xK l).filter _).length_eq
theorem aZx(s:List Int)(hs:s.Pairwise (·≤·))(q:Nat)(m:Int)(hq:s[q]? = some m):q+1≤EX s m:=by
 have hl:=dJ hq
 have h1:(s.take (q+1)).filter (fun z=>decide (z≤m))=s.take (q+1):=by
  rw[List.filter_eq_self]
  intro x hx
  obtain⟨j,hj,rfl⟩:=List.mem_take_iff_getElem.1 hx
  have hq':s[q]=m:=by rw[dw hl]at hq;exact Option.some.inj hq
  have:s[j]≤s[q]:=by
   by_cases e:j=q
   ·subst e;omega
   ·exact List.pairwise_iff_getElem.1 hs j q (by omega) hl (by omega)
  exact decide_eq_true (by omega)
 have h2:s.filter (fun z=>decide (z≤m))=(s.take (q+1)).filter (fun z=>decide (z≤m))++(s.drop (q+1)).filter (fun z=>decide (z≤m)):=by
  rw[←List.filter_append,List.take_append_drop]
 unfold EX
 rw[h2,h1,ow,List.length_take]
 omega
theorem aYx(s:List Int)(hs:s.Pairwise (·≤·))(q:Nat)(m x:Int)(hq:s[q]? = some m)(hx:x<m):EX s x≤q:=by
 have hl:=dJ hq
 have h1:(s.drop q).filter (fun z=>decide (z≤x))=[]:=by
  rw[List.filter_eq_nil_iff]
  intro y hy
  obtain⟨j,hj,rfl⟩:=List.mem_drop_iff_getElem.1 hy
  have hq':s[q]=m:=by rw[dw hl]at hq;exact Option.some.inj hq
  have:s[q]≤s[q+j]:=by
   by_cases e:j=0
   ·subst e;exact Int.le_refl _
   ·exact List.pairwise_iff_getElem.1 hs q (q+j) hl (by omega) (by omega)
  simp;omega
 have h2:s.filter (fun z=>decide (z≤x))=(s.take q).filter (fun z=>decide (z≤x))++(s.drop q).filter (fun z=>decide (z≤x)):=by
  rw[←List.filter_append,List.take_append_drop]
 unfold EX
 rw[h2,h1,List.append_nil]
 have:=List.length_filter_le (fun z=>decide (z≤x)) (s.take q)
 rw[List.length_take]at this
 omega
theorem avj(l:List Int)(h:l.length≤60):kK l 1 2=some (aez l):=by
 by_cases h0:l=[]
 ·subst h0;rfl
 have hpos:0<l.length:=List.length_pos_iff.2 h0
 have hsl:(yJ l).length=l.length:=(xK l).length_eq
 have hqr:(qIx l.length).toNat<(yJ l).length:=by unfold qIx;omega
 obtain⟨m,hm⟩ : ∃m,(yJ l)[(qIx l.length).toNat]? = some m:=⟨_,dw hqr⟩
 have hmed:aez l=(m,true):=by unfold aez;rw[hm]
 have hge:=aZx _ (GX l) _ m hm
 rw[arZ]at hge
 have hle:∀x,x<m→EX l x≤(qIx l.length).toNat:=fun x hx=>by
  have:=aYx _ (GX l) _ m x hm hx
  rwa [arZ]at this
 have hml:m∈l:=(xK l).mem_iff.1 (fk hm)
 have q1:l.length≤2*((qIx l.length).toNat+1):=by unfold qIx;omega
 have q2:2*(qIx l.length).toNat<l.length:=by unfold qIx;omega
 have this:Ok (kK l 1 2) (fun r=>r=(m,true)):=by
  unfold kK
  have hn : ¬((l.length:Int)=0):=by omega
  simp only[hn,decide_false,cond_false,Option.bind_some,show decide ((2:Int)<1)=false from rfl,show decide ((1000000000000000:Int)<2)=false from rfl,show decide ((1:Int)<0)=false from rfl]
  let Inv:Int→Bool→Nat→Prop:=fun best found n=>(found=false→∀(j:Nat) x,j<n→l[j]? = some x→¬l.length≤2*EX l x)∧(found=true→best∈l∧l.length≤2*EX l best∧∀(j:Nat) x,j<n→l[j]? = some x→l.length≤2*EX l x→best≤x)
  refine aq (Q:=fun b=>b=m) (A8 (fun s:Int×Bool×Int=>0≤s.2.2∧s.2.2≤l.length∧Inv s.1 s.2.1 s.2.2.toNat) (fun s=>((l.length:Int)-s.2.2).toNat) (fun s hs=>?_) ⟨by simp,by simp,⟨fun _ j x hj=>by simp at hj,fun e=>by simp at e⟩⟩ (by simp[gz];omega)) (fun b hb=>bK (by rw[hb]))
  obtain⟨best,found,i⟩:=s
  obtain⟨h1,h2,hI⟩:=hs
  simp only at h1 h2 hI
  obtain⟨i,rfl⟩:=Int.eq_ofNat_of_zero_le h1
  unfold s8
  dsimp only
  refine bQ (fun hi=>?_) (fun hi=>d8 ?_)
  ·obtain⟨x,hix,hx⟩:=DK (xs:=l) (i:=i) (by omega)
   rw[aVj l i x hx h,Option.bind_some]
   have hc:EX l x≤l.length:=List.length_filter_le _ _
   rw[ax (n:=1*(l.length:Int)) (by omega),ax (n:=2*(EX l x:Int)) (by omega)]
   have fin:∀b f,Inv b f (i+1)→Ok (some (Sum.inl (b,f,w64 ((i:Int)+1)):(Int×Bool×Int) ⊕ Int)) (oZ (fun s':Int×Bool×Int=>(0≤s'.2.2∧s'.2.2≤l.length∧Inv s'.1 s'.2.1 s'.2.2.toNat)∧((l.length:Int)-s'.2.2).toNat<((l.length:Int)-(i:Int)).toNat) (fun b=>b=m)):=by
    intro b f hbf
    rw[Jz (n:=l.length) (by omega) (by omega)]
    exact jQ ⟨⟨by simp only;omega,by simp only;omega,by simpa using hbf⟩,by simp only;omega⟩
   by_cases g1:(l.length:Int)≤2*(EX l x:Int)
   ·have g1':l.length≤2*EX l x:=by omega
    have e1:decide (1*(l.length:Int)≤2*(EX l x:Int))=true:=decide_eq_true (by omega)
    simp only[e1,cond_true,hix,Option.bind_some]
    have take:(found=true→x<best)→Inv x true (i+1):=by
     intro hf
     refine⟨fun e=>by simp at e,fun _=>⟨fk hx,g1',fun j z hj hz hq=>?_⟩⟩
     by_cases e2:j=i
     ·subst e2;rw[hx]at hz;cases hz;omega
     ·cases hfo:found with
      | false=>exact absurd hq (hI.1 hfo j z (by simp;omega) hz)
      | true =>
       have:=(hI.2 hfo).2.2 j z (by simp;omega) hz hq
       have:=hf hfo
       omega
    cases hfo:found with
    | false =>
     simp only[fw,cond_true,Option.bind_some]
     exact fin x true (take (fun e=>by rw[hfo]at e;simp at e))
    | true =>
     simp only[dk,cond_false,Option.bind_some]
     by_cases g2:x<best
     ·simp only[g2,decide_true,cond_true,Option.bind_some]
      exact fin x true (take (fun _=>g2))
     ·simp only[g2,decide_false,cond_false,Option.bind_some]
      refine fin best true ⟨fun e=>by simp at e,fun _=>⟨(hI.2 hfo).1,(hI.2 hfo).2.1,fun j z hj hz hq=>?_⟩⟩
      by_cases e2:j=i
      ·subst e2;rw[hx]at hz;cases hz;omega
      ·exact(hI.2 hfo).2.2 j z (by simp;omega) hz hq
   ·have e1:decide (1*(l.length:Int)≤2*(EX l x:Int))=false:=decide_eq_false (by omega)
    simp only[e1,cond_false,Option.bind_some]
    refine fin best found ⟨fun e j z hj hz=>?_,fun e=>⟨(hI.2 e).1,(hI.2 e).2.1,fun j z hj hz hq=>?_⟩⟩
    ·by_cases e2:j=i
     ·subst e2;rw[hx]at hz;cases hz;omega
     ·exact hI.1 e j z (by simp;omega) hz
    ·by_cases e2:j=i
     ·subst e2;rw[hx]at hz;cases hz;omega
     ·exact(hI.2 e).2.2 j z (by simp;omega) hz hq
  ·have hil:i=l.length:=by omega
   subst hil
   obtain⟨jm,hjm⟩:=List.getElem?_of_mem hml
   have hq:l.length≤2*EX l m:=by omega
   cases hfo:found with
   | false=>exact absurd hq (hI.1 hfo jm m (by have:=dJ hjm;simp;omega) hjm)
   | true =>
    obtain⟨b1,b2,b3⟩:=hI.2 hfo
    have c1:=b3 jm m (by have:=dJ hjm;simp;omega) hjm hq
    by_cases g:best<m
    ·have:=hle best g;omega
    ·show best=m
     omega
 obtain⟨r,h1,h2⟩:=this
 rw[h1,h2,hmed]
theorem aPJ(t:aY)(name:ByteArray)(h:t.fSlices.length≤60):qZ t name=some (if(usu t name).2=true then(usu t name).1 else -1):=by
 have hcl:=I3 t.fSlices name
 have hu:=(akQ t name h).1
 unfold qZ
 unfold mJ at hu
 rw[acZ]
 rw[S8 t name h,Option.bind_some]at hu ⊢
 rw[R1 _ (by omega),Option.bind_some]at hu
 rw[avj _ (by omega),Option.bind_some]
 generalize hm:aez (vZ t.fSlices name)=m at *
 cases e:m.2 with
 | false =>
  rw[e]at hu
  simp only[fw,cond_true,bk]at hu
  rw[←hu]
  have:loop (jV t name m) 0=some (.inl ()):=by
   have:Ok (loop (jV t name m) 0) (fun q=>q = .inl ()):=by
    refine A8 (fun s=>s=0) (fun _=>0) (fun s hs=>?_) rfl (by simp[gz])
    subst hs
    unfold jV
    rw[e]
    by_cases g:(0:Int)<t.fSlices.length<;>simp only[g,decide_true,decide_false,cond_true,cond_false,Option.bind_some]<;>exact d8 rfl
   obtain⟨r,h1,h2⟩:=this
   rw[h1,h2]
  rw[this]
  rfl
 | true =>
  rw[e]at hu
  simp only[dk,cond_false]at hu
  have := aoZ (step := nZ t name m) (step' := jV t name m) (fun x:Int => x) (fun r:Unit ⊕ (Int×Bool) => match r with | .inl u => .inl u | .inr v => .inr v.1) (fun i => by
   unfold nZ jV
   rw[e]
   by_cases hi:i<(t.fSlices.length:Int)
   ·simp only[hi,decide_true,cond_true,Option.bind_some]
    cases idx t.fSlices i with
    | none=>rfl
    | some y =>
     simp only[Option.bind_some,iz]
     by_cases g1:y.fName=name
     ·cases g2:y.fOpen with
      | true=>simp[g1]
      | false=>by_cases g3:w64 (y.fSpan.fTo-y.fSpan.fFrom)=m.1<;>simp[g1,g3]
     ·simp[g1]
   ·simp[hi]) (0:Int)
  rw[this]
  cases hL:loop (nZ t name m) 0 with
  | none=>rw[hL]at hu;simp at hu
  | some q =>
   rw[hL]at hu
   cases q with
   | inl u =>
    simp only[Option.bind_some,bk]at hu
    rw[←hu];rfl
   | inr v =>
    simp only[Option.bind_some,bk]at hu
    rw[←hu]
    have hv:v.2=true:=by
     have:=acK (Q:=fun q:Unit ⊕ (Int×Bool)=>∀v,q = .inr v→v.2=true) (fun i r hr=>by
      unfold nZ at hr
      by_cases hi:i<(t.fSlices.length:Int)
      ·simp only[hi,decide_true,cond_true]at hr
       obtain⟨y,_,hr⟩:=bB hr
       obtain⟨w,_,hr⟩:=bB hr
       cases w
       ·simp at hr
       ·simp only[cond_true,bk,Sum.inr.injEq]at hr
        subst hr;intro v hv;cases hv;rfl
      ·simp[hi]at hr;subst hr;intro v hv;cases hv) hL
     exact this v rfl
    simp[hv]
theorem aQK:qj=some true:=by kernel_rfl
theorem aXW{t:aY}(h:uW t):Siz t:=by
 have e:reachBytes=140737488351232:=by decide
 unfold uW okL Ix J5 H1 L0 Kj X6 okL at h
 rw[e]at h
 obtain⟨_,_,h1,h2,h3,h4,h5,h6,h7,h8⟩:=h
 refine⟨by omega,by omega,by omega,by omega,by omega,by omega,by omega,by omega,fun x hx=>?_,fun x hx=>?_,fun x hx=>?_,fun x hx=>?_,fun x hx=>?_⟩
 ·have:=(h1.2 x hx).2.1;unfold okN;omega
 ·have:=(h2.2 x hx).2.2.2.1;unfold okN;omega
 ·have:=(h5.2 x hx).2.2.2;exact⟨by omega,fun y hy=>by have:=this.2 y hy;unfold okN;omega⟩
 ·have:=(h6.2 x hx).1;unfold okN;omega
 ·have:=(h7.2 x hx).2.2.2.2.2.1;exact⟨by omega,fun y hy=>by have:=this.2 y hy;unfold okN;omega⟩
theorem a0J(t:aY):Ok (tz t) (fun b=>b=true→t.fThreads.length≤1000000∧t.fSlices.length≤60∧t.fStates.length≤200):=by
 unfold tz
 refine aq (Q:=fun b=>b=true→t.fThreads.length≤1000000∧t.fSlices.length≤60∧t.fStates.length≤200) ?_ (fun b hb=>bK hb)
 refine bQ (fun h=>?_) (fun _=>bK (by simp))
 refine bQ (fun h2=>?_) (fun _=>bK (by simp))
 refine bQ (fun h3=>?_) (fun _=>bK (by simp))
 have:t.fThreads.length≤1000000∧t.fSlices.length≤60∧t.fStates.length≤200:=by omega
 refine Ok.mono (P:=Yes) ?_ (fun _ _ _=>this)
 repeat' (first | (with_reducible first | exact cX | exact bW | exact cJ | refine bX (fun _=>?_) fun _=>?_ | refine bQ (fun _=>?_) fun _=>?_ | refine c8 (fun _=>?_) fun _=>?_ | refine bJ (fun _=>?_) fun _=>?_) | (with_reducible refine cQ ?_ ?_ ?_<;>(first | assumption | omega | rw[ax]<;>omega)) | with_reducible refine aq (cj (by(first | assumption | omega | rw[ax]<;>omega)) (by(first | assumption | omega | rw[ax]<;>omega))) (fun _ _=>?_) | (with_reducible refine aq (Q:=Yes) ?_ fun _ _=>?_) | dsimp only)
theorem Q5(l:List ByteArray)(hl:l.length≤9223372036854775807):ij l=some l.reverse:=by
 have:Ok (ij l) (fun r=>r=l.reverse):=by
  unfold ij
  rw[show w64 ((l.length:Int)-1)=(l.length:Int)-1 from ax (by omega)]
  refine A8 (fun s:List ByteArray×Int×Int=>0≤s.2.1∧s.2.1+s.2.2=(l.length:Int)-1∧s.2.1≤s.2.2+1∧s.1.length=l.length∧∀k:Nat,k<l.length→s.1[k]? = if(k:Int)<s.2.1∨s.2.2<(k:Int)then l[l.length-1-k]? else l[k]?) (fun s=>(s.2.2+1).toNat) (fun s hs=>?_) ⟨by simp,by simp,by simp,by simp,fun k hk=>?_⟩ (by simp[gz];omega)
  ·obtain⟨c,i,j⟩:=s
   obtain⟨h1,h2,h3,h4,h5⟩:=hs
   simp only at h1 h2 h3 h4 h5
   unfold mY
   dsimp only
   refine bQ (fun hi=>?_) (fun hi=>d8 ?_)
   ·refine aq (cj (by omega) (by omega)) (fun y hy=>?_)
    refine aq (cj (by omega) (by omega)) (fun z hz=>?_)
    refine aq (Q:=Yes) (cj (by omega) (by omega)).yes (fun _ _=>?_)
    refine aq (Q:=Yes) (cj (by omega) (by simp;omega)).yes (fun _ _=>?_)
    rw[show w64 (i+1)=i+1 from ax (by omega),show w64 (j-1)=j-1 from ax (by omega)]
    refine jQ ⟨⟨by simp;omega,by simp;omega,by simp;omega,by simp;omega,fun k hk=>?_⟩,by simp;omega⟩
    simp only[List.getElem?_set,List.length_set]
    have hy':=h5 j.toNat (by omega)
    have hz':=h5 i.toNat (by omega)
    rw[hy,if_neg (by omega)]at hy'
    rw[hz,if_neg (by omega)]at hz'
    by_cases e1:j.toNat=k
    ·rw[if_pos e1,if_pos (by omega),if_pos (by omega),hz']
     congr 1;omega
    ·rw[if_neg e1]
     by_cases e2:i.toNat=k
     ·rw[if_pos e2,if_pos (by omega),if_pos (by omega),hy']
      congr 1;omega
     ·rw[if_neg e2,h5 k hk]
      by_cases e3:(k:Int)<i∨j<(k:Int)
      ·rw[if_pos e3,if_pos (by omega)]
      ·rw[if_neg e3,if_neg (by omega)]
   ·apply List.ext_getElem?
    intro k
    by_cases hk:k<l.length
    ·rw[h5 k hk,List.getElem?_reverse hk]
     split
     ·rfl
     ·congr 1;omega
    ·rw[List.getElem?_eq_none (by omega),List.getElem?_eq_none (by simp;omega)]
  ·simp only
   rw[if_neg (by omega)]
 obtain⟨r,h1,h2⟩:=this
 rw[h1,h2]
def ajW(l:List aK)(i:Nat)(y:aK):Prop :=
 (y.fParent = -1∧y.fDepth=0)∨∃p z,y.fParent=((p:Nat):Int)∧p<i∧l[p]? = some z∧z.fThread=y.fThread∧z.fSpan.fFrom≤y.fSpan.fFrom∧y.fSpan.fTo≤z.fSpan.fTo∧y.fDepth=w64 (z.fDepth+1)
def Nest(l:List aK):Prop:=∀(i:Nat) y,l[i]? = some y→ajW l i y
theorem aOK(l:List aK)(h:l.length≤9223372036854775807):Ok (uV l) (fun b=>b=true→Nest l):=by
 unfold uV
 refine eW (Q:=oZ (fun _=>Nest l) (fun b=>b=false)) (Q7 l.length (fun n=>∀(k:Nat) y,k<n→l[k]? = some y→ajW l k y) h (by intro k y hk;omega) (fun i hI h2=>?_)) (fun _ hq=>bK (fun _=>hq)) (fun r hr=>bK (fun e=>?_))
 ·unfold n6
  refine bQ (fun hi=>?_) (fun hi=>d8 (fun k y hy=>hI k y (by have:=dJ hy;omega) hy))
  refine aq (DK (by omega)) (fun y hy=>?_)
  have no:oZ (fun _:Unit=>Nest l) (fun b=>b=false) (.inr false):=rfl
  have nx:ajW l i y→Ok (some (.inl (w64 ((i:Int)+1)))) (oZ (fun a=>i<l.length∧a=((i+1:Nat):Int)∧∀(k:Nat) y,k<i+1→l[k]? = some y→ajW l k y) (oZ (fun _:Unit=>Nest l) (fun b=>b=false))):=by
   intro hn
   rw[Jz (n:=l.length) (by omega) h]
   refine jQ ⟨by omega,rfl,fun k z hk hz=>?_⟩
   by_cases e:k=i
   ·subst e;rw[hy]at hz;cases hz;exact hn
   ·exact hI k z (by omega) hz
  refine aq (Q:=fun v=>v=false→-1≤y.fParent∧y.fParent<i) ?_ (fun v hv=>?_)
  ·refine bQ (fun _=>bK (by simp)) (fun h3=>bK (fun h4=>?_))
   have:=of_decide_eq_false h4
   omega
  refine bJ (fun _=>d8 no) (fun h0=>?_)
  have hp:=hv h0
  refine bQ (fun e1=>?_) (fun hne=>?_)
  ·refine bX (fun _=>d8 no) (fun e2=>nx (.inl ⟨e1,e2⟩))
  ·obtain⟨p,hpe⟩:=Int.eq_ofNat_of_zero_le (show 0≤y.fParent by omega)
   rw[hpe]
   refine aq (DK (by omega)) (fun z hz=>?_)
   refine aq (Q:=fun v=>v=false→z.fThread=y.fThread∧z.fSpan.fFrom≤y.fSpan.fFrom∧y.fSpan.fTo≤z.fSpan.fTo∧y.fDepth=w64 (z.fDepth+1)) ?_ (fun v hv=>?_)
   ·refine bX (fun _=>bK (by simp)) (fun g1=>?_)
    refine bQ (fun _=>bK (by simp)) (fun g2=>?_)
    refine bQ (fun _=>bK (by simp)) (fun g3=>bK (fun g4=>?_))
    exact⟨g1,by omega,by omega,by simpa using g4⟩
   refine bJ (fun _=>d8 no) (fun e=>nx (.inr ⟨p,z,hpe,by omega,hz,hv e⟩))
 ·have:r=false:=hr
  simp[this]at e
theorem Nest.up{l:List aK}(h:Nest l):Up l l.length:=by
 intro j y hj hy
 rcases h j y hy with⟨e,_⟩ | ⟨p,z,e,hp,_⟩<;>omega
theorem Nest.depth{l:List aK}(h:Nest l)(hl:l.length≤1000):∀(i:Nat) y,l[i]? = some y→0≤y.fDepth∧y.fDepth≤i:=by
 intro i
 induction i using Nat.strongRecOn with
 | _ i ih =>
  intro y hy
  have:=dJ hy
  rcases h i y hy with⟨_,e⟩ | ⟨p,z,e,hp,hz,_,_,_,hd⟩
  ·omega
  ·have h1:=ih p hp z hz
   rw[ax (by omega)]at hd
   omega
inductive PathR(l:List aK):Int→List ByteArray→Prop
 | out {i:Int}:i<0→PathR l i []
 | up {i:Nat} {y:aK} {p:List ByteArray}:l[i]? = some y→PathR l y.fParent p→PathR l (i:Int) (p++[y.fName])
theorem PathR.inv{l:List aK}{a:Int}{k:Nat}{y:aK}{p:List ByteArray}(h:PathR l a p)(ha:a=(k:Int))(hy:l[k]? = some y):∃q,PathR l y.fParent q∧p=q++[y.fName]:=by
 cases h with
 | out h=>omega
 | @up i z q hz hq =>
  have:i=k:=by omega
  subst this
  rw[hy]at hz;cases hz
  exact⟨q,hq,rfl⟩
theorem PathR.uni{l:List aK}{i:Int}{p:List ByteArray}(h1:PathR l i p):∀ {q:List ByteArray},PathR l i q→p=q:=by
 induction h1 with
 | @out i h0=>intro q h2;cases h2 with
  | out _=>rfl
  | up=>omega
 | @up k y p hy _ ih =>
  intro q h2
  obtain⟨q',h3,rfl⟩:=h2.inv rfl hy
  rw[ih h3]
theorem Nest.path{l:List aK}(h:Nest l)(hl:l.length≤1000):∀(i:Nat) y,l[i]? = some y→∃p,PathR l (i:Int) p∧(p.length:Int)=y.fDepth+1:=by
 intro i
 induction i using Nat.strongRecOn with
 | _ i ih =>
  intro y hy
  rcases h i y hy with⟨e0,e⟩ | ⟨p,z,e,hp,hz,_,_,_,hd⟩
  ·exact⟨[]++[y.fName],.up hy (.out (by omega)),by simp[e]⟩
  ·obtain⟨q,h1,h2⟩:=ih p hp z hz
   have h3:=h.depth hl p z hz
   have:=dJ hy
   rw[ax (by omega)]at hd
   refine⟨q++[y.fName],.up hy (by rw[e];exact h1),by simp;omega⟩
theorem aJq(l:List aK)(h:Nest l)(hl:l.length≤1000){i:Int}(hi:i<l.length){p:List ByteArray}(hp:PathR l i p):A3 l i=some p:=by
 unfold A3
 by_cases h0:i<0
 ·cases hp with
  | out _=>simp[h0]
  | up=>omega
 ·have h1 : ¬(l.length:Int)≤i:=by omega
  simp only[h0,h1,decide_false,cond_false,Option.bind_some]
  have:Ok (loop (E0 l) (i,[],0)) (fun r=>r=p.reverse):=by
   refine A8 (fun s:Int×List ByteArray×Int=>s.1<l.length∧-1≤s.1∧s.2.2=s.2.1.length∧s.2.2+s.1≤l.length∧∃q,PathR l s.1 q∧p.reverse=s.2.1++q.reverse) (fun s=>(s.1+1).toNat) (fun s hs=>?_) ⟨hi,by simp only;omega,by simp,by simp only;omega,p,hp,by simp⟩ (by simp[gz];omega)
   obtain⟨a,c,n⟩:=s
   obtain⟨g1,g2,g3,g4,q,g5,g6⟩:=hs
   simp only at g1 g2 g3 g4 g5 g6
   unfold E0
   dsimp only
   refine aq (Q:=fun v=>v=decide (0≤a)) ?_ (fun v hv=>?_)
   ·refine bQ (fun k1=>?_) (fun k1=>bK (by simp[k1]))
    refine bQ (fun k2=>bK ?_) (fun k2=>by omega)
    have:n≤l.length:=by omega
    simp[k1,this]
   subst hv
   refine bQ (fun k1=>?_) (fun k1=>d8 ?_)
   ·obtain⟨k,rfl⟩:=Int.eq_ofNat_of_zero_le k1
    refine aq (DK (by omega)) (fun y hy=>?_)
    rw[Gz (by simp;omega) (by simp;omega)]
    simp only[cond_true]
    refine aq (DK (by omega)) (fun y' hy'=>?_)
    rw[hy]at hy';cases hy'
    rw[ax (by omega)]
    have hnext : -1≤y.fParent∧y.fParent<k:=by
     rcases h k y hy with⟨e,_⟩ | ⟨p',z,e,hp',_⟩<;>omega
    refine jQ ⟨⟨by simp only;omega,by simp only;omega,by simp only[ow,List.length_cons,List.length_nil];omega,by simp only;omega,?_⟩,by simp only;omega⟩
    obtain⟨q2,hq2,rfl⟩:=g5.inv rfl hy
    exact⟨q2,hq2,by rw[g6];simp⟩
   ·cases g5 with
    | out _=>simpa using g6.symm
    | up=>omega
  obtain⟨r,hr,e⟩:=this
  subst e
  have hlen:p.length≤9223372036854775807:=by
   obtain⟨k,rfl⟩:=Int.eq_ofNat_of_zero_le (show 0≤i by omega)
   obtain⟨y,hy⟩ : ∃y,l[k]? = some y:=⟨l[k]'(by omega),dw (by omega)⟩
   obtain⟨p',h5,h6⟩:=h.path hl k y hy
   rw[hp.uni h5]
   have:=h.depth hl k y hy
   omega
  rw[hr,Option.bind_some,Q5 _ (by simpa using hlen)]
  simp
theorem aDj{l:List aK}(hu:Up l l.length){i:Int}{p:List ByteArray}(h:PathR l i p):∀n,p.length<n→iK n l i=some p:=by
 induction h with
 | @out i h0 =>
  intro n hn
  obtain⟨m,rfl⟩ : ∃m,n=m+1:=⟨n-1,by omega⟩
  simp[iK,h0]
 | @up i y p hy hp ih =>
  intro n hn
  rw[ow,List.length_singleton]at hn
  obtain⟨m,rfl⟩ : ∃m,n=m+1:=⟨n-1,by omega⟩
  have hlt:=dJ hy
  unfold iK
  have : ¬((i:Int)<0∨(l.length:Int)≤(i:Int)):=by omega
  rw[if_neg this,show((i:Int)).toNat=i from rfl,hy]
  simp only[ih m (by omega),ek]
theorem aHV{l:List Int}(h:l≠[]):∃m,aez l=(m,true)∧m∈l:=by
 have hl:0<l.length:=List.length_pos_iff.2 h
 have hsl:(yJ l).length=l.length:=(xK l).length_eq
 have hq:(qIx l.length).toNat<(yJ l).length:=by unfold qIx;omega
 refine⟨(yJ l)[(qIx l.length).toNat],?_,(xK l).mem_iff.1 (List.getElem_mem hq)⟩
 unfold aez
 rw[dw hq]
theorem ayX(t:aY)(name:ByteArray)(h:t.fSlices.length≤60)(h0:vZ t.fSlices name≠[]):(usu t name).2=true:=by
 obtain⟨m,hm,hmem⟩:=aHV h0
 obtain⟨s0,hs0,hs1⟩:=List.mem_map.1 hmem
 obtain⟨hs2,hs3⟩:=List.mem_filter.1 hs0
 obtain⟨j0,hj0⟩:=List.getElem?_of_mem hs2
 have:Ok (mJ t name) (fun r=>r.2=true):=by
  unfold mJ
  have hcl:=I3 t.fSlices name
  rw[S8 t name h,Option.bind_some,R1 _ (by omega),Option.bind_some,hm]
  simp only[dk,cond_false]
  refine eW (Q:=oZ (fun _=>False) (fun r:Int×Bool=>r.2=true)) (Q7 t.fSlices.length (fun n=>∀(k:Nat) y,k<n→t.fSlices[k]? = some y→¬(isC name y=true∧lenS y=m)) (by omega) (fun k y hk=>by omega) (fun i hI h2=>?_)) (fun _ hq=>hq.elim) (fun r hr=>bK hr)
  unfold nZ
  refine bQ (fun hi=>?_) (fun hi=>d8 (show oZ _ _ (.inl ())from hI j0 s0 (by have:=dJ hj0;omega) hj0 ⟨hs3,hs1⟩))
  obtain⟨y,hiy,hy⟩:=DK (xs:=t.fSlices) (i:=i) (by omega)
  rw[hiy,Option.bind_some]
  refine aq (Q:=fun v=>v=true↔(isC name y=true∧lenS y=m)) ?_ (fun v hv=>?_)
  ·refine bQ (fun h1=>?_) (fun h1=>bK (by simp[isC,h1]))
   refine c8 (fun h3=>?_) (fun h3=>bK (by simp[isC,h3]))
   simp only[iz,Option.bind_some]
   exact bK (by simp[isC,h1,h3,lenS])
  refine bJ (fun e1=>d8 rfl) (fun e1=>?_)
  rw[Jz (n:=t.fSlices.length) (by omega) (by omega)]
  refine jQ ⟨by omega,rfl,fun k z hk hz=>?_⟩
  by_cases e:k=i
  ·subst e;rw[hy]at hz;cases hz
   intro hh;rw[hv.2 hh]at e1;simp at e1
  ·exact hI k z (by omega) hz
 obtain⟨r,h1,h2⟩:=this
 unfold usu
 rw[h1];exact h2
theorem adJ(t:aY)(hz:Siz t)(ht:t.fThreads.length≤1000000){P:Prop}(hs:Ok (qJ t.fSlices) (fun r=>r=0→P)):Ok (sJ t) (fun r=>r=0→P):=by
 unfold sJ
 refine aq (Q:=fun r=>r=0→P) ?_ (fun r hr=>?_)
 ·unfold uj
  refine eW (KW t hz.th hz.nTh) (fun r hr=>?_) (fun r _=>?_)
  ·exact bX (fun h0=>bK (fun e=>absurd e h0)) (fun h0=>absurd h0 hr)
  ·dsimp only
   refine bX (fun h0=>bK (fun e=>absurd e h0)) (fun _=>?_)
   refine aq hs (fun r4 h4=>?_)
   by_cases h40:r4=0
   ·have hd:=h4 h40
    refine aq (z1 _ _ _ hz.sl) (fun r5 _=>?_)
    refine bX (fun h0=>bK (fun e=>absurd e h0)) (fun _=>?_)
    refine aq (H6 _ _ ht hz.st) (fun r6 h6=>?_)
    refine bX (fun h0=>bK (fun e=>absurd e h0)) (fun e6=>?_)
    refine aq (J0 _ hz.fl) (fun r7 _=>?_)
    refine aq (AW _ _ _ hz.fl) (fun r8 _=>?_)
    refine aq (A5 _ _ _ hz.fl) (fun r9 _=>?_)
    refine bX (fun h0=>bK (fun e=>absurd e h0)) (fun _=>?_)
    refine aq (E9 _ hz.sa hz.nSa) (fun r10 _=>?_)
    refine aq (yZ _ _ _ hz.sa) (fun r11 _=>?_)
    refine bX (fun h0=>bK (fun e=>absurd e h0)) (fun _=>?_)
    refine aq (D7 _ hz.sp hz.nSp) (fun r12 _=>?_)
    refine bX (fun h0=>bK (fun e=>absurd e h0)) (fun _=>?_)
    refine aq (FQ _ hz.bl hz.nBl) (fun r13 _=>?_)
    refine aq (z2 _ _ _ hz.bl) (fun r14 _=>?_)
    refine bX (fun h0=>bK (fun e=>absurd e h0)) (fun _=>?_)
    refine aq (Iq _ _ hz.lo) (fun r15 _=>?_)
    exact bK (fun _=>hd)
   ·have:Ok (gZ r4 r.1 t.fSlices) (fun q=>q=r4):=by
     unfold gZ
     exact bX (fun _=>bK rfl) (fun e=>absurd e h40)
    refine aq this (fun r5 h5=>?_)
    subst h5
    exact bX (fun h0=>bK (fun e=>absurd e h0)) (fun e=>absurd e h40)
 ·refine bX (fun h0=>bK (fun e=>absurd e h0)) (fun e=>?_)
  have hd:=hr e
  refine aq (Q:=Yes) (by repeat' (first | (with_reducible first | exact cX | exact bW | exact cJ | refine bX (fun _=>?_) fun _=>?_ | refine bQ (fun _=>?_) fun _=>?_ | refine c8 (fun _=>?_) fun _=>?_ | refine bJ (fun _=>?_) fun _=>?_) | (with_reducible refine cQ ?_ ?_ ?_<;>(first | assumption | omega | rw[ax]<;>omega)) | with_reducible refine aq (cj (by(first | assumption | omega | rw[ax]<;>omega)) (by(first | assumption | omega | rw[ax]<;>omega))) (fun _ _=>?_) | (with_reducible refine aq (Q:=Yes) ?_ fun _ _=>?_) | dsimp only)) (fun v _=>?_)
  refine bJ (fun _=>bK (fun _=>hd)) (fun _=>?_)
  refine aq (KY t hz) (fun v _=>?_)
  exact bJ (fun _=>bK (fun _=>hd)) (fun _=>bK (fun _=>hd))
theorem U4(l:List aK)(h:l.length≤9223372036854775807)(hx:∀x∈l,okN x.fName):Ok (qJ l) (fun r=>r=0→Nest l):=by
 unfold qJ
 refine eW (Q:=oZ (fun _=>True) (fun r=>r≠0)) (Q7 l.length (fun _=>True) h trivial (fun i _ h2=>?_)) (fun _ _=>?_) (fun r hr=>bK (fun e=>absurd e hr))
 ·unfold wj
  refine bQ (fun hi=>?_) (fun hi=>d8 trivial)
  refine aq (DK (by omega)) (fun y hy=>?_)
  refine aq (Q:=Yes) ?_ (fun v _=>?_)
  ·refine bQ (fun _=>cX) (fun _=>?_)
   refine bQ (fun _=>cX) (fun _=>?_)
   exact aq (Nz y.fSpan) (fun b _=>cX)
  refine bJ (fun _=>d8 (show(2:Int)≠0 by omega)) (fun _=>?_)
  refine aq (nW _ (hx _ (fk hy))) (fun r _=>?_)
  refine bX (fun h0=>d8 h0) (fun _=>?_)
  refine aq (Q:=Yes) ?_ (fun v2 _=>?_)
  ·refine bQ (fun h0=>?_) (fun _=>cX)
   rw[show w64 ((i:Int)-1)=(i:Int)-1 from ax (by omega)]
   refine aq (cj (by omega) (by omega)) (fun z _=>?_)
   exact aq (Lz _ _) (fun _ _=>cX)
  refine bJ (fun _=>d8 (show(11:Int)≠0 by omega)) (fun _=>?_)
  rw[Jz (n:=l.length) (by omega) h]
  exact jQ ⟨by omega,rfl,trivial⟩
 ·dsimp only
  refine aq (Q:=fun v=>v=false→Nest l) ?_ (fun v hv=>bJ (fun _=>bK (fun e=>by simp at e)) (fun e=>bK (fun _=>hv e)))
  refine aq (aOK l h) (fun b hb=>?_)
  refine c8 (fun _=>bK (by simp)) (fun e=>?_)
  exact aq (NW l h ((hb e).up)) (fun _ _=>bK (fun _=>hb e))
theorem aSX(l:List aK)(hN:Nest l)(hl:l.length≤900)(i:Int):∃p:List ByteArray,p.length≤1000∧A3 l i=some p∧n3 l i=some p:=by
 by_cases h0:i<0∨(l.length:Int)≤i
 ·refine⟨[],by simp,?_,?_⟩
  ·unfold A3
   by_cases e:i<0
   ·simp[e]
   ·have:(l.length:Int)≤i:=by omega
    simp[e,this]
  ·unfold n3
   rw[show(1000:Nat)=999+1 from rfl]
   unfold iK
   rw[if_pos h0]
 ·obtain⟨k,rfl⟩:=Int.eq_ofNat_of_zero_le (show 0≤i by omega)
  have hk:k<l.length:=by omega
  obtain⟨y,hy⟩ : ∃y,l[k]? = some y:=⟨l[k],dw hk⟩
  obtain⟨p,hp,hlen⟩:=hN.path (by omega) k y hy
  have hd:=hN.depth (by omega) k y hy
  exact⟨p,by omega,aJq l hN (by omega) (by omega) hp,aDj hN.up hp 1000 (by omega)⟩
def Qz(x:Int):Prop:=-9223372036854775808≤x∧x≤9223372036854775807
theorem aLQ(a:Int):Qz (w64 a):=by
 have e:(2:Int) ^ (64:Nat)=18446744073709551616:=by decide
 have e2:(2:Int) ^ (64-1:Nat)=9223372036854775808:=by decide
 unfold Qz
 simp only[IntKind.wrap,IntKind.bits,IntKind.signed,e,e2,Bool.true_and,decide_eq_true_eq]
 split<;>omega
theorem a1V{a b:Int}(ha:Qz a)(hb:Qz b):decide (w64 (a-b)=0)=decide (a=b):=by
 have e:(2:Int) ^ (64:Nat)=18446744073709551616:=by decide
 have e2:(2:Int) ^ (64-1:Nat)=9223372036854775808:=by decide
 unfold Qz at ha hb
 refine decide_eq_decide.2 ?_
 simp only[IntKind.wrap,IntKind.bits,IntKind.signed,e,e2,Bool.true_and,decide_eq_true_eq]
 split<;>omega
theorem aKK(l:List cZ)(a b:Int)(p:bZ)(h:l.length≤9223372036854775807):Ok (xQ l a b p) Qz:=by
 unfold xQ
 rw[A7,Option.bind_some]
 refine c8 (fun _=>bK ⟨by omega,by omega⟩) (fun _=>?_)
 refine aq (Q:=Qz) (S5 l.length (fun a _=>Qz a) h ⟨by omega,by omega⟩ (fun a i ha h2=>?_)) (fun _ hr=>bK hr)
 unfold wW
 dsimp only
 refine bQ (fun hi=>?_) (fun _=>d8 ha)
 refine aq (Q:=Qz) ?_ (fun v hv=>?_)
 ·refine aq (DK (by omega)) (fun y _=>?_)
  refine aq (Q:=Yes) (by repeat' (first | (with_reducible first | exact cX | exact bW | exact cJ | refine bX (fun _=>?_) fun _=>?_ | refine bQ (fun _=>?_) fun _=>?_ | refine c8 (fun _=>?_) fun _=>?_ | refine bJ (fun _=>?_) fun _=>?_) | (with_reducible refine cQ ?_ ?_ ?_<;>(first | assumption | omega | rw[ax]<;>omega)) | with_reducible refine aq (cj (by(first | assumption | omega | rw[ax]<;>omega)) (by(first | assumption | omega | rw[ax]<;>omega))) (fun _ _=>?_) | (with_reducible refine aq (Q:=Yes) ?_ fun _ _=>?_) | dsimp only)) (fun v _=>?_)
  exact bJ (fun _=>bK (aLQ _)) (fun _=>bK ha)
 ·rw[Jz (n:=l.length) (by omega) h]
  exact jQ ⟨by omega,rfl,hv⟩
theorem aux(t:aY)(s:aK)(h:t.fStates.length≤9223372036854775807):Ok (m8 t s) (fun r=>r.length=6∧∀x∈r,Qz x):=by
 unfold m8 iz
 rw[Option.bind_some,show mkB 8 6=true from by rfl]
 simp only[cond_true]
 refine aq (Q:=fun r=>r.2.length=6∧∀x∈r.2,Qz x) (A8 (fun s:Int×List Int×Int=>0≤s.2.2∧s.2.2≤6∧(s.2.1.length:Int)=s.2.2∧∀x∈s.2.1,Qz x) (fun s=>(6-s.2.2).toNat) (fun s hs=>?_) ⟨by simp,by simp,by simp,by simp⟩ (by simp[gz])) (fun r hr=>?_)
 ·obtain⟨a,l,i⟩:=s
  obtain⟨h1,h2,h3,h4⟩:=hs
  simp only at h1 h2 h3 h4
  unfold n4
  dsimp only
  refine bQ (fun hi=>?_) (fun _=>d8 ⟨by simp;omega,h4⟩)
  refine aq (aKK _ _ _ _ h) (fun r hr=>?_)
  rw[Gz (by simp;omega) (by simp;omega),show w64 (i+1)=i+1 from ax (by omega)]
  refine jQ ⟨⟨by(first | omega | (simp;omega)),by(first | omega | (simp;omega)),by(first | omega | (simp;omega)),fun x hx=>?_⟩,by(first | omega | (simp;omega))⟩
  rcases nw.1 hx with g | g
  ·exact h4 x g
  ·simp at g;subst g;exact hr
 ·obtain⟨a,l⟩:=r
  obtain⟨hr,h4⟩:=hr
  simp only at hr h4
  dsimp only
  refine aq (cj (by omega) (by omega)) (fun y _=>?_)
  refine aq (cj (by omega) (by omega)) (fun z _=>?_)
  refine bK ⟨by simp[hr],fun x hx=>?_⟩
  rcases List.mem_or_eq_of_mem_set hx with g | g
  ·exact h4 x g
  ·subst g;exact aLQ _
def namesS:List ByteArray:=[⟨#[114,101,97,100,121]⟩,⟨#[97,115,108,101,101,112]⟩,⟨#[98,108,111,99,107,101,100]⟩,⟨#[103,111,110,101]⟩,⟨#[114,117,110,110,105,110,103]⟩,⟨#[117,110,107,110,111,119,110]⟩]
theorem M7{α:Type}{xs:List α}{k:Nat}{x:α}(h:xs[k]? = some x):idx xs (k:Int)=some x:=by rw[j4];exact h
def QX(p:List ByteArray)(c:ByteArray)(x w:Int)(a:List fV):List fV:=if x=w then a else a++[{fPath:=p,fCause:=c,fValue:={fN:=w64 (x-w),fD:=1} }]
theorem ahZ(p:List ByteArray)(c:ByteArray)(x w:Int)(a:List fV):(QX p c x w a).length≤a.length+1:=by
 unfold QX;split<;>simp
theorem auZ(t:aY)(i:Int)(r2 r4:List Int){p:List ByteArray}(hp:A3 t.fSlices i=some p){k:Nat}{a:List fV}{x w:Int}{c:ByteArray}(hk:k<6)(ha:a.length≤6)(hx:r2[k]? = some x)(hw:r4[k]? = some w)(hc:namesS[k]? = some c)(gx:Qz x)(gw:Qz w) :
  jJ t i r2 r4 namesS (a,(k:Int))=some (.inl (QX p c x w a,((k+1:Nat):Int))):=by
 unfold jJ
 dsimp only
 have h1:decide ((k:Int)<(namesS.length:Int))=true:=decide_eq_true (by show(k:Int)<6;omega)
 rw[h1,cond_true,M7 hc,Option.bind_some,M7 hx,Option.bind_some,M7 hw,Option.bind_some,a1V gx gw,Jz (n:=6) hk (by omega)]
 unfold QX
 by_cases e:x=w
 ·simp only[e,decide_true,dk,cond_false,Option.bind_some,ik]
 ·simp only[e,decide_false,fw,cond_true,ck,hp,Option.bind_some]
  rw[Gz (by simp;omega) (by simp;omega)]
  rfl
theorem aWW(t:aY)(i:Int)(r2 r4:List Int){p:List ByteArray}(hp:n3 t.fSlices i=some p){k:Nat}{a:List fV}{x w:Int}{c:ByteArray}(hk:k<6)(ha:a.length≤6)(hx:r2[k]? = some x)(hw:r4[k]? = some w)(hc:namesS[k]? = some c) :
  m4 t i r2 r4 (a,(k:Int))=some (.inl (QX p c x w a,((k+1:Nat):Int))):=by
 have e0:m4 t i r2 r4 (a,(k:Int))=(bif (decide ((k:Int)<(List.length namesS:Int)))then((((idx r2 k).bind fun y250=>((idx r4 k).bind fun y251=>(bif (!decide (y250=y251))then((n3 t.fSlices i).bind fun r252=>((idx namesS k).bind fun y253=>((idx r2 k).bind fun y254=>((idx r4 k).bind fun y255=>(bif KV 56 (List.length a+List.length [({fPath:=r252,fCause:=y253,fValue:=({fN:=(w64 (y254-y255)),fD:=1}:wY)}:fV)])then some (a++[({fPath:=r252,fCause:=y253,fValue:=({fN:=(w64 (y254-y255)),fD:=1}:wY)}:fV)])else none)))))else some a))):Option (List fV)).bind fun v249=>some (.inl (v249,(w64 ((k:Int)+1)))))else some (.inr a)):=rfl
 rw[e0]
 have h1:decide ((k:Int)<(namesS.length:Int))=true:=decide_eq_true (by show(k:Int)<6;omega)
 rw[h1,cond_true,M7 hc,M7 hx,Option.bind_some,M7 hw,Option.bind_some,Jz (n:=6) hk (by omega)]
 unfold QX
 by_cases e:x=w
 ·simp only[e,decide_true,dk,cond_false,Option.bind_some,ik]
 ·simp only[e,decide_false,fw,cond_true,ck,hp,Option.bind_some]
  rw[Gz (by simp;omega) (by simp;omega)]
  rfl
def ZW(a:List fV):Prop:=a.length≤6∧∀x∈a,x.fPath.length≤1000
theorem aPK(t:aY)(i u:Nat){y z:aK}(hy:t.fSlices[i]? = some y)(hz:t.fSlices[u]? = some z)(hN:Nest t.fSlices)(hl:t.fSlices.length≤60)(hst:t.fStates.length≤200)(hv:∀(j:Nat) s,t.fStates[j]? = some s→0≤s.fSpan.fFrom∧s.fSpan.fFrom<s.fSpan.fTo∧s.fSpan.fTo≤1000000000000) :
  ∃l,ZW l∧w5 t i u=some l∧∃r2 r4,j3 t i=some r2∧j3 t u=some r4∧loop (m4 t i r2 r4) ([],0)=some l:=by
 obtain⟨r2,e2,l2,g2⟩:=aux t y (by omega)
 obtain⟨r4,e4,l4,g4⟩:=aux t z (by omega)
 obtain⟨p,hp,q1,q2⟩:=aSX t.fSlices hN (by omega) i
 have hx:∀k:Nat,k<6→∃x w c,r2[k]? = some x∧r4[k]? = some w∧namesS[k]? = some c∧Qz x∧Qz w:=fun k hk=>by
  have h2:k<r2.length:=by omega
  have h4:k<r4.length:=by omega
  have h6:k<namesS.length:=hk
  exact⟨r2[k],r4[k],namesS[k],dw h2,dw h4,dw h6,g2 _ (List.getElem_mem h2),g4 _ (List.getElem_mem h4)⟩
 have h6:decide (((6:Nat):Int)<(namesS.length:Int))=false:=rfl
 have grow:∀(a:List fV) (k:Nat) c x w,a.length≤k∧(∀q∈a,q.fPath.length≤1000)→(QX p c x w a).length≤k+1∧∀q∈QX p c x w a,q.fPath.length≤1000:=by
  intro a k c x w ⟨h1,h2⟩
  refine⟨by have:=ahZ p c x w a;omega,?_⟩
  unfold QX
  split
  ·exact h2
  ·intro q hq
   rcases nw.1 hq with g | g
   ·exact h2 q g
   ·simp at g;subst g;exact hp
 have run:Ok (loop (jJ t i r2 r4 namesS) ([],0)) ZW:=by
  refine S5 6 (fun a n=>a.length≤n∧∀x∈a,x.fPath.length≤1000) (by omega) ⟨by simp,by simp⟩ (fun a k hI hk=>?_)
  by_cases h:k<6
  ·obtain⟨x,w,c,hx,hw,hc,gx,gw⟩:=hx k h
   rw[auZ t i r2 r4 q1 h (by omega) hx hw hc gx gw]
   exact jQ ⟨h,rfl,grow a k c x w hI⟩
  ·obtain rfl:k=6:=by omega
   unfold jJ
   dsimp only
   rw[h6,cond_false]
   exact d8 hI
 have same:loop (jJ t i r2 r4 namesS) ([],0)=loop (m4 t i r2 r4) ([],0):=by
  refine D2 6 (fun a n=>(a.length:Int)≤n) (by simp) (fun a k hI h0 hk=>?_) (fun a k hI h0 hk=>?_)
  ·obtain⟨k,rfl⟩:=Int.eq_ofNat_of_zero_le h0
   by_cases h:k<6
   ·obtain⟨x,w,c,hx,hw,hc,gx,gw⟩:=hx k h
    rw[auZ t i r2 r4 q1 h (by omega) hx hw hc gx gw]
    exact jQ ⟨by omega,by simp,show((QX p c x w a).length:Int)≤(k:Int)+1 by have:=ahZ p c x w a;omega⟩
   ·obtain rfl:k=6:=by omega
    unfold jJ
    dsimp only
    rw[h6,cond_false]
    exact bW
  ·obtain⟨k,rfl⟩:=Int.eq_ofNat_of_zero_le h0
   by_cases h:k<6
   ·obtain⟨x,w,c,hx,hw,hc,gx,gw⟩:=hx k h
    rw[auZ t i r2 r4 q1 h (by omega) hx hw hc gx gw,aWW t i r2 r4 q2 h (by omega) hx hw hc]
   ·obtain rfl:k=6:=by omega
    rfl
 obtain⟨l,h1,h2⟩:=run
 refine⟨l,h2,?_,r2,r4,?_,?_,by rw[←same];exact h1⟩
 ·unfold w5 C9
  rw[M7 hy,Option.bind_some,e2,Option.bind_some,M7 hz,Option.bind_some,e4,Option.bind_some,Option.bind_some]
  show(loop (jJ t i r2 r4 namesS) ([],0)).bind _=_
  rw[h1];rfl
 ·rw[atJ t i y (M7 hy) hst hv,e2]
 ·rw[atJ t u z (M7 hz) hst hv,e4]
def ayj(a:List eK)(n:Nat):Prop:=a.length≤n∧∀o∈a,ZW o.fParts
theorem aKQ(t:aY)(k n:Int)(hN:Nest t.fSlices)(hl:t.fSlices.length≤60)(hst:t.fStates.length≤200)(hv:∀(j:Nat) s,t.fStates[j]? = some s→0≤s.fSpan.fFrom∧s.fSpan.fFrom<s.fSpan.fTo∧s.fSpan.fTo≤1000000000000)
  {i:Nat} (hi:i<t.fSlices.length) {a:List eK} (ha:ayj a i):∃b,ayj b (i+1)∧pQ t k n (a,(i:Int))=some (.inl (b,((i+1:Nat):Int)))∧m6 t k n (a,(i:Int))=some (.inl (b,((i+1:Nat):Int))):=by
 obtain⟨y,hy⟩ : ∃y,t.fSlices[i]? = some y:=⟨_,dw hi⟩
 unfold pQ m6
 dsimp only
 have h1:decide ((i:Int)<(t.fSlices.length:Int))=true:=decide_eq_true (by omega)
 rw[h1,cond_true,cond_true,M7 hy,Option.bind_some,Option.bind_some,acZ,S8 t _ hl,Jz (n:=t.fSlices.length) hi (by omega),Option.bind_some,aPJ t _ hl,(akQ t _ hl).1]
 have stay:ayj a (i+1):=⟨by have:=ha.1;omega,ha.2⟩
 by_cases ho:y.fOpen=true
 ·exact⟨a,stay,by simp[ho],by simp[ho]⟩
 rw[Bool.not_eq_true]at ho
 by_cases hc:((vZ t.fSlices y.fName).length:Int)<3
 ·exact⟨a,stay,by simp[ho,hc],by simp[ho,hc]⟩
 have hu:(usu t y.fName).2=true:=ayX t y.fName hl (fun e=>by rw[e]at hc;simp at hc)
 obtain⟨ur,z,hz,_⟩:=(akQ t y.fName hl).2 hu
 generalize (usu t y.fName)=U at *
 obtain⟨u,ub⟩:=U
 simp only at hu ur hz
 subst hu
 obtain⟨u,rfl⟩:=Int.eq_ofNat_of_zero_le ur.1
 rw[show((u:Int)).toNat=u from rfl]at hz
 obtain⟨l,hs,e1,r2,r4,e2,e3,e4⟩:=aPK t i u hy hz hN hl hst hv
 simp only[ho,hc,cond_false,decide_false,Option.bind_some,dk,ik,M7 hz,iz,e1,e2,e3,e4]
 by_cases hd:w64 (k*w64 (z.fSpan.fTo-z.fSpan.fFrom))<w64 (n*w64 (y.fSpan.fTo-y.fSpan.fFrom))
 ·have hd2 : ¬w64 (n*w64 (y.fSpan.fTo-y.fSpan.fFrom))≤w64 (k*w64 (z.fSpan.fTo-z.fSpan.fFrom)):=by omega
  have h2:=ha.1
  simp only[hd,hd2,decide_true,decide_false,cond_true,cond_false]
  rw[Gz (by simp;omega) (by simp;omega)]
  refine⟨_,⟨?_,?_⟩,rfl,rfl⟩
  ·simp;omega
  ·intro o hom
   rcases nw.1 hom with g | g
   ·exact ha.2 o g
   ·simp at g;subst g;exact hs
 ·have hd2:w64 (n*w64 (y.fSpan.fTo-y.fSpan.fFrom))≤w64 (k*w64 (z.fSpan.fTo-z.fSpan.fFrom)):=by omega
  simp only[hd,hd2,decide_true,decide_false,cond_true,cond_false,Option.bind_some]
  exact⟨a,stay,rfl,rfl⟩
theorem a1J(t:aY)(k n:Int)(hz:Siz t)(ht:t.fThreads.length≤1000000)(hl:t.fSlices.length≤60)(hst:t.fStates.length≤200):∃r,ayj r.1 60∧z8 t k n=some r∧uX t k n=some r:=by
 obtain⟨r1,e1,g1⟩:=acq t hz ht
 obtain⟨r1',e1',g2⟩:=adJ t hz ht (U4 t.fSlices hz.sl hz.nSl)
 rw[e1]at e1';cases e1'
 unfold z8 uX
 rw[←aaK t hz ht,e1,Option.bind_some,Option.bind_some]
 by_cases h0:r1=0
 ·subst h0
  have hv:∀(j:Nat) s,t.fStates[j]? = some s→0≤s.fSpan.fFrom∧s.fSpan.fFrom<s.fSpan.fTo∧s.fSpan.fTo≤1000000000000:=fun j s hj=>(g1 rfl).2 j s (by have:=dJ hj;omega) hj
  have hN:=g2 rfl
  have run:Ok (loop (pQ t k n) ([],0)) (fun r=>ayj r 60):=by
   refine S5 t.fSlices.length ayj (by omega) ⟨by simp,by simp⟩ (fun a i hI hi=>?_)
   by_cases h:i<t.fSlices.length
   ·obtain⟨b,hb,q1,q2⟩:=aKQ t k n hN hl hst hv h hI
    rw[q1]
    exact jQ ⟨h,rfl,hb⟩
   ·unfold pQ
    dsimp only
    rw[decide_eq_false (by omega),cond_false]
    exact d8 ⟨by have:=hI.1;omega,hI.2⟩
  have same:loop (pQ t k n) ([],0)=loop (m6 t k n) ([],0):=by
   refine D2 t.fSlices.length (fun a i=>ayj a i.toNat) ⟨by simp,by simp⟩ (fun a i hI h0 hi=>?_) (fun a i hI h0 hi=>?_)
   ·obtain⟨i,rfl⟩:=Int.eq_ofNat_of_zero_le h0
    by_cases h:i<t.fSlices.length
    ·obtain⟨b,hb,q1,q2⟩:=aKQ t k n hN hl hst hv h hI
     rw[q1]
     exact jQ ⟨by omega,by simp,hb⟩
    ·unfold pQ
     dsimp only
     rw[decide_eq_false (by omega),cond_false]
     exact bW
   ·obtain⟨i,rfl⟩:=Int.eq_ofNat_of_zero_le h0
    by_cases h:i<t.fSlices.length
    ·obtain⟨b,hb,q1,q2⟩:=aKQ t k n hN hl hst hv h hI
     rw[q1,q2]
    ·unfold pQ m6
     dsimp only
     rw[decide_eq_false (by omega),cond_false,cond_false]
  obtain⟨l,hl1,hl2⟩:=run
  rw[←same,hl1]
  have em:∀x:eK,x∈([]:List eK)→ZW x.fParts:=by simp
  by_cases c1:n<1
  ·exact⟨([],1),⟨by simp,em⟩,by simp[c1],by simp[c1]⟩
  by_cases c2:k<n
  ·exact⟨([],1),⟨by simp,em⟩,by simp[c1,c2],by simp[c1,c2]⟩
  by_cases c3:1000<k
  ·exact⟨([],1),⟨by simp,em⟩,by simp[c1,c2,c3],by simp[c1,c2,c3]⟩
  exact⟨(l,0),hl2,by simp[c1,c2,c3],by simp[c1,c2,c3]⟩
 ·exact⟨([],r1),⟨by simp,by simp⟩,by simp[h0],by simp[h0]⟩
theorem aQq(p:List ByteArray)(h:p.length≤1000):oQ p p=some true:=by
 have:Ok (loop (pK p p) 0) (fun q=>q = .inl ()):=by
  refine Q7 p.length (fun _=>True) (by omega) trivial (fun i _ h2=>?_)
  unfold pK
  refine bQ (fun hi=>?_) (fun _=>d8 rfl)
  obtain⟨y,hiy,hy⟩:=DK (xs:=p) (i:=i) (by omega)
  rw[hiy,Option.bind_some,Option.bind_some]
  refine bX (fun hne=>absurd rfl hne) (fun _=>?_)
  rw[Jz (n:=p.length) (by omega) (by omega)]
  exact jQ ⟨by omega,rfl,trivial⟩
 obtain⟨q,h1,rfl⟩:=this
 unfold oQ
 rw[h1,decide_eq_false (by omega)];rfl
theorem aWz(p:List fV)(h:ZW p):rV p p=some true:=by
 have:Ok (loop (sj p p) 0) (fun q=>q = .inl ()):=by
  have hl:=h.1
  refine Q7 p.length (fun _=>True) (by omega) trivial (fun i _ h2=>?_)
  unfold sj
  refine bQ (fun hi=>?_) (fun _=>d8 rfl)
  obtain⟨y,hiy,hy⟩:=DK (xs:=p) (i:=i) (by omega)
  simp only[hiy,Option.bind_some,decide_true,dk,cond_false,aQq _ (h.2 y (fk hy)),Bool.and_self,bne_self_eq_false]
  rw[Jz (n:=p.length) (by omega) (by omega)]
  exact jQ ⟨by omega,rfl,trivial⟩
 obtain⟨q,h1,rfl⟩:=this
 unfold rV
 rw[h1];simp
theorem anomalyOf_holds(t:aY)(k n:Int)(h:uW t):i9 t k n=some true:=by
 have hz:=aXW h
 unfold i9
 rw[aQK]
 obtain⟨b,h1,h2⟩:=a0J t
 rw[h1,Option.bind_some]
 cases b with
 | false=>rfl
 | true =>
  obtain⟨ht,hs,hst⟩:=h2 rfl
  obtain⟨r,hr,e1,e2⟩:=a1J t k n hz ht hs hst
  have:Ok (loop (nV r r) 0) (fun q=>q = .inl ()):=by
   have hl:=hr.1
   refine Q7 r.1.length (fun _=>True) (by omega) trivial (fun i _ h2=>?_)
   unfold nV
   refine bQ (fun hi=>?_) (fun _=>d8 rfl)
   obtain⟨y,hiy,hy⟩:=DK (xs:=r.1) (i:=i) (by omega)
   simp only[hiy,Option.bind_some,decide_true,dk,cond_false,aWz _ (hr.2 y (fk hy))]
   rw[Jz (n:=r.1.length) (by omega) (by omega)]
   exact jQ ⟨by omega,rfl,trivial⟩
  obtain⟨q,h3,rfl⟩:=this
  simp only[dk,cond_false,e1,e2,Option.bind_some,decide_true,h3]
end Go.VM
