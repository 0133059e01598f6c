/- The law holds: plain mathematics on what the functions compute. -/
import Derived.Test.YtliccamocpglcabL51B
namespace Go.VM
def fZ {α ρ:Type} (g:Nat→α→Option ρ):List α→Nat→Option ρ
 | [],_=>none
 | y :: ys,i=>match g i y with
  | some r=>some r
  | none=>fZ g ys (i + 1)
theorem x9 {α ρ:Type} {g:Nat→α→Option ρ}:∀ {xs:List α} {i:Nat},fZ g xs i = none↔∀ j y,xs[j]? = some y→g (i + j) y = none
 | [],i=>by simp [fZ]
 | y :: ys,i=>by
  simp only [fZ]
  cases h:g i y with
  | some r =>
   simp only [reduceCtorEq,false_iff]
   intro hx
   have:=hx 0 y rfl
   rw [Nat.add_zero,h] at this; simp at this
  | none =>
   rw [x9 (xs:=ys) (i:=i + 1)]
   constructor
   ·intro hx j y' hj
    cases j with
    | zero=>simp at hj; subst hj; exact h
    | succ j=>have:=hx j y' (by simpa using hj); rwa [show i + 1 + j = i + (j + 1) from by omega] at this
   ·intro hx j y' hj
    have:=hx (j + 1) y' (by simpa using hj)
    rwa [show i + (j + 1) = i + 1 + j from by omega] at this
theorem vX {α ρ:Type} {g:Nat→α→Option ρ} {r:ρ}:∀ {xs:List α} {i:Nat},fZ g xs i = some r→∃ j y,xs[j]? = some y∧g (i + j) y = some r∧∀ k z,k < j→xs[k]? = some z→g (i + k) z = none
 | [],i,h=>by simp [fZ] at h
 | y :: ys,i,h=>by
  simp only [fZ] at h
  cases hg:g i y with
  | some r' =>
   rw [hg] at h; cases h
   exact ⟨0,y,rfl,hg,fun k z hk=>by omega⟩
  | none =>
   rw [hg] at h
   obtain ⟨j,z,h1,h2,h3⟩:=vX h
   refine ⟨j + 1,z,by simpa using h1,by rw [← h2]; congr 1; omega,fun k u hk hu=>?_⟩
   cases k with
   | zero=>simp at hu; subst hu; exact hg
   | succ k=>have:=h3 k u (by omega) (by simpa using hu); rwa [show i + 1 + k = i + (k + 1) from by omega] at this
theorem U2 {α ρ:Type} (g:Nat → α → Option ρ) (e:ρ):∀ (xs:List α) (i:Nat),Y8 (fun i y (_:Unit) => match g i y with | some r => Sum.inr r | none => .inl ()) (fun _ => e) xs i () = (fZ g xs i).getD e
 | [],_=>rfl
 | y :: ys,i=>by
  simp only [Y8,fZ]
  cases g i y with
  | some r=>rfl
  | none=>exact U2 g e ys (i + 1)
theorem alx {α ρ:Type} {step:Int→Option (Int ⊕ ρ)} (xs:List α) (g:Nat→α→Option ρ) (e:ρ) (hl:xs.length < i1)
  (h1:∀ (i:Nat) y,xs[i]? = some y → step (i:Int) = some (match g i y with | some r => .inr r | none => .inl ((i:Int) + 1))) (h2:step (xs.length:Int) = some (.inr e)):loop step 0 = some ((fZ g xs 0).getD e) := by
 have := WZ (σ := Unit) (step := step) xs (fun i _ => (i:Int)) (fun i y _ => match g i y with | some r => .inr r | none => .inl ()) (fun _ => e) hl
  (fun i y s hy=>by
   rw [h1 i y hy]
   cases g i y <;> simp)
  (fun _=>h2) ()
 rw [show (0:Int) = ((0:Nat):Int) from rfl,this,U2]
theorem b9 {α:Type} {xs:List α} {i:Nat} {y:α} (h:xs[i]? = some y):i < xs.length:=(cw.1 h).1
theorem vY {i:Nat} (h:i < 9223372036854775807):w64 ((i:Int) + 1) = (i:Int) + 1:=fV (by omega)
end Go.VM
namespace Go.VM
def Ok {α:Type} (x:Option α) (P:α→Prop):Prop:=∃ r,x = some r∧P r
def Yes {α:Type}:α→Prop:=fun _=>True
def K9 {α β:Type} (A:α→Prop) (B:β→Prop):α ⊕ β→Prop
 | .inl a=>A a
 | .inr b=>B b
theorem aKQ {α:Type} {P:α→Prop} {r:α} (h:P r):Ok (some r) P:=⟨r,rfl,h⟩
theorem A9 {α β:Type} {A:α→Prop} {B:β→Prop} {a:α} (h:A a):Ok (some (.inl a)) (K9 A B):=⟨_,rfl,h⟩
theorem yJ {α β:Type} {A:α→Prop} {B:β→Prop} {b:β} (h:B b):Ok (some (.inr b)) (K9 A B):=⟨_,rfl,h⟩
theorem m6 {α β:Type} {x:Option α} {f:α→Option β} {Q:α→Prop} {P:β→Prop} (hx:Ok x Q) (hf:∀ r,Q r→Ok (f r) P):Ok (x.bind f) P:=by
 obtain ⟨r,h1,h2⟩:=hx
 subst h1; exact hf r h2
theorem aBV {α β γ:Type} {x:Option (α ⊕ γ)} {f:α ⊕ γ→Option β} {Q:α ⊕ γ→Prop} {P:β→Prop} (hx:Ok x Q) (hf:∀ r,Q (.inl r)→Ok (f (.inl r)) P) (hg:∀ r,Q (.inr r)→Ok (f (.inr r)) P):Ok (x.bind f) P :=
 m6 hx (fun r => match r with | .inl a => hf a | .inr b => hg b)
theorem EQ {α:Type} {b:Bool} {x y:Option α} {P:α→Prop} (h1:b = true→Ok x P) (h2:b = false→Ok y P):Ok (cond b x y) P:=by
 cases b
 ·exact h2 rfl
 ·exact h1 rfl
theorem Ok.mono {α:Type} {x:Option α} {P Q:α→Prop} (h:Ok x P) (hq:∀ r,P r→Q r):Ok x Q:=by
 obtain ⟨r,h1,h2⟩:=h; exact ⟨r,h1,hq r h2⟩
theorem Ok.yes {α:Type} {x:Option α} {P:α→Prop} (h:Ok x P):Ok x Yes:=h.mono (fun _ _=>trivial)
theorem Kj {α:Type} {xs:List α} {i:Int} (h1:0≤i) (h2:i < xs.length):Ok (idx xs i) (fun y=>xs[i.toNat]? = some y):=by
 obtain ⟨n,rfl⟩:=Int.eq_ofNat_of_zero_le h1
 have h3:n < xs.length:=by omega
 rw [kx]
 exact ⟨xs[n],by simp [h3],by simp [h3]⟩
theorem H4 {S ρ:Type} {step:S→Option (S ⊕ ρ)} (Inv:S→Prop) (m:S→Nat) {Post:ρ→Prop}
  (h:∀ s,Inv s→Ok (step s) (K9 (fun s'=>Inv s'∧m s' < m s) Post)) {s:S} (hs:Inv s) (hm:m s < i1):Ok (loop step s) Post:=by
 refine ayx Inv m Post (fun s hs=>?_) hs hm
 obtain ⟨r,h1,h2⟩:=h s hs
 cases r with
 | inl a=>exact Or.inl ⟨a,h1,h2⟩
 | inr b=>exact Or.inr ⟨b,h1,h2⟩
theorem aSV {ρ:Type} {step:Int→Option (Int ⊕ ρ)} (n:Nat) {Post:ρ→Prop} (hn:n≤9223372036854775807)
  (h:∀ i:Int,0≤i→i≤n→Ok (step i) (K9 (fun a=>i < n∧a = i + 1) Post)):Ok (loop step 0) Post:=by
 refine H4 (fun i:Int=>0≤i∧i≤(n:Int)) (fun i:Int=>((n:Int) - i).toNat) (fun i hi=>(h i hi.1 hi.2).mono ?_) ⟨by omega,by omega⟩ (by simp [i1]; omega)
 rintro (a | b) hr
 ·obtain ⟨h1,rfl⟩ : i < n∧a = i + 1:=hr
  exact ⟨⟨by omega,by omega⟩,by omega⟩
 ·exact hr
theorem RQ {α:Type} {r:α}:Ok (some r) Yes:=⟨r,rfl,trivial⟩
theorem MK {α β:Type} {B:β→Prop} {a:α}:Ok (some (.inl a)) (K9 Yes B):=⟨_,rfl,trivial⟩
theorem Mq {α β:Type} {A:α→Prop} {b:β}:Ok (some (.inr b)) (K9 A Yes):=⟨_,rfl,trivial⟩
theorem L5 {ρ:Type} {i:Int} {n:Nat} {P:ρ→Prop} (h1:0≤i) (h2:i < (n:Int)) (h3:n≤9223372036854775807):Ok (some (.inl (w64 (i + 1)))) (K9 (fun a:Int=>i < (n:Int)∧a = i + 1) P) :=
 A9 ⟨h2,fV (by omega)⟩
theorem wY {α:Type} {p:Prop} [Decidable p] {x y:Option α} {P:α→Prop} (h1:p→Ok x P) (h2 : ¬p→Ok y P):Ok (cond (decide p) x y) P :=
 EQ (fun h=>h1 (of_decide_eq_true h)) (fun h=>h2 (of_decide_eq_false h))
theorem Mx {α:Type} {p:Prop} [Decidable p] {x y:Option α} {P:α→Prop} (h1 : ¬p→Ok x P) (h2:p→Ok y P):Ok (cond (!decide p) x y) P:=by
 by_cases h:p
 ·simpa [h] using h2 h
 ·simpa [h] using h1 h
theorem UJ {α:Type} {b:Bool} {x y:Option α} {P:α→Prop} (h1:b = false→Ok x P) (h2:b = true→Ok y P):Ok (cond (!b) x y) P:=by
 cases b
 ·exact h1 rfl
 ·exact h2 rfl
theorem Oq {σ ρ:Type} {step:σ × Int→Option ((σ × Int) ⊕ ρ)} (n:Nat) (Inv:σ→Int→Prop) {Post:ρ→Prop} (hn:n≤9223372036854775807) {s0:σ} (h0:Inv s0 0)
  (h:∀ (s:σ) (i:Int),Inv s i→0≤i→i≤n→Ok (step (s,i)) (K9 (fun a=>i < n∧a.2 = i + 1∧Inv a.1 (i + 1)) Post)):Ok (loop step (s0,0)) Post:=by
 refine H4 (fun s:σ × Int=>Inv s.1 s.2∧0≤s.2∧s.2≤(n:Int)) (fun s:σ × Int=>((n:Int) - s.2).toNat) (fun s hi=>(h s.1 s.2 hi.1 hi.2.1 hi.2.2).mono ?_) ⟨h0,by simp,by simp⟩ (by simp [i1]; omega)
 rintro (⟨a,j⟩ | b) hr
 ·obtain ⟨h1,h2,h3⟩ : s.2 < n∧j = s.2 + 1∧Inv a (s.2 + 1):=hr
  subst h2
  exact ⟨⟨h3,by simp; omega,by simp; omega⟩,by simp; omega⟩
 ·exact hr
theorem aGz {σ ρ:Type} {s:σ} {i:Int} {n:Nat} {Inv:σ→Int→Prop} {P:ρ→Prop} (hI:Inv s (i + 1)) (h1:0≤i) (h2:i < (n:Int)) (h3:n≤9223372036854775807):Ok (some (.inl (s,w64 (i + 1)))) (K9 (fun a:σ × Int=>i < (n:Int)∧a.2 = i + 1∧Inv a.1 (i + 1)) P) :=
 A9 ⟨h2,fV (by omega),hI⟩
theorem aSj {ρ:Type} {step:Int→Option (Int ⊕ ρ)} (n:Nat) (Inv:Int→Prop) {Post:ρ→Prop} (hn:n≤9223372036854775807) (h0:Inv 0)
  (h:∀ i:Int,Inv i→0≤i→i≤n→Ok (step i) (K9 (fun a=>i < n∧a = i + 1∧Inv (i + 1)) Post)):Ok (loop step 0) Post:=by
 refine H4 (fun i:Int=>Inv i∧0≤i∧i≤(n:Int)) (fun i:Int=>((n:Int) - i).toNat) (fun i hi=>(h i hi.1 hi.2.1 hi.2.2).mono ?_) ⟨h0,by omega,by omega⟩ (by simp [i1]; omega)
 rintro (a | b) hr
 ·obtain ⟨h1,rfl,h3⟩ : i < n∧a = i + 1∧Inv (i + 1):=hr
  exact ⟨⟨h3,by omega,by omega⟩,by omega⟩
 ·exact hr
theorem aKW {b n:Nat} (h1:n * b≤140737488355328) (h2:n≤9223372036854775807):auY b n = true:=by
 simp only [auY,fk]
 exact ⟨Nat.ble_eq_true_of_le h1,Nat.ble_eq_true_of_le h2⟩
theorem N8 (c:Int):Ok (oZ c) Yes:=by
 unfold oZ eZ kW
 repeat' (first | (with_reducible first | exact RQ | exact Mq | exact MK | refine Mx (fun _=>?_) fun _=>?_ | refine wY (fun _=>?_) fun _=>?_ | refine UJ (fun _=>?_) fun _=>?_ | refine EQ (fun _=>?_) fun _=>?_) | (with_reducible refine L5 ?_ ?_ ?_ <;> (first | assumption | omega | rw [fV] <;> omega)) | with_reducible refine m6 (Kj (by (first | assumption | omega | rw [fV] <;> omega)) (by (first | assumption | omega | rw [fV] <;> omega))) (fun _ _=>?_) | (with_reducible refine m6 (Q:=Yes) ?_ fun _ _=>?_) | dsimp only)
theorem UW (s:ByteArray) (h:s.size≤9223372036854775807):Ok (lQ s) Yes:=by
 unfold lQ
 refine m6 (Q:=Yes) ?_ (fun v _=>?_)
 ·repeat' (first | (with_reducible first | exact RQ | exact Mq | exact MK | refine Mx (fun _=>?_) fun _=>?_ | refine wY (fun _=>?_) fun _=>?_ | refine UJ (fun _=>?_) fun _=>?_ | refine EQ (fun _=>?_) fun _=>?_) | (with_reducible refine L5 ?_ ?_ ?_ <;> (first | assumption | omega | rw [fV] <;> omega)) | with_reducible refine m6 (Kj (by (first | assumption | omega | rw [fV] <;> omega)) (by (first | assumption | omega | rw [fV] <;> omega))) (fun _ _=>?_) | (with_reducible refine m6 (Q:=Yes) ?_ fun _ _=>?_) | dsimp only)
 refine EQ (fun _=>aKQ trivial) (fun _=>?_)
 have e:s.data.toList.length = s.size:=by rw [Array.length_toList]; rfl
 refine aBV (Q:=Yes) (aSV s.size h fun i h1 h2=>?_) (fun _ _=>?_) (fun _ _=>?_)
 ·unfold mW
  repeat' (first | (with_reducible first | exact RQ | exact Mq | exact MK | refine Mx (fun _=>?_) fun _=>?_ | refine wY (fun _=>?_) fun _=>?_ | refine UJ (fun _=>?_) fun _=>?_ | refine EQ (fun _=>?_) fun _=>?_) | (with_reducible refine L5 ?_ ?_ ?_ <;> (first | assumption | omega | rw [fV] <;> omega)) | with_reducible refine m6 (Kj (by (first | assumption | omega | rw [fV] <;> omega)) (by (first | assumption | omega | rw [fV] <;> omega))) (fun _ _=>?_) | (with_reducible refine Ok.yes (Kj ?_ (by rw [e]; (first | assumption | omega | rw [fV] <;> omega))) <;> (first | assumption | omega | rw [fV] <;> omega)) | (with_reducible refine Ok.yes (N8 _) <;> (first | assumption | omega | rw [fV] <;> omega)) | (with_reducible refine m6 (Q:=Yes) ?_ fun _ _=>?_) | dsimp only)
 ·repeat' (first | (with_reducible first | exact RQ | exact Mq | exact MK | refine Mx (fun _=>?_) fun _=>?_ | refine wY (fun _=>?_) fun _=>?_ | refine UJ (fun _=>?_) fun _=>?_ | refine EQ (fun _=>?_) fun _=>?_) | (with_reducible refine L5 ?_ ?_ ?_ <;> (first | assumption | omega | rw [fV] <;> omega)) | with_reducible refine m6 (Kj (by (first | assumption | omega | rw [fV] <;> omega)) (by (first | assumption | omega | rw [fV] <;> omega))) (fun _ _=>?_) | (with_reducible refine m6 (Q:=Yes) ?_ fun _ _=>?_) | dsimp only)
 ·repeat' (first | (with_reducible first | exact RQ | exact Mq | exact MK | refine Mx (fun _=>?_) fun _=>?_ | refine wY (fun _=>?_) fun _=>?_ | refine UJ (fun _=>?_) fun _=>?_ | refine EQ (fun _=>?_) fun _=>?_) | (with_reducible refine L5 ?_ ?_ ?_ <;> (first | assumption | omega | rw [fV] <;> omega)) | with_reducible refine m6 (Kj (by (first | assumption | omega | rw [fV] <;> omega)) (by (first | assumption | omega | rw [fV] <;> omega))) (fun _ _=>?_) | (with_reducible refine m6 (Q:=Yes) ?_ fun _ _=>?_) | dsimp only)
theorem aEV {S ρ:Type} {step:S→Option (S ⊕ ρ)} {Q:ρ→Prop} (h:∀ s r,step s = some (.inr r)→Q r) {s:S} {r:ρ} (hr:loop step s = some r):Q r:=by
 have key:∀ n s,iter step n s = some r→Q r:=by
  intro n
  induction n with
  | zero=>intro s h; simp [iter] at h
  | succ n ih =>
   intro s hs
   rw [Dz] at hs
   cases e:step s with
   | none=>rw [e] at hs; simp at hs
   | some x =>
    rw [e] at hs
    cases x with
    | inl s'=>exact ih s' hs
    | inr r'=>simp only [dw] at hs; subst hs; exact h s _ e
 exact key _ s hr
theorem asZ (y:UInt8):oZ (y.toNat:Int) = kQ (y.toNat:Int):=by
 have h:(List.range 256).all (fun n=>decide (oZ (n:Int) = kQ (n:Int))) = true:=by kernel_rfl
 exact of_decide_eq_true (tk.1 h y.toNat (List.mem_range.2 (UInt8.toNat_lt y)))
theorem asW (s:ByteArray):s = ⟨#[]⟩↔(s.size:Int) < 1:=by
 constructor
 ·intro h; subst h; decide
 ·intro h
  cases s with
  | mk a =>
   have:a.size = 0:=by
    have:(ByteArray.mk a).size = a.size:=rfl
    omega
   rw [Array.eq_empty_of_size_eq_zero this]
theorem aMK (s:ByteArray):lQ s = j5 s:=by
 unfold lQ j5
 have h1:mW s = mZ s:=by
  funext i
  simp only [mW,mZ,asZ]
 have h2:decide (s = ⟨#[]⟩) = decide ((ByteArray.size s:Int) < 1):=decide_eq_decide.2 (asW s)
 rw [h1,h2] <;> rfl
theorem aIj {s:ByteArray} {r:Int} (h:lQ s = some r):r = 0∨r = 3:=by
 unfold lQ at h
 obtain ⟨v,_,h⟩:=bB h
 cases v with
 | true=>simp at h; exact .inr h.symm
 | false =>
  obtain ⟨q,hq,h⟩:=bB (show (loop (mW s) 0).bind _ = some r from h)
  have:=aEV (Q:=fun q:Unit ⊕ Int=>∀ x,q = .inr x→x = 3) (fun i r hr=>by
   unfold mW at hr
   by_cases hi:i < (ByteArray.size s:Int)
   ·simp only [hi,decide_true,cond_true] at hr
    obtain ⟨y,_,hr⟩:=bB hr
    obtain ⟨z,_,hr⟩:=bB hr
    cases z
    ·simp only [Bool.not_false,cond_true,dw,Sum.inr.injEq] at hr
     subst hr; intro x hx; cases hx; rfl
    ·simp at hr
   ·simp [hi] at hr; subst hr; intro x hx; cases hx) hq
  cases q with
  | inl _=>simp at h; exact .inl h.symm
  | inr x=>simp at h; subst h; exact .inr (this _ rfl)
theorem HJ {κ ν:Type} [DecidableEq κ] (k k':κ) (v:ν):∀ (m:List (κ × ν)),yK k (K6 k' v m) = if k = k' then some v else yK k m
 | []=>by simp [K6,yK]
 | p :: r=>by
  simp only [K6]
  by_cases e:k' = p.1
  ·subst e
   simp only [qw,yK]
   by_cases e2:k = p.1 <;> simp [e2]
  ·rw [if_neg e]
   simp only [yK]
   rw [HJ k k' v r]
   by_cases e2:k = p.1
   ·subst e2
    rw [if_pos rfl,if_pos rfl,if_neg (fun h=>e h.symm)]
   ·rw [if_neg e2,if_neg e2]
open Go.Proofs Go.Proofs.Ytliccamocpglcab
def TV:api_Heap:={ fObjects:=[⟨1,10,⟨#[116]⟩,[2,3]⟩,⟨2,10,⟨#[116]⟩,[4]⟩,⟨3,10,⟨#[116]⟩,[4]⟩,⟨4,10,⟨#[116]⟩,[]⟩],fRoots:=[1] }
theorem aTZ:eX = some TV:=by kernel_rfl
theorem aFJ:JQ TV = some ([true,true,true,true],0):=by kernel_rfl
theorem aSQ:y5 TV = some ([-1,0,0,0],0):=by kernel_rfl
theorem aQJ:C0 TV = some ([40,10,10,10],0):=by kernel_rfl
theorem aLX:pK TV 4 = some ([1,2,4],0):=by kernel_rfl
def ex4:List (Fin (oW TV).length):=[⟨0,by decide⟩,⟨1,by decide⟩,⟨2,by decide⟩,⟨3,by decide⟩]
theorem aLj:M2 TV 2 = some (Go.RM.outT (oW TV) ((Go.RM.topSort (oW TV) [40,10,10,10,40] ex4).take 2),0):=by kernel_rfl
theorem aPW:M2 TV 2 = some ([1,2],0):=by
 rw [aLj]
 have h:Go.RM.topSort (oW TV) [40,10,10,10,40] ex4 = ex4:=by
  unfold Go.RM.topSort
  exact List.mergeSort_of_pairwise (by simp only [Go.RM.cf_lt]; decide +kernel)
 rw [h]
 rfl
theorem apZ:gz = some true:=by
 unfold gz
 simp only [aTZ,aFJ,aSQ,aQJ,aLX,aPW,fw]
 kernel_rfl
open Go.Proofs Go.Proofs.Ytliccamocpglcab
theorem JX {α ρ σ:Type} (g:Nat→α→Option ρ) (f:ρ→σ):∀ (xs:List α) (i:Nat),fZ (fun i y=>(g i y).map f) xs i = (fZ g xs i).map f
 | [],_=>rfl
 | y :: ys,i=>by
  simp only [fZ]
  cases g i y with
  | some r=>rfl
  | none=>exact JX g f ys (i + 1)
def NQ {ρ:Type}:Option ρ→Unit ⊕ ρ
 | some r=>.inr r
 | none=>.inl ()
theorem tY {α ρ:Type} {step:Int→Option (Int ⊕ (Unit ⊕ ρ))} (xs:List α) (g:Nat→α→Option ρ) (hl:xs.length≤1000000)
  (h1:∀ (i:Nat) y,xs[i]? = some y → step (i:Int) = some (match g i y with | some r => .inr (.inr r) | none => .inl ((i:Int) + 1))) (h2:step (xs.length:Int) = some (.inr (.inl ()))):loop step 0 = some (NQ (fZ g xs 0)) := by
 rw [alx xs (fun i y=>(g i y).map Sum.inr) (.inl ()) (by simp [i1]; omega) (fun i y hy=>by rw [h1 i y hy]; cases g i y <;> rfl) h2,JX]
 cases fZ g xs 0 <;> rfl
def T3 (l:List Int) (i:Nat):Int:=l.getD (i - 1) 0
theorem afY {l:List Int} {i:Nat} {y:Int} (hy:l[i]? = some y) (hi:0 < i) (h:l.length≤1000000):idx l (w64 ((i:Int) - 1)) = some (T3 l i):=by
 have:=b9 hy
 rw [fV (by omega)]
 have e:(i:Int) - 1 = ((i - 1:Nat):Int):=by omega
 rw [e,kx,T3,jw,ck (by omega)]
 rfl
def PV (p:Int→Bool) (l:List Int) (i:Nat) (n:Int):Option Int:=if p n = false then some 5 else if 0 < i∧n≤T3 l i then some 11 else none
def S2 (p:Int→Bool) (l:List Int):Int:=(fZ (PV p l) l 0).getD 0
def q8 (p0:api_Heap) (n:Int):Bool:=p0.fObjects.any fun o=>decide (o.fId = n)
theorem aDV (l:List Int) (m:List (Int × Int)) (hl:l.length≤1000000):gJ l m = some (S2 (fun n=>(yK n m).isSome) l):=by
 unfold gJ
 rw [tY (step:=gK l m) l (PV (fun n=>(yK n m).isSome) l) hl (fun i y hy=>by
  have hil:=b9 hy
  have hw:=vY (show i < 9223372036854775807 by omega)
  unfold gK PV
  simp only [show ((i:Int) < (l.length:Int)) from by omega,decide_true,cond_true,kx,hy,fw]
  by_cases hm:(yK y m).isSome = true
  case neg=>rw [Bool.not_eq_true] at hm; simp [hm]
  case pos =>
   simp only [hm,Bool.not_true,cond_false,Bool.true_eq_false,pw]
   by_cases h0:0 < i
   ·simp only [show (0:Int) < (i:Int) from by omega,decide_true,cond_true,afY hy h0 hl,fw]
    by_cases h1:y≤T3 l i
    ·simp [h0,h1]
    ·rw [vk h1]
     simp [h0,h1,hw]
   ·simp only [show ¬ (0:Int) < (i:Int) from by omega,decide_false,cond_false,fw]
    simp [h0,hw]) (by
  unfold gK
  simp)]
 unfold S2
 cases fZ (PV (fun n=>(yK n m).isSome) l) l 0 <;> rfl
def CZ (p0:api_Heap) (n:Int):Int × Bool:=match p0.fObjects.findIdx? (fun o=>decide (o.fId = n)) with
 | some k=>((k:Int),true)
 | none=>(0,false)
theorem KX (n:Int):∀ (ys:List bY) (j:Nat),fZ (fun i (o:bY)=>if o.fId = n then some (i:Int) else none) ys j = (ys.findIdx? (fun o=>decide (o.fId = n))).map fun k=>((k + j:Nat):Int)
 | [],j=>rfl
 | y :: ys,j=>by
  simp only [fZ,List.findIdx?_cons]
  by_cases h:y.fId = n
  ·simp [h]
  ·simp only [h,pw,decide_false,KX n ys (j + 1)]
   cases ys.findIdx? fun o=>decide (o.fId = n) with
   | none=>rfl
   | some k=>simp; omega
theorem Hj (p0:api_Heap) (n:Int) (hl:p0.fObjects.length≤1000000):j0 p0 n = some (CZ p0 n):=by
 unfold j0
 rw [tY (step:=jV p0 n) p0.fObjects (fun i o=>(if o.fId = n then some (i:Int) else none).map fun k=>(k,true)) hl (fun i y hy=>by
  have hil:=b9 hy
  unfold jV
  simp only [show ((i:Int) < (p0.fObjects.length:Int)) from by omega,decide_true,cond_true,kx,hy,fw]
  by_cases h:y.fId = n
  ·simp [h]
  ·simp [h,vY (show i < 9223372036854775807 by omega)]) (by
  unfold jV
  simp),JX,KX]
 unfold CZ
 cases p0.fObjects.findIdx? fun o=>decide (o.fId = n) <;> rfl
theorem X9 (p0:api_Heap) (n:Int) (hl:p0.fObjects.length≤1000000):d9 p0 n = some (CZ p0 n):=by
 unfold d9 d6
 rw [tY (step:=cQ p0.fObjects n) p0.fObjects (fun i o=>(if o.fId = n then some (i:Int) else none)) hl (fun i y hy=>by
  have hil:=b9 hy
  unfold cQ qJ
  simp only [show ((i:Int) < (p0.fObjects.length:Int)) from by omega,decide_true,cond_true,kx,hy,fw]
  by_cases h:y.fId = n
  ·simp [h]
  ·simp [h,vY (show i < 9223372036854775807 by omega)]) (by
  unfold cQ
  simp),KX]
 unfold CZ
 cases p0.fObjects.findIdx? fun o=>decide (o.fId = n) with
 | none=>rfl
 | some k=>simp [NQ]
theorem RK (p0:api_Heap) (n:Int):(CZ p0 n).2 = q8 p0 n:=by
 unfold CZ q8
 have h:(p0.fObjects.findIdx? fun o=>decide (o.fId = n)).isSome = p0.fObjects.any fun o=>decide (o.fId = n):=List.findIdx?_isSome ..
 rw [← h]
 cases p0.fObjects.findIdx? fun o=>decide (o.fId = n) <;> rfl
theorem anX (p0:api_Heap) (l:List Int) (hp:p0.fObjects.length≤1000000) (hl:l.length≤1000000):j6 p0 l = some (S2 (q8 p0) l):=by
 unfold j6
 rw [tY (step:=jQ p0 l) l (PV (q8 p0) l) hl (fun i y hy=>by
  have hil:=b9 hy
  have hw:=vY (show i < 9223372036854775807 by omega)
  unfold jQ PV
  simp only [show ((i:Int) < (l.length:Int)) from by omega,decide_true,cond_true,kx,hy,fw,Hj p0 y hp,RK]
  cases hm:q8 p0 y with
  | false=>rfl
  | true =>
   simp only [Bool.not_true,cond_false]
   by_cases h0:0 < i
   ·simp only [show (0:Int) < (i:Int) from by omega,decide_true,cond_true,afY hy h0 hl,fw]
    by_cases h1:y≤T3 l i
    ·simp [h0,h1]
    ·rw [vk h1]
     simp [h0,h1,hw]
   ·simp only [show ¬ (0:Int) < (i:Int) from by omega,decide_false,cond_false,fw]
    simp [h0,hw]) (by
  unfold jQ
  simp)]
 unfold S2
 cases fZ (PV (q8 p0) l) l 0 <;> rfl
theorem XX {p:Int→Bool} {l:List Int} (h:S2 p l = 0):(∀ n∈l,p n = true)∧∀ i a b,l[i]? = some a→l[i + 1]? = some b→a < b:=by
 have hn:fZ (PV p l) l 0 = none:=by
  unfold S2 at h
  cases hf:fZ (PV p l) l 0 with
  | none=>rfl
  | some r =>
   rw [hf] at h
   obtain ⟨j,y,_,hg,_⟩:=vX hf
   unfold PV at hg
   simp only [Option.getD_some] at h
   subst h
   split at hg
   ·cases hg
   ·split at hg <;> cases hg
 rw [x9] at hn
 refine ⟨fun n hm=>?_,fun i a b ha hb=>?_⟩
 ·obtain ⟨j,hj⟩:=List.getElem?_of_mem hm
  have:=hn j n hj
  unfold PV at this
  split at this
  ·cases this
  ·rename_i h; cases hp:p n with
   | true=>rfl
   | false=>exact absurd hp h
 ·have:=hn (i + 1) b hb
  unfold PV at this
  split at this
  ·cases this
  ·split at this
   ·cases this
   ·rename_i h
    have hp:T3 l (0 + (i + 1)) = a:=by
     unfold T3
     rw [jw,show 0 + (i + 1) - 1 = i from by omega,ha]; rfl
    rw [hp] at h
    omega
open Go.Proofs Go.Proofs.Ytliccamocpglcab
structure m7 (p0:api_Heap):Prop where
 n:p0.fObjects.length≤16
 r:p0.fRoots.length≤16
 refs:∀ o∈p0.fObjects,o.fRefs.length≤40
theorem aRW (p0:api_Heap):∃ b,mK p0 = some b∧(b = true↔m7 p0):=by
 unfold mK qZ
 by_cases h1:(16:Int) < (p0.fObjects.length:Int)
 ·exact ⟨false,by simp [h1],by simp; intro h; have:=h.n; omega⟩
 by_cases h2:(16:Int) < (p0.fRoots.length:Int)
 ·exact ⟨false,by simp [h1,h2],by simp; intro h; have:=h.r; omega⟩
 have hl:p0.fObjects.length≤1000000:=by omega
 rw [tY (step:=kV p0) p0.fObjects (fun _ o=>if 40 < o.fRefs.length then some false else none) hl (fun i y hy=>by
  have hil:=b9 hy
  have hw:=vY (show i < 9223372036854775807 by omega)
  unfold kV
  simp only [show ((i:Int) < (p0.fObjects.length:Int)) from by omega,decide_true,cond_true,kx,hy,fw]
  by_cases h:40 < y.fRefs.length
  ·have h':(40:Int) < (y.fRefs.length:Int):=by omega
   simp [h,h']
  ·have h' : ¬ (40:Int) < (y.fRefs.length:Int):=by omega
   simp [h,h',hw]) (by unfold kV; simp)]
 cases hf:fZ (fun _ (o:bY)=>if 40 < o.fRefs.length then some false else none) p0.fObjects 0 with
 | none =>
  refine ⟨true,by simp [h1,h2,NQ],⟨fun _=>⟨by omega,by omega,fun o ho=>?_⟩,fun _=>rfl⟩⟩
  rw [x9] at hf
  obtain ⟨j,hj⟩:=List.getElem?_of_mem ho
  have:=hf j o hj
  split at this
  ·cases this
  ·omega
 | some r =>
  obtain ⟨j,y,hy,hg,_⟩:=vX hf
  split at hg
  ·rename_i h
   cases hg
   refine ⟨false,by simp [h1,h2,NQ],by simp; intro hF; have:=hF.refs y (iw hy); omega⟩
  ·cases hg
def Tj (l:List bY) (i:Nat):Int:=(l[i - 1]?.map fun o=>o.fId).getD 0
def TQ (s:ByteArray):Int:=(lQ s).getD 0
theorem aez {s:ByteArray} (h:s.size≤9223372036854775807):lQ s = some (TQ s)∧j5 s = some (TQ s)∧(TQ s = 0∨TQ s = 3):=by
 obtain ⟨r,hr,_⟩:=UW s h
 have:TQ s = r:=by unfold TQ; rw [hr]; rfl
 rw [this,← aMK]
 exact ⟨hr,hr,aIj hr⟩
def avq (o:bY):Bool:=decide (o.fId < 0) || decide (1000000000000000 < o.fId) || decide (o.fSize < 0) || decide (1000000000000 < o.fSize)
def L4 (l:List bY) (i:Nat) (o:bY):Option Int:=if avq o = true then some 2 else if TQ o.fType = 0 then (if 0 < i∧o.fId≤Tj l i then some 11 else none) else some 3
theorem XZ {l:List bY} {i:Nat} {y:bY} (hy:l[i]? = some y) (hi:0 < i) (h:l.length≤1000000):∃ z,idx l (w64 ((i:Int) - 1)) = some z∧z.fId = Tj l i:=by
 have:=b9 hy
 rw [fV (by omega)]
 have e:(i:Int) - 1 = ((i - 1:Nat):Int):=by omega
 rw [e,kx,Tj,ck (show i - 1 < l.length by omega)]
 exact ⟨_,rfl,rfl⟩
theorem arK (o:bY):((bif decide (o.fId < 0) then some true else bif decide (1000000000000000 < o.fId) then some true else bif decide (o.fSize < 0) then some true else some (decide (1000000000000 < o.fSize))):Option Bool) = some (avq o):=by
 unfold avq
 cases decide (o.fId < 0) <;> cases decide (1000000000000000 < o.fId) <;> cases decide (o.fSize < 0) <;> rfl
theorem awz (p0:api_Heap) (hn:p0.fObjects.length≤1000000) (hs:∀ o∈p0.fObjects,o.fType.size≤9223372036854775807):loop (i6 p0) 0 = some (NQ (fZ (L4 p0.fObjects) p0.fObjects 0)):=by
 refine tY p0.fObjects (L4 p0.fObjects) hn (fun i y hy=>?_) (by unfold i6; simp)
 have hil:=b9 hy
 have hw:=vY (show i < 9223372036854775807 by omega)
 obtain ⟨_,h2,h3⟩:=aez (hs y (iw hy))
 unfold i6 L4
 simp only [show ((i:Int) < (p0.fObjects.length:Int)) from by omega,decide_true,cond_true,kx,hy,fw,arK,h2]
 cases avq y with
 | true=>rfl
 | false =>
  simp only [cond_false,uk,pw]
  rcases h3 with h3 | h3
  ·simp only [h3,decide_true,Bool.not_true,cond_false,qw]
   by_cases h0:0 < i
   ·obtain ⟨z,hz,hz2⟩:=XZ hy h0 hn
    simp only [show (0:Int) < (i:Int) from by omega,decide_true,cond_true,hz,fw,hz2]
    by_cases h1:y.fId≤Tj p0.fObjects i
    ·simp [h0,h1]
    ·rw [vk h1]
     simp [h0,h1,hw]
   ·simp only [show ¬ (0:Int) < (i:Int) from by omega,decide_false,cond_false,fw]
    simp [h0,hw]
  ·simp [h3]
theorem OW {g:Nat → bY → Option Int}:∀ (ys:List bY) (j:Nat) (m:List (Int × Int)),∃ m',Y8 (fun i o m => match g i o with | some r => Sum.inr (Sum.inr r) | none => Sum.inl (K6 o.fId (i:Int) m)) (fun m => Sum.inl m) ys j m = (match fZ g ys j with | some r => Sum.inr r | none => Sum.inl m') ∧ ∀ k,(yK k m').isSome = ((yK k m).isSome || ys.any fun o => decide (o.fId = k))
 | [],j,m=>⟨m,rfl,fun k=>by simp⟩
 | y :: ys,j,m=>by
  simp only [Y8,fZ]
  cases hg:g j y with
  | some r=>exact ⟨K6 y.fId 0 (ys.foldr (fun o q=>K6 o.fId 0 q) m),by simp,fun k=>by
    rw [HJ,List.any_cons]
    by_cases e:k = y.fId
    ·simp [e]
    ·rw [if_neg e]
     have:∀ zs:List bY,(yK k (zs.foldr (fun o q=>K6 o.fId 0 q) m)).isSome = ((yK k m).isSome || zs.any fun o=>decide (o.fId = k)):=by
      intro zs
      induction zs with
      | nil=>simp
      | cons z zs ih =>
       rw [List.foldr_cons,HJ,List.any_cons]
       by_cases e:k = z.fId
       ·simp [e]
       ·rw [if_neg e,ih]; simp [Ne.symm e]
     rw [this]; simp [Ne.symm e]⟩
  | none =>
   obtain ⟨m',h1,h2⟩:=OW (g:=g) ys (j + 1) (K6 y.fId (j:Int) m)
   refine ⟨m',h1,fun k=>?_⟩
   rw [h2,HJ,List.any_cons]
   by_cases e:k = y.fId
   ·simp [e]
   ·rw [if_neg e]; simp [Ne.symm e]
theorem aLJ (p0:api_Heap) (hn:p0.fObjects.length ≤ 1000000) (hs:∀ o ∈ p0.fObjects,o.fType.size ≤ 9223372036854775807):∃ m,loop (lJ p0) ([],0) = some (match fZ (L4 p0.fObjects) p0.fObjects 0 with | some r => .inr r | none => .inl m) ∧ ∀ k,(yK k m).isSome = q8 p0 k := by
 have h := WZ (step := lJ p0) (ρ := List (Int × Int) ⊕ Int) p0.fObjects (fun i (m:List (Int × Int)) => (m,(i:Int))) (fun i o m => match L4 p0.fObjects i o with | some r => Sum.inr (Sum.inr r) | none => Sum.inl (K6 o.fId (i:Int) m)) (fun m => Sum.inl m) (by simp [i1]; omega) (fun i y m hy => by
  have hil:=b9 hy
  have hw:=vY (show i < 9223372036854775807 by omega)
  obtain ⟨h1,_,h3⟩:=aez (hs y (iw hy))
  unfold lJ L4
  simp only [show ((i:Int) < (p0.fObjects.length:Int)) from by omega,decide_true,cond_true,kx,hy,fw,arK,h1]
  cases avq y with
  | true=>rfl
  | false =>
   simp only [cond_false,uk,pw]
   rcases h3 with h3 | h3
   ·simp only [h3,decide_true,Bool.not_true,cond_false,qw]
    by_cases h0:0 < i
    ·obtain ⟨z,hz,hz2⟩:=XZ hy h0 hn
     simp only [show (0:Int) < (i:Int) from by omega,decide_true,cond_true,hz,fw,hz2]
     by_cases h1:y.fId≤Tj p0.fObjects i
     ·simp [h0,h1]
     ·rw [vk h1]
      simp [h0,h1,hw]
    ·simp only [show ¬ (0:Int) < (i:Int) from by omega,decide_false,cond_false,fw]
     simp [h0,hw]
   ·simp [h3]) (fun m=>by unfold lJ; simp) []
 obtain ⟨m',h1,h2⟩:=OW (g:=L4 p0.fObjects) p0.fObjects 0 []
 refine ⟨m',by rw [← h1]; exact h,fun k=>?_⟩
 rw [h2]
 simp [q8,yK]
open Go.Proofs Go.Proofs.Ytliccamocpglcab
def aSz (l:List Int):Prop:=∀ i a b,l[i]? = some a→l[i + 1]? = some b→a < b
structure nV (p0:api_Heap):Prop where
 inc:∀ i a b,p0.fObjects[i]? = some a→p0.fObjects[i + 1]? = some b→a.fId < b.fId
 size:∀ o∈p0.fObjects,0≤o.fSize∧o.fSize≤1000000000000
 refs:∀ o∈p0.fObjects,(∀ n∈o.fRefs,q8 p0 n = true)∧aSz o.fRefs
 roots:(∀ n∈p0.fRoots,q8 p0 n = true)∧aSz p0.fRoots
def Fz (p0:api_Heap) (_:Nat) (o:bY):Option Int:=if S2 (q8 p0) o.fRefs = 0 then none else some (S2 (q8 p0) o.fRefs)
section
variable {p0:api_Heap}
theorem aIx (hF:m7 p0):∃ e,loop (oq p0) (0,0) = some e∧loop (o8 p0) (0,0) = some e∧e≤20000:=by
 have hn:=hF.n
 have key:Ok (loop (oq p0) (0,0)) (fun e=>e≤20000):=by
  refine Oq p0.fObjects.length (fun s i=>0≤s∧s≤40 * i) (by omega) ⟨by omega,by omega⟩ fun s i hI h0 h1=>?_
  unfold oq
  refine wY (fun h=>?_) (fun h=>?_)
  ·refine m6 (Kj h0 h) fun y hy=>?_
   have hr:=hF.refs y (iw hy)
   rw [fV (n:=s + (y.fRefs.length:Int)) (by omega)]
   exact aGz (Inv:=fun s i=>0≤s∧s≤40 * i) ⟨by omega,by omega⟩ h0 h (by omega)
  ·exact yJ (by omega)
 obtain ⟨e,h1,h2⟩:=key
 exact ⟨e,h1,h1,h2⟩
theorem aBZ (hF:m7 p0) {m:List (Int × Int)} (hm:∀ k,(yK k m).isSome = q8 p0 k):loop (oQ p0 m) 0 = some (NQ (fZ (Fz p0) p0.fObjects 0)):=by
 have hn:=hF.n
 have hmf:(fun n=>(yK n m).isSome) = q8 p0:=funext hm
 refine tY p0.fObjects (Fz p0) (by omega) (fun i y hy=>?_) (by unfold oQ; simp)
 have hil:=b9 hy
 have hw:=vY (show i < 9223372036854775807 by omega)
 have hr:=hF.refs y (iw hy)
 unfold oQ Fz
 simp only [show ((i:Int) < (p0.fObjects.length:Int)) from by omega,decide_true,cond_true,kx,hy,fw,aDV y.fRefs m (by omega),hmf]
 by_cases h:S2 (q8 p0) y.fRefs = 0
 ·simp [h,hw]
 ·simp [h]
theorem aDQ (hF:m7 p0):loop (i5 p0) 0 = some (NQ (fZ (Fz p0) p0.fObjects 0)):=by
 have hn:=hF.n
 refine tY p0.fObjects (Fz p0) (by omega) (fun i y hy=>?_) (by unfold i5; simp)
 have hil:=b9 hy
 have hw:=vY (show i < 9223372036854775807 by omega)
 have hr:=hF.refs y (iw hy)
 unfold i5 Fz
 simp only [show ((i:Int) < (p0.fObjects.length:Int)) from by omega,decide_true,cond_true,kx,hy,fw,anX p0 y.fRefs (by omega) (by omega)]
 by_cases h:S2 (q8 p0) y.fRefs = 0
 ·simp [h,hw]
 ·simp [h]
def I2 (p0:api_Heap):Int:=match fZ (L4 p0.fObjects) p0.fObjects 0 with
 | some r=>r
 | none=>match fZ (Fz p0) p0.fObjects 0 with
  | some r=>r
  | none=>S2 (q8 p0) p0.fRoots
theorem alV (hF:m7 p0) (hs:∀ o∈p0.fObjects,o.fType.size≤9223372036854775807):iX p0 = some (I2 p0):=by
 have hn:=hF.n
 have hr:=hF.r
 obtain ⟨e,h1,_,h2⟩:=aIx hF
 obtain ⟨m,h3,hm⟩:=aLJ p0 (by omega) hs
 have hmf:(fun n=>(yK n m).isSome) = q8 p0:=funext hm
 unfold iX I2
 rw [h1,h3]
 simp only [fw,show ¬ (5000:Int) < (p0.fObjects.length:Int) from by omega,show ¬ (20000:Int) < e from by omega,show ¬ (5000:Int) < (p0.fRoots.length:Int) from by omega,decide_false,cond_false]
 cases fZ (L4 p0.fObjects) p0.fObjects 0 with
 | some r=>rfl
 | none =>
  simp only [aBZ hF hm,fw]
  cases fZ (Fz p0) p0.fObjects 0 with
  | some r=>rfl
  | none=>simp only [NQ,aDV p0.fRoots m (by omega),hmf,fw]
theorem H1 (hF:m7 p0) (hs:∀ o∈p0.fObjects,o.fType.size≤9223372036854775807):lj p0 = some (I2 p0):=by
 have hn:=hF.n
 have hr:=hF.r
 obtain ⟨e,_,h1,h2⟩:=aIx hF
 have h3:=awz p0 (by omega) hs
 unfold lj I2
 rw [h1,h3]
 simp only [fw,show ¬ (5000:Int) < (p0.fObjects.length:Int) from by omega,show ¬ (20000:Int) < e from by omega,show ¬ (5000:Int) < (p0.fRoots.length:Int) from by omega,decide_false,cond_false]
 cases fZ (L4 p0.fObjects) p0.fObjects 0 with
 | some r=>rfl
 | none =>
  simp only [NQ,aDQ hF,fw]
  cases fZ (Fz p0) p0.fObjects 0 with
  | some r=>rfl
  | none=>simp only [NQ,anX p0 p0.fRoots (by omega) (by omega),fw]
theorem aBz (h:I2 p0 = 0):nV p0:=by
 unfold I2 at h
 cases h1:fZ (L4 p0.fObjects) p0.fObjects 0 with
 | some r =>
  rw [h1] at h
  obtain ⟨j,y,_,hg,_⟩:=vX h1
  unfold L4 at hg
  simp only at h
  subst h
  split at hg
  ·cases hg
  ·split at hg
   ·split at hg <;> cases hg
   ·cases hg
 | none =>
  rw [h1] at h
  simp only at h
  cases h2:fZ (Fz p0) p0.fObjects 0 with
  | some r =>
   rw [h2] at h
   obtain ⟨j,y,_,hg,_⟩:=vX h2
   unfold Fz at hg
   simp only at h
   subst h
   split at hg
   ·cases hg
   ·rename_i hne; exact absurd (Option.some.inj hg) hne
  | none =>
   rw [h2] at h
   simp only at h
   rw [x9] at h1 h2
   refine ⟨fun i a b ha hb=>?_,fun o ho=>?_,fun o ho=>?_,XX h⟩
   ·have:=h1 (i + 1) b hb
    unfold L4 at this
    split at this
    ·cases this
    ·split at this
     ·split at this
      ·cases this
      ·rename_i hh
       have hp:Tj p0.fObjects (0 + (i + 1)) = a.fId:=by
        unfold Tj
        rw [show 0 + (i + 1) - 1 = i from by omega,ha]; rfl
       rw [hp] at hh
       omega
     ·cases this
   ·obtain ⟨j,hj⟩:=List.getElem?_of_mem ho
    have:=h1 j o hj
    unfold L4 at this
    split at this
    ·cases this
    ·rename_i hb
     unfold avq at hb
     simp only [zw,ow,not_or] at hb
     omega
   ·obtain ⟨j,hj⟩:=List.getElem?_of_mem ho
    have:=h2 j o hj
    unfold Fz at this
    split at this
    ·rename_i h0; exact XX h0
    ·cases this
theorem aqx (hV:nV p0):∀ (d i:Nat) (a b:bY),p0.fObjects[i]? = some a→p0.fObjects[i + d + 1]? = some b→a.fId < b.fId
 | 0,i,a,b,ha,hb=>hV.inc i a b ha hb
 | d + 1,i,a,b,ha,hb=>by
  have hl:=b9 hb
  have hc:p0.fObjects[i + d + 1]? = some p0.fObjects[i + d + 1]:=ck (by omega)
  have h1:=aqx hV d i a _ ha hc
  have h2:=hV.inc (i + d + 1) _ b hc (by rw [show i + d + 1 + 1 = i + (d + 1) + 1 from by omega]; exact hb)
  omega
theorem aQq (hV:nV p0) {i j:Nat} {a b:bY} (ha:p0.fObjects[i]? = some a) (hb:p0.fObjects[j]? = some b) (h:a.fId = b.fId):i = j:=by
 rcases Nat.lt_trichotomy i j with h1 | h1 | h1
 ·have:=aqx hV (j - i - 1) i a b ha (by rw [show i + (j - i - 1) + 1 = j from by omega]; exact hb); omega
 ·exact h1
 ·have:=aqx hV (i - j - 1) j b a hb (by rw [show j + (i - j - 1) + 1 = i from by omega]; exact ha); omega
theorem LZ (hV:nV p0) {k:Nat} {o:bY} (ho:p0.fObjects[k]? = some o):CZ p0 o.fId = ((k:Int),true):=by
 unfold CZ
 have h:p0.fObjects.findIdx? (fun x=>decide (x.fId = o.fId)) = some k:=by
  have hk:=b9 ho
  rw [List.findIdx?_eq_some_iff_getElem]
  refine ⟨hk,by have:=(cw.1 ho).2; simp [this],fun j hj=>?_⟩
  have hjk:p0.fObjects[j]? = some p0.fObjects[j]:=ck (by omega)
  simp only [ow]
  intro e
  have:=aQq hV hjk ho e
  omega
 rw [h]
theorem MQ {n:Int} (h:q8 p0 n = true):∃ (k:Nat) (o:bY),p0.fObjects[k]? = some o∧o.fId = n:=by
 unfold q8 at h
 rw [List.any_eq_true] at h
 obtain ⟨o,ho,h⟩:=h
 obtain ⟨k,hk⟩:=List.getElem?_of_mem ho
 exact ⟨k,o,hk,of_decide_eq_true h⟩
end
open Go.Proofs Go.Proofs.Ytliccamocpglcab
inductive Pw (E:Nat→Nat→Prop) (r:Nat) (w:Int):Nat→Nat→Prop
 | zero:Pw E r w 0 r
 | succ {m x y:Nat}:Pw E r w m x→E x y→(y:Int) ≠ w→Pw E r w (m + 1) y
def zJ (p0:api_Heap) (i:Nat):List Int:=if i = p0.fObjects.length then p0.fRoots else match p0.fObjects[i]? with
 | some o=>o.fRefs
 | none=>[]
def Edge (p0:api_Heap) (i k:Nat):Prop:=∃ o,p0.fObjects[k]? = some o∧o.fId∈zJ p0 i
abbrev Pth (p0:api_Heap) (w:Int) (m k:Nat):Prop:=Pw (Edge p0) p0.fObjects.length w m k
theorem Edge.lt {p0:api_Heap} {i k:Nat} (h:Edge p0 i k):k < p0.fObjects.length:=by
 obtain ⟨o,h1,_⟩:=h; exact b9 h1
theorem Pw.pos_lt {p0:api_Heap} {w:Int} {m k:Nat} (h:Pth p0 w (m + 1) k):k < p0.fObjects.length:=by
 cases h with | succ _ h _ => exact h.lt
def IW (p0:api_Heap) (w:Int) (m k:Nat):Prop:=Pth p0 w m k∧∀ m',m' < m→¬ Pth p0 w m' k
theorem Oj {l:List Nat} {n:Nat} (hd:l.Nodup) (h:∀ x∈l,x < n):l.length≤n:=by
 induction n generalizing l with
 | zero =>
  cases l with
  | nil=>exact ik _
  | cons a l=>exact absurd (h a (List.mem_cons_self ..)) (by omega)
 | succ n ih =>
  have h1:(l.erase n).length≤n:=ih (hd.erase n) (fun x hx=>by
   have h2:=(List.Nodup.mem_erase_iff hd).1 hx
   have:=h x h2.2
   have:=h2.1
   omega)
  have h3:(l.erase n).length ≥ l.length - 1:=by
   rw [List.length_erase]; split <;> omega
  omega
theorem OV {p0:api_Heap} {w:Int}:∀ (m k:Nat),IW p0 w m k→∃ xs:List Nat,xs.length = m∧∀ i x,xs[i]? = some x→IW p0 w (i + 1) x
 | 0,k,_=>⟨[],rfl,fun i x h=>by simp at h⟩
 | m + 1,k,h=>by
  cases h.1 with
  | succ h1 h2 h3 =>
   rename_i x
   have hx:IW p0 w m x:=⟨h1,fun m' hm' hp=>h.2 (m' + 1) (by omega) (.succ hp h2 h3)⟩
   obtain ⟨xs,hl,hxs⟩:=OV m x hx
   refine ⟨xs++[k],by rw [lw,hl]; rfl,fun i y hy=>?_⟩
   by_cases hi:i < xs.length
   ·rw [List.getElem?_append_left hi] at hy; exact hxs i y hy
   ·have:i = m:=by
     have:=b9 hy
     rw [lw] at this
     simp only [xw] at this
     omega
    subst this
    rw [List.getElem?_append_right (by omega),hl,Nat.sub_self] at hy
    cases hy
    exact h
theorem Tq {p0:api_Heap} {w:Int} {a b k:Nat} (h:IW p0 w a k) (h':IW p0 w b k):a = b:=by
 rcases Nat.lt_trichotomy a b with h1 | h1 | h1
 ·exact absurd h.1 (h'.2 a h1)
 ·exact h1
 ·exact absurd h'.1 (h.2 b h1)
theorem Lz {p0:api_Heap} {w:Int} {m k:Nat} (h:IW p0 w m k):m≤p0.fObjects.length:=by
 obtain ⟨xs,hl,hxs⟩:=OV m k h
 rw [← hl]
 refine Oj ?_ (fun x hx=>?_)
 ·rw [List.nodup_iff_pairwise_ne,List.pairwise_iff_getElem]
  intro i j hi hj hij e
  have h1:=hxs i _ (ck hi)
  have h2:=hxs j _ (ck hj)
  rw [e] at h1
  have:=Tq h1 h2
  omega
 ·obtain ⟨i,hi⟩:=List.getElem?_of_mem hx
  exact (hxs i x hi).1.pos_lt
theorem Z0 {p0:api_Heap} {w:Int}:∀ (m k:Nat),Pth p0 w m k→∃ m',m'≤m∧IW p0 w m' k:=by
 intro m
 induction m using Nat.strongRecOn with
 | ind m ih =>
  intro k h
  by_cases hh:∃ m',m' < m∧Pth p0 w m' k
  ·obtain ⟨m',h1,h2⟩:=hh
   obtain ⟨m'',h3,h4⟩:=ih m' h1 k h2
   exact ⟨m'',by omega,h4⟩
  ·exact ⟨m,ik _,h,fun m' h1 h2=>hh ⟨m',h1,h2⟩⟩
theorem Y5 (l:List Int) (n:Int) (hl:l.length≤1000000):gj l n = some (decide (n∈l)):=by
 unfold gj
 rw [tY (step:=kJ l n) l (fun _ y=>if y = n then some true else none) hl (fun i y hy=>by
  have hil:=b9 hy
  have hw:=vY (show i < 9223372036854775807 by omega)
  unfold kJ
  simp only [show ((i:Int) < (l.length:Int)) from by omega,decide_true,cond_true,kx,hy,fw]
  by_cases h:y = n
  ·simp [h]
  ·simp [h,hw]) (by unfold kJ; simp)]
 cases hf:fZ (fun _ y=>if y = n then some true else none) l 0 with
 | none =>
  rw [x9] at hf
  have:n ∉ l:=fun hm=>by
   obtain ⟨j,hj⟩:=List.getElem?_of_mem hm
   have:=hf j n hj
   simp at this
  simp [NQ,this]
 | some r =>
  obtain ⟨j,y,hy,hg,_⟩:=vX hf
  split at hg
  ·rename_i h
   cases hg
   subst h
   simp [NQ,iw hy]
  ·cases hg
def Lev (p0:api_Heap) (w:Int) (j:Nat) (s:List Int):Prop:=s.length = p0.fObjects.length∧∀ k,k < p0.fObjects.length→(s.getD k 0 = 0∧∀ m,m≤j→¬ Pth p0 w m k)∨∃ m:Nat,0 < m∧m≤j∧s.getD k 0 = (m:Int)∧IW p0 w m k
section
variable {p0:api_Heap}
theorem B8 {l:List Int} {i:Nat} {v:Int} (h:i < l.length) (q:Nat):(l.set i v).getD q 0 = if q = i then v else l.getD q 0:=by
 rw [jw,jw,List.getElem?_set]
 by_cases e:i = q
 ·subst e; rw [if_pos rfl,if_pos h,if_pos rfl]; rfl
 ·rw [if_neg e,if_neg (Ne.symm e)]
theorem aOW {l:List Int} {q:Nat} {y:Int} (h:l[q]? = some y):l.getD q 0 = y:=by rw [jw,h]; rfl
def C1 (p0:api_Heap) (w:Int) (out:List Int) (j i q:Nat):Prop:=out.getD i 0 = (j:Int)∧(q:Int) ≠ w∧out.getD q 0 = 0∧Edge p0 i q
theorem aJJ (hF:m7 p0) (w:Int) {out:List Int} (ho:out.length = p0.fObjects.length) {i j:Nat} (hi:i < p0.fObjects.length) (hj:1≤j∧j≤1000) :
  Ok (loop (jq p0 w (j:Int) (i:Int)) (out,0)) fun s=>s.length = p0.fObjects.length∧∀ q,q < p0.fObjects.length→(C1 p0 w out j i q∧s.getD q 0 = (j:Int) + 1)∨(¬ C1 p0 w out j i q∧s.getD q 0 = out.getD q 0):=by
 have hn:=hF.n
 refine Oq p0.fObjects.length (fun s k=>s.length = p0.fObjects.length∧∀ q,q < p0.fObjects.length→(((q:Int) < k∧C1 p0 w out j i q)∧s.getD q 0 = (j:Int) + 1)∨(¬ ((q:Int) < k∧C1 p0 w out j i q)∧s.getD q 0 = out.getD q 0)) (by omega) ⟨ho,fun q hq=>.inr ⟨fun h=>by omega,rfl⟩⟩ fun s k hI h0 h1=>?_
 obtain ⟨hl,hI⟩:=hI
 have hsi:s.getD i 0 = out.getD i 0:=by
  rcases hI i hi with ⟨⟨_,hc⟩,_⟩ | ⟨_,h⟩
  ·have:=hc.1; have:=hc.2.2.1; omega
  ·exact h
 obtain ⟨yi,hyi⟩ : ∃ y,s[i]? = some y:=⟨_,ck (by omega)⟩
 have hyi2:=aOW hyi
 unfold jq
 simp only [kx,hyi,fw]
 by_cases hk:k < (s.length:Int)
 ·simp only [hk,decide_true,cond_true,fw]
  by_cases hyj:yi = (j:Int)
  ·simp only [hyj,decide_true,cond_true]
   obtain ⟨kn,rfl⟩:=Int.eq_ofNat_of_zero_le h0
   have hkn:kn < p0.fObjects.length:=by omega
   obtain ⟨yk,hyk⟩ : ∃ y,s[kn]? = some y:=⟨_,ck (by omega)⟩
   have hyk2:=aOW hyk
   obtain ⟨oi,hoi⟩ : ∃ o,p0.fObjects[i]? = some o:=⟨_,ck hi⟩
   obtain ⟨ok,hok⟩ : ∃ o,p0.fObjects[kn]? = some o:=⟨_,ck hkn⟩
   have hre:=hF.refs oi (iw hoi)
   have hE:Edge p0 i kn↔ok.fId∈oi.fRefs:=by
    unfold Edge zJ
    rw [if_neg (by omega),hoi]
    constructor
    ·rintro ⟨o,h1,h2⟩; rw [hok] at h1; cases h1; exact h2
    ·intro h; exact ⟨ok,hok,h⟩
   have hsk:s.getD kn 0 = out.getD kn 0:=by
    rcases hI kn hkn with ⟨⟨h,_⟩,_⟩ | ⟨_,h⟩
    ·omega
    ·exact h
   have hnext:∀ s':List Int,s'.length = p0.fObjects.length→(∀ q,q ≠ kn→s'.getD q 0 = s.getD q 0)→((C1 p0 w out j i kn∧s'.getD kn 0 = (j:Int) + 1)∨(¬ C1 p0 w out j i kn∧s'.getD kn 0 = out.getD kn 0)) →
     Ok (some (Sum.inl (s',w64 ((kn:Int) + 1)))) (K9 (fun a:List Int × Int=>(kn:Int) < (p0.fObjects.length:Int)∧a.2 = (kn:Int) + 1∧(a.1.length = p0.fObjects.length∧∀ q,q < p0.fObjects.length→(((q:Int) < (kn:Int) + 1∧C1 p0 w out j i q)∧a.1.getD q 0 = (j:Int) + 1)∨(¬ ((q:Int) < (kn:Int) + 1∧C1 p0 w out j i q)∧a.1.getD q 0 = out.getD q 0))) fun s:List Int=>s.length = p0.fObjects.length∧∀ q,q < p0.fObjects.length→(C1 p0 w out j i q∧s.getD q 0 = (j:Int) + 1)∨(¬ C1 p0 w out j i q∧s.getD q 0 = out.getD q 0)):=by
    intro s' hl' hkeep hat
    refine A9 ⟨by omega,fV (by omega),hl',fun q hq=>?_⟩
    by_cases e:q = kn
    ·subst e
     rcases hat with ⟨h1,h2⟩ | ⟨h1,h2⟩
     ·exact .inl ⟨⟨by omega,h1⟩,h2⟩
     ·exact .inr ⟨fun h=>h1 h.2,h2⟩
    ·rcases hI q hq with ⟨⟨h1,h2⟩,h3⟩ | ⟨h1,h2⟩
     ·exact .inl ⟨⟨by omega,h2⟩,by rw [hkeep q e]; exact h3⟩
     ·exact .inr ⟨fun h=>h1 ⟨by omega,h.2⟩,by rw [hkeep q e]; exact h2⟩
   have hsame : ¬ C1 p0 w out j i kn→Ok (some (Sum.inl (s,w64 ((kn:Int) + 1)))) _:=fun hc=>hnext s hl (fun _ _=>rfl) (.inr ⟨hc,hsk⟩)
   simp only [kx,hyk,hoi,hok,fw,Y5 oi.fRefs ok.fId (by omega)]
   by_cases c1:(kn:Int) = w
   ·have hd:decide ((kn:Int) = w) = true:=decide_eq_true c1
    simp only [hd,Bool.not_true,cond_false,fw]
    exact hsame fun h=>h.2.1 c1
   ·simp only [c1,decide_false,Bool.not_false,cond_true,fw]
    by_cases c2:yk = 0
    ·simp only [c2,decide_true,cond_true,fw]
     by_cases c3:ok.fId∈oi.fRefs
     ·simp only [c3,decide_true,cond_true,fw]
      rw [fV (n:=(j:Int) + 1) (by omega)]
      refine hnext _ (by rw [uw]; exact hl) (fun q hq=>?_) (.inl ⟨⟨by omega,c1,by omega,hE.2 c3⟩,?_⟩)
      ·rw [show Int.toNat (kn:Int) = kn from rfl,B8 (by omega),if_neg hq]
      ·rw [show Int.toNat (kn:Int) = kn from rfl,B8 (by omega),if_pos rfl]
     ·simp only [c3,decide_false,cond_false,fw]
      exact hsame fun h=>c3 (hE.1 h.2.2.2)
    ·simp only [c2,decide_false,cond_false,fw]
     exact hsame fun h=>by have:=h.2.2.1; omega
  ·simp only [hyj,decide_false,cond_false]
   refine yJ ⟨hl,fun q hq=>.inr ⟨fun h=>by have:=h.1; omega,?_⟩⟩
   rcases hI q hq with ⟨⟨_,h2⟩,_⟩ | ⟨_,h2⟩
   ·have:=h2.1; omega
   ·exact h2
 ·simp only [hk,decide_false,cond_false,fw]
  refine yJ ⟨hl,fun q hq=>?_⟩
  rcases hI q hq with ⟨⟨_,h2⟩,h3⟩ | ⟨h2,h3⟩
  ·exact .inl ⟨h2,h3⟩
  ·exact .inr ⟨fun h=>h2 ⟨by omega,h⟩,h3⟩
def C2 (p0:api_Heap) (w:Int) (out:List Int) (j i q:Nat):Prop:=∃ i',i' < i∧C1 p0 w out j i' q
theorem aKY (hF:m7 p0) (w:Int) {out:List Int} (ho:out.length = p0.fObjects.length) {j:Nat} (hj:1≤j∧j≤1000) :
  Ok (loop (jx p0 w (j:Int)) (out,0)) fun s:List Int=>s.length = p0.fObjects.length∧∀ q,q < p0.fObjects.length→(C2 p0 w out j p0.fObjects.length q∧s.getD q 0 = (j:Int) + 1)∨(¬ C2 p0 w out j p0.fObjects.length q∧s.getD q 0 = out.getD q 0):=by
 have hn:=hF.n
 refine Oq p0.fObjects.length (fun s k=>s.length = p0.fObjects.length∧∀ q,q < p0.fObjects.length→(C2 p0 w out j k.toNat q∧s.getD q 0 = (j:Int) + 1)∨(¬ C2 p0 w out j k.toNat q∧s.getD q 0 = out.getD q 0)) (by omega) ⟨ho,fun q hq=>.inr ⟨fun ⟨i',h,_⟩=>by simp at h,rfl⟩⟩ fun s k hI h0 h1=>?_
 obtain ⟨hl,hI⟩:=hI
 unfold jx
 obtain ⟨i,rfl⟩:=Int.eq_ofNat_of_zero_le h0
 simp only [Int.toNat_natCast] at hI
 refine wY (fun h=>?_) (fun h=>?_)
 ·have hi:i < p0.fObjects.length:=by omega
  refine m6 (aJJ hF w hl hi hj) fun s' hs'=>?_
  obtain ⟨hl',hs'⟩:=hs'
  refine A9 ⟨by omega,fV (by omega),hl',fun q hq=>?_⟩
  have hti:((i:Int) + 1).toNat = i + 1:=by omega
  rw [hti]
  have hsi:s.getD i 0 = (j:Int)↔out.getD i 0 = (j:Int):=by
   rcases hI i hi with ⟨⟨i',_,hc⟩,h2⟩ | ⟨_,h2⟩
   ·have:=hc.2.2.1; omega
   ·rw [h2]
  rcases hs' q hq with ⟨hc,h2⟩ | ⟨hc,h2⟩
  ·have hsq:=hc.2.2.1
   rcases hI q hq with ⟨_,h3⟩ | ⟨h3,h4⟩
   ·omega
   ·exact .inl ⟨⟨i,by omega,hsi.1 hc.1,hc.2.1,by omega,hc.2.2.2⟩,h2⟩
  ·rcases hI q hq with ⟨⟨i',hi',hc'⟩,h3⟩ | ⟨h3,h4⟩
   ·exact .inl ⟨⟨i',by omega,hc'⟩,h2.trans h3⟩
   ·refine .inr ⟨fun ⟨i',hi',hc'⟩=>?_,h2.trans h4⟩
    by_cases e:i' = i
    ·subst e
     exact hc ⟨hsi.2 hc'.1,hc'.2.1,by rw [h4]; exact hc'.2.2.1,hc'.2.2.2⟩
    ·exact h3 ⟨i',by omega,hc'⟩
 ·refine yJ ⟨hl,fun q hq=>?_⟩
  have:i = p0.fObjects.length:=by omega
  subst this
  exact hI q hq
theorem aGZ (w:Int) {j:Nat} (hj:1≤j) {out s:List Int} (hL:Lev p0 w j out) (hl:s.length = p0.fObjects.length)
  (hs:∀ q,q < p0.fObjects.length→(C2 p0 w out j p0.fObjects.length q∧s.getD q 0 = (j:Int) + 1)∨(¬ C2 p0 w out j p0.fObjects.length q∧s.getD q 0 = out.getD q 0)):Lev p0 w (j + 1) s:=by
 refine ⟨hl,fun k hk=>?_⟩
 rcases hs k hk with ⟨⟨i,hi,hc⟩,h2⟩ | ⟨hc,h2⟩
 ·obtain ⟨c1,c2,c3,c4⟩:=hc
  refine .inr ⟨j + 1,by omega,ik _,by omega,?_⟩
  have hni:Pth p0 w j i:=by
   rcases hL.2 i hi with ⟨h,_⟩ | ⟨m,_,_,h3,h4⟩
   ·omega
   ·have:m = j:=by omega
    subst this; exact h4.1
  have hno:∀ m,m≤j→¬ Pth p0 w m k:=by
   rcases hL.2 k hk with ⟨_,h⟩ | ⟨m,h1,_,h3,_⟩
   ·exact h
   ·omega
  exact ⟨.succ hni c4 c2,fun m hm=>hno m (by omega)⟩
 ·rcases hL.2 k hk with ⟨h3,h4⟩ | ⟨m,h3,h4,h5,h6⟩
  ·refine .inl ⟨by omega,fun m hm hp=>?_⟩
   by_cases e:m≤j
   ·exact h4 m e hp
   ·have:m = j + 1:=by omega
    subst this
    cases hp with
    | succ p1 p2 p3 =>
     rename_i x
     have hx:x < p0.fObjects.length:=by
      cases j with
      | zero=>omega
      | succ j'=>exact p1.pos_lt
     refine hc ⟨x,hx,?_,p3,h3,p2⟩
     rcases hL.2 x hx with ⟨_,h⟩ | ⟨m,g1,g2,g3,g4⟩
     ·exact absurd p1 (h j (ik _))
     ·by_cases e2:m = j
      ·rw [g3,e2]
      ·exact absurd (Pw.succ g4.1 p2 p3) (h4 (m + 1) (by omega))
  ·exact .inr ⟨m,h3,by omega,by omega,h6⟩
theorem aOj (hF:m7 p0) (w:Int) {out:List Int} (hL:Lev p0 w 1 out):Ok (loop (i9 p0 w) (out,1)) fun s=>Lev p0 w (p0.fObjects.length + 1) s:=by
 have hn:=hF.n
 refine H4 (fun s:List Int × Int=>∃ j:Nat,s.2 = (j:Int)∧1≤j∧j≤p0.fObjects.length + 1∧Lev p0 w j s.1) (fun s=>(p0.fObjects.length + 1:Nat) - s.2.toNat) (fun s hs=>?_) ⟨1,rfl,ik _,by omega,hL⟩ (by simp [i1]; omega)
 obtain ⟨s,z⟩:=s
 obtain ⟨j,rfl,h1,h2,hL⟩:=hs
 unfold i9
 refine wY (fun h=>?_) (fun h=>?_)
 ·have hjl:j≤p0.fObjects.length:=by rw [hL.1] at h; omega
  refine m6 (aKY hF w hL.1 ⟨h1,by omega⟩) fun s' hs'=>?_
  refine A9 ⟨⟨j + 1,?_,by omega,by omega,aGZ w h1 hL hs'.1 hs'.2⟩,?_⟩
  ·rw [fV (by omega)]; omega
  ·simp only
   rw [fV (by omega)]
   omega
 ·have:j = p0.fObjects.length + 1:=by rw [hL.1] at h; omega
  subst this
  exact yJ hL
theorem aNJ (hF:m7 p0) (w:Int):Ok (loop (jz p0 w) (List.replicate p0.fObjects.length 0,0)) fun s=>Lev p0 w 1 s:=by
 have hn:=hF.n
 have hr:=hF.r
 have hz:∀ q,(List.replicate p0.fObjects.length (0:Int)).getD q 0 = 0:=fun q=>by
  rw [jw,List.getElem?_replicate]
  split <;> rfl
 refine Oq p0.fObjects.length (fun s k=>s.length = p0.fObjects.length∧∀ q,q < p0.fObjects.length→(((q:Int) < k∧(q:Int) ≠ w∧Edge p0 p0.fObjects.length q)∧s.getD q 0 = 1)∨(¬ ((q:Int) < k∧(q:Int) ≠ w∧Edge p0 p0.fObjects.length q)∧s.getD q 0 = 0)) (by omega) ⟨by rw [mw],fun q hq=>.inr ⟨fun h=>by omega,hz q⟩⟩ fun s k hI h0 h1=>?_
 obtain ⟨hl,hI⟩:=hI
 unfold jz
 obtain ⟨kn,rfl⟩:=Int.eq_ofNat_of_zero_le h0
 refine wY (fun h=>?_) (fun h=>?_)
 ·have hkn:kn < p0.fObjects.length:=by omega
  obtain ⟨ok,hok⟩ : ∃ o,p0.fObjects[kn]? = some o:=⟨_,ck hkn⟩
  obtain ⟨yk,hyk⟩ : ∃ y,s[kn]? = some y:=⟨_,ck (by omega)⟩
  have hE:Edge p0 p0.fObjects.length kn↔ok.fId∈p0.fRoots:=by
   unfold Edge zJ
   rw [if_pos rfl]
   constructor
   ·rintro ⟨o,h1,h2⟩; rw [hok] at h1; cases h1; exact h2
   ·intro h; exact ⟨ok,hok,h⟩
  have hsk:s.getD kn 0 = 0:=by
   rcases hI kn hkn with ⟨⟨h,_⟩,_⟩ | ⟨_,h⟩
   ·omega
   ·exact h
  have hnext:∀ s':List Int,s'.length = p0.fObjects.length→(∀ q,q ≠ kn→s'.getD q 0 = s.getD q 0)→((((kn:Int) ≠ w∧Edge p0 p0.fObjects.length kn)∧s'.getD kn 0 = 1)∨(¬ ((kn:Int) ≠ w∧Edge p0 p0.fObjects.length kn)∧s'.getD kn 0 = 0)) →
    Ok (some (Sum.inl (s',w64 ((kn:Int) + 1)))) (K9 (fun a:List Int × Int=>(kn:Int) < (p0.fObjects.length:Int)∧a.2 = (kn:Int) + 1∧(a.1.length = p0.fObjects.length∧∀ q,q < p0.fObjects.length→(((q:Int) < (kn:Int) + 1∧(q:Int) ≠ w∧Edge p0 p0.fObjects.length q)∧a.1.getD q 0 = 1)∨(¬ ((q:Int) < (kn:Int) + 1∧(q:Int) ≠ w∧Edge p0 p0.fObjects.length q)∧a.1.getD q 0 = 0))) fun s:List Int=>Lev p0 w 1 s):=by
   intro s' hl' hkeep hat
   refine A9 ⟨by omega,fV (by omega),hl',fun q hq=>?_⟩
   by_cases e:q = kn
   ·subst e
    rcases hat with ⟨h1,h2⟩ | ⟨h1,h2⟩
    ·exact .inl ⟨⟨by omega,h1⟩,h2⟩
    ·exact .inr ⟨fun h=>h1 h.2,h2⟩
   ·rcases hI q hq with ⟨⟨h1,h2⟩,h3⟩ | ⟨h1,h2⟩
    ·exact .inl ⟨⟨by omega,h2⟩,by rw [hkeep q e]; exact h3⟩
    ·exact .inr ⟨fun h=>h1 ⟨by omega,h.2⟩,by rw [hkeep q e]; exact h2⟩
  have hsame : ¬ ((kn:Int) ≠ w∧Edge p0 p0.fObjects.length kn)→Ok (some (Sum.inl (s,w64 ((kn:Int) + 1)))) _:=fun hc=>hnext s hl (fun _ _=>rfl) (.inr ⟨hc,hsk⟩)
  simp only [kx,hok,hyk,fw,Y5 p0.fRoots ok.fId (by omega)]
  by_cases c1:(kn:Int) = w
  ·have hd:decide ((kn:Int) = w) = true:=decide_eq_true c1
   simp only [hd,Bool.not_true,cond_false,fw]
   exact hsame fun h=>h.1 c1
  ·simp only [c1,decide_false,Bool.not_false,cond_true,fw]
   by_cases c3:ok.fId∈p0.fRoots
   ·simp only [c3,decide_true,cond_true,fw]
    refine hnext _ (by rw [uw]; exact hl) (fun q hq=>?_) (.inl ⟨⟨c1,hE.2 c3⟩,?_⟩)
    ·rw [show Int.toNat (kn:Int) = kn from rfl,B8 (by omega),if_neg hq]
    ·rw [show Int.toNat (kn:Int) = kn from rfl,B8 (by omega),if_pos rfl]
   ·simp only [c3,decide_false,cond_false,fw]
    exact hsame fun h=>c3 (hE.1 h.2)
 ·have hkk:kn = p0.fObjects.length:=by omega
  refine yJ ⟨hl,fun q hq=>?_⟩
  have h0 : ¬ Pth p0 w 0 q:=fun hp=>by
   cases hp; omega
  rcases hI q hq with ⟨⟨_,h2,h3⟩,h4⟩ | ⟨h2,h3⟩
  ·exact .inr ⟨1,by omega,ik _,h4,.succ .zero h3 h2,fun m' hm'=>by obtain rfl:m' = 0:=(by omega); exact h0⟩
  ·refine .inl ⟨h3,fun m hm hp=>?_⟩
   rcases Nat.eq_zero_or_pos m with e | e
   ·subst e; exact h0 hp
   ·have:m = 1:=by omega
    subst this
    cases hp with
    | succ p1 p2 p3 =>
     cases p1
     exact h2 ⟨by omega,p3,p2⟩
def DistIs (p0:api_Heap) (w:Int) (d:List Int):Prop:=d.length = p0.fObjects.length∧∀ k,k < p0.fObjects.length→(d.getD k 0 = 0∧∀ m,¬ Pth p0 w m k)∨∃ m:Nat,0 < m∧d.getD k 0 = (m:Int)∧IW p0 w m k
theorem aOQ (hF:m7 p0) (w:Int):∃ d,iY p0 w = some d∧DistIs p0 w d:=by
 have hn:=hF.n
 obtain ⟨s4,h4,hL4⟩:=aNJ hF w
 obtain ⟨s3,h3,hL3⟩:=aOj hF w hL4
 refine ⟨s3,?_,hL3.1,fun k hk=>?_⟩
 ·unfold iY
  have hm:mkB 8 (p0.fObjects.length:Int) = true:=by unfold mkB; exact decide_eq_true (by omega)
  rw [hm,Int.toNat_natCast,h4]
  simp only [cond_true,fw,h3]
 ·rcases hL3.2 k hk with ⟨h1,h2⟩ | ⟨m,h1,h2,h3,h4⟩
  ·refine .inl ⟨h1,fun m hp=>?_⟩
   obtain ⟨m',_,hm'⟩:=Z0 m k hp
   exact h2 m' (by have:=Lz hm'; omega) hm'.1
  ·exact .inr ⟨m,h1,h3,h4⟩
theorem DistIs.pos {w:Int} {d:List Int} (h:DistIs p0 w d) {k:Nat} (hk:k < p0.fObjects.length):0 < d.getD k 0↔∃ m,Pth p0 w m k:=by
 rcases h.2 k hk with ⟨h1,h2⟩ | ⟨m,h1,h2,h3⟩
 ·constructor
  ·intro h; omega
  ·rintro ⟨m,hm⟩; exact absurd hm (h2 m)
 ·constructor
  ·intro _; exact ⟨m,h3.1⟩
  ·intro _; omega
theorem DistIs.zero {w:Int} {d:List Int} (h:DistIs p0 w d) {k:Nat} (hk:k < p0.fObjects.length):d.getD k 0 = 0↔¬ ∃ m,Pth p0 w m k:=by
 rcases h.2 k hk with ⟨h1,h2⟩ | ⟨m,h1,h2,h3⟩
 ·constructor
  ·rintro _ ⟨m,hm⟩; exact h2 m hm
  ·intro _; exact h1
 ·constructor
  ·intro h; omega
  ·intro hh; exact absurd ⟨m,h3.1⟩ hh
end
open Go.Proofs Go.Proofs.Ytliccamocpglcab
open Go.RM (addS addsFrom adds HO fndN)
theorem Xj {α:Type} {l:List (List α)} {i:Nat} {v:List α} (h:i < l.length) (q:Nat):(l.set i v).getD q [] = if q = i then v else l.getD q []:=by
 rw [jw,jw,List.getElem?_set]
 by_cases e:i = q
 ·subst e; rw [if_pos rfl,if_pos h,if_pos rfl]; rfl
 ·rw [if_neg e,if_neg (Ne.symm e)]
theorem ajz (i:Nat):∀ (l:List Nat) (p:List (List Nat) × List (List Nat)),i < p.1.length→∀ q,(l.foldl (fun p k=>addS p i k) p).1.getD q [] = if q = i then p.1.getD i []++l else p.1.getD q []
 | [],p,_,q=>by
  simp only [List.foldl_nil,List.append_nil]
  split
  ·rename_i h; rw [h]
  ·rfl
 | k :: l,p,h,q=>by
  rw [List.foldl_cons,ajz i l (addS p i k) (by simp [addS]; exact h) q]
  simp only [addS]
  rw [Xj h,Xj h,if_pos rfl]
  by_cases e:q = i
  ·rw [if_pos e,if_pos e,List.append_assoc]; rfl
  ·rw [if_neg e,if_neg e,if_neg e]
theorem akj (fnd:Int→Nat):∀ (l:List HO) (j:Nat) (p:List (List Nat) × List (List Nat)),j + l.length≤p.1.length→∀ q,(addsFrom fnd j l p).1.getD q [] = p.1.getD q []++(if j≤q then ((l[q - j]?).map fun o=>o.refs.map fnd).getD [] else [])
 | [],j,p,_,q=>by simp [addsFrom]
 | o :: l,j,p,h,q=>by
  simp only [List.length_cons] at h
  have hl:=Go.RM.addSs_len j (o.refs.map fnd) p
  unfold addsFrom
  rw [akj fnd l (j + 1) _ (by rw [hl.1]; omega) q,ajz j _ p (by omega) q]
  by_cases e:q = j
  ·subst e
   rw [if_pos rfl,if_neg (by omega),if_pos (ik _),Nat.sub_self,List.append_nil]; rfl
  ·rw [if_neg e]
   by_cases h1:j≤q
   ·rw [if_pos (by omega),if_pos h1,show q - j = (q - (j + 1)) + 1 from by omega,List.getElem?_cons_succ]
   ·rw [if_neg (by omega),if_neg h1]
theorem aFV {α:Type} (n q:Nat):(List.replicate n ([]:List α)).getD q [] = []:=by
 rw [jw,List.getElem?_replicate]
 split <;> rfl
section
variable {p0:api_Heap}
abbrev TX (p0:api_Heap):Int→Nat:=fndN (d9 p0)
abbrev PK (p0:api_Heap):List (List Nat):=(adds (TX p0) (oW p0) p0.fRoots).1
theorem T9 (i:Nat):(oW p0)[i]? = (p0.fObjects[i]?).map fun o=>⟨o.fId,o.fSize,o.fType,o.fRefs⟩:=by unfold oW; rw [gw]
theorem aej:(PK p0).length = p0.fObjects.length + 1:=by
 have:=(Go.RM.adds_len (TX p0) (oW p0) p0.fRoots).1
 rw [pJ] at this; exact this
theorem arz {i:Nat} (hi:i≤p0.fObjects.length):(PK p0).getD i [] = (zJ p0 i).map (TX p0):=by
 unfold PK adds
 have hl:=Go.RM.addsFrom_len (TX p0) (oW p0) 0 (List.replicate ((oW p0).length + 1) [],List.replicate ((oW p0).length + 1) [])
 rw [ajz _ _ _ (by rw [hl.1,mw]; omega),akj _ _ _ _ (by rw [mw]; omega),akj _ _ _ _ (by rw [mw]; omega)]
 simp only [aFV,List.nil_append,Nat.zero_le,qw,Nat.sub_zero,T9]
 rw [pJ]
 unfold zJ
 by_cases e:i = p0.fObjects.length
 ·rw [if_pos e,if_pos e,List.getElem?_eq_none (ik _)]
  rfl
 ·rw [if_neg e,if_neg e]
  cases p0.fObjects[i]? <;> rfl
theorem Y3 (hV:nV p0) {i:Nat} {n:Int} (h:n∈zJ p0 i):q8 p0 n = true:=by
 unfold zJ at h
 split at h
 ·exact hV.roots.1 n h
 ·split at h
  ·rename_i o ho; exact (hV.refs o (iw ho)).1 n h
  ·simp at h
theorem apQ (hF:m7 p0) (hV:nV p0) {k:Nat} {o:bY} (ho:p0.fObjects[k]? = some o):TX p0 o.fId = k:=by
 have hn:=hF.n
 unfold TX fndN
 rw [X9 p0 o.fId (by omega),LZ hV ho]
 exact Int.toNat_natCast k
theorem aEx (hF:m7 p0) (hV:nV p0) {i k:Nat}:k∈(zJ p0 i).map (TX p0)↔Edge p0 i k:=by
 rw [xk]
 constructor
 ·rintro ⟨n,h1,rfl⟩
  obtain ⟨k,o,hk,rfl⟩:=MQ (Y3 hV h1)
  rw [apQ hF hV hk]
  exact ⟨o,hk,h1⟩
 ·rintro ⟨o,hk,h1⟩
  exact ⟨o.fId,h1,apQ hF hV hk⟩
theorem P4 (hF:m7 p0) (hV:nV p0) {i k:Nat} (hi:i≤p0.fObjects.length):k∈(PK p0).getD i []↔Edge p0 i k:=by rw [arz hi,aEx hF hV]
theorem axx (hF:m7 p0) (hV:nV p0):Go.RM.graphB (d9 p0) (oW p0) p0.fRoots = true:=by
 have hn:=hF.n
 have hr:=hF.r
 have key:∀ l:List Int,l.length≤1000→(∀ n∈l,q8 p0 n = true)→Go.RM.refsB (d9 p0) (oW p0).length l = true:=by
  intro l hl hh
  unfold Go.RM.refsB
  rw [fk,ow,tk]
  refine ⟨hl,fun n hm=>?_⟩
  obtain ⟨k,o,hk,rfl⟩:=MQ (hh n hm)
  have:=b9 hk
  rw [X9 p0 o.fId (by omega),LZ hV hk]
  simp only [fk,ow,pJ,Int.toNat_natCast]
  omega
 unfold Go.RM.graphB
 rw [fk,fk,ow,tk,pJ]
 refine ⟨⟨by omega,fun o ho=>?_⟩,by rw [← pJ p0]; exact key _ (by omega) hV.roots.1⟩
 unfold oW at ho
 obtain ⟨o',ho',rfl⟩:=xk.1 ho
 have:=hF.refs o' ho'
 rw [← pJ p0]
 exact key _ (by simp only; omega) (hV.refs o' ho').1
end
open Go.Proofs Go.Proofs.Ytliccamocpglcab
open Go.RM (u9 L7)
section
variable (to:List (List Nat))
structure aUX (i:Nat) (us us' nd:List Nat):Prop where
 nodup:us'.Nodup
 ndn:nd.Nodup
 part:∀ x,x∈us↔x∈us'∨x∈nd
 disj:∀ x∈nd,x ∉ us'
 last:∃ l,nd = l++[i]
 clos:∀ x∈nd,∀ y∈to.getD x [],y ∉ us'
 pred:∀ x∈nd,x ≠ i→∃ l1 l2,nd = l1++x :: l2∧∃ p∈l2,x∈to.getD p []
 len:us'.length < us.length
structure adW (us0 done us nd:List Nat):Prop where
 nodup:us.Nodup
 ndn:nd.Nodup
 part:∀ x,x∈us0↔x∈us∨x∈nd
 disj:∀ x∈nd,x ∉ us
 clos:∀ x∈nd,∀ y∈to.getD x [],y ∉ us
 seen:∀ k∈done,k ∉ us
 pred:∀ x∈nd,x∈done∨∃ l1 l2,nd = l1++x :: l2∧∃ p∈l2,x∈to.getD p []
 len:us.length≤us0.length
variable {to}
theorem Z1 {f:Nat} (hv:∀ i us ord,us.length≤f→us.Nodup→i∈us→(∀ x∈us,x < to.length)→∃ us' nd,u9 f to i us ord = some (us',ord++nd)∧aUX to i us us' nd) (us0:List Nat) (hf:us0.length≤f) (hlt:∀ x∈us0,x < to.length) :
  ∀ (l done us nd ord:List Nat),adW to us0 done us nd→∃ us' nd',l.foldlM (L7 f to) (us,ord++nd) = some (us',ord++nd')∧adW to us0 (done++l) us' nd'
 | [],done,us,nd,ord,h=>⟨us,nd,rfl,by rw [List.append_nil]; exact h⟩
 | k :: l,done,us,nd,ord,h=>by
  rw [List.foldlM_cons]
  unfold L7
  by_cases hk:k∈us
  ·rw [if_pos hk]
   have hus:∀ x∈us,x < to.length:=fun x hx=>hlt x ((h.part x).2 (.inl hx))
   obtain ⟨us',nd2,h1,q⟩:=hv k us (ord++nd) (Nat.le_trans h.len hf) h.nodup hk hus
   rw [h1]
   simp only [Option.bind_eq_bind,fw]
   have hsub:∀ x,x ∉ us→x ∉ us':=fun x hx hx'=>hx ((q.part x).2 (.inl hx'))
   have hq:adW to us0 (done++[k]) us' (nd++nd2):=by
    refine ⟨q.nodup,?_,fun x=>?_,fun x hx=>?_,fun x hx y hy=>?_,fun x hx=>?_,fun x hx=>?_,by have:=q.len; have:=h.len; omega⟩
    ·rw [List.nodup_append]
     exact ⟨h.ndn,q.ndn,fun a ha b hb e=>by subst e; exact h.disj a ha ((q.part a).2 (.inr hb))⟩
    ·rw [h.part x,q.part x,sk]
     constructor
     ·rintro ((h1 | h1) | h1)
      ·exact .inl h1
      ·exact .inr (.inr h1)
      ·exact .inr (.inl h1)
     ·rintro (h1 | h1 | h1)
      ·exact .inl (.inl h1)
      ·exact .inr h1
      ·exact .inl (.inr h1)
    ·rcases sk.1 hx with hx | hx
     ·exact hsub x (h.disj x hx)
     ·exact q.disj x hx
    ·rcases sk.1 hx with hx | hx
     ·exact hsub y (h.clos x hx y hy)
     ·exact q.clos x hx y hy
    ·rcases sk.1 hx with hx | hx
     ·exact hsub x (h.seen x hx)
     ·rw [gk.1 hx]
      obtain ⟨l',hl'⟩:=q.last
      exact q.disj k (by rw [hl']; simp)
    ·rcases sk.1 hx with hx | hx
     ·rcases h.pred x hx with h2 | ⟨l1,l2,h2,p,h3,h4⟩
      ·exact .inl (List.mem_append_left _ h2)
      ·exact .inr ⟨l1,l2++nd2,by rw [h2]; simp,p,List.mem_append_left _ h3,h4⟩
     ·by_cases e:x = k
      ·exact .inl (by rw [e]; simp)
      ·obtain ⟨l1,l2,h2,p,h3,h4⟩:=q.pred x hx e
       exact .inr ⟨nd++l1,l2,by rw [h2]; simp,p,h3,h4⟩
   obtain ⟨us'',nd',h2,h3⟩:=Z1 hv us0 hf hlt l (done++[k]) us' (nd++nd2) ord hq
   refine ⟨us'',nd',?_,by rw [List.append_assoc] at h3; exact h3⟩
   rw [List.append_assoc]
   exact h2
  ·rw [if_neg hk]
   simp only [Option.bind_eq_bind,fw]
   have hq:adW to us0 (done++[k]) us nd:=⟨h.nodup,h.ndn,h.part,h.disj,h.clos,fun x hx=>by
    rcases sk.1 hx with hx | hx
    ·exact h.seen x hx
    ·rw [gk.1 hx]; exact hk,fun x hx=>(h.pred x hx).imp (List.mem_append_left _) id,h.len⟩
   obtain ⟨us'',nd',h2,h3⟩:=Z1 hv us0 hf hlt l (done++[k]) us nd ord hq
   exact ⟨us'',nd',h2,by rw [List.append_assoc] at h3; exact h3⟩
theorem aaW:∀ (f i:Nat) (us ord:List Nat),us.length≤f→us.Nodup→i∈us→(∀ x∈us,x < to.length)→∃ us' nd,u9 f to i us ord = some (us',ord++nd)∧aUX to i us us' nd
 | 0,i,us,ord,hl,_,hi,_=>by
  have:=List.length_pos_of_mem hi; omega
 | f + 1,i,us,ord,hl,hn,hi,hlt=>by
  have hil:=hlt i hi
  have hel:(us.erase i).length = us.length - 1:=List.length_erase_of_mem hi
  have hpos:=List.length_pos_of_mem hi
  have h0:adW to (us.erase i) [] (us.erase i) []:=⟨hn.erase i,List.nodup_nil,fun x=>by simp,fun x hx=>by simp at hx,fun x hx=>by simp at hx,fun x hx=>by simp at hx,fun x hx=>by simp at hx,ik _⟩
  obtain ⟨us',nd,h1,q⟩:=Z1 (fun i us ord=>aaW f i us ord) (us.erase i) (by omega) (fun x hx=>hlt x (List.mem_of_mem_erase hx)) (to.getD i []) [] (us.erase i) [] ord h0
  rw [List.nil_append] at q
  rw [List.append_nil] at h1
  have bj:to[i]? = some (to.getD i []):=by rw [jw,ck hil]; rfl
  have hmem:∀ x,x∈us.erase i↔x ≠ i∧x∈us:=fun x=>List.Nodup.mem_erase_iff hn
  have hni:i ∉ us':=fun h=>by
   have:=(hmem i).1 ((q.part i).2 (.inl h)); exact this.1 rfl
  have hnd:i ∉ nd:=fun h=>by
   have:=(hmem i).1 ((q.part i).2 (.inr h)); exact this.1 rfl
  refine ⟨us',nd++[i],?_,⟨q.nodup,?_,fun x=>?_,fun x hx=>?_,⟨nd,rfl⟩,fun x hx y hy=>?_,fun x hx hne=>?_,by have:=q.len; omega⟩⟩
  ·rw [Go.RM.visitF_succ,bj]
   simp only [h1,List.append_assoc]
  ·rw [List.nodup_append]
   exact ⟨q.ndn,by simp,fun a ha b hb e=>by rw [gk.1 hb] at e; exact hnd (e ▸ ha)⟩
  ·rw [sk,gk]
   by_cases e:x = i
   ·subst e; simp [hi]
   ·have:=q.part x
    rw [hmem x] at this
    simp only [e,or_false]
    rw [← this]
    simp [e]
  ·rcases sk.1 hx with hx | hx
   ·exact q.disj x hx
   ·rw [gk.1 hx]; exact hni
  ·rcases sk.1 hx with hx | hx
   ·exact q.clos x hx y hy
   ·rw [gk.1 hx] at hy
    exact q.seen y hy
  ·rcases sk.1 hx with hx | hx
   ·rcases q.pred x hx with h2 | ⟨l1,l2,h2,p,h3,h4⟩
    ·obtain ⟨l1,l2,h3⟩:=List.append_of_mem hx
     exact ⟨l1,l2++[i],by rw [h3]; simp,i,by simp,h2⟩
    ·exact ⟨l1,l2++[i],by rw [h2]; simp,p,List.mem_append_left _ h3,h4⟩
   ·exact absurd (gk.1 hx) hne
end
open Go.Proofs Go.Proofs.Ytliccamocpglcab
open Go.RM (u9 iz P2 tZ)
theorem aeJ:∀ (ord:List Nat) (j:Nat) (p:List Nat × List Bool),ord.Nodup→(∀ x∈ord,x < p.1.length∧x < p.2.length) →
  (∀ (i:Nat) x,ord[i]? = some x→(iz j ord p).1[x]? = some (j + i))∧(∀ x,x ∉ ord→(iz j ord p).1[x]? = p.1[x]?∧(iz j ord p).2[x]? = p.2[x]?)∧∀ x∈ord,(iz j ord p).2[x]? = some true
 | [],j,p,_,_=>⟨fun i x h=>by simp at h,fun x _=>⟨rfl,rfl⟩,fun x h=>by simp at h⟩
 | a :: l,j,p,hn,hlt=>by
  obtain ⟨ha,hn'⟩:=List.nodup_cons.1 hn
  obtain ⟨h1,h2,h3⟩:=aeJ l (j + 1) (p.1.set a j,p.2.set a true) hn' (fun x hx=>by simp only [uw]; exact hlt x (List.mem_cons_of_mem _ hx))
  have hal:=hlt a (List.mem_cons_self ..)
  unfold iz
  refine ⟨fun i x hx=>?_,fun x hx=>?_,fun x hx=>?_⟩
  ·cases i with
   | zero =>
    cases hx
    rw [(h2 a ha).1]
    simp only
    rw [List.getElem?_set,if_pos rfl,if_pos hal.1]; rfl
   | succ i =>
    rw [h1 i x hx]
    congr 1
    omega
  ·rw [qk,not_or] at hx
   rw [(h2 x hx.2).1,(h2 x hx.2).2]
   simp only
   rw [List.getElem?_set,List.getElem?_set,if_neg (Ne.symm hx.1),if_neg (Ne.symm hx.1)]
   exact ⟨rfl,rfl⟩
  ·rcases qk.1 hx with rfl | hx
   ·rw [(h2 x ha).2]
    simp only
    rw [List.getElem?_set,if_pos rfl,if_pos hal.2]
   ·exact h3 x hx
section
variable {p0:api_Heap}
structure OrdQ (p0:api_Heap) (ls:List Nat):Prop where
 nodup:(p0.fObjects.length :: ls).Nodup
 lt:∀ x∈ls,x < p0.fObjects.length
 mem:∀ x,x∈p0.fObjects.length :: ls↔∃ m,Pth p0 (-1) m x
 pred:∀ x∈ls,∃ l1 l2,p0.fObjects.length :: ls = l1++x :: l2∧∃ p∈l1,Edge p0 p x
theorem aSx (hF:m7 p0) (hV:nV p0):∃ ls,P2 (d9 p0) (oW p0) p0.fRoots = some (p0.fObjects.length :: ls)∧OrdQ p0 ls:=by
 have hn:=hF.n
 have htl:(PK p0).length = p0.fObjects.length + 1:=aej
 obtain ⟨us',nd,h1,q⟩:=aaW (to:=PK p0) 100 p0.fObjects.length (List.range (p0.fObjects.length + 1)) [] (by rw [List.length_range]; omega) List.nodup_range (List.mem_range.2 (by omega)) (fun x hx=>by rw [htl]; exact List.mem_range.1 hx)
 rw [List.nil_append] at h1
 obtain ⟨l,hl⟩:=q.last
 have hndlt:∀ x∈nd,x < p0.fObjects.length + 1:=fun x hx=>List.mem_range.1 ((q.part x).2 (.inr hx))
 have hrev:nd.reverse = p0.fObjects.length :: l.reverse:=by rw [hl]; simp
 have hlen:nd.length≤p0.fObjects.length + 1:=Oj q.ndn hndlt
 have hpred:∀ x∈nd,x ≠ p0.fObjects.length→∃ l1 l2,nd.reverse = l1++x :: l2∧∃ p∈l1,Edge p0 p x:=fun x hx hne=>by
  obtain ⟨l1,l2,e,p,hp,hpx⟩:=q.pred x hx hne
  refine ⟨l2.reverse,l1.reverse,by rw [e]; simp,p,List.mem_reverse.2 hp,?_⟩
  have hpn:p∈nd:=by rw [e]; simp [hp]
  exact (P4 hF hV (by have:=hndlt p hpn; omega)).1 hpx
 have hreach:∀ (j:Nat) (l1:List Nat) (x:Nat) (l2:List Nat),l1.length = j→nd.reverse = l1++x :: l2→∃ m,Pth p0 (-1) m x:=by
  intro j
  induction j using Nat.strongRecOn with
  | ind j ih =>
   intro l1 x l2 hj e
   by_cases hx:x = p0.fObjects.length
   ·subst hx; exact ⟨0,.zero⟩
   ·have hxn:x∈nd:=List.mem_reverse.1 (by rw [e]; simp)
    obtain ⟨a1,a2,e2,p,hp,hE⟩:=hpred x hxn hx
    have hnd:nd.reverse.Nodup:=List.pairwise_reverse.2 (q.ndn.imp fun h=>Ne.symm h)
    have hl1:l1 = a1:=by
     rw [e] at e2 hnd
     have hx1:x ∉ l1:=fun h=>by
      rw [List.nodup_append] at hnd
      exact hnd.2.2 x h x (by simp) rfl
     have hx2:x ∉ a1:=fun h=>by
      rw [e2,List.nodup_append] at hnd
      exact hnd.2.2 x h x (by simp) rfl
     rcases List.append_eq_append_iff.1 e2 with ⟨c,hc1,hc2⟩ | ⟨c,hc1,hc2⟩
     ·cases c with
      | nil=>rw [hc1,List.append_nil]
      | cons z c =>
       simp only [List.cons_append,List.cons.injEq] at hc2
       rw [hc1,← hc2.1] at hx2; simp at hx2
     ·cases c with
      | nil=>rw [hc1,List.append_nil]
      | cons z c =>
       simp only [List.cons_append,List.cons.injEq] at hc2
       rw [hc1,← hc2.1] at hx1; simp at hx1
    subst hl1
    obtain ⟨b1,b2,e3⟩:=List.append_of_mem hp
    obtain ⟨m,hm⟩:=ih b1.length (by rw [← hj,e3,lw,List.length_cons]; omega) b1 p (b2++x :: l2) rfl (by rw [e,e3]; simp)
    exact ⟨m + 1,.succ hm hE (by omega)⟩
 refine ⟨l.reverse,?_,⟨?_,fun x hx=>?_,fun x=>?_,fun x hx=>?_⟩⟩
 ·unfold P2
  rw [axx hF hV]
  simp only [cond_true,pJ]
  have h1':u9 100 (Go.RM.adds (TX p0) (oW p0) p0.fRoots).1 p0.fObjects.length (List.range (p0.fObjects.length + 1)) [] = some (us',nd):=h1
  rw [h1']
  have hb:(decide (nd.length≤1000) && nd.all (fun i=>decide (i < p0.fObjects.length + 1))) = true:=by
   rw [fk,ow,tk]
   exact ⟨by omega,fun x hx=>decide_eq_true (hndlt x hx)⟩
  simp only [hb,cond_true,hrev]
 ·rw [← hrev]
  exact List.pairwise_reverse.2 (q.ndn.imp fun h=>Ne.symm h)
 ·have hxn:x∈nd:=by rw [hl]; simp [List.mem_reverse.1 hx]
  have h2:=hndlt x hxn
  have h3:x ≠ p0.fObjects.length:=fun e=>by
   have:=q.ndn
   rw [hl,List.nodup_append] at this
   exact this.2.2 x (List.mem_reverse.1 hx) p0.fObjects.length (by simp) e
  omega
 ·rw [← hrev,List.mem_reverse]
  constructor
  ·intro hx
   obtain ⟨l1,l2,e⟩:=List.append_of_mem (List.mem_reverse.2 hx)
   exact hreach l1.length l1 x l2 rfl e
  ·rintro ⟨m,hm⟩
   induction hm with
   | zero=>rw [hl]; simp
   | @succ m x y p1 p2 _ ih =>
    have h2:=q.clos x ih y ((P4 hF hV (by have:=hndlt x ih; omega)).2 p2)
    rcases (q.part y).1 (List.mem_range.2 (by have := p2.lt; omega)) with h3 | h3
    ·exact absurd h3 h2
    ·exact h3
 ·have hxn:x∈nd:=by rw [hl]; simp [List.mem_reverse.1 hx]
  have h3:x ≠ p0.fObjects.length:=fun e=>by
   have:=q.ndn
   rw [hl,List.nodup_append] at this
   exact this.2.2 x (List.mem_reverse.1 hx) p0.fObjects.length (by simp) e
  rw [← hrev]
  exact hpred x hxn h3
theorem OrdQ.vals {ls:List Nat} (h:OrdQ p0 ls):(∀ (i:Nat) x,(p0.fObjects.length :: ls)[i]? = some x→(tZ p0.fObjects.length (p0.fObjects.length :: ls)).1[x]? = some i) ∧
  ∀ x,x≤p0.fObjects.length→((tZ p0.fObjects.length (p0.fObjects.length :: ls)).2.getD x false = true↔x∈p0.fObjects.length :: ls):=by
 have hlt:∀ x∈p0.fObjects.length :: ls,x < p0.fObjects.length + 1:=fun x hx=>by
  rcases qk.1 hx with rfl | hx
  ·omega
  ·have:=h.lt x hx; omega
 obtain ⟨h1,h2,h3⟩:=aeJ (p0.fObjects.length :: ls) 0 (List.replicate (p0.fObjects.length + 1) 0,List.replicate (p0.fObjects.length + 1) false) h.nodup (fun x hx=>by simp only [mw]; exact ⟨hlt x hx,hlt x hx⟩)
 unfold tZ
 refine ⟨fun i x hx=>by rw [h1 i x hx,Nat.zero_add],fun x hx=>?_⟩
 rw [jw]
 constructor
 ·intro hh
  apply Classical.byContradiction
  intro hne
  rw [(h2 x hne).2,List.getElem?_replicate,if_pos (by omega)] at hh
  simp at hh
 ·intro hh
  rw [h3 x hh]; rfl
end
open Go.Proofs Go.Proofs.Ytliccamocpglcab
open Go.RM (P2 tZ)
section
variable {p0:api_Heap}
def ReachIs (p0:api_Heap) (l:List Bool):Prop:=l.length = p0.fObjects.length∧∀ k,k < p0.fObjects.length→(l.getD k false = true↔∃ m,Pth p0 (-1) m k)
theorem ReachIs.uniq {l l':List Bool} (h:ReachIs p0 l) (h':ReachIs p0 l'):l = l':=by
 apply List.ext_getElem
 ·rw [h.1,h'.1]
 ·intro i h1 h2
  have a:=h.2 i (by rw [← h.1]; exact h1)
  have b:=h'.2 i (by rw [← h.1]; exact h1)
  rw [jw,ck h1] at a
  rw [jw,ck h2] at b
  simp only [Option.getD_some] at a b
  rw [Bool.eq_iff_iff,a,b]
end
open Go.Proofs Go.Proofs.Ytliccamocpglcab
section
variable {p0:api_Heap}
theorem axz {α ρ:Type} (l:List α):fZ (fun (_:Nat) (_:α)=>(none:Option ρ)) l 0 = none:=x9.2 fun _ _ _=>rfl
end
open Go.Proofs Go.Proofs.Ytliccamocpglcab
open Go.RM (xZ TY OJ Vz)
inductive Anc (d:Nat→Nat) (r:Nat):Nat→Nat→Prop
 | refl (v:Nat):Anc d r v v
 | up {v a:Nat}:v ≠ r→Anc d r (d v) a→Anc d r v a
theorem Anc.trans {d:Nat→Nat} {r a b c:Nat} (h:Anc d r a b) (h':Anc d r b c):Anc d r a c:=by
 induction h with
 | refl=>exact h'
 | up hn _ ih=>exact .up hn (ih h')
structure Tree (d P:Nat→Nat) (r:Nat) (K:Nat→Prop):Prop where
 root:K r
 up:∀ v,K v→v ≠ r→K (d v)∧P (d v) < P v
 inj:∀ u v,K u→K v→P u = P v→u = v
section
variable {d P:Nat→Nat} {r:Nat} {K:Nat→Prop}
theorem Tree.anc (hT:Tree d P r K) {v a:Nat} (h:Anc d r v a):K v→K a∧P a≤P v∧(P a = P v→a = v):=by
 induction h with
 | refl v=>exact fun hk=>⟨hk,ik _,fun _=>rfl⟩
 | up hn _ ih =>
  intro hk
  obtain ⟨h1,h2⟩:=hT.up _ hk hn
  obtain ⟨h3,h4,_⟩:=ih h1
  exact ⟨h3,by omega,fun h=>by omega⟩
end
section
variable {pl dv:List Nat} {P:Nat→Nat} {r n:Nat} {K:Nat→Prop}
abbrev dF (dv:List Nat) (v:Nat):Nat:=dv.getD v 0
end
open Go.Proofs Go.Proofs.Ytliccamocpglcab
open Go.RM (xZ TY OJ Vz tZ)
section
variable {p0:api_Heap}
abbrev aCQ (p0:api_Heap) (ls:List Nat):List Nat:=p0.fObjects.length :: ls
abbrev plL (p0:api_Heap) (ls:List Nat):List Nat:=(tZ p0.fObjects.length (p0.fObjects.length :: ls)).1
abbrev PL (p0:api_Heap) (ls:List Nat) (v:Nat):Nat:=(plL p0 ls).getD v 0
def Kn (dk:List Bool) (v:Nat):Prop:=dk[v]? = some true
theorem OrdQ.place {ls:List Nat} (hO:OrdQ p0 ls) {j x:Nat} (h:(aCQ p0 ls)[j]? = some x):PL p0 ls x = j:=by
 have:=hO.vals.1 j x h
 unfold PL
 rw [jw,this]; rfl
theorem OrdQ.inj {ls:List Nat} (hO:OrdQ p0 ls) {u v:Nat} (hu:u∈aCQ p0 ls) (hv:v∈aCQ p0 ls) (h:PL p0 ls u = PL p0 ls v):u = v:=by
 obtain ⟨i,hi⟩:=List.getElem?_of_mem hu
 obtain ⟨j,hj⟩:=List.getElem?_of_mem hv
 rw [hO.place hi,hO.place hj] at h
 subst h
 rw [hi] at hj
 exact Option.some.inj hj
theorem OrdQ.le {ls:List Nat} (hO:OrdQ p0 ls) {u:Nat} (hu:u∈aCQ p0 ls):u≤p0.fObjects.length:=by
 rcases qk.1 hu with rfl | h
 ·exact ik _
 ·exact Nat.le_of_lt (hO.lt u h)
theorem Pth.any {w:Int} {m x:Nat} (h:Pth p0 w m x):Pth p0 (-1) m x:=by
 induction h with
 | zero=>exact .zero
 | succ _ h2 _ ih=>exact .succ ih h2 (by omega)
inductive PG (p0:api_Heap) (ls:List Nat) (k:Nat) (x:Nat):Nat→Prop
 | refl:PG p0 ls k x x
 | step {y z:Nat}:PG p0 ls k x y→Edge p0 y z→k≤PL p0 ls z→PG p0 ls k x z
theorem PG.mono {ls:List Nat} {k k' x y:Nat} (h:PG p0 ls k x y) (hk:k'≤k):PG p0 ls k' x y:=by
 induction h with
 | refl=>exact .refl
 | step _ h2 h3 ih=>exact .step ih h2 (by omega)
theorem PG.trans {ls:List Nat} {k x y z:Nat} (h:PG p0 ls k x y) (h':PG p0 ls k y z):PG p0 ls k x z:=by
 induction h' with
 | refl=>exact h
 | step _ h2 h3 ih=>exact .step ih h2 h3
structure CI (p0:api_Heap) (ls dv:List Nat) (dk:List Bool):Prop where
 l1:dv.length = p0.fObjects.length + 1
 l2:dk.length = p0.fObjects.length + 1
 bd:∀ v∈dv,v≤p0.fObjects.length
 kin:∀ v,Kn dk v→v∈aCQ p0 ls
 tree:Tree (dF dv) (PL p0 ls) p0.fObjects.length (Kn dk)
 J:∀ v,Kn dk v→v ≠ p0.fObjects.length→PG p0 ls (PL p0 ls (dF dv v)) (dF dv v) v
 S:∀ v,Kn dk v→∀ a,a ≠ p0.fObjects.length→(∀ m,¬ Pth p0 (a:Int) m v)→Anc (dF dv) p0.fObjects.length v a
theorem CI.path {ls dv:List Nat} {dk:List Bool} (hC:CI p0 ls dv dk) {v a:Nat} (h:Anc (dF dv) p0.fObjects.length v a):Kn dk v→PG p0 ls (PL p0 ls a) a v:=by
 induction h with
 | refl=>exact fun _=>.refl
 | @up v a hn h' ih =>
  intro hk
  obtain ⟨h1,h2⟩:=hC.tree.up v hk hn
  have h3:=hC.tree.anc h' h1
  exact (ih h1).trans ((hC.J v hk hn).mono h3.2.1)
end
open Go.Proofs Go.Proofs.Ytliccamocpglcab
open Go.RM (xZ TY OJ Vz tZ)
section
variable {p0:api_Heap}
theorem apJ (fnd:Int→Nat):∀ (l:List Go.RM.HO) (j B:Nat) (p:List (List Nat) × List (List Nat)),(∀ o∈l,o.refs.length≤40)→Go.RM.ub B p→Go.RM.ub (B + 40 * l.length) (Go.RM.addsFrom fnd j l p)
 | [],j,B,p,_,h=>h
 | o :: l,j,B,p,hl,h=>by
  have h1:=Go.RM.addSs_ub j (o.refs.map fnd) B p h
  rw [List.length_map] at h1
  have ho:=hl o (List.mem_cons_self ..)
  have h2:Go.RM.ub (B + 40) ((o.refs.map fnd).foldl (fun p k=>Go.RM.addS p j k) p):=⟨fun l hl=>Nat.le_trans (h1.1 l hl) (by omega),fun l hl=>Nat.le_trans (h1.2 l hl) (by omega)⟩
  have h3:=apJ fnd l (j + 1) (B + 40) _ (fun o ho=>hl o (List.mem_cons_of_mem _ ho)) h2
  have e:B + 40 + 40 * l.length = B + 40 * (o :: l).length:=by rw [List.length_cons]; omega
  rw [e] at h3
  exact h3
theorem aVJ (hF:m7 p0):Go.RM.ub 700 (Go.RM.adds (TX p0) (oW p0) p0.fRoots):=by
 have hn:=hF.n
 have hr:=hF.r
 unfold Go.RM.adds
 have h0:Go.RM.ub 0 (List.replicate ((oW p0).length + 1) [],List.replicate ((oW p0).length + 1) []):=⟨fun l hl=>by rw [List.eq_of_mem_replicate hl]; exact ik _,fun l hl=>by rw [List.eq_of_mem_replicate hl]; exact ik _⟩
 have h1:=apJ (TX p0) (oW p0) 0 0 _ (fun o ho=>by
  unfold oW at ho
  obtain ⟨o',ho',rfl⟩:=xk.1 ho
  exact hF.refs o' ho') h0
 have h2:=Go.RM.addSs_ub (oW p0).length (p0.fRoots.map (TX p0)) _ _ h1
 rw [List.length_map,pJ] at h2
 rw [pJ]
 exact ⟨fun l hl=>Nat.le_trans (h2.1 l hl) (by omega),fun l hl=>Nat.le_trans (h2.2 l hl) (by omega)⟩
end
open Go.Proofs Go.Proofs.Ytliccamocpglcab
open Go.RM (IV qx aVx aTV ahZ)
section
variable {p0:api_Heap}
theorem ajY (l:List Int) (hl:l.length≤1000000):d0 l l = some true:=by
 unfold d0
 rw [tY (step:=i4 l l) l (fun _ _=>none) hl (fun i y hy=>by
  have hil:=b9 hy
  have hw:=vY (show i < 9223372036854775807 by omega)
  unfold i4
  simp only [show ((i:Int) < (l.length:Int)) from by omega,decide_true,cond_true,kx,hy,fw,Bool.not_true,cond_false,hw]) (by unfold i4; simp),axz]
 simp only [decide_true,Bool.not_true,cond_false,NQ,fw]
end
open Go.Proofs Go.Proofs.Ytliccamocpglcab
open Go.RM (IV qx)
section
variable {p0:api_Heap}
end
open Go.Proofs Go.Proofs.Ytliccamocpglcab
open Go.RM (IV qx)
section
variable {p0:api_Heap}
end
open Go.Proofs Go.Proofs.Ytliccamocpglcab
open Go.RM (sY D6 ZY akx)
open Classical in
noncomputable def VY (f:Nat→Int) (p:Nat→Prop):Nat→Int
 | 0=>0
 | n + 1=>VY f p n + if p n then f n else 0
theorem Q4 {f:Nat→Int} {p:Nat→Prop} {B:Int} (hB:0≤B):∀ (n:Nat),(∀ u,u < n→0≤f u∧f u≤B)→0≤VY f p n∧VY f p n≤n * B
 | 0,_=>by unfold VY; omega
 | n + 1,h=>by
  have h1:=Q4 (p:=p) hB n (fun u hu=>h u (by omega))
  have h2:=h n (by omega)
  unfold VY
  have e:((n + 1:Nat):Int) * B = n * B + B:=by rw [Int.natCast_add,Int.add_mul]; omega
  rw [e]
  split <;> omega
section
variable {p0:api_Heap}
def SZ (p0:api_Heap) (u:Nat):Int:=((oW p0).map Go.RM.HO.size).getD u 0
theorem aPY {u:Nat} {o:bY} (h:p0.fObjects[u]? = some o):SZ p0 u = o.fSize:=by
 unfold SZ
 rw [jw,gw,T9,h]; rfl
theorem aTq (hV:nV p0) {u:Nat} (h:u < p0.fObjects.length):0≤SZ p0 u∧SZ p0 u≤1000000000000:=by
 obtain ⟨o,ho⟩ : ∃ o,p0.fObjects[u]? = some o:=⟨_,ck h⟩
 rw [aPY ho]
 exact hV.size o (iw ho)
abbrev aUZ (p0:api_Heap) (dv:List Nat) (u v:Nat):Prop:=Anc (dF dv) p0.fObjects.length u v
structure RI (p0:api_Heap) (dv D:List Nat) (z:List Int):Prop where
 len:z.length = p0.fObjects.length + 1
 A1:∀ v,v∈D→z.getD v 0 = VY (SZ p0) (fun u=>u∈D∧aUZ p0 dv u v) p0.fObjects.length
 A2:∀ v,v≤p0.fObjects.length→v ∉ D→z.getD v 0 = VY (SZ p0) (fun u=>u∈D∧∃ c,c∈D∧dF dv c = v∧aUZ p0 dv u c) p0.fObjects.length
 B:∀ v,v≤p0.fObjects.length→z.getD v 0 = (if v∈D then SZ p0 v else 0) + VY (fun c=>z.getD c 0) (fun c=>c∈D∧dF dv c = v) p0.fObjects.length
theorem RI.range (hF:m7 p0) (hV:nV p0) {dv D:List Nat} {z:List Int} (h:RI p0 dv D z) {v:Nat} (hv:v≤p0.fObjects.length):0≤z.getD v 0∧z.getD v 0≤16000000000000:=by
 have hn:=hF.n
 have key:∀ p:Nat→Prop,0≤VY (SZ p0) p p0.fObjects.length∧VY (SZ p0) p p0.fObjects.length≤16000000000000:=fun p=>by
  have:=Q4 (p:=p) (B:=1000000000000) (by omega) p0.fObjects.length fun u hu=>aTq hV hu
  refine ⟨this.1,Int.le_trans this.2 ?_⟩
  have:(p0.fObjects.length:Int) * 1000000000000≤16 * 1000000000000:=Int.mul_le_mul_of_nonneg_right (by omega) (by omega)
  omega
 by_cases e:v∈D
 ·rw [h.A1 v e]; exact key _
 ·rw [h.A2 v hv e]; exact key _
theorem N7 {l:List Int} {i:Nat} {x:Int} (h:i < l.length) (v:Nat):(l.set i x).getD v 0 = if v = i then x else l.getD v 0:=by
 rw [jw,List.getElem?_set]
 by_cases e:i = v
 ·subst e; rw [if_pos rfl,if_pos rfl,if_pos h]; rfl
 ·rw [if_neg e,if_neg (Ne.symm e),← jw]
end
open Go.Proofs Go.Proofs.Ytliccamocpglcab
open Go.RM (sY IV qx)
section
variable {p0:api_Heap}
open Classical in
theorem P7 {l:List Int} {i:Nat} (h:i < l.length):l[i]? = some (l.getD i 0):=by rw [jw,ck h]; rfl
open Classical in
end
open Go.Proofs Go.Proofs.Ytliccamocpglcab
open Go.RM (sY IV qx)
section
variable {p0:api_Heap}
end
open Go.Proofs Go.Proofs.Ytliccamocpglcab
open Go.RM (Rx L0 QSt)
theorem aex {l:List Int} (h:aSz l):l.Pairwise (· < ·):=by
 rw [List.pairwise_iff_getElem]
 intro i j hi hj hij
 have key:∀ d,(hd:i + d + 1 < l.length)→l[i] < l[i + d + 1]:=by
  intro d
  induction d with
  | zero=>intro hd; exact h i _ _ (ck hi) (ck hd)
  | succ d ih =>
   intro hd
   have h1:=ih (by omega)
   have h2:=h (i + d + 1) l[i + d + 1] l[i + d + 2] (ck (by omega)) (ck (by omega))
   have:l[i + (d + 1) + 1] = l[i + d + 2]:=by congr 1
   rw [this]; omega
 have:=key (j - i - 1) (by omega)
 have e:l[i + (j - i - 1) + 1]'(by omega) = l[j]:=by congr 1; omega
 rw [e] at this; exact this
section
variable {p0:api_Heap}
theorem aAX (hV:nV p0) (i:Nat):(zJ p0 i).Pairwise (· < ·):=by
 unfold zJ
 split
 ·exact aex hV.roots.2
 ·split
  ·rename_i o ho
   exact aex (hV.refs o (iw ho)).2
  ·exact .nil
theorem aNZ (hF:m7 p0) (hV:nV p0) {i:Nat} (hi:i≤p0.fObjects.length):((PK p0).getD i []).Pairwise (· < ·):=by
 rw [arz hi,List.pairwise_map]
 refine (aAX hV i).imp_of_mem fun {a b} ha hb hab=>?_
 obtain ⟨k,o,hk,rfl⟩:=MQ (Y3 hV ha)
 obtain ⟨k',o',hk',rfl⟩:=MQ (Y3 hV hb)
 rw [apQ hF hV hk,apQ hF hV hk']
 rcases Nat.lt_or_ge k k' with h | h
 ·exact h
 ·rcases Nat.lt_or_ge k' k with h2 | h2
  ·have:=aqx hV (k - k' - 1) k' o' o hk' (by rw [show k' + (k - k' - 1) + 1 = k from by omega]; exact hk)
   omega
  ·have e:k = k':=by omega
   subst e
   rw [hk] at hk'; cases hk'; omega
def dsF (p0:api_Heap) (es:List (Nat × Nat)):List Nat:=p0.fObjects.length :: es.map Prod.snd
structure BI (p0:api_Heap) (es:List (Nat × Nat)) (t:Nat) (pre:List Nat) (bv:List Nat) (bk:List Bool):Prop where
 l1:bv.length = p0.fObjects.length + 1
 l2:bk.length = p0.fObjects.length + 1
 kn:∀ k,k≤p0.fObjects.length→(bk.getD k false = true↔k∈dsF p0 es)
 nd:(dsF p0 es).Nodup
 par:∀ (j t' v:Nat),es[j]? = some (t',v)→t'≤j∧v < p0.fObjects.length∧∃ u,(dsF p0 es)[t']? = some u∧Edge p0 u v∧bv.getD v 0 = u
 lex:es.Pairwise fun a b=>a.1 < b.1∨(a.1 = b.1∧a.2 < b.2)
 top:∀ e∈es,e.1 < t∨(e.1 = t∧e.2∈pre)
 all:∀ (t' u:Nat),t' < t→(dsF p0 es)[t']? = some u→∀ v,Edge p0 u v→∃ e∈es,e.2 = v∧e.1≤t'
 cur:∀ v∈pre,∃ e∈es,e.2 = v∧e.1≤t
theorem A7 (es:List (Nat × Nat)):(dsF p0 es).length = es.length + 1:=by unfold dsF; rw [List.length_cons,List.length_map]
theorem QJ (es:List (Nat × Nat)) (e:Nat × Nat):dsF p0 (es++[e]) = dsF p0 es++[e.2]:=by unfold dsF; rw [List.map_append]; rfl
theorem BI.le {es:List (Nat × Nat)} {t:Nat} {pre bv:List Nat} {bk:List Bool} (h:BI p0 es t pre bv bk) {x:Nat} (hx:x∈dsF p0 es):x≤p0.fObjects.length:=by
 rcases qk.1 hx with e | hx
 ·omega
 ·obtain ⟨e,he,rfl⟩:=xk.1 hx
  obtain ⟨j,hj⟩:=List.getElem?_of_mem he
  have:=(h.par j e.1 e.2 hj).2.1
  omega
theorem BI.few {es:List (Nat × Nat)} {t:Nat} {pre bv:List Nat} {bk:List Bool} (h:BI p0 es t pre bv bk):es.length≤p0.fObjects.length:=by
 have:=Oj h.nd (n:=p0.fObjects.length + 1) fun x hx=>by have:=h.le hx; omega
 rw [A7] at this; omega
theorem Hq {α:Type} {l:List α} {i:Nat} {x d:α} (h:i < l.length) (v:Nat):(l.set i x).getD v d = if v = i then x else l.getD v d:=by
 rw [jw,List.getElem?_set]
 by_cases e:i = v
 ·subst e; rw [if_pos rfl,if_pos rfl,if_pos h]; rfl
 ·rw [if_neg e,if_neg (Ne.symm e),← jw]
theorem aCV (hF:m7 p0) {es:List (Nat × Nat)} {t q0 k:Nat} {pre bv:List Nat} {bk:List Bool} (h:BI p0 es t pre bv bk) (hq:(dsF p0 es)[t]? = some q0) (hk:k < p0.fObjects.length) (hE:Edge p0 q0 k) (hp:∀ x∈pre,x < k) :
  ∃ es' bv' bk',Rx q0 ((bv,bk),(dsF p0 es).drop t) k = some ((bv',bk'),(dsF p0 es').drop t)∧(∀ i:Nat,∀ u,(dsF p0 es)[i]? = some u→(dsF p0 es')[i]? = some u)∧BI p0 es' t (pre++[k]) bv' bk':=by
 have hn:=hF.n
 have htl:=b9 hq
 have hbk:bk[k]? = some (bk.getD k false):=by rw [jw,ck (by rw [h.l2]; omega)]; rfl
 have hbv:bv[k]? = some (bv.getD k 0):=by rw [jw,ck (by rw [h.l1]; omega)]; rfl
 have hpre:∀ {e:Nat × Nat},(e.1 < t∨(e.1 = t∧e.2∈pre))→(e.1 < t∨(e.1 = t∧e.2∈pre++[k])):=fun h=>h.imp id fun ⟨a,b⟩=>⟨a,sk.2 (.inl b)⟩
 unfold Rx
 simp only
 rw [hbk,hbv]
 cases hb:bk.getD k false with
 | true =>
  have hm:=(h.kn k (by omega)).1 hb
  obtain ⟨e,he,hek⟩ : ∃ e∈es,e.2 = k:=by
   rcases qk.1 hm with e | hm
   ·omega
   ·obtain ⟨e,he,e2⟩:=xk.1 hm
    exact ⟨e,he,e2⟩
  refine ⟨es,bv,bk,rfl,fun _ _ h=>h,h.l1,h.l2,h.kn,h.nd,h.par,h.lex,fun e he=>hpre (h.top e he),h.all,fun v hv=>?_⟩
  rcases sk.1 hv with hv | hv
  ·exact h.cur v hv
  ·rw [gk.1 hv]
   exact ⟨e,he,hek,by have:=h.top e he; omega⟩
 | false =>
  have hm:k ∉ dsF p0 es:=fun hm=>by have:=(h.kn k (by omega)).2 hm; rw [hb] at this; cases this
  have hql:((dsF p0 es).drop t).length < 100000:=by
   have:=h.few
   rw [List.length_drop,A7]; omega
  simp only
  rw [if_pos hql]
  have hkeep:∀ i:Nat,∀ u,(dsF p0 es)[i]? = some u→(dsF p0 (es++[(t,k)]))[i]? = some u:=fun i u hu=>by
   rw [QJ,List.getElem?_append_left (b9 hu)]; exact hu
  refine ⟨es++[(t,k)],bv.set k q0,bk.set k true,by rw [QJ,List.drop_append_of_le_length (by omega)],hkeep,?_⟩
  refine ⟨by rw [uw]; exact h.l1,by rw [uw]; exact h.l2,fun x hx=>?_,?_,fun j t' v hj=>?_,?_,fun e he=>?_,fun t' u ht hu v hv=>?_,fun v hv=>?_⟩
  ·rw [Hq (by rw [h.l2]; omega),QJ]
   by_cases e:x = k
   ·subst e; rw [if_pos rfl]; simp
   ·rw [if_neg e,h.kn x hx]
    simp [e]
  ·rw [QJ,List.nodup_append]
   refine ⟨h.nd,by simp,fun a ha b hb e=>?_⟩
   rw [gk.1 hb] at e
   have e':a = k:=e
   exact hm (e' ▸ ha)
  ·by_cases hjl:j < es.length
   ·rw [List.getElem?_append_left hjl] at hj
    obtain ⟨h1,h2,u,h3,h4,h5⟩:=h.par j t' v hj
    have hvk:v ≠ k:=fun e=>hm (by subst e; exact List.mem_cons_of_mem _ (xk.2 ⟨(t',v),iw hj,rfl⟩))
    exact ⟨h1,h2,u,hkeep _ _ h3,h4,by rw [Hq (by rw [h.l1]; omega),if_neg hvk]; exact h5⟩
   ·have hj2:j = es.length:=by
     have:=b9 hj
     rw [lw,xw] at this; omega
    subst hj2
    rw [List.getElem?_append_right (ik _),Nat.sub_self] at hj
    cases hj
    exact ⟨by rw [A7] at htl; omega,hk,q0,hkeep _ _ hq,hE,by rw [Hq (by rw [h.l1]; omega),if_pos rfl]⟩
  ·rw [List.pairwise_append]
   refine ⟨h.lex,List.pairwise_singleton ..,fun a ha b hb=>?_⟩
   rw [gk.1 hb]
   rcases h.top a ha with h1 | ⟨h1,h2⟩
   ·exact .inl h1
   ·exact .inr ⟨h1,hp _ h2⟩
  ·rcases sk.1 he with he | he
   ·exact hpre (h.top e he)
   ·rw [gk.1 he]; exact .inr ⟨rfl,by simp⟩
  ·have htl':t' < (dsF p0 es).length:=by omega
   rw [QJ,List.getElem?_append_left htl'] at hu
   obtain ⟨e,he,h1⟩:=h.all t' u ht hu v hv
   exact ⟨e,sk.2 (.inl he),h1⟩
  ·rcases sk.1 hv with hv | hv
   ·obtain ⟨e,he,h1⟩:=h.cur v hv
    exact ⟨e,sk.2 (.inl he),h1⟩
   ·rw [gk.1 hv]
    exact ⟨(t,k),by simp,rfl,ik _⟩
theorem afZ (hF:m7 p0) {t q0:Nat}:∀ (l pre:List Nat) (es:List (Nat × Nat)) (bv:List Nat) (bk:List Bool),BI p0 es t pre bv bk→(dsF p0 es)[t]? = some q0→(∀ k∈l,k < p0.fObjects.length∧Edge p0 q0 k)→(pre++l).Pairwise (· < ·) →
  ∃ es' bv' bk',l.foldlM (Rx q0) ((bv,bk),(dsF p0 es).drop t) = some ((bv',bk'),(dsF p0 es').drop t)∧(dsF p0 es')[t]? = some q0∧BI p0 es' t (pre++l) bv' bk'
 | [],pre,es,bv,bk,h,hq,_,_=>⟨es,bv,bk,rfl,hq,by rw [List.append_nil]; exact h⟩
 | k :: l,pre,es,bv,bk,h,hq,hl,hp=>by
  have hk:=hl k (List.mem_cons_self ..)
  have hp2:=List.pairwise_append.1 hp
  obtain ⟨es1,bv1,bk1,h1,h2,h3⟩:=aCV hF h hq hk.1 hk.2 fun x hx=>hp2.2.2 x hx k (List.mem_cons_self ..)
  obtain ⟨es2,bv2,bk2,h4,h5,h6⟩:=afZ hF l (pre++[k]) es1 bv1 bk1 h3 (h2 _ _ hq) (fun x hx=>hl x (List.mem_cons_of_mem _ hx)) (by rw [List.append_assoc]; exact hp)
  refine ⟨es2,bv2,bk2,?_,h5,by rw [List.append_assoc] at h6; exact h6⟩
  rw [List.foldlM_cons,h1]
  exact h4
theorem aqW (hF:m7 p0) (hV:nV p0):∀ (f t:Nat) (es:List (Nat × Nat)) (bv:List Nat) (bk:List Bool),BI p0 es t [] bv bk→t≤es.length + 1→p0.fObjects.length + 2≤f + t →
  ∃ es' bv' bk',L0 (PK p0) f ((bv,bk),(dsF p0 es).drop t) = some (bv',bk')∧BI p0 es' (es'.length + 1) [] bv' bk'
 | 0,t,es,bv,bk,h,ht,hf=>by have:=h.few; omega
 | f + 1,t,es,bv,bk,h,ht,hf=>by
  unfold L0
  by_cases e:t < es.length + 1
  ·have hlt:t < (dsF p0 es).length:=by rw [A7]; exact e
   have hq:(dsF p0 es)[t]? = some ((dsF p0 es)[t]):=ck hlt
   have hqn:=h.le (List.getElem_mem hlt)
   generalize (dsF p0 es)[t] = q0 at hq hqn
   have hd:(dsF p0 es).drop t = q0 :: (dsF p0 es).drop (t + 1):=by
    rw [List.drop_eq_getElem_cons hlt]
    rw [ck hlt] at hq
    rw [Option.some.inj hq]
   have hto:(PK p0)[q0]? = some ((PK p0).getD q0 []):=by rw [jw,ck (by rw [aej]; omega)]; rfl
   obtain ⟨es1,bv1,bk1,h1,h2,h3⟩:=afZ hF ((PK p0).getD q0 []) [] es bv bk h hq (fun k hk=>by
    have:=(P4 hF hV hqn).1 hk
    exact ⟨this.lt,this⟩) (aNZ hF hV hqn)
   have h1':=h1
   rw [hd] at h1 ⊢
   simp only
   rw [hto]
   simp only
   rw [h1]
   simp only [List.drop_drop]
   rw [List.nil_append] at h3
   have h4:BI p0 es1 (t + 1) [] bv1 bk1:=by
    refine ⟨h3.l1,h3.l2,h3.kn,h3.nd,h3.par,h3.lex,fun e he=>.inl (by have:=h3.top e he; omega),fun t' u ht' hu v hv=>?_,fun v hv=>by simp at hv⟩
    by_cases e2:t' = t
    ·subst e2
     rw [h2] at hu; cases hu
     exact h3.cur v ((P4 hF hV hqn).2 hv)
    ·exact h3.all t' u (by omega) hu v hv
   have ht1:=b9 h2
   rw [A7] at ht1
   exact aqW hF hV f (t + 1) es1 bv1 bk1 h4 (by omega) (by omega)
  ·have et:t = es.length + 1:=by omega
   have hd:(dsF p0 es).drop t = []:=List.drop_eq_nil_of_le (by rw [A7]; omega)
   rw [hd]
   exact ⟨es,bv,bk,rfl,et ▸ h⟩
theorem aPZ (hF:m7 p0) (hV:nV p0):∃ es bv bk,L0 (PK p0) 100 (((List.replicate (p0.fObjects.length + 1) 0).set p0.fObjects.length p0.fObjects.length,(List.replicate (p0.fObjects.length + 1) false).set p0.fObjects.length true),[p0.fObjects.length]) = some (bv,bk)∧BI p0 es (es.length + 1) [] bv bk:=by
 have hn:=hF.n
 have h0:BI p0 [] 0 [] ((List.replicate (p0.fObjects.length + 1) 0).set p0.fObjects.length p0.fObjects.length) ((List.replicate (p0.fObjects.length + 1) false).set p0.fObjects.length true):=by
  refine ⟨by rw [uw,mw],by rw [uw,mw],fun k hk=>?_,by simp [dsF],fun j t' v hj=>by simp at hj,.nil,fun e he=>by simp at he,fun t' u ht=>by omega,fun v hv=>by simp at hv⟩
  rw [Hq (by rw [mw]; omega)]
  by_cases e:k = p0.fObjects.length
  ·rw [if_pos e]; simp [dsF,e]
  ·rw [if_neg e,jw,List.getElem?_replicate]
   have:k ∉ dsF p0 []:=by simp [dsF,e]
   split <;> simp [this]
 exact (aqW hF hV 100 0 [] _ _ h0 (by omega) (by omega)).imp fun es h=>h
end
open Go.Proofs Go.Proofs.Ytliccamocpglcab
open Go.RM (BQ L0)
section
variable {p0:api_Heap}
inductive Ch (es:List (Nat × Nat)):Nat→List Nat→Prop
 | root:Ch es 0 []
 | step {j t v:Nat} {l:List Nat}:Ch es t l→es[j]? = some (t,v)→Ch es (j + 1) (l++[v])
inductive Dn (es:List (Nat × Nat)):Nat→Nat→Nat→Prop
 | zero (a:Nat):Dn es a 0 a
 | succ {a j v r c:Nat}:es[j]? = some (a,v)→Dn es (j + 1) r c→Dn es a (r + 1) c
inductive To (p0:api_Heap) (w:Nat):Nat→Nat→Prop
 | one:To p0 w 1 w
 | more {r i k:Nat}:Edge p0 i k→To p0 w r k→To p0 w (r + 1) i
def LTo (p0:api_Heap) (w r i:Nat):Prop:=To p0 w r i∧∀ r',r' < r→¬ To p0 w r' i
theorem To.pos {w r i:Nat} (h:To p0 w r i):0 < r:=by cases h <;> omega
theorem LTo.uniq {w r r' i:Nat} (h:LTo p0 w r i) (h':LTo p0 w r' i):r = r':=by
 rcases Nat.lt_trichotomy r r' with h1 | h1 | h1
 ·exact absurd h.1 (h'.2 r h1)
 ·exact h1
 ·exact absurd h'.1 (h.2 r' h1)
theorem To.path {w r i m:Nat} (h:To p0 w r i):Pth p0 (-1) m i→Pth p0 (-1) (m + (r - 1)) w:=by
 induction h generalizing m with
 | one=>exact fun h=>h
 | @more r i k he ht ih =>
  intro hp
  have hpos:=ht.pos
  have:=ih (m:=m + 1) (.succ hp he (by omega))
  rw [show m + 1 + (r - 1) = m + (r + 1 - 1) from by omega] at this
  exact this
section
variable {es:List (Nat × Nat)} {bv:List Nat} {bk:List Bool}
theorem Aj {j t v:Nat} (h:es[j]? = some (t,v)):(dsF p0 es)[j + 1]? = some v:=by
 unfold dsF
 rw [List.getElem?_cons_succ,gw,h]; rfl
theorem BI.ch {T:Nat} {pre:List Nat} (h:BI p0 es T pre bv bk):∀ (m a:Nat),a≤m→a≤es.length→∃ l,Ch es a l:=by
 intro m
 induction m with
 | zero =>
  intro a ha _
  obtain rfl:a = 0:=by omega
  exact ⟨[],.root⟩
 | succ m ih =>
  intro a ha hl
  cases a with
  | zero=>exact ⟨[],.root⟩
  | succ j =>
   obtain ⟨⟨t,v⟩,hj⟩ : ∃ e,es[j]? = some e:=⟨_,ck (by omega)⟩
   have ht:=(h.par j t v hj).1
   obtain ⟨l,hc⟩:=ih t (by omega) (by omega)
   exact ⟨_,.step hc hj⟩
theorem Ch.uniq {a:Nat} {l l':List Nat} (h:Ch es a l):Ch es a l'→l = l':=by
 induction h generalizing l' with
 | root=>intro h'; cases h'; rfl
 | step hc hj ih =>
  intro h'
  cases h' with
  | step hc' hj' =>
   rw [hj] at hj'
   simp only [dw,Prod.mk.injEq] at hj'
   obtain ⟨rfl,rfl⟩:=hj'
   rw [ih hc']
theorem ahY {T:Nat} {pre:List Nat} (h:BI p0 es T pre bv bk) {j j' t t' v v':Nat} (hj:es[j]? = some (t,v)) (hj':es[j']? = some (t',v')) (hle:j≤j'):t≤t':=by
 rcases Nat.lt_or_ge j j' with h1 | h1
 ·have h2:=List.pairwise_iff_getElem.1 h.lex j j' (b9 hj) (b9 hj') h1
  rw [ck (b9 hj)] at hj
  rw [ck (b9 hj')] at hj'
  rw [Option.some.inj hj,Option.some.inj hj'] at h2
  have h3:t < t'∨t = t'∧v < v':=h2
  omega
 ·obtain rfl:j = j':=by omega
  rw [hj] at hj'
  simp only [dw,Prod.mk.injEq] at hj'
  omega
theorem aGY {T:Nat} {pre:List Nat} (h:BI p0 es T pre bv bk) {j j' t v v':Nat} (hj:es[j]? = some (t,v)) (hj':es[j']? = some (t,v')) (hlt:j < j'):v < v':=by
 have h2:=List.pairwise_iff_getElem.1 h.lex j j' (b9 hj) (b9 hj') hlt
 rw [ck (b9 hj)] at hj
 rw [ck (b9 hj')] at hj'
 rw [Option.some.inj hj,Option.some.inj hj'] at h2
 have h3:t < t∨t = t∧v < v':=h2
 omega
theorem aJW {T:Nat} {pre:List Nat} (h:BI p0 es T pre bv bk):∀ (m a b:Nat) (l l':List Nat),b≤m→Ch es a l→Ch es b l'→a≤b→l.length≤l'.length:=by
 intro m
 induction m with
 | zero =>
  intro a b l l' hb h1 h2 hab
  obtain rfl:a = 0:=by omega
  cases h1; exact Nat.zero_le _
 | succ m ih =>
  intro a b l l' hb h1 h2 hab
  cases h1 with
  | root=>exact Nat.zero_le _
  | step hc hj =>
   cases h2 with
   | root=>omega
   | step hc' hj' =>
    have h3:=ahY h hj hj' (by omega)
    have h4:=(h.par _ _ _ hj').1
    have:=ih _ _ _ _ (by omega) hc hc' h3
    rw [lw,lw]
    exact Nat.add_le_add_right this 1
theorem aqZ {T:Nat} {pre:List Nat} (h:BI p0 es T pre bv bk) {a:Nat} {l:List Nat} (hc:Ch es a l):∀ v,(dsF p0 es)[a]? = some v→Pth p0 (-1) l.length v:=by
 induction hc with
 | root =>
  intro v hv
  have:v = p0.fObjects.length:=by unfold dsF at hv; cases hv; rfl
  subst this
  exact .zero
 | @step j t x l hc hj ih =>
  intro v hv
  rw [Aj hj] at hv; cases hv
  obtain ⟨_,_,u,h3,h4,_⟩:=h.par _ _ _ hj
  rw [lw]
  exact .succ (ih u h3) h4 (by omega)
theorem aqJ (h:BI p0 es (es.length + 1) [] bv bk) {m v:Nat} (hp:Pth p0 (-1) m v):∃ a l,Ch es a l∧(dsF p0 es)[a]? = some v∧l.length≤m:=by
 induction hp with
 | zero=>exact ⟨0,[],.root,rfl,ik _⟩
 | @succ m x y p1 p2 p3 ih =>
  obtain ⟨a,l,hc,hd,hl⟩:=ih
  have ha:=b9 hd
  rw [A7] at ha
  obtain ⟨⟨t,v⟩,he,h1,h2⟩:=h.all a x (by omega) hd y p2
  obtain ⟨j,hj⟩:=List.getElem?_of_mem he
  obtain ⟨lt,hlt⟩:=h.ch t t (ik _) (by have:=(h.par _ _ _ hj).1; have:=b9 hj; omega)
  have h3:=aJW h a t a _ _ (ik _) hlt hc h2
  have e1:v = y:=h1
  subst e1
  exact ⟨j + 1,lt++[v],.step hlt hj,Aj hj,by rw [lw]; exact Nat.add_le_add_right (Nat.le_trans h3 hl) 1⟩
theorem aox {T:Nat} {pre:List Nat} (h:BI p0 es T pre bv bk) {a b v:Nat} (ha:(dsF p0 es)[a]? = some v) (hb:(dsF p0 es)[b]? = some v):a = b:=by
 have hnd:=h.nd
 rw [List.nodup_iff_pairwise_ne,List.pairwise_iff_getElem] at hnd
 have h1:=b9 ha
 have h2:=b9 hb
 rw [ck h1] at ha
 rw [ck h2] at hb
 rcases Nat.lt_trichotomy a b with h | h | h
 ·exact absurd ((Option.some.inj ha).trans (Option.some.inj hb).symm) (hnd a b h1 h2 h)
 ·exact h
 ·exact absurd ((Option.some.inj hb).trans (Option.some.inj ha).symm) (hnd b a h2 h1 h)
theorem K5 (h:BI p0 es (es.length + 1) [] bv bk) {a v:Nat} {l:List Nat} (hc:Ch es a l) (hd:(dsF p0 es)[a]? = some v):IW p0 (-1) l.length v:=by
 refine ⟨aqZ h hc v hd,fun m hm hp=>?_⟩
 obtain ⟨b,l',hc',hd',hl⟩:=aqJ h hp
 have:=aox h hd hd'
 subst this
 rw [hc.uniq hc'] at hm
 omega
theorem abW (h:BI p0 es (es.length + 1) [] bv bk) {w:Nat}:∀ (r a a' c i:Nat),Dn es a' r c→a < a'→(dsF p0 es)[a]? = some i→To p0 w (r + 1) i→(dsF p0 es)[c]? = some w→False
 | 0,a,a',c,i,hD,hlt,hi,hT,hw=>by
  cases hD
  cases hT with
  | one=>have:=aox h hi hw; omega
  | more _ ht=>have:=ht.pos; omega
 | r + 1,a,a',c,i,hD,hlt,hi,hT,hw=>by
  cases hD with
  | @succ _ j v _ _ hj hD =>
   cases hT with
   | @more _ _ y he ht =>
    have ha:=b9 hi
    rw [A7] at ha
    obtain ⟨⟨t2,y'⟩,hm,h1,h2⟩:=h.all a i (by omega) hi y he
    obtain ⟨j2,hj2⟩:=List.getElem?_of_mem hm
    have e1:y' = y:=h1
    subst e1
    have h2':t2≤a:=h2
    have hjj:j2 < j:=by
     rcases Nat.lt_or_ge j2 j with h3 | h3
     ·exact h3
     ·have:=ahY h hj hj2 h3; omega
    exact abW h r (j2 + 1) (j + 1) c y' hD (by omega) (Aj hj2) ht hw
theorem aUJ {T:Nat} {pre:List Nat} (h:BI p0 es T pre bv bk) {a r c:Nat} (hD:Dn es a r c):∀ u w,(dsF p0 es)[a]? = some u→(dsF p0 es)[c]? = some w→To p0 w (r + 1) u:=by
 induction hD with
 | zero a=>intro u w hu hw; rw [hu] at hw; cases hw; exact .one
 | @succ a j v r c hj hD ih =>
  intro u w hu hw
  obtain ⟨_,_,u',h3,h4,_⟩:=h.par _ _ _ hj
  rw [hu] at h3; cases h3
  exact .more h4 (ih v w (Aj hj) hw)
theorem aHW {a r c:Nat} (hD:Dn es a r c):∀ l l',Ch es a l→Ch es c l'→l'.length = l.length + r:=by
 induction hD with
 | zero a=>intro l l' h1 h2; rw [h1.uniq h2]; rfl
 | @succ a j v r c hj hD ih =>
  intro l l' h1 h2
  rw [ih _ _ (.step h1 hj) h2,lw,xw]; omega
theorem ahW (h:BI p0 es (es.length + 1) [] bv bk) {a j x r c u w:Nat} (hj:es[j]? = some (a,x)) (hD:Dn es (j + 1) r c) (hu:(dsF p0 es)[a]? = some u) (hw:(dsF p0 es)[c]? = some w) :
  Edge p0 u x∧LTo p0 w (r + 1) x∧∀ i,Edge p0 u i→To p0 w (r + 1) i→x≤i:=by
 obtain ⟨_,_,u',h3,h4,_⟩:=h.par _ _ _ hj
 rw [hu] at h3; cases h3
 have hal:=b9 hu
 rw [A7] at hal
 refine ⟨h4,⟨aUJ h hD x w (Aj hj) hw,fun r' hr' hT=>?_⟩,fun i hi hT=>?_⟩
 ·obtain ⟨l,hl⟩:=h.ch a a (ik _) (by omega)
  have hcl:=b9 hw
  rw [A7] at hcl
  obtain ⟨l',hl'⟩:=h.ch c c (ik _) (by omega)
  have e:=aHW hD _ _ (.step hl hj) hl'
  have h5:=(K5 h hl' hw).2
  have h6:=hT.path (aqZ h (.step hl hj) x (Aj hj))
  have hpos:=hT.pos
  rw [lw,xw] at e h6
  exact h5 _ (by omega) h6
 ·obtain ⟨⟨t2,i'⟩,hm,h1,h2⟩:=h.all a u (by omega) hu i hi
  obtain ⟨j2,hj2⟩:=List.getElem?_of_mem hm
  have e1:i' = i:=h1
  subst e1
  have h2':t2≤a:=h2
  rcases Nat.lt_trichotomy j2 j with h3 | h3 | h3
  ·exact (abW h r (j2 + 1) (j + 1) c i' hD (by omega) (Aj hj2) hT hw).elim
  ·subst h3
   rw [hj] at hj2
   simp only [dw,Prod.mk.injEq] at hj2
   omega
  ·have:=ahY h hj hj2 (by omega)
   have e2:t2 = a:=by omega
   subst e2
   have:=aGY h hj hj2 h3
   omega
theorem aTK {a:Nat} {l:List Nat} (hc:Ch es a l):∀ r c,Dn es a r c→Dn es 0 (l.length + r) c:=by
 induction hc with
 | root=>intro r c h; rw [List.length_nil,Nat.zero_add]; exact h
 | @step j t v l hc hj ih =>
  intro r c h
  have:=ih (r + 1) c (.succ hj h)
  rw [lw,xw,show l.length + 1 + r = l.length + (r + 1) from by omega]
  exact this
def idA (p0:api_Heap) (i:Nat):Int:=((p0.fObjects[i]?).map fun o=>o.fId).getD 0
theorem aLY {T:Nat} {pre:List Nat} (h:BI p0 es T pre bv bk) {a:Nat} {l:List Nat} (hc:Ch es a l):∀ v (acc:List Int) f,(dsF p0 es)[a]? = some v→l.length < f→BQ (oW p0) bv f v acc = some (acc++l.reverse.map (idA p0)):=by
 induction hc with
 | root =>
  intro v acc f hv hf
  have:v = p0.fObjects.length:=by unfold dsF at hv; cases hv; rfl
  subst this
  cases f with
  | zero=>simp at hf
  | succ f =>
   unfold BQ
   rw [pJ,if_pos rfl]; simp
 | @step j t x l hc hj ih =>
  intro v acc f hv hf
  rw [Aj hj] at hv; cases hv
  obtain ⟨_,h2,u,h3,_,h5⟩:=h.par _ _ _ hj
  rw [lw,xw] at hf
  cases f with
  | zero=>omega
  | succ f =>
   obtain ⟨o,ho⟩ : ∃ o,p0.fObjects[x]? = some o:=⟨_,ck h2⟩
   have hb:bv[x]? = some u:=by rw [← h5,jw,ck (by rw [h.l1]; omega)]; rfl
   unfold BQ
   rw [pJ,if_neg (by omega),T9,ho,hb]
   simp only [wk]
   rw [ih u _ f h3 (by omega),List.reverse_append,List.reverse_singleton,List.singleton_append,List.map_cons,List.append_assoc]
   have:idA p0 x = o.fId:=by unfold idA; rw [ho]; rfl
   rw [this]; rfl
end
end
open Go.Proofs Go.Proofs.Ytliccamocpglcab
open Go.RM (BQ L0 pathF)
section
variable {p0:api_Heap}
theorem aqV {id:Int} (h:q8 p0 id = false):CZ p0 id = (0,false):=by
 have h1:=RK p0 id
 rw [h] at h1
 unfold CZ at h1 ⊢
 cases he:p0.fObjects.findIdx? (fun o=>decide (o.fId = id)) with
 | none=>rfl
 | some k=>rw [he] at h1; cases h1
theorem aCJ {es:List (Nat × Nat)} {a k:Nat} {l:List Nat} (hc:Ch es a l) (hd:(dsF p0 es)[a]? = some k) (hk:k < p0.fObjects.length):0 < l.length:=by
 cases hc with
 | root =>
  unfold dsF at hd
  cases hd; omega
 | step=>rw [lw,xw]; omega
theorem awq (hF:m7 p0) (hs:∀ o∈p0.fObjects,o.fType.size≤9223372036854775807) (id:Int):(I2 p0 ≠ 0∧pK p0 id = some ([],I2 p0))∨(I2 p0 = 0∧nV p0 ∧
  ((q8 p0 id = false∧pK p0 id = some ([],5))∨∃ (k:Nat) (o:bY) (es:List (Nat × Nat)) (bv:List Nat) (bk:List Bool),p0.fObjects[k]? = some o∧o.fId = id∧BI p0 es (es.length + 1) [] bv bk ∧
   ((k ∉ dsF p0 es∧pK p0 id = some ([],5))∨∃ (a:Nat) (l:List Nat),Ch es a l∧(dsF p0 es)[a]? = some k∧pK p0 id = some (l.map (idA p0),0)))):=by
 have hn:=hF.n
 unfold pK pathF
 rw [alV hF hs]
 simp only [fw]
 by_cases h:I2 p0 = 0
 ·have hV:=aBz h
  refine .inr ⟨h,hV,?_⟩
  simp only [h,decide_true,cond_true,X9 p0 id (by omega)]
  cases hh:q8 p0 id with
  | false =>
   refine .inl ⟨rfl,?_⟩
   rw [aqV hh]
   simp
  | true =>
   obtain ⟨k,o,hk,rfl⟩:=MQ hh
   have hkl:=b9 hk
   obtain ⟨es,bv,bk,hb,hB⟩:=aPZ hF hV
   refine .inr ⟨k,o,es,bv,bk,hk,rfl,hB,?_⟩
   rw [LZ hV hk]
   obtain ⟨ls,ho,_⟩:=aSx hF hV
   have hall:(Go.RM.adds (Go.RM.fndN (d9 p0)) (oW p0) p0.fRoots).1.all (fun l=>decide (l.length≤1000)) = true:=by
    rw [tk]
    intro l hl
    exact decide_eq_true (Nat.le_trans ((aVJ hF).1 l hl) (by omega))
   have h1:decide ((0:Int)≤(k:Int)) = true:=decide_eq_true (by omega)
   have h2:decide (k < (oW p0).length) = true:=decide_eq_true (by rw [pJ]; omega)
   have hb':L0 (Go.RM.adds (Go.RM.fndN (d9 p0)) (oW p0) p0.fRoots).1 100 (((List.replicate ((oW p0).length + 1) 0).set (oW p0).length (oW p0).length,(List.replicate ((oW p0).length + 1) false).set (oW p0).length true),[(oW p0).length]) = some (bv,bk):=by
    rw [pJ]; exact hb
   simp only [h1,Int.toNat_natCast,h2,hall,Bool.and_self,cond_true,ho,fw,hb']
   have hbk:bk[k]? = some (bk.getD k false):=by rw [jw,ck (by rw [hB.l2]; omega)]; rfl
   have hkn:=hB.kn k (by omega)
   rw [hbk]
   cases hv:bk.getD k false with
   | false =>
    refine .inl ⟨fun hm=>(by have:=hkn.2 hm; rw [hv] at this; cases this),rfl⟩
   | true =>
    obtain ⟨a,ha⟩:=List.getElem?_of_mem (hkn.1 hv)
    have hal:=b9 ha
    rw [A7] at hal
    obtain ⟨l,hl⟩:=hB.ch a a (ik _) (by omega)
    refine .inr ⟨a,l,hl,ha,?_⟩
    have hll:=Lz (K5 hB hl ha)
    have hpos:=aCJ hl ha hkl
    have e:=aLY hB hl k [] 100 ha (by omega)
    rw [List.nil_append] at e
    simp only [e,fw,List.length_map,List.length_reverse,decide_eq_true (show l.length≤1000 by omega),decide_eq_true hpos,Bool.and_self,cond_true]
    rw [← List.map_reverse,List.reverse_reverse]
 ·exact .inl ⟨h,by rw [vk h]; rfl⟩
end
open Go.Proofs Go.Proofs.Ytliccamocpglcab
open Go.RM (sY topSort topF J2 outT L6 aiY cfT)
section
variable {p0:api_Heap}
end
open Go.Proofs Go.Proofs.Ytliccamocpglcab
section
variable {p0:api_Heap}
theorem To.least {w r i:Nat} (h:To p0 w r i):∃ r',r'≤r∧LTo p0 w r' i:=by
 induction r using Nat.strongRecOn with
 | ind r ih =>
  by_cases hh:∃ r',r' < r∧To p0 w r' i
  ·obtain ⟨r',h1,h2⟩:=hh
   obtain ⟨r2,h3,h4⟩:=ih r' h1 h2
   exact ⟨r2,by omega,h4⟩
  ·exact ⟨r,ik _,h,fun r' hr ht=>hh ⟨r',hr,ht⟩⟩
def Vt (p0:api_Heap) (w M q:Nat) (x:Int):Prop:=(∃ r:Nat,r≤M∧LTo p0 w r q∧x = (r:Int))∨((∀ r,r≤M→¬ LTo p0 w r q)∧x = 0)
theorem LTo.pos {w r i:Nat} (h:LTo p0 w r i):0 < r:=h.1.pos
theorem Vt.iff {w M q J:Nat} {x:Int} (h:Vt p0 w M q x) (hJ:J≤M) (h0:0 < J):x = (J:Int)↔LTo p0 w J q:=by
 rcases h with ⟨r,h1,h2,h3⟩ | ⟨h1,h2⟩
 ·constructor
  ·intro e
   have:r = J:=by omega
   exact this ▸ h2
  ·intro e
   rw [h3,h2.uniq e]
 ·constructor
  ·intro e; omega
  ·intro e; exact absurd e (h1 J hJ)
theorem Vt.zero {w M q:Nat} {x:Int} (h:Vt p0 w M q x):x = 0↔∀ r,r≤M→¬ LTo p0 w r q:=by
 rcases h with ⟨r,h1,h2,h3⟩ | ⟨h1,h2⟩
 ·have:=h2.pos
  constructor
  ·intro e; omega
  ·intro e; exact absurd h2 (e r h1)
 ·exact ⟨fun _=>h1,fun _=>h2⟩
theorem agq {w J i:Nat} (hJ:0 < J) (hno:∀ r,r≤J→¬ LTo p0 w r i):LTo p0 w (J + 1) i↔∃ k,k < p0.fObjects.length∧LTo p0 w J k∧Edge p0 i k:=by
 constructor
 ·rintro ⟨h1,h2⟩
  cases h1 with
  | one=>omega
  | @more _ _ k he ht =>
   exact ⟨k,he.lt,⟨ht,fun r' hr' ht'=>h2 (r' + 1) (by omega) (.more he ht')⟩,he⟩
 ·rintro ⟨k,_,hk,he⟩
  refine ⟨.more he hk.1,fun r' hr' ht'=>?_⟩
  obtain ⟨r2,h3,h4⟩:=ht'.least
  exact hno r2 (by omega) h4
theorem Vt.up {w J q:Nat} {x:Int} (h:Vt p0 w J q x) (hx:x ≠ 0):Vt p0 w (J + 1) q x:=by
 rcases h with ⟨r,h1,h2,h3⟩ | ⟨_,h2⟩
 ·exact .inl ⟨r,by omega,h2,h3⟩
 ·exact absurd h2 hx
theorem Vt.set {w J q:Nat} (hJ:0 < J) (h:Vt p0 w J q 0) (hc:∃ k,k < p0.fObjects.length∧LTo p0 w J k∧Edge p0 q k):Vt p0 w (J + 1) q ((J:Int) + 1) :=
 .inl ⟨J + 1,ik _,(agq hJ (h.zero.1 rfl)).2 hc,by omega⟩
theorem Vt.skip {w J q:Nat} (hJ:0 < J) (h:Vt p0 w J q 0) (hc : ¬ ∃ k,k < p0.fObjects.length∧LTo p0 w J k∧Edge p0 q k):Vt p0 w (J + 1) q 0:=by
 refine .inr ⟨fun r hr hl=>?_,rfl⟩
 by_cases e:r = J + 1
 ·subst e; exact hc ((agq hJ (h.zero.1 rfl)).1 hl)
 ·exact h.zero.1 rfl r (by omega) hl
theorem Vt.start {w q:Nat}:Vt p0 w 1 q (if q = w then 1 else 0):=by
 by_cases e:q = w
 ·subst e
  rw [if_pos rfl]
  exact .inl ⟨1,ik _,⟨.one,fun r' hr ht=>by have:=ht.pos; omega⟩,rfl⟩
 ·rw [if_neg e]
  refine .inr ⟨fun r hr hl=>?_,rfl⟩
  have hp:=hl.pos
  obtain rfl:r = 1:=by omega
  cases hl.1 with
  | one=>exact e rfl
  | more _ ht=>have:=ht.pos; omega
end
open Go.Proofs Go.Proofs.Ytliccamocpglcab
section
variable {p0:api_Heap}
def TC (p0:api_Heap) (out:List Int) (J i K:Nat):Prop:=out.getD i 0 = 0∧∃ k,k < K∧out.getD k 0 = (J:Int)∧Edge p0 i k
theorem aGV (hF:m7 p0) {out:List Int} (ho:out.length = p0.fObjects.length) {i J:Nat} (hi:i < p0.fObjects.length) (hJ:1≤J∧J≤1000) :
  Ok (loop (nY p0 (J:Int) (i:Int)) (out,0)) fun s=>s.length = p0.fObjects.length∧(∀ q,q ≠ i→s.getD q 0 = out.getD q 0)∧((TC p0 out J i p0.fObjects.length∧s.getD i 0 = (J:Int) + 1)∨(¬ TC p0 out J i p0.fObjects.length∧s.getD i 0 = out.getD i 0)):=by
 have hn:=hF.n
 refine Oq p0.fObjects.length (fun (s:List Int) (k:Int)=>s.length = p0.fObjects.length∧(∀ q,q ≠ i→s.getD q 0 = out.getD q 0)∧((TC p0 out J i k.toNat∧s.getD i 0 = (J:Int) + 1)∨(¬ TC p0 out J i k.toNat∧s.getD i 0 = out.getD i 0))) (by omega) ⟨ho,fun _ _=>rfl,.inr ⟨fun ⟨_,k,hk,_⟩=>by simp at hk,rfl⟩⟩ fun s k hI h0 h1=>?_
 obtain ⟨hl,hkeep,hI⟩:=hI
 obtain ⟨k,rfl⟩:=Int.eq_ofNat_of_zero_le h0
 simp only [Int.toNat_natCast] at hI
 have hsi:=P7 (l:=s) (i:=i) (by omega)
 unfold nY
 simp only [kx,hsi,fw]
 by_cases hk:(k:Int) < (s.length:Int)
 ·have hkn:k < p0.fObjects.length:=by omega
  simp only [hk,decide_true,cond_true,fw]
  by_cases hz:s.getD i 0 = 0
  ·simp only [hz,decide_true,cond_true]
   have hno : ¬ TC p0 out J i k∧s.getD i 0 = out.getD i 0:=by
    rcases hI with ⟨_,h⟩ | h
    ·omega
    ·exact h
   have hoi:out.getD i 0 = 0:=by rw [← hno.2]; exact hz
   have hsk:=P7 (l:=s) (i:=k) (by omega)
   have hskv:s.getD k 0 = out.getD k 0:=by
    by_cases e:k = i
    ·rw [e]; exact hno.2
    ·exact hkeep k e
   obtain ⟨oi,hoi'⟩ : ∃ o,p0.fObjects[i]? = some o:=⟨_,ck hi⟩
   obtain ⟨ok,hok⟩ : ∃ o,p0.fObjects[k]? = some o:=⟨_,ck hkn⟩
   have hre:=hF.refs oi (iw hoi')
   have hE:Edge p0 i k↔ok.fId∈oi.fRefs:=by
    unfold Edge zJ
    rw [if_neg (by omega),hoi']
    constructor
    ·rintro ⟨o,h1,h2⟩; rw [hok] at h1; cases h1; exact h2
    ·intro h; exact ⟨ok,hok,h⟩
   have hkt:((k:Int) + 1).toNat = k + 1:=by omega
   have hnext:∀ s':List Int,s'.length = p0.fObjects.length→(∀ q,q ≠ i→s'.getD q 0 = s.getD q 0)→(((out.getD k 0 = (J:Int)∧Edge p0 i k)∧s'.getD i 0 = (J:Int) + 1)∨(¬ (out.getD k 0 = (J:Int)∧Edge p0 i k)∧s'.getD i 0 = s.getD i 0)) →
     Ok (some (Sum.inl (s',w64 ((k:Int) + 1)))) (K9 (fun a:List Int × Int=>(k:Int) < (p0.fObjects.length:Int)∧a.2 = (k:Int) + 1∧(a.1.length = p0.fObjects.length∧(∀ q,q ≠ i→a.1.getD q 0 = out.getD q 0)∧((TC p0 out J i ((k:Int) + 1).toNat∧a.1.getD i 0 = (J:Int) + 1)∨(¬ TC p0 out J i ((k:Int) + 1).toNat∧a.1.getD i 0 = out.getD i 0)))) fun s:List Int=>s.length = p0.fObjects.length∧(∀ q,q ≠ i→s.getD q 0 = out.getD q 0)∧((TC p0 out J i p0.fObjects.length∧s.getD i 0 = (J:Int) + 1)∨(¬ TC p0 out J i p0.fObjects.length∧s.getD i 0 = out.getD i 0))):=by
    intro s' hl' hk' hat
    refine A9 ⟨by omega,fV (by omega),hl',fun q hq=>(hk' q hq).trans (hkeep q hq),?_⟩
    rw [hkt]
    rcases hat with ⟨⟨c1,c2⟩,c3⟩ | ⟨c1,c3⟩
    ·exact .inl ⟨⟨hoi,k,by omega,c1,c2⟩,c3⟩
    ·refine .inr ⟨fun ⟨_,k',hk1,c4,c5⟩=>?_,c3.trans hno.2⟩
     by_cases e:k' = k
     ·subst e; exact c1 ⟨c4,c5⟩
     ·exact hno.1 ⟨hoi,k',by omega,c4,c5⟩
   simp only [hsk,hoi',hok,fw,Y5 oi.fRefs ok.fId (by omega)]
   by_cases c1:s.getD k 0 = (J:Int)
   ·simp only [c1,decide_true,cond_true,fw]
    by_cases c2:ok.fId∈oi.fRefs
    ·simp only [c2,decide_true,cond_true,fw]
     rw [fV (n:=(J:Int) + 1) (by omega),Int.toNat_natCast]
     refine hnext _ (by rw [uw]; exact hl) (fun q hq=>by rw [N7 (by omega),if_neg hq]) (.inl ⟨⟨by rw [← hskv]; exact c1,hE.2 c2⟩,by rw [N7 (by omega),if_pos rfl]⟩)
    ·simp only [c2,decide_false,cond_false,fw]
     exact hnext s hl (fun _ _=>rfl) (.inr ⟨fun h=>c2 (hE.1 h.2),rfl⟩)
   ·simp only [c1,decide_false,cond_false,fw]
    exact hnext s hl (fun _ _=>rfl) (.inr ⟨fun h=>c1 (by rw [hskv]; exact h.1),rfl⟩)
  ·simp only [hz,decide_false,cond_false]
   refine yJ ⟨hl,hkeep,?_⟩
   rcases hI with ⟨⟨c0,k',c1,c2⟩,h⟩ | ⟨h1,h2⟩
   ·exact .inl ⟨⟨c0,k',by omega,c2⟩,h⟩
   ·exact .inr ⟨fun hc=>hz (h2.trans hc.1),h2⟩
 ·simp only [hk,decide_false,cond_false,fw]
  have e:k = p0.fObjects.length:=by omega
  subst e
  exact yJ ⟨hl,hkeep,hI⟩
def TL (p0:api_Heap) (w M:Nat) (out:List Int):Prop:=out.length = p0.fObjects.length∧∀ q,q < p0.fObjects.length→Vt p0 w M q (out.getD q 0)
theorem aFz (hF:m7 p0) {w J:Nat} (hJ:1≤J∧J≤1000) {out:List Int} (hT:TL p0 w J out):Ok (loop (nq p0 (J:Int)) (out,0)) fun s=>TL p0 w (J + 1) s:=by
 have hn:=hF.n
 refine Oq p0.fObjects.length (fun (s:List Int) (i:Int)=>s.length = p0.fObjects.length∧∀ q,q < p0.fObjects.length→((q:Int) < i→Vt p0 w (J + 1) q (s.getD q 0))∧(i≤(q:Int)→Vt p0 w J q (s.getD q 0))) (by omega) ⟨hT.1,fun q hq=>⟨fun h=>by omega,fun _=>hT.2 q hq⟩⟩ fun s i hI h0 h1=>?_
 obtain ⟨hl,hI⟩:=hI
 unfold nq
 obtain ⟨i,rfl⟩:=Int.eq_ofNat_of_zero_le h0
 refine wY (fun h=>?_) (fun h=>?_)
 ·have hi:i < p0.fObjects.length:=by omega
  refine m6 (aGV hF hl hi hJ) fun s' hs'=>?_
  obtain ⟨hl',hk',hs'⟩:=hs'
  refine A9 ⟨by omega,fV (by omega),hl',fun q hq=>⟨fun hlt=>?_,fun hle=>?_⟩⟩
  ·by_cases e:q = i
   ·subst e
    have hV:=(hI q hq).2 (Int.le_refl _)
    have hk:∀ k,k < p0.fObjects.length→(s.getD k 0 = (J:Int)↔LTo p0 w J k):=fun k hk=>by
     rcases Nat.lt_or_ge k q with h3 | h3
     ·exact ((hI k hk).1 (by omega)).iff (by omega) (by omega)
     ·exact ((hI k hk).2 (by omega)).iff (ik _) (by omega)
    rcases hs' with ⟨⟨c1,k,c2,c3,c4⟩,h2⟩ | ⟨hc,h2⟩
    ·rw [h2]
     rw [c1] at hV
     exact hV.set (by omega) ⟨k,c2,(hk k c2).1 c3,c4⟩
    ·rw [h2]
     by_cases hz:s.getD q 0 = 0
     ·rw [hz] at hV ⊢
      exact hV.skip (by omega) fun ⟨k,c1,c2,c3⟩=>hc ⟨hz,k,c1,(hk k c1).2 c2,c3⟩
     ·exact hV.up hz
   ·rw [hk' q e]; exact (hI q hq).1 (by omega)
  ·rw [hk' q (by omega)]; exact (hI q hq).2 (by omega)
 ·refine yJ ⟨hl,fun q hq=>(hI q hq).1 (by omega)⟩
theorem aAZ (hF:m7 p0) {w:Nat} {out:List Int} (hT:TL p0 w 1 out):Ok (loop (nW p0) (out,1)) fun s=>TL p0 w (p0.fObjects.length + 1) s:=by
 have hn:=hF.n
 refine H4 (fun s:List Int × Int=>∃ j:Nat,s.2 = (j:Int)∧1≤j∧j≤p0.fObjects.length + 1∧TL p0 w j s.1) (fun s=>(p0.fObjects.length + 1:Nat) - s.2.toNat) (fun s hs=>?_) ⟨1,rfl,ik _,by omega,hT⟩ (by simp [i1]; omega)
 obtain ⟨s,z⟩:=s
 obtain ⟨j,rfl,h1,h2,hL⟩:=hs
 unfold nW
 refine wY (fun h=>?_) (fun h=>?_)
 ·have hjl:j≤p0.fObjects.length:=by rw [hL.1] at h; omega
  refine m6 (aFz hF ⟨h1,by omega⟩ hL) fun s' hs'=>?_
  refine A9 ⟨⟨j + 1,?_,by omega,by omega,hs'⟩,?_⟩
  ·rw [fV (by omega)]; omega
  ·simp only
   rw [fV (by omega)]
   omega
 ·have:j = p0.fObjects.length + 1:=by rw [hL.1] at h; omega
  subst this
  exact yJ hL
theorem aTW (hF:m7 p0) {w:Nat} (hw:w < p0.fObjects.length):∃ d,nX p0 (w:Int) = some d∧TL p0 w (p0.fObjects.length + 1) d:=by
 have hn:=hF.n
 have hm:mkB 8 (p0.fObjects.length:Int) = true:=by unfold mkB; exact decide_eq_true (by omega)
 have hz:∀ v,(List.replicate p0.fObjects.length (0:Int)).getD v 0 = 0:=fun v=>by
  rw [jw,List.getElem?_replicate]
  split <;> rfl
 have hT:TL p0 w 1 ((List.replicate p0.fObjects.length (0:Int)).set w 1):=by
  refine ⟨by rw [uw,mw],fun q hq=>?_⟩
  rw [N7 (by rw [mw]; exact hw),hz]
  exact Vt.start
 obtain ⟨d,h1,h2⟩:=aAZ hF hT
 unfold nX
 simp only [hm,cond_true,Int.toNat_natCast,kx]
 rw [List.getElem?_replicate,if_pos hw]
 simp only [fw,h1]
 exact ⟨d,rfl,h2⟩
end
open Go.Proofs Go.Proofs.Ytliccamocpglcab
section
variable {p0:api_Heap}
theorem aPK (hF:m7 p0) {es:List (Nat × Nat)} {bv:List Nat} {bk:List Bool} (hB:BI p0 es (es.length + 1) [] bv bk) {w c:Nat} (hw:(dsF p0 es)[c]? = some w) {d:List Int} (hT:TL p0 w (p0.fObjects.length + 1) d)
  {a j x r u:Nat} (hj:es[j]? = some (a,x)) (hD:Dn es (j + 1) r c) (hu:(dsF p0 es)[a]? = some u) (hr:r≤p0.fObjects.length) {out:List Int} (ho:out.length≤1000) :
  Ok (loop (mX p0 d ((r + 1:Nat):Int) out (zJ p0 u)) 0) fun q=>q = (out++[idA p0 x],zJ p0 x):=by
 have hn:=hF.n
 obtain ⟨h1,h2,h3⟩:=ahW hB hj hD hu hw
 have hx:=h1.lt
 refine aSj p0.fObjects.length (fun i=>i≤(x:Int)) (by omega) (by omega) fun i hI h0 hin=>?_
 obtain ⟨i,rfl⟩:=Int.eq_ofNat_of_zero_le h0
 unfold mX
 refine wY (fun hk=>?_) (fun hk=>by omega)
 have hi:i < p0.fObjects.length:=by omega
 obtain ⟨o,hoi⟩ : ∃ o,p0.fObjects[i]? = some o:=⟨_,ck hi⟩
 have hdi:=P7 (l:=d) (i:=i) (by rw [hT.1]; exact hi)
 have hsl:(zJ p0 u).length≤1000000:=by
  unfold zJ
  split
  ·have:=hF.r; omega
  ·split
   ·rename_i o' ho'; have:=hF.refs o' (iw ho'); omega
   ·simp
 have hV:=(hT.2 i hi).iff (J:=r + 1) (by omega) (by omega)
 have hE:Edge p0 u i↔o.fId∈zJ p0 u:=by
  constructor
  ·rintro ⟨o',q1,q2⟩; rw [hoi] at q1; cases q1; exact q2
  ·intro h; exact ⟨o,hoi,h⟩
 simp only [kx,hdi,hoi,fw,Y5 (zJ p0 u) o.fId hsl]
 have hgo : ¬ (LTo p0 w (r + 1) i∧Edge p0 u i)→Ok (some (Sum.inl (w64 ((i:Int) + 1))):Option (Int ⊕ (List Int × List Int))) (K9 (fun a:Int=>(i:Int) < (p0.fObjects.length:Int)∧a = (i:Int) + 1∧(i:Int) + 1≤(x:Int)) fun q=>q = (out++[idA p0 x],zJ p0 x)):=by
  intro hc
  refine A9 ⟨by omega,fV (by omega),?_⟩
  have:i ≠ x:=fun e=>hc (by subst e; exact ⟨h2,h1⟩)
  omega
 by_cases c1:d.getD i 0 = ((r + 1:Nat):Int)
 ·simp only [c1,decide_true,cond_true,fw]
  by_cases c2:o.fId∈zJ p0 u
  ·simp only [c2,decide_true,cond_true]
   have hix:x = i:=by
    have:=h3 i (hE.2 c2) (hV.1 c1).1
    omega
   subst hix
   rw [aKW (by simp only [xw]; omega) (by simp only [xw]; omega)]
   refine yJ ?_
   have e1:idA p0 x = o.fId:=by unfold idA; rw [hoi]; rfl
   have e2:zJ p0 x = o.fRefs:=by unfold zJ; rw [if_neg (by omega),hoi]
   rw [e1,e2]
  ·simp only [c2,decide_false,cond_false]
   exact hgo fun h=>c2 (hE.1 h.2)
 ·simp only [c1,decide_false,cond_false,fw]
  exact hgo fun h=>c1 (hV.2 h.1)
theorem aJZ (hF:m7 p0) {es:List (Nat × Nat)} {bv:List Nat} {bk:List Bool} (hB:BI p0 es (es.length + 1) [] bv bk) {w c:Nat} (hw:(dsF p0 es)[c]? = some w) {d:List Int} (hT:TL p0 w (p0.fObjects.length + 1) d) {lc:List Nat} (hc:Ch es c lc) :
  Ok (loop (l8 p0 d) ((lc.length:Int),[],p0.fRoots)) fun q=>q = lc.map (idA p0):=by
 have hn:=hF.n
 have hlc:=Lz (K5 hB hc hw)
 have h0:Dn es 0 lc.length c:=by
  have:=aTK hc 0 c (.zero c)
  rw [Nat.add_zero] at this; exact this
 have hsr:zJ p0 p0.fObjects.length = p0.fRoots:=by unfold zJ; rw [if_pos rfl]
 refine H4 (fun s:Int × List Int × List Int=>∃ (a r u:Nat) (l:List Nat),Ch es a l∧(dsF p0 es)[a]? = some u∧Dn es a r c∧s.1 = (r:Int)∧s.2.1 = l.map (idA p0)∧s.2.2 = zJ p0 u) (fun s=>s.1.toNat) (fun s hs=>?_) ⟨0,lc.length,p0.fObjects.length,[],.root,rfl,h0,rfl,rfl,hsr.symm⟩ (by simp [i1]; omega)
 obtain ⟨z,out,fr⟩:=s
 obtain ⟨a,r,u,l,k1,k2,k3,rfl,rfl,rfl⟩:=hs
 have hlen:=aHW k3 _ _ k1 hc
 unfold l8
 refine wY (fun h=>?_) (fun h=>?_)
 ·cases k3 with
  | zero=>simp at h
  | @succ _ j x r _ hj hD =>
   refine m6 (aPK hF hB hw hT hj hD k2 (by omega) (by rw [List.length_map]; omega)) fun q hq=>?_
   subst hq
   refine A9 ⟨⟨j + 1,r,x,l++[x],.step k1 hj,Aj hj,hD,?_,?_,rfl⟩,?_⟩
   ·show w64 (((r + 1:Nat):Int) - 1) = (r:Int)
    rw [fV (by omega)]; omega
   ·show l.map (idA p0)++[idA p0 x] = (l++[x]).map (idA p0)
    rw [List.map_append]; rfl
   ·show (w64 (((r + 1:Nat):Int) - 1)).toNat < (((r + 1:Nat):Int)).toNat
    rw [fV (by omega)]; omega
 ·have hr:r = 0:=by omega
  subst hr
  cases k3
  refine yJ ?_
  show l.map (idA p0) = lc.map (idA p0)
  rw [k1.uniq hc]
theorem heapPaths_holds (p0:api_Heap) (p1:Int) (hs:∀ o∈p0.fObjects,o.fType.size≤9223372036854775807):eJ p0 p1 = some true:=by
 unfold eJ
 obtain ⟨b,hb,hbF⟩:=aRW p0
 rw [hb]
 simp only [fw]
 cases b with
 | false=>simp only [Bool.not_false,cond_true,apZ,fw]
 | true =>
  have hF:=hbF.1 rfl
  have hn:=hF.n
  simp only [Bool.not_true,cond_false]
  have fin:∀ (l:List Int) (e:Int),l.length≤1000000→pK p0 p1 = some (l,e)→eK p0 p1 = some (l,e)→((pK p0 p1).bind fun r3=>((eK p0 p1).bind fun r4=>((((d0 r3.1 r4.1).bind fun r6=>(bif r6 then (bif (decide (r3.2 = r4.2)) then ((gz ).bind fun r9=>some r9) else some false) else some false)):Option Bool).bind fun v5=>some v5))) = some true:=by
   intro l e hl h1 h2
   rw [h1,h2]
   simp only [fw,ajY l hl,cond_true,decide_true,apZ]
  rcases awq hF hs p1 with ⟨h1,h2⟩ | ⟨h1,hV,h⟩
  ·refine fin [] _ (by simp) h2 ?_
   unfold eK
   rw [H1 hF hs]
   simp only [fw,vk h1,Bool.not_false,cond_true]
  ·rcases h with ⟨h2,h3⟩ | ⟨k,o,es,bv,bk,hk,rfl,hB,h⟩
   ·refine fin [] _ (by simp) h3 ?_
    unfold eK
    rw [H1 hF hs,h1]
    simp only [fw,decide_true,Bool.not_true,cond_false,Hj p0 p1 (by omega),aqV h2,Bool.not_false,cond_true]
   ·have hkl:=b9 hk
    obtain ⟨d,hd,hDi⟩:=aOQ hF (-1)
    have hdk:=P7 (l:=d) (i:=k) (by rw [hDi.1]; exact hkl)
    rcases h with ⟨h2,h3⟩ | ⟨c,lc,hc,hw,h3⟩
    ·refine fin [] _ (by simp) h3 ?_
     have hz:d.getD k 0 = 0:=by
      rw [hDi.zero hkl]
      rintro ⟨m,hm⟩
      obtain ⟨a,l,_,q2,_⟩:=aqJ hB hm
      exact h2 (iw q2)
     unfold eK
     rw [H1 hF hs,h1]
     simp only [fw,decide_true,Bool.not_true,cond_false,Hj p0 o.fId (by omega),LZ hV hk,hd,kx,hdk,hz,cond_true]
    ·have hL:=K5 hB hc hw
     have hlc:=Lz hL
     have hpos:=aCJ hc hw hkl
     have hdv:d.getD k 0 = (lc.length:Int):=by
      rcases hDi.2 k hkl with ⟨_,q⟩ | ⟨m,_,q2,q3⟩
      ·exact absurd hL.1 (q _)
      ·rw [q2,Tq q3 hL]
     have hne : ¬ (lc.length:Int) = 0:=by omega
     obtain ⟨td,ht1,ht2⟩:=aTW hF hkl
     obtain ⟨q,q1,q2⟩:=aJZ hF hB hw ht2 hc
     refine fin (lc.map (idA p0)) 0 (by rw [List.length_map]; omega) h3 ?_
     unfold eK
     rw [H1 hF hs,h1]
     simp only [fw,decide_true,Bool.not_true,cond_false,Hj p0 o.fId (by omega),LZ hV hk,hd,kx,hdk,hdv,vk hne,ht1,q1,q2]
end
open Go.Proofs Go.Proofs.Ytliccamocpglcab
section
variable {p0:api_Heap}
end
end Go.VM
