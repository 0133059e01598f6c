/- The law holds: plain mathematics on what the functions compute. -/
import Derived.Test.YtliccamocpglcaaL51B
namespace Go.VM
def e9 {α ρ:Type} (g:Nat→α→Option ρ):List α→Nat→Option ρ
 | [],_=>none
 | y :: ys,i=>match g i y with
  | some r=>some r
  | none=>e9 g ys (i + 1)
theorem A0 {α ρ:Type} {g:Nat→α→Option ρ}:∀ {xs:List α} {i:Nat},e9 g xs i = none↔∀ j y,xs[j]? = some y→g (i + j) y = none
 | [],i=>by simp [e9]
 | y :: ys,i=>by
  simp only [e9]
  cases h:g i y with
  | some r =>
   simp only [reduceCtorEq,false_iff]
   intro hx
   have:=hx 0 y rfl
   rw [Nat.add_zero,h] at this; simp at this
  | none =>
   rw [A0 (xs:=ys) (i:=i + 1)]
   constructor
   ·intro hx j y' hj
    cases j with
    | zero=>simp at hj; subst hj; exact h
    | succ j=>have:=hx j y' (by simpa using hj); rwa [show i + 1 + j = i + (j + 1) from by omega] at this
   ·intro hx j y' hj
    have:=hx (j + 1) y' (by simpa using hj)
    rwa [show i + (j + 1) = i + 1 + j from by omega] at this
theorem wY {α ρ:Type} {g:Nat→α→Option ρ} {r:ρ}:∀ {xs:List α} {i:Nat},e9 g xs i = some r→∃ j y,xs[j]? = some y∧g (i + j) y = some r∧∀ k z,k < j→xs[k]? = some z→g (i + k) z = none
 | [],i,h=>by simp [e9] at h
 | y :: ys,i,h=>by
  simp only [e9] at h
  cases hg:g i y with
  | some r' =>
   rw [hg] at h; cases h
   exact ⟨0,y,rfl,hg,fun k z hk=>by omega⟩
  | none =>
   rw [hg] at h
   obtain ⟨j,z,h1,h2,h3⟩:=wY h
   refine ⟨j + 1,z,by simpa using h1,by rw [← h2]; congr 1; omega,fun k u hk hu=>?_⟩
   cases k with
   | zero=>simp at hu; subst hu; exact hg
   | succ k=>have:=h3 k u (by omega) (by simpa using hu); rwa [show i + 1 + k = i + (k + 1) from by omega] at this
theorem RZ {α ρ:Type} (g:Nat → α → Option ρ) (e:ρ):∀ (xs:List α) (i:Nat),V1 (fun i y (_:Unit) => match g i y with | some r => Sum.inr r | none => .inl ()) (fun _ => e) xs i () = (e9 g xs i).getD e
 | [],_=>rfl
 | y :: ys,i=>by
  simp only [V1,e9]
  cases g i y with
  | some r=>rfl
  | none=>exact RZ g e ys (i + 1)
theorem afQ {α ρ:Type} {step:Int→Option (Int ⊕ ρ)} (xs:List α) (g:Nat→α→Option ρ) (e:ρ) (hl:xs.length < lY)
  (h1:∀ (i:Nat) y,xs[i]? = some y → step (i:Int) = some (match g i y with | some r => .inr r | none => .inl ((i:Int) + 1))) (h2:step (xs.length:Int) = some (.inr e)):loop step 0 = some ((e9 g xs 0).getD e) := by
 have := Vx (σ := Unit) (step := step) xs (fun i _ => (i:Int)) (fun i y _ => match g i y with | some r => .inr r | none => .inl ()) (fun _ => e) hl
  (fun i y s hy=>by
   rw [h1 i y hy]
   cases g i y <;> simp)
  (fun _=>h2) ()
 rw [show (0:Int) = ((0:Nat):Int) from rfl,this,RZ]
theorem fZ {α:Type} {xs:List α} {i:Nat} {y:α} (h:xs[i]? = some y):i < xs.length:=(cw.1 h).1
theorem tz {i:Nat} (h:i < 9223372036854775807):w64 ((i:Int) + 1) = (i:Int) + 1:=kK (by omega)
end Go.VM
namespace Go.VM
def Ok {α:Type} (x:Option α) (P:α→Prop):Prop:=∃ r,x = some r∧P r
def Yes {α:Type}:α→Prop:=fun _=>True
def W0 {α β:Type} (A:α→Prop) (B:β→Prop):α ⊕ β→Prop
 | .inl a=>A a
 | .inr b=>B b
theorem aBK {α:Type} {P:α→Prop} {r:α} (h:P r):Ok (some r) P:=⟨r,rfl,h⟩
theorem awY {α β:Type} {A:α→Prop} {B:β→Prop} {a:α} (h:A a):Ok (some (.inl a)) (W0 A B):=⟨_,rfl,h⟩
theorem aKV {α β:Type} {A:α→Prop} {B:β→Prop} {b:β} (h:B b):Ok (some (.inr b)) (W0 A B):=⟨_,rfl,h⟩
theorem qK {α β:Type} {x:Option α} {f:α→Option β} {Q:α→Prop} {P:β→Prop} (hx:Ok x Q) (hf:∀ r,Q r→Ok (f r) P):Ok (x.bind f) P:=by
 obtain ⟨r,h1,h2⟩:=hx
 subst h1; exact hf r h2
theorem asV {α β γ:Type} {x:Option (α ⊕ γ)} {f:α ⊕ γ→Option β} {Q:α ⊕ γ→Prop} {P:β→Prop} (hx:Ok x Q) (hf:∀ r,Q (.inl r)→Ok (f (.inl r)) P) (hg:∀ r,Q (.inr r)→Ok (f (.inr r)) P):Ok (x.bind f) P :=
 qK hx (fun r => match r with | .inl a => hf a | .inr b => hg b)
theorem C1 {α:Type} {b:Bool} {x y:Option α} {P:α→Prop} (h1:b = true→Ok x P) (h2:b = false→Ok y P):Ok (cond b x y) P:=by
 cases b
 ·exact h2 rfl
 ·exact h1 rfl
theorem Ok.mono {α:Type} {x:Option α} {P Q:α→Prop} (h:Ok x P) (hq:∀ r,P r→Q r):Ok x Q:=by
 obtain ⟨r,h1,h2⟩:=h; exact ⟨r,h1,hq r h2⟩
theorem Ok.yes {α:Type} {x:Option α} {P:α→Prop} (h:Ok x P):Ok x Yes:=h.mono (fun _ _=>trivial)
theorem IQ {α:Type} {xs:List α} {i:Int} (h1:0≤i) (h2:i < xs.length):Ok (idx xs i) (fun y=>xs[i.toNat]? = some y):=by
 obtain ⟨n,rfl⟩:=Int.eq_ofNat_of_zero_le h1
 have h3:n < xs.length:=by omega
 rw [m8]
 exact ⟨xs[n],by simp [h3],by simp [h3]⟩
theorem akZ {S ρ:Type} {step:S→Option (S ⊕ ρ)} (Inv:S→Prop) (m:S→Nat) {Post:ρ→Prop}
  (h:∀ s,Inv s→Ok (step s) (W0 (fun s'=>Inv s'∧m s' < m s) Post)) {s:S} (hs:Inv s) (hm:m s < lY):Ok (loop step s) Post:=by
 refine atV Inv m Post (fun s hs=>?_) hs hm
 obtain ⟨r,h1,h2⟩:=h s hs
 cases r with
 | inl a=>exact Or.inl ⟨a,h1,h2⟩
 | inr b=>exact Or.inr ⟨b,h1,h2⟩
theorem aLV {ρ:Type} {step:Int→Option (Int ⊕ ρ)} (n:Nat) {Post:ρ→Prop} (hn:n≤9223372036854775807)
  (h:∀ i:Int,0≤i→i≤n→Ok (step i) (W0 (fun a=>i < n∧a = i + 1) Post)):Ok (loop step 0) Post:=by
 refine akZ (fun i:Int=>0≤i∧i≤(n:Int)) (fun i:Int=>((n:Int) - i).toNat) (fun i hi=>(h i hi.1 hi.2).mono ?_) ⟨by omega,by omega⟩ (by simp [lY]; omega)
 rintro (a | b) hr
 ·obtain ⟨h1,rfl⟩ : i < n∧a = i + 1:=hr
  exact ⟨⟨by omega,by omega⟩,by omega⟩
 ·exact hr
theorem R7 {α:Type} {r:α}:Ok (some r) Yes:=⟨r,rfl,trivial⟩
theorem I3 {α β:Type} {B:β→Prop} {a:α}:Ok (some (.inl a)) (W0 Yes B):=⟨_,rfl,trivial⟩
theorem KK {α β:Type} {A:α→Prop} {b:β}:Ok (some (.inr b)) (W0 A Yes):=⟨_,rfl,trivial⟩
theorem J6 {ρ:Type} {i:Int} {n:Nat} {P:ρ→Prop} (h1:0≤i) (h2:i < (n:Int)) (h3:n≤9223372036854775807):Ok (some (.inl (w64 (i + 1)))) (W0 (fun a:Int=>i < (n:Int)∧a = i + 1) P) :=
 awY ⟨h2,kK (by omega)⟩
theorem K2 {α:Type} {p:Prop} [Decidable p] {x y:Option α} {P:α→Prop} (h1:p→Ok x P) (h2 : ¬p→Ok y P):Ok (cond (decide p) x y) P :=
 C1 (fun h=>h1 (of_decide_eq_true h)) (fun h=>h2 (of_decide_eq_false h))
theorem KV {α:Type} {p:Prop} [Decidable p] {x y:Option α} {P:α→Prop} (h1 : ¬p→Ok x P) (h2:p→Ok y P):Ok (cond (!decide p) x y) P:=by
 by_cases h:p
 ·simpa [h] using h2 h
 ·simpa [h] using h1 h
theorem OW {α:Type} {b:Bool} {x y:Option α} {P:α→Prop} (h1:b = false→Ok x P) (h2:b = true→Ok y P):Ok (cond (!b) x y) P:=by
 cases b
 ·exact h1 rfl
 ·exact h2 rfl
theorem aKZ {σ ρ:Type} {step:σ × Int→Option ((σ × Int) ⊕ ρ)} (n:Nat) (Inv:σ→Int→Prop) {Post:ρ→Prop} (hn:n≤9223372036854775807) {s0:σ} (h0:Inv s0 0)
  (h:∀ (s:σ) (i:Int),Inv s i→0≤i→i≤n→Ok (step (s,i)) (W0 (fun a=>i < n∧a.2 = i + 1∧Inv a.1 (i + 1)) Post)):Ok (loop step (s0,0)) Post:=by
 refine akZ (fun s:σ × Int=>Inv s.1 s.2∧0≤s.2∧s.2≤(n:Int)) (fun s:σ × Int=>((n:Int) - s.2).toNat) (fun s hi=>(h s.1 s.2 hi.1 hi.2.1 hi.2.2).mono ?_) ⟨h0,by simp,by simp⟩ (by simp [lY]; omega)
 rintro (⟨a,j⟩ | b) hr
 ·obtain ⟨h1,h2,h3⟩ : s.2 < n∧j = s.2 + 1∧Inv a (s.2 + 1):=hr
  subst h2
  exact ⟨⟨h3,by simp; omega,by simp; omega⟩,by simp; omega⟩
 ·exact hr
theorem aAZ {σ ρ:Type} {s:σ} {i:Int} {n:Nat} {Inv:σ→Int→Prop} {P:ρ→Prop} (hI:Inv s (i + 1)) (h1:0≤i) (h2:i < (n:Int)) (h3:n≤9223372036854775807):Ok (some (.inl (s,w64 (i + 1)))) (W0 (fun a:σ × Int=>i < (n:Int)∧a.2 = i + 1∧Inv a.1 (i + 1)) P) :=
 awY ⟨h2,kK (by omega),hI⟩
theorem LY (c:Int):Ok (mW c) Yes:=by
 unfold mW d9 j0
 repeat' (first | (with_reducible first | exact R7 | exact KK | exact I3 | refine KV (fun _=>?_) fun _=>?_ | refine K2 (fun _=>?_) fun _=>?_ | refine OW (fun _=>?_) fun _=>?_ | refine C1 (fun _=>?_) fun _=>?_) | (with_reducible refine J6 ?_ ?_ ?_ <;> (first | assumption | omega | rw [kK] <;> omega)) | with_reducible refine qK (IQ (by (first | assumption | omega | rw [kK] <;> omega)) (by (first | assumption | omega | rw [kK] <;> omega))) (fun _ _=>?_) | (with_reducible refine qK (Q:=Yes) ?_ fun _ _=>?_) | dsimp only)
theorem SJ (s:ByteArray) (h:s.size≤9223372036854775807):Ok (kq s) Yes:=by
 unfold kq
 refine qK (Q:=Yes) ?_ (fun v _=>?_)
 ·repeat' (first | (with_reducible first | exact R7 | exact KK | exact I3 | refine KV (fun _=>?_) fun _=>?_ | refine K2 (fun _=>?_) fun _=>?_ | refine OW (fun _=>?_) fun _=>?_ | refine C1 (fun _=>?_) fun _=>?_) | (with_reducible refine J6 ?_ ?_ ?_ <;> (first | assumption | omega | rw [kK] <;> omega)) | with_reducible refine qK (IQ (by (first | assumption | omega | rw [kK] <;> omega)) (by (first | assumption | omega | rw [kK] <;> omega))) (fun _ _=>?_) | (with_reducible refine qK (Q:=Yes) ?_ fun _ _=>?_) | dsimp only)
 refine C1 (fun _=>aBK trivial) (fun _=>?_)
 have e:s.data.toList.length = s.size:=by rw [Array.length_toList]; rfl
 refine asV (Q:=Yes) (aLV s.size h fun i h1 h2=>?_) (fun _ _=>?_) (fun _ _=>?_)
 ·unfold lZ
  repeat' (first | (with_reducible first | exact R7 | exact KK | exact I3 | refine KV (fun _=>?_) fun _=>?_ | refine K2 (fun _=>?_) fun _=>?_ | refine OW (fun _=>?_) fun _=>?_ | refine C1 (fun _=>?_) fun _=>?_) | (with_reducible refine J6 ?_ ?_ ?_ <;> (first | assumption | omega | rw [kK] <;> omega)) | with_reducible refine qK (IQ (by (first | assumption | omega | rw [kK] <;> omega)) (by (first | assumption | omega | rw [kK] <;> omega))) (fun _ _=>?_) | (with_reducible refine Ok.yes (IQ ?_ (by rw [e]; (first | assumption | omega | rw [kK] <;> omega))) <;> (first | assumption | omega | rw [kK] <;> omega)) | (with_reducible refine Ok.yes (LY _) <;> (first | assumption | omega | rw [kK] <;> omega)) | (with_reducible refine qK (Q:=Yes) ?_ fun _ _=>?_) | dsimp only)
 ·repeat' (first | (with_reducible first | exact R7 | exact KK | exact I3 | refine KV (fun _=>?_) fun _=>?_ | refine K2 (fun _=>?_) fun _=>?_ | refine OW (fun _=>?_) fun _=>?_ | refine C1 (fun _=>?_) fun _=>?_) | (with_reducible refine J6 ?_ ?_ ?_ <;> (first | assumption | omega | rw [kK] <;> omega)) | with_reducible refine qK (IQ (by (first | assumption | omega | rw [kK] <;> omega)) (by (first | assumption | omega | rw [kK] <;> omega))) (fun _ _=>?_) | (with_reducible refine qK (Q:=Yes) ?_ fun _ _=>?_) | dsimp only)
 ·repeat' (first | (with_reducible first | exact R7 | exact KK | exact I3 | refine KV (fun _=>?_) fun _=>?_ | refine K2 (fun _=>?_) fun _=>?_ | refine OW (fun _=>?_) fun _=>?_ | refine C1 (fun _=>?_) fun _=>?_) | (with_reducible refine J6 ?_ ?_ ?_ <;> (first | assumption | omega | rw [kK] <;> omega)) | with_reducible refine qK (IQ (by (first | assumption | omega | rw [kK] <;> omega)) (by (first | assumption | omega | rw [kK] <;> omega))) (fun _ _=>?_) | (with_reducible refine qK (Q:=Yes) ?_ fun _ _=>?_) | dsimp only)
theorem aAV {S ρ:Type} {step:S→Option (S ⊕ ρ)} {Q:ρ→Prop} (h:∀ s r,step s = some (.inr r)→Q r) {s:S} {r:ρ} (hr:loop step s = some r):Q r:=by
 have key:∀ n s,iter step n s = some r→Q r:=by
  intro n
  induction n with
  | zero=>intro s h; simp [iter] at h
  | succ n ih =>
   intro s hs
   rw [Cz] at hs
   cases e:step s with
   | none=>rw [e] at hs; simp at hs
   | some x =>
    rw [e] at hs
    cases x with
    | inl s'=>exact ih s' hs
    | inr r'=>simp only [dw] at hs; subst hs; exact h s _ e
 exact key _ s hr
theorem aoz (y:UInt8):mW (y.toNat:Int) = jW (y.toNat:Int):=by
 have h:(List.range 256).all (fun n=>decide (mW (n:Int) = jW (n:Int))) = true:=by kernel_rfl
 exact of_decide_eq_true (qw.1 h y.toNat (List.mem_range.2 (UInt8.toNat_lt y)))
theorem arX (s:ByteArray):s = ⟨#[]⟩↔(s.size:Int) < 1:=by
 constructor
 ·intro h; subst h; decide
 ·intro h
  cases s with
  | mk a =>
   have:a.size = 0:=by
    have:(ByteArray.mk a).size = a.size:=rfl
    omega
   rw [Array.eq_empty_of_size_eq_zero this]
theorem aCq (s:ByteArray):kq s = jq s:=by
 unfold kq jq
 have h1:lZ s = lq s:=by
  funext i
  simp only [lZ,lq,aoz]
 have h2:decide (s = ⟨#[]⟩) = decide ((ByteArray.size s:Int) < 1):=decide_eq_decide.2 (arX s)
 rw [h1,h2] <;> rfl
theorem aDK {s:ByteArray} {r:Int} (h:kq s = some r):r = 0∨r = 3:=by
 unfold kq at h
 obtain ⟨v,_,h⟩:=bB h
 cases v with
 | true=>simp at h; exact .inr h.symm
 | false =>
  obtain ⟨q,hq,h⟩:=bB (show (loop (lZ s) 0).bind _ = some r from h)
  have:=aAV (Q:=fun q:Unit ⊕ Int=>∀ x,q = .inr x→x = 3) (fun i r hr=>by
   unfold lZ at hr
   by_cases hi:i < (ByteArray.size s:Int)
   ·simp only [hi,decide_true,cond_true] at hr
    obtain ⟨y,_,hr⟩:=bB hr
    obtain ⟨z,_,hr⟩:=bB hr
    cases z
    ·simp only [Bool.not_false,cond_true,dw,Sum.inr.injEq] at hr
     subst hr; intro x hx; cases hx; rfl
    ·simp at hr
   ·simp [hi] at hr; subst hr; intro x hx; cases hx) hq
  cases q with
  | inl _=>simp at h; exact .inl h.symm
  | inr x=>simp at h; subst h; exact .inr (this _ rfl)
theorem F2 {κ ν:Type} [DecidableEq κ] (k k':κ) (v:ν):∀ (m:List (κ × ν)),xx k (KY k' v m) = if k = k' then some v else xx k m
 | []=>by simp [KY,xx]
 | p :: r=>by
  simp only [KY]
  by_cases e:k' = p.1
  ·subst e
   simp only [nw,xx]
   by_cases e2:k = p.1 <;> simp [e2]
  ·rw [if_neg e]
   simp only [xx]
   rw [F2 k k' v r]
   by_cases e2:k = p.1
   ·subst e2
    rw [if_pos rfl,if_pos rfl,if_neg (fun h=>e h.symm)]
   ·rw [if_neg e2,if_neg e2]
open Go.Proofs Go.Proofs.Ytliccamocpglcaa
def RX:api_Heap:={ fObjects:=[⟨1,10,⟨#[116]⟩,[2,3]⟩,⟨2,10,⟨#[116]⟩,[4]⟩,⟨3,10,⟨#[116]⟩,[4]⟩,⟨4,10,⟨#[116]⟩,[]⟩],fRoots:=[1] }
theorem aMV:ej = some RX:=by kernel_rfl
theorem atK:t6 RX = some ([true,true,true,true],0):=by kernel_rfl
theorem aKY:xj RX = some ([-1,0,0,0],0):=by kernel_rfl
theorem aKz:BX RX = some ([40,10,10,10],0):=by kernel_rfl
theorem aFx:K7 RX 4 = some ([1,2,4],0):=by kernel_rfl
def ex4:List (Fin (w8 RX).length):=[⟨0,by decide⟩,⟨1,by decide⟩,⟨2,by decide⟩,⟨3,by decide⟩]
theorem aCX:KZ RX 2 = some (Go.RM.outT (w8 RX) ((Go.RM.topSort (w8 RX) [40,10,10,10,40] ex4).take 2),0):=by kernel_rfl
theorem aKj:KZ RX 2 = some ([1,2],0):=by
 rw [aCX]
 have h:Go.RM.topSort (w8 RX) [40,10,10,10,40] ex4 = ex4:=by
  unfold Go.RM.topSort
  exact List.mergeSort_of_pairwise (by simp only [Go.RM.cf_lt]; decide +kernel)
 rw [h]
 rfl
theorem V2:ij = some true:=by
 unfold ij
 simp only [aMV,atK,aKY,aKz,aFx,aKj,gw]
 kernel_rfl
open Go.Proofs Go.Proofs.Ytliccamocpglcaa
theorem HX {α ρ σ:Type} (g:Nat→α→Option ρ) (f:ρ→σ):∀ (xs:List α) (i:Nat),e9 (fun i y=>(g i y).map f) xs i = (e9 g xs i).map f
 | [],_=>rfl
 | y :: ys,i=>by
  simp only [e9]
  cases g i y with
  | some r=>rfl
  | none=>exact HX g f ys (i + 1)
def Tz {ρ:Type}:Option ρ→Unit ⊕ ρ
 | some r=>.inr r
 | none=>.inl ()
theorem qx {α ρ:Type} {step:Int→Option (Int ⊕ (Unit ⊕ ρ))} (xs:List α) (g:Nat→α→Option ρ) (hl:xs.length≤1000000)
  (h1:∀ (i:Nat) y,xs[i]? = some y → step (i:Int) = some (match g i y with | some r => .inr (.inr r) | none => .inl ((i:Int) + 1))) (h2:step (xs.length:Int) = some (.inr (.inl ()))):loop step 0 = some (Tz (e9 g xs 0)) := by
 rw [afQ xs (fun i y=>(g i y).map Sum.inr) (.inl ()) (by simp [lY]; omega) (fun i y hy=>by rw [h1 i y hy]; cases g i y <;> rfl) h2,HX]
 cases e9 g xs 0 <;> rfl
def OX (l:List Int) (i:Nat):Int:=l.getD (i - 1) 0
theorem Z2 {l:List Int} {i:Nat} {y:Int} (hy:l[i]? = some y) (hi:0 < i) (h:l.length≤1000000):idx l (w64 ((i:Int) - 1)) = some (OX l i):=by
 have:=fZ hy
 rw [kK (by omega)]
 have e:(i:Int) - 1 = ((i - 1:Nat):Int):=by omega
 rw [e,m8,OX,yw,ck (by omega)]
 rfl
def NY (p:Int→Bool) (l:List Int) (i:Nat) (n:Int):Option Int:=if p n = false then some 5 else if 0 < i∧n≤OX l i then some 11 else none
def SX (p:Int→Bool) (l:List Int):Int:=(e9 (NY p l) l 0).getD 0
def rK (p0:api_Heap) (n:Int):Bool:=p0.fObjects.any fun o=>decide (o.fId = n)
theorem aAQ (l:List Int) (m:List (Int × Int)) (hl:l.length≤1000000):f0 l m = some (SX (fun n=>(xx n m).isSome) l):=by
 unfold f0
 rw [qx (step:=gQ l m) l (NY (fun n=>(xx n m).isSome) l) hl (fun i y hy=>by
  have hil:=fZ hy
  have hw:=tz (show i < 9223372036854775807 by omega)
  unfold gQ NY
  simp only [show ((i:Int) < (l.length:Int)) from by omega,decide_true,cond_true,m8,hy,gw]
  by_cases hm:(xx y m).isSome = true
  case neg=>rw [Bool.not_eq_true] at hm; simp [hm]
  case pos =>
   simp only [hm,Bool.not_true,cond_false,Bool.true_eq_false,mw]
   by_cases h0:0 < i
   ·simp only [show (0:Int) < (i:Int) from by omega,decide_true,cond_true,Z2 hy h0 hl,gw]
    by_cases h1:y≤OX l i
    ·simp [h0,h1]
    ·rw [rk h1]
     simp [h0,h1,hw]
   ·simp only [show ¬ (0:Int) < (i:Int) from by omega,decide_false,cond_false,gw]
    simp [h0,hw]) (by
  unfold gQ
  simp)]
 unfold SX
 cases e9 (NY (fun n=>(xx n m).isSome) l) l 0 <;> rfl
def E9 (p0:api_Heap) (n:Int):Int × Bool:=match p0.fObjects.findIdx? (fun o=>decide (o.fId = n)) with
 | some k=>((k:Int),true)
 | none=>(0,false)
theorem HW (n:Int):∀ (ys:List bX) (j:Nat),e9 (fun i (o:bX)=>if o.fId = n then some (i:Int) else none) ys j = (ys.findIdx? (fun o=>decide (o.fId = n))).map fun k=>((k + j:Nat):Int)
 | [],j=>rfl
 | y :: ys,j=>by
  simp only [e9,List.findIdx?_cons]
  by_cases h:y.fId = n
  ·simp [h]
  ·simp only [h,mw,decide_false,HW n ys (j + 1)]
   cases ys.findIdx? fun o=>decide (o.fId = n) with
   | none=>rfl
   | some k=>simp; omega
theorem LW (p0:api_Heap) (n:Int) (hl:p0.fObjects.length≤1000000):gZ p0 n = some (E9 p0 n):=by
 unfold gZ
 rw [qx (step:=i6 p0 n) p0.fObjects (fun i o=>(if o.fId = n then some (i:Int) else none).map fun k=>(k,true)) hl (fun i y hy=>by
  have hil:=fZ hy
  unfold i6
  simp only [show ((i:Int) < (p0.fObjects.length:Int)) from by omega,decide_true,cond_true,m8,hy,gw]
  by_cases h:y.fId = n
  ·simp [h]
  ·simp [h,tz (show i < 9223372036854775807 by omega)]) (by
  unfold i6
  simp),HX,HW]
 unfold E9
 cases p0.fObjects.findIdx? fun o=>decide (o.fId = n) <;> rfl
theorem aiQ (p0:api_Heap) (n:Int) (hl:p0.fObjects.length≤1000000):e8 p0 n = some (E9 p0 n):=by
 unfold e8 dJ
 rw [qx (step:=cz p0.fObjects n) p0.fObjects (fun i o=>(if o.fId = n then some (i:Int) else none)) hl (fun i y hy=>by
  have hil:=fZ hy
  unfold cz o7
  simp only [show ((i:Int) < (p0.fObjects.length:Int)) from by omega,decide_true,cond_true,m8,hy,gw]
  by_cases h:y.fId = n
  ·simp [h]
  ·simp [h,tz (show i < 9223372036854775807 by omega)]) (by
  unfold cz
  simp),HW]
 unfold E9
 cases p0.fObjects.findIdx? fun o=>decide (o.fId = n) with
 | none=>rfl
 | some k=>simp [Tz]
theorem aex (p0:api_Heap) (n:Int):(E9 p0 n).2 = rK p0 n:=by
 unfold E9 rK
 have h:(p0.fObjects.findIdx? fun o=>decide (o.fId = n)).isSome = p0.fObjects.any fun o=>decide (o.fId = n):=List.findIdx?_isSome ..
 rw [← h]
 cases p0.fObjects.findIdx? fun o=>decide (o.fId = n) <;> rfl
theorem alQ (p0:api_Heap) (l:List Int) (hp:p0.fObjects.length≤1000000) (hl:l.length≤1000000):i9 p0 l = some (SX (rK p0) l):=by
 unfold i9
 rw [qx (step:=i8 p0 l) l (NY (rK p0) l) hl (fun i y hy=>by
  have hil:=fZ hy
  have hw:=tz (show i < 9223372036854775807 by omega)
  unfold i8 NY
  simp only [show ((i:Int) < (l.length:Int)) from by omega,decide_true,cond_true,m8,hy,gw,LW p0 y hp,aex]
  cases hm:rK p0 y with
  | false=>rfl
  | true =>
   simp only [Bool.not_true,cond_false]
   by_cases h0:0 < i
   ·simp only [show (0:Int) < (i:Int) from by omega,decide_true,cond_true,Z2 hy h0 hl,gw]
    by_cases h1:y≤OX l i
    ·simp [h0,h1]
    ·rw [rk h1]
     simp [h0,h1,hw]
   ·simp only [show ¬ (0:Int) < (i:Int) from by omega,decide_false,cond_false,gw]
    simp [h0,hw]) (by
  unfold i8
  simp)]
 unfold SX
 cases e9 (NY (rK p0) l) l 0 <;> rfl
theorem UV {p:Int→Bool} {l:List Int} (h:SX p l = 0):(∀ n∈l,p n = true)∧∀ i a b,l[i]? = some a→l[i + 1]? = some b→a < b:=by
 have hn:e9 (NY p l) l 0 = none:=by
  unfold SX at h
  cases hf:e9 (NY p l) l 0 with
  | none=>rfl
  | some r =>
   rw [hf] at h
   obtain ⟨j,y,_,hg,_⟩:=wY hf
   unfold NY at hg
   simp only [Option.getD_some] at h
   subst h
   split at hg
   ·cases hg
   ·split at hg <;> cases hg
 rw [A0] at hn
 refine ⟨fun n hm=>?_,fun i a b ha hb=>?_⟩
 ·obtain ⟨j,hj⟩:=List.getElem?_of_mem hm
  have:=hn j n hj
  unfold NY at this
  split at this
  ·cases this
  ·rename_i h; cases hp:p n with
   | true=>rfl
   | false=>exact absurd hp h
 ·have:=hn (i + 1) b hb
  unfold NY at this
  split at this
  ·cases this
  ·split at this
   ·cases this
   ·rename_i h
    have hp:OX l (0 + (i + 1)) = a:=by
     unfold OX
     rw [yw,show 0 + (i + 1) - 1 = i from by omega,ha]; rfl
    rw [hp] at h
    omega
open Go.Proofs Go.Proofs.Ytliccamocpglcaa
structure B5 (p0:api_Heap):Prop where
 n:p0.fObjects.length≤16
 r:p0.fRoots.length≤16
 refs:∀ o∈p0.fObjects,o.fRefs.length≤40
theorem aJY (p0:api_Heap):∃ b,lX p0 = some b∧(b = true↔B5 p0):=by
 unfold lX oX
 by_cases h1:(16:Int) < (p0.fObjects.length:Int)
 ·exact ⟨false,by simp [h1],by simp; intro h; have:=h.n; omega⟩
 by_cases h2:(16:Int) < (p0.fRoots.length:Int)
 ·exact ⟨false,by simp [h1,h2],by simp; intro h; have:=h.r; omega⟩
 have hl:p0.fObjects.length≤1000000:=by omega
 rw [qx (step:=jY p0) p0.fObjects (fun _ o=>if 40 < o.fRefs.length then some false else none) hl (fun i y hy=>by
  have hil:=fZ hy
  have hw:=tz (show i < 9223372036854775807 by omega)
  unfold jY
  simp only [show ((i:Int) < (p0.fObjects.length:Int)) from by omega,decide_true,cond_true,m8,hy,gw]
  by_cases h:40 < y.fRefs.length
  ·have h':(40:Int) < (y.fRefs.length:Int):=by omega
   simp [h,h']
  ·have h' : ¬ (40:Int) < (y.fRefs.length:Int):=by omega
   simp [h,h',hw]) (by unfold jY; simp)]
 cases hf:e9 (fun _ (o:bX)=>if 40 < o.fRefs.length then some false else none) p0.fObjects 0 with
 | none =>
  refine ⟨true,by simp [h1,h2,Tz],⟨fun _=>⟨by omega,by omega,fun o ho=>?_⟩,fun _=>rfl⟩⟩
  rw [A0] at hf
  obtain ⟨j,hj⟩:=List.getElem?_of_mem ho
  have:=hf j o hj
  split at this
  ·cases this
  ·omega
 | some r =>
  obtain ⟨j,y,hy,hg,_⟩:=wY hf
  split at hg
  ·rename_i h
   cases hg
   refine ⟨false,by simp [h1,h2,Tz],by simp; intro hF; have:=hF.refs y (iw hy); omega⟩
  ·cases hg
def P8 (l:List bX) (i:Nat):Int:=(l[i - 1]?.map fun o=>o.fId).getD 0
def RJ (s:ByteArray):Int:=(kq s).getD 0
theorem Yj {s:ByteArray} (h:s.size≤9223372036854775807):kq s = some (RJ s)∧jq s = some (RJ s)∧(RJ s = 0∨RJ s = 3):=by
 obtain ⟨r,hr,_⟩:=SJ s h
 have:RJ s = r:=by unfold RJ; rw [hr]; rfl
 rw [this,← aCq]
 exact ⟨hr,hr,aDK hr⟩
def anY (o:bX):Bool:=decide (o.fId < 0) || decide (1000000000000000 < o.fId) || decide (o.fSize < 0) || decide (1000000000000 < o.fSize)
def JK (l:List bX) (i:Nat) (o:bX):Option Int:=if anY o = true then some 2 else if RJ o.fType = 0 then (if 0 < i∧o.fId≤P8 l i then some 11 else none) else some 3
theorem TQ {l:List bX} {i:Nat} {y:bX} (hy:l[i]? = some y) (hi:0 < i) (h:l.length≤1000000):∃ z,idx l (w64 ((i:Int) - 1)) = some z∧z.fId = P8 l i:=by
 have:=fZ hy
 rw [kK (by omega)]
 have e:(i:Int) - 1 = ((i - 1:Nat):Int):=by omega
 rw [e,m8,P8,ck (show i - 1 < l.length by omega)]
 exact ⟨_,rfl,rfl⟩
theorem alX (o:bX):((bif decide (o.fId < 0) then some true else bif decide (1000000000000000 < o.fId) then some true else bif decide (o.fSize < 0) then some true else some (decide (1000000000000 < o.fSize))):Option Bool) = some (anY o):=by
 unfold anY
 cases decide (o.fId < 0) <;> cases decide (1000000000000000 < o.fId) <;> cases decide (o.fSize < 0) <;> rfl
theorem aqY (p0:api_Heap) (hn:p0.fObjects.length≤1000000) (hs:∀ o∈p0.fObjects,o.fType.size≤9223372036854775807):loop (iZ p0) 0 = some (Tz (e9 (JK p0.fObjects) p0.fObjects 0)):=by
 refine qx p0.fObjects (JK p0.fObjects) hn (fun i y hy=>?_) (by unfold iZ; simp)
 have hil:=fZ hy
 have hw:=tz (show i < 9223372036854775807 by omega)
 obtain ⟨_,h2,h3⟩:=Yj (hs y (iw hy))
 unfold iZ JK
 simp only [show ((i:Int) < (p0.fObjects.length:Int)) from by omega,decide_true,cond_true,m8,hy,gw,alX,h2]
 cases anY y with
 | true=>rfl
 | false =>
  simp only [cond_false,qk,mw]
  rcases h3 with h3 | h3
  ·simp only [h3,decide_true,Bool.not_true,cond_false,nw]
   by_cases h0:0 < i
   ·obtain ⟨z,hz,hz2⟩:=TQ hy h0 hn
    simp only [show (0:Int) < (i:Int) from by omega,decide_true,cond_true,hz,gw,hz2]
    by_cases h1:y.fId≤P8 p0.fObjects i
    ·simp [h0,h1]
    ·rw [rk h1]
     simp [h0,h1,hw]
   ·simp only [show ¬ (0:Int) < (i:Int) from by omega,decide_false,cond_false,gw]
    simp [h0,hw]
  ·simp [h3]
theorem Nj {g:Nat → bX → Option Int}:∀ (ys:List bX) (j:Nat) (m:List (Int × Int)),∃ m',V1 (fun i o m => match g i o with | some r => Sum.inr (Sum.inr r) | none => Sum.inl (KY o.fId (i:Int) m)) (fun m => Sum.inl m) ys j m = (match e9 g ys j with | some r => Sum.inr r | none => Sum.inl m') ∧ ∀ k,(xx k m').isSome = ((xx k m).isSome || ys.any fun o => decide (o.fId = k))
 | [],j,m=>⟨m,rfl,fun k=>by simp⟩
 | y :: ys,j,m=>by
  simp only [V1,e9]
  cases hg:g j y with
  | some r=>exact ⟨KY y.fId 0 (ys.foldr (fun o q=>KY o.fId 0 q) m),by simp,fun k=>by
    rw [F2,List.any_cons]
    by_cases e:k = y.fId
    ·simp [e]
    ·rw [if_neg e]
     have:∀ zs:List bX,(xx k (zs.foldr (fun o q=>KY o.fId 0 q) m)).isSome = ((xx k m).isSome || zs.any fun o=>decide (o.fId = k)):=by
      intro zs
      induction zs with
      | nil=>simp
      | cons z zs ih =>
       rw [List.foldr_cons,F2,List.any_cons]
       by_cases e:k = z.fId
       ·simp [e]
       ·rw [if_neg e,ih]; simp [Ne.symm e]
     rw [this]; simp [Ne.symm e]⟩
  | none =>
   obtain ⟨m',h1,h2⟩:=Nj (g:=g) ys (j + 1) (KY y.fId (j:Int) m)
   refine ⟨m',h1,fun k=>?_⟩
   rw [h2,F2,List.any_cons]
   by_cases e:k = y.fId
   ·simp [e]
   ·rw [if_neg e]; simp [Ne.symm e]
theorem aCj (p0:api_Heap) (hn:p0.fObjects.length ≤ 1000000) (hs:∀ o ∈ p0.fObjects,o.fType.size ≤ 9223372036854775807):∃ m,loop (kX p0) ([],0) = some (match e9 (JK p0.fObjects) p0.fObjects 0 with | some r => .inr r | none => .inl m) ∧ ∀ k,(xx k m).isSome = rK p0 k := by
 have h := Vx (step := kX p0) (ρ := List (Int × Int) ⊕ Int) p0.fObjects (fun i (m:List (Int × Int)) => (m,(i:Int))) (fun i o m => match JK p0.fObjects i o with | some r => Sum.inr (Sum.inr r) | none => Sum.inl (KY o.fId (i:Int) m)) (fun m => Sum.inl m) (by simp [lY]; omega) (fun i y m hy => by
  have hil:=fZ hy
  have hw:=tz (show i < 9223372036854775807 by omega)
  obtain ⟨h1,_,h3⟩:=Yj (hs y (iw hy))
  unfold kX JK
  simp only [show ((i:Int) < (p0.fObjects.length:Int)) from by omega,decide_true,cond_true,m8,hy,gw,alX,h1]
  cases anY y with
  | true=>rfl
  | false =>
   simp only [cond_false,qk,mw]
   rcases h3 with h3 | h3
   ·simp only [h3,decide_true,Bool.not_true,cond_false,nw]
    by_cases h0:0 < i
    ·obtain ⟨z,hz,hz2⟩:=TQ hy h0 hn
     simp only [show (0:Int) < (i:Int) from by omega,decide_true,cond_true,hz,gw,hz2]
     by_cases h1:y.fId≤P8 p0.fObjects i
     ·simp [h0,h1]
     ·rw [rk h1]
      simp [h0,h1,hw]
    ·simp only [show ¬ (0:Int) < (i:Int) from by omega,decide_false,cond_false,gw]
     simp [h0,hw]
   ·simp [h3]) (fun m=>by unfold kX; simp) []
 obtain ⟨m',h1,h2⟩:=Nj (g:=JK p0.fObjects) p0.fObjects 0 []
 refine ⟨m',by rw [← h1]; exact h,fun k=>?_⟩
 rw [h2]
 simp [rK,xx]
open Go.Proofs Go.Proofs.Ytliccamocpglcaa
def aNx (l:List Int):Prop:=∀ i a b,l[i]? = some a→l[i + 1]? = some b→a < b
structure rJ (p0:api_Heap):Prop where
 inc:∀ i a b,p0.fObjects[i]? = some a→p0.fObjects[i + 1]? = some b→a.fId < b.fId
 size:∀ o∈p0.fObjects,0≤o.fSize∧o.fSize≤1000000000000
 refs:∀ o∈p0.fObjects,(∀ n∈o.fRefs,rK p0 n = true)∧aNx o.fRefs
 roots:(∀ n∈p0.fRoots,rK p0 n = true)∧aNx p0.fRoots
def DW (p0:api_Heap) (_:Nat) (o:bX):Option Int:=if SX (rK p0) o.fRefs = 0 then none else some (SX (rK p0) o.fRefs)
section
variable {p0:api_Heap}
theorem awq (hF:B5 p0):∃ e,loop (mq p0) (0,0) = some e∧loop (nZ p0) (0,0) = some e∧e≤20000:=by
 have hn:=hF.n
 have key:Ok (loop (mq p0) (0,0)) (fun e=>e≤20000):=by
  refine aKZ p0.fObjects.length (fun s i=>0≤s∧s≤40 * i) (by omega) ⟨by omega,by omega⟩ fun s i hI h0 h1=>?_
  unfold mq
  refine K2 (fun h=>?_) (fun h=>?_)
  ·refine qK (IQ h0 h) fun y hy=>?_
   have hr:=hF.refs y (iw hy)
   rw [kK (n:=s + (y.fRefs.length:Int)) (by omega)]
   exact aAZ (Inv:=fun s i=>0≤s∧s≤40 * i) ⟨by omega,by omega⟩ h0 h (by omega)
  ·exact aKV (by omega)
 obtain ⟨e,h1,h2⟩:=key
 exact ⟨e,h1,h1,h2⟩
theorem axY (hF:B5 p0) {m:List (Int × Int)} (hm:∀ k,(xx k m).isSome = rK p0 k):loop (mZ p0 m) 0 = some (Tz (e9 (DW p0) p0.fObjects 0)):=by
 have hn:=hF.n
 have hmf:(fun n=>(xx n m).isSome) = rK p0:=funext hm
 refine qx p0.fObjects (DW p0) (by omega) (fun i y hy=>?_) (by unfold mZ; simp)
 have hil:=fZ hy
 have hw:=tz (show i < 9223372036854775807 by omega)
 have hr:=hF.refs y (iw hy)
 unfold mZ DW
 simp only [show ((i:Int) < (p0.fObjects.length:Int)) from by omega,decide_true,cond_true,m8,hy,gw,aAQ y.fRefs m (by omega),hmf]
 by_cases h:SX (rK p0) y.fRefs = 0
 ·simp [h,hw]
 ·simp [h]
theorem ayJ (hF:B5 p0):loop (iY p0) 0 = some (Tz (e9 (DW p0) p0.fObjects 0)):=by
 have hn:=hF.n
 refine qx p0.fObjects (DW p0) (by omega) (fun i y hy=>?_) (by unfold iY; simp)
 have hil:=fZ hy
 have hw:=tz (show i < 9223372036854775807 by omega)
 have hr:=hF.refs y (iw hy)
 unfold iY DW
 simp only [show ((i:Int) < (p0.fObjects.length:Int)) from by omega,decide_true,cond_true,m8,hy,gw,alQ p0 y.fRefs (by omega) (by omega)]
 by_cases h:SX (rK p0) y.fRefs = 0
 ·simp [h,hw]
 ·simp [h]
def G4 (p0:api_Heap):Int:=match e9 (JK p0.fObjects) p0.fObjects 0 with
 | some r=>r
 | none=>match e9 (DW p0) p0.fObjects 0 with
  | some r=>r
  | none=>SX (rK p0) p0.fRoots
theorem acY (hF:B5 p0) (hs:∀ o∈p0.fObjects,o.fType.size≤9223372036854775807):gK p0 = some (G4 p0):=by
 have hn:=hF.n
 have hr:=hF.r
 obtain ⟨e,h1,_,h2⟩:=awq hF
 obtain ⟨m,h3,hm⟩:=aCj p0 (by omega) hs
 have hmf:(fun n=>(xx n m).isSome) = rK p0:=funext hm
 unfold gK G4
 rw [h1,h3]
 simp only [gw,show ¬ (5000:Int) < (p0.fObjects.length:Int) from by omega,show ¬ (20000:Int) < e from by omega,show ¬ (5000:Int) < (p0.fRoots.length:Int) from by omega,decide_false,cond_false]
 cases e9 (JK p0.fObjects) p0.fObjects 0 with
 | some r=>rfl
 | none =>
  simp only [axY hF hm,gw]
  cases e9 (DW p0) p0.fObjects 0 with
  | some r=>rfl
  | none=>simp only [Tz,aAQ p0.fRoots m (by omega),hmf,gw]
theorem aoX (hF:B5 p0) (hs:∀ o∈p0.fObjects,o.fType.size≤9223372036854775807):kx p0 = some (G4 p0):=by
 have hn:=hF.n
 have hr:=hF.r
 obtain ⟨e,_,h1,h2⟩:=awq hF
 have h3:=aqY p0 (by omega) hs
 unfold kx G4
 rw [h1,h3]
 simp only [gw,show ¬ (5000:Int) < (p0.fObjects.length:Int) from by omega,show ¬ (20000:Int) < e from by omega,show ¬ (5000:Int) < (p0.fRoots.length:Int) from by omega,decide_false,cond_false]
 cases e9 (JK p0.fObjects) p0.fObjects 0 with
 | some r=>rfl
 | none =>
  simp only [Tz,ayJ hF,gw]
  cases e9 (DW p0) p0.fObjects 0 with
  | some r=>rfl
  | none=>simp only [Tz,alQ p0 p0.fRoots (by omega) (by omega),gw]
theorem axK (h:G4 p0 = 0):rJ p0:=by
 unfold G4 at h
 cases h1:e9 (JK p0.fObjects) p0.fObjects 0 with
 | some r =>
  rw [h1] at h
  obtain ⟨j,y,_,hg,_⟩:=wY h1
  unfold JK at hg
  simp only at h
  subst h
  split at hg
  ·cases hg
  ·split at hg
   ·split at hg <;> cases hg
   ·cases hg
 | none =>
  rw [h1] at h
  simp only at h
  cases h2:e9 (DW p0) p0.fObjects 0 with
  | some r =>
   rw [h2] at h
   obtain ⟨j,y,_,hg,_⟩:=wY h2
   unfold DW at hg
   simp only at h
   subst h
   split at hg
   ·cases hg
   ·rename_i hne; exact absurd (Option.some.inj hg) hne
  | none =>
   rw [h2] at h
   simp only at h
   rw [A0] at h1 h2
   refine ⟨fun i a b ha hb=>?_,fun o ho=>?_,fun o ho=>?_,UV h⟩
   ·have:=h1 (i + 1) b hb
    unfold JK at this
    split at this
    ·cases this
    ·split at this
     ·split at this
      ·cases this
      ·rename_i hh
       have hp:P8 p0.fObjects (0 + (i + 1)) = a.fId:=by
        unfold P8
        rw [show 0 + (i + 1) - 1 = i from by omega,ha]; rfl
       rw [hp] at hh
       omega
     ·cases this
   ·obtain ⟨j,hj⟩:=List.getElem?_of_mem ho
    have:=h1 j o hj
    unfold JK at this
    split at this
    ·cases this
    ·rename_i hb
     unfold anY at hb
     simp only [yk,lw,not_or] at hb
     omega
   ·obtain ⟨j,hj⟩:=List.getElem?_of_mem ho
    have:=h2 j o hj
    unfold DW at this
    split at this
    ·rename_i h0; exact UV h0
    ·cases this
theorem aux (hV:rJ p0):∀ (d i:Nat) (a b:bX),p0.fObjects[i]? = some a→p0.fObjects[i + d + 1]? = some b→a.fId < b.fId
 | 0,i,a,b,ha,hb=>hV.inc i a b ha hb
 | d + 1,i,a,b,ha,hb=>by
  have hl:=fZ hb
  have hc:p0.fObjects[i + d + 1]? = some p0.fObjects[i + d + 1]:=ck (by omega)
  have h1:=aux hV d i a _ ha hc
  have h2:=hV.inc (i + d + 1) _ b hc (by rw [show i + d + 1 + 1 = i + (d + 1) + 1 from by omega]; exact hb)
  omega
theorem aIV (hV:rJ p0) {i j:Nat} {a b:bX} (ha:p0.fObjects[i]? = some a) (hb:p0.fObjects[j]? = some b) (h:a.fId = b.fId):i = j:=by
 rcases Nat.lt_trichotomy i j with h1 | h1 | h1
 ·have:=aux hV (j - i - 1) i a b ha (by rw [show i + (j - i - 1) + 1 = j from by omega]; exact hb); omega
 ·exact h1
 ·have:=aux hV (i - j - 1) j b a hb (by rw [show j + (i - j - 1) + 1 = i from by omega]; exact ha); omega
theorem Oq (hV:rJ p0) {k:Nat} {o:bX} (ho:p0.fObjects[k]? = some o):E9 p0 o.fId = ((k:Int),true):=by
 unfold E9
 have h:p0.fObjects.findIdx? (fun x=>decide (x.fId = o.fId)) = some k:=by
  have hk:=fZ ho
  rw [List.findIdx?_eq_some_iff_getElem]
  refine ⟨hk,by have:=(cw.1 ho).2; simp [this],fun j hj=>?_⟩
  have hjk:p0.fObjects[j]? = some p0.fObjects[j]:=ck (by omega)
  simp only [lw]
  intro e
  have:=aIV hV hjk ho e
  omega
 rw [h]
theorem N8 {n:Int} (h:rK p0 n = true):∃ (k:Nat) (o:bX),p0.fObjects[k]? = some o∧o.fId = n:=by
 unfold rK at h
 rw [List.any_eq_true] at h
 obtain ⟨o,ho,h⟩:=h
 obtain ⟨k,hk⟩:=List.getElem?_of_mem ho
 exact ⟨k,o,hk,of_decide_eq_true h⟩
end
open Go.Proofs Go.Proofs.Ytliccamocpglcaa
inductive Pw (E:Nat→Nat→Prop) (r:Nat) (w:Int):Nat→Nat→Prop
 | zero:Pw E r w 0 r
 | succ {m x y:Nat}:Pw E r w m x→E x y→(y:Int) ≠ w→Pw E r w (m + 1) y
def V0 (p0:api_Heap) (i:Nat):List Int:=if i = p0.fObjects.length then p0.fRoots else match p0.fObjects[i]? with
 | some o=>o.fRefs
 | none=>[]
def Edge (p0:api_Heap) (i k:Nat):Prop:=∃ o,p0.fObjects[k]? = some o∧o.fId∈V0 p0 i
abbrev Pth (p0:api_Heap) (w:Int) (m k:Nat):Prop:=Pw (Edge p0) p0.fObjects.length w m k
theorem Edge.lt {p0:api_Heap} {i k:Nat} (h:Edge p0 i k):k < p0.fObjects.length:=by
 obtain ⟨o,h1,_⟩:=h; exact fZ h1
def aNJ (p0:api_Heap) (w:Int) (m k:Nat):Prop:=Pth p0 w m k∧∀ m',m' < m→¬ Pth p0 w m' k
theorem apV {l:List Nat} {n:Nat} (hd:l.Nodup) (h:∀ x∈l,x < n):l.length≤n:=by
 induction n generalizing l with
 | zero =>
  cases l with
  | nil=>exact jk _
  | cons a l=>exact absurd (h a (List.mem_cons_self ..)) (by omega)
 | succ n ih =>
  have h1:(l.erase n).length≤n:=ih (hd.erase n) (fun x hx=>by
   have h2:=(List.Nodup.mem_erase_iff hd).1 hx
   have:=h x h2.2
   have:=h2.1
   omega)
  have h3:(l.erase n).length ≥ l.length - 1:=by
   rw [List.length_erase]; split <;> omega
  omega
section
variable {p0:api_Heap}
def DistIs (p0:api_Heap) (w:Int) (d:List Int):Prop:=d.length = p0.fObjects.length∧∀ k,k < p0.fObjects.length→(d.getD k 0 = 0∧∀ m,¬ Pth p0 w m k)∨∃ m:Nat,0 < m∧d.getD k 0 = (m:Int)∧aNJ p0 w m k
theorem DistIs.zero {w:Int} {d:List Int} (h:DistIs p0 w d) {k:Nat} (hk:k < p0.fObjects.length):d.getD k 0 = 0↔¬ ∃ m,Pth p0 w m k:=by
 rcases h.2 k hk with ⟨h1,h2⟩ | ⟨m,h1,h2,h3⟩
 ·constructor
  ·rintro _ ⟨m,hm⟩; exact h2 m hm
  ·intro _; exact h1
 ·constructor
  ·intro h; omega
  ·intro hh; exact absurd ⟨m,h3.1⟩ hh
end
open Go.Proofs Go.Proofs.Ytliccamocpglcaa
open Go.RM (sq mj adds HO wW)
theorem T8 {α:Type} {l:List (List α)} {i:Nat} {v:List α} (h:i < l.length) (q:Nat):(l.set i v).getD q [] = if q = i then v else l.getD q []:=by
 rw [yw,yw,vk]
 by_cases e:i = q
 ·subst e; rw [if_pos rfl,if_pos h,if_pos rfl]; rfl
 ·rw [if_neg e,if_neg (Ne.symm e)]
theorem adZ (i:Nat):∀ (l:List Nat) (p:List (List Nat) × List (List Nat)),i < p.1.length→∀ q,(l.foldl (fun p k=>sq p i k) p).1.getD q [] = if q = i then p.1.getD i []++l else p.1.getD q []
 | [],p,_,q=>by
  simp only [List.foldl_nil,List.append_nil]
  split
  ·rename_i h; rw [h]
  ·rfl
 | k :: l,p,h,q=>by
  rw [List.foldl_cons,adZ i l (sq p i k) (by simp [sq]; exact h) q]
  simp only [sq]
  rw [T8 h,T8 h,if_pos rfl]
  by_cases e:q = i
  ·rw [if_pos e,if_pos e,List.append_assoc]; rfl
  ·rw [if_neg e,if_neg e,if_neg e]
theorem agZ (fnd:Int→Nat):∀ (l:List HO) (j:Nat) (p:List (List Nat) × List (List Nat)),j + l.length≤p.1.length→∀ q,(mj fnd j l p).1.getD q [] = p.1.getD q []++(if j≤q then ((l[q - j]?).map fun o=>o.refs.map fnd).getD [] else [])
 | [],j,p,_,q=>by simp [mj]
 | o :: l,j,p,h,q=>by
  simp only [List.length_cons] at h
  have hl:=Go.RM.addSs_len j (o.refs.map fnd) p
  unfold mj
  rw [agZ fnd l (j + 1) _ (by rw [hl.1]; omega) q,adZ j _ p (by omega) q]
  by_cases e:q = j
  ·subst e
   rw [if_pos rfl,if_neg (by omega),if_pos (jk _),Nat.sub_self,List.append_nil]; rfl
  ·rw [if_neg e]
   by_cases h1:j≤q
   ·rw [if_pos (by omega),if_pos h1,show q - j = (q - (j + 1)) + 1 from by omega,List.getElem?_cons_succ]
   ·rw [if_neg (by omega),if_neg h1]
theorem asY {α:Type} (n q:Nat):(List.replicate n ([]:List α)).getD q [] = []:=by
 rw [yw,List.getElem?_replicate]
 split <;> rfl
section
variable {p0:api_Heap}
abbrev aaW (p0:api_Heap):Int→Nat:=wW (e8 p0)
abbrev apW (p0:api_Heap):List (List Nat):=(adds (aaW p0) (w8 p0) p0.fRoots).1
theorem Z7 (i:Nat):(w8 p0)[i]? = (p0.fObjects[i]?).map fun o=>⟨o.fId,o.fSize,o.fType,o.fRefs⟩:=by unfold w8; rw [gk]
theorem axj:(apW p0).length = p0.fObjects.length + 1:=by
 have:=(Go.RM.adds_len (aaW p0) (w8 p0) p0.fRoots).1
 rw [uK] at this; exact this
theorem aFY {i:Nat} (hi:i≤p0.fObjects.length):(apW p0).getD i [] = (V0 p0 i).map (aaW p0):=by
 unfold apW adds
 have hl:=Go.RM.addsFrom_len (aaW p0) (w8 p0) 0 (List.replicate ((w8 p0).length + 1) [],List.replicate ((w8 p0).length + 1) [])
 rw [adZ _ _ _ (by rw [hl.1,ow]; omega),agZ _ _ _ _ (by rw [ow]; omega),agZ _ _ _ _ (by rw [ow]; omega)]
 simp only [asY,List.nil_append,Nat.zero_le,nw,Nat.sub_zero,Z7]
 rw [uK]
 unfold V0
 by_cases e:i = p0.fObjects.length
 ·rw [if_pos e,if_pos e,List.getElem?_eq_none (jk _)]
  rfl
 ·rw [if_neg e,if_neg e]
  cases p0.fObjects[i]? <;> rfl
theorem aCx (hV:rJ p0) {i:Nat} {n:Int} (h:n∈V0 p0 i):rK p0 n = true:=by
 unfold V0 at h
 split at h
 ·exact hV.roots.1 n h
 ·split at h
  ·rename_i o ho; exact (hV.refs o (iw ho)).1 n h
  ·simp at h
theorem aHJ (hF:B5 p0) (hV:rJ p0) {k:Nat} {o:bX} (ho:p0.fObjects[k]? = some o):aaW p0 o.fId = k:=by
 have hn:=hF.n
 unfold aaW wW
 rw [aiQ p0 o.fId (by omega),Oq hV ho]
 exact Int.toNat_natCast k
theorem aAj (hF:B5 p0) (hV:rJ p0) {i k:Nat}:k∈(V0 p0 i).map (aaW p0)↔Edge p0 i k:=by
 rw [List.mem_map]
 constructor
 ·rintro ⟨n,h1,rfl⟩
  obtain ⟨k,o,hk,rfl⟩:=N8 (aCx hV h1)
  rw [aHJ hF hV hk]
  exact ⟨o,hk,h1⟩
 ·rintro ⟨o,hk,h1⟩
  exact ⟨o.fId,h1,aHJ hF hV hk⟩
theorem aiY (hF:B5 p0) (hV:rJ p0) {i k:Nat} (hi:i≤p0.fObjects.length):k∈(apW p0).getD i []↔Edge p0 i k:=by rw [aFY hi,aAj hF hV]
theorem aqZ (hF:B5 p0) (hV:rJ p0):Go.RM.graphB (e8 p0) (w8 p0) p0.fRoots = true:=by
 have hn:=hF.n
 have hr:=hF.r
 have key:∀ l:List Int,l.length≤1000→(∀ n∈l,rK p0 n = true)→Go.RM.refsB (e8 p0) (w8 p0).length l = true:=by
  intro l hl hh
  unfold Go.RM.refsB
  rw [fk,lw,qw]
  refine ⟨hl,fun n hm=>?_⟩
  obtain ⟨k,o,hk,rfl⟩:=N8 (hh n hm)
  have:=fZ hk
  rw [aiQ p0 o.fId (by omega),Oq hV hk]
  simp only [fk,lw,uK,Int.toNat_natCast]
  omega
 unfold Go.RM.graphB
 rw [fk,fk,lw,qw,uK]
 refine ⟨⟨by omega,fun o ho=>?_⟩,by rw [← uK p0]; exact key _ (by omega) hV.roots.1⟩
 unfold w8 at ho
 obtain ⟨o',ho',rfl⟩:=List.mem_map.1 ho
 have:=hF.refs o' ho'
 rw [← uK p0]
 exact key _ (by simp only; omega) (hV.refs o' ho').1
end
open Go.Proofs Go.Proofs.Ytliccamocpglcaa
open Go.RM (tY J0)
section
variable (to:List (List Nat))
structure aNX (i:Nat) (us us' nd:List Nat):Prop where
 nodup:us'.Nodup
 ndn:nd.Nodup
 part:∀ x,x∈us↔x∈us'∨x∈nd
 disj:∀ x∈nd,x ∉ us'
 last:∃ l,nd = l++[i]
 clos:∀ x∈nd,∀ y∈to.getD x [],y ∉ us'
 pred:∀ x∈nd,x ≠ i→∃ l1 l2,nd = l1++x :: l2∧∃ p∈l2,x∈to.getD p []
 len:us'.length < us.length
structure abW (us0 done us nd:List Nat):Prop where
 nodup:us.Nodup
 ndn:nd.Nodup
 part:∀ x,x∈us0↔x∈us∨x∈nd
 disj:∀ x∈nd,x ∉ us
 clos:∀ x∈nd,∀ y∈to.getD x [],y ∉ us
 seen:∀ k∈done,k ∉ us
 pred:∀ x∈nd,x∈done∨∃ l1 l2,nd = l1++x :: l2∧∃ p∈l2,x∈to.getD p []
 len:us.length≤us0.length
variable {to}
theorem Wj {f:Nat} (hv:∀ i us ord,us.length≤f→us.Nodup→i∈us→(∀ x∈us,x < to.length)→∃ us' nd,tY f to i us ord = some (us',ord++nd)∧aNX to i us us' nd) (us0:List Nat) (hf:us0.length≤f) (hlt:∀ x∈us0,x < to.length) :
  ∀ (l done us nd ord:List Nat),abW to us0 done us nd→∃ us' nd',l.foldlM (J0 f to) (us,ord++nd) = some (us',ord++nd')∧abW to us0 (done++l) us' nd'
 | [],done,us,nd,ord,h=>⟨us,nd,rfl,by rw [List.append_nil]; exact h⟩
 | k :: l,done,us,nd,ord,h=>by
  rw [List.foldlM_cons]
  unfold J0
  by_cases hk:k∈us
  ·rw [if_pos hk]
   have hus:∀ x∈us,x < to.length:=fun x hx=>hlt x ((h.part x).2 (.inl hx))
   obtain ⟨us',nd2,h1,q⟩:=hv k us (ord++nd) (Nat.le_trans h.len hf) h.nodup hk hus
   rw [h1]
   simp only [Option.bind_eq_bind,gw]
   have hsub:∀ x,x ∉ us→x ∉ us':=fun x hx hx'=>hx ((q.part x).2 (.inl hx'))
   have hq:abW to us0 (done++[k]) us' (nd++nd2):=by
    refine ⟨q.nodup,?_,fun x=>?_,fun x hx=>?_,fun x hx y hy=>?_,fun x hx=>?_,fun x hx=>?_,by have:=q.len; have:=h.len; omega⟩
    ·rw [List.nodup_append]
     exact ⟨h.ndn,q.ndn,fun a ha b hb e=>by subst e; exact h.disj a ha ((q.part a).2 (.inr hb))⟩
    ·rw [h.part x,q.part x,tk]
     constructor
     ·rintro ((h1 | h1) | h1)
      ·exact .inl h1
      ·exact .inr (.inr h1)
      ·exact .inr (.inl h1)
     ·rintro (h1 | h1 | h1)
      ·exact .inl (.inl h1)
      ·exact .inr h1
      ·exact .inl (.inr h1)
    ·rcases tk.1 hx with hx | hx
     ·exact hsub x (h.disj x hx)
     ·exact q.disj x hx
    ·rcases tk.1 hx with hx | hx
     ·exact hsub y (h.clos x hx y hy)
     ·exact q.clos x hx y hy
    ·rcases tk.1 hx with hx | hx
     ·exact hsub x (h.seen x hx)
     ·rw [fw.1 hx]
      obtain ⟨l',hl'⟩:=q.last
      exact q.disj k (by rw [hl']; simp)
    ·rcases tk.1 hx with hx | hx
     ·rcases h.pred x hx with h2 | ⟨l1,l2,h2,p,h3,h4⟩
      ·exact .inl (List.mem_append_left _ h2)
      ·exact .inr ⟨l1,l2++nd2,by rw [h2]; simp,p,List.mem_append_left _ h3,h4⟩
     ·by_cases e:x = k
      ·exact .inl (by rw [e]; simp)
      ·obtain ⟨l1,l2,h2,p,h3,h4⟩:=q.pred x hx e
       exact .inr ⟨nd++l1,l2,by rw [h2]; simp,p,h3,h4⟩
   obtain ⟨us'',nd',h2,h3⟩:=Wj hv us0 hf hlt l (done++[k]) us' (nd++nd2) ord hq
   refine ⟨us'',nd',?_,by rw [List.append_assoc] at h3; exact h3⟩
   rw [List.append_assoc]
   exact h2
  ·rw [if_neg hk]
   simp only [Option.bind_eq_bind,gw]
   have hq:abW to us0 (done++[k]) us nd:=⟨h.nodup,h.ndn,h.part,h.disj,h.clos,fun x hx=>by
    rcases tk.1 hx with hx | hx
    ·exact h.seen x hx
    ·rw [fw.1 hx]; exact hk,fun x hx=>(h.pred x hx).imp (List.mem_append_left _) id,h.len⟩
   obtain ⟨us'',nd',h2,h3⟩:=Wj hv us0 hf hlt l (done++[k]) us nd ord hq
   exact ⟨us'',nd',h2,by rw [List.append_assoc] at h3; exact h3⟩
theorem Z1:∀ (f i:Nat) (us ord:List Nat),us.length≤f→us.Nodup→i∈us→(∀ x∈us,x < to.length)→∃ us' nd,tY f to i us ord = some (us',ord++nd)∧aNX to i us us' nd
 | 0,i,us,ord,hl,_,hi,_=>by
  have:=List.length_pos_of_mem hi; omega
 | f + 1,i,us,ord,hl,hn,hi,hlt=>by
  have hil:=hlt i hi
  have hel:(us.erase i).length = us.length - 1:=List.length_erase_of_mem hi
  have hpos:=List.length_pos_of_mem hi
  have h0:abW to (us.erase i) [] (us.erase i) []:=⟨hn.erase i,List.nodup_nil,fun x=>by simp,fun x hx=>by simp at hx,fun x hx=>by simp at hx,fun x hx=>by simp at hx,fun x hx=>by simp at hx,jk _⟩
  obtain ⟨us',nd,h1,q⟩:=Wj (fun i us ord=>Z1 f i us ord) (us.erase i) (by omega) (fun x hx=>hlt x (List.mem_of_mem_erase hx)) (to.getD i []) [] (us.erase i) [] ord h0
  rw [List.nil_append] at q
  rw [List.append_nil] at h1
  have aY:to[i]? = some (to.getD i []):=by rw [yw,ck hil]; rfl
  have hmem:∀ x,x∈us.erase i↔x ≠ i∧x∈us:=fun x=>List.Nodup.mem_erase_iff hn
  have hni:i ∉ us':=fun h=>by
   have:=(hmem i).1 ((q.part i).2 (.inl h)); exact this.1 rfl
  have hnd:i ∉ nd:=fun h=>by
   have:=(hmem i).1 ((q.part i).2 (.inr h)); exact this.1 rfl
  refine ⟨us',nd++[i],?_,⟨q.nodup,?_,fun x=>?_,fun x hx=>?_,⟨nd,rfl⟩,fun x hx y hy=>?_,fun x hx hne=>?_,by have:=q.len; omega⟩⟩
  ·rw [Go.RM.visitF_succ,aY]
   simp only [h1,List.append_assoc]
  ·rw [List.nodup_append]
   exact ⟨q.ndn,by simp,fun a ha b hb e=>by rw [fw.1 hb] at e; exact hnd (e ▸ ha)⟩
  ·rw [tk,fw]
   by_cases e:x = i
   ·subst e; simp [hi]
   ·have:=q.part x
    rw [hmem x] at this
    simp only [e,or_false]
    rw [← this]
    simp [e]
  ·rcases tk.1 hx with hx | hx
   ·exact q.disj x hx
   ·rw [fw.1 hx]; exact hni
  ·rcases tk.1 hx with hx | hx
   ·exact q.clos x hx y hy
   ·rw [fw.1 hx] at hy
    exact q.seen y hy
  ·rcases tk.1 hx with hx | hx
   ·rcases q.pred x hx with h2 | ⟨l1,l2,h2,p,h3,h4⟩
    ·obtain ⟨l1,l2,h3⟩:=List.append_of_mem hx
     exact ⟨l1,l2++[i],by rw [h3]; simp,i,by simp,h2⟩
    ·exact ⟨l1,l2++[i],by rw [h2]; simp,p,List.mem_append_left _ h3,h4⟩
   ·exact absurd (fw.1 hx) hne
end
open Go.Proofs Go.Proofs.Ytliccamocpglcaa
open Go.RM (tY gY NX qQ)
theorem Y8:∀ (ord:List Nat) (j:Nat) (p:List Nat × List Bool),ord.Nodup→(∀ x∈ord,x < p.1.length∧x < p.2.length) →
  (∀ (i:Nat) x,ord[i]? = some x→(gY j ord p).1[x]? = some (j + i))∧(∀ x,x ∉ ord→(gY j ord p).1[x]? = p.1[x]?∧(gY j ord p).2[x]? = p.2[x]?)∧∀ x∈ord,(gY j ord p).2[x]? = some true
 | [],j,p,_,_=>⟨fun i x h=>by simp at h,fun x _=>⟨rfl,rfl⟩,fun x h=>by simp at h⟩
 | a :: l,j,p,hn,hlt=>by
  obtain ⟨ha,hn'⟩:=List.nodup_cons.1 hn
  obtain ⟨h1,h2,h3⟩:=Y8 l (j + 1) (p.1.set a j,p.2.set a true) hn' (fun x hx=>by simp only [vw]; exact hlt x (List.mem_cons_of_mem _ hx))
  have hal:=hlt a (List.mem_cons_self ..)
  unfold gY
  refine ⟨fun i x hx=>?_,fun x hx=>?_,fun x hx=>?_⟩
  ·cases i with
   | zero =>
    cases hx
    rw [(h2 a ha).1]
    simp only
    rw [vk,if_pos rfl,if_pos hal.1]; rfl
   | succ i =>
    rw [h1 i x hx]
    congr 1
    omega
  ·rw [List.mem_cons,not_or] at hx
   rw [(h2 x hx.2).1,(h2 x hx.2).2]
   simp only
   rw [vk,vk,if_neg (Ne.symm hx.1),if_neg (Ne.symm hx.1)]
   exact ⟨rfl,rfl⟩
  ·rcases List.mem_cons.1 hx with rfl | hx
   ·rw [(h2 x ha).2]
    simp only
    rw [vk,if_pos rfl,if_pos hal.2]
   ·exact h3 x hx
section
variable {p0:api_Heap}
structure OrdQ (p0:api_Heap) (ls:List Nat):Prop where
 nodup:(p0.fObjects.length :: ls).Nodup
 lt:∀ x∈ls,x < p0.fObjects.length
 mem:∀ x,x∈p0.fObjects.length :: ls↔∃ m,Pth p0 (-1) m x
 pred:∀ x∈ls,∃ l1 l2,p0.fObjects.length :: ls = l1++x :: l2∧∃ p∈l1,Edge p0 p x
theorem aLj (hF:B5 p0) (hV:rJ p0):∃ ls,NX (e8 p0) (w8 p0) p0.fRoots = some (p0.fObjects.length :: ls)∧OrdQ p0 ls:=by
 have hn:=hF.n
 have htl:(apW p0).length = p0.fObjects.length + 1:=axj
 obtain ⟨us',nd,h1,q⟩:=Z1 (to:=apW p0) 100 p0.fObjects.length (List.range (p0.fObjects.length + 1)) [] (by rw [List.length_range]; omega) List.nodup_range (List.mem_range.2 (by omega)) (fun x hx=>by rw [htl]; exact List.mem_range.1 hx)
 rw [List.nil_append] at h1
 obtain ⟨l,hl⟩:=q.last
 have hndlt:∀ x∈nd,x < p0.fObjects.length + 1:=fun x hx=>List.mem_range.1 ((q.part x).2 (.inr hx))
 have hrev:nd.reverse = p0.fObjects.length :: l.reverse:=by rw [hl]; simp
 have hlen:nd.length≤p0.fObjects.length + 1:=apV q.ndn hndlt
 have hpred:∀ x∈nd,x ≠ p0.fObjects.length→∃ l1 l2,nd.reverse = l1++x :: l2∧∃ p∈l1,Edge p0 p x:=fun x hx hne=>by
  obtain ⟨l1,l2,e,p,hp,hpx⟩:=q.pred x hx hne
  refine ⟨l2.reverse,l1.reverse,by rw [e]; simp,p,List.mem_reverse.2 hp,?_⟩
  have hpn:p∈nd:=by rw [e]; simp [hp]
  exact (aiY hF hV (by have:=hndlt p hpn; omega)).1 hpx
 have hreach:∀ (j:Nat) (l1:List Nat) (x:Nat) (l2:List Nat),l1.length = j→nd.reverse = l1++x :: l2→∃ m,Pth p0 (-1) m x:=by
  intro j
  induction j using Nat.strongRecOn with
  | ind j ih =>
   intro l1 x l2 hj e
   by_cases hx:x = p0.fObjects.length
   ·subst hx; exact ⟨0,.zero⟩
   ·have hxn:x∈nd:=List.mem_reverse.1 (by rw [e]; simp)
    obtain ⟨a1,a2,e2,p,hp,hE⟩:=hpred x hxn hx
    have hnd:nd.reverse.Nodup:=List.pairwise_reverse.2 (q.ndn.imp fun h=>Ne.symm h)
    have hl1:l1 = a1:=by
     rw [e] at e2 hnd
     have hx1:x ∉ l1:=fun h=>by
      rw [List.nodup_append] at hnd
      exact hnd.2.2 x h x (by simp) rfl
     have hx2:x ∉ a1:=fun h=>by
      rw [e2,List.nodup_append] at hnd
      exact hnd.2.2 x h x (by simp) rfl
     rcases List.append_eq_append_iff.1 e2 with ⟨c,hc1,hc2⟩ | ⟨c,hc1,hc2⟩
     ·cases c with
      | nil=>rw [hc1,List.append_nil]
      | cons z c =>
       simp only [List.cons_append,List.cons.injEq] at hc2
       rw [hc1,← hc2.1] at hx2; simp at hx2
     ·cases c with
      | nil=>rw [hc1,List.append_nil]
      | cons z c =>
       simp only [List.cons_append,List.cons.injEq] at hc2
       rw [hc1,← hc2.1] at hx1; simp at hx1
    subst hl1
    obtain ⟨b1,b2,e3⟩:=List.append_of_mem hp
    obtain ⟨m,hm⟩:=ih b1.length (by rw [← hj,e3,sk,List.length_cons]; omega) b1 p (b2++x :: l2) rfl (by rw [e,e3]; simp)
    exact ⟨m + 1,.succ hm hE (by omega)⟩
 refine ⟨l.reverse,?_,⟨?_,fun x hx=>?_,fun x=>?_,fun x hx=>?_⟩⟩
 ·unfold NX
  rw [aqZ hF hV]
  simp only [cond_true,uK]
  have h1':tY 100 (Go.RM.adds (aaW p0) (w8 p0) p0.fRoots).1 p0.fObjects.length (List.range (p0.fObjects.length + 1)) [] = some (us',nd):=h1
  rw [h1']
  have hb:(decide (nd.length≤1000) && nd.all (fun i=>decide (i < p0.fObjects.length + 1))) = true:=by
   rw [fk,lw,qw]
   exact ⟨by omega,fun x hx=>decide_eq_true (hndlt x hx)⟩
  simp only [hb,cond_true,hrev]
 ·rw [← hrev]
  exact List.pairwise_reverse.2 (q.ndn.imp fun h=>Ne.symm h)
 ·have hxn:x∈nd:=by rw [hl]; simp [List.mem_reverse.1 hx]
  have h2:=hndlt x hxn
  have h3:x ≠ p0.fObjects.length:=fun e=>by
   have:=q.ndn
   rw [hl,List.nodup_append] at this
   exact this.2.2 x (List.mem_reverse.1 hx) p0.fObjects.length (by simp) e
  omega
 ·rw [← hrev,List.mem_reverse]
  constructor
  ·intro hx
   obtain ⟨l1,l2,e⟩:=List.append_of_mem (List.mem_reverse.2 hx)
   exact hreach l1.length l1 x l2 rfl e
  ·rintro ⟨m,hm⟩
   induction hm with
   | zero=>rw [hl]; simp
   | @succ m x y p1 p2 _ ih =>
    have h2:=q.clos x ih y ((aiY hF hV (by have:=hndlt x ih; omega)).2 p2)
    rcases (q.part y).1 (List.mem_range.2 (by have := p2.lt; omega)) with h3 | h3
    ·exact absurd h3 h2
    ·exact h3
 ·have hxn:x∈nd:=by rw [hl]; simp [List.mem_reverse.1 hx]
  have h3:x ≠ p0.fObjects.length:=fun e=>by
   have:=q.ndn
   rw [hl,List.nodup_append] at this
   exact this.2.2 x (List.mem_reverse.1 hx) p0.fObjects.length (by simp) e
  rw [← hrev]
  exact hpred x hxn h3
theorem OrdQ.vals {ls:List Nat} (h:OrdQ p0 ls):(∀ (i:Nat) x,(p0.fObjects.length :: ls)[i]? = some x→(qQ p0.fObjects.length (p0.fObjects.length :: ls)).1[x]? = some i) ∧
  ∀ x,x≤p0.fObjects.length→((qQ p0.fObjects.length (p0.fObjects.length :: ls)).2.getD x false = true↔x∈p0.fObjects.length :: ls):=by
 have hlt:∀ x∈p0.fObjects.length :: ls,x < p0.fObjects.length + 1:=fun x hx=>by
  rcases List.mem_cons.1 hx with rfl | hx
  ·omega
  ·have:=h.lt x hx; omega
 obtain ⟨h1,h2,h3⟩:=Y8 (p0.fObjects.length :: ls) 0 (List.replicate (p0.fObjects.length + 1) 0,List.replicate (p0.fObjects.length + 1) false) h.nodup (fun x hx=>by simp only [ow]; exact ⟨hlt x hx,hlt x hx⟩)
 unfold qQ
 refine ⟨fun i x hx=>by rw [h1 i x hx,Nat.zero_add],fun x hx=>?_⟩
 rw [yw]
 constructor
 ·intro hh
  apply Classical.byContradiction
  intro hne
  rw [(h2 x hne).2,List.getElem?_replicate,if_pos (by omega)] at hh
  simp at hh
 ·intro hh
  rw [h3 x hh]; rfl
end
open Go.Proofs Go.Proofs.Ytliccamocpglcaa
open Go.RM (NX qQ)
section
variable {p0:api_Heap}
def ReachIs (p0:api_Heap) (l:List Bool):Prop:=l.length = p0.fObjects.length∧∀ k,k < p0.fObjects.length→(l.getD k false = true↔∃ m,Pth p0 (-1) m k)
theorem agQ (hF:B5 p0) (hs:∀ o∈p0.fObjects,o.fType.size≤9223372036854775807):(G4 p0 ≠ 0∧t6 p0 = some ([],G4 p0))∨(G4 p0 = 0∧rJ p0∧∃ l,t6 p0 = some (l,0)∧ReachIs p0 l):=by
 unfold t6 Go.RM.reachF
 rw [acY hF hs]
 simp only [gw]
 by_cases h:G4 p0 = 0
 ·have hV:=axK h
  refine .inr ⟨h,hV,?_⟩
  obtain ⟨ls,h1,hO⟩:=aLj hF hV
  rw [h,h1]
  simp only [decide_true,cond_true,uw]
  obtain ⟨_,hv⟩:=hO.vals
  have hkl:(qQ p0.fObjects.length (p0.fObjects.length :: ls)).2.length = p0.fObjects.length + 1:=by
   have:=(Go.RM.placeFrom_len (p0.fObjects.length :: ls) 0 (List.replicate (p0.fObjects.length + 1) 0,List.replicate (p0.fObjects.length + 1) false)).2
   rw [ow] at this
   exact this
  refine ⟨_,rfl,by rw [uK,List.length_take,hkl]; omega,fun k hk=>?_⟩
  rw [uK,← hO.mem k,← hv k (by omega),yw,xk,if_pos hk,← yw]
 ·exact .inl ⟨h,by rw [rk h]; rfl⟩
end
open Go.Proofs Go.Proofs.Ytliccamocpglcaa
section
variable {p0:api_Heap}
theorem L5 {α ρ:Type} (l:List α):e9 (fun (_:Nat) (_:α)=>(none:Option ρ)) l 0 = none:=A0.2 fun _ _ _=>rfl
theorem ReachIs.get {l:List Bool} (h:ReachIs p0 l) {k:Nat} (hk:k < p0.fObjects.length):∃ b,l[k]? = some b∧(b = true↔∃ m,Pth p0 (-1) m k):=by
 have hl:k < l.length:=by rw [h.1]; exact hk
 refine ⟨l[k],ck hl,?_⟩
 have:=h.2 k hk
 rw [yw,ck hl] at this
 exact this
theorem heapCloses_holds (p0:api_Heap) (hs:∀ o∈p0.fObjects,o.fType.size≤9223372036854775807):d0 p0 = some true:=by
 unfold d0
 obtain ⟨b,hb,hbF⟩:=aJY p0
 rw [hb]
 simp only [gw]
 cases b with
 | false=>simp only [Bool.not_false,cond_true,V2,gw]
 | true =>
  have hF:=hbF.1 rfl
  have hn:=hF.n
  have hrl:=hF.r
  simp only [Bool.not_true,cond_false,aoX hF hs,gw]
  rcases agQ hF hs with ⟨h1,h2⟩ | ⟨h1,hV,l,h2,h3⟩
  ·simp only [rk h1,Bool.not_false,cond_true,V2,gw]
  ·have hll:=h3.1
   simp only [h1,h2,decide_true,Bool.not_true,cond_false,gw,hll]
   have hr3:loop (d8 p0 (l,0)) 0 = some (.inl ()):=by
    rw [qx (step:=d8 p0 (l,0)) p0.fRoots (fun _ _=>none) (by omega) (fun i y hy=>by
     have hil:=fZ hy
     have hw:=tz (show i < 9223372036854775807 by omega)
     obtain ⟨k,o,hk,rfl⟩:=N8 (hV.roots.1 y (iw hy))
     obtain ⟨b,hb1,hb2⟩:=h3.get (fZ hk)
     have hbt:b = true:=hb2.2 ⟨1,.succ .zero ⟨o,hk,by unfold V0; rw [if_pos rfl]; exact iw hy⟩ (by omega)⟩
     subst hbt
     unfold d8
     simp only [show ((i:Int) < (p0.fRoots.length:Int)) from by omega,decide_true,cond_true,m8,hy,gw,LW p0 o.fId (by omega),Oq hV hk,hb1,Bool.not_true,cond_false,hw]) (by unfold d8; simp),L5]
    rfl
   have hr2:loop (d6 p0 (l,0)) 0 = some (.inl ()):=by
    rw [qx (step:=d6 p0 (l,0)) l (fun _ _=>none) (by omega) (fun i b hb=>by
     have hil:=fZ hb
     have hw:=tz (show i < 9223372036854775807 by omega)
     have hin:i < p0.fObjects.length:=by omega
     obtain ⟨b',hb1,hb2⟩:=h3.get hin
     rw [hb] at hb1; cases hb1
     obtain ⟨o,ho⟩ : ∃ o,p0.fObjects[i]? = some o:=⟨_,ck hin⟩
     have hor:=hF.refs o (iw ho)
     have hl1:loop (d7 p0 (l,0) (i:Int)) 0 = some (.inl ()):=by
      rw [qx (step:=d7 p0 (l,0) (i:Int)) o.fRefs (fun _ _=>none) (by omega) (fun j y hy=>by
       have hjl:=fZ hy
       have hwj:=tz (show j < 9223372036854775807 by omega)
       obtain ⟨k,o',hk,rfl⟩:=N8 ((hV.refs o (iw ho)).1 y (iw hy))
       obtain ⟨b2,hb3,hb4⟩:=h3.get (fZ hk)
       unfold d7
       simp only [m8,ho,gw,show ((j:Int) < (o.fRefs.length:Int)) from by omega,decide_true,cond_true,hy,LW p0 o'.fId (by omega),Oq hV hk,hb,hb3]
       cases b with
       | false=>simp only [cond_false,gw,hwj]
       | true =>
        obtain ⟨m,hm⟩:=hb2.1 rfl
        have hbt:b2 = true:=hb4.2 ⟨m + 1,.succ hm ⟨o',hk,by unfold V0; rw [if_neg (by omega),ho]; exact iw hy⟩ (by omega)⟩
        subst hbt
        simp only [cond_true,gw,Bool.not_true,cond_false,hwj]) (by unfold d7; simp only [m8,ho,gw]; simp),L5]
      rfl
     unfold d6
     simp only [show ((i:Int) < (l.length:Int)) from by omega,decide_true,cond_true,hl1,gw,m8,hb]
     cases b with
     | false=>simp only [cond_false,gw,hw]
     | true =>
      obtain ⟨m,hm⟩:=hb2.1 rfl
      have hne : ¬ (p0.fRoots.length:Int) = 0:=fun e=>by
       have he:p0.fRoots = []:=ik (by omega)
       have key:∀ m k,Pth p0 (-1) m k→m = 0:=by
        intro m
        induction m with
        | zero=>intro k _; rfl
        | succ m ih =>
         intro k hp
         cases hp with
         | @succ _ x _ p1 p2 p3 =>
          have:=ih x p1
          subst this
          cases p1
          obtain ⟨o2,_,h5⟩:=p2
          unfold V0 at h5
          rw [if_pos rfl,he] at h5
          simp at h5
       have:=key m i hm
       subst this
       cases hm
       omega
      simp only [rk hne,cond_true,gw,cond_false,hw]) (by unfold d6; simp),L5]
    rfl
   simp only [hr3,hr2,gw,V2]
end
open Go.Proofs Go.Proofs.Ytliccamocpglcaa
open Go.RM (wx OY MJ S2)
inductive Anc (d:Nat→Nat) (r:Nat):Nat→Nat→Prop
 | refl (v:Nat):Anc d r v v
 | up {v a:Nat}:v ≠ r→Anc d r (d v) a→Anc d r v a
section
variable {d P:Nat→Nat} {r:Nat} {K:Nat→Prop}
end
section
variable {pl dv:List Nat} {P:Nat→Nat} {r n:Nat} {K:Nat→Prop}
abbrev dF (dv:List Nat) (v:Nat):Nat:=dv.getD v 0
end
open Go.Proofs Go.Proofs.Ytliccamocpglcaa
open Go.RM (wx OY MJ S2 qQ)
section
variable {p0:api_Heap}
abbrev aKK (p0:api_Heap) (ls:List Nat):List Nat:=p0.fObjects.length :: ls
abbrev plL (p0:api_Heap) (ls:List Nat):List Nat:=(qQ p0.fObjects.length (p0.fObjects.length :: ls)).1
abbrev PL (p0:api_Heap) (ls:List Nat) (v:Nat):Nat:=(plL p0 ls).getD v 0
theorem OrdQ.place {ls:List Nat} (hO:OrdQ p0 ls) {j x:Nat} (h:(aKK p0 ls)[j]? = some x):PL p0 ls x = j:=by
 have:=hO.vals.1 j x h
 unfold PL
 rw [yw,this]; rfl
theorem OrdQ.inj {ls:List Nat} (hO:OrdQ p0 ls) {u v:Nat} (hu:u∈aKK p0 ls) (hv:v∈aKK p0 ls) (h:PL p0 ls u = PL p0 ls v):u = v:=by
 obtain ⟨i,hi⟩:=List.getElem?_of_mem hu
 obtain ⟨j,hj⟩:=List.getElem?_of_mem hv
 rw [hO.place hi,hO.place hj] at h
 subst h
 rw [hi] at hj
 exact Option.some.inj hj
theorem Pth.any {w:Int} {m x:Nat} (h:Pth p0 w m x):Pth p0 (-1) m x:=by
 induction h with
 | zero=>exact .zero
 | succ _ h2 _ ih=>exact .succ ih h2 (by omega)
inductive PG (p0:api_Heap) (ls:List Nat) (k:Nat) (x:Nat):Nat→Prop
 | refl:PG p0 ls k x x
 | step {y z:Nat}:PG p0 ls k x y→Edge p0 y z→k≤PL p0 ls z→PG p0 ls k x z
theorem PG.mono {ls:List Nat} {k k' x y:Nat} (h:PG p0 ls k x y) (hk:k'≤k):PG p0 ls k' x y:=by
 induction h with
 | refl=>exact .refl
 | step _ h2 h3 ih=>exact .step ih h2 (by omega)
end
open Go.Proofs Go.Proofs.Ytliccamocpglcaa
open Go.RM (wx OY MJ S2 qQ)
section
variable {p0:api_Heap}
end
open Go.Proofs Go.Proofs.Ytliccamocpglcaa
open Go.RM (Hz oZ aMW aLW adj)
section
variable {p0:api_Heap}
end
open Go.Proofs Go.Proofs.Ytliccamocpglcaa
open Go.RM (Hz oZ)
section
variable {p0:api_Heap}
end
open Go.Proofs Go.Proofs.Ytliccamocpglcaa
open Go.RM (Hz oZ)
section
variable {p0:api_Heap}
end
open Go.Proofs Go.Proofs.Ytliccamocpglcaa
open Go.RM (rW C2 W1 aeK)
open Classical in
noncomputable def S5 (f:Nat→Int) (p:Nat→Prop):Nat→Int
 | 0=>0
 | n + 1=>S5 f p n + if p n then f n else 0
theorem O1 {f:Nat→Int} {p:Nat→Prop} {B:Int} (hB:0≤B):∀ (n:Nat),(∀ u,u < n→0≤f u∧f u≤B)→0≤S5 f p n∧S5 f p n≤n * B
 | 0,_=>by unfold S5; omega
 | n + 1,h=>by
  have h1:=O1 (p:=p) hB n (fun u hu=>h u (by omega))
  have h2:=h n (by omega)
  unfold S5
  have e:((n + 1:Nat):Int) * B = n * B + B:=by rw [Int.natCast_add,Int.add_mul]; omega
  rw [e]
  split <;> omega
section
variable {p0:api_Heap}
def SZ (p0:api_Heap) (u:Nat):Int:=((w8 p0).map Go.RM.HO.size).getD u 0
theorem aLx {u:Nat} {o:bX} (h:p0.fObjects[u]? = some o):SZ p0 u = o.fSize:=by
 unfold SZ
 rw [yw,gk,Z7,h]; rfl
theorem aMx (hV:rJ p0) {u:Nat} (h:u < p0.fObjects.length):0≤SZ p0 u∧SZ p0 u≤1000000000000:=by
 obtain ⟨o,ho⟩ : ∃ o,p0.fObjects[u]? = some o:=⟨_,ck h⟩
 rw [aLx ho]
 exact hV.size o (iw ho)
abbrev aMq (p0:api_Heap) (dv:List Nat) (u v:Nat):Prop:=Anc (dF dv) p0.fObjects.length u v
structure RI (p0:api_Heap) (dv D:List Nat) (z:List Int):Prop where
 len:z.length = p0.fObjects.length + 1
 A1:∀ v,v∈D→z.getD v 0 = S5 (SZ p0) (fun u=>u∈D∧aMq p0 dv u v) p0.fObjects.length
 A2:∀ v,v≤p0.fObjects.length→v ∉ D→z.getD v 0 = S5 (SZ p0) (fun u=>u∈D∧∃ c,c∈D∧dF dv c = v∧aMq p0 dv u c) p0.fObjects.length
 B:∀ v,v≤p0.fObjects.length→z.getD v 0 = (if v∈D then SZ p0 v else 0) + S5 (fun c=>z.getD c 0) (fun c=>c∈D∧dF dv c = v) p0.fObjects.length
theorem RI.range (hF:B5 p0) (hV:rJ p0) {dv D:List Nat} {z:List Int} (h:RI p0 dv D z) {v:Nat} (hv:v≤p0.fObjects.length):0≤z.getD v 0∧z.getD v 0≤16000000000000:=by
 have hn:=hF.n
 have key:∀ p:Nat→Prop,0≤S5 (SZ p0) p p0.fObjects.length∧S5 (SZ p0) p p0.fObjects.length≤16000000000000:=fun p=>by
  have:=O1 (p:=p) (B:=1000000000000) (by omega) p0.fObjects.length fun u hu=>aMx hV hu
  refine ⟨this.1,Int.le_trans this.2 ?_⟩
  have:(p0.fObjects.length:Int) * 1000000000000≤16 * 1000000000000:=Int.mul_le_mul_of_nonneg_right (by omega) (by omega)
  omega
 by_cases e:v∈D
 ·rw [h.A1 v e]; exact key _
 ·rw [h.A2 v hv e]; exact key _
end
open Go.Proofs Go.Proofs.Ytliccamocpglcaa
open Go.RM (rW Hz oZ)
section
variable {p0:api_Heap}
open Classical in
open Classical in
end
open Go.Proofs Go.Proofs.Ytliccamocpglcaa
open Go.RM (rW Hz oZ)
section
variable {p0:api_Heap}
end
end Go.VM
