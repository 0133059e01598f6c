/- The law holds: plain mathematics on what the functions compute. -/
import Derived.Test.YtliccamocpglcaaL51B
namespace Go.VM
def e9 {α ρ:Type} (g:Nat→α→Option ρ):List α→Nat→Option ρ
 | [],_=>none
 | y :: ys,i=>match g i y with
  | some r=>some r
  | none=>e9 g ys (i + 1)
theorem xx {α ρ:Type} {g:Nat→α→Option ρ}:∀ {xs:List α} {i:Nat},e9 g xs i = none↔∀ j y,xs[j]? = some y→g (i + j) y = none
 | [],i=>by simp [e9]
 | y :: ys,i=>by
  simp only [e9]
  cases h:g i y with
  | some r =>
   simp only [reduceCtorEq,false_iff]
   intro hx
   have:=hx 0 y rfl
   rw [Nat.add_zero,h] at this; simp at this
  | none =>
   rw [xx (xs:=ys) (i:=i + 1)]
   constructor
   ·intro hx j y' hj
    cases j with
    | zero=>simp at hj; subst hj; exact h
    | succ j=>have:=hx j y' (by simpa using hj); rwa [show i + 1 + j = i + (j + 1) from by omega] at this
   ·intro hx j y' hj
    have:=hx (j + 1) y' (by simpa using hj)
    rwa [show i + (j + 1) = i + 1 + j from by omega] at this
theorem uQ {α ρ:Type} {g:Nat→α→Option ρ} {r:ρ}:∀ {xs:List α} {i:Nat},e9 g xs i = some r→∃ j y,xs[j]? = some y∧g (i + j) y = some r∧∀ k z,k < j→xs[k]? = some z→g (i + k) z = none
 | [],i,h=>by simp [e9] at h
 | y :: ys,i,h=>by
  simp only [e9] at h
  cases hg:g i y with
  | some r' =>
   rw [hg] at h; cases h
   exact ⟨0,y,rfl,hg,fun k z hk=>by omega⟩
  | none =>
   rw [hg] at h
   obtain ⟨j,z,h1,h2,h3⟩:=uQ h
   refine ⟨j + 1,z,by simpa using h1,by rw [← h2]; congr 1; omega,fun k u hk hu=>?_⟩
   cases k with
   | zero=>simp at hu; subst hu; exact hg
   | succ k=>have:=h3 k u (by omega) (by simpa using hu); rwa [show i + 1 + k = i + (k + 1) from by omega] at this
theorem S4 {α ρ:Type} (g:Nat → α → Option ρ) (e:ρ):∀ (xs:List α) (i:Nat),Xq (fun i y (_:Unit) => match g i y with | some r => Sum.inr r | none => .inl ()) (fun _ => e) xs i () = (e9 g xs i).getD e
 | [],_=>rfl
 | y :: ys,i=>by
  simp only [Xq,e9]
  cases g i y with
  | some r=>rfl
  | none=>exact S4 g e ys (i + 1)
theorem agx {α ρ:Type} {step:Int→Option (Int ⊕ ρ)} (xs:List α) (g:Nat→α→Option ρ) (e:ρ) (hl:xs.length < lQ)
  (h1:∀ (i:Nat) y,xs[i]? = some y → step (i:Int) = some (match g i y with | some r => .inr r | none => .inl ((i:Int) + 1))) (h2:step (xs.length:Int) = some (.inr e)):loop step 0 = some ((e9 g xs 0).getD e) := by
 have := U8 (σ := Unit) (step := step) xs (fun i _ => (i:Int)) (fun i y _ => match g i y with | some r => .inr r | none => .inl ()) (fun _ => e) hl
  (fun i y s hy=>by
   rw [h1 i y hy]
   cases g i y <;> simp)
  (fun _=>h2) ()
 rw [show (0:Int) = ((0:Nat):Int) from rfl,this,S4]
theorem gJ {α:Type} {xs:List α} {i:Nat} {y:α} (h:xs[i]? = some y):i < xs.length:=(List.getElem?_eq_some_iff.1 h).1
theorem uK {i:Nat} (h:i < 9223372036854775807):w64 ((i:Int) + 1) = (i:Int) + 1:=i5 (by omega)
end Go.VM
namespace Go.VM
def Ok {α:Type} (x:Option α) (P:α→Prop):Prop:=∃ r,x = some r∧P r
def Yes {α:Type}:α→Prop:=fun _=>True
def P8 {α β:Type} (A:α→Prop) (B:β→Prop):α ⊕ β→Prop
 | .inl a=>A a
 | .inr b=>B b
theorem aJQ {α:Type} {P:α→Prop} {r:α} (h:P r):Ok (some r) P:=⟨r,rfl,h⟩
theorem Mx {α β:Type} {A:α→Prop} {B:β→Prop} {a:α} (h:A a):Ok (some (.inl a)) (P8 A B):=⟨_,rfl,h⟩
theorem Iz {α β:Type} {A:α→Prop} {B:β→Prop} {b:β} (h:B b):Ok (some (.inr b)) (P8 A B):=⟨_,rfl,h⟩
theorem nW {α β:Type} {x:Option α} {f:α→Option β} {Q:α→Prop} {P:β→Prop} (hx:Ok x Q) (hf:∀ r,Q r→Ok (f r) P):Ok (x.bind f) P:=by
 obtain ⟨r,h1,h2⟩:=hx
 subst h1; exact hf r h2
theorem aCz {α β γ:Type} {x:Option (α ⊕ γ)} {f:α ⊕ γ→Option β} {Q:α ⊕ γ→Prop} {P:β→Prop} (hx:Ok x Q) (hf:∀ r,Q (.inl r)→Ok (f (.inl r)) P) (hg:∀ r,Q (.inr r)→Ok (f (.inr r)) P):Ok (x.bind f) P :=
 nW hx (fun r => match r with | .inl a => hf a | .inr b => hg b)
theorem Eq {α:Type} {b:Bool} {x y:Option α} {P:α→Prop} (h1:b = true→Ok x P) (h2:b = false→Ok y P):Ok (cond b x y) P:=by
 cases b
 ·exact h2 rfl
 ·exact h1 rfl
theorem Ok.mono {α:Type} {x:Option α} {P Q:α→Prop} (h:Ok x P) (hq:∀ r,P r→Q r):Ok x Q:=by
 obtain ⟨r,h1,h2⟩:=h; exact ⟨r,h1,hq r h2⟩
theorem Ok.yes {α:Type} {x:Option α} {P:α→Prop} (h:Ok x P):Ok x Yes:=h.mono (fun _ _=>trivial)
theorem F3 {α:Type} {xs:List α} {i:Int} (h1:0≤i) (h2:i < xs.length):Ok (idx xs i) (fun y=>xs[i.toNat]? = some y):=by
 obtain ⟨n,rfl⟩:=Int.eq_ofNat_of_zero_le h1
 have h3:n < xs.length:=by omega
 rw [m5]
 exact ⟨xs[n],by simp [h3],by simp [h3]⟩
theorem W9 {S ρ:Type} {step:S→Option (S ⊕ ρ)} (Inv:S→Prop) (m:S→Nat) {Post:ρ→Prop}
  (h:∀ s,Inv s→Ok (step s) (P8 (fun s'=>Inv s'∧m s' < m s) Post)) {s:S} (hs:Inv s) (hm:m s < lQ):Ok (loop step s) Post:=by
 refine auX Inv m Post (fun s hs=>?_) hs hm
 obtain ⟨r,h1,h2⟩:=h s hs
 cases r with
 | inl a=>exact Or.inl ⟨a,h1,h2⟩
 | inr b=>exact Or.inr ⟨b,h1,h2⟩
theorem aNJ {ρ:Type} {step:Int→Option (Int ⊕ ρ)} (n:Nat) {Post:ρ→Prop} (hn:n≤9223372036854775807)
  (h:∀ i:Int,0≤i→i≤n→Ok (step i) (P8 (fun a=>i < n∧a = i + 1) Post)):Ok (loop step 0) Post:=by
 refine W9 (fun i:Int=>0≤i∧i≤(n:Int)) (fun i:Int=>((n:Int) - i).toNat) (fun i hi=>(h i hi.1 hi.2).mono ?_) ⟨by omega,by omega⟩ (by simp [lQ]; omega)
 rintro (a | b) hr
 ·obtain ⟨h1,rfl⟩ : i < n∧a = i + 1:=hr
  exact ⟨⟨by omega,by omega⟩,by omega⟩
 ·exact hr
theorem PZ {α:Type} {r:α}:Ok (some r) Yes:=⟨r,rfl,trivial⟩
theorem Kx {α β:Type} {B:β→Prop} {a:α}:Ok (some (.inl a)) (P8 Yes B):=⟨_,rfl,trivial⟩
theorem KZ {α β:Type} {A:α→Prop} {b:β}:Ok (some (.inr b)) (P8 A Yes):=⟨_,rfl,trivial⟩
theorem J7 {ρ:Type} {i:Int} {n:Nat} {P:ρ→Prop} (h1:0≤i) (h2:i < (n:Int)) (h3:n≤9223372036854775807):Ok (some (.inl (w64 (i + 1)))) (P8 (fun a:Int=>i < (n:Int)∧a = i + 1) P) :=
 Mx ⟨h2,i5 (by omega)⟩
theorem B9 {α:Type} {p:Prop} [Decidable p] {x y:Option α} {P:α→Prop} (h1:p→Ok x P) (h2 : ¬p→Ok y P):Ok (cond (decide p) x y) P :=
 Eq (fun h=>h1 (of_decide_eq_true h)) (fun h=>h2 (of_decide_eq_false h))
theorem K0 {α:Type} {p:Prop} [Decidable p] {x y:Option α} {P:α→Prop} (h1 : ¬p→Ok x P) (h2:p→Ok y P):Ok (cond (!decide p) x y) P:=by
 by_cases h:p
 ·simpa [h] using h2 h
 ·simpa [h] using h1 h
theorem P2 {α:Type} {b:Bool} {x y:Option α} {P:α→Prop} (h1:b = false→Ok x P) (h2:b = true→Ok y P):Ok (cond (!b) x y) P:=by
 cases b
 ·exact h1 rfl
 ·exact h2 rfl
theorem Rz {σ ρ:Type} {step:σ × Int→Option ((σ × Int) ⊕ ρ)} (n:Nat) (Inv:σ→Int→Prop) {Post:ρ→Prop} (hn:n≤9223372036854775807) {s0:σ} (h0:Inv s0 0)
  (h:∀ (s:σ) (i:Int),Inv s i→0≤i→i≤n→Ok (step (s,i)) (P8 (fun a=>i < n∧a.2 = i + 1∧Inv a.1 (i + 1)) Post)):Ok (loop step (s0,0)) Post:=by
 refine W9 (fun s:σ × Int=>Inv s.1 s.2∧0≤s.2∧s.2≤(n:Int)) (fun s:σ × Int=>((n:Int) - s.2).toNat) (fun s hi=>(h s.1 s.2 hi.1 hi.2.1 hi.2.2).mono ?_) ⟨h0,by simp,by simp⟩ (by simp [lQ]; omega)
 rintro (⟨a,j⟩ | b) hr
 ·obtain ⟨h1,h2,h3⟩ : s.2 < n∧j = s.2 + 1∧Inv a (s.2 + 1):=hr
  subst h2
  exact ⟨⟨h3,by simp; omega,by simp; omega⟩,by simp; omega⟩
 ·exact hr
theorem abz {σ ρ:Type} {s:σ} {i:Int} {n:Nat} {Inv:σ→Int→Prop} {P:ρ→Prop} (hI:Inv s (i + 1)) (h1:0≤i) (h2:i < (n:Int)) (h3:n≤9223372036854775807):Ok (some (.inl (s,w64 (i + 1)))) (P8 (fun a:σ × Int=>i < (n:Int)∧a.2 = i + 1∧Inv a.1 (i + 1)) P) :=
 Mx ⟨h2,i5 (by omega),hI⟩
theorem aGQ {b n:Nat} (h1:n * b≤140737488355328) (h2:n≤9223372036854775807):apK b n = true:=by
 simp only [apK,Bool.and_eq_true]
 exact ⟨Nat.ble_eq_true_of_le h1,Nat.ble_eq_true_of_le h2⟩
theorem L5 (c:Int):Ok (nJ c) Yes:=by
 unfold nJ d9 kz
 repeat' (first | (with_reducible first | exact PZ | exact KZ | exact Kx | refine K0 (fun _=>?_) fun _=>?_ | refine B9 (fun _=>?_) fun _=>?_ | refine P2 (fun _=>?_) fun _=>?_ | refine Eq (fun _=>?_) fun _=>?_) | (with_reducible refine J7 ?_ ?_ ?_ <;> (first | assumption | omega | rw [i5] <;> omega)) | with_reducible refine nW (F3 (by (first | assumption | omega | rw [i5] <;> omega)) (by (first | assumption | omega | rw [i5] <;> omega))) (fun _ _=>?_) | (with_reducible refine nW (Q:=Yes) ?_ fun _ _=>?_) | dsimp only)
theorem R1 (s:ByteArray) (h:s.size≤9223372036854775807):Ok (kK s) Yes:=by
 unfold kK
 refine nW (Q:=Yes) ?_ (fun v _=>?_)
 ·repeat' (first | (with_reducible first | exact PZ | exact KZ | exact Kx | refine K0 (fun _=>?_) fun _=>?_ | refine B9 (fun _=>?_) fun _=>?_ | refine P2 (fun _=>?_) fun _=>?_ | refine Eq (fun _=>?_) fun _=>?_) | (with_reducible refine J7 ?_ ?_ ?_ <;> (first | assumption | omega | rw [i5] <;> omega)) | with_reducible refine nW (F3 (by (first | assumption | omega | rw [i5] <;> omega)) (by (first | assumption | omega | rw [i5] <;> omega))) (fun _ _=>?_) | (with_reducible refine nW (Q:=Yes) ?_ fun _ _=>?_) | dsimp only)
 refine Eq (fun _=>aJQ trivial) (fun _=>?_)
 have e:s.data.toList.length = s.size:=by rw [Array.length_toList]; rfl
 refine aCz (Q:=Yes) (aNJ s.size h fun i h1 h2=>?_) (fun _ _=>?_) (fun _ _=>?_)
 ·unfold mQ
  repeat' (first | (with_reducible first | exact PZ | exact KZ | exact Kx | refine K0 (fun _=>?_) fun _=>?_ | refine B9 (fun _=>?_) fun _=>?_ | refine P2 (fun _=>?_) fun _=>?_ | refine Eq (fun _=>?_) fun _=>?_) | (with_reducible refine J7 ?_ ?_ ?_ <;> (first | assumption | omega | rw [i5] <;> omega)) | with_reducible refine nW (F3 (by (first | assumption | omega | rw [i5] <;> omega)) (by (first | assumption | omega | rw [i5] <;> omega))) (fun _ _=>?_) | (with_reducible refine Ok.yes (F3 ?_ (by rw [e]; (first | assumption | omega | rw [i5] <;> omega))) <;> (first | assumption | omega | rw [i5] <;> omega)) | (with_reducible refine Ok.yes (L5 _) <;> (first | assumption | omega | rw [i5] <;> omega)) | (with_reducible refine nW (Q:=Yes) ?_ fun _ _=>?_) | dsimp only)
 ·repeat' (first | (with_reducible first | exact PZ | exact KZ | exact Kx | refine K0 (fun _=>?_) fun _=>?_ | refine B9 (fun _=>?_) fun _=>?_ | refine P2 (fun _=>?_) fun _=>?_ | refine Eq (fun _=>?_) fun _=>?_) | (with_reducible refine J7 ?_ ?_ ?_ <;> (first | assumption | omega | rw [i5] <;> omega)) | with_reducible refine nW (F3 (by (first | assumption | omega | rw [i5] <;> omega)) (by (first | assumption | omega | rw [i5] <;> omega))) (fun _ _=>?_) | (with_reducible refine nW (Q:=Yes) ?_ fun _ _=>?_) | dsimp only)
 ·repeat' (first | (with_reducible first | exact PZ | exact KZ | exact Kx | refine K0 (fun _=>?_) fun _=>?_ | refine B9 (fun _=>?_) fun _=>?_ | refine P2 (fun _=>?_) fun _=>?_ | refine Eq (fun _=>?_) fun _=>?_) | (with_reducible refine J7 ?_ ?_ ?_ <;> (first | assumption | omega | rw [i5] <;> omega)) | with_reducible refine nW (F3 (by (first | assumption | omega | rw [i5] <;> omega)) (by (first | assumption | omega | rw [i5] <;> omega))) (fun _ _=>?_) | (with_reducible refine nW (Q:=Yes) ?_ fun _ _=>?_) | dsimp only)
theorem axZ {S ρ:Type} {step:S→Option (S ⊕ ρ)} {Q:ρ→Prop} (h:∀ s r,step s = some (.inr r)→Q r) {s:S} {r:ρ} (hr:loop step s = some r):Q r:=by
 have key:∀ n s,iter step n s = some r→Q r:=by
  intro n
  induction n with
  | zero=>intro s h; simp [iter] at h
  | succ n ih =>
   intro s hs
   rw [C7] at hs
   cases e:step s with
   | none=>rw [e] at hs; simp at hs
   | some x =>
    rw [e] at hs
    cases x with
    | inl s'=>exact ih s' hs
    | inr r'=>simp only [Option.some.injEq] at hs; subst hs; exact h s _ e
 exact key _ s hr
theorem asx (y:UInt8):nJ (y.toNat:Int) = j6 (y.toNat:Int):=by
 have h:(List.range 256).all (fun n=>decide (nJ (n:Int) = j6 (n:Int))) = true:=by kernel_rfl
 exact of_decide_eq_true (List.all_eq_true.1 h y.toNat (List.mem_range.2 (UInt8.toNat_lt y)))
theorem apX (s:ByteArray):s = ⟨#[]⟩↔(s.size:Int) < 1:=by
 constructor
 ·intro h; subst h; decide
 ·intro h
  cases s with
  | mk a =>
   have:a.size = 0:=by
    have:(ByteArray.mk a).size = a.size:=rfl
    omega
   rw [Array.eq_empty_of_size_eq_zero this]
theorem aGX (s:ByteArray):kK s = jJ s:=by
 unfold kK jJ
 have h1:mQ s = lY s:=by
  funext i
  simp only [mQ,lY,asx]
 have h2:decide (s = ⟨#[]⟩) = decide ((ByteArray.size s:Int) < 1):=decide_eq_decide.2 (apX s)
 rw [h1,h2] <;> rfl
theorem aDW {s:ByteArray} {r:Int} (h:kK s = some r):r = 0∨r = 3:=by
 unfold kK at h
 obtain ⟨v,_,h⟩:=bB h
 cases v with
 | true=>simp at h; exact .inr h.symm
 | false =>
  obtain ⟨q,hq,h⟩:=bB (show (loop (mQ s) 0).bind _ = some r from h)
  have:=axZ (Q:=fun q:Unit ⊕ Int=>∀ x,q = .inr x→x = 3) (fun i r hr=>by
   unfold mQ at hr
   by_cases hi:i < (ByteArray.size s:Int)
   ·simp only [hi,decide_true,cond_true] at hr
    obtain ⟨y,_,hr⟩:=bB hr
    obtain ⟨z,_,hr⟩:=bB hr
    cases z
    ·simp only [Bool.not_false,cond_true,Option.some.injEq,Sum.inr.injEq] at hr
     subst hr; intro x hx; cases hx; rfl
    ·simp at hr
   ·simp [hi] at hr; subst hr; intro x hx; cases hx) hq
  cases q with
  | inl _=>simp at h; exact .inl h.symm
  | inr x=>simp at h; subst h; exact .inr (this _ rfl)
theorem G3 {κ ν:Type} [DecidableEq κ] (k k':κ) (v:ν):∀ (m:List (κ × ν)),yz k (J3 k' v m) = if k = k' then some v else yz k m
 | []=>by simp [J3,yz]
 | p :: r=>by
  simp only [J3]
  by_cases e:k' = p.1
  ·subst e
   simp only [if_true,yz]
   by_cases e2:k = p.1 <;> simp [e2]
  ·rw [if_neg e]
   simp only [yz]
   rw [G3 k k' v r]
   by_cases e2:k = p.1
   ·subst e2
    rw [if_pos rfl,if_pos rfl,if_neg (fun h=>e h.symm)]
   ·rw [if_neg e2,if_neg e2]
open Go.Proofs Go.Proofs.Ytliccamocpglcaa
def R5:api_Heap:={ fObjects:=[⟨1,10,⟨#[116]⟩,[2,3]⟩,⟨2,10,⟨#[116]⟩,[4]⟩,⟨3,10,⟨#[116]⟩,[4]⟩,⟨4,10,⟨#[116]⟩,[]⟩],fRoots:=[1] }
theorem aOK:d8 = some R5:=by kernel_rfl
theorem auZ:t8 R5 = some ([true,true,true,true],0):=by kernel_rfl
theorem aLK:yj R5 = some ([-1,0,0,0],0):=by kernel_rfl
theorem aLj:BY R5 = some ([40,10,10,10],0):=by kernel_rfl
theorem aEK:M7 R5 4 = some ([1,2,4],0):=by kernel_rfl
def ex4:List (Fin (xY R5).length):=[⟨0,by decide⟩,⟨1,by decide⟩,⟨2,by decide⟩,⟨3,by decide⟩]
theorem aFW:Kz R5 2 = some (Go.RM.outT (xY R5) ((Go.RM.topSort (xY R5) [40,10,10,10,40] ex4).take 2),0):=by kernel_rfl
theorem aMJ:Kz R5 2 = some ([1,2],0):=by
 rw [aFW]
 have h:Go.RM.topSort (xY R5) [40,10,10,10,40] ex4 = ex4:=by
  unfold Go.RM.topSort
  exact List.mergeSort_of_pairwise (by simp only [Go.RM.cf_lt]; decide +kernel)
 rw [h]
 rfl
theorem WQ:iW = some true:=by
 unfold iW
 simp only [aOK,auZ,aLK,aLj,aEK,aMJ,Option.bind_some]
 kernel_rfl
open Go.Proofs Go.Proofs.Ytliccamocpglcaa
theorem I6 {α ρ σ:Type} (g:Nat→α→Option ρ) (f:ρ→σ):∀ (xs:List α) (i:Nat),e9 (fun i y=>(g i y).map f) xs i = (e9 g xs i).map f
 | [],_=>rfl
 | y :: ys,i=>by
  simp only [e9]
  cases g i y with
  | some r=>rfl
  | none=>exact I6 g f ys (i + 1)
def Oj {ρ:Type}:Option ρ→Unit ⊕ ρ
 | some r=>.inr r
 | none=>.inl ()
theorem sV {α ρ:Type} {step:Int→Option (Int ⊕ (Unit ⊕ ρ))} (xs:List α) (g:Nat→α→Option ρ) (hl:xs.length≤1000000)
  (h1:∀ (i:Nat) y,xs[i]? = some y → step (i:Int) = some (match g i y with | some r => .inr (.inr r) | none => .inl ((i:Int) + 1))) (h2:step (xs.length:Int) = some (.inr (.inl ()))):loop step 0 = some (Oj (e9 g xs 0)) := by
 rw [agx xs (fun i y=>(g i y).map Sum.inr) (.inl ()) (by simp [lQ]; omega) (fun i y hy=>by rw [h1 i y hy]; cases g i y <;> rfl) h2,I6]
 cases e9 g xs 0 <;> rfl
def S0 (l:List Int) (i:Nat):Int:=l.getD (i - 1) 0
theorem Z9 {l:List Int} {i:Nat} {y:Int} (hy:l[i]? = some y) (hi:0 < i) (h:l.length≤1000000):idx l (w64 ((i:Int) - 1)) = some (S0 l i):=by
 have:=gJ hy
 rw [i5 (by omega)]
 have e:(i:Int) - 1 = ((i - 1:Nat):Int):=by omega
 rw [e,m5,S0,List.getD_eq_getElem?_getD,List.getElem?_eq_getElem (by omega)]
 rfl
def N8 (p:Int→Bool) (l:List Int) (i:Nat) (n:Int):Option Int:=if p n = false then some 5 else if 0 < i∧n≤S0 l i then some 11 else none
def O8 (p:Int→Bool) (l:List Int):Int:=(e9 (N8 p l) l 0).getD 0
def sX (p0:api_Heap) (n:Int):Bool:=p0.fObjects.any fun o=>decide (o.fId = n)
theorem avV (l:List Int) (m:List (Int × Int)) (hl:l.length≤1000000):fW l m = some (O8 (fun n=>(yz n m).isSome) l):=by
 unfold fW
 rw [sV (step:=gj l m) l (N8 (fun n=>(yz n m).isSome) l) hl (fun i y hy=>by
  have hil:=gJ hy
  have hw:=uK (show i < 9223372036854775807 by omega)
  unfold gj N8
  simp only [show ((i:Int) < (l.length:Int)) from by omega,decide_true,cond_true,m5,hy,Option.bind_some]
  by_cases hm:(yz y m).isSome = true
  case neg=>rw [Bool.not_eq_true] at hm; simp [hm]
  case pos =>
   simp only [hm,Bool.not_true,cond_false,Bool.true_eq_false,if_false]
   by_cases h0:0 < i
   ·simp only [show (0:Int) < (i:Int) from by omega,decide_true,cond_true,Z9 hy h0 hl,Option.bind_some]
    by_cases h1:y≤S0 l i
    ·simp [h0,h1]
    ·rw [decide_eq_false h1]
     simp [h0,h1,hw]
   ·simp only [show ¬ (0:Int) < (i:Int) from by omega,decide_false,cond_false,Option.bind_some]
    simp [h0,hw]) (by
  unfold gj
  simp)]
 unfold O8
 cases e9 (N8 (fun n=>(yz n m).isSome) l) l 0 <;> rfl
def E7 (p0:api_Heap) (n:Int):Int × Bool:=match p0.fObjects.findIdx? (fun o=>decide (o.fId = n)) with
 | some k=>((k:Int),true)
 | none=>(0,false)
theorem IW (n:Int):∀ (ys:List bY) (j:Nat),e9 (fun i (o:bY)=>if o.fId = n then some (i:Int) else none) ys j = (ys.findIdx? (fun o=>decide (o.fId = n))).map fun k=>((k + j:Nat):Int)
 | [],j=>rfl
 | y :: ys,j=>by
  simp only [e9,List.findIdx?_cons]
  by_cases h:y.fId = n
  ·simp [h]
  ·simp only [h,if_false,decide_false,IW n ys (j + 1)]
   cases ys.findIdx? fun o=>decide (o.fId = n) with
   | none=>rfl
   | some k=>simp; omega
theorem apq (p0:api_Heap) (n:Int) (hl:p0.fObjects.length≤1000000):lZ p0 n = some (E7 p0 n):=by
 unfold lZ
 rw [sV (step:=jQ p0 n) p0.fObjects (fun i o=>(if o.fId = n then some (i:Int) else none).map fun k=>(k,true)) hl (fun i y hy=>by
  have hil:=gJ hy
  unfold jQ
  simp only [show ((i:Int) < (p0.fObjects.length:Int)) from by omega,decide_true,cond_true,m5,hy,Option.bind_some]
  by_cases h:y.fId = n
  ·simp [h]
  ·simp [h,uK (show i < 9223372036854775807 by omega)]) (by
  unfold jQ
  simp),I6,IW]
 unfold E7
 cases p0.fObjects.findIdx? fun o=>decide (o.fId = n) <;> rfl
theorem akq (p0:api_Heap) (n:Int) (hl:p0.fObjects.length≤1000000):eY p0 n = some (E7 p0 n):=by
 unfold eY dJ
 rw [sV (step:=cj p0.fObjects n) p0.fObjects (fun i o=>(if o.fId = n then some (i:Int) else none)) hl (fun i y hy=>by
  have hil:=gJ hy
  unfold cj pQ
  simp only [show ((i:Int) < (p0.fObjects.length:Int)) from by omega,decide_true,cond_true,m5,hy,Option.bind_some]
  by_cases h:y.fId = n
  ·simp [h]
  ·simp [h,uK (show i < 9223372036854775807 by omega)]) (by
  unfold cj
  simp),IW]
 unfold E7
 cases p0.fObjects.findIdx? fun o=>decide (o.fId = n) with
 | none=>rfl
 | some k=>simp [Oj]
theorem agQ (p0:api_Heap) (n:Int):(E7 p0 n).2 = sX p0 n:=by
 unfold E7 sX
 have h:(p0.fObjects.findIdx? fun o=>decide (o.fId = n)).isSome = p0.fObjects.any fun o=>decide (o.fId = n):=List.findIdx?_isSome ..
 rw [← h]
 cases p0.fObjects.findIdx? fun o=>decide (o.fId = n) <;> rfl
theorem amX (p0:api_Heap) (l:List Int) (hp:p0.fObjects.length≤1000000) (hl:l.length≤1000000):jZ p0 l = some (O8 (sX p0) l):=by
 unfold jZ
 rw [sV (step:=jx p0 l) l (N8 (sX p0) l) hl (fun i y hy=>by
  have hil:=gJ hy
  have hw:=uK (show i < 9223372036854775807 by omega)
  unfold jx N8
  simp only [show ((i:Int) < (l.length:Int)) from by omega,decide_true,cond_true,m5,hy,Option.bind_some,apq p0 y hp,agQ]
  cases hm:sX p0 y with
  | false=>rfl
  | true =>
   simp only [Bool.not_true,cond_false]
   by_cases h0:0 < i
   ·simp only [show (0:Int) < (i:Int) from by omega,decide_true,cond_true,Z9 hy h0 hl,Option.bind_some]
    by_cases h1:y≤S0 l i
    ·simp [h0,h1]
    ·rw [decide_eq_false h1]
     simp [h0,h1,hw]
   ·simp only [show ¬ (0:Int) < (i:Int) from by omega,decide_false,cond_false,Option.bind_some]
    simp [h0,hw]) (by
  unfold jx
  simp)]
 unfold O8
 cases e9 (N8 (sX p0) l) l 0 <;> rfl
theorem UW {p:Int→Bool} {l:List Int} (h:O8 p l = 0):(∀ n∈l,p n = true)∧∀ i a b,l[i]? = some a→l[i + 1]? = some b→a < b:=by
 have hn:e9 (N8 p l) l 0 = none:=by
  unfold O8 at h
  cases hf:e9 (N8 p l) l 0 with
  | none=>rfl
  | some r =>
   rw [hf] at h
   obtain ⟨j,y,_,hg,_⟩:=uQ hf
   unfold N8 at hg
   simp only [Option.getD_some] at h
   subst h
   split at hg
   ·cases hg
   ·split at hg <;> cases hg
 rw [xx] at hn
 refine ⟨fun n hm=>?_,fun i a b ha hb=>?_⟩
 ·obtain ⟨j,hj⟩:=List.getElem?_of_mem hm
  have:=hn j n hj
  unfold N8 at this
  split at this
  ·cases this
  ·rename_i h; cases hp:p n with
   | true=>rfl
   | false=>exact absurd hp h
 ·have:=hn (i + 1) b hb
  unfold N8 at this
  split at this
  ·cases this
  ·split at this
   ·cases this
   ·rename_i h
    have hp:S0 l (0 + (i + 1)) = a:=by
     unfold S0
     rw [List.getD_eq_getElem?_getD,show 0 + (i + 1) - 1 = i from by omega,ha]; rfl
    rw [hp] at h
    omega
open Go.Proofs Go.Proofs.Ytliccamocpglcaa
structure vK (p0:api_Heap):Prop where
 n:p0.fObjects.length≤16
 r:p0.fRoots.length≤16
 refs:∀ o∈p0.fObjects,o.fRefs.length≤40
theorem aKY (p0:api_Heap):∃ b,mZ p0 = some b∧(b = true↔vK p0):=by
 unfold mZ pz
 by_cases h1:(16:Int) < (p0.fObjects.length:Int)
 ·exact ⟨false,by simp [h1],by simp; intro h; have:=h.n; omega⟩
 by_cases h2:(16:Int) < (p0.fRoots.length:Int)
 ·exact ⟨false,by simp [h1,h2],by simp; intro h; have:=h.r; omega⟩
 have hl:p0.fObjects.length≤1000000:=by omega
 rw [sV (step:=kx p0) p0.fObjects (fun _ o=>if 40 < o.fRefs.length then some false else none) hl (fun i y hy=>by
  have hil:=gJ hy
  have hw:=uK (show i < 9223372036854775807 by omega)
  unfold kx
  simp only [show ((i:Int) < (p0.fObjects.length:Int)) from by omega,decide_true,cond_true,m5,hy,Option.bind_some]
  by_cases h:40 < y.fRefs.length
  ·have h':(40:Int) < (y.fRefs.length:Int):=by omega
   simp [h,h']
  ·have h' : ¬ (40:Int) < (y.fRefs.length:Int):=by omega
   simp [h,h',hw]) (by unfold kx; simp)]
 cases hf:e9 (fun _ (o:bY)=>if 40 < o.fRefs.length then some false else none) p0.fObjects 0 with
 | none =>
  refine ⟨true,by simp [h1,h2,Oj],⟨fun _=>⟨by omega,by omega,fun o ho=>?_⟩,fun _=>rfl⟩⟩
  rw [xx] at hf
  obtain ⟨j,hj⟩:=List.getElem?_of_mem ho
  have:=hf j o hj
  split at this
  ·cases this
  ·omega
 | some r =>
  obtain ⟨j,y,hy,hg,_⟩:=uQ hf
  split at hg
  ·rename_i h
   cases hg
   refine ⟨false,by simp [h1,h2,Oj],by simp; intro hF; have:=hF.refs y (List.mem_of_getElem? hy); omega⟩
  ·cases hg
def Qx (l:List bY) (i:Nat):Int:=(l[i - 1]?.map fun o=>o.fId).getD 0
def S3 (s:ByteArray):Int:=(kK s).getD 0
theorem adz {s:ByteArray} (h:s.size≤9223372036854775807):kK s = some (S3 s)∧jJ s = some (S3 s)∧(S3 s = 0∨S3 s = 3):=by
 obtain ⟨r,hr,_⟩:=R1 s h
 have:S3 s = r:=by unfold S3; rw [hr]; rfl
 rw [this,← aGX]
 exact ⟨hr,hr,aDW hr⟩
def aqZ (o:bY):Bool:=decide (o.fId < 0) || decide (1000000000000000 < o.fId) || decide (o.fSize < 0) || decide (1000000000000 < o.fSize)
def J0 (l:List bY) (i:Nat) (o:bY):Option Int:=if aqZ o = true then some 2 else if S3 o.fType = 0 then (if 0 < i∧o.fId≤Qx l i then some 11 else none) else some 3
theorem T3 {l:List bY} {i:Nat} {y:bY} (hy:l[i]? = some y) (hi:0 < i) (h:l.length≤1000000):∃ z,idx l (w64 ((i:Int) - 1)) = some z∧z.fId = Qx l i:=by
 have:=gJ hy
 rw [i5 (by omega)]
 have e:(i:Int) - 1 = ((i - 1:Nat):Int):=by omega
 rw [e,m5,Qx,List.getElem?_eq_getElem (show i - 1 < l.length by omega)]
 exact ⟨_,rfl,rfl⟩
theorem amV (o:bY):((bif decide (o.fId < 0) then some true else bif decide (1000000000000000 < o.fId) then some true else bif decide (o.fSize < 0) then some true else some (decide (1000000000000 < o.fSize))):Option Bool) = some (aqZ o):=by
 unfold aqZ
 cases decide (o.fId < 0) <;> cases decide (1000000000000000 < o.fId) <;> cases decide (o.fSize < 0) <;> rfl
theorem aqq (p0:api_Heap) (hn:p0.fObjects.length≤1000000) (hs:∀ o∈p0.fObjects,o.fType.size≤9223372036854775807):loop (iX p0) 0 = some (Oj (e9 (J0 p0.fObjects) p0.fObjects 0)):=by
 refine sV p0.fObjects (J0 p0.fObjects) hn (fun i y hy=>?_) (by unfold iX; simp)
 have hil:=gJ hy
 have hw:=uK (show i < 9223372036854775807 by omega)
 obtain ⟨_,h2,h3⟩:=adz (hs y (List.mem_of_getElem? hy))
 unfold iX J0
 simp only [show ((i:Int) < (p0.fObjects.length:Int)) from by omega,decide_true,cond_true,m5,hy,Option.bind_some,amV,h2]
 cases aqZ y with
 | true=>rfl
 | false =>
  simp only [cond_false,Bool.false_eq_true,if_false]
  rcases h3 with h3 | h3
  ·simp only [h3,decide_true,Bool.not_true,cond_false,if_true]
   by_cases h0:0 < i
   ·obtain ⟨z,hz,hz2⟩:=T3 hy h0 hn
    simp only [show (0:Int) < (i:Int) from by omega,decide_true,cond_true,hz,Option.bind_some,hz2]
    by_cases h1:y.fId≤Qx p0.fObjects i
    ·simp [h0,h1]
    ·rw [decide_eq_false h1]
     simp [h0,h1,hw]
   ·simp only [show ¬ (0:Int) < (i:Int) from by omega,decide_false,cond_false,Option.bind_some]
    simp [h0,hw]
  ·simp [h3]
theorem NY {g:Nat → bY → Option Int}:∀ (ys:List bY) (j:Nat) (m:List (Int × Int)),∃ m',Xq (fun i o m => match g i o with | some r => Sum.inr (Sum.inr r) | none => Sum.inl (J3 o.fId (i:Int) m)) (fun m => Sum.inl m) ys j m = (match e9 g ys j with | some r => Sum.inr r | none => Sum.inl m') ∧ ∀ k,(yz k m').isSome = ((yz k m).isSome || ys.any fun o => decide (o.fId = k))
 | [],j,m=>⟨m,rfl,fun k=>by simp⟩
 | y :: ys,j,m=>by
  simp only [Xq,e9]
  cases hg:g j y with
  | some r=>exact ⟨J3 y.fId 0 (ys.foldr (fun o q=>J3 o.fId 0 q) m),by simp,fun k=>by
    rw [G3,List.any_cons]
    by_cases e:k = y.fId
    ·simp [e]
    ·rw [if_neg e]
     have:∀ zs:List bY,(yz k (zs.foldr (fun o q=>J3 o.fId 0 q) m)).isSome = ((yz k m).isSome || zs.any fun o=>decide (o.fId = k)):=by
      intro zs
      induction zs with
      | nil=>simp
      | cons z zs ih =>
       rw [List.foldr_cons,G3,List.any_cons]
       by_cases e:k = z.fId
       ·simp [e]
       ·rw [if_neg e,ih]; simp [Ne.symm e]
     rw [this]; simp [Ne.symm e]⟩
  | none =>
   obtain ⟨m',h1,h2⟩:=NY (g:=g) ys (j + 1) (J3 y.fId (j:Int) m)
   refine ⟨m',h1,fun k=>?_⟩
   rw [h2,G3,List.any_cons]
   by_cases e:k = y.fId
   ·simp [e]
   ·rw [if_neg e]; simp [Ne.symm e]
theorem aHK (p0:api_Heap) (hn:p0.fObjects.length ≤ 1000000) (hs:∀ o ∈ p0.fObjects,o.fType.size ≤ 9223372036854775807):∃ m,loop (lq p0) ([],0) = some (match e9 (J0 p0.fObjects) p0.fObjects 0 with | some r => .inr r | none => .inl m) ∧ ∀ k,(yz k m).isSome = sX p0 k := by
 have h := U8 (step := lq p0) (ρ := List (Int × Int) ⊕ Int) p0.fObjects (fun i (m:List (Int × Int)) => (m,(i:Int))) (fun i o m => match J0 p0.fObjects i o with | some r => Sum.inr (Sum.inr r) | none => Sum.inl (J3 o.fId (i:Int) m)) (fun m => Sum.inl m) (by simp [lQ]; omega) (fun i y m hy => by
  have hil:=gJ hy
  have hw:=uK (show i < 9223372036854775807 by omega)
  obtain ⟨h1,_,h3⟩:=adz (hs y (List.mem_of_getElem? hy))
  unfold lq J0
  simp only [show ((i:Int) < (p0.fObjects.length:Int)) from by omega,decide_true,cond_true,m5,hy,Option.bind_some,amV,h1]
  cases aqZ y with
  | true=>rfl
  | false =>
   simp only [cond_false,Bool.false_eq_true,if_false]
   rcases h3 with h3 | h3
   ·simp only [h3,decide_true,Bool.not_true,cond_false,if_true]
    by_cases h0:0 < i
    ·obtain ⟨z,hz,hz2⟩:=T3 hy h0 hn
     simp only [show (0:Int) < (i:Int) from by omega,decide_true,cond_true,hz,Option.bind_some,hz2]
     by_cases h1:y.fId≤Qx p0.fObjects i
     ·simp [h0,h1]
     ·rw [decide_eq_false h1]
      simp [h0,h1,hw]
    ·simp only [show ¬ (0:Int) < (i:Int) from by omega,decide_false,cond_false,Option.bind_some]
     simp [h0,hw]
   ·simp [h3]) (fun m=>by unfold lq; simp) []
 obtain ⟨m',h1,h2⟩:=NY (g:=J0 p0.fObjects) p0.fObjects 0 []
 refine ⟨m',by rw [← h1]; exact h,fun k=>?_⟩
 rw [h2]
 simp [sX,yz]
open Go.Proofs Go.Proofs.Ytliccamocpglcaa
def aOX (l:List Int):Prop:=∀ i a b,l[i]? = some a→l[i + 1]? = some b→a < b
structure vZ (p0:api_Heap):Prop where
 inc:∀ i a b,p0.fObjects[i]? = some a→p0.fObjects[i + 1]? = some b→a.fId < b.fId
 size:∀ o∈p0.fObjects,0≤o.fSize∧o.fSize≤1000000000000
 refs:∀ o∈p0.fObjects,(∀ n∈o.fRefs,sX p0 n = true)∧aOX o.fRefs
 roots:(∀ n∈p0.fRoots,sX p0 n = true)∧aOX p0.fRoots
def EV (p0:api_Heap) (_:Nat) (o:bY):Option Int:=if O8 (sX p0) o.fRefs = 0 then none else some (O8 (sX p0) o.fRefs)
section
variable {p0:api_Heap}
theorem aAV (hF:vK p0):∃ e,loop (mW p0) (0,0) = some e∧loop (oW p0) (0,0) = some e∧e≤20000:=by
 have hn:=hF.n
 have key:Ok (loop (mW p0) (0,0)) (fun e=>e≤20000):=by
  refine Rz p0.fObjects.length (fun s i=>0≤s∧s≤40 * i) (by omega) ⟨by omega,by omega⟩ fun s i hI h0 h1=>?_
  unfold mW
  refine B9 (fun h=>?_) (fun h=>?_)
  ·refine nW (F3 h0 h) fun y hy=>?_
   have hr:=hF.refs y (List.mem_of_getElem? hy)
   rw [i5 (n:=s + (y.fRefs.length:Int)) (by omega)]
   exact abz (Inv:=fun s i=>0≤s∧s≤40 * i) ⟨by omega,by omega⟩ h0 h (by omega)
  ·exact Iz (by omega)
 obtain ⟨e,h1,h2⟩:=key
 exact ⟨e,h1,h1,h2⟩
theorem azY (hF:vK p0) {m:List (Int × Int)} (hm:∀ k,(yz k m).isSome = sX p0 k):loop (mK p0 m) 0 = some (Oj (e9 (EV p0) p0.fObjects 0)):=by
 have hn:=hF.n
 have hmf:(fun n=>(yz n m).isSome) = sX p0:=funext hm
 refine sV p0.fObjects (EV p0) (by omega) (fun i y hy=>?_) (by unfold mK; simp)
 have hil:=gJ hy
 have hw:=uK (show i < 9223372036854775807 by omega)
 have hr:=hF.refs y (List.mem_of_getElem? hy)
 unfold mK EV
 simp only [show ((i:Int) < (p0.fObjects.length:Int)) from by omega,decide_true,cond_true,m5,hy,Option.bind_some,avV y.fRefs m (by omega),hmf]
 by_cases h:O8 (sX p0) y.fRefs = 0
 ·simp [h,hw]
 ·simp [h]
theorem avx (hF:vK p0):loop (ij p0) 0 = some (Oj (e9 (EV p0) p0.fObjects 0)):=by
 have hn:=hF.n
 refine sV p0.fObjects (EV p0) (by omega) (fun i y hy=>?_) (by unfold ij; simp)
 have hil:=gJ hy
 have hw:=uK (show i < 9223372036854775807 by omega)
 have hr:=hF.refs y (List.mem_of_getElem? hy)
 unfold ij EV
 simp only [show ((i:Int) < (p0.fObjects.length:Int)) from by omega,decide_true,cond_true,m5,hy,Option.bind_some,amX p0 y.fRefs (by omega) (by omega)]
 by_cases h:O8 (sX p0) y.fRefs = 0
 ·simp [h,hw]
 ·simp [h]
def z6 (p0:api_Heap):Int:=match e9 (J0 p0.fObjects) p0.fObjects 0 with
 | some r=>r
 | none=>match e9 (EV p0) p0.fObjects 0 with
  | some r=>r
  | none=>O8 (sX p0) p0.fRoots
theorem afz (hF:vK p0) (hs:∀ o∈p0.fObjects,o.fType.size≤9223372036854775807):hZ p0 = some (z6 p0):=by
 have hn:=hF.n
 have hr:=hF.r
 obtain ⟨e,h1,_,h2⟩:=aAV hF
 obtain ⟨m,h3,hm⟩:=aHK p0 (by omega) hs
 have hmf:(fun n=>(yz n m).isSome) = sX p0:=funext hm
 unfold hZ z6
 rw [h1,h3]
 simp only [Option.bind_some,show ¬ (5000:Int) < (p0.fObjects.length:Int) from by omega,show ¬ (20000:Int) < e from by omega,show ¬ (5000:Int) < (p0.fRoots.length:Int) from by omega,decide_false,cond_false]
 cases e9 (J0 p0.fObjects) p0.fObjects 0 with
 | some r=>rfl
 | none =>
  simp only [azY hF hm,Option.bind_some]
  cases e9 (EV p0) p0.fObjects 0 with
  | some r=>rfl
  | none=>simp only [Oj,avV p0.fRoots m (by omega),hmf,Option.bind_some]
theorem arz (hF:vK p0) (hs:∀ o∈p0.fObjects,o.fType.size≤9223372036854775807):kY p0 = some (z6 p0):=by
 have hn:=hF.n
 have hr:=hF.r
 obtain ⟨e,_,h1,h2⟩:=aAV hF
 have h3:=aqq p0 (by omega) hs
 unfold kY z6
 rw [h1,h3]
 simp only [Option.bind_some,show ¬ (5000:Int) < (p0.fObjects.length:Int) from by omega,show ¬ (20000:Int) < e from by omega,show ¬ (5000:Int) < (p0.fRoots.length:Int) from by omega,decide_false,cond_false]
 cases e9 (J0 p0.fObjects) p0.fObjects 0 with
 | some r=>rfl
 | none =>
  simp only [Oj,avx hF,Option.bind_some]
  cases e9 (EV p0) p0.fObjects 0 with
  | some r=>rfl
  | none=>simp only [Oj,amX p0 p0.fRoots (by omega) (by omega),Option.bind_some]
theorem aBV (h:z6 p0 = 0):vZ p0:=by
 unfold z6 at h
 cases h1:e9 (J0 p0.fObjects) p0.fObjects 0 with
 | some r =>
  rw [h1] at h
  obtain ⟨j,y,_,hg,_⟩:=uQ h1
  unfold J0 at hg
  simp only at h
  subst h
  split at hg
  ·cases hg
  ·split at hg
   ·split at hg <;> cases hg
   ·cases hg
 | none =>
  rw [h1] at h
  simp only at h
  cases h2:e9 (EV p0) p0.fObjects 0 with
  | some r =>
   rw [h2] at h
   obtain ⟨j,y,_,hg,_⟩:=uQ h2
   unfold EV at hg
   simp only at h
   subst h
   split at hg
   ·cases hg
   ·rename_i hne; exact absurd (Option.some.inj hg) hne
  | none =>
   rw [h2] at h
   simp only at h
   rw [xx] at h1 h2
   refine ⟨fun i a b ha hb=>?_,fun o ho=>?_,fun o ho=>?_,UW h⟩
   ·have:=h1 (i + 1) b hb
    unfold J0 at this
    split at this
    ·cases this
    ·split at this
     ·split at this
      ·cases this
      ·rename_i hh
       have hp:Qx p0.fObjects (0 + (i + 1)) = a.fId:=by
        unfold Qx
        rw [show 0 + (i + 1) - 1 = i from by omega,ha]; rfl
       rw [hp] at hh
       omega
     ·cases this
   ·obtain ⟨j,hj⟩:=List.getElem?_of_mem ho
    have:=h1 j o hj
    unfold J0 at this
    split at this
    ·cases this
    ·rename_i hb
     unfold aqZ at hb
     simp only [Bool.or_eq_true,decide_eq_true_eq,not_or] at hb
     omega
   ·obtain ⟨j,hj⟩:=List.getElem?_of_mem ho
    have:=h2 j o hj
    unfold EV at this
    split at this
    ·rename_i h0; exact UW h0
    ·cases this
theorem aBz (hV:vZ p0):∀ (d i:Nat) (a b:bY),p0.fObjects[i]? = some a→p0.fObjects[i + d + 1]? = some b→a.fId < b.fId
 | 0,i,a,b,ha,hb=>hV.inc i a b ha hb
 | d + 1,i,a,b,ha,hb=>by
  have hl:=gJ hb
  have hc:p0.fObjects[i + d + 1]? = some p0.fObjects[i + d + 1]:=List.getElem?_eq_getElem (by omega)
  have h1:=aBz hV d i a _ ha hc
  have h2:=hV.inc (i + d + 1) _ b hc (by rw [show i + d + 1 + 1 = i + (d + 1) + 1 from by omega]; exact hb)
  omega
theorem aMx (hV:vZ p0) {i j:Nat} {a b:bY} (ha:p0.fObjects[i]? = some a) (hb:p0.fObjects[j]? = some b) (h:a.fId = b.fId):i = j:=by
 rcases Nat.lt_trichotomy i j with h1 | h1 | h1
 ·have:=aBz hV (j - i - 1) i a b ha (by rw [show i + (j - i - 1) + 1 = j from by omega]; exact hb); omega
 ·exact h1
 ·have:=aBz hV (i - j - 1) j b a hb (by rw [show j + (i - j - 1) + 1 = i from by omega]; exact ha); omega
theorem ajX (hV:vZ p0) {k:Nat} {o:bY} (ho:p0.fObjects[k]? = some o):E7 p0 o.fId = ((k:Int),true):=by
 unfold E7
 have h:p0.fObjects.findIdx? (fun x=>decide (x.fId = o.fId)) = some k:=by
  have hk:=gJ ho
  rw [List.findIdx?_eq_some_iff_getElem]
  refine ⟨hk,by have:=(List.getElem?_eq_some_iff.1 ho).2; simp [this],fun j hj=>?_⟩
  have hjk:p0.fObjects[j]? = some p0.fObjects[j]:=List.getElem?_eq_getElem (by omega)
  simp only [decide_eq_true_eq]
  intro e
  have:=aMx hV hjk ho e
  omega
 rw [h]
theorem anQ {n:Int} (h:sX p0 n = true):∃ (k:Nat) (o:bY),p0.fObjects[k]? = some o∧o.fId = n:=by
 unfold sX at h
 rw [List.any_eq_true] at h
 obtain ⟨o,ho,h⟩:=h
 obtain ⟨k,hk⟩:=List.getElem?_of_mem ho
 exact ⟨k,o,hk,of_decide_eq_true h⟩
end
open Go.Proofs Go.Proofs.Ytliccamocpglcaa
inductive Pw (E:Nat→Nat→Prop) (r:Nat) (w:Int):Nat→Nat→Prop
 | zero:Pw E r w 0 r
 | succ {m x y:Nat}:Pw E r w m x→E x y→(y:Int) ≠ w→Pw E r w (m + 1) y
def Y2 (p0:api_Heap) (i:Nat):List Int:=if i = p0.fObjects.length then p0.fRoots else match p0.fObjects[i]? with
 | some o=>o.fRefs
 | none=>[]
def Edge (p0:api_Heap) (i k:Nat):Prop:=∃ o,p0.fObjects[k]? = some o∧o.fId∈Y2 p0 i
abbrev Pth (p0:api_Heap) (w:Int) (m k:Nat):Prop:=Pw (Edge p0) p0.fObjects.length w m k
theorem Edge.lt {p0:api_Heap} {i k:Nat} (h:Edge p0 i k):k < p0.fObjects.length:=by
 obtain ⟨o,h1,_⟩:=h; exact gJ h1
theorem Pw.pos_lt {p0:api_Heap} {w:Int} {m k:Nat} (h:Pth p0 w (m + 1) k):k < p0.fObjects.length:=by
 cases h with | succ _ h _ => exact h.lt
def KQ (p0:api_Heap) (w:Int) (m k:Nat):Prop:=Pth p0 w m k∧∀ m',m' < m→¬ Pth p0 w m' k
theorem UZ {l:List Nat} {n:Nat} (hd:l.Nodup) (h:∀ x∈l,x < n):l.length≤n:=by
 induction n generalizing l with
 | zero =>
  cases l with
  | nil=>exact Nat.le_refl _
  | cons a l=>exact absurd (h a (List.mem_cons_self ..)) (by omega)
 | succ n ih =>
  have h1:(l.erase n).length≤n:=ih (hd.erase n) (fun x hx=>by
   have h2:=(List.Nodup.mem_erase_iff hd).1 hx
   have:=h x h2.2
   have:=h2.1
   omega)
  have h3:(l.erase n).length ≥ l.length - 1:=by
   rw [List.length_erase]; split <;> omega
  omega
theorem N4 {p0:api_Heap} {w:Int}:∀ (m k:Nat),KQ p0 w m k→∃ xs:List Nat,xs.length = m∧∀ i x,xs[i]? = some x→KQ p0 w (i + 1) x
 | 0,k,_=>⟨[],rfl,fun i x h=>by simp at h⟩
 | m + 1,k,h=>by
  cases h.1 with
  | succ h1 h2 h3 =>
   rename_i x
   have hx:KQ p0 w m x:=⟨h1,fun m' hm' hp=>h.2 (m' + 1) (by omega) (.succ hp h2 h3)⟩
   obtain ⟨xs,hl,hxs⟩:=N4 m x hx
   refine ⟨xs++[k],by rw [List.length_append,hl]; rfl,fun i y hy=>?_⟩
   by_cases hi:i < xs.length
   ·rw [List.getElem?_append_left hi] at hy; exact hxs i y hy
   ·have:i = m:=by
     have:=gJ hy
     rw [List.length_append] at this
     simp only [List.length_singleton] at this
     omega
    subst this
    rw [List.getElem?_append_right (by omega),hl,Nat.sub_self] at hy
    cases hy
    exact h
theorem agq {p0:api_Heap} {w:Int} {a b k:Nat} (h:KQ p0 w a k) (h':KQ p0 w b k):a = b:=by
 rcases Nat.lt_trichotomy a b with h1 | h1 | h1
 ·exact absurd h.1 (h'.2 a h1)
 ·exact h1
 ·exact absurd h'.1 (h.2 b h1)
theorem aAW {p0:api_Heap} {w:Int} {m k:Nat} (h:KQ p0 w m k):m≤p0.fObjects.length:=by
 obtain ⟨xs,hl,hxs⟩:=N4 m k h
 rw [← hl]
 refine UZ ?_ (fun x hx=>?_)
 ·rw [List.nodup_iff_pairwise_ne,List.pairwise_iff_getElem]
  intro i j hi hj hij e
  have h1:=hxs i _ (List.getElem?_eq_getElem hi)
  have h2:=hxs j _ (List.getElem?_eq_getElem hj)
  rw [e] at h1
  have:=agq h1 h2
  omega
 ·obtain ⟨i,hi⟩:=List.getElem?_of_mem hx
  exact (hxs i x hi).1.pos_lt
theorem WZ {p0:api_Heap} {w:Int}:∀ (m k:Nat),Pth p0 w m k→∃ m',m'≤m∧KQ p0 w m' k:=by
 intro m
 induction m using Nat.strongRecOn with
 | ind m ih =>
  intro k h
  by_cases hh:∃ m',m' < m∧Pth p0 w m' k
  ·obtain ⟨m',h1,h2⟩:=hh
   obtain ⟨m'',h3,h4⟩:=ih m' h1 k h2
   exact ⟨m'',by omega,h4⟩
  ·exact ⟨m,Nat.le_refl _,h,fun m' h1 h2=>hh ⟨m',h1,h2⟩⟩
theorem ayY (l:List Int) (n:Int) (hl:l.length≤1000000):kX l n = some (decide (n∈l)):=by
 unfold kX
 rw [sV (step:=j8 l n) l (fun _ y=>if y = n then some true else none) hl (fun i y hy=>by
  have hil:=gJ hy
  have hw:=uK (show i < 9223372036854775807 by omega)
  unfold j8
  simp only [show ((i:Int) < (l.length:Int)) from by omega,decide_true,cond_true,m5,hy,Option.bind_some]
  by_cases h:y = n
  ·simp [h]
  ·simp [h,hw]) (by unfold j8; simp)]
 cases hf:e9 (fun _ y=>if y = n then some true else none) l 0 with
 | none =>
  rw [xx] at hf
  have:n ∉ l:=fun hm=>by
   obtain ⟨j,hj⟩:=List.getElem?_of_mem hm
   have:=hf j n hj
   simp at this
  simp [Oj,this]
 | some r =>
  obtain ⟨j,y,hy,hg,_⟩:=uQ hf
  split at hg
  ·rename_i h
   cases hg
   subst h
   simp [Oj,List.mem_of_getElem? hy]
  ·cases hg
def Lev (p0:api_Heap) (w:Int) (j:Nat) (s:List Int):Prop:=s.length = p0.fObjects.length∧∀ k,k < p0.fObjects.length→(s.getD k 0 = 0∧∀ m,m≤j→¬ Pth p0 w m k)∨∃ m:Nat,0 < m∧m≤j∧s.getD k 0 = (m:Int)∧KQ p0 w m k
section
variable {p0:api_Heap}
theorem Bx {l:List Int} {i:Nat} {v:Int} (h:i < l.length) (q:Nat):(l.set i v).getD q 0 = if q = i then v else l.getD q 0:=by
 rw [List.getD_eq_getElem?_getD,List.getD_eq_getElem?_getD,List.getElem?_set]
 by_cases e:i = q
 ·subst e; rw [if_pos rfl,if_pos h,if_pos rfl]; rfl
 ·rw [if_neg e,if_neg (Ne.symm e)]
theorem aKz {l:List Int} {q:Nat} {y:Int} (h:l[q]? = some y):l.getD q 0 = y:=by rw [List.getD_eq_getElem?_getD,h]; rfl
def C1 (p0:api_Heap) (w:Int) (out:List Int) (j i q:Nat):Prop:=out.getD i 0 = (j:Int)∧(q:Int) ≠ w∧out.getD q 0 = 0∧Edge p0 i q
theorem aGZ (hF:vK p0) (w:Int) {out:List Int} (ho:out.length = p0.fObjects.length) {i j:Nat} (hi:i < p0.fObjects.length) (hj:1≤j∧j≤1000) :
  Ok (loop (i3 p0 w (j:Int) (i:Int)) (out,0)) fun s=>s.length = p0.fObjects.length∧∀ q,q < p0.fObjects.length→(C1 p0 w out j i q∧s.getD q 0 = (j:Int) + 1)∨(¬ C1 p0 w out j i q∧s.getD q 0 = out.getD q 0):=by
 have hn:=hF.n
 refine Rz p0.fObjects.length (fun s k=>s.length = p0.fObjects.length∧∀ q,q < p0.fObjects.length→(((q:Int) < k∧C1 p0 w out j i q)∧s.getD q 0 = (j:Int) + 1)∨(¬ ((q:Int) < k∧C1 p0 w out j i q)∧s.getD q 0 = out.getD q 0)) (by omega) ⟨ho,fun q hq=>.inr ⟨fun h=>by omega,rfl⟩⟩ fun s k hI h0 h1=>?_
 obtain ⟨hl,hI⟩:=hI
 have hsi:s.getD i 0 = out.getD i 0:=by
  rcases hI i hi with ⟨⟨_,hc⟩,_⟩ | ⟨_,h⟩
  ·have:=hc.1; have:=hc.2.2.1; omega
  ·exact h
 obtain ⟨yi,hyi⟩ : ∃ y,s[i]? = some y:=⟨_,List.getElem?_eq_getElem (by omega)⟩
 have hyi2:=aKz hyi
 unfold i3
 simp only [m5,hyi,Option.bind_some]
 by_cases hk:k < (s.length:Int)
 ·simp only [hk,decide_true,cond_true,Option.bind_some]
  by_cases hyj:yi = (j:Int)
  ·simp only [hyj,decide_true,cond_true]
   obtain ⟨kn,rfl⟩:=Int.eq_ofNat_of_zero_le h0
   have hkn:kn < p0.fObjects.length:=by omega
   obtain ⟨yk,hyk⟩ : ∃ y,s[kn]? = some y:=⟨_,List.getElem?_eq_getElem (by omega)⟩
   have hyk2:=aKz hyk
   obtain ⟨oi,hoi⟩ : ∃ o,p0.fObjects[i]? = some o:=⟨_,List.getElem?_eq_getElem hi⟩
   obtain ⟨ok,hok⟩ : ∃ o,p0.fObjects[kn]? = some o:=⟨_,List.getElem?_eq_getElem hkn⟩
   have hre:=hF.refs oi (List.mem_of_getElem? hoi)
   have hE:Edge p0 i kn↔ok.fId∈oi.fRefs:=by
    unfold Edge Y2
    rw [if_neg (by omega),hoi]
    constructor
    ·rintro ⟨o,h1,h2⟩; rw [hok] at h1; cases h1; exact h2
    ·intro h; exact ⟨ok,hok,h⟩
   have hsk:s.getD kn 0 = out.getD kn 0:=by
    rcases hI kn hkn with ⟨⟨h,_⟩,_⟩ | ⟨_,h⟩
    ·omega
    ·exact h
   have hnext:∀ s':List Int,s'.length = p0.fObjects.length→(∀ q,q ≠ kn→s'.getD q 0 = s.getD q 0)→((C1 p0 w out j i kn∧s'.getD kn 0 = (j:Int) + 1)∨(¬ C1 p0 w out j i kn∧s'.getD kn 0 = out.getD kn 0)) →
     Ok (some (Sum.inl (s',w64 ((kn:Int) + 1)))) (P8 (fun a:List Int × Int=>(kn:Int) < (p0.fObjects.length:Int)∧a.2 = (kn:Int) + 1∧(a.1.length = p0.fObjects.length∧∀ q,q < p0.fObjects.length→(((q:Int) < (kn:Int) + 1∧C1 p0 w out j i q)∧a.1.getD q 0 = (j:Int) + 1)∨(¬ ((q:Int) < (kn:Int) + 1∧C1 p0 w out j i q)∧a.1.getD q 0 = out.getD q 0))) fun s:List Int=>s.length = p0.fObjects.length∧∀ q,q < p0.fObjects.length→(C1 p0 w out j i q∧s.getD q 0 = (j:Int) + 1)∨(¬ C1 p0 w out j i q∧s.getD q 0 = out.getD q 0)):=by
    intro s' hl' hkeep hat
    refine Mx ⟨by omega,i5 (by omega),hl',fun q hq=>?_⟩
    by_cases e:q = kn
    ·subst e
     rcases hat with ⟨h1,h2⟩ | ⟨h1,h2⟩
     ·exact .inl ⟨⟨by omega,h1⟩,h2⟩
     ·exact .inr ⟨fun h=>h1 h.2,h2⟩
    ·rcases hI q hq with ⟨⟨h1,h2⟩,h3⟩ | ⟨h1,h2⟩
     ·exact .inl ⟨⟨by omega,h2⟩,by rw [hkeep q e]; exact h3⟩
     ·exact .inr ⟨fun h=>h1 ⟨by omega,h.2⟩,by rw [hkeep q e]; exact h2⟩
   have hsame : ¬ C1 p0 w out j i kn→Ok (some (Sum.inl (s,w64 ((kn:Int) + 1)))) _:=fun hc=>hnext s hl (fun _ _=>rfl) (.inr ⟨hc,hsk⟩)
   simp only [m5,hyk,hoi,hok,Option.bind_some,ayY oi.fRefs ok.fId (by omega)]
   by_cases c1:(kn:Int) = w
   ·have hd:decide ((kn:Int) = w) = true:=decide_eq_true c1
    simp only [hd,Bool.not_true,cond_false,Option.bind_some]
    exact hsame fun h=>h.2.1 c1
   ·simp only [c1,decide_false,Bool.not_false,cond_true,Option.bind_some]
    by_cases c2:yk = 0
    ·simp only [c2,decide_true,cond_true,Option.bind_some]
     by_cases c3:ok.fId∈oi.fRefs
     ·simp only [c3,decide_true,cond_true,Option.bind_some]
      rw [i5 (n:=(j:Int) + 1) (by omega)]
      refine hnext _ (by rw [List.length_set]; exact hl) (fun q hq=>?_) (.inl ⟨⟨by omega,c1,by omega,hE.2 c3⟩,?_⟩)
      ·rw [show Int.toNat (kn:Int) = kn from rfl,Bx (by omega),if_neg hq]
      ·rw [show Int.toNat (kn:Int) = kn from rfl,Bx (by omega),if_pos rfl]
     ·simp only [c3,decide_false,cond_false,Option.bind_some]
      exact hsame fun h=>c3 (hE.1 h.2.2.2)
    ·simp only [c2,decide_false,cond_false,Option.bind_some]
     exact hsame fun h=>by have:=h.2.2.1; omega
  ·simp only [hyj,decide_false,cond_false]
   refine Iz ⟨hl,fun q hq=>.inr ⟨fun h=>by have:=h.1; omega,?_⟩⟩
   rcases hI q hq with ⟨⟨_,h2⟩,_⟩ | ⟨_,h2⟩
   ·have:=h2.1; omega
   ·exact h2
 ·simp only [hk,decide_false,cond_false,Option.bind_some]
  refine Iz ⟨hl,fun q hq=>?_⟩
  rcases hI q hq with ⟨⟨_,h2⟩,h3⟩ | ⟨h2,h3⟩
  ·exact .inl ⟨h2,h3⟩
  ·exact .inr ⟨fun h=>h2 ⟨by omega,h⟩,h3⟩
def C2 (p0:api_Heap) (w:Int) (out:List Int) (j i q:Nat):Prop:=∃ i',i' < i∧C1 p0 w out j i' q
theorem aHY (hF:vK p0) (w:Int) {out:List Int} (ho:out.length = p0.fObjects.length) {j:Nat} (hj:1≤j∧j≤1000) :
  Ok (loop (i2 p0 w (j:Int)) (out,0)) fun s:List Int=>s.length = p0.fObjects.length∧∀ q,q < p0.fObjects.length→(C2 p0 w out j p0.fObjects.length q∧s.getD q 0 = (j:Int) + 1)∨(¬ C2 p0 w out j p0.fObjects.length q∧s.getD q 0 = out.getD q 0):=by
 have hn:=hF.n
 refine Rz p0.fObjects.length (fun s k=>s.length = p0.fObjects.length∧∀ q,q < p0.fObjects.length→(C2 p0 w out j k.toNat q∧s.getD q 0 = (j:Int) + 1)∨(¬ C2 p0 w out j k.toNat q∧s.getD q 0 = out.getD q 0)) (by omega) ⟨ho,fun q hq=>.inr ⟨fun ⟨i',h,_⟩=>by simp at h,rfl⟩⟩ fun s k hI h0 h1=>?_
 obtain ⟨hl,hI⟩:=hI
 unfold i2
 obtain ⟨i,rfl⟩:=Int.eq_ofNat_of_zero_le h0
 simp only [Int.toNat_natCast] at hI
 refine B9 (fun h=>?_) (fun h=>?_)
 ·have hi:i < p0.fObjects.length:=by omega
  refine nW (aGZ hF w hl hi hj) fun s' hs'=>?_
  obtain ⟨hl',hs'⟩:=hs'
  refine Mx ⟨by omega,i5 (by omega),hl',fun q hq=>?_⟩
  have hti:((i:Int) + 1).toNat = i + 1:=by omega
  rw [hti]
  have hsi:s.getD i 0 = (j:Int)↔out.getD i 0 = (j:Int):=by
   rcases hI i hi with ⟨⟨i',_,hc⟩,h2⟩ | ⟨_,h2⟩
   ·have:=hc.2.2.1; omega
   ·rw [h2]
  rcases hs' q hq with ⟨hc,h2⟩ | ⟨hc,h2⟩
  ·have hsq:=hc.2.2.1
   rcases hI q hq with ⟨_,h3⟩ | ⟨h3,h4⟩
   ·omega
   ·exact .inl ⟨⟨i,by omega,hsi.1 hc.1,hc.2.1,by omega,hc.2.2.2⟩,h2⟩
  ·rcases hI q hq with ⟨⟨i',hi',hc'⟩,h3⟩ | ⟨h3,h4⟩
   ·exact .inl ⟨⟨i',by omega,hc'⟩,h2.trans h3⟩
   ·refine .inr ⟨fun ⟨i',hi',hc'⟩=>?_,h2.trans h4⟩
    by_cases e:i' = i
    ·subst e
     exact hc ⟨hsi.2 hc'.1,hc'.2.1,by rw [h4]; exact hc'.2.2.1,hc'.2.2.2⟩
    ·exact h3 ⟨i',by omega,hc'⟩
 ·refine Iz ⟨hl,fun q hq=>?_⟩
  have:i = p0.fObjects.length:=by omega
  subst this
  exact hI q hq
theorem aCQ (w:Int) {j:Nat} (hj:1≤j) {out s:List Int} (hL:Lev p0 w j out) (hl:s.length = p0.fObjects.length)
  (hs:∀ q,q < p0.fObjects.length→(C2 p0 w out j p0.fObjects.length q∧s.getD q 0 = (j:Int) + 1)∨(¬ C2 p0 w out j p0.fObjects.length q∧s.getD q 0 = out.getD q 0)):Lev p0 w (j + 1) s:=by
 refine ⟨hl,fun k hk=>?_⟩
 rcases hs k hk with ⟨⟨i,hi,hc⟩,h2⟩ | ⟨hc,h2⟩
 ·obtain ⟨c1,c2,c3,c4⟩:=hc
  refine .inr ⟨j + 1,by omega,Nat.le_refl _,by omega,?_⟩
  have hni:Pth p0 w j i:=by
   rcases hL.2 i hi with ⟨h,_⟩ | ⟨m,_,_,h3,h4⟩
   ·omega
   ·have:m = j:=by omega
    subst this; exact h4.1
  have hno:∀ m,m≤j→¬ Pth p0 w m k:=by
   rcases hL.2 k hk with ⟨_,h⟩ | ⟨m,h1,_,h3,_⟩
   ·exact h
   ·omega
  exact ⟨.succ hni c4 c2,fun m hm=>hno m (by omega)⟩
 ·rcases hL.2 k hk with ⟨h3,h4⟩ | ⟨m,h3,h4,h5,h6⟩
  ·refine .inl ⟨by omega,fun m hm hp=>?_⟩
   by_cases e:m≤j
   ·exact h4 m e hp
   ·have:m = j + 1:=by omega
    subst this
    cases hp with
    | succ p1 p2 p3 =>
     rename_i x
     have hx:x < p0.fObjects.length:=by
      cases j with
      | zero=>omega
      | succ j'=>exact p1.pos_lt
     refine hc ⟨x,hx,?_,p3,h3,p2⟩
     rcases hL.2 x hx with ⟨_,h⟩ | ⟨m,g1,g2,g3,g4⟩
     ·exact absurd p1 (h j (Nat.le_refl _))
     ·by_cases e2:m = j
      ·rw [g3,e2]
      ·exact absurd (Pw.succ g4.1 p2 p3) (h4 (m + 1) (by omega))
  ·exact .inr ⟨m,h3,by omega,by omega,h6⟩
theorem aGK (hF:vK p0) (w:Int) {out:List Int} (hL:Lev p0 w 1 out):Ok (loop (i1 p0 w) (out,1)) fun s=>Lev p0 w (p0.fObjects.length + 1) s:=by
 have hn:=hF.n
 refine W9 (fun s:List Int × Int=>∃ j:Nat,s.2 = (j:Int)∧1≤j∧j≤p0.fObjects.length + 1∧Lev p0 w j s.1) (fun s=>(p0.fObjects.length + 1:Nat) - s.2.toNat) (fun s hs=>?_) ⟨1,rfl,Nat.le_refl _,by omega,hL⟩ (by simp [lQ]; omega)
 obtain ⟨s,z⟩:=s
 obtain ⟨j,rfl,h1,h2,hL⟩:=hs
 unfold i1
 refine B9 (fun h=>?_) (fun h=>?_)
 ·have hjl:j≤p0.fObjects.length:=by rw [hL.1] at h; omega
  refine nW (aHY hF w hL.1 ⟨h1,by omega⟩) fun s' hs'=>?_
  refine Mx ⟨⟨j + 1,?_,by omega,by omega,aCQ w h1 hL hs'.1 hs'.2⟩,?_⟩
  ·rw [i5 (by omega)]; omega
  ·simp only
   rw [i5 (by omega)]
   omega
 ·have:j = p0.fObjects.length + 1:=by rw [hL.1] at h; omega
  subst this
  exact Iz hL
theorem aEJ (hF:vK p0) (w:Int):Ok (loop (i4 p0 w) (List.replicate p0.fObjects.length 0,0)) fun s=>Lev p0 w 1 s:=by
 have hn:=hF.n
 have hr:=hF.r
 have hz:∀ q,(List.replicate p0.fObjects.length (0:Int)).getD q 0 = 0:=fun q=>by
  rw [List.getD_eq_getElem?_getD,List.getElem?_replicate]
  split <;> rfl
 refine Rz p0.fObjects.length (fun s k=>s.length = p0.fObjects.length∧∀ q,q < p0.fObjects.length→(((q:Int) < k∧(q:Int) ≠ w∧Edge p0 p0.fObjects.length q)∧s.getD q 0 = 1)∨(¬ ((q:Int) < k∧(q:Int) ≠ w∧Edge p0 p0.fObjects.length q)∧s.getD q 0 = 0)) (by omega) ⟨by rw [List.length_replicate],fun q hq=>.inr ⟨fun h=>by omega,hz q⟩⟩ fun s k hI h0 h1=>?_
 obtain ⟨hl,hI⟩:=hI
 unfold i4
 obtain ⟨kn,rfl⟩:=Int.eq_ofNat_of_zero_le h0
 refine B9 (fun h=>?_) (fun h=>?_)
 ·have hkn:kn < p0.fObjects.length:=by omega
  obtain ⟨ok,hok⟩ : ∃ o,p0.fObjects[kn]? = some o:=⟨_,List.getElem?_eq_getElem hkn⟩
  obtain ⟨yk,hyk⟩ : ∃ y,s[kn]? = some y:=⟨_,List.getElem?_eq_getElem (by omega)⟩
  have hE:Edge p0 p0.fObjects.length kn↔ok.fId∈p0.fRoots:=by
   unfold Edge Y2
   rw [if_pos rfl]
   constructor
   ·rintro ⟨o,h1,h2⟩; rw [hok] at h1; cases h1; exact h2
   ·intro h; exact ⟨ok,hok,h⟩
  have hsk:s.getD kn 0 = 0:=by
   rcases hI kn hkn with ⟨⟨h,_⟩,_⟩ | ⟨_,h⟩
   ·omega
   ·exact h
  have hnext:∀ s':List Int,s'.length = p0.fObjects.length→(∀ q,q ≠ kn→s'.getD q 0 = s.getD q 0)→((((kn:Int) ≠ w∧Edge p0 p0.fObjects.length kn)∧s'.getD kn 0 = 1)∨(¬ ((kn:Int) ≠ w∧Edge p0 p0.fObjects.length kn)∧s'.getD kn 0 = 0)) →
    Ok (some (Sum.inl (s',w64 ((kn:Int) + 1)))) (P8 (fun a:List Int × Int=>(kn:Int) < (p0.fObjects.length:Int)∧a.2 = (kn:Int) + 1∧(a.1.length = p0.fObjects.length∧∀ q,q < p0.fObjects.length→(((q:Int) < (kn:Int) + 1∧(q:Int) ≠ w∧Edge p0 p0.fObjects.length q)∧a.1.getD q 0 = 1)∨(¬ ((q:Int) < (kn:Int) + 1∧(q:Int) ≠ w∧Edge p0 p0.fObjects.length q)∧a.1.getD q 0 = 0))) fun s:List Int=>Lev p0 w 1 s):=by
   intro s' hl' hkeep hat
   refine Mx ⟨by omega,i5 (by omega),hl',fun q hq=>?_⟩
   by_cases e:q = kn
   ·subst e
    rcases hat with ⟨h1,h2⟩ | ⟨h1,h2⟩
    ·exact .inl ⟨⟨by omega,h1⟩,h2⟩
    ·exact .inr ⟨fun h=>h1 h.2,h2⟩
   ·rcases hI q hq with ⟨⟨h1,h2⟩,h3⟩ | ⟨h1,h2⟩
    ·exact .inl ⟨⟨by omega,h2⟩,by rw [hkeep q e]; exact h3⟩
    ·exact .inr ⟨fun h=>h1 ⟨by omega,h.2⟩,by rw [hkeep q e]; exact h2⟩
  have hsame : ¬ ((kn:Int) ≠ w∧Edge p0 p0.fObjects.length kn)→Ok (some (Sum.inl (s,w64 ((kn:Int) + 1)))) _:=fun hc=>hnext s hl (fun _ _=>rfl) (.inr ⟨hc,hsk⟩)
  simp only [m5,hok,hyk,Option.bind_some,ayY p0.fRoots ok.fId (by omega)]
  by_cases c1:(kn:Int) = w
  ·have hd:decide ((kn:Int) = w) = true:=decide_eq_true c1
   simp only [hd,Bool.not_true,cond_false,Option.bind_some]
   exact hsame fun h=>h.1 c1
  ·simp only [c1,decide_false,Bool.not_false,cond_true,Option.bind_some]
   by_cases c3:ok.fId∈p0.fRoots
   ·simp only [c3,decide_true,cond_true,Option.bind_some]
    refine hnext _ (by rw [List.length_set]; exact hl) (fun q hq=>?_) (.inl ⟨⟨c1,hE.2 c3⟩,?_⟩)
    ·rw [show Int.toNat (kn:Int) = kn from rfl,Bx (by omega),if_neg hq]
    ·rw [show Int.toNat (kn:Int) = kn from rfl,Bx (by omega),if_pos rfl]
   ·simp only [c3,decide_false,cond_false,Option.bind_some]
    exact hsame fun h=>c3 (hE.1 h.2)
 ·have hkk:kn = p0.fObjects.length:=by omega
  refine Iz ⟨hl,fun q hq=>?_⟩
  have h0 : ¬ Pth p0 w 0 q:=fun hp=>by
   cases hp; omega
  rcases hI q hq with ⟨⟨_,h2,h3⟩,h4⟩ | ⟨h2,h3⟩
  ·exact .inr ⟨1,by omega,Nat.le_refl _,h4,.succ .zero h3 h2,fun m' hm'=>by obtain rfl:m' = 0:=(by omega); exact h0⟩
  ·refine .inl ⟨h3,fun m hm hp=>?_⟩
   rcases Nat.eq_zero_or_pos m with e | e
   ·subst e; exact h0 hp
   ·have:m = 1:=by omega
    subst this
    cases hp with
    | succ p1 p2 p3 =>
     cases p1
     exact h2 ⟨by omega,p3,p2⟩
def DistIs (p0:api_Heap) (w:Int) (d:List Int):Prop:=d.length = p0.fObjects.length∧∀ k,k < p0.fObjects.length→(d.getD k 0 = 0∧∀ m,¬ Pth p0 w m k)∨∃ m:Nat,0 < m∧d.getD k 0 = (m:Int)∧KQ p0 w m k
theorem aEW (hF:vK p0) (w:Int):∃ d,gK p0 w = some d∧DistIs p0 w d:=by
 have hn:=hF.n
 obtain ⟨s4,h4,hL4⟩:=aEJ hF w
 obtain ⟨s3,h3,hL3⟩:=aGK hF w hL4
 refine ⟨s3,?_,hL3.1,fun k hk=>?_⟩
 ·unfold gK
  have hm:mkB 8 (p0.fObjects.length:Int) = true:=by unfold mkB; exact decide_eq_true (by omega)
  rw [hm,Int.toNat_natCast,h4]
  simp only [cond_true,Option.bind_some,h3]
 ·rcases hL3.2 k hk with ⟨h1,h2⟩ | ⟨m,h1,h2,h3,h4⟩
  ·refine .inl ⟨h1,fun m hp=>?_⟩
   obtain ⟨m',_,hm'⟩:=WZ m k hp
   exact h2 m' (by have:=aAW hm'; omega) hm'.1
  ·exact .inr ⟨m,h1,h3,h4⟩
theorem DistIs.pos {w:Int} {d:List Int} (h:DistIs p0 w d) {k:Nat} (hk:k < p0.fObjects.length):0 < d.getD k 0↔∃ m,Pth p0 w m k:=by
 rcases h.2 k hk with ⟨h1,h2⟩ | ⟨m,h1,h2,h3⟩
 ·constructor
  ·intro h; omega
  ·rintro ⟨m,hm⟩; exact absurd hm (h2 m)
 ·constructor
  ·intro _; exact ⟨m,h3.1⟩
  ·intro _; omega
theorem DistIs.zero {w:Int} {d:List Int} (h:DistIs p0 w d) {k:Nat} (hk:k < p0.fObjects.length):d.getD k 0 = 0↔¬ ∃ m,Pth p0 w m k:=by
 rcases h.2 k hk with ⟨h1,h2⟩ | ⟨m,h1,h2,h3⟩
 ·constructor
  ·rintro _ ⟨m,hm⟩; exact h2 m hm
  ·intro _; exact h1
 ·constructor
  ·intro h; omega
  ·intro hh; exact absurd ⟨m,h3.1⟩ hh
end
open Go.Proofs Go.Proofs.Ytliccamocpglcaa
open Go.RM (sJ m8 adds HO xJ)
theorem T7 {α:Type} {l:List (List α)} {i:Nat} {v:List α} (h:i < l.length) (q:Nat):(l.set i v).getD q [] = if q = i then v else l.getD q []:=by
 rw [List.getD_eq_getElem?_getD,List.getD_eq_getElem?_getD,List.getElem?_set]
 by_cases e:i = q
 ·subst e; rw [if_pos rfl,if_pos h,if_pos rfl]; rfl
 ·rw [if_neg e,if_neg (Ne.symm e)]
theorem aiq (i:Nat):∀ (l:List Nat) (p:List (List Nat) × List (List Nat)),i < p.1.length→∀ q,(l.foldl (fun p k=>sJ p i k) p).1.getD q [] = if q = i then p.1.getD i []++l else p.1.getD q []
 | [],p,_,q=>by
  simp only [List.foldl_nil,List.append_nil]
  split
  ·rename_i h; rw [h]
  ·rfl
 | k :: l,p,h,q=>by
  rw [List.foldl_cons,aiq i l (sJ p i k) (by simp [sJ]; exact h) q]
  simp only [sJ]
  rw [T7 h,T7 h,if_pos rfl]
  by_cases e:q = i
  ·rw [if_pos e,if_pos e,List.append_assoc]; rfl
  ·rw [if_neg e,if_neg e,if_neg e]
theorem agX (fnd:Int→Nat):∀ (l:List HO) (j:Nat) (p:List (List Nat) × List (List Nat)),j + l.length≤p.1.length→∀ q,(m8 fnd j l p).1.getD q [] = p.1.getD q []++(if j≤q then ((l[q - j]?).map fun o=>o.refs.map fnd).getD [] else [])
 | [],j,p,_,q=>by simp [m8]
 | o :: l,j,p,h,q=>by
  simp only [List.length_cons] at h
  have hl:=Go.RM.addSs_len j (o.refs.map fnd) p
  unfold m8
  rw [agX fnd l (j + 1) _ (by rw [hl.1]; omega) q,aiq j _ p (by omega) q]
  by_cases e:q = j
  ·subst e
   rw [if_pos rfl,if_neg (by omega),if_pos (Nat.le_refl _),Nat.sub_self,List.append_nil]; rfl
  ·rw [if_neg e]
   by_cases h1:j≤q
   ·rw [if_pos (by omega),if_pos h1,show q - j = (q - (j + 1)) + 1 from by omega,List.getElem?_cons_succ]
   ·rw [if_neg (by omega),if_neg h1]
theorem aAK {α:Type} (n q:Nat):(List.replicate n ([]:List α)).getD q [] = []:=by
 rw [List.getD_eq_getElem?_getD,List.getElem?_replicate]
 split <;> rfl
section
variable {p0:api_Heap}
abbrev acZ (p0:api_Heap):Int→Nat:=xJ (eY p0)
abbrev aoV (p0:api_Heap):List (List Nat):=(adds (acZ p0) (xY p0) p0.fRoots).1
theorem aCK (i:Nat):(xY p0)[i]? = (p0.fObjects[i]?).map fun o=>⟨o.fId,o.fSize,o.fType,o.fRefs⟩:=by unfold xY; rw [List.getElem?_map]
theorem awZ:(aoV p0).length = p0.fObjects.length + 1:=by
 have:=(Go.RM.adds_len (acZ p0) (xY p0) p0.fRoots).1
 rw [vX] at this; exact this
theorem aDV {i:Nat} (hi:i≤p0.fObjects.length):(aoV p0).getD i [] = (Y2 p0 i).map (acZ p0):=by
 unfold aoV adds
 have hl:=Go.RM.addsFrom_len (acZ p0) (xY p0) 0 (List.replicate ((xY p0).length + 1) [],List.replicate ((xY p0).length + 1) [])
 rw [aiq _ _ _ (by rw [hl.1,List.length_replicate]; omega),agX _ _ _ _ (by rw [List.length_replicate]; omega),agX _ _ _ _ (by rw [List.length_replicate]; omega)]
 simp only [aAK,List.nil_append,Nat.zero_le,if_true,Nat.sub_zero,aCK]
 rw [vX]
 unfold Y2
 by_cases e:i = p0.fObjects.length
 ·rw [if_pos e,if_pos e,List.getElem?_eq_none (Nat.le_refl _)]
  rfl
 ·rw [if_neg e,if_neg e]
  cases p0.fObjects[i]? <;> rfl
theorem aGV (hV:vZ p0) {i:Nat} {n:Int} (h:n∈Y2 p0 i):sX p0 n = true:=by
 unfold Y2 at h
 split at h
 ·exact hV.roots.1 n h
 ·split at h
  ·rename_i o ho; exact (hV.refs o (List.mem_of_getElem? ho)).1 n h
  ·simp at h
theorem aKX (hF:vK p0) (hV:vZ p0) {k:Nat} {o:bY} (ho:p0.fObjects[k]? = some o):acZ p0 o.fId = k:=by
 have hn:=hF.n
 unfold acZ xJ
 rw [akq p0 o.fId (by omega),ajX hV ho]
 exact Int.toNat_natCast k
theorem azW (hF:vK p0) (hV:vZ p0) {i k:Nat}:k∈(Y2 p0 i).map (acZ p0)↔Edge p0 i k:=by
 rw [List.mem_map]
 constructor
 ·rintro ⟨n,h1,rfl⟩
  obtain ⟨k,o,hk,rfl⟩:=anQ (aGV hV h1)
  rw [aKX hF hV hk]
  exact ⟨o,hk,h1⟩
 ·rintro ⟨o,hk,h1⟩
  exact ⟨o.fId,h1,aKX hF hV hk⟩
theorem ajW (hF:vK p0) (hV:vZ p0) {i k:Nat} (hi:i≤p0.fObjects.length):k∈(aoV p0).getD i []↔Edge p0 i k:=by rw [aDV hi,azW hF hV]
theorem apW (hF:vK p0) (hV:vZ p0):Go.RM.graphB (eY p0) (xY p0) p0.fRoots = true:=by
 have hn:=hF.n
 have hr:=hF.r
 have key:∀ l:List Int,l.length≤1000→(∀ n∈l,sX p0 n = true)→Go.RM.refsB (eY p0) (xY p0).length l = true:=by
  intro l hl hh
  unfold Go.RM.refsB
  rw [Bool.and_eq_true,decide_eq_true_eq,List.all_eq_true]
  refine ⟨hl,fun n hm=>?_⟩
  obtain ⟨k,o,hk,rfl⟩:=anQ (hh n hm)
  have:=gJ hk
  rw [akq p0 o.fId (by omega),ajX hV hk]
  simp only [Bool.and_eq_true,decide_eq_true_eq,vX,Int.toNat_natCast]
  omega
 unfold Go.RM.graphB
 rw [Bool.and_eq_true,Bool.and_eq_true,decide_eq_true_eq,List.all_eq_true,vX]
 refine ⟨⟨by omega,fun o ho=>?_⟩,by rw [← vX p0]; exact key _ (by omega) hV.roots.1⟩
 unfold xY at ho
 obtain ⟨o',ho',rfl⟩:=List.mem_map.1 ho
 have:=hF.refs o' ho'
 rw [← vX p0]
 exact key _ (by simp only; omega) (hV.refs o' ho').1
end
open Go.Proofs Go.Proofs.Ytliccamocpglcaa
open Go.RM (uz LZ)
section
variable (to:List (List Nat))
structure aNX (i:Nat) (us us' nd:List Nat):Prop where
 nodup:us'.Nodup
 ndn:nd.Nodup
 part:∀ x,x∈us↔x∈us'∨x∈nd
 disj:∀ x∈nd,x ∉ us'
 last:∃ l,nd = l++[i]
 clos:∀ x∈nd,∀ y∈to.getD x [],y ∉ us'
 pred:∀ x∈nd,x ≠ i→∃ l1 l2,nd = l1++x :: l2∧∃ p∈l2,x∈to.getD p []
 len:us'.length < us.length
structure acX (us0 done us nd:List Nat):Prop where
 nodup:us.Nodup
 ndn:nd.Nodup
 part:∀ x,x∈us0↔x∈us∨x∈nd
 disj:∀ x∈nd,x ∉ us
 clos:∀ x∈nd,∀ y∈to.getD x [],y ∉ us
 seen:∀ k∈done,k ∉ us
 pred:∀ x∈nd,x∈done∨∃ l1 l2,nd = l1++x :: l2∧∃ p∈l2,x∈to.getD p []
 len:us.length≤us0.length
variable {to}
theorem W8 {f:Nat} (hv:∀ i us ord,us.length≤f→us.Nodup→i∈us→(∀ x∈us,x < to.length)→∃ us' nd,uz f to i us ord = some (us',ord++nd)∧aNX to i us us' nd) (us0:List Nat) (hf:us0.length≤f) (hlt:∀ x∈us0,x < to.length) :
  ∀ (l done us nd ord:List Nat),acX to us0 done us nd→∃ us' nd',l.foldlM (LZ f to) (us,ord++nd) = some (us',ord++nd')∧acX to us0 (done++l) us' nd'
 | [],done,us,nd,ord,h=>⟨us,nd,rfl,by rw [List.append_nil]; exact h⟩
 | k :: l,done,us,nd,ord,h=>by
  rw [List.foldlM_cons]
  unfold LZ
  by_cases hk:k∈us
  ·rw [if_pos hk]
   have hus:∀ x∈us,x < to.length:=fun x hx=>hlt x ((h.part x).2 (.inl hx))
   obtain ⟨us',nd2,h1,q⟩:=hv k us (ord++nd) (Nat.le_trans h.len hf) h.nodup hk hus
   rw [h1]
   simp only [Option.bind_eq_bind,Option.bind_some]
   have hsub:∀ x,x ∉ us→x ∉ us':=fun x hx hx'=>hx ((q.part x).2 (.inl hx'))
   have hq:acX to us0 (done++[k]) us' (nd++nd2):=by
    refine ⟨q.nodup,?_,fun x=>?_,fun x hx=>?_,fun x hx y hy=>?_,fun x hx=>?_,fun x hx=>?_,by have:=q.len; have:=h.len; omega⟩
    ·rw [List.nodup_append]
     exact ⟨h.ndn,q.ndn,fun a ha b hb e=>by subst e; exact h.disj a ha ((q.part a).2 (.inr hb))⟩
    ·rw [h.part x,q.part x,List.mem_append]
     constructor
     ·rintro ((h1 | h1) | h1)
      ·exact .inl h1
      ·exact .inr (.inr h1)
      ·exact .inr (.inl h1)
     ·rintro (h1 | h1 | h1)
      ·exact .inl (.inl h1)
      ·exact .inr h1
      ·exact .inl (.inr h1)
    ·rcases List.mem_append.1 hx with hx | hx
     ·exact hsub x (h.disj x hx)
     ·exact q.disj x hx
    ·rcases List.mem_append.1 hx with hx | hx
     ·exact hsub y (h.clos x hx y hy)
     ·exact q.clos x hx y hy
    ·rcases List.mem_append.1 hx with hx | hx
     ·exact hsub x (h.seen x hx)
     ·rw [List.mem_singleton.1 hx]
      obtain ⟨l',hl'⟩:=q.last
      exact q.disj k (by rw [hl']; simp)
    ·rcases List.mem_append.1 hx with hx | hx
     ·rcases h.pred x hx with h2 | ⟨l1,l2,h2,p,h3,h4⟩
      ·exact .inl (List.mem_append_left _ h2)
      ·exact .inr ⟨l1,l2++nd2,by rw [h2]; simp,p,List.mem_append_left _ h3,h4⟩
     ·by_cases e:x = k
      ·exact .inl (by rw [e]; simp)
      ·obtain ⟨l1,l2,h2,p,h3,h4⟩:=q.pred x hx e
       exact .inr ⟨nd++l1,l2,by rw [h2]; simp,p,h3,h4⟩
   obtain ⟨us'',nd',h2,h3⟩:=W8 hv us0 hf hlt l (done++[k]) us' (nd++nd2) ord hq
   refine ⟨us'',nd',?_,by rw [List.append_assoc] at h3; exact h3⟩
   rw [List.append_assoc]
   exact h2
  ·rw [if_neg hk]
   simp only [Option.bind_eq_bind,Option.bind_some]
   have hq:acX to us0 (done++[k]) us nd:=⟨h.nodup,h.ndn,h.part,h.disj,h.clos,fun x hx=>by
    rcases List.mem_append.1 hx with hx | hx
    ·exact h.seen x hx
    ·rw [List.mem_singleton.1 hx]; exact hk,fun x hx=>(h.pred x hx).imp (List.mem_append_left _) id,h.len⟩
   obtain ⟨us'',nd',h2,h3⟩:=W8 hv us0 hf hlt l (done++[k]) us nd ord hq
   exact ⟨us'',nd',h2,by rw [List.append_assoc] at h3; exact h3⟩
theorem YV:∀ (f i:Nat) (us ord:List Nat),us.length≤f→us.Nodup→i∈us→(∀ x∈us,x < to.length)→∃ us' nd,uz f to i us ord = some (us',ord++nd)∧aNX to i us us' nd
 | 0,i,us,ord,hl,_,hi,_=>by
  have:=List.length_pos_of_mem hi; omega
 | f + 1,i,us,ord,hl,hn,hi,hlt=>by
  have hil:=hlt i hi
  have hel:(us.erase i).length = us.length - 1:=List.length_erase_of_mem hi
  have hpos:=List.length_pos_of_mem hi
  have h0:acX to (us.erase i) [] (us.erase i) []:=⟨hn.erase i,List.nodup_nil,fun x=>by simp,fun x hx=>by simp at hx,fun x hx=>by simp at hx,fun x hx=>by simp at hx,fun x hx=>by simp at hx,Nat.le_refl _⟩
  obtain ⟨us',nd,h1,q⟩:=W8 (fun i us ord=>YV f i us ord) (us.erase i) (by omega) (fun x hx=>hlt x (List.mem_of_mem_erase hx)) (to.getD i []) [] (us.erase i) [] ord h0
  rw [List.nil_append] at q
  rw [List.append_nil] at h1
  have aK:to[i]? = some (to.getD i []):=by rw [List.getD_eq_getElem?_getD,List.getElem?_eq_getElem hil]; rfl
  have hmem:∀ x,x∈us.erase i↔x ≠ i∧x∈us:=fun x=>List.Nodup.mem_erase_iff hn
  have hni:i ∉ us':=fun h=>by
   have:=(hmem i).1 ((q.part i).2 (.inl h)); exact this.1 rfl
  have hnd:i ∉ nd:=fun h=>by
   have:=(hmem i).1 ((q.part i).2 (.inr h)); exact this.1 rfl
  refine ⟨us',nd++[i],?_,⟨q.nodup,?_,fun x=>?_,fun x hx=>?_,⟨nd,rfl⟩,fun x hx y hy=>?_,fun x hx hne=>?_,by have:=q.len; omega⟩⟩
  ·rw [Go.RM.visitF_succ,aK]
   simp only [h1,List.append_assoc]
  ·rw [List.nodup_append]
   exact ⟨q.ndn,by simp,fun a ha b hb e=>by rw [List.mem_singleton.1 hb] at e; exact hnd (e ▸ ha)⟩
  ·rw [List.mem_append,List.mem_singleton]
   by_cases e:x = i
   ·subst e; simp [hi]
   ·have:=q.part x
    rw [hmem x] at this
    simp only [e,or_false]
    rw [← this]
    simp [e]
  ·rcases List.mem_append.1 hx with hx | hx
   ·exact q.disj x hx
   ·rw [List.mem_singleton.1 hx]; exact hni
  ·rcases List.mem_append.1 hx with hx | hx
   ·exact q.clos x hx y hy
   ·rw [List.mem_singleton.1 hx] at hy
    exact q.seen y hy
  ·rcases List.mem_append.1 hx with hx | hx
   ·rcases q.pred x hx with h2 | ⟨l1,l2,h2,p,h3,h4⟩
    ·obtain ⟨l1,l2,h3⟩:=List.append_of_mem hx
     exact ⟨l1,l2++[i],by rw [h3]; simp,i,by simp,h2⟩
    ·exact ⟨l1,l2++[i],by rw [h2]; simp,p,List.mem_append_left _ h3,h4⟩
   ·exact absurd (List.mem_singleton.1 hx) hne
end
open Go.Proofs Go.Proofs.Ytliccamocpglcaa
open Go.RM (uz gZ Oz uJ)
theorem adQ:∀ (ord:List Nat) (j:Nat) (p:List Nat × List Bool),ord.Nodup→(∀ x∈ord,x < p.1.length∧x < p.2.length) →
  (∀ (i:Nat) x,ord[i]? = some x→(gZ j ord p).1[x]? = some (j + i))∧(∀ x,x ∉ ord→(gZ j ord p).1[x]? = p.1[x]?∧(gZ j ord p).2[x]? = p.2[x]?)∧∀ x∈ord,(gZ j ord p).2[x]? = some true
 | [],j,p,_,_=>⟨fun i x h=>by simp at h,fun x _=>⟨rfl,rfl⟩,fun x h=>by simp at h⟩
 | a :: l,j,p,hn,hlt=>by
  obtain ⟨ha,hn'⟩:=List.nodup_cons.1 hn
  obtain ⟨h1,h2,h3⟩:=adQ l (j + 1) (p.1.set a j,p.2.set a true) hn' (fun x hx=>by simp only [List.length_set]; exact hlt x (List.mem_cons_of_mem _ hx))
  have hal:=hlt a (List.mem_cons_self ..)
  unfold gZ
  refine ⟨fun i x hx=>?_,fun x hx=>?_,fun x hx=>?_⟩
  ·cases i with
   | zero =>
    cases hx
    rw [(h2 a ha).1]
    simp only
    rw [List.getElem?_set,if_pos rfl,if_pos hal.1]; rfl
   | succ i =>
    rw [h1 i x hx]
    congr 1
    omega
  ·rw [List.mem_cons,not_or] at hx
   rw [(h2 x hx.2).1,(h2 x hx.2).2]
   simp only
   rw [List.getElem?_set,List.getElem?_set,if_neg (Ne.symm hx.1),if_neg (Ne.symm hx.1)]
   exact ⟨rfl,rfl⟩
  ·rcases List.mem_cons.1 hx with rfl | hx
   ·rw [(h2 x ha).2]
    simp only
    rw [List.getElem?_set,if_pos rfl,if_pos hal.2]
   ·exact h3 x hx
section
variable {p0:api_Heap}
structure OrdQ (p0:api_Heap) (ls:List Nat):Prop where
 nodup:(p0.fObjects.length :: ls).Nodup
 lt:∀ x∈ls,x < p0.fObjects.length
 mem:∀ x,x∈p0.fObjects.length :: ls↔∃ m,Pth p0 (-1) m x
 pred:∀ x∈ls,∃ l1 l2,p0.fObjects.length :: ls = l1++x :: l2∧∃ p∈l1,Edge p0 p x
theorem aMq (hF:vK p0) (hV:vZ p0):∃ ls,Oz (eY p0) (xY p0) p0.fRoots = some (p0.fObjects.length :: ls)∧OrdQ p0 ls:=by
 have hn:=hF.n
 have htl:(aoV p0).length = p0.fObjects.length + 1:=awZ
 obtain ⟨us',nd,h1,q⟩:=YV (to:=aoV p0) 100 p0.fObjects.length (List.range (p0.fObjects.length + 1)) [] (by rw [List.length_range]; omega) List.nodup_range (List.mem_range.2 (by omega)) (fun x hx=>by rw [htl]; exact List.mem_range.1 hx)
 rw [List.nil_append] at h1
 obtain ⟨l,hl⟩:=q.last
 have hndlt:∀ x∈nd,x < p0.fObjects.length + 1:=fun x hx=>List.mem_range.1 ((q.part x).2 (.inr hx))
 have hrev:nd.reverse = p0.fObjects.length :: l.reverse:=by rw [hl]; simp
 have hlen:nd.length≤p0.fObjects.length + 1:=UZ q.ndn hndlt
 have hpred:∀ x∈nd,x ≠ p0.fObjects.length→∃ l1 l2,nd.reverse = l1++x :: l2∧∃ p∈l1,Edge p0 p x:=fun x hx hne=>by
  obtain ⟨l1,l2,e,p,hp,hpx⟩:=q.pred x hx hne
  refine ⟨l2.reverse,l1.reverse,by rw [e]; simp,p,List.mem_reverse.2 hp,?_⟩
  have hpn:p∈nd:=by rw [e]; simp [hp]
  exact (ajW hF hV (by have:=hndlt p hpn; omega)).1 hpx
 have hreach:∀ (j:Nat) (l1:List Nat) (x:Nat) (l2:List Nat),l1.length = j→nd.reverse = l1++x :: l2→∃ m,Pth p0 (-1) m x:=by
  intro j
  induction j using Nat.strongRecOn with
  | ind j ih =>
   intro l1 x l2 hj e
   by_cases hx:x = p0.fObjects.length
   ·subst hx; exact ⟨0,.zero⟩
   ·have hxn:x∈nd:=List.mem_reverse.1 (by rw [e]; simp)
    obtain ⟨a1,a2,e2,p,hp,hE⟩:=hpred x hxn hx
    have hnd:nd.reverse.Nodup:=List.pairwise_reverse.2 (q.ndn.imp fun h=>Ne.symm h)
    have hl1:l1 = a1:=by
     rw [e] at e2 hnd
     have hx1:x ∉ l1:=fun h=>by
      rw [List.nodup_append] at hnd
      exact hnd.2.2 x h x (by simp) rfl
     have hx2:x ∉ a1:=fun h=>by
      rw [e2,List.nodup_append] at hnd
      exact hnd.2.2 x h x (by simp) rfl
     rcases List.append_eq_append_iff.1 e2 with ⟨c,hc1,hc2⟩ | ⟨c,hc1,hc2⟩
     ·cases c with
      | nil=>rw [hc1,List.append_nil]
      | cons z c =>
       simp only [List.cons_append,List.cons.injEq] at hc2
       rw [hc1,← hc2.1] at hx2; simp at hx2
     ·cases c with
      | nil=>rw [hc1,List.append_nil]
      | cons z c =>
       simp only [List.cons_append,List.cons.injEq] at hc2
       rw [hc1,← hc2.1] at hx1; simp at hx1
    subst hl1
    obtain ⟨b1,b2,e3⟩:=List.append_of_mem hp
    obtain ⟨m,hm⟩:=ih b1.length (by rw [← hj,e3,List.length_append,List.length_cons]; omega) b1 p (b2++x :: l2) rfl (by rw [e,e3]; simp)
    exact ⟨m + 1,.succ hm hE (by omega)⟩
 refine ⟨l.reverse,?_,⟨?_,fun x hx=>?_,fun x=>?_,fun x hx=>?_⟩⟩
 ·unfold Oz
  rw [apW hF hV]
  simp only [cond_true,vX]
  have h1':uz 100 (Go.RM.adds (acZ p0) (xY p0) p0.fRoots).1 p0.fObjects.length (List.range (p0.fObjects.length + 1)) [] = some (us',nd):=h1
  rw [h1']
  have hb:(decide (nd.length≤1000) && nd.all (fun i=>decide (i < p0.fObjects.length + 1))) = true:=by
   rw [Bool.and_eq_true,decide_eq_true_eq,List.all_eq_true]
   exact ⟨by omega,fun x hx=>decide_eq_true (hndlt x hx)⟩
  simp only [hb,cond_true,hrev]
 ·rw [← hrev]
  exact List.pairwise_reverse.2 (q.ndn.imp fun h=>Ne.symm h)
 ·have hxn:x∈nd:=by rw [hl]; simp [List.mem_reverse.1 hx]
  have h2:=hndlt x hxn
  have h3:x ≠ p0.fObjects.length:=fun e=>by
   have:=q.ndn
   rw [hl,List.nodup_append] at this
   exact this.2.2 x (List.mem_reverse.1 hx) p0.fObjects.length (by simp) e
  omega
 ·rw [← hrev,List.mem_reverse]
  constructor
  ·intro hx
   obtain ⟨l1,l2,e⟩:=List.append_of_mem (List.mem_reverse.2 hx)
   exact hreach l1.length l1 x l2 rfl e
  ·rintro ⟨m,hm⟩
   induction hm with
   | zero=>rw [hl]; simp
   | @succ m x y p1 p2 _ ih =>
    have h2:=q.clos x ih y ((ajW hF hV (by have:=hndlt x ih; omega)).2 p2)
    rcases (q.part y).1 (List.mem_range.2 (by have := p2.lt; omega)) with h3 | h3
    ·exact absurd h3 h2
    ·exact h3
 ·have hxn:x∈nd:=by rw [hl]; simp [List.mem_reverse.1 hx]
  have h3:x ≠ p0.fObjects.length:=fun e=>by
   have:=q.ndn
   rw [hl,List.nodup_append] at this
   exact this.2.2 x (List.mem_reverse.1 hx) p0.fObjects.length (by simp) e
  rw [← hrev]
  exact hpred x hxn h3
theorem OrdQ.vals {ls:List Nat} (h:OrdQ p0 ls):(∀ (i:Nat) x,(p0.fObjects.length :: ls)[i]? = some x→(uJ p0.fObjects.length (p0.fObjects.length :: ls)).1[x]? = some i) ∧
  ∀ x,x≤p0.fObjects.length→((uJ p0.fObjects.length (p0.fObjects.length :: ls)).2.getD x false = true↔x∈p0.fObjects.length :: ls):=by
 have hlt:∀ x∈p0.fObjects.length :: ls,x < p0.fObjects.length + 1:=fun x hx=>by
  rcases List.mem_cons.1 hx with rfl | hx
  ·omega
  ·have:=h.lt x hx; omega
 obtain ⟨h1,h2,h3⟩:=adQ (p0.fObjects.length :: ls) 0 (List.replicate (p0.fObjects.length + 1) 0,List.replicate (p0.fObjects.length + 1) false) h.nodup (fun x hx=>by simp only [List.length_replicate]; exact ⟨hlt x hx,hlt x hx⟩)
 unfold uJ
 refine ⟨fun i x hx=>by rw [h1 i x hx,Nat.zero_add],fun x hx=>?_⟩
 rw [List.getD_eq_getElem?_getD]
 constructor
 ·intro hh
  apply Classical.byContradiction
  intro hne
  rw [(h2 x hne).2,List.getElem?_replicate,if_pos (by omega)] at hh
  simp at hh
 ·intro hh
  rw [h3 x hh]; rfl
end
open Go.Proofs Go.Proofs.Ytliccamocpglcaa
open Go.RM (Oz uJ)
section
variable {p0:api_Heap}
def ReachIs (p0:api_Heap) (l:List Bool):Prop:=l.length = p0.fObjects.length∧∀ k,k < p0.fObjects.length→(l.getD k false = true↔∃ m,Pth p0 (-1) m k)
theorem afV (hF:vK p0) (hs:∀ o∈p0.fObjects,o.fType.size≤9223372036854775807):(z6 p0 ≠ 0∧t8 p0 = some ([],z6 p0))∨(z6 p0 = 0∧vZ p0∧∃ l,t8 p0 = some (l,0)∧ReachIs p0 l):=by
 unfold t8 Go.RM.reachF
 rw [afz hF hs]
 simp only [Option.bind_some]
 by_cases h:z6 p0 = 0
 ·have hV:=aBV h
  refine .inr ⟨h,hV,?_⟩
  obtain ⟨ls,h1,hO⟩:=aMq hF hV
  rw [h,h1]
  simp only [decide_true,cond_true,Option.map_some]
  obtain ⟨_,hv⟩:=hO.vals
  have hkl:(uJ p0.fObjects.length (p0.fObjects.length :: ls)).2.length = p0.fObjects.length + 1:=by
   have:=(Go.RM.placeFrom_len (p0.fObjects.length :: ls) 0 (List.replicate (p0.fObjects.length + 1) 0,List.replicate (p0.fObjects.length + 1) false)).2
   rw [List.length_replicate] at this
   exact this
  refine ⟨_,rfl,by rw [vX,List.length_take,hkl]; omega,fun k hk=>?_⟩
  rw [vX,← hO.mem k,← hv k (by omega),List.getD_eq_getElem?_getD,List.getElem?_take,if_pos hk,← List.getD_eq_getElem?_getD]
 ·exact .inl ⟨h,by rw [decide_eq_false h]; rfl⟩
theorem VY (hF:vK p0) (hs:∀ o∈p0.fObjects,o.fType.size≤9223372036854775807):(z6 p0 ≠ 0∧iZ p0 = some ([],z6 p0))∨(z6 p0 = 0∧∃ l,iZ p0 = some (l,0)∧ReachIs p0 l):=by
 have hn:=hF.n
 unfold iZ
 rw [arz hF hs]
 simp only [Option.bind_some]
 by_cases h:z6 p0 = 0
 ·refine .inr ⟨h,?_⟩
  obtain ⟨d,hd,hD⟩:=aEW hF (-1)
  rw [h,hd]
  simp only [decide_true,Bool.not_true,cond_false,Option.bind_some]
  have key:Ok (loop (k9 d) ([],0)) fun l=>l = d.map fun z=>decide (0 < z):=by
   refine Rz d.length (fun s k=>s = (d.take k.toNat).map fun z=>decide (0 < z)) (by have:=hD.1; omega) rfl fun s k hI h0 h1=>?_
   have hdl:=hD.1
   unfold k9
   refine B9 (fun hk=>?_) (fun hk=>?_)
   ·refine nW (F3 h0 hk) fun y hy=>?_
    have hsl:s.length≤16:=by rw [hI,List.length_map,List.length_take]; omega
    rw [aGQ (by simp only [List.length_singleton]; omega) (by simp only [List.length_singleton]; omega)]
    refine abz (Inv:=fun s (k:Int)=>s = (d.take k.toNat).map fun z=>decide (0 < z)) ?_ h0 hk (by omega)
    have:(k + 1).toNat = k.toNat + 1:=by omega
    rw [this,List.take_add_one,hy,hI]
    simp
   ·refine Iz ?_
    rw [hI,List.take_of_length_le (by omega)]
  obtain ⟨l,h1,h2⟩:=key
  rw [h1]
  refine ⟨l,rfl,by rw [h2,List.length_map]; exact hD.1,fun k hk=>?_⟩
  rw [h2,List.getD_eq_getElem?_getD,List.getElem?_map,List.getElem?_eq_getElem (by rw [hD.1]; exact hk)]
  have:=hD.pos hk
  rw [List.getD_eq_getElem?_getD,List.getElem?_eq_getElem (by rw [hD.1]; exact hk)] at this
  simpa using this
 ·exact .inl ⟨h,by rw [decide_eq_false h]; rfl⟩
theorem ReachIs.uniq {l l':List Bool} (h:ReachIs p0 l) (h':ReachIs p0 l'):l = l':=by
 apply List.ext_getElem
 ·rw [h.1,h'.1]
 ·intro i h1 h2
  have a:=h.2 i (by rw [← h.1]; exact h1)
  have b:=h'.2 i (by rw [← h.1]; exact h1)
  rw [List.getD_eq_getElem?_getD,List.getElem?_eq_getElem h1] at a
  rw [List.getD_eq_getElem?_getD,List.getElem?_eq_getElem h2] at b
  simp only [Option.getD_some] at a b
  rw [Bool.eq_iff_iff,a,b]
theorem heapReaches_holds (p0:api_Heap) (hs:∀ o∈p0.fObjects,o.fType.size≤9223372036854775807):dV p0 = some true:=by
 unfold dV
 obtain ⟨b,hb,hbF⟩:=aKY p0
 rw [hb]
 simp only [Option.bind_some]
 cases b with
 | false=>simp only [Bool.not_false,cond_true,WQ,Option.bind_some]
 | true =>
  have hF:=hbF.1 rfl
  have hn:=hF.n
  simp only [Bool.not_true,cond_false]
  have hll:∀ (l:List Bool) (e:Int),l.length≤16→loop (dK (l,e) (l,e)) 0 = some (.inl ()):=fun l e hl=>by
   rw [sV (step:=dK (l,e) (l,e)) l (fun _ _=>none) (by omega) (fun i y hy=>by
    have hil:=gJ hy
    have hw:=uK (show i < 9223372036854775807 by omega)
    unfold dK
    simp only [show ((i:Int) < (l.length:Int)) from by omega,decide_true,cond_true,m5,hy,Option.bind_some,hw]
    rfl) (by unfold dK; simp)]
   have:e9 (fun (_:Nat) (_:Bool)=>(none:Option Bool)) l 0 = none:=xx.2 fun _ _ _=>rfl
   rw [this]; rfl
  rcases afV hF hs with ⟨h1,h2⟩ | ⟨h1,_,l,h2,h3⟩
  ·rcases VY hF hs with ⟨_,h5⟩ | ⟨h4,_⟩
   ·rw [h2,h5]
    simp only [Option.bind_some,decide_true,Bool.not_true,cond_false,hll [] (z6 p0) (by simp),WQ]
   ·exact absurd h4 h1
  ·rcases VY hF hs with ⟨h4,_⟩ | ⟨_,l',h5,h6⟩
   ·exact absurd h1 h4
   ·rw [h2,h5,h3.uniq h6]
    simp only [Option.bind_some,decide_true,Bool.not_true,cond_false,hll l' 0 (by rw [h6.1]; omega),WQ]
end
end Go.VM
