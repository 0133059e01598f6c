/- The law holds: plain mathematics on what the functions compute. -/
import Derived.Test.YtliccamocpglcaaL51B
namespace Go.VM
def fW {α ρ:Type} (g:Nat→α→Option ρ):List α→Nat→Option ρ
  | [],_=>none
  | y :: ys,i=>match g i y with
    | some r=>some r
    | none=>fW g ys (i + 1)
theorem y9 {α ρ:Type} {g:Nat→α→Option ρ}:∀ {xs:List α} {i:Nat},fW g xs i = none↔∀ j y,xs[j]? = some y→g (i + j) y = none
  | [],i=>by simp [fW]
  | y :: ys,i=>by
    simp only [fW]
    cases h:g i y with
    | some r =>
      simp only [reduceCtorEq,false_iff]
      intro hx
      have:=hx 0 y rfl
      rw [Nat.add_zero,h] at this; simp at this
    | none =>
      rw [y9 (xs:=ys) (i:=i + 1)]
      constructor
      · intro hx j y' hj
        cases j with
        | zero=>simp at hj; subst hj; exact h
        | succ j=>have:=hx j y' (by simpa using hj); rwa [show i + 1 + j = i + (j + 1) from by omega] at this
      · intro hx j y' hj
        have:=hx (j + 1) y' (by simpa using hj)
        rwa [show i + (j + 1) = i + 1 + j from by omega] at this
theorem wj {α ρ:Type} {g:Nat→α→Option ρ} {r:ρ}:∀ {xs:List α} {i:Nat},fW g xs i = some r→∃ j y,xs[j]? = some y∧g (i + j) y = some r∧∀ k z,k < j→xs[k]? = some z→g (i + k) z = none
  | [],i,h=>by simp [fW] at h
  | y :: ys,i,h=>by
    simp only [fW] at h
    cases hg:g i y with
    | some r' =>
      rw [hg] at h; cases h
      exact ⟨0,y,rfl,hg,fun k z hk=>by omega⟩
    | none =>
      rw [hg] at h
      obtain ⟨j,z,h1,h2,h3⟩:=wj h
      refine ⟨j + 1,z,by simpa using h1,by rw [← h2]; congr 1; omega,fun k u hk hu=>?_⟩
      cases k with
      | zero=>simp at hu; subst hu; exact hg
      | succ k=>have:=h3 k u (by omega) (by simpa using hu); rwa [show i + 1 + k = i + (k + 1) from by omega] at this
theorem R6 {α ρ:Type} (g:Nat → α → Option ρ) (e:ρ):∀ (xs:List α) (i:Nat),aaZ (fun i y (_:Unit) => match g i y with | some r => Sum.inr r | none => .inl ()) (fun _ => e) xs i () = (fW g xs i).getD e
  | [],_=>rfl
  | y :: ys,i=>by
    simp only [aaZ,fW]
    cases g i y with
    | some r=>rfl
    | none=>exact R6 g e ys (i + 1)
theorem ajj {α ρ:Type} {step:Int→Option (Int ⊕ ρ)} (xs:List α) (g:Nat→α→Option ρ) (e:ρ) (hl:xs.length < lj)
    (h1:∀ (i:Nat) y,xs[i]? = some y → step (i:Int) = some (match g i y with | some r => .inr r | none => .inl ((i:Int) + 1))) (h2:step (xs.length:Int) = some (.inr e)):loop step 0 = some ((fW g xs 0).getD e) := by
  have := YV (σ := Unit) (step := step) xs (fun i _ => (i:Int)) (fun i y _ => match g i y with | some r => .inr r | none => .inl ()) (fun _ => e) hl
    (fun i y s hy=>by
      rw [h1 i y hy]
      cases g i y <;> simp)
    (fun _=>h2) ()
  rw [show (0:Int) = ((0:Nat):Int) from rfl,this,R6]
theorem gz {α:Type} {xs:List α} {i:Nat} {y:α} (h:xs[i]? = some y):i < xs.length:=(cw.1 h).1
theorem xq {i:Nat} (h:i < 9223372036854775807):w64 ((i:Int) + 1) = (i:Int) + 1:=iK (by omega)
end Go.VM
namespace Go.VM
def Ok {α:Type} (x:Option α) (P:α→Prop):Prop:=∃ r,x = some r∧P r
def Yes {α:Type}:α→Prop:=fun _=>True
def Lx {α β:Type} (A:α→Prop) (B:β→Prop):α ⊕ β→Prop
  | .inl a=>A a
  | .inr b=>B b
theorem aOW {α:Type} {P:α→Prop} {r:α} (h:P r):Ok (some r) P:=⟨r,rfl,h⟩
theorem G1 {α β:Type} {A:α→Prop} {B:β→Prop} {a:α} (h:A a):Ok (some (.inl a)) (Lx A B):=⟨_,rfl,h⟩
theorem DQ {α β:Type} {A:α→Prop} {B:β→Prop} {b:β} (h:B b):Ok (some (.inr b)) (Lx A B):=⟨_,rfl,h⟩
theorem pK {α β:Type} {x:Option α} {f:α→Option β} {Q:α→Prop} {P:β→Prop} (hx:Ok x Q) (hf:∀ r,Q r→Ok (f r) P):Ok (x.bind f) P:=by
  obtain ⟨r,h1,h2⟩:=hx
  subst h1; exact hf r h2
theorem aEQ {α β γ:Type} {x:Option (α ⊕ γ)} {f:α ⊕ γ→Option β} {Q:α ⊕ γ→Prop} {P:β→Prop} (hx:Ok x Q) (hf:∀ r,Q (.inl r)→Ok (f (.inl r)) P) (hg:∀ r,Q (.inr r)→Ok (f (.inr r)) P):Ok (x.bind f) P :=
  pK hx (fun r => match r with | .inl a => hf a | .inr b => hg b)
theorem E4 {α:Type} {b:Bool} {x y:Option α} {P:α→Prop} (h1:b = true→Ok x P) (h2:b = false→Ok y P):Ok (cond b x y) P:=by
  cases b
  · exact h2 rfl
  · exact h1 rfl
theorem Ok.mono {α:Type} {x:Option α} {P Q:α→Prop} (h:Ok x P) (hq:∀ r,P r→Q r):Ok x Q:=by
  obtain ⟨r,h1,h2⟩:=h; exact ⟨r,h1,hq r h2⟩
theorem Ok.yes {α:Type} {x:Option α} {P:α→Prop} (h:Ok x P):Ok x Yes:=h.mono (fun _ _=>trivial)
theorem K9 {α:Type} {xs:List α} {i:Int} (h1:0≤i) (h2:i < xs.length):Ok (idx xs i) (fun y=>xs[i.toNat]? = some y):=by
  obtain ⟨n,rfl⟩:=Int.eq_ofNat_of_zero_le h1
  have h3:n < xs.length:=by omega
  rw [l7]
  exact ⟨xs[n],by simp [h3],by simp [h3]⟩
theorem Q2 {S ρ:Type} {step:S→Option (S ⊕ ρ)} (Inv:S→Prop) (m:S→Nat) {Post:ρ→Prop}
    (h:∀ s,Inv s→Ok (step s) (Lx (fun s'=>Inv s'∧m s' < m s) Post)) {s:S} (hs:Inv s) (hm:m s < lj):Ok (loop step s) Post:=by
  refine aBV Inv m Post (fun s hs=>?_) hs hm
  obtain ⟨r,h1,h2⟩:=h s hs
  cases r with
  | inl a=>exact Or.inl ⟨a,h1,h2⟩
  | inr b=>exact Or.inr ⟨b,h1,h2⟩
theorem aWx {ρ:Type} {step:Int→Option (Int ⊕ ρ)} (n:Nat) {Post:ρ→Prop} (hn:n≤9223372036854775807)
    (h:∀ i:Int,0≤i→i≤n→Ok (step i) (Lx (fun a=>i < n∧a = i + 1) Post)):Ok (loop step 0) Post:=by
  refine Q2 (fun i:Int=>0≤i∧i≤(n:Int)) (fun i:Int=>((n:Int) - i).toNat) (fun i hi=>(h i hi.1 hi.2).mono ?_) ⟨by omega,by omega⟩ (by simp [lj]; omega)
  rintro (a | b) hr
  · obtain ⟨h1,rfl⟩ : i < n∧a = i + 1:=hr
    exact ⟨⟨by omega,by omega⟩,by omega⟩
  · exact hr
theorem T3 {α:Type} {r:α}:Ok (some r) Yes:=⟨r,rfl,trivial⟩
theorem MK {α β:Type} {B:β→Prop} {a:α}:Ok (some (.inl a)) (Lx Yes B):=⟨_,rfl,trivial⟩
theorem Mj {α β:Type} {A:α→Prop} {b:β}:Ok (some (.inr b)) (Lx A Yes):=⟨_,rfl,trivial⟩
theorem MX {ρ:Type} {i:Int} {n:Nat} {P:ρ→Prop} (h1:0≤i) (h2:i < (n:Int)) (h3:n≤9223372036854775807):Ok (some (.inl (w64 (i + 1)))) (Lx (fun a:Int=>i < (n:Int)∧a = i + 1) P) :=
  G1 ⟨h2,iK (by omega)⟩
theorem zX {α:Type} {p:Prop} [Decidable p] {x y:Option α} {P:α→Prop} (h1:p→Ok x P) (h2 : ¬p→Ok y P):Ok (cond (decide p) x y) P :=
  E4 (fun h=>h1 (of_decide_eq_true h)) (fun h=>h2 (of_decide_eq_false h))
theorem Mq {α:Type} {p:Prop} [Decidable p] {x y:Option α} {P:α→Prop} (h1 : ¬p→Ok x P) (h2:p→Ok y P):Ok (cond (!decide p) x y) P:=by
  by_cases h:p
  · simpa [h] using h2 h
  · simpa [h] using h1 h
theorem SX {α:Type} {b:Bool} {x y:Option α} {P:α→Prop} (h1:b = false→Ok x P) (h2:b = true→Ok y P):Ok (cond (!b) x y) P:=by
  cases b
  · exact h1 rfl
  · exact h2 rfl
theorem N7 {σ ρ:Type} {step:σ × Int→Option ((σ × Int) ⊕ ρ)} (n:Nat) (Inv:σ→Int→Prop) {Post:ρ→Prop} (hn:n≤9223372036854775807) {s0:σ} (h0:Inv s0 0)
    (h:∀ (s:σ) (i:Int),Inv s i→0≤i→i≤n→Ok (step (s,i)) (Lx (fun a=>i < n∧a.2 = i + 1∧Inv a.1 (i + 1)) Post)):Ok (loop step (s0,0)) Post:=by
  refine Q2 (fun s:σ × Int=>Inv s.1 s.2∧0≤s.2∧s.2≤(n:Int)) (fun s:σ × Int=>((n:Int) - s.2).toNat) (fun s hi=>(h s.1 s.2 hi.1 hi.2.1 hi.2.2).mono ?_) ⟨h0,by simp,by simp⟩ (by simp [lj]; omega)
  rintro (⟨a,j⟩ | b) hr
  · obtain ⟨h1,h2,h3⟩ : s.2 < n∧j = s.2 + 1∧Inv a (s.2 + 1):=hr
    subst h2
    exact ⟨⟨h3,by simp; omega,by simp; omega⟩,by simp; omega⟩
  · exact hr
theorem acj {σ ρ:Type} {s:σ} {i:Int} {n:Nat} {Inv:σ→Int→Prop} {P:ρ→Prop} (hI:Inv s (i + 1)) (h1:0≤i) (h2:i < (n:Int)) (h3:n≤9223372036854775807):Ok (some (.inl (s,w64 (i + 1)))) (Lx (fun a:σ × Int=>i < (n:Int)∧a.2 = i + 1∧Inv a.1 (i + 1)) P) :=
  G1 ⟨h2,iK (by omega),hI⟩
theorem aVz {ρ:Type} {step:Int→Option (Int ⊕ ρ)} (n:Nat) (Inv:Int→Prop) {Post:ρ→Prop} (hn:n≤9223372036854775807) (h0:Inv 0)
    (h:∀ i:Int,Inv i→0≤i→i≤n→Ok (step i) (Lx (fun a=>i < n∧a = i + 1∧Inv (i + 1)) Post)):Ok (loop step 0) Post:=by
  refine Q2 (fun i:Int=>Inv i∧0≤i∧i≤(n:Int)) (fun i:Int=>((n:Int) - i).toNat) (fun i hi=>(h i hi.1 hi.2.1 hi.2.2).mono ?_) ⟨h0,by omega,by omega⟩ (by simp [lj]; omega)
  rintro (a | b) hr
  · obtain ⟨h1,rfl,h3⟩ : i < n∧a = i + 1∧Inv (i + 1):=hr
    exact ⟨⟨h3,by omega,by omega⟩,by omega⟩
  · exact hr
theorem Tz {ρ:Type} {i:Int} {n:Nat} {Inv:Int→Prop} {P:ρ→Prop} (hI:Inv (i + 1)) (h1:0≤i) (h2:i < (n:Int)) (h3:n≤9223372036854775807):Ok (some (.inl (w64 (i + 1)))) (Lx (fun a:Int=>i < (n:Int)∧a = i + 1∧Inv (i + 1)) P) :=
  G1 ⟨h2,iK (by omega),hI⟩
theorem aMJ {b n:Nat} (h1:n * b≤140737488355328) (h2:n≤9223372036854775807):awz b n = true:=by
  simp only [awz,dw]
  exact ⟨Nat.ble_eq_true_of_le h1,Nat.ble_eq_true_of_le h2⟩
theorem N8 (c:Int):Ok (o9 c) Yes:=by
  unfold o9 eK lZ
  repeat' (first | (with_reducible first | exact T3 | exact Mj | exact MK | refine Mq (fun _=>?_) fun _=>?_ | refine zX (fun _=>?_) fun _=>?_ | refine SX (fun _=>?_) fun _=>?_ | refine E4 (fun _=>?_) fun _=>?_) | (with_reducible refine MX ?_ ?_ ?_ <;> (first | assumption | omega | rw [iK] <;> omega)) | with_reducible refine pK (K9 (by (first | assumption | omega | rw [iK] <;> omega)) (by (first | assumption | omega | rw [iK] <;> omega))) (fun _ _=>?_) | (with_reducible refine pK (Q:=Yes) ?_ fun _ _=>?_) | dsimp only)
theorem R9 (s:ByteArray) (h:s.size≤9223372036854775807):Ok (lY s) Yes:=by
  unfold lY
  refine pK (Q:=Yes) ?_ (fun v _=>?_)
  · repeat' (first | (with_reducible first | exact T3 | exact Mj | exact MK | refine Mq (fun _=>?_) fun _=>?_ | refine zX (fun _=>?_) fun _=>?_ | refine SX (fun _=>?_) fun _=>?_ | refine E4 (fun _=>?_) fun _=>?_) | (with_reducible refine MX ?_ ?_ ?_ <;> (first | assumption | omega | rw [iK] <;> omega)) | with_reducible refine pK (K9 (by (first | assumption | omega | rw [iK] <;> omega)) (by (first | assumption | omega | rw [iK] <;> omega))) (fun _ _=>?_) | (with_reducible refine pK (Q:=Yes) ?_ fun _ _=>?_) | dsimp only)
  refine E4 (fun _=>aOW trivial) (fun _=>?_)
  have e:s.data.toList.length = s.size:=by rw [Array.length_toList]; rfl
  refine aEQ (Q:=Yes) (aWx s.size h fun i h1 h2=>?_) (fun _ _=>?_) (fun _ _=>?_)
  · unfold oQ
    repeat' (first | (with_reducible first | exact T3 | exact Mj | exact MK | refine Mq (fun _=>?_) fun _=>?_ | refine zX (fun _=>?_) fun _=>?_ | refine SX (fun _=>?_) fun _=>?_ | refine E4 (fun _=>?_) fun _=>?_) | (with_reducible refine MX ?_ ?_ ?_ <;> (first | assumption | omega | rw [iK] <;> omega)) | with_reducible refine pK (K9 (by (first | assumption | omega | rw [iK] <;> omega)) (by (first | assumption | omega | rw [iK] <;> omega))) (fun _ _=>?_) | (with_reducible refine Ok.yes (K9 ?_ (by rw [e]; (first | assumption | omega | rw [iK] <;> omega))) <;> (first | assumption | omega | rw [iK] <;> omega)) | (with_reducible refine Ok.yes (N8 _) <;> (first | assumption | omega | rw [iK] <;> omega)) | (with_reducible refine pK (Q:=Yes) ?_ fun _ _=>?_) | dsimp only)
  · repeat' (first | (with_reducible first | exact T3 | exact Mj | exact MK | refine Mq (fun _=>?_) fun _=>?_ | refine zX (fun _=>?_) fun _=>?_ | refine SX (fun _=>?_) fun _=>?_ | refine E4 (fun _=>?_) fun _=>?_) | (with_reducible refine MX ?_ ?_ ?_ <;> (first | assumption | omega | rw [iK] <;> omega)) | with_reducible refine pK (K9 (by (first | assumption | omega | rw [iK] <;> omega)) (by (first | assumption | omega | rw [iK] <;> omega))) (fun _ _=>?_) | (with_reducible refine pK (Q:=Yes) ?_ fun _ _=>?_) | dsimp only)
  · repeat' (first | (with_reducible first | exact T3 | exact Mj | exact MK | refine Mq (fun _=>?_) fun _=>?_ | refine zX (fun _=>?_) fun _=>?_ | refine SX (fun _=>?_) fun _=>?_ | refine E4 (fun _=>?_) fun _=>?_) | (with_reducible refine MX ?_ ?_ ?_ <;> (first | assumption | omega | rw [iK] <;> omega)) | with_reducible refine pK (K9 (by (first | assumption | omega | rw [iK] <;> omega)) (by (first | assumption | omega | rw [iK] <;> omega))) (fun _ _=>?_) | (with_reducible refine pK (Q:=Yes) ?_ fun _ _=>?_) | dsimp only)
theorem aIV {S ρ:Type} {step:S→Option (S ⊕ ρ)} {Q:ρ→Prop} (h:∀ s r,step s = some (.inr r)→Q r) {s:S} {r:ρ} (hr:loop step s = some r):Q r:=by
  have key:∀ n s,iter step n s = some r→Q r:=by
    intro n
    induction n with
    | zero=>intro s h; simp [iter] at h
    | succ n ih =>
      intro s hs
      rw [DK] at hs
      cases e:step s with
      | none=>rw [e] at hs; simp at hs
      | some x =>
        rw [e] at hs
        cases x with
        | inl s'=>exact ih s' hs
        | inr r'=>simp only [fw] at hs; subst hs; exact h s _ e
  exact key _ s hr
theorem awW (y:UInt8):o9 (y.toNat:Int) = kW (y.toNat:Int):=by
  have h:(List.range 256).all (fun n=>decide (o9 (n:Int) = kW (n:Int))) = true:=by kernel_rfl
  exact of_decide_eq_true (qw.1 h y.toNat (List.mem_range.2 (UInt8.toNat_lt y)))
theorem auZ (s:ByteArray):s = ⟨#[]⟩↔(s.size:Int) < 1:=by
  constructor
  · intro h; subst h; decide
  · intro h
    cases s with
    | mk a =>
      have:a.size = 0:=by
        have:(ByteArray.mk a).size = a.size:=rfl
        omega
      rw [Array.eq_empty_of_size_eq_zero this]
theorem aNx (s:ByteArray):lY s = kX s:=by
  unfold lY kX
  have h1:oQ s = m7 s:=by
    funext i
    simp only [oQ,m7,awW]
  have h2:decide (s = ⟨#[]⟩) = decide ((ByteArray.size s:Int) < 1):=decide_eq_decide.2 (auZ s)
  rw [h1,h2] <;> rfl
theorem aNZ {s:ByteArray} {r:Int} (h:lY s = some r):r = 0∨r = 3:=by
  unfold lY at h
  obtain ⟨v,_,h⟩:=bB h
  cases v with
  | true=>simp at h; exact .inr h.symm
  | false =>
    obtain ⟨q,hq,h⟩:=bB (show (loop (oQ s) 0).bind _ = some r from h)
    have:=aIV (Q:=fun q:Unit ⊕ Int=>∀ x,q = .inr x→x = 3) (fun i r hr=>by
      unfold oQ at hr
      by_cases hi:i < (ByteArray.size s:Int)
      · simp only [hi,decide_true,cond_true] at hr
        obtain ⟨y,_,hr⟩:=bB hr
        obtain ⟨z,_,hr⟩:=bB hr
        cases z
        · simp only [Bool.not_false,cond_true,fw,Sum.inr.injEq] at hr
          subst hr; intro x hx; cases hx; rfl
        · simp at hr
      · simp [hi] at hr; subst hr; intro x hx; cases hx) hq
    cases q with
    | inl _=>simp at h; exact .inl h.symm
    | inr x=>simp at h; subst h; exact .inr (this _ rfl)
theorem H8 {κ ν:Type} [DecidableEq κ] (k k':κ) (v:ν):∀ (m:List (κ × ν)),zW k (MJ k' v m) = if k = k' then some v else zW k m
  | []=>by simp [MJ,zW]
  | p :: r=>by
    simp only [MJ]
    by_cases e:k' = p.1
    · subst e
      simp only [qk,zW]
      by_cases e2:k = p.1 <;> simp [e2]
    · rw [if_neg e]
      simp only [zW]
      rw [H8 k k' v r]
      by_cases e2:k = p.1
      · subst e2
        rw [if_pos rfl,if_pos rfl,if_neg (fun h=>e h.symm)]
      · rw [if_neg e2,if_neg e2]
open Go.Proofs Go.Proofs.Ytliccamocpglcaa
def S8:api_Heap:={ fObjects:=[⟨1,10,⟨#[116]⟩,[2,3]⟩,⟨2,10,⟨#[116]⟩,[4]⟩,⟨3,10,⟨#[116]⟩,[4]⟩,⟨4,10,⟨#[116]⟩,[]⟩],fRoots:=[1] }
theorem aWJ:eW = some S8:=by kernel_rfl
theorem aIJ:KJ S8 = some ([true,true,true,true],0):=by kernel_rfl
theorem aSK:mq S8 = some ([-1,0,0,0],0):=by kernel_rfl
theorem aSJ:Dq S8 = some ([40,10,10,10],0):=by kernel_rfl
theorem aPZ:OQ S8 4 = some ([1,2,4],0):=by kernel_rfl
def ex4:List (Fin (qj S8).length):=[⟨0,by decide⟩,⟨1,by decide⟩,⟨2,by decide⟩,⟨3,by decide⟩]
theorem aMz:LZ S8 2 = some (Go.RM.outT (qj S8) ((Go.RM.topSort (qj S8) [40,10,10,10,40] ex4).take 2),0):=by kernel_rfl
theorem aUx:LZ S8 2 = some ([1,2],0):=by
  rw [aMz]
  have h:Go.RM.topSort (qj S8) [40,10,10,10,40] ex4 = ex4:=by
    unfold Go.RM.topSort
    exact List.mergeSort_of_pairwise (by simp only [Go.RM.cf_lt]; decide +kernel)
  rw [h]
  rfl
theorem Z4:i7 = some true:=by
  unfold i7
  simp only [aWJ,aIJ,aSK,aSJ,aPZ,aUx,gk]
  kernel_rfl
open Go.Proofs Go.Proofs.Ytliccamocpglcaa
theorem J6 {α ρ σ:Type} (g:Nat→α→Option ρ) (f:ρ→σ):∀ (xs:List α) (i:Nat),fW (fun i y=>(g i y).map f) xs i = (fW g xs i).map f
  | [],_=>rfl
  | y :: ys,i=>by
    simp only [fW]
    cases g i y with
    | some r=>rfl
    | none=>exact J6 g f ys (i + 1)
def OZ {ρ:Type}:Option ρ→Unit ⊕ ρ
  | some r=>.inr r
  | none=>.inl ()
theorem vz {α ρ:Type} {step:Int→Option (Int ⊕ (Unit ⊕ ρ))} (xs:List α) (g:Nat→α→Option ρ) (hl:xs.length≤1000000)
    (h1:∀ (i:Nat) y,xs[i]? = some y → step (i:Int) = some (match g i y with | some r => .inr (.inr r) | none => .inl ((i:Int) + 1))) (h2:step (xs.length:Int) = some (.inr (.inl ()))):loop step 0 = some (OZ (fW g xs 0)) := by
  rw [ajj xs (fun i y=>(g i y).map Sum.inr) (.inl ()) (by simp [lj]; omega) (fun i y hy=>by rw [h1 i y hy]; cases g i y <;> rfl) h2,J6]
  cases fW g xs 0 <;> rfl
def T5 (l:List Int) (i:Nat):Int:=l.getD (i - 1) 0
theorem agx {l:List Int} {i:Nat} {y:Int} (hy:l[i]? = some y) (hi:0 < i) (h:l.length≤1000000):idx l (w64 ((i:Int) - 1)) = some (T5 l i):=by
  have:=gz hy
  rw [iK (by omega)]
  have e:(i:Int) - 1 = ((i - 1:Nat):Int):=by omega
  rw [e,l7,T5,ow,ck (by omega)]
  rfl
def QQ (p:Int→Bool) (l:List Int) (i:Nat) (n:Int):Option Int:=if p n = false then some 5 else if 0 < i∧n≤T5 l i then some 11 else none
def VX (p:Int→Bool) (l:List Int):Int:=(fW (QQ p l) l 0).getD 0
def t8 (p0:api_Heap) (n:Int):Bool:=p0.fObjects.any fun o=>decide (o.fId = n)
theorem aDX (l:List Int) (m:List (Int × Int)) (hl:l.length≤1000000):gY l m = some (VX (fun n=>(zW n m).isSome) l):=by
  unfold gY
  rw [vz (step:=hZ l m) l (QQ (fun n=>(zW n m).isSome) l) hl (fun i y hy=>by
    have hil:=gz hy
    have hw:=xq (show i < 9223372036854775807 by omega)
    unfold hZ QQ
    simp only [show ((i:Int) < (l.length:Int)) from by omega,decide_true,cond_true,l7,hy,gk]
    by_cases hm:(zW y m).isSome = true
    case neg=>rw [Bool.not_eq_true] at hm; simp [hm]
    case pos =>
      simp only [hm,Bool.not_true,cond_false,Bool.true_eq_false,pw]
      by_cases h0:0 < i
      · simp only [show (0:Int) < (i:Int) from by omega,decide_true,cond_true,agx hy h0 hl,gk]
        by_cases h1:y≤T5 l i
        · simp [h0,h1]
        · rw [tk h1]
          simp [h0,h1,hw]
      · simp only [show ¬ (0:Int) < (i:Int) from by omega,decide_false,cond_false,gk]
        simp [h0,hw]) (by
    unfold hZ
    simp)]
  unfold VX
  cases fW (QQ (fun n=>(zW n m).isSome) l) l 0 <;> rfl
def GQ (p0:api_Heap) (n:Int):Int × Bool:=match p0.fObjects.findIdx? (fun o=>decide (o.fId = n)) with
  | some k=>((k:Int),true)
  | none=>(0,false)
theorem J7 (n:Int):∀ (ys:List bK) (j:Nat),fW (fun i (o:bK)=>if o.fId = n then some (i:Int) else none) ys j = (ys.findIdx? (fun o=>decide (o.fId = n))).map fun k=>((k + j:Nat):Int)
  | [],j=>rfl
  | y :: ys,j=>by
    simp only [fW,List.findIdx?_cons]
    by_cases h:y.fId = n
    · simp [h]
    · simp only [h,pw,decide_false,J7 n ys (j + 1)]
      cases ys.findIdx? fun o=>decide (o.fId = n) with
      | none=>rfl
      | some k=>simp; omega
theorem axZ (p0:api_Heap) (n:Int) (hl:p0.fObjects.length≤1000000):mV p0 n = some (GQ p0 n):=by
  unfold mV
  rw [vz (step:=kQ p0 n) p0.fObjects (fun i o=>(if o.fId = n then some (i:Int) else none).map fun k=>(k,true)) hl (fun i y hy=>by
    have hil:=gz hy
    unfold kQ
    simp only [show ((i:Int) < (p0.fObjects.length:Int)) from by omega,decide_true,cond_true,l7,hy,gk]
    by_cases h:y.fId = n
    · simp [h]
    · simp [h,xq (show i < 9223372036854775807 by omega)]) (by
    unfold kQ
    simp),J6,J7]
  unfold GQ
  cases p0.fObjects.findIdx? fun o=>decide (o.fId = n) <;> rfl
theorem apJ (p0:api_Heap) (n:Int) (hl:p0.fObjects.length≤1000000):eQ p0 n = some (GQ p0 n):=by
  unfold eQ eZ
  rw [vz (step:=cj p0.fObjects n) p0.fObjects (fun i o=>(if o.fId = n then some (i:Int) else none)) hl (fun i y hy=>by
    have hil:=gz hy
    unfold cj rJ
    simp only [show ((i:Int) < (p0.fObjects.length:Int)) from by omega,decide_true,cond_true,l7,hy,gk]
    by_cases h:y.fId = n
    · simp [h]
    · simp [h,xq (show i < 9223372036854775807 by omega)]) (by
    unfold cj
    simp),J7]
  unfold GQ
  cases p0.fObjects.findIdx? fun o=>decide (o.fId = n) with
  | none=>rfl
  | some k=>simp [OZ]
theorem akJ (p0:api_Heap) (n:Int):(GQ p0 n).2 = t8 p0 n:=by
  unfold GQ t8
  have h:(p0.fObjects.findIdx? fun o=>decide (o.fId = n)).isSome = p0.fObjects.any fun o=>decide (o.fId = n):=List.findIdx?_isSome ..
  rw [← h]
  cases p0.fObjects.findIdx? fun o=>decide (o.fId = n) <;> rfl
theorem aoJ (p0:api_Heap) (l:List Int) (hp:p0.fObjects.length≤1000000) (hl:l.length≤1000000):kZ p0 l = some (VX (t8 p0) l):=by
  unfold kZ
  rw [vz (step:=kz p0 l) l (QQ (t8 p0) l) hl (fun i y hy=>by
    have hil:=gz hy
    have hw:=xq (show i < 9223372036854775807 by omega)
    unfold kz QQ
    simp only [show ((i:Int) < (l.length:Int)) from by omega,decide_true,cond_true,l7,hy,gk,axZ p0 y hp,akJ]
    cases hm:t8 p0 y with
    | false=>rfl
    | true =>
      simp only [Bool.not_true,cond_false]
      by_cases h0:0 < i
      · simp only [show (0:Int) < (i:Int) from by omega,decide_true,cond_true,agx hy h0 hl,gk]
        by_cases h1:y≤T5 l i
        · simp [h0,h1]
        · rw [tk h1]
          simp [h0,h1,hw]
      · simp only [show ¬ (0:Int) < (i:Int) from by omega,decide_false,cond_false,gk]
        simp [h0,hw]) (by
    unfold kz
    simp)]
  unfold VX
  cases fW (QQ (t8 p0) l) l 0 <;> rfl
theorem WX {p:Int→Bool} {l:List Int} (h:VX p l = 0):(∀ n∈l,p n = true)∧∀ i a b,l[i]? = some a→l[i + 1]? = some b→a < b:=by
  have hn:fW (QQ p l) l 0 = none:=by
    unfold VX at h
    cases hf:fW (QQ p l) l 0 with
    | none=>rfl
    | some r =>
      rw [hf] at h
      obtain ⟨j,y,_,hg,_⟩:=wj hf
      unfold QQ at hg
      simp only [Option.getD_some] at h
      subst h
      split at hg
      · cases hg
      · split at hg <;> cases hg
  rw [y9] at hn
  refine ⟨fun n hm=>?_,fun i a b ha hb=>?_⟩
  · obtain ⟨j,hj⟩:=List.getElem?_of_mem hm
    have:=hn j n hj
    unfold QQ at this
    split at this
    · cases this
    · rename_i h; cases hp:p n with
      | true=>rfl
      | false=>exact absurd hp h
  · have:=hn (i + 1) b hb
    unfold QQ at this
    split at this
    · cases this
    · split at this
      · cases this
      · rename_i h
        have hp:T5 l (0 + (i + 1)) = a:=by
          unfold T5
          rw [ow,show 0 + (i + 1) - 1 = i from by omega,ha]; rfl
        rw [hp] at h
        omega
open Go.Proofs Go.Proofs.Ytliccamocpglcaa
structure pQ (p0:api_Heap):Prop where
  n:p0.fObjects.length≤16
  r:p0.fRoots.length≤16
  refs:∀ o∈p0.fObjects,o.fRefs.length≤40
theorem aSX (p0:api_Heap):∃ b,nV p0 = some b∧(b = true↔pQ p0):=by
  unfold nV qY
  by_cases h1:(16:Int) < (p0.fObjects.length:Int)
  · exact ⟨false,by simp [h1],by simp; intro h; have:=h.n; omega⟩
  by_cases h2:(16:Int) < (p0.fRoots.length:Int)
  · exact ⟨false,by simp [h1,h2],by simp; intro h; have:=h.r; omega⟩
  have hl:p0.fObjects.length≤1000000:=by omega
  rw [vz (step:=k8 p0) p0.fObjects (fun _ o=>if 40 < o.fRefs.length then some false else none) hl (fun i y hy=>by
    have hil:=gz hy
    have hw:=xq (show i < 9223372036854775807 by omega)
    unfold k8
    simp only [show ((i:Int) < (p0.fObjects.length:Int)) from by omega,decide_true,cond_true,l7,hy,gk]
    by_cases h:40 < y.fRefs.length
    · have h':(40:Int) < (y.fRefs.length:Int):=by omega
      simp [h,h']
    · have h' : ¬ (40:Int) < (y.fRefs.length:Int):=by omega
      simp [h,h',hw]) (by unfold k8; simp)]
  cases hf:fW (fun _ (o:bK)=>if 40 < o.fRefs.length then some false else none) p0.fObjects 0 with
  | none =>
    refine ⟨true,by simp [h1,h2,OZ],⟨fun _=>⟨by omega,by omega,fun o ho=>?_⟩,fun _=>rfl⟩⟩
    rw [y9] at hf
    obtain ⟨j,hj⟩:=List.getElem?_of_mem ho
    have:=hf j o hj
    split at this
    · cases this
    · omega
  | some r =>
    obtain ⟨j,y,hy,hg,_⟩:=wj hf
    split at hg
    · rename_i h
      cases hg
      refine ⟨false,by simp [h1,h2,OZ],by simp; intro hF; have:=hF.refs y (jk hy); omega⟩
    · cases hg
def R1 (l:List bK) (i:Nat):Int:=(l[i - 1]?.map fun o=>o.fId).getD 0
def T2 (s:ByteArray):Int:=(lY s).getD 0
theorem afJ {s:ByteArray} (h:s.size≤9223372036854775807):lY s = some (T2 s)∧kX s = some (T2 s)∧(T2 s = 0∨T2 s = 3):=by
  obtain ⟨r,hr,_⟩:=R9 s h
  have:T2 s = r:=by unfold T2; rw [hr]; rfl
  rw [this,← aNx]
  exact ⟨hr,hr,aNZ hr⟩
def avj (o:bK):Bool:=decide (o.fId < 0) || decide (1000000000000000 < o.fId) || decide (o.fSize < 0) || decide (1000000000000 < o.fSize)
def L5 (l:List bK) (i:Nat) (o:bK):Option Int:=if avj o = true then some 2 else if T2 o.fType = 0 then (if 0 < i∧o.fId≤R1 l i then some 11 else none) else some 3
theorem X8 {l:List bK} {i:Nat} {y:bK} (hy:l[i]? = some y) (hi:0 < i) (h:l.length≤1000000):∃ z,idx l (w64 ((i:Int) - 1)) = some z∧z.fId = R1 l i:=by
  have:=gz hy
  rw [iK (by omega)]
  have e:(i:Int) - 1 = ((i - 1:Nat):Int):=by omega
  rw [e,l7,R1,ck (show i - 1 < l.length by omega)]
  exact ⟨_,rfl,rfl⟩
theorem arW (o:bK):((bif decide (o.fId < 0) then some true else bif decide (1000000000000000 < o.fId) then some true else bif decide (o.fSize < 0) then some true else some (decide (1000000000000 < o.fSize))):Option Bool) = some (avj o):=by
  unfold avj
  cases decide (o.fId < 0) <;> cases decide (1000000000000000 < o.fId) <;> cases decide (o.fSize < 0) <;> rfl
theorem auJ (p0:api_Heap) (hn:p0.fObjects.length≤1000000) (hs:∀ o∈p0.fObjects,o.fType.size≤9223372036854775807):loop (i8 p0) 0 = some (OZ (fW (L5 p0.fObjects) p0.fObjects 0)):=by
  refine vz p0.fObjects (L5 p0.fObjects) hn (fun i y hy=>?_) (by unfold i8; simp)
  have hil:=gz hy
  have hw:=xq (show i < 9223372036854775807 by omega)
  obtain ⟨_,h2,h3⟩:=afJ (hs y (jk hy))
  unfold i8 L5
  simp only [show ((i:Int) < (p0.fObjects.length:Int)) from by omega,decide_true,cond_true,l7,hy,gk,arW,h2]
  cases avj y with
  | true=>rfl
  | false =>
    simp only [cond_false,uw,pw]
    rcases h3 with h3 | h3
    · simp only [h3,decide_true,Bool.not_true,cond_false,qk]
      by_cases h0:0 < i
      · obtain ⟨z,hz,hz2⟩:=X8 hy h0 hn
        simp only [show (0:Int) < (i:Int) from by omega,decide_true,cond_true,hz,gk,hz2]
        by_cases h1:y.fId≤R1 p0.fObjects i
        · simp [h0,h1]
        · rw [tk h1]
          simp [h0,h1,hw]
      · simp only [show ¬ (0:Int) < (i:Int) from by omega,decide_false,cond_false,gk]
        simp [h0,hw]
    · simp [h3]
theorem P0 {g:Nat → bK → Option Int}:∀ (ys:List bK) (j:Nat) (m:List (Int × Int)),∃ m',aaZ (fun i o m => match g i o with | some r => Sum.inr (Sum.inr r) | none => Sum.inl (MJ o.fId (i:Int) m)) (fun m => Sum.inl m) ys j m = (match fW g ys j with | some r => Sum.inr r | none => Sum.inl m') ∧ ∀ k,(zW k m').isSome = ((zW k m).isSome || ys.any fun o => decide (o.fId = k))
  | [],j,m=>⟨m,rfl,fun k=>by simp⟩
  | y :: ys,j,m=>by
    simp only [aaZ,fW]
    cases hg:g j y with
    | some r=>exact ⟨MJ y.fId 0 (ys.foldr (fun o q=>MJ o.fId 0 q) m),by simp,fun k=>by
        rw [H8,List.any_cons]
        by_cases e:k = y.fId
        · simp [e]
        · rw [if_neg e]
          have:∀ zs:List bK,(zW k (zs.foldr (fun o q=>MJ o.fId 0 q) m)).isSome = ((zW k m).isSome || zs.any fun o=>decide (o.fId = k)):=by
            intro zs
            induction zs with
            | nil=>simp
            | cons z zs ih =>
              rw [List.foldr_cons,H8,List.any_cons]
              by_cases e:k = z.fId
              · simp [e]
              · rw [if_neg e,ih]; simp [Ne.symm e]
          rw [this]; simp [Ne.symm e]⟩
    | none =>
      obtain ⟨m',h1,h2⟩:=P0 (g:=g) ys (j + 1) (MJ y.fId (j:Int) m)
      refine ⟨m',h1,fun k=>?_⟩
      rw [h2,H8,List.any_cons]
      by_cases e:k = y.fId
      · simp [e]
      · rw [if_neg e]; simp [Ne.symm e]
theorem aQZ (p0:api_Heap) (hn:p0.fObjects.length ≤ 1000000) (hs:∀ o ∈ p0.fObjects,o.fType.size ≤ 9223372036854775807):∃ m,loop (l9 p0) ([],0) = some (match fW (L5 p0.fObjects) p0.fObjects 0 with | some r => .inr r | none => .inl m) ∧ ∀ k,(zW k m).isSome = t8 p0 k := by
  have h := YV (step := l9 p0) (ρ := List (Int × Int) ⊕ Int) p0.fObjects (fun i (m:List (Int × Int)) => (m,(i:Int))) (fun i o m => match L5 p0.fObjects i o with | some r => Sum.inr (Sum.inr r) | none => Sum.inl (MJ o.fId (i:Int) m)) (fun m => Sum.inl m) (by simp [lj]; omega) (fun i y m hy => by
    have hil:=gz hy
    have hw:=xq (show i < 9223372036854775807 by omega)
    obtain ⟨h1,_,h3⟩:=afJ (hs y (jk hy))
    unfold l9 L5
    simp only [show ((i:Int) < (p0.fObjects.length:Int)) from by omega,decide_true,cond_true,l7,hy,gk,arW,h1]
    cases avj y with
    | true=>rfl
    | false =>
      simp only [cond_false,uw,pw]
      rcases h3 with h3 | h3
      · simp only [h3,decide_true,Bool.not_true,cond_false,qk]
        by_cases h0:0 < i
        · obtain ⟨z,hz,hz2⟩:=X8 hy h0 hn
          simp only [show (0:Int) < (i:Int) from by omega,decide_true,cond_true,hz,gk,hz2]
          by_cases h1:y.fId≤R1 p0.fObjects i
          · simp [h0,h1]
          · rw [tk h1]
            simp [h0,h1,hw]
        · simp only [show ¬ (0:Int) < (i:Int) from by omega,decide_false,cond_false,gk]
          simp [h0,hw]
      · simp [h3]) (fun m=>by unfold l9; simp) []
  obtain ⟨m',h1,h2⟩:=P0 (g:=L5 p0.fObjects) p0.fObjects 0 []
  refine ⟨m',by rw [← h1]; exact h,fun k=>?_⟩
  rw [h2]
  simp [t8,zW]
open Go.Proofs Go.Proofs.Ytliccamocpglcaa
def aVX (l:List Int):Prop:=∀ i a b,l[i]? = some a→l[i + 1]? = some b→a < b
structure oX (p0:api_Heap):Prop where
  inc:∀ i a b,p0.fObjects[i]? = some a→p0.fObjects[i + 1]? = some b→a.fId < b.fId
  size:∀ o∈p0.fObjects,0≤o.fSize∧o.fSize≤1000000000000
  refs:∀ o∈p0.fObjects,(∀ n∈o.fRefs,t8 p0 n = true)∧aVX o.fRefs
  roots:(∀ n∈p0.fRoots,t8 p0 n = true)∧aVX p0.fRoots
def F9 (p0:api_Heap) (_:Nat) (o:bK):Option Int:=if VX (t8 p0) o.fRefs = 0 then none else some (VX (t8 p0) o.fRefs)
section
variable {p0:api_Heap}
theorem aDq (hF:pQ p0):∃ e,loop (oK p0) (0,0) = some e∧loop (pW p0) (0,0) = some e∧e≤20000:=by
  have hn:=hF.n
  have key:Ok (loop (oK p0) (0,0)) (fun e=>e≤20000):=by
    refine N7 p0.fObjects.length (fun s i=>0≤s∧s≤40 * i) (by omega) ⟨by omega,by omega⟩ fun s i hI h0 h1=>?_
    unfold oK
    refine zX (fun h=>?_) (fun h=>?_)
    · refine pK (K9 h0 h) fun y hy=>?_
      have hr:=hF.refs y (jk hy)
      rw [iK (n:=s + (y.fRefs.length:Int)) (by omega)]
      exact acj (Inv:=fun s i=>0≤s∧s≤40 * i) ⟨by omega,by omega⟩ h0 h (by omega)
    · exact DQ (by omega)
  obtain ⟨e,h1,h2⟩:=key
  exact ⟨e,h1,h1,h2⟩
theorem aHW (hF:pQ p0) {m:List (Int × Int)} (hm:∀ k,(zW k m).isSome = t8 p0 k):loop (oW p0 m) 0 = some (OZ (fW (F9 p0) p0.fObjects 0)):=by
  have hn:=hF.n
  have hmf:(fun n=>(zW n m).isSome) = t8 p0:=funext hm
  refine vz p0.fObjects (F9 p0) (by omega) (fun i y hy=>?_) (by unfold oW; simp)
  have hil:=gz hy
  have hw:=xq (show i < 9223372036854775807 by omega)
  have hr:=hF.refs y (jk hy)
  unfold oW F9
  simp only [show ((i:Int) < (p0.fObjects.length:Int)) from by omega,decide_true,cond_true,l7,hy,gk,aDX y.fRefs m (by omega),hmf]
  by_cases h:VX (t8 p0) y.fRefs = 0
  · simp [h,hw]
  · simp [h]
theorem aCX (hF:pQ p0):loop (jq p0) 0 = some (OZ (fW (F9 p0) p0.fObjects 0)):=by
  have hn:=hF.n
  refine vz p0.fObjects (F9 p0) (by omega) (fun i y hy=>?_) (by unfold jq; simp)
  have hil:=gz hy
  have hw:=xq (show i < 9223372036854775807 by omega)
  have hr:=hF.refs y (jk hy)
  unfold jq F9
  simp only [show ((i:Int) < (p0.fObjects.length:Int)) from by omega,decide_true,cond_true,l7,hy,gk,aoJ p0 y.fRefs (by omega) (by omega)]
  by_cases h:VX (t8 p0) y.fRefs = 0
  · simp [h,hw]
  · simp [h]
def F3 (p0:api_Heap):Int:=match fW (L5 p0.fObjects) p0.fObjects 0 with
  | some r=>r
  | none=>match fW (F9 p0) p0.fObjects 0 with
    | some r=>r
    | none=>VX (t8 p0) p0.fRoots
theorem ajV (hF:pQ p0) (hs:∀ o∈p0.fObjects,o.fType.size≤9223372036854775807):iX p0 = some (F3 p0):=by
  have hn:=hF.n
  have hr:=hF.r
  obtain ⟨e,h1,_,h2⟩:=aDq hF
  obtain ⟨m,h3,hm⟩:=aQZ p0 (by omega) hs
  have hmf:(fun n=>(zW n m).isSome) = t8 p0:=funext hm
  unfold iX F3
  rw [h1,h3]
  simp only [gk,show ¬ (5000:Int) < (p0.fObjects.length:Int) from by omega,show ¬ (20000:Int) < e from by omega,show ¬ (5000:Int) < (p0.fRoots.length:Int) from by omega,decide_false,cond_false]
  cases fW (L5 p0.fObjects) p0.fObjects 0 with
  | some r=>rfl
  | none =>
    simp only [aHW hF hm,gk]
    cases fW (F9 p0) p0.fObjects 0 with
    | some r=>rfl
    | none=>simp only [OZ,aDX p0.fRoots m (by omega),hmf,gk]
theorem Yx (hF:pQ p0) (hs:∀ o∈p0.fObjects,o.fType.size≤9223372036854775807):lK p0 = some (F3 p0):=by
  have hn:=hF.n
  have hr:=hF.r
  obtain ⟨e,_,h1,h2⟩:=aDq hF
  have h3:=auJ p0 (by omega) hs
  unfold lK F3
  rw [h1,h3]
  simp only [gk,show ¬ (5000:Int) < (p0.fObjects.length:Int) from by omega,show ¬ (20000:Int) < e from by omega,show ¬ (5000:Int) < (p0.fRoots.length:Int) from by omega,decide_false,cond_false]
  cases fW (L5 p0.fObjects) p0.fObjects 0 with
  | some r=>rfl
  | none =>
    simp only [OZ,aCX hF,gk]
    cases fW (F9 p0) p0.fObjects 0 with
    | some r=>rfl
    | none=>simp only [OZ,aoJ p0 p0.fRoots (by omega) (by omega),gk]
theorem aFQ (h:F3 p0 = 0):oX p0:=by
  unfold F3 at h
  cases h1:fW (L5 p0.fObjects) p0.fObjects 0 with
  | some r =>
    rw [h1] at h
    obtain ⟨j,y,_,hg,_⟩:=wj h1
    unfold L5 at hg
    simp only at h
    subst h
    split at hg
    · cases hg
    · split at hg
      · split at hg <;> cases hg
      · cases hg
  | none =>
    rw [h1] at h
    simp only at h
    cases h2:fW (F9 p0) p0.fObjects 0 with
    | some r =>
      rw [h2] at h
      obtain ⟨j,y,_,hg,_⟩:=wj h2
      unfold F9 at hg
      simp only at h
      subst h
      split at hg
      · cases hg
      · rename_i hne; exact absurd (Option.some.inj hg) hne
    | none =>
      rw [h2] at h
      simp only at h
      rw [y9] at h1 h2
      refine ⟨fun i a b ha hb=>?_,fun o ho=>?_,fun o ho=>?_,WX h⟩
      · have:=h1 (i + 1) b hb
        unfold L5 at this
        split at this
        · cases this
        · split at this
          · split at this
            · cases this
            · rename_i hh
              have hp:R1 p0.fObjects (0 + (i + 1)) = a.fId:=by
                unfold R1
                rw [show 0 + (i + 1) - 1 = i from by omega,ha]; rfl
              rw [hp] at hh
              omega
          · cases this
      · obtain ⟨j,hj⟩:=List.getElem?_of_mem ho
        have:=h1 j o hj
        unfold L5 at this
        split at this
        · cases this
        · rename_i hb
          unfold avj at hb
          simp only [Aw,jw,not_or] at hb
          omega
      · obtain ⟨j,hj⟩:=List.getElem?_of_mem ho
        have:=h2 j o hj
        unfold F9 at this
        split at this
        · rename_i h0; exact WX h0
        · cases this
theorem aGQ (hV:oX p0):∀ (d i:Nat) (a b:bK),p0.fObjects[i]? = some a→p0.fObjects[i + d + 1]? = some b→a.fId < b.fId
  | 0,i,a,b,ha,hb=>hV.inc i a b ha hb
  | d + 1,i,a,b,ha,hb=>by
    have hl:=gz hb
    have hc:p0.fObjects[i + d + 1]? = some p0.fObjects[i + d + 1]:=ck (by omega)
    have h1:=aGQ hV d i a _ ha hc
    have h2:=hV.inc (i + d + 1) _ b hc (by rw [show i + d + 1 + 1 = i + (d + 1) + 1 from by omega]; exact hb)
    omega
theorem aTV (hV:oX p0) {i j:Nat} {a b:bK} (ha:p0.fObjects[i]? = some a) (hb:p0.fObjects[j]? = some b) (h:a.fId = b.fId):i = j:=by
  rcases Nat.lt_trichotomy i j with h1 | h1 | h1
  · have:=aGQ hV (j - i - 1) i a b ha (by rw [show i + (j - i - 1) + 1 = j from by omega]; exact hb); omega
  · exact h1
  · have:=aGQ hV (i - j - 1) j b a hb (by rw [show j + (i - j - 1) + 1 = i from by omega]; exact ha); omega
theorem apj (hV:oX p0) {k:Nat} {o:bK} (ho:p0.fObjects[k]? = some o):GQ p0 o.fId = ((k:Int),true):=by
  unfold GQ
  have h:p0.fObjects.findIdx? (fun x=>decide (x.fId = o.fId)) = some k:=by
    have hk:=gz ho
    rw [List.findIdx?_eq_some_iff_getElem]
    refine ⟨hk,by have:=(cw.1 ho).2; simp [this],fun j hj=>?_⟩
    have hjk:p0.fObjects[j]? = some p0.fObjects[j]:=ck (by omega)
    simp only [jw]
    intro e
    have:=aTV hV hjk ho e
    omega
  rw [h]
theorem atY {n:Int} (h:t8 p0 n = true):∃ (k:Nat) (o:bK),p0.fObjects[k]? = some o∧o.fId = n:=by
  unfold t8 at h
  rw [List.any_eq_true] at h
  obtain ⟨o,ho,h⟩:=h
  obtain ⟨k,hk⟩:=List.getElem?_of_mem ho
  exact ⟨k,o,hk,of_decide_eq_true h⟩
end
open Go.Proofs Go.Proofs.Ytliccamocpglcaa
inductive Pw (E:Nat→Nat→Prop) (r:Nat) (w:Int):Nat→Nat→Prop
  | zero:Pw E r w 0 r
  | succ {m x y:Nat}:Pw E r w m x→E x y→(y:Int) ≠ w→Pw E r w (m + 1) y
def V1 (p0:api_Heap) (i:Nat):List Int:=if i = p0.fObjects.length then p0.fRoots else match p0.fObjects[i]? with
  | some o=>o.fRefs
  | none=>[]
def Edge (p0:api_Heap) (i k:Nat):Prop:=∃ o,p0.fObjects[k]? = some o∧o.fId∈V1 p0 i
abbrev Pth (p0:api_Heap) (w:Int) (m k:Nat):Prop:=Pw (Edge p0) p0.fObjects.length w m k
theorem Edge.lt {p0:api_Heap} {i k:Nat} (h:Edge p0 i k):k < p0.fObjects.length:=by
  obtain ⟨o,h1,_⟩:=h; exact gz h1
theorem Pw.pos_lt {p0:api_Heap} {w:Int} {m k:Nat} (h:Pth p0 w (m + 1) k):k < p0.fObjects.length:=by
  cases h with | succ _ h _ => exact h.lt
def M3 (p0:api_Heap) (w:Int) (m k:Nat):Prop:=Pth p0 w m k∧∀ m',m' < m→¬ Pth p0 w m' k
theorem H7 {l:List Nat} {n:Nat} (hd:l.Nodup) (h:∀ x∈l,x < n):l.length≤n:=by
  induction n generalizing l with
  | zero =>
    cases l with
    | nil=>exact iw _
    | cons a l=>exact absurd (h a (List.mem_cons_self ..)) (by omega)
  | succ n ih =>
    have h1:(l.erase n).length≤n:=ih (hd.erase n) (fun x hx=>by
      have h2:=(List.Nodup.mem_erase_iff hd).1 hx
      have:=h x h2.2
      have:=h2.1
      omega)
    have h3:(l.erase n).length ≥ l.length - 1:=by
      rw [List.length_erase]; split <;> omega
    omega
theorem P4 {p0:api_Heap} {w:Int}:∀ (m k:Nat),M3 p0 w m k→∃ xs:List Nat,xs.length = m∧∀ i x,xs[i]? = some x→M3 p0 w (i + 1) x
  | 0,k,_=>⟨[],rfl,fun i x h=>by simp at h⟩
  | m + 1,k,h=>by
    cases h.1 with
    | succ h1 h2 h3 =>
      rename_i x
      have hx:M3 p0 w m x:=⟨h1,fun m' hm' hp=>h.2 (m' + 1) (by omega) (.succ hp h2 h3)⟩
      obtain ⟨xs,hl,hxs⟩:=P4 m x hx
      refine ⟨xs++[k],by rw [uk,hl]; rfl,fun i y hy=>?_⟩
      by_cases hi:i < xs.length
      · rw [List.getElem?_append_left hi] at hy; exact hxs i y hy
      · have:i = m:=by
          have:=gz hy
          rw [uk] at this
          simp only [List.length_singleton] at this
          omega
        subst this
        rw [List.getElem?_append_right (by omega),hl,Nat.sub_self] at hy
        cases hy
        exact h
theorem akX {p0:api_Heap} {w:Int} {a b k:Nat} (h:M3 p0 w a k) (h':M3 p0 w b k):a = b:=by
  rcases Nat.lt_trichotomy a b with h1 | h1 | h1
  · exact absurd h.1 (h'.2 a h1)
  · exact h1
  · exact absurd h'.1 (h.2 b h1)
theorem acQ {p0:api_Heap} {w:Int} {m k:Nat} (h:M3 p0 w m k):m≤p0.fObjects.length:=by
  obtain ⟨xs,hl,hxs⟩:=P4 m k h
  rw [← hl]
  refine H7 ?_ (fun x hx=>?_)
  · rw [List.nodup_iff_pairwise_ne,List.pairwise_iff_getElem]
    intro i j hi hj hij e
    have h1:=hxs i _ (ck hi)
    have h2:=hxs j _ (ck hj)
    rw [e] at h1
    have:=akX h1 h2
    omega
  · obtain ⟨i,hi⟩:=List.getElem?_of_mem hx
    exact (hxs i x hi).1.pos_lt
theorem Mz {p0:api_Heap} {w:Int}:∀ (m k:Nat),Pth p0 w m k→∃ m',m'≤m∧M3 p0 w m' k:=by
  intro m
  induction m using Nat.strongRecOn with
  | ind m ih =>
    intro k h
    by_cases hh:∃ m',m' < m∧Pth p0 w m' k
    · obtain ⟨m',h1,h2⟩:=hh
      obtain ⟨m'',h3,h4⟩:=ih m' h1 k h2
      exact ⟨m'',by omega,h4⟩
    · exact ⟨m,iw _,h,fun m' h1 h2=>hh ⟨m',h1,h2⟩⟩
theorem aBx (l:List Int) (n:Int) (hl:l.length≤1000000):lX l n = some (decide (n∈l)):=by
  unfold lX
  rw [vz (step:=lq l n) l (fun _ y=>if y = n then some true else none) hl (fun i y hy=>by
    have hil:=gz hy
    have hw:=xq (show i < 9223372036854775807 by omega)
    unfold lq
    simp only [show ((i:Int) < (l.length:Int)) from by omega,decide_true,cond_true,l7,hy,gk]
    by_cases h:y = n
    · simp [h]
    · simp [h,hw]) (by unfold lq; simp)]
  cases hf:fW (fun _ y=>if y = n then some true else none) l 0 with
  | none =>
    rw [y9] at hf
    have:n ∉ l:=fun hm=>by
      obtain ⟨j,hj⟩:=List.getElem?_of_mem hm
      have:=hf j n hj
      simp at this
    simp [OZ,this]
  | some r =>
    obtain ⟨j,y,hy,hg,_⟩:=wj hf
    split at hg
    · rename_i h
      cases hg
      subst h
      simp [OZ,jk hy]
    · cases hg
def Lev (p0:api_Heap) (w:Int) (j:Nat) (s:List Int):Prop:=s.length = p0.fObjects.length∧∀ k,k < p0.fObjects.length→(s.getD k 0 = 0∧∀ m,m≤j→¬ Pth p0 w m k)∨∃ m:Nat,0 < m∧m≤j∧s.getD k 0 = (m:Int)∧M3 p0 w m k
section
variable {p0:api_Heap}
theorem C0 {l:List Int} {i:Nat} {v:Int} (h:i < l.length) (q:Nat):(l.set i v).getD q 0 = if q = i then v else l.getD q 0:=by
  rw [ow,ow,Ak]
  by_cases e:i = q
  · subst e; rw [if_pos rfl,if_pos h,if_pos rfl]; rfl
  · rw [if_neg e,if_neg (Ne.symm e)]
theorem aSz {l:List Int} {q:Nat} {y:Int} (h:l[q]? = some y):l.getD q 0 = y:=by rw [ow,h]; rfl
def C1 (p0:api_Heap) (w:Int) (out:List Int) (j i q:Nat):Prop:=out.getD i 0 = (j:Int)∧(q:Int) ≠ w∧out.getD q 0 = 0∧Edge p0 i q
theorem aPJ (hF:pQ p0) (w:Int) {out:List Int} (ho:out.length = p0.fObjects.length) {i j:Nat} (hi:i < p0.fObjects.length) (hj:1≤j∧j≤1000) :
    Ok (loop (jY p0 w (j:Int) (i:Int)) (out,0)) fun s=>s.length = p0.fObjects.length∧∀ q,q < p0.fObjects.length→(C1 p0 w out j i q∧s.getD q 0 = (j:Int) + 1)∨(¬ C1 p0 w out j i q∧s.getD q 0 = out.getD q 0):=by
  have hn:=hF.n
  refine N7 p0.fObjects.length (fun s k=>s.length = p0.fObjects.length∧∀ q,q < p0.fObjects.length→(((q:Int) < k∧C1 p0 w out j i q)∧s.getD q 0 = (j:Int) + 1)∨(¬ ((q:Int) < k∧C1 p0 w out j i q)∧s.getD q 0 = out.getD q 0)) (by omega) ⟨ho,fun q hq=>.inr ⟨fun h=>by omega,rfl⟩⟩ fun s k hI h0 h1=>?_
  obtain ⟨hl,hI⟩:=hI
  have hsi:s.getD i 0 = out.getD i 0:=by
    rcases hI i hi with ⟨⟨_,hc⟩,_⟩ | ⟨_,h⟩
    · have:=hc.1; have:=hc.2.2.1; omega
    · exact h
  obtain ⟨yi,hyi⟩ : ∃ y,s[i]? = some y:=⟨_,ck (by omega)⟩
  have hyi2:=aSz hyi
  unfold jY
  simp only [l7,hyi,gk]
  by_cases hk:k < (s.length:Int)
  · simp only [hk,decide_true,cond_true,gk]
    by_cases hyj:yi = (j:Int)
    · simp only [hyj,decide_true,cond_true]
      obtain ⟨kn,rfl⟩:=Int.eq_ofNat_of_zero_le h0
      have hkn:kn < p0.fObjects.length:=by omega
      obtain ⟨yk,hyk⟩ : ∃ y,s[kn]? = some y:=⟨_,ck (by omega)⟩
      have hyk2:=aSz hyk
      obtain ⟨oi,hoi⟩ : ∃ o,p0.fObjects[i]? = some o:=⟨_,ck hi⟩
      obtain ⟨ok,hok⟩ : ∃ o,p0.fObjects[kn]? = some o:=⟨_,ck hkn⟩
      have hre:=hF.refs oi (jk hoi)
      have hE:Edge p0 i kn↔ok.fId∈oi.fRefs:=by
        unfold Edge V1
        rw [if_neg (by omega),hoi]
        constructor
        · rintro ⟨o,h1,h2⟩; rw [hok] at h1; cases h1; exact h2
        · intro h; exact ⟨ok,hok,h⟩
      have hsk:s.getD kn 0 = out.getD kn 0:=by
        rcases hI kn hkn with ⟨⟨h,_⟩,_⟩ | ⟨_,h⟩
        · omega
        · exact h
      have hnext:∀ s':List Int,s'.length = p0.fObjects.length→(∀ q,q ≠ kn→s'.getD q 0 = s.getD q 0)→((C1 p0 w out j i kn∧s'.getD kn 0 = (j:Int) + 1)∨(¬ C1 p0 w out j i kn∧s'.getD kn 0 = out.getD kn 0)) →
          Ok (some (Sum.inl (s',w64 ((kn:Int) + 1)))) (Lx (fun a:List Int × Int=>(kn:Int) < (p0.fObjects.length:Int)∧a.2 = (kn:Int) + 1∧(a.1.length = p0.fObjects.length∧∀ q,q < p0.fObjects.length→(((q:Int) < (kn:Int) + 1∧C1 p0 w out j i q)∧a.1.getD q 0 = (j:Int) + 1)∨(¬ ((q:Int) < (kn:Int) + 1∧C1 p0 w out j i q)∧a.1.getD q 0 = out.getD q 0))) fun s:List Int=>s.length = p0.fObjects.length∧∀ q,q < p0.fObjects.length→(C1 p0 w out j i q∧s.getD q 0 = (j:Int) + 1)∨(¬ C1 p0 w out j i q∧s.getD q 0 = out.getD q 0)):=by
        intro s' hl' hkeep hat
        refine G1 ⟨by omega,iK (by omega),hl',fun q hq=>?_⟩
        by_cases e:q = kn
        · subst e
          rcases hat with ⟨h1,h2⟩ | ⟨h1,h2⟩
          · exact .inl ⟨⟨by omega,h1⟩,h2⟩
          · exact .inr ⟨fun h=>h1 h.2,h2⟩
        · rcases hI q hq with ⟨⟨h1,h2⟩,h3⟩ | ⟨h1,h2⟩
          · exact .inl ⟨⟨by omega,h2⟩,by rw [hkeep q e]; exact h3⟩
          · exact .inr ⟨fun h=>h1 ⟨by omega,h.2⟩,by rw [hkeep q e]; exact h2⟩
      have hsame : ¬ C1 p0 w out j i kn→Ok (some (Sum.inl (s,w64 ((kn:Int) + 1)))) _:=fun hc=>hnext s hl (fun _ _=>rfl) (.inr ⟨hc,hsk⟩)
      simp only [l7,hyk,hoi,hok,gk,aBx oi.fRefs ok.fId (by omega)]
      by_cases c1:(kn:Int) = w
      · have hd:decide ((kn:Int) = w) = true:=decide_eq_true c1
        simp only [hd,Bool.not_true,cond_false,gk]
        exact hsame fun h=>h.2.1 c1
      · simp only [c1,decide_false,Bool.not_false,cond_true,gk]
        by_cases c2:yk = 0
        · simp only [c2,decide_true,cond_true,gk]
          by_cases c3:ok.fId∈oi.fRefs
          · simp only [c3,decide_true,cond_true,gk]
            rw [iK (n:=(j:Int) + 1) (by omega)]
            refine hnext _ (by rw [vw]; exact hl) (fun q hq=>?_) (.inl ⟨⟨by omega,c1,by omega,hE.2 c3⟩,?_⟩)
            · rw [show Int.toNat (kn:Int) = kn from rfl,C0 (by omega),if_neg hq]
            · rw [show Int.toNat (kn:Int) = kn from rfl,C0 (by omega),if_pos rfl]
          · simp only [c3,decide_false,cond_false,gk]
            exact hsame fun h=>c3 (hE.1 h.2.2.2)
        · simp only [c2,decide_false,cond_false,gk]
          exact hsame fun h=>by have:=h.2.2.1; omega
    · simp only [hyj,decide_false,cond_false]
      refine DQ ⟨hl,fun q hq=>.inr ⟨fun h=>by have:=h.1; omega,?_⟩⟩
      rcases hI q hq with ⟨⟨_,h2⟩,_⟩ | ⟨_,h2⟩
      · have:=h2.1; omega
      · exact h2
  · simp only [hk,decide_false,cond_false,gk]
    refine DQ ⟨hl,fun q hq=>?_⟩
    rcases hI q hq with ⟨⟨_,h2⟩,h3⟩ | ⟨h2,h3⟩
    · exact .inl ⟨h2,h3⟩
    · exact .inr ⟨fun h=>h2 ⟨by omega,h⟩,h3⟩
def C2 (p0:api_Heap) (w:Int) (out:List Int) (j i q:Nat):Prop:=∃ i',i' < i∧C1 p0 w out j i' q
theorem aMZ (hF:pQ p0) (w:Int) {out:List Int} (ho:out.length = p0.fObjects.length) {j:Nat} (hj:1≤j∧j≤1000) :
    Ok (loop (jZ p0 w (j:Int)) (out,0)) fun s:List Int=>s.length = p0.fObjects.length∧∀ q,q < p0.fObjects.length→(C2 p0 w out j p0.fObjects.length q∧s.getD q 0 = (j:Int) + 1)∨(¬ C2 p0 w out j p0.fObjects.length q∧s.getD q 0 = out.getD q 0):=by
  have hn:=hF.n
  refine N7 p0.fObjects.length (fun s k=>s.length = p0.fObjects.length∧∀ q,q < p0.fObjects.length→(C2 p0 w out j k.toNat q∧s.getD q 0 = (j:Int) + 1)∨(¬ C2 p0 w out j k.toNat q∧s.getD q 0 = out.getD q 0)) (by omega) ⟨ho,fun q hq=>.inr ⟨fun ⟨i',h,_⟩=>by simp at h,rfl⟩⟩ fun s k hI h0 h1=>?_
  obtain ⟨hl,hI⟩:=hI
  unfold jZ
  obtain ⟨i,rfl⟩:=Int.eq_ofNat_of_zero_le h0
  simp only [Int.toNat_natCast] at hI
  refine zX (fun h=>?_) (fun h=>?_)
  · have hi:i < p0.fObjects.length:=by omega
    refine pK (aPJ hF w hl hi hj) fun s' hs'=>?_
    obtain ⟨hl',hs'⟩:=hs'
    refine G1 ⟨by omega,iK (by omega),hl',fun q hq=>?_⟩
    have hti:((i:Int) + 1).toNat = i + 1:=by omega
    rw [hti]
    have hsi:s.getD i 0 = (j:Int)↔out.getD i 0 = (j:Int):=by
      rcases hI i hi with ⟨⟨i',_,hc⟩,h2⟩ | ⟨_,h2⟩
      · have:=hc.2.2.1; omega
      · rw [h2]
    rcases hs' q hq with ⟨hc,h2⟩ | ⟨hc,h2⟩
    · have hsq:=hc.2.2.1
      rcases hI q hq with ⟨_,h3⟩ | ⟨h3,h4⟩
      · omega
      · exact .inl ⟨⟨i,by omega,hsi.1 hc.1,hc.2.1,by omega,hc.2.2.2⟩,h2⟩
    · rcases hI q hq with ⟨⟨i',hi',hc'⟩,h3⟩ | ⟨h3,h4⟩
      · exact .inl ⟨⟨i',by omega,hc'⟩,h2.trans h3⟩
      · refine .inr ⟨fun ⟨i',hi',hc'⟩=>?_,h2.trans h4⟩
        by_cases e:i' = i
        · subst e
          exact hc ⟨hsi.2 hc'.1,hc'.2.1,by rw [h4]; exact hc'.2.2.1,hc'.2.2.2⟩
        · exact h3 ⟨i',by omega,hc'⟩
  · refine DQ ⟨hl,fun q hq=>?_⟩
    have:i = p0.fObjects.length:=by omega
    subst this
    exact hI q hq
theorem aDZ (w:Int) {j:Nat} (hj:1≤j) {out s:List Int} (hL:Lev p0 w j out) (hl:s.length = p0.fObjects.length)
    (hs:∀ q,q < p0.fObjects.length→(C2 p0 w out j p0.fObjects.length q∧s.getD q 0 = (j:Int) + 1)∨(¬ C2 p0 w out j p0.fObjects.length q∧s.getD q 0 = out.getD q 0)):Lev p0 w (j + 1) s:=by
  refine ⟨hl,fun k hk=>?_⟩
  rcases hs k hk with ⟨⟨i,hi,hc⟩,h2⟩ | ⟨hc,h2⟩
  · obtain ⟨c1,c2,c3,c4⟩:=hc
    refine .inr ⟨j + 1,by omega,iw _,by omega,?_⟩
    have hni:Pth p0 w j i:=by
      rcases hL.2 i hi with ⟨h,_⟩ | ⟨m,_,_,h3,h4⟩
      · omega
      · have:m = j:=by omega
        subst this; exact h4.1
    have hno:∀ m,m≤j→¬ Pth p0 w m k:=by
      rcases hL.2 k hk with ⟨_,h⟩ | ⟨m,h1,_,h3,_⟩
      · exact h
      · omega
    exact ⟨.succ hni c4 c2,fun m hm=>hno m (by omega)⟩
  · rcases hL.2 k hk with ⟨h3,h4⟩ | ⟨m,h3,h4,h5,h6⟩
    · refine .inl ⟨by omega,fun m hm hp=>?_⟩
      by_cases e:m≤j
      · exact h4 m e hp
      · have:m = j + 1:=by omega
        subst this
        cases hp with
        | succ p1 p2 p3 =>
          rename_i x
          have hx:x < p0.fObjects.length:=by
            cases j with
            | zero=>omega
            | succ j'=>exact p1.pos_lt
          refine hc ⟨x,hx,?_,p3,h3,p2⟩
          rcases hL.2 x hx with ⟨_,h⟩ | ⟨m,g1,g2,g3,g4⟩
          · exact absurd p1 (h j (iw _))
          · by_cases e2:m = j
            · rw [g3,e2]
            · exact absurd (Pw.succ g4.1 p2 p3) (h4 (m + 1) (by omega))
    · exact .inr ⟨m,h3,by omega,by omega,h6⟩
theorem aMW (hF:pQ p0) (w:Int) {out:List Int} (hL:Lev p0 w 1 out):Ok (loop (jQ p0 w) (out,1)) fun s=>Lev p0 w (p0.fObjects.length + 1) s:=by
  have hn:=hF.n
  refine Q2 (fun s:List Int × Int=>∃ j:Nat,s.2 = (j:Int)∧1≤j∧j≤p0.fObjects.length + 1∧Lev p0 w j s.1) (fun s=>(p0.fObjects.length + 1:Nat) - s.2.toNat) (fun s hs=>?_) ⟨1,rfl,iw _,by omega,hL⟩ (by simp [lj]; omega)
  obtain ⟨s,z⟩:=s
  obtain ⟨j,rfl,h1,h2,hL⟩:=hs
  unfold jQ
  refine zX (fun h=>?_) (fun h=>?_)
  · have hjl:j≤p0.fObjects.length:=by rw [hL.1] at h; omega
    refine pK (aMZ hF w hL.1 ⟨h1,by omega⟩) fun s' hs'=>?_
    refine G1 ⟨⟨j + 1,?_,by omega,by omega,aDZ w h1 hL hs'.1 hs'.2⟩,?_⟩
    · rw [iK (by omega)]; omega
    · simp only
      rw [iK (by omega)]
      omega
  · have:j = p0.fObjects.length + 1:=by rw [hL.1] at h; omega
    subst this
    exact DQ hL
theorem aQx (hF:pQ p0) (w:Int):Ok (loop (jJ p0 w) (List.replicate p0.fObjects.length 0,0)) fun s=>Lev p0 w 1 s:=by
  have hn:=hF.n
  have hr:=hF.r
  have hz:∀ q,(List.replicate p0.fObjects.length (0:Int)).getD q 0 = 0:=fun q=>by
    rw [ow,List.getElem?_replicate]
    split <;> rfl
  refine N7 p0.fObjects.length (fun s k=>s.length = p0.fObjects.length∧∀ q,q < p0.fObjects.length→(((q:Int) < k∧(q:Int) ≠ w∧Edge p0 p0.fObjects.length q)∧s.getD q 0 = 1)∨(¬ ((q:Int) < k∧(q:Int) ≠ w∧Edge p0 p0.fObjects.length q)∧s.getD q 0 = 0)) (by omega) ⟨by rw [mw],fun q hq=>.inr ⟨fun h=>by omega,hz q⟩⟩ fun s k hI h0 h1=>?_
  obtain ⟨hl,hI⟩:=hI
  unfold jJ
  obtain ⟨kn,rfl⟩:=Int.eq_ofNat_of_zero_le h0
  refine zX (fun h=>?_) (fun h=>?_)
  · have hkn:kn < p0.fObjects.length:=by omega
    obtain ⟨ok,hok⟩ : ∃ o,p0.fObjects[kn]? = some o:=⟨_,ck hkn⟩
    obtain ⟨yk,hyk⟩ : ∃ y,s[kn]? = some y:=⟨_,ck (by omega)⟩
    have hE:Edge p0 p0.fObjects.length kn↔ok.fId∈p0.fRoots:=by
      unfold Edge V1
      rw [if_pos rfl]
      constructor
      · rintro ⟨o,h1,h2⟩; rw [hok] at h1; cases h1; exact h2
      · intro h; exact ⟨ok,hok,h⟩
    have hsk:s.getD kn 0 = 0:=by
      rcases hI kn hkn with ⟨⟨h,_⟩,_⟩ | ⟨_,h⟩
      · omega
      · exact h
    have hnext:∀ s':List Int,s'.length = p0.fObjects.length→(∀ q,q ≠ kn→s'.getD q 0 = s.getD q 0)→((((kn:Int) ≠ w∧Edge p0 p0.fObjects.length kn)∧s'.getD kn 0 = 1)∨(¬ ((kn:Int) ≠ w∧Edge p0 p0.fObjects.length kn)∧s'.getD kn 0 = 0)) →
        Ok (some (Sum.inl (s',w64 ((kn:Int) + 1)))) (Lx (fun a:List Int × Int=>(kn:Int) < (p0.fObjects.length:Int)∧a.2 = (kn:Int) + 1∧(a.1.length = p0.fObjects.length∧∀ q,q < p0.fObjects.length→(((q:Int) < (kn:Int) + 1∧(q:Int) ≠ w∧Edge p0 p0.fObjects.length q)∧a.1.getD q 0 = 1)∨(¬ ((q:Int) < (kn:Int) + 1∧(q:Int) ≠ w∧Edge p0 p0.fObjects.length q)∧a.1.getD q 0 = 0))) fun s:List Int=>Lev p0 w 1 s):=by
      intro s' hl' hkeep hat
      refine G1 ⟨by omega,iK (by omega),hl',fun q hq=>?_⟩
      by_cases e:q = kn
      · subst e
        rcases hat with ⟨h1,h2⟩ | ⟨h1,h2⟩
        · exact .inl ⟨⟨by omega,h1⟩,h2⟩
        · exact .inr ⟨fun h=>h1 h.2,h2⟩
      · rcases hI q hq with ⟨⟨h1,h2⟩,h3⟩ | ⟨h1,h2⟩
        · exact .inl ⟨⟨by omega,h2⟩,by rw [hkeep q e]; exact h3⟩
        · exact .inr ⟨fun h=>h1 ⟨by omega,h.2⟩,by rw [hkeep q e]; exact h2⟩
    have hsame : ¬ ((kn:Int) ≠ w∧Edge p0 p0.fObjects.length kn)→Ok (some (Sum.inl (s,w64 ((kn:Int) + 1)))) _:=fun hc=>hnext s hl (fun _ _=>rfl) (.inr ⟨hc,hsk⟩)
    simp only [l7,hok,hyk,gk,aBx p0.fRoots ok.fId (by omega)]
    by_cases c1:(kn:Int) = w
    · have hd:decide ((kn:Int) = w) = true:=decide_eq_true c1
      simp only [hd,Bool.not_true,cond_false,gk]
      exact hsame fun h=>h.1 c1
    · simp only [c1,decide_false,Bool.not_false,cond_true,gk]
      by_cases c3:ok.fId∈p0.fRoots
      · simp only [c3,decide_true,cond_true,gk]
        refine hnext _ (by rw [vw]; exact hl) (fun q hq=>?_) (.inl ⟨⟨c1,hE.2 c3⟩,?_⟩)
        · rw [show Int.toNat (kn:Int) = kn from rfl,C0 (by omega),if_neg hq]
        · rw [show Int.toNat (kn:Int) = kn from rfl,C0 (by omega),if_pos rfl]
      · simp only [c3,decide_false,cond_false,gk]
        exact hsame fun h=>c3 (hE.1 h.2)
  · have hkk:kn = p0.fObjects.length:=by omega
    refine DQ ⟨hl,fun q hq=>?_⟩
    have h0 : ¬ Pth p0 w 0 q:=fun hp=>by
      cases hp; omega
    rcases hI q hq with ⟨⟨_,h2,h3⟩,h4⟩ | ⟨h2,h3⟩
    · exact .inr ⟨1,by omega,iw _,h4,.succ .zero h3 h2,fun m' hm'=>by obtain rfl:m' = 0:=(by omega); exact h0⟩
    · refine .inl ⟨h3,fun m hm hp=>?_⟩
      rcases Nat.eq_zero_or_pos m with e | e
      · subst e; exact h0 hp
      · have:m = 1:=by omega
        subst this
        cases hp with
        | succ p1 p2 p3 =>
          cases p1
          exact h2 ⟨by omega,p3,p2⟩
def DistIs (p0:api_Heap) (w:Int) (d:List Int):Prop:=d.length = p0.fObjects.length∧∀ k,k < p0.fObjects.length→(d.getD k 0 = 0∧∀ m,¬ Pth p0 w m k)∨∃ m:Nat,0 < m∧d.getD k 0 = (m:Int)∧M3 p0 w m k
theorem atj (hF:pQ p0) (w:Int):∃ d,cZ p0 w = some d∧DistIs p0 w d:=by
  have hn:=hF.n
  obtain ⟨s4,h4,hL4⟩:=aQx hF w
  obtain ⟨s3,h3,hL3⟩:=aMW hF w hL4
  refine ⟨s3,?_,hL3.1,fun k hk=>?_⟩
  · unfold cZ
    have hm:mkB 8 (p0.fObjects.length:Int) = true:=by unfold mkB; exact decide_eq_true (by omega)
    rw [hm,Int.toNat_natCast,h4]
    simp only [cond_true,gk,h3]
  · rcases hL3.2 k hk with ⟨h1,h2⟩ | ⟨m,h1,h2,h3,h4⟩
    · refine .inl ⟨h1,fun m hp=>?_⟩
      obtain ⟨m',_,hm'⟩:=Mz m k hp
      exact h2 m' (by have:=acQ hm'; omega) hm'.1
    · exact .inr ⟨m,h1,h3,h4⟩
theorem DistIs.pos {w:Int} {d:List Int} (h:DistIs p0 w d) {k:Nat} (hk:k < p0.fObjects.length):0 < d.getD k 0↔∃ m,Pth p0 w m k:=by
  rcases h.2 k hk with ⟨h1,h2⟩ | ⟨m,h1,h2,h3⟩
  · constructor
    · intro h; omega
    · rintro ⟨m,hm⟩; exact absurd hm (h2 m)
  · constructor
    · intro _; exact ⟨m,h3.1⟩
    · intro _; omega
theorem DistIs.zero {w:Int} {d:List Int} (h:DistIs p0 w d) {k:Nat} (hk:k < p0.fObjects.length):d.getD k 0 = 0↔¬ ∃ m,Pth p0 w m k:=by
  rcases h.2 k hk with ⟨h1,h2⟩ | ⟨m,h1,h2,h3⟩
  · constructor
    · rintro _ ⟨m,hm⟩; exact h2 m hm
    · intro _; exact h1
  · constructor
    · intro h; omega
    · intro hh; exact absurd ⟨m,h3.1⟩ hh
end
open Go.Proofs Go.Proofs.Ytliccamocpglcaa
open Go.RM (addS addsFrom adds HO fndN)
theorem N2 {α:Type} {l:List (List α)} {i:Nat} {v:List α} (h:i < l.length) (q:Nat):(l.set i v).getD q [] = if q = i then v else l.getD q []:=by
  rw [ow,ow,Ak]
  by_cases e:i = q
  · subst e; rw [if_pos rfl,if_pos h,if_pos rfl]; rfl
  · rw [if_neg e,if_neg (Ne.symm e)]
theorem aiK (i:Nat):∀ (l:List Nat) (p:List (List Nat) × List (List Nat)),i < p.1.length→∀ q,(l.foldl (fun p k=>addS p i k) p).1.getD q [] = if q = i then p.1.getD i []++l else p.1.getD q []
  | [],p,_,q=>by
    simp only [List.foldl_nil,List.append_nil]
    split
    · rename_i h; rw [h]
    · rfl
  | k :: l,p,h,q=>by
    rw [List.foldl_cons,aiK i l (addS p i k) (by simp [addS]; exact h) q]
    simp only [addS]
    rw [N2 h,N2 h,if_pos rfl]
    by_cases e:q = i
    · rw [if_pos e,if_pos e,List.append_assoc]; rfl
    · rw [if_neg e,if_neg e,if_neg e]
theorem akx (i:Nat):∀ (l:List Nat) (p:List (List Nat) × List (List Nat)) (k j:Nat),k < p.2.length→(j∈(l.foldl (fun p k=>addS p i k) p).2.getD k []↔j∈p.2.getD k []∨(j = i∧k∈l))
  | [],p,k,j,_=>by simp
  | a :: l,p,k,j,h=>by
    rw [List.foldl_cons,akx i l (addS p i a) k j (by simp [addS]; exact h)]
    simp only [addS]
    by_cases e:k = a
    · subst e
      rw [N2 h,if_pos rfl,sk,fk]
      simp only [lw]
      constructor
      · rintro ((h1 | h1) | h1)
        · exact .inl h1
        · exact .inr ⟨h1,.inl trivial⟩
        · exact .inr ⟨h1.1,.inr h1.2⟩
      · rintro (h1 | ⟨h1,_⟩)
        · exact .inl (.inl h1)
        · exact .inl (.inr h1)
    · have:(p.2.set a (p.2.getD a []++[i])).getD k [] = p.2.getD k []:=by
        rw [ow,Ak,if_neg (fun h=>e h.symm),← ow]
      rw [this]
      simp only [lw,e,false_or]
theorem alq (fnd:Int→Nat):∀ (l:List HO) (j:Nat) (p:List (List Nat) × List (List Nat)),j + l.length≤p.1.length→∀ q,(addsFrom fnd j l p).1.getD q [] = p.1.getD q []++(if j≤q then ((l[q - j]?).map fun o=>o.refs.map fnd).getD [] else [])
  | [],j,p,_,q=>by simp [addsFrom]
  | o :: l,j,p,h,q=>by
    simp only [List.length_cons] at h
    have hl:=Go.RM.addSs_len j (o.refs.map fnd) p
    unfold addsFrom
    rw [alq fnd l (j + 1) _ (by rw [hl.1]; omega) q,aiK j _ p (by omega) q]
    by_cases e:q = j
    · subst e
      rw [if_pos rfl,if_neg (by omega),if_pos (iw _),Nat.sub_self,List.append_nil]; rfl
    · rw [if_neg e]
      by_cases h1:j≤q
      · rw [if_pos (by omega),if_pos h1,show q - j = (q - (j + 1)) + 1 from by omega,List.getElem?_cons_succ]
      · rw [if_neg (by omega),if_neg h1]
theorem aCZ (fnd:Int→Nat):∀ (l:List HO) (j:Nat) (p:List (List Nat) × List (List Nat)) (k i:Nat),k < p.2.length→(i∈(addsFrom fnd j l p).2.getD k []↔i∈p.2.getD k []∨∃ t o,l[t]? = some o∧i = j + t∧k∈o.refs.map fnd)
  | [],j,p,k,i,_=>by simp [addsFrom]
  | o :: l,j,p,k,i,h=>by
    have hl:=Go.RM.addSs_len j (o.refs.map fnd) p
    unfold addsFrom
    rw [aCZ fnd l (j + 1) _ k i (by rw [hl.2]; exact h),akx j _ p k i h]
    constructor
    · rintro ((h1 | ⟨h1,h2⟩) | ⟨t,o',h1,h2,h3⟩)
      · exact .inl h1
      · exact .inr ⟨0,o,rfl,by omega,h2⟩
      · exact .inr ⟨t + 1,o',h1,by omega,h3⟩
    · rintro (h1 | ⟨t,o',h1,h2,h3⟩)
      · exact .inl (.inl h1)
      · cases t with
        | zero=>cases h1; exact .inl (.inr ⟨by omega,h3⟩)
        | succ t=>exact .inr ⟨t,o',h1,by omega,h3⟩
theorem afZ {α:Type} (n q:Nat):(List.replicate n ([]:List α)).getD q [] = []:=by
  rw [ow,List.getElem?_replicate]
  split <;> rfl
section
variable {p0:api_Heap}
abbrev K0 (p0:api_Heap):Int→Nat:=fndN (eQ p0)
abbrev ayq (p0:api_Heap):List (List Nat):=(adds (K0 p0) (qj p0) p0.fRoots).1
abbrev K8 (p0:api_Heap):List (List Nat):=(adds (K0 p0) (qj p0) p0.fRoots).2
theorem Ux (i:Nat):(qj p0)[i]? = (p0.fObjects[i]?).map fun o=>⟨o.fId,o.fSize,o.fType,o.fRefs⟩:=by unfold qj; rw [gw]
theorem aEX:(ayq p0).length = p0.fObjects.length + 1:=by
  have:=(Go.RM.adds_len (K0 p0) (qj p0) p0.fRoots).1
  rw [nX] at this; exact this
theorem aHq:(K8 p0).length = p0.fObjects.length + 1:=by
  have:=(Go.RM.adds_len (K0 p0) (qj p0) p0.fRoots).2
  rw [nX] at this; exact this
theorem aOY {i:Nat} (hi:i≤p0.fObjects.length):(ayq p0).getD i [] = (V1 p0 i).map (K0 p0):=by
  unfold ayq adds
  have hl:=Go.RM.addsFrom_len (K0 p0) (qj p0) 0 (List.replicate ((qj p0).length + 1) [],List.replicate ((qj p0).length + 1) [])
  rw [aiK _ _ _ (by rw [hl.1,mw]; omega),alq _ _ _ _ (by rw [mw]; omega),alq _ _ _ _ (by rw [mw]; omega)]
  simp only [afZ,List.nil_append,Nat.zero_le,qk,Nat.sub_zero,Ux]
  rw [nX]
  unfold V1
  by_cases e:i = p0.fObjects.length
  · rw [if_pos e,if_pos e,List.getElem?_eq_none (iw _)]
    rfl
  · rw [if_neg e,if_neg e]
    cases p0.fObjects[i]? <;> rfl
theorem aGK {k j:Nat} (hk:k≤p0.fObjects.length):j∈(K8 p0).getD k []↔j≤p0.fObjects.length∧k∈(V1 p0 j).map (K0 p0):=by
  unfold K8 adds
  have hl:=Go.RM.addsFrom_len (K0 p0) (qj p0) 0 (List.replicate ((qj p0).length + 1) [],List.replicate ((qj p0).length + 1) [])
  have hh:=nX p0
  rw [akx _ _ _ _ _ (by rw [hl.2,mw]; omega),aCZ _ _ _ _ _ _ (by rw [mw]; omega)]
  simp only [afZ,xk,false_or,Ux,nX]
  unfold V1
  constructor
  · rintro (⟨t,o,h1,h2,h3⟩ | ⟨h1,h2⟩)
    · obtain ⟨o',h4,rfl⟩:=aw.1 h1
      have:=gz h4
      have hjt:j = t:=by omega
      subst hjt
      exact ⟨by omega,by rw [if_neg (by omega),h4]; exact h3⟩
    · subst h1; exact ⟨iw _,by rw [if_pos rfl]; exact h2⟩
  · rintro ⟨h1,h2⟩
    by_cases e:j = p0.fObjects.length
    · rw [if_pos e] at h2; exact .inr ⟨e,h2⟩
    · rw [if_neg e] at h2
      cases hj:p0.fObjects[j]? with
      | none=>rw [List.getElem?_eq_none_iff] at hj; omega
      | some o =>
        rw [hj] at h2
        exact .inl ⟨j,_,by rw [hj]; rfl,by omega,h2⟩
theorem aPV (hV:oX p0) {i:Nat} {n:Int} (h:n∈V1 p0 i):t8 p0 n = true:=by
  unfold V1 at h
  split at h
  · exact hV.roots.1 n h
  · split at h
    · rename_i o ho; exact (hV.refs o (jk ho)).1 n h
    · simp at h
theorem aRY (hF:pQ p0) (hV:oX p0) {k:Nat} {o:bK} (ho:p0.fObjects[k]? = some o):K0 p0 o.fId = k:=by
  have hn:=hF.n
  unfold K0 fndN
  rw [apJ p0 o.fId (by omega),apj hV ho]
  exact Int.toNat_natCast k
theorem ahJ (hF:pQ p0) (hV:oX p0) {i k:Nat}:k∈(V1 p0 i).map (K0 p0)↔Edge p0 i k:=by
  rw [zk]
  constructor
  · rintro ⟨n,h1,rfl⟩
    obtain ⟨k,o,hk,rfl⟩:=atY (aPV hV h1)
    rw [aRY hF hV hk]
    exact ⟨o,hk,h1⟩
  · rintro ⟨o,hk,h1⟩
    exact ⟨o.fId,h1,aRY hF hV hk⟩
theorem atx (hF:pQ p0) (hV:oX p0) {i k:Nat} (hi:i≤p0.fObjects.length):k∈(ayq p0).getD i []↔Edge p0 i k:=by rw [aOY hi,ahJ hF hV]
theorem aNj (hF:pQ p0) (hV:oX p0) {i k:Nat} (hk:k≤p0.fObjects.length):i∈(K8 p0).getD k []↔i≤p0.fObjects.length∧Edge p0 i k:=by rw [aGK hk,ahJ hF hV]
theorem avK (hF:pQ p0) (hV:oX p0):Go.RM.graphB (eQ p0) (qj p0) p0.fRoots = true:=by
  have hn:=hF.n
  have hr:=hF.r
  have key:∀ l:List Int,l.length≤1000→(∀ n∈l,t8 p0 n = true)→Go.RM.refsB (eQ p0) (qj p0).length l = true:=by
    intro l hl hh
    unfold Go.RM.refsB
    rw [dw,jw,qw]
    refine ⟨hl,fun n hm=>?_⟩
    obtain ⟨k,o,hk,rfl⟩:=atY (hh n hm)
    have:=gz hk
    rw [apJ p0 o.fId (by omega),apj hV hk]
    simp only [dw,jw,nX,Int.toNat_natCast]
    omega
  unfold Go.RM.graphB
  rw [dw,dw,jw,qw,nX]
  refine ⟨⟨by omega,fun o ho=>?_⟩,by rw [← nX p0]; exact key _ (by omega) hV.roots.1⟩
  unfold qj at ho
  obtain ⟨o',ho',rfl⟩:=zk.1 ho
  have:=hF.refs o' ho'
  rw [← nX p0]
  exact key _ (by simp only; omega) (hV.refs o' ho').1
end
open Go.Proofs Go.Proofs.Ytliccamocpglcaa
open Go.RM (wz LK)
section
variable (to:List (List Nat))
structure aWV (i:Nat) (us us' nd:List Nat):Prop where
  nodup:us'.Nodup
  ndn:nd.Nodup
  part:∀ x,x∈us↔x∈us'∨x∈nd
  disj:∀ x∈nd,x ∉ us'
  last:∃ l,nd = l++[i]
  clos:∀ x∈nd,∀ y∈to.getD x [],y ∉ us'
  pred:∀ x∈nd,x ≠ i→∃ l1 l2,nd = l1++x :: l2∧∃ p∈l2,x∈to.getD p []
  len:us'.length < us.length
structure aeK (us0 done us nd:List Nat):Prop where
  nodup:us.Nodup
  ndn:nd.Nodup
  part:∀ x,x∈us0↔x∈us∨x∈nd
  disj:∀ x∈nd,x ∉ us
  clos:∀ x∈nd,∀ y∈to.getD x [],y ∉ us
  seen:∀ k∈done,k ∉ us
  pred:∀ x∈nd,x∈done∨∃ l1 l2,nd = l1++x :: l2∧∃ p∈l2,x∈to.getD p []
  len:us.length≤us0.length
variable {to}
theorem Y1 {f:Nat} (hv:∀ i us ord,us.length≤f→us.Nodup→i∈us→(∀ x∈us,x < to.length)→∃ us' nd,wz f to i us ord = some (us',ord++nd)∧aWV to i us us' nd) (us0:List Nat) (hf:us0.length≤f) (hlt:∀ x∈us0,x < to.length) :
    ∀ (l done us nd ord:List Nat),aeK to us0 done us nd→∃ us' nd',l.foldlM (LK f to) (us,ord++nd) = some (us',ord++nd')∧aeK to us0 (done++l) us' nd'
  | [],done,us,nd,ord,h=>⟨us,nd,rfl,by rw [List.append_nil]; exact h⟩
  | k :: l,done,us,nd,ord,h=>by
    rw [List.foldlM_cons]
    unfold LK
    by_cases hk:k∈us
    · rw [if_pos hk]
      have hus:∀ x∈us,x < to.length:=fun x hx=>hlt x ((h.part x).2 (.inl hx))
      obtain ⟨us',nd2,h1,q⟩:=hv k us (ord++nd) (Nat.le_trans h.len hf) h.nodup hk hus
      rw [h1]
      simp only [Option.bind_eq_bind,gk]
      have hsub:∀ x,x ∉ us→x ∉ us':=fun x hx hx'=>hx ((q.part x).2 (.inl hx'))
      have hq:aeK to us0 (done++[k]) us' (nd++nd2):=by
        refine ⟨q.nodup,?_,fun x=>?_,fun x hx=>?_,fun x hx y hy=>?_,fun x hx=>?_,fun x hx=>?_,by have:=q.len; have:=h.len; omega⟩
        · rw [List.nodup_append]
          exact ⟨h.ndn,q.ndn,fun a ha b hb e=>by subst e; exact h.disj a ha ((q.part a).2 (.inr hb))⟩
        · rw [h.part x,q.part x,sk]
          constructor
          · rintro ((h1 | h1) | h1)
            · exact .inl h1
            · exact .inr (.inr h1)
            · exact .inr (.inl h1)
          · rintro (h1 | h1 | h1)
            · exact .inl (.inl h1)
            · exact .inr h1
            · exact .inl (.inr h1)
        · rcases sk.1 hx with hx | hx
          · exact hsub x (h.disj x hx)
          · exact q.disj x hx
        · rcases sk.1 hx with hx | hx
          · exact hsub y (h.clos x hx y hy)
          · exact q.clos x hx y hy
        · rcases sk.1 hx with hx | hx
          · exact hsub x (h.seen x hx)
          · rw [fk.1 hx]
            obtain ⟨l',hl'⟩:=q.last
            exact q.disj k (by rw [hl']; simp)
        · rcases sk.1 hx with hx | hx
          · rcases h.pred x hx with h2 | ⟨l1,l2,h2,p,h3,h4⟩
            · exact .inl (List.mem_append_left _ h2)
            · exact .inr ⟨l1,l2++nd2,by rw [h2]; simp,p,List.mem_append_left _ h3,h4⟩
          · by_cases e:x = k
            · exact .inl (by rw [e]; simp)
            · obtain ⟨l1,l2,h2,p,h3,h4⟩:=q.pred x hx e
              exact .inr ⟨nd++l1,l2,by rw [h2]; simp,p,h3,h4⟩
      obtain ⟨us'',nd',h2,h3⟩:=Y1 hv us0 hf hlt l (done++[k]) us' (nd++nd2) ord hq
      refine ⟨us'',nd',?_,by rw [List.append_assoc] at h3; exact h3⟩
      rw [List.append_assoc]
      exact h2
    · rw [if_neg hk]
      simp only [Option.bind_eq_bind,gk]
      have hq:aeK to us0 (done++[k]) us nd:=⟨h.nodup,h.ndn,h.part,h.disj,h.clos,fun x hx=>by
        rcases sk.1 hx with hx | hx
        · exact h.seen x hx
        · rw [fk.1 hx]; exact hk,fun x hx=>(h.pred x hx).imp (List.mem_append_left _) id,h.len⟩
      obtain ⟨us'',nd',h2,h3⟩:=Y1 hv us0 hf hlt l (done++[k]) us nd ord hq
      exact ⟨us'',nd',h2,by rw [List.append_assoc] at h3; exact h3⟩
theorem afV:∀ (f i:Nat) (us ord:List Nat),us.length≤f→us.Nodup→i∈us→(∀ x∈us,x < to.length)→∃ us' nd,wz f to i us ord = some (us',ord++nd)∧aWV to i us us' nd
  | 0,i,us,ord,hl,_,hi,_=>by
    have:=List.length_pos_of_mem hi; omega
  | f + 1,i,us,ord,hl,hn,hi,hlt=>by
    have hil:=hlt i hi
    have hel:(us.erase i).length = us.length - 1:=List.length_erase_of_mem hi
    have hpos:=List.length_pos_of_mem hi
    have h0:aeK to (us.erase i) [] (us.erase i) []:=⟨hn.erase i,List.nodup_nil,fun x=>by simp,fun x hx=>by simp at hx,fun x hx=>by simp at hx,fun x hx=>by simp at hx,fun x hx=>by simp at hx,iw _⟩
    obtain ⟨us',nd,h1,q⟩:=Y1 (fun i us ord=>afV f i us ord) (us.erase i) (by omega) (fun x hx=>hlt x (List.mem_of_mem_erase hx)) (to.getD i []) [] (us.erase i) [] ord h0
    rw [List.nil_append] at q
    rw [List.append_nil] at h1
    have bQ:to[i]? = some (to.getD i []):=by rw [ow,ck hil]; rfl
    have hmem:∀ x,x∈us.erase i↔x ≠ i∧x∈us:=fun x=>List.Nodup.mem_erase_iff hn
    have hni:i ∉ us':=fun h=>by
      have:=(hmem i).1 ((q.part i).2 (.inl h)); exact this.1 rfl
    have hnd:i ∉ nd:=fun h=>by
      have:=(hmem i).1 ((q.part i).2 (.inr h)); exact this.1 rfl
    refine ⟨us',nd++[i],?_,⟨q.nodup,?_,fun x=>?_,fun x hx=>?_,⟨nd,rfl⟩,fun x hx y hy=>?_,fun x hx hne=>?_,by have:=q.len; omega⟩⟩
    · rw [Go.RM.visitF_succ,bQ]
      simp only [h1,List.append_assoc]
    · rw [List.nodup_append]
      exact ⟨q.ndn,by simp,fun a ha b hb e=>by rw [fk.1 hb] at e; exact hnd (e ▸ ha)⟩
    · rw [sk,fk]
      by_cases e:x = i
      · subst e; simp [hi]
      · have:=q.part x
        rw [hmem x] at this
        simp only [e,or_false]
        rw [← this]
        simp [e]
    · rcases sk.1 hx with hx | hx
      · exact q.disj x hx
      · rw [fk.1 hx]; exact hni
    · rcases sk.1 hx with hx | hx
      · exact q.clos x hx y hy
      · rw [fk.1 hx] at hy
        exact q.seen y hy
    · rcases sk.1 hx with hx | hx
      · rcases q.pred x hx with h2 | ⟨l1,l2,h2,p,h3,h4⟩
        · obtain ⟨l1,l2,h3⟩:=List.append_of_mem hx
          exact ⟨l1,l2++[i],by rw [h3]; simp,i,by simp,h2⟩
        · exact ⟨l1,l2++[i],by rw [h2]; simp,p,List.mem_append_left _ h3,h4⟩
      · exact absurd (fk.1 hx) hne
end
open Go.Proofs Go.Proofs.Ytliccamocpglcaa
open Go.RM (wz ij Qz sW)
theorem agz:∀ (ord:List Nat) (j:Nat) (p:List Nat × List Bool),ord.Nodup→(∀ x∈ord,x < p.1.length∧x < p.2.length) →
    (∀ (i:Nat) x,ord[i]? = some x→(ij j ord p).1[x]? = some (j + i))∧(∀ x,x ∉ ord→(ij j ord p).1[x]? = p.1[x]?∧(ij j ord p).2[x]? = p.2[x]?)∧∀ x∈ord,(ij j ord p).2[x]? = some true
  | [],j,p,_,_=>⟨fun i x h=>by simp at h,fun x _=>⟨rfl,rfl⟩,fun x h=>by simp at h⟩
  | a :: l,j,p,hn,hlt=>by
    obtain ⟨ha,hn'⟩:=List.nodup_cons.1 hn
    obtain ⟨h1,h2,h3⟩:=agz l (j + 1) (p.1.set a j,p.2.set a true) hn' (fun x hx=>by simp only [vw]; exact hlt x (List.mem_cons_of_mem _ hx))
    have hal:=hlt a (List.mem_cons_self ..)
    unfold ij
    refine ⟨fun i x hx=>?_,fun x hx=>?_,fun x hx=>?_⟩
    · cases i with
      | zero =>
        cases hx
        rw [(h2 a ha).1]
        simp only
        rw [Ak,if_pos rfl,if_pos hal.1]; rfl
      | succ i =>
        rw [h1 i x hx]
        congr 1
        omega
    · rw [lw,not_or] at hx
      rw [(h2 x hx.2).1,(h2 x hx.2).2]
      simp only
      rw [Ak,Ak,if_neg (Ne.symm hx.1),if_neg (Ne.symm hx.1)]
      exact ⟨rfl,rfl⟩
    · rcases lw.1 hx with rfl | hx
      · rw [(h2 x ha).2]
        simp only
        rw [Ak,if_pos rfl,if_pos hal.2]
      · exact h3 x hx
section
variable {p0:api_Heap}
structure OrdQ (p0:api_Heap) (ls:List Nat):Prop where
  nodup:(p0.fObjects.length :: ls).Nodup
  lt:∀ x∈ls,x < p0.fObjects.length
  mem:∀ x,x∈p0.fObjects.length :: ls↔∃ m,Pth p0 (-1) m x
  pred:∀ x∈ls,∃ l1 l2,p0.fObjects.length :: ls = l1++x :: l2∧∃ p∈l1,Edge p0 p x
theorem aTW (hF:pQ p0) (hV:oX p0):∃ ls,Qz (eQ p0) (qj p0) p0.fRoots = some (p0.fObjects.length :: ls)∧OrdQ p0 ls:=by
  have hn:=hF.n
  have htl:(ayq p0).length = p0.fObjects.length + 1:=aEX
  obtain ⟨us',nd,h1,q⟩:=afV (to:=ayq p0) 100 p0.fObjects.length (List.range (p0.fObjects.length + 1)) [] (by rw [List.length_range]; omega) List.nodup_range (List.mem_range.2 (by omega)) (fun x hx=>by rw [htl]; exact List.mem_range.1 hx)
  rw [List.nil_append] at h1
  obtain ⟨l,hl⟩:=q.last
  have hndlt:∀ x∈nd,x < p0.fObjects.length + 1:=fun x hx=>List.mem_range.1 ((q.part x).2 (.inr hx))
  have hrev:nd.reverse = p0.fObjects.length :: l.reverse:=by rw [hl]; simp
  have hlen:nd.length≤p0.fObjects.length + 1:=H7 q.ndn hndlt
  have hpred:∀ x∈nd,x ≠ p0.fObjects.length→∃ l1 l2,nd.reverse = l1++x :: l2∧∃ p∈l1,Edge p0 p x:=fun x hx hne=>by
    obtain ⟨l1,l2,e,p,hp,hpx⟩:=q.pred x hx hne
    refine ⟨l2.reverse,l1.reverse,by rw [e]; simp,p,List.mem_reverse.2 hp,?_⟩
    have hpn:p∈nd:=by rw [e]; simp [hp]
    exact (atx hF hV (by have:=hndlt p hpn; omega)).1 hpx
  have hreach:∀ (j:Nat) (l1:List Nat) (x:Nat) (l2:List Nat),l1.length = j→nd.reverse = l1++x :: l2→∃ m,Pth p0 (-1) m x:=by
    intro j
    induction j using Nat.strongRecOn with
    | ind j ih =>
      intro l1 x l2 hj e
      by_cases hx:x = p0.fObjects.length
      · subst hx; exact ⟨0,.zero⟩
      · have hxn:x∈nd:=List.mem_reverse.1 (by rw [e]; simp)
        obtain ⟨a1,a2,e2,p,hp,hE⟩:=hpred x hxn hx
        have hnd:nd.reverse.Nodup:=List.pairwise_reverse.2 (q.ndn.imp fun h=>Ne.symm h)
        have hl1:l1 = a1:=by
          rw [e] at e2 hnd
          have hx1:x ∉ l1:=fun h=>by
            rw [List.nodup_append] at hnd
            exact hnd.2.2 x h x (by simp) rfl
          have hx2:x ∉ a1:=fun h=>by
            rw [e2,List.nodup_append] at hnd
            exact hnd.2.2 x h x (by simp) rfl
          rcases List.append_eq_append_iff.1 e2 with ⟨c,hc1,hc2⟩ | ⟨c,hc1,hc2⟩
          · cases c with
            | nil=>rw [hc1,List.append_nil]
            | cons z c =>
              simp only [List.cons_append,List.cons.injEq] at hc2
              rw [hc1,← hc2.1] at hx2; simp at hx2
          · cases c with
            | nil=>rw [hc1,List.append_nil]
            | cons z c =>
              simp only [List.cons_append,List.cons.injEq] at hc2
              rw [hc1,← hc2.1] at hx1; simp at hx1
        subst hl1
        obtain ⟨b1,b2,e3⟩:=List.append_of_mem hp
        obtain ⟨m,hm⟩:=ih b1.length (by rw [← hj,e3,uk,List.length_cons]; omega) b1 p (b2++x :: l2) rfl (by rw [e,e3]; simp)
        exact ⟨m + 1,.succ hm hE (by omega)⟩
  refine ⟨l.reverse,?_,⟨?_,fun x hx=>?_,fun x=>?_,fun x hx=>?_⟩⟩
  · unfold Qz
    rw [avK hF hV]
    simp only [cond_true,nX]
    have h1':wz 100 (Go.RM.adds (K0 p0) (qj p0) p0.fRoots).1 p0.fObjects.length (List.range (p0.fObjects.length + 1)) [] = some (us',nd):=h1
    rw [h1']
    have hb:(decide (nd.length≤1000) && nd.all (fun i=>decide (i < p0.fObjects.length + 1))) = true:=by
      rw [dw,jw,qw]
      exact ⟨by omega,fun x hx=>decide_eq_true (hndlt x hx)⟩
    simp only [hb,cond_true,hrev]
  · rw [← hrev]
    exact List.pairwise_reverse.2 (q.ndn.imp fun h=>Ne.symm h)
  · have hxn:x∈nd:=by rw [hl]; simp [List.mem_reverse.1 hx]
    have h2:=hndlt x hxn
    have h3:x ≠ p0.fObjects.length:=fun e=>by
      have:=q.ndn
      rw [hl,List.nodup_append] at this
      exact this.2.2 x (List.mem_reverse.1 hx) p0.fObjects.length (by simp) e
    omega
  · rw [← hrev,List.mem_reverse]
    constructor
    · intro hx
      obtain ⟨l1,l2,e⟩:=List.append_of_mem (List.mem_reverse.2 hx)
      exact hreach l1.length l1 x l2 rfl e
    · rintro ⟨m,hm⟩
      induction hm with
      | zero=>rw [hl]; simp
      | @succ m x y p1 p2 _ ih =>
        have h2:=q.clos x ih y ((atx hF hV (by have:=hndlt x ih; omega)).2 p2)
        rcases (q.part y).1 (List.mem_range.2 (by have := p2.lt; omega)) with h3 | h3
        · exact absurd h3 h2
        · exact h3
  · have hxn:x∈nd:=by rw [hl]; simp [List.mem_reverse.1 hx]
    have h3:x ≠ p0.fObjects.length:=fun e=>by
      have:=q.ndn
      rw [hl,List.nodup_append] at this
      exact this.2.2 x (List.mem_reverse.1 hx) p0.fObjects.length (by simp) e
    rw [← hrev]
    exact hpred x hxn h3
theorem OrdQ.vals {ls:List Nat} (h:OrdQ p0 ls):(∀ (i:Nat) x,(p0.fObjects.length :: ls)[i]? = some x→(sW p0.fObjects.length (p0.fObjects.length :: ls)).1[x]? = some i) ∧
    ∀ x,x≤p0.fObjects.length→((sW p0.fObjects.length (p0.fObjects.length :: ls)).2.getD x false = true↔x∈p0.fObjects.length :: ls):=by
  have hlt:∀ x∈p0.fObjects.length :: ls,x < p0.fObjects.length + 1:=fun x hx=>by
    rcases lw.1 hx with rfl | hx
    · omega
    · have:=h.lt x hx; omega
  obtain ⟨h1,h2,h3⟩:=agz (p0.fObjects.length :: ls) 0 (List.replicate (p0.fObjects.length + 1) 0,List.replicate (p0.fObjects.length + 1) false) h.nodup (fun x hx=>by simp only [mw]; exact ⟨hlt x hx,hlt x hx⟩)
  unfold sW
  refine ⟨fun i x hx=>by rw [h1 i x hx,Nat.zero_add],fun x hx=>?_⟩
  rw [ow]
  constructor
  · intro hh
    apply Classical.byContradiction
    intro hne
    rw [(h2 x hne).2,List.getElem?_replicate,if_pos (by omega)] at hh
    simp at hh
  · intro hh
    rw [h3 x hh]; rfl
end
open Go.Proofs Go.Proofs.Ytliccamocpglcaa
open Go.RM (Qz sW)
section
variable {p0:api_Heap}
end
open Go.Proofs Go.Proofs.Ytliccamocpglcaa
section
variable {p0:api_Heap}
theorem auX {α ρ:Type} (l:List α):fW (fun (_:Nat) (_:α)=>(none:Option ρ)) l 0 = none:=y9.2 fun _ _ _=>rfl
end
open Go.Proofs Go.Proofs.Ytliccamocpglcaa
open Go.RM (vZ CJ H0 KV)
inductive Anc (d:Nat→Nat) (r:Nat):Nat→Nat→Prop
  | refl (v:Nat):Anc d r v v
  | up {v a:Nat}:v ≠ r→Anc d r (d v) a→Anc d r v a
theorem Anc.trans {d:Nat→Nat} {r a b c:Nat} (h:Anc d r a b) (h':Anc d r b c):Anc d r a c:=by
  induction h with
  | refl=>exact h'
  | up hn _ ih=>exact .up hn (ih h')
theorem Anc.linear {d:Nat→Nat} {r v a b:Nat} (h:Anc d r v a) (h':Anc d r v b):Anc d r a b∨Anc d r b a:=by
  induction h with
  | refl=>exact .inl h'
  | up hn ha ih =>
    cases h' with
    | refl=>exact .inr (.up hn ha)
    | up _ hb=>exact ih hb
structure Tree (d P:Nat→Nat) (r:Nat) (K:Nat→Prop):Prop where
  root:K r
  up:∀ v,K v→v ≠ r→K (d v)∧P (d v) < P v
  inj:∀ u v,K u→K v→P u = P v→u = v
section
variable {d P:Nat→Nat} {r:Nat} {K:Nat→Prop}
theorem Tree.anc (hT:Tree d P r K) {v a:Nat} (h:Anc d r v a):K v→K a∧P a≤P v∧(P a = P v→a = v):=by
  induction h with
  | refl v=>exact fun hk=>⟨hk,iw _,fun _=>rfl⟩
  | up hn _ ih =>
    intro hk
    obtain ⟨h1,h2⟩:=hT.up _ hk hn
    obtain ⟨h3,h4,_⟩:=ih h1
    exact ⟨h3,by omega,fun h=>by omega⟩
theorem Tree.anc_root (hT:Tree d P r K):∀ (n v:Nat),P v≤n→K v→Anc d r v r:=by
  intro n
  induction n with
  | zero =>
    intro v hv hk
    by_cases e:v = r
    · subst e; exact .refl _
    · have:=(hT.up v hk e).2; omega
  | succ n ih =>
    intro v hv hk
    by_cases e:v = r
    · subst e; exact .refl _
    · obtain ⟨h1,h2⟩:=hT.up v hk e
      exact .up e (ih _ (by omega) h1)
theorem Tree.root_anc (_:Tree d P r K) {a:Nat} (h:Anc d r r a):a = r:=by
  cases h with
  | refl=>rfl
  | up h _=>exact absurd rfl h
theorem Tree.anti (hT:Tree d P r K) {u v:Nat} (hu:K u) (hv:K v) (h:Anc d r u v) (h':Anc d r v u):u = v:=by
  have h1:=hT.anc h hu
  have h2:=hT.anc h' hv
  exact (h1.2.2 (by omega)).symm
def turn (d:Nat→Nat) (i b:Nat):Nat→Nat:=fun v=>if v = i then b else d v
theorem tj {i b v:Nat} (h:v ≠ i):turn d i b v = d v:=if_neg h
theorem Tree.small (hT:Tree d P r K) {i b v a:Nat} (h:Anc d r v a):K v→P v < P i→Anc (turn d i b) r v a:=by
  induction h with
  | refl=>exact fun _ _=>.refl _
  | @up v a hn _ ih =>
    intro hk hlt
    obtain ⟨h1,h2⟩:=hT.up _ hk hn
    have hvi:v ≠ i:=fun e=>by subst e; omega
    exact .up hn (by rw [tj hvi]; exact ih h1 (by omega))
theorem Tree.small' (hT:Tree d P r K) {i b v a:Nat} (h:Anc (turn d i b) r v a):K v→P v < P i→Anc d r v a:=by
  induction h with
  | refl=>exact fun _ _=>.refl _
  | @up v a hn h' ih =>
    intro hk hlt
    obtain ⟨h1,h2⟩:=hT.up _ hk hn
    have hvi:v ≠ i:=fun e=>by subst e; omega
    rw [tj hvi] at ih
    exact .up hn (ih h1 (by omega))
theorem amq {i b v:Nat} (h:Anc d r v i):Anc (turn d i b) r v i:=by
  generalize hx:i = x at h
  induction h with
  | refl v=>subst hx; exact .refl _
  | @up v a hn _ ih =>
    subst hx
    by_cases e:v = i
    · subst e; exact .refl _
    · exact .up hn (by rw [tj e]; exact ih rfl)
theorem aMV {i b v a:Nat} (h:Anc d r v a) : ¬ Anc d r v i→Anc (turn d i b) r v a:=by
  induction h with
  | refl=>exact fun _=>.refl _
  | @up v a hn _ ih =>
    intro hni
    have hvi:v ≠ i:=fun e=>by subst e; exact hni (.refl _)
    exact .up hn (by rw [tj hvi]; exact ih fun h=>hni (.up hn h))
theorem aEW {i b v a:Nat} (h:Anc (turn d i b) r v a) : ¬ Anc d r v i→Anc d r v a:=by
  induction h with
  | refl=>exact fun _=>.refl _
  | @up v a hn _ ih =>
    intro hni
    have hvi:v ≠ i:=fun e=>by subst e; exact hni (.refl _)
    rw [tj hvi] at ih
    exact .up hn (ih fun h=>hni (.up hn h))
theorem Tree.seg (hT:Tree d P r K) {i b v a:Nat} (h:Anc d r v a):K v→Anc d r a i→Anc (turn d i b) r v a:=by
  induction h with
  | refl=>exact fun _ _=>.refl _
  | @up v a hn hh ih =>
    intro hk hai
    obtain ⟨h1,h2⟩:=hT.up _ hk hn
    have h3:=hT.anc hh h1
    have h4:=hT.anc hai h3.1
    have e:v ≠ i:=fun e=>by subst e; omega
    exact .up hn (by rw [tj e]; exact ih h1 hai)
end
section
variable {pl dv:List Nat} {P:Nat→Nat} {r n:Nat} {K:Nat→Prop}
abbrev dF (dv:List Nat) (v:Nat):Nat:=dv.getD v 0
theorem Z9 {l:List Nat} {v:Nat} (h:v < l.length):l[v]? = some (l.getD v 0):=by rw [ow,ck h]; rfl
theorem NV (hT:Tree (dF dv) P r K) (hr:∀ v,K v→P r≤P v) (hpl:∀ v,K v→pl[v]? = some (P v)) (hdv:∀ v,K v→v < dv.length):∀ (F a b:Nat),K a→K b→P a + P b < F→∃ c,vZ F pl dv a b = some c∧K c∧∀ x,Anc (dF dv) r c x↔Anc (dF dv) r a x∧Anc (dF dv) r b x
  | 0,a,b,_,_,h=>by omega
  | F + 1,a,b,ha,hb,h=>by
    unfold vZ
    by_cases e:a = b
    · subst e
      exact ⟨a,by rw [if_pos rfl],ha,fun x=>⟨fun h=>⟨h,h⟩,fun h=>h.1⟩⟩
    · rw [if_neg e,hpl a ha,hpl b hb]
      simp only
      by_cases hlt:P a < P b
      · rw [if_pos hlt,Z9 (hdv b hb)]
        have hbr:b ≠ r:=fun e=>by subst e; have:=hr a ha; omega
        obtain ⟨h1,h2⟩:=hT.up b hb hbr
        obtain ⟨c,g1,g2,g3⟩:=NV hT hr hpl hdv F (dF dv b) a h1 ha (by omega)
        refine ⟨c,g1,g2,fun x=>?_⟩
        rw [g3 x]
        constructor
        · rintro ⟨k1,k2⟩; exact ⟨k2,.up hbr k1⟩
        · rintro ⟨k1,k2⟩
          cases k2 with
          | refl=>have:=(hT.anc k1 ha).2.1; omega
          | up _ k2=>exact ⟨k2,k1⟩
      · rw [if_neg hlt,Z9 (hdv a ha)]
        have hne:P a ≠ P b:=fun h=>e (hT.inj a b ha hb h)
        have har:a ≠ r:=fun e=>by subst e; have:=hr b hb; omega
        obtain ⟨h1,h2⟩:=hT.up a ha har
        obtain ⟨c,g1,g2,g3⟩:=NV hT hr hpl hdv F (dF dv a) b h1 hb (by omega)
        refine ⟨c,g1,g2,fun x=>?_⟩
        rw [g3 x]
        constructor
        · rintro ⟨k1,k2⟩; exact ⟨.up har k1,k2⟩
        · rintro ⟨k1,k2⟩
          cases k1 with
          | refl=>have:=(hT.anc k2 hb).2.1; omega
          | up _ k1=>exact ⟨k1,k2⟩
def Y0 (dv:List Nat) (r:Nat) (K:Nat→Prop) (done:List Nat):Option Nat→Prop
  | none=>∀ p∈done,¬ K p
  | some c=>K c∧(∃ p∈done,K p)∧∀ x,Anc (dF dv) r c x↔∀ p∈done,K p→Anc (dF dv) r p x
theorem apV {F:Nat} {dk:List Bool} (hT:Tree (dF dv) P r K) (hr:∀ v,K v→P r≤P v) (hpl:∀ v,K v→pl[v]? = some (P v)) (hdv:∀ v,K v→v < dv.length) (hF:∀ a b,K a→K b→P a + P b < F) (hdk:∀ k,k≤n→∃ b,dk[k]? = some b∧(b = true↔K k)) :
    ∀ (l done:List Nat) (best:Option Nat),(∀ k∈l,k≤n)→Y0 dv r K done best→∃ res,l.foldlM (CJ F pl dv dk) best = some res∧Y0 dv r K (done++l) res
  | [],done,best,_,h=>⟨best,rfl,by rw [List.append_nil]; exact h⟩
  | k :: l,done,best,hl,h=>by
    rw [List.foldlM_cons]
    obtain ⟨b,hb1,hb2⟩:=hdk k (hl k (List.mem_cons_self ..))
    have go:∀ best',CJ F pl dv dk best k = some best'→Y0 dv r K (done++[k]) best'→∃ res,(CJ F pl dv dk best k >>= fun s=>l.foldlM (CJ F pl dv dk) s) = some res∧Y0 dv r K (done++(k :: l)) res:=by
      intro best' h1 h2
      obtain ⟨res,h3,h4⟩:=apV hT hr hpl hdv hF hdk l (done++[k]) best' (fun k hk=>hl k (List.mem_cons_of_mem _ hk)) h2
      refine ⟨res,by rw [h1]; exact h3,by rw [List.append_assoc] at h4; exact h4⟩
    cases b with
    | false =>
      have hk : ¬ K k:=fun h=>by have:=hb2.2 h; cases this
      refine go best (by unfold CJ; rw [hb1]) ?_
      cases best with
      | none =>
        intro p hp
        rcases sk.1 hp with hp | hp
        · exact h p hp
        · rw [fk.1 hp]; exact hk
      | some c =>
        obtain ⟨h1,⟨p,hp1,hp2⟩,h2⟩:=h
        refine ⟨h1,⟨p,List.mem_append_left _ hp1,hp2⟩,fun x=>?_⟩
        rw [h2 x]
        constructor
        · intro hh p hp hK
          rcases sk.1 hp with hp | hp
          · exact hh p hp hK
          · rw [fk.1 hp] at hK; exact absurd hK hk
        · intro hh p hp hK; exact hh p (List.mem_append_left _ hp) hK
    | true =>
      have hk:K k:=hb2.1 rfl
      cases best with
      | none =>
        refine go (some k) (by unfold CJ; rw [hb1]) ⟨hk,⟨k,by simp,hk⟩,fun x=>?_⟩
        constructor
        · intro hx p hp hK
          rcases sk.1 hp with hp | hp
          · exact absurd hK (h p hp)
          · rw [fk.1 hp]; exact hx
        · intro hh; exact hh k (by simp) hk
      | some c =>
        obtain ⟨h1,⟨p,hp1,hp2⟩,h2⟩:=h
        obtain ⟨c',g1,g2,g3⟩:=NV hT hr hpl hdv F c k h1 hk (hF c k h1 hk)
        refine go (some c') (by unfold CJ; rw [hb1]; simp only [g1]; rfl) ⟨g2,⟨k,by simp,hk⟩,fun x=>?_⟩
        rw [g3 x,h2 x]
        constructor
        · rintro ⟨k1,k2⟩ p hp hK
          rcases sk.1 hp with hp | hp
          · exact k1 p hp hK
          · rw [fk.1 hp]; exact k2
        · intro hh
          exact ⟨fun p hp hK=>hh p (List.mem_append_left _ hp) hK,hh k (by simp) hk⟩
end
open Go.Proofs Go.Proofs.Ytliccamocpglcaa
open Go.RM (vZ CJ H0 KV sW)
section
variable {p0:api_Heap}
abbrev vq (p0:api_Heap) (ls:List Nat):List Nat:=p0.fObjects.length :: ls
abbrev plL (p0:api_Heap) (ls:List Nat):List Nat:=(sW p0.fObjects.length (p0.fObjects.length :: ls)).1
abbrev PL (p0:api_Heap) (ls:List Nat) (v:Nat):Nat:=(plL p0 ls).getD v 0
def Kn (dk:List Bool) (v:Nat):Prop:=dk[v]? = some true
theorem OrdQ.place {ls:List Nat} (hO:OrdQ p0 ls) {j x:Nat} (h:(vq p0 ls)[j]? = some x):PL p0 ls x = j:=by
  have:=hO.vals.1 j x h
  unfold PL
  rw [ow,this]; rfl
theorem OrdQ.pl_get {ls:List Nat} (hO:OrdQ p0 ls) {x:Nat} (h:x∈vq p0 ls):(plL p0 ls)[x]? = some (PL p0 ls x):=by
  obtain ⟨j,hj⟩:=List.getElem?_of_mem h
  rw [hO.vals.1 j x hj,hO.place hj]
theorem OrdQ.inj {ls:List Nat} (hO:OrdQ p0 ls) {u v:Nat} (hu:u∈vq p0 ls) (hv:v∈vq p0 ls) (h:PL p0 ls u = PL p0 ls v):u = v:=by
  obtain ⟨i,hi⟩:=List.getElem?_of_mem hu
  obtain ⟨j,hj⟩:=List.getElem?_of_mem hv
  rw [hO.place hi,hO.place hj] at h
  subst h
  rw [hi] at hj
  exact Option.some.inj hj
theorem OrdQ.root_place {ls:List Nat} (hO:OrdQ p0 ls):PL p0 ls p0.fObjects.length = 0:=hO.place (j:=0) rfl
theorem OrdQ.place_lt {ls:List Nat} (hO:OrdQ p0 ls) {u:Nat} (hu:u∈vq p0 ls):PL p0 ls u≤p0.fObjects.length:=by
  obtain ⟨i,hi⟩:=List.getElem?_of_mem hu
  rw [hO.place hi]
  have h1:=gz hi
  have h2:ls.length≤p0.fObjects.length:=H7 (List.nodup_cons.1 hO.nodup).2 hO.lt
  rw [List.length_cons] at h1
  omega
theorem OrdQ.le {ls:List Nat} (hO:OrdQ p0 ls) {u:Nat} (hu:u∈vq p0 ls):u≤p0.fObjects.length:=by
  rcases lw.1 hu with rfl | h
  · exact iw _
  · exact Nat.le_of_lt (hO.lt u h)
theorem Pth.any {w:Int} {m x:Nat} (h:Pth p0 w m x):Pth p0 (-1) m x:=by
  induction h with
  | zero=>exact .zero
  | succ _ h2 _ ih=>exact .succ ih h2 (by omega)
theorem Pth.self {m a:Nat} (ha:a ≠ p0.fObjects.length) : ¬ Pth p0 (a:Int) m a:=fun h=>by
  cases h with
  | zero=>exact ha rfl
  | succ _ _ h=>exact h rfl
theorem Pth.through {a i m v:Nat} (hi:i ≠ p0.fObjects.length) (h:Pth p0 (a:Int) m v) : ¬ Pth p0 (i:Int) m v→∃ m',m'≤m∧Pth p0 (a:Int) m' i:=by
  induction h with
  | zero=>intro h; exact absurd .zero h
  | @succ m x y h1 h2 h3 ih =>
    intro h
    by_cases e:y = i
    · subst e; exact ⟨m + 1,iw _,.succ h1 h2 h3⟩
    · by_cases hx:Pth p0 (i:Int) m x
      · exact absurd (.succ hx h2 (by omega)) h
      · obtain ⟨m',g1,g2⟩:=ih hx
        exact ⟨m',by omega,g2⟩
inductive PG (p0:api_Heap) (ls:List Nat) (k:Nat) (x:Nat):Nat→Prop
  | refl:PG p0 ls k x x
  | step {y z:Nat}:PG p0 ls k x y→Edge p0 y z→k≤PL p0 ls z→PG p0 ls k x z
theorem PG.mono {ls:List Nat} {k k' x y:Nat} (h:PG p0 ls k x y) (hk:k'≤k):PG p0 ls k' x y:=by
  induction h with
  | refl=>exact .refl
  | step _ h2 h3 ih=>exact .step ih h2 (by omega)
theorem PG.trans {ls:List Nat} {k x y z:Nat} (h:PG p0 ls k x y) (h':PG p0 ls k y z):PG p0 ls k x z:=by
  induction h' with
  | refl=>exact h
  | step _ h2 h3 ih=>exact .step ih h2 h3
theorem PG.walk {ls:List Nat} {k x y a:Nat} (h:PG p0 ls k x y) (ha:PL p0 ls a < k) {m:Nat} (hp:Pth p0 (a:Int) m x):∃ m',Pth p0 (a:Int) m' y:=by
  induction h with
  | refl=>exact ⟨m,hp⟩
  | @step y z _ h2 h3 ih =>
    obtain ⟨m',hm⟩:=ih
    exact ⟨m' + 1,.succ hm h2 (fun e=>by have:z = a:=by omega
                                         subst this; omega)⟩
structure CI (p0:api_Heap) (ls dv:List Nat) (dk:List Bool):Prop where
  l1:dv.length = p0.fObjects.length + 1
  l2:dk.length = p0.fObjects.length + 1
  bd:∀ v∈dv,v≤p0.fObjects.length
  kin:∀ v,Kn dk v→v∈vq p0 ls
  tree:Tree (dF dv) (PL p0 ls) p0.fObjects.length (Kn dk)
  J:∀ v,Kn dk v→v ≠ p0.fObjects.length→PG p0 ls (PL p0 ls (dF dv v)) (dF dv v) v
  S:∀ v,Kn dk v→∀ a,a ≠ p0.fObjects.length→(∀ m,¬ Pth p0 (a:Int) m v)→Anc (dF dv) p0.fObjects.length v a
theorem CI.path {ls dv:List Nat} {dk:List Bool} (hC:CI p0 ls dv dk) {v a:Nat} (h:Anc (dF dv) p0.fObjects.length v a):Kn dk v→PG p0 ls (PL p0 ls a) a v:=by
  induction h with
  | refl=>exact fun _=>.refl
  | @up v a hn h' ih =>
    intro hk
    obtain ⟨h1,h2⟩:=hC.tree.up v hk hn
    have h3:=hC.tree.anc h' h1
    exact (ih h1).trans ((hC.J v hk hn).mono h3.2.1)
theorem BY {dk:List Bool} {i:Nat} (hi:i < dk.length) (v:Nat):Kn (dk.set i true) v↔v = i∨Kn dk v:=by
  unfold Kn
  rw [Ak]
  by_cases e:i = v
  · subst e; rw [if_pos rfl,if_pos hi]; simp
  · rw [if_neg e]; simp [Ne.symm e]
theorem aJQ {dv:List Nat} {i b:Nat} (hi:i < dv.length):dF (dv.set i b) = turn (dF dv) i b:=by
  funext v
  unfold dF turn
  rw [ow,Ak]
  by_cases e:i = v
  · subst e; rw [if_pos rfl,if_pos hi,if_pos rfl]; rfl
  · rw [if_neg e,if_neg (Ne.symm e),← ow]
def Kq (p0:api_Heap) (dv:List Nat) (dk:List Bool) (i b:Nat):Prop:=∀ x,Anc (dF dv) p0.fObjects.length b x↔∀ p,Edge p0 p i→Kn dk p→Anc (dF dv) p0.fObjects.length p x
theorem aNJ {ls:List Nat} (hO:OrdQ p0 ls) {dv:List Nat} {dk:List Bool} (hC:CI p0 ls dv dk) {i:Nat} (hi:i∈ls) {b:Nat} (hb:Kn dk b) (hbi:PL p0 ls b < PL p0 ls i) (hp:∃ p,Edge p0 p i∧Kn dk p) (hB:Kq p0 dv dk i b):CI p0 ls (dv.set i b) (dk.set i true):=by
  have hil:=hO.lt i hi
  have hio:i∈vq p0 ls:=List.mem_cons_of_mem _ hi
  have hid:i < dv.length:=by rw [hC.l1]; omega
  have hik:i < dk.length:=by rw [hC.l2]; omega
  have hin:i ≠ p0.fObjects.length:=by omega
  have hd:=aJQ (b:=b) hid
  have hkin':∀ v,Kn (dk.set i true) v→v∈vq p0 ls:=fun v hv=>by
    rcases (BY hik v).1 hv with rfl | h
    · exact hio
    · exact hC.kin v h
  have hdi:turn (dF dv) i b i = b:=if_pos rfl
  have hSi:∀ a,a ≠ p0.fObjects.length→(∀ m,¬ Pth p0 (a:Int) m i)→Anc (turn (dF dv) i b) p0.fObjects.length i a:=fun a ha hno=>by
    by_cases e:a = i
    · subst e; exact .refl _
    · refine .up hin ?_
      rw [hdi]
      refine hC.tree.small ((hB a).2 fun p hpe hpk=>hC.S p hpk a ha fun m hm=>?_) hb hbi
      exact hno (m + 1) (.succ hm hpe (by omega))
  refine ⟨by rw [vw]; exact hC.l1,by rw [vw]; exact hC.l2,fun v hv=>by
    rcases List.mem_or_eq_of_mem_set hv with h | h
    · exact hC.bd v h
    · rw [h]; exact hO.le (hC.kin b hb),hkin',?_,?_,?_⟩
  · rw [hd]
    refine ⟨(BY hik _).2 (.inr hC.tree.root),fun v hv hvn=>?_,fun u v hu hv h=>hO.inj (hkin' u hu) (hkin' v hv) h⟩
    by_cases e:v = i
    · subst e
      rw [hdi]
      exact ⟨(BY hik _).2 (.inr hb),hbi⟩
    · rw [tj e]
      rcases (BY hik v).1 hv with h | h
      · exact absurd h e
      · obtain ⟨h1,h2⟩:=hC.tree.up v h hvn
        exact ⟨(BY hik _).2 (.inr h1),h2⟩
  · rw [hd]
    intro v hv hvn
    by_cases e:v = i
    · subst e
      rw [hdi]
      obtain ⟨p,hpe,hpk⟩:=hp
      have h1:=(hB b).1 (.refl b) p hpe hpk
      exact .step (hC.path h1 hpk) hpe (by omega)
    · rw [tj e]
      rcases (BY hik v).1 hv with h | h
      · exact absurd h e
      · exact hC.J v h hvn
  · rw [hd]
    intro v hv a ha hno
    by_cases e:v = i
    · subst e; exact hSi a ha hno
    · have hvk:Kn dk v:=by
        rcases (BY hik v).1 hv with h | h
        · exact absurd h e
        · exact h
      have hva:=hC.S v hvk a ha hno
      by_cases hvi:Anc (dF dv) p0.fObjects.length v i
      · rcases hva.linear hvi with h | h
        · exact hC.tree.seg hva hvk h
        · by_cases e2:a = i
          · subst e2; exact amq hvi
          · have hki:=(hC.tree.anc hvi hvk).1
            have hai:=hC.tree.anc h hki
            have hlt:PL p0 ls a < PL p0 ls i:=by
              rcases Nat.lt_or_ge (PL p0 ls a) (PL p0 ls i) with h3 | h3
              · exact h3
              · exact absurd (hai.2.2 (by omega)) e2
            refine (amq hvi).trans (hSi a ha fun m hm=>?_)
            obtain ⟨m',hm'⟩:=(hC.path hvi hvk).walk hlt hm
            exact hno m' hm'
      · exact aMV hva hvi
theorem aMY (hF:pQ p0) (hV:oX p0) {ls:List Nat} (hO:OrdQ p0 ls) {dv:List Nat} {dk:List Bool} (hC:CI p0 ls dv dk) {i:Nat} (hi:i∈ls) (hp:∃ p,Edge p0 p i∧Kn dk p∧PL p0 ls p < PL p0 ls i) (fl:Bool) :
    ∃ b fl',H0 200 (plL p0 ls) (K8 p0) ((dv,dk),fl) i = some ((dv.set i b,dk.set i true),fl')∧(fl' = false↔fl = false∧Kn dk i∧dF dv i = b)∧Kn dk b∧PL p0 ls b < PL p0 ls i∧Kq p0 dv dk i b∧CI p0 ls (dv.set i b) (dk.set i true):=by
  have hn:=hF.n
  have hil:=hO.lt i hi
  have hid:i < dv.length:=by rw [hC.l1]; omega
  have hik:i < dk.length:=by rw [hC.l2]; omega
  obtain ⟨p,hpe,hpk,hplt⟩:=hp
  have hfr:(K8 p0)[i]? = some ((K8 p0).getD i []):=by rw [ow,ck (by rw [aHq]; omega)]; rfl
  have hmem:∀ k,k∈(K8 p0).getD i []↔k≤p0.fObjects.length∧Edge p0 k i:=fun k=>aNj hF hV (by omega)
  obtain ⟨res,h1,h2⟩:=apV (n:=p0.fObjects.length) (pl:=plL p0 ls) (dv:=dv) (dk:=dk) (F:=200) hC.tree (fun v hv=>by rw [hO.root_place]; omega) (fun v hv=>hO.pl_get (hC.kin v hv)) (fun v hv=>by have:=hO.le (hC.kin v hv); rw [hC.l1]; omega)
    (fun a b ha hb=>by have:=hO.place_lt (hC.kin a ha); have:=hO.place_lt (hC.kin b hb); omega)
    (fun k hk=>⟨dk[k]'(by rw [hC.l2]; omega),ck _,by unfold Kn; rw [ck (by rw [hC.l2]; omega)]; simp⟩) ((K8 p0).getD i []) [] none (fun k hk=>((hmem k).1 hk).1) (fun p hp=>by simp at hp)
  rw [List.nil_append] at h2
  have hpm:p∈(K8 p0).getD i []:=(hmem p).2 ⟨hO.le (hC.kin p hpk),hpe⟩
  cases res with
  | none=>exact absurd hpk (h2 p hpm)
  | some b =>
    obtain ⟨hb,_,hbx⟩:=h2
    have hB:Kq p0 dv dk i b:=fun x=>by
      rw [hbx x]
      constructor
      · intro h q hq hk; exact h q ((hmem q).2 ⟨hO.le (hC.kin q hk),hq⟩) hk
      · intro h q hq hk; exact h q ((hmem q).1 hq).2 hk
    have hbi:PL p0 ls b < PL p0 ls i:=by
      have:=hC.tree.anc ((hB b).1 (.refl b) p hpe hpk) hpk
      omega
    have hci:=aNJ hO hC hi hb hbi ⟨p,hpe,hpk⟩ hB
    have hvi:dv[i]? = some (dF dv i):=Z9 hid
    unfold H0
    simp only [hfr,h1]
    have hki:dk[i]? = some dk[i]:=ck hik
    cases hk:dk[i] with
    | false =>
      rw [hk] at hki
      refine ⟨b,true,by rw [hki,hvi],⟨fun h=>by (cases h),fun h=>?_⟩,hb,hbi,hB,hci⟩
      have:=h.2.1
      unfold Kn at this
      rw [hki] at this
      cases this
    | true =>
      rw [hk] at hki
      by_cases e:dF dv i = b
      · refine ⟨b,fl,?_,⟨fun h=>⟨h,hki,e⟩,fun h=>h.1⟩,hb,hbi,hB,hci⟩
        rw [hki,hvi]
        simp only [e,qk]
        have e1:dv.set i b = dv:=by
          apply List.ext_getElem?
          intro j
          rw [Ak]
          by_cases ej:i = j
          · subst ej; rw [if_pos rfl,if_pos hid,hvi,e]
          · rw [if_neg ej]
        have e2:dk.set i true = dk:=by
          apply List.ext_getElem?
          intro j
          rw [Ak]
          by_cases ej:i = j
          · subst ej; rw [if_pos rfl,if_pos hik,hki]
          · rw [if_neg ej]
        rw [e1,e2]
      · refine ⟨b,true,?_,⟨fun h=>by (cases h),fun h=>absurd h.2.2 e⟩,hb,hbi,hB,hci⟩
        rw [hki,hvi]
        simp only [e,pw]
end
open Go.Proofs Go.Proofs.Ytliccamocpglcaa
open Go.RM (vZ CJ H0 KV sW)
section
variable {p0:api_Heap}
def LV (p0:api_Heap) (dv:List Nat) (dk:List Bool) (L:Nat→Nat):Prop:=∀ v,Kn dk v→∀ a,a ≠ p0.fObjects.length→Anc (dF dv) p0.fObjects.length v a→∀ m,m≤L v→¬ Pth p0 (a:Int) m v
theorem ayK {d:Nat→Nat} {i b:Nat}:turn (turn d i b) i (d i) = d:=by
  funext v
  unfold turn
  by_cases e:v = i
  · subst e; rw [if_pos rfl]
  · rw [if_neg e,if_neg e]
theorem aKJ {ls:List Nat} (hO:OrdQ p0 ls) {dv:List Nat} {dk:List Bool} (hC:CI p0 ls dv dk) (hall:∀ x∈vq p0 ls,Kn dk x) {i:Nat} (hi:i∈ls) {b:Nat} (hb:Kn dk b) (hbi:PL p0 ls b < PL p0 ls i) (hB:Kq p0 dv dk i b) (hC':CI p0 ls (dv.set i b) (dk.set i true))
    {L:Nat→Nat} {k:Nat} (hL:LV p0 dv dk L) (h1:∀ x,k≤L x + 1) (h2:∀ x,L x≤k):LV p0 (dv.set i b) (dk.set i true) (fun x=>if x = i then k else L x):=by
  have hil:=hO.lt i hi
  have hid:i < dv.length:=by rw [hC.l1]; omega
  have hik:i < dk.length:=by rw [hC.l2]; omega
  have hin:i ≠ p0.fObjects.length:=by omega
  have hd:=aJQ (b:=b) hid
  have hdi:turn (dF dv) i b i = b:=if_pos rfl
  have hki:Kn dk i:=hall i (List.mem_cons_of_mem _ hi)
  have hself:∀ a,a ≠ p0.fObjects.length→Anc (turn (dF dv) i b) p0.fObjects.length i a→∀ m,m≤k→¬ Pth p0 (a:Int) m i:=by
    intro a ha hA m hm hp
    cases hA with
    | refl=>exact Pth.self hin hp
    | up _ hA =>
      rw [hdi] at hA
      have hA:=hC.tree.small' hA hb hbi
      cases hp with
      | zero=>exact hin rfl
      | @succ m x _ p1 p2 p3 =>
        have hx:x∈vq p0 ls:=(hO.mem x).2 ⟨m,Pth.any p1⟩
        exact hL x (hall x hx) a ha ((hB a).1 hA x p2 (hall x hx)) m (by have:=h1 x; omega) p1
  intro v hv a ha hA m hm hp
  rw [hd] at hA
  by_cases e:v = i
  · subst e
    have hm:m≤k:=by dsimp only at hm; rw [if_pos rfl] at hm; exact hm
    exact hself a ha hA m hm hp
  · have hm2:m≤L v:=by dsimp only at hm; rw [if_neg e] at hm; exact hm
    clear hm
    have hvk:Kn dk v:=by
      rcases (BY hik v).1 hv with h | h
      · exact absurd h e
      · exact h
    by_cases hvi:Anc (dF dv) p0.fObjects.length v i
    · have hvi':Anc (turn (dF dv) i b) p0.fObjects.length v i:=amq hvi
      rcases hA.linear hvi' with h | h
      · have hT':=hC'.tree
        rw [hd] at hT'
        have:=hT'.seg (b:=dF dv i) hA hv h
        rw [ayK] at this
        exact hL v hvk a ha this m hm2 hp
      · by_cases e2:a = i
        · subst e2; exact hL v hvk a ha hvi m hm2 hp
        · obtain ⟨m',g1,g2⟩:=hp.through hin (hL v hvk i hin hvi m hm2)
          exact hself a ha h m' (by have:=h2 v; omega) g2
    · exact hL v hvk a ha (aEW hA hvi) m hm2 hp
def arq (p0:api_Heap) (dv:List Nat) (dk:List Bool):Prop:=∀ v,Kn dk v→∀ a,a ≠ p0.fObjects.length→Anc (dF dv) p0.fObjects.length v a→∀ m,¬ Pth p0 (a:Int) m v
theorem aJV {dv:List Nat} {dk:List Bool} {k:Nat} (hL:LV p0 dv dk fun _=>k) (hk:p0.fObjects.length≤k):arq p0 dv dk:=fun v hv a ha hA m hp=>by
  obtain ⟨m',_,hm'⟩:=Mz m v hp
  exact hL v hv a ha hA m' (show m'≤k by have:=acQ hm'; omega) hm'.1
theorem alY {ls:List Nat} (hO:OrdQ p0 ls) {dv:List Nat} {dk:List Bool} (hC:CI p0 ls dv dk) (hall:∀ x∈vq p0 ls,Kn dk x) (hX:arq p0 dv dk) {i:Nat} (hi:i∈ls) {b:Nat} (hb:Kn dk b) (hbi:PL p0 ls b < PL p0 ls i) (hB:Kq p0 dv dk i b):dF dv i = b:=by
  have hil:=hO.lt i hi
  have hin:i ≠ p0.fObjects.length:=by omega
  have hki:Kn dk i:=hall i (List.mem_cons_of_mem _ hi)
  obtain ⟨hkd,hlt⟩:=hC.tree.up i hki hin
  have hroot:∀ v,Kn dk v→Anc (dF dv) p0.fObjects.length v p0.fObjects.length:=fun v hv=>hC.tree.anc_root _ v (iw _) hv
  refine (hC.tree.anti hb hkd ((hB _).2 fun p hpe hpk=>?_) ?_).symm
  · by_cases e:dF dv i = p0.fObjects.length
    · rw [e]; exact hroot p hpk
    · refine hC.S p hpk _ e fun m hm=>?_
      refine hX i hki (dF dv i) e (.up hin (.refl _)) (m + 1) (.succ hm hpe fun h=>?_)
      have:i = dF dv i:=by omega
      rw [← this] at hlt
      omega
  · by_cases e:b = p0.fObjects.length
    · rw [e]; exact hroot _ hkd
    · have hA:Anc (dF dv) p0.fObjects.length i b:=by
        refine hC.S i hki b e fun m hm=>?_
        cases hm with
        | zero=>exact hin rfl
        | @succ m x _ p1 p2 p3 =>
          have hx:x∈vq p0 ls:=(hO.mem x).2 ⟨m,Pth.any p1⟩
          exact hX x (hall x hx) b e ((hB b).1 (.refl b) x p2 (hall x hx)) m p1
      cases hA with
      | refl=>omega
      | up _ h=>exact h
theorem Y2 (hF:pQ p0) (hV:oX p0) {ls:List Nat} (hO:OrdQ p0 ls):∀ (l done:List Nat) (dv:List Nat) (dk:List Bool) (fl:Bool),ls = done++l→CI p0 ls dv dk→(∀ x∈p0.fObjects.length :: done,Kn dk x) →
    ∃ dv' dk' fl',l.foldlM (H0 200 (plL p0 ls) (K8 p0)) ((dv,dk),fl) = some ((dv',dk'),fl')∧CI p0 ls dv' dk'∧(∀ x∈vq p0 ls,Kn dk' x) ∧
      (fl' = false→fl = false∧dv' = dv∧dk' = dk∧∀ i∈l,Kq p0 dv dk i (dF dv i)) ∧
      ((∀ x∈vq p0 ls,Kn dk x)→arq p0 dv dk→fl = false→fl' = false) ∧
      (∀ k,(∀ x∈vq p0 ls,Kn dk x)→LV p0 dv dk (fun x=>if x∈done then k + 1 else k)→LV p0 dv' dk' (fun x=>if x∈ls then k + 1 else k))
  | [],done,dv,dk,fl,hl,hC,hk=>by
    rw [List.append_nil] at hl
    subst hl
    exact ⟨dv,dk,fl,rfl,hC,hk,fun h=>⟨h,rfl,rfl,fun i hi=>by simp at hi⟩,fun _ _ h=>h,fun k _ h=>h⟩
  | i :: l,done,dv,dk,fl,hl,hC,hk=>by
    have hi:i∈ls:=by rw [hl]; simp
    have hil:=hO.lt i hi
    have hik:i < dk.length:=by rw [hC.l2]; omega
    have hp:∃ p,Edge p0 p i∧Kn dk p∧PL p0 ls p < PL p0 ls i:=by
      obtain ⟨l1,l2,e,p,hp,hpe⟩:=hO.pred i hi
      have e':vq p0 ls = (p0.fObjects.length :: done)++i :: l:=by unfold vq; rw [hl]; rfl
      have hidx:(vq p0 ls)[l1.length]? = some i:=by unfold vq; rw [e]; simp
      have hidx2:(vq p0 ls)[(p0.fObjects.length :: done).length]? = some i:=by rw [e']; simp
      have h1:=hO.place hidx
      have h2:=hO.place hidx2
      have hl1:l1 = p0.fObjects.length :: done:=by
        have e3:l1++i :: l2 = (p0.fObjects.length :: done)++i :: l:=by rw [← e,← e']
        exact (List.append_inj e3 (by omega)).1
      subst hl1
      refine ⟨p,hpe,hk p hp,?_⟩
      obtain ⟨j,hj⟩:=List.getElem?_of_mem hp
      have hjl:=gz hj
      have h3:=hO.place (j:=j) (x:=p) (by rw [e',List.getElem?_append_left hjl]; exact hj)
      omega
    obtain ⟨b,fl1,h1,h2,hb,hbi,hB,hC1⟩:=aMY hF hV hO hC hi hp fl
    have hk1:∀ x∈p0.fObjects.length :: (done++[i]),Kn (dk.set i true) x:=fun x hx=>by
      rw [BY hik]
      rcases lw.1 hx with rfl | hx
      · exact .inr (hk _ (List.mem_cons_self ..))
      · rcases sk.1 hx with hx | hx
        · exact .inr (hk x (List.mem_cons_of_mem _ hx))
        · exact .inl (fk.1 hx)
    obtain ⟨dv',dk',fl',g1,g2,g3,g4,g5,g6⟩:=Y2 hF hV hO l (done++[i]) (dv.set i b) (dk.set i true) fl1 (by rw [hl]; simp) hC1 hk1
    have hsame:Kn dk i→dF dv i = b→dv.set i b = dv∧dk.set i true = dk:=fun hki e=>by
      have hid:i < dv.length:=by rw [hC.l1]; omega
      constructor
      · apply List.ext_getElem?
        intro j
        rw [Ak]
        by_cases ej:i = j
        · subst ej; rw [if_pos rfl,if_pos hid,Z9 hid,← e]
        · rw [if_neg ej]
      · apply List.ext_getElem?
        intro j
        rw [Ak]
        by_cases ej:i = j
        · subst ej; rw [if_pos rfl,if_pos hik]; exact hki.symm
        · rw [if_neg ej]
    refine ⟨dv',dk',fl',by rw [List.foldlM_cons,h1]; exact g1,g2,g3,fun hf=>?_,fun hall hX hf=>?_,fun k hall hL=>?_⟩
    · obtain ⟨q1,q2,q3,q4⟩:=g4 hf
      obtain ⟨q5,q6,q7⟩:=h2.1 q1
      obtain ⟨s1,s2⟩:=hsame q6 q7
      rw [s1] at q2 q4
      rw [s2] at q3 q4
      exact ⟨q5,q2,q3,fun j hj=>by
        rcases lw.1 hj with rfl | hj
        · rw [q7]; exact hB
        · exact q4 j hj⟩
    · have hki:=hall i (List.mem_cons_of_mem _ hi)
      have e:=alY hO hC hall hX hi hb hbi hB
      obtain ⟨s1,s2⟩:=hsame hki e
      have hf1:=h2.2 ⟨hf,hki,e⟩
      rw [s1,s2] at g5
      exact g5 hall hX hf1
    · have hL1:=aKJ hO hC hall hi hb hbi hB hC1 (k:=k + 1) hL (fun x=>by split <;> omega) (fun x=>by split <;> omega)
      refine g6 k (fun x hx=>(BY hik x).2 (.inr (hall x hx))) ?_
      have he:(fun x=>if x = i then k + 1 else if x∈done then k + 1 else k) = fun x=>if x∈done++[i] then k + 1 else k:=by
        funext x
        by_cases e:x = i
        · subst e; rw [if_pos rfl,if_pos (by simp)]
        · rw [if_neg e]
          by_cases e2:x∈done
          · rw [if_pos e2,if_pos (by simp [e2])]
          · rw [if_neg e2,if_neg (by simp [e,e2])]
      rw [← he]
      exact hL1
structure DomEnd (p0:api_Heap) (ls dv:List Nat) (dk:List Bool):Prop where
  ci:CI p0 ls dv dk
  all:∀ x∈vq p0 ls,Kn dk x
  exact:arq p0 dv dk
theorem aIW {ls:List Nat} (hO:OrdQ p0 ls) {dv:List Nat} {dk:List Bool} (hC:CI p0 ls dv dk) (hall:∀ x∈vq p0 ls,Kn dk x) (hfix:∀ i∈ls,Kq p0 dv dk i (dF dv i)):DomEnd p0 ls dv dk:=by
  refine ⟨hC,hall,fun v hv a ha hA m hp=>?_⟩
  have key:∀ m v,Pth p0 (a:Int) m v→Anc (dF dv) p0.fObjects.length v a→False:=by
    intro m v hp
    induction hp with
    | zero=>intro h; exact ha (hC.tree.root_anc h)
    | @succ m x y p1 p2 p3 ih =>
      intro h
      have hx:x∈vq p0 ls:=(hO.mem x).2 ⟨m,Pth.any p1⟩
      have hy:y∈vq p0 ls:=(hO.mem y).2 ⟨m + 1,Pth.any (Pw.succ p1 p2 p3:Pth p0 (a:Int) (m + 1) y)⟩
      have hyl:y∈ls:=by
        rcases lw.1 hy with e | e
        · have:=p2.lt; omega
        · exact e
      cases h with
      | refl=>exact p3 rfl
      | up _ h=>exact ih ((hfix y hyl a).1 h x p2 (hall x hx))
  exact key m v hp hA
theorem aIx (hF:pQ p0) (hV:oX p0) {ls:List Nat} (hO:OrdQ p0 ls):∀ (f k:Nat) (dv:List Nat) (dk:List Bool),CI p0 ls dv dk→(∀ x∈vq p0 ls,Kn dk x)→LV p0 dv dk (fun _=>k)→1≤f→p0.fObjects.length + 1≤k + f→∃ dv' dk',KV 200 (plL p0 ls) (K8 p0) (vq p0 ls) f (dv,dk) = some (dv',dk')∧DomEnd p0 ls dv' dk'
  | 0,_,_,_,_,_,_,h,_=>by omega
  | f + 1,k,dv,dk,hC,hall,hL,_,hf=>by
    have h0:LV p0 dv dk (fun x=>if x∈([]:List Nat) then k + 1 else k):=by simpa using hL
    obtain ⟨dv',dk',fl',g1,g2,g3,g4,g5,g6⟩ := Y2 hF hV hO ls [] dv dk false rfl hC (fun x hx => hall x (by rcases lw.1 hx with e | e; exact e ▸ List.mem_cons_self ..; simp at e))
    unfold KV
    have hdrop:(vq p0 ls).drop 1 = ls:=rfl
    rw [hdrop,g1]
    cases fl' with
    | false =>
      obtain ⟨_,q2,q3,q4⟩:=g4 rfl
      subst q2 q3
      exact ⟨_,_,rfl,aIW hO hC hall q4⟩
    | true =>
      have hkn:k < p0.fObjects.length:=by
        rcases Nat.lt_or_ge k p0.fObjects.length with h | h
        · exact h
        · have:=g5 hall (aJV hL h) rfl
          cases this
      have hL':LV p0 dv' dk' (fun _=>k + 1):=fun v hv a ha hA m hm hp=>by
        have hvo:=g2.kin v hv
        rcases lw.1 hvo with e | e
        · subst e; exact ha (g2.tree.root_anc hA)
        · exact g6 k hall h0 v hv a ha hA m (by dsimp only; rw [if_pos e]; exact hm) hp
      exact aIx hF hV hO f (k + 1) dv' dk' g2 g3 hL' (by omega) (by omega)
theorem aqx (fnd:Int→Nat):∀ (l:List Go.RM.HO) (j B:Nat) (p:List (List Nat) × List (List Nat)),(∀ o∈l,o.refs.length≤40)→Go.RM.ub B p→Go.RM.ub (B + 40 * l.length) (Go.RM.addsFrom fnd j l p)
  | [],j,B,p,_,h=>h
  | o :: l,j,B,p,hl,h=>by
    have h1:=Go.RM.addSs_ub j (o.refs.map fnd) B p h
    rw [List.length_map] at h1
    have ho:=hl o (List.mem_cons_self ..)
    have h2:Go.RM.ub (B + 40) ((o.refs.map fnd).foldl (fun p k=>Go.RM.addS p j k) p):=⟨fun l hl=>Nat.le_trans (h1.1 l hl) (by omega),fun l hl=>Nat.le_trans (h1.2 l hl) (by omega)⟩
    have h3:=aqx fnd l (j + 1) (B + 40) _ (fun o ho=>hl o (List.mem_cons_of_mem _ ho)) h2
    have e:B + 40 + 40 * l.length = B + 40 * (o :: l).length:=by rw [List.length_cons]; omega
    rw [e] at h3
    exact h3
theorem aYq (hF:pQ p0):Go.RM.ub 700 (Go.RM.adds (K0 p0) (qj p0) p0.fRoots):=by
  have hn:=hF.n
  have hr:=hF.r
  unfold Go.RM.adds
  have h0:Go.RM.ub 0 (List.replicate ((qj p0).length + 1) [],List.replicate ((qj p0).length + 1) []):=⟨fun l hl=>by rw [List.eq_of_mem_replicate hl]; exact iw _,fun l hl=>by rw [List.eq_of_mem_replicate hl]; exact iw _⟩
  have h1:=aqx (K0 p0) (qj p0) 0 0 _ (fun o ho=>by
    unfold qj at ho
    obtain ⟨o',ho',rfl⟩:=zk.1 ho
    exact hF.refs o' ho') h0
  have h2:=Go.RM.addSs_ub (qj p0).length (p0.fRoots.map (K0 p0)) _ _ h1
  rw [List.length_map,nX] at h2
  rw [nX]
  exact ⟨fun l hl=>Nat.le_trans (h2.1 l hl) (by omega),fun l hl=>Nat.le_trans (h2.2 l hl) (by omega)⟩
theorem amQ (hF:pQ p0):∀ l∈K8 p0,l.length≤700:=(aYq hF).2
theorem aLJ (hF:pQ p0) (hV:oX p0) {ls:List Nat} (hO:OrdQ p0 ls):∃ dv dk,Go.RM.domsF (eQ p0) (qj p0) p0.fRoots (vq p0 ls) = some (dv,dk)∧DomEnd p0 ls dv dk:=by
  have hn:=hF.n
  have hC0:CI p0 ls ((List.replicate (p0.fObjects.length + 1) 0).set p0.fObjects.length p0.fObjects.length) ((List.replicate (p0.fObjects.length + 1) false).set p0.fObjects.length true):=by
    have hk:∀ v,Kn ((List.replicate (p0.fObjects.length + 1) false).set p0.fObjects.length true) v↔v = p0.fObjects.length:=fun v=>by
      rw [BY (by rw [mw]; omega)]
      unfold Kn
      rw [List.getElem?_replicate]
      constructor
      · rintro (h | h)
        · exact h
        · split at h <;> cases h
      · exact .inl
    refine ⟨by rw [vw,mw],by rw [vw,mw],fun v hv=>by
      rcases List.mem_or_eq_of_mem_set hv with h | h
      · have:=List.eq_of_mem_replicate h; omega
      · omega,fun v hv=>by rw [(hk v).1 hv]; exact List.mem_cons_self ..,⟨(hk _).2 rfl,fun v hv hne=>absurd ((hk v).1 hv) hne,fun u v hu hv _=>by rw [(hk u).1 hu,(hk v).1 hv]⟩,fun v hv hne=>absurd ((hk v).1 hv) hne,fun v hv a ha hno=>?_⟩
    rw [(hk v).1 hv] at hno
    exact absurd .zero (hno 0)
  obtain ⟨dv,dk,fl,g1,g2,g3,g4,g5,g6⟩:=Y2 hF hV hO ls [] _ _ false rfl hC0 (fun x hx=>by
    rcases lw.1 hx with e | e
    · subst e; exact hC0.tree.root
    · simp at e)
  have hres:∃ dv' dk',KV 200 (plL p0 ls) (K8 p0) (vq p0 ls) 100 ((List.replicate (p0.fObjects.length + 1) 0).set p0.fObjects.length p0.fObjects.length,(List.replicate (p0.fObjects.length + 1) false).set p0.fObjects.length true) = some (dv',dk')∧DomEnd p0 ls dv' dk':=by
    rw [show (100:Nat) = 99 + 1 from rfl]
    unfold KV
    have hdrop:(vq p0 ls).drop 1 = ls:=rfl
    rw [hdrop,g1]
    cases fl with
    | false =>
      obtain ⟨_,q2,q3,q4⟩:=g4 rfl
      rw [q2,q3]
      rw [q3] at g3
      exact ⟨_,_,rfl,aIW hO hC0 g3 q4⟩
    | true =>
      exact aIx hF hV hO 99 0 dv dk g2 g3 (fun v hv a ha hA m hm hp=>by
        have hm0:m≤0:=hm
        have:m = 0:=by omega
        subst this
        cases hp
        exact ha (g2.tree.root_anc hA)) (by omega) (by omega)
  obtain ⟨dv',dk',h1,h2⟩:=hres
  refine ⟨dv',dk',?_,h2⟩
  unfold Go.RM.domsF vq
  simp only [nX]
  have hll:ls.length≤p0.fObjects.length:=H7 (List.nodup_cons.1 hO.nodup).2 hO.lt
  have hfl:(K8 p0).all (fun l=>decide (l.length≤1000000)) = true:=by
    rw [qw]
    intro l hl
    have:=amQ hF l hl
    exact decide_eq_true (by omega)
  have hb:(decide (p0.fObjects.length < p0.fObjects.length + 1∧p0.fObjects.length≤60) && decide ((p0.fObjects.length :: ls).length≤1000) && (Go.RM.adds (Go.RM.fndN (eQ p0)) (qj p0) p0.fRoots).2.all (fun l=>decide (l.length≤1000000))) = true:=by
    rw [dw,dw,jw,jw]
    exact ⟨⟨⟨by omega,by omega⟩,by rw [List.length_cons]; omega⟩,hfl⟩
  rw [hb]
  have h1':KV 200 (sW p0.fObjects.length (p0.fObjects.length :: ls)).1 (Go.RM.adds (Go.RM.fndN (eQ p0)) (qj p0) p0.fRoots).2 (p0.fObjects.length :: ls) 100 ((List.replicate (p0.fObjects.length + 1) 0).set p0.fObjects.length p0.fObjects.length,(List.replicate (p0.fObjects.length + 1) false).set p0.fObjects.length true) = some (dv',dk'):=h1
  simp only [cond_true,h1']
  have hdv:dv'.all (fun v=>decide (v < p0.fObjects.length + 1)) = true:=by
    rw [qw]
    intro v hv
    have:=h2.ci.bd v hv
    exact decide_eq_true (by omega)
  have hc:(decide (dv'.length = p0.fObjects.length + 1) && decide (dk'.length = p0.fObjects.length + 1) && dv'.all (fun v=>decide (v < p0.fObjects.length + 1))) = true:=by
    rw [dw,dw,jw,jw]
    exact ⟨⟨h2.ci.l1,h2.ci.l2⟩,hdv⟩
  rw [hc]
  rfl
end
open Go.Proofs Go.Proofs.Ytliccamocpglcaa
open Go.RM (CV mj SQ FX dominatesF)
section
variable {p0:api_Heap}
def DM (p0:api_Heap) (a b:Nat):Prop:=(∃ m,Pth p0 (-1) m b)∧¬ ∃ m,Pth p0 (a:Int) m b
structure Mat (p0:api_Heap) (d:List (List Bool)) (g:Nat→Nat→Bool):Prop where
  len:d.length = p0.fObjects.length
  row:∀ a,a < p0.fObjects.length→∃ r,d[a]? = some r∧r.length = p0.fObjects.length∧∀ b,b < p0.fObjects.length→r[b]? = some (g a b)
  val:∀ a b,a < p0.fObjects.length→b < p0.fObjects.length→(g a b = true↔DM p0 a b)
theorem aTK (hF:pQ p0):∃ d g,iJ p0 = some d∧Mat p0 d g:=by
  have hn:=hF.n
  obtain ⟨all,ha,hA⟩:=atj hF (-1)
  have hrest:∀ i:Nat,∃ l,cZ p0 (i:Int) = some l∧DistIs p0 (i:Int) l:=fun i=>atj hF (i:Int)
  have hd:iJ p0 = some (SQ all (fun i=>(cZ p0 (i:Int)).getD []) p0.fObjects.length):=by
    unfold iJ dominatesF
    rw [ha]
    simp only [gk]
    refine (Bool.cond_eq_ite .. ▸ if_pos ?_:_)
    rw [dw,dw,jw,jw,qw]
    refine ⟨⟨by omega,hA.1⟩,fun i _=>?_⟩
    obtain ⟨l,h1,h2⟩:=hrest i
    rw [h1]
    exact decide_eq_true h2.1
  refine ⟨_,fun a b=>decide (0 < all.getD b 0) && decide (((cZ p0 (a:Int)).getD []).getD b 0 = 0),hd,Go.RM.domM_len ..,fun a ha=>⟨FX all ((cZ p0 (a:Int)).getD []) p0.fObjects.length,?_,?_,fun b hb=>?_⟩,fun a b ha hb=>?_⟩
  · unfold SQ
    rw [gw,List.getElem?_range ha]; rfl
  · unfold FX
    rw [List.length_map,List.length_range]
  · unfold FX
    rw [gw,List.getElem?_range hb]; rfl
  · obtain ⟨l,h1,h2⟩:=hrest a
    rw [h1,Option.getD_some,dw,jw,jw,hA.pos hb,h2.zero hb]
    rfl
theorem aMq {d:List (List Bool)} {g:Nat→Nat→Bool} (hn:p0.fObjects.length≤16) (hM:Mat p0 d g) {a b:Nat} (ha:a < p0.fObjects.length) (hb:b < p0.fObjects.length):Ok (loop (jX d (b:Int) (a:Int)) (true,0)) fun v=>v = true↔∀ c,c < p0.fObjects.length→c ≠ b→g c b = true→g c a = true:=by
  have hl:=hM.len
  refine N7 p0.fObjects.length (fun v k=>v = true↔∀ c,c < p0.fObjects.length→(c:Int) < k→c ≠ b→g c b = true→g c a = true) (by omega) ⟨fun _ c _ h=>absurd h (by omega),fun _=>rfl⟩ fun v k hI h0 h1=>?_
  unfold jX
  obtain ⟨c,rfl⟩:=Int.eq_ofNat_of_zero_le h0
  refine zX (fun h=>?_) (fun h=>?_)
  · have hc:c < p0.fObjects.length:=by omega
    obtain ⟨r,hr,_,hrv⟩:=hM.row c hc
    simp only [l7,hr,gk,hrv b hb,hrv a ha]
    have step:∀ v':Bool,(v' = true↔(v = true∧(c ≠ b→g c b = true→g c a = true)))→Ok (some (Sum.inl (v',w64 ((c:Int) + 1)))) (Lx (fun q:Bool × Int=>(c:Int) < (p0.fObjects.length:Int)∧q.2 = (c:Int) + 1∧(q.1 = true↔∀ c',c' < p0.fObjects.length→(c':Int) < (c:Int) + 1→c' ≠ b→g c' b = true→g c' a = true)) fun v=>v = true↔∀ c,c < p0.fObjects.length→c ≠ b→g c b = true→g c a = true):=by
      intro v' hv'
      refine G1 ⟨by omega,iK (by omega),?_⟩
      show v' = true↔_
      rw [hv',hI]
      constructor
      · rintro ⟨h2,h3⟩ c' hc' hlt hne hg
        by_cases e:c' = c
        · subst e; exact h3 hne hg
        · exact h2 c' hc' (by omega) hne hg
      · intro h2
        exact ⟨fun c' hc' hlt=>h2 c' hc' (by omega),fun hne hg=>h2 c hc (by omega) hne hg⟩
    by_cases e:(c:Int) = (b:Int)
    · have hd:decide ((c:Int) = (b:Int)) = true:=decide_eq_true e
      simp only [hd,Bool.not_true,cond_false,gk]
      exact step v ⟨fun h=>⟨h,fun hne=>absurd (by omega) hne⟩,fun h=>h.1⟩
    · simp only [e,decide_false,Bool.not_false,cond_true,gk]
      cases h1:g c b with
      | false =>
        simp only [cond_false,gk]
        exact step v ⟨fun h=>⟨h,fun _ hg=>by rw [h1] at hg; cases hg⟩,fun h=>h.1⟩
      | true =>
        simp only [cond_true,gk]
        cases h2:g c a with
        | true =>
          simp only [Bool.not_true,cond_false,gk]
          exact step v ⟨fun h=>⟨h,fun _ _=>h2⟩,fun h=>h.1⟩
        | false =>
          simp only [Bool.not_false,cond_true,gk]
          refine step false ⟨fun h=>(by cases h),fun h=>?_⟩
          have:=h.2 (by omega) h1
          rw [h2] at this; cases this
  · refine DQ ?_
    rw [hI]
    constructor
    · intro h2 c' hc'; exact h2 c' hc' (by omega)
    · intro h2 c' hc' _; exact h2 c' hc'
theorem aSZ {d:List (List Bool)} {g:Nat→Nat→Bool} (hn:p0.fObjects.length≤16) (hM:Mat p0 d g) {b:Nat} (hb:b < p0.fObjects.length):∃ r,gq d (b:Int) = some r∧((g b b = false∧r = -2)∨(g b b = true ∧
    ((∃ a:Nat,r = (a:Int)∧a < p0.fObjects.length∧a ≠ b∧g a b = true∧∀ c,c < p0.fObjects.length→c ≠ b→g c b = true→g c a = true) ∨
     (r = -1∧∀ a,a < p0.fObjects.length→a ≠ b→g a b = true→¬ ∀ c,c < p0.fObjects.length→c ≠ b→g c b = true→g c a = true)))):=by
  have hl:=hM.len
  obtain ⟨rb,hrb,_,hrbv⟩:=hM.row b hb
  unfold gq
  simp only [l7,hrb,gk,hrbv b hb]
  cases hg:g b b with
  | false=>exact ⟨-2,rfl,.inl ⟨rfl,rfl⟩⟩
  | true =>
    simp only [Bool.not_true,cond_false]
    have key:Ok (loop (jK d (b:Int)) 0) fun q=>match q with
        | .inl _=>∀ a,a < p0.fObjects.length→a ≠ b→g a b = true→¬ ∀ c,c < p0.fObjects.length→c ≠ b→g c b = true→g c a = true
        | .inr r=>∃ a:Nat,r = (a:Int)∧a < p0.fObjects.length∧a ≠ b∧g a b = true∧∀ c,c < p0.fObjects.length→c ≠ b→g c b = true→g c a = true:=by
      refine aVz p0.fObjects.length (fun k=>∀ a,a < p0.fObjects.length→(a:Int) < k→a ≠ b→g a b = true→¬ ∀ c,c < p0.fObjects.length→c ≠ b→g c b = true→g c a = true) (by omega) (fun a _ h=>by omega) fun k hI h0 h1=>?_
      unfold jK
      obtain ⟨a,rfl⟩:=Int.eq_ofNat_of_zero_le h0
      refine zX (fun h=>?_) (fun h=>?_)
      · have ha:a < p0.fObjects.length:=by omega
        obtain ⟨r,hr,_,hrv⟩:=hM.row a ha
        simp only [l7,hr,gk,hrv b hb]
        have next:(a ≠ b→g a b = true→¬ ∀ c,c < p0.fObjects.length→c ≠ b→g c b = true→g c a = true)→∀ a',a' < p0.fObjects.length→(a':Int) < (a:Int) + 1→a' ≠ b→g a' b = true→¬ ∀ c,c < p0.fObjects.length→c ≠ b→g c b = true→g c a' = true:=by
          intro h2 a' ha' hlt hne hg'
          by_cases e:a' = a
          · subst e; exact h2 hne hg'
          · exact hI a' ha' (by omega) hne hg'
        by_cases e:(a:Int) = (b:Int)
        · have hd:decide ((a:Int) = (b:Int)) = true:=decide_eq_true e
          simp only [hd,cond_true,gk]
          exact Tz (Inv:=fun k=>∀ a,a < p0.fObjects.length→(a:Int) < k→a ≠ b→g a b = true→¬ ∀ c,c < p0.fObjects.length→c ≠ b→g c b = true→g c a = true) (next fun hne=>absurd (by omega) hne) h0 (by omega) (by omega)
        · simp only [e,decide_false,cond_false,gk]
          cases hga:g a b with
          | false =>
            simp only [Bool.not_false,cond_true]
            exact Tz (Inv:=fun k=>∀ a,a < p0.fObjects.length→(a:Int) < k→a ≠ b→g a b = true→¬ ∀ c,c < p0.fObjects.length→c ≠ b→g c b = true→g c a = true) (next fun _ hg'=>by rw [hga] at hg'; cases hg') h0 (by omega) (by omega)
          | true =>
            simp only [Bool.not_true,cond_false]
            refine pK (aMq hn hM ha hb) fun v hv=>?_
            cases v with
            | true =>
              simp only [cond_true]
              exact DQ ⟨a,rfl,ha,by omega,hga,hv.1 rfl⟩
            | false =>
              simp only [cond_false]
              exact Tz (Inv:=fun k=>∀ a,a < p0.fObjects.length→(a:Int) < k→a ≠ b→g a b = true→¬ ∀ c,c < p0.fObjects.length→c ≠ b→g c b = true→g c a = true) (next fun _ _ hh=>by have:=hv.2 hh; cases this) h0 (by omega) (by omega)
      · exact DQ fun a' ha'=>hI a' ha' (by omega)
    obtain ⟨q,h1,h2⟩:=key
    rw [h1]
    cases q with
    | inl _=>exact ⟨-1,rfl,.inr ⟨trivial,.inr ⟨rfl,h2⟩⟩⟩
    | inr r=>exact ⟨r,rfl,.inr ⟨trivial,.inl h2⟩⟩
theorem DomEnd.dm {ls dv:List Nat} {dk:List Bool} (hO:OrdQ p0 ls) (hE:DomEnd p0 ls dv dk) {a b:Nat} (ha:a < p0.fObjects.length) (hb:Kn dk b):DM p0 a b↔Anc (dF dv) p0.fObjects.length b a:=by
  constructor
  · rintro ⟨_,h⟩
    exact hE.ci.S b hb a (by omega) fun m hm=>h ⟨m,hm⟩
  · intro h
    exact ⟨(hO.mem b).1 (hE.ci.kin b hb),fun ⟨m,hm⟩=>hE.exact b hb a (by omega) h m hm⟩
theorem aQJ (hF:pQ p0) {ls dv:List Nat} {dk:List Bool} (hO:OrdQ p0 ls) (hE:DomEnd p0 ls dv dk) {d:List (List Bool)} {g:Nat→Nat→Bool} (hM:Mat p0 d g) {b:Nat} (hb:b < p0.fObjects.length):gq d (b:Int) = some (CV p0.fObjects.length dv dk b):=by
  have hn:=hF.n
  obtain ⟨r,h1,h2⟩:=aSZ hn hM hb
  rw [h1]
  congr 1
  have hbl:b < dk.length:=by rw [hE.ci.l2]; omega
  have hkb:Kn dk b↔dk.getD b false = true:=by unfold Kn; rw [ow,ck hbl]; simp
  have hgb:g b b = true↔Kn dk b:=by
    rw [hM.val b b hb hb]
    constructor
    · rintro ⟨h,_⟩; exact hE.all b ((hO.mem b).2 h)
    · intro h; exact ⟨(hO.mem b).1 (hE.ci.kin b h),fun ⟨m,hm⟩=>Pth.self (by omega) hm⟩
  unfold CV
  rcases h2 with ⟨g1,rfl⟩ | ⟨g1,h2⟩
  · have:dk.getD b false = false:=by
      cases h:dk.getD b false with
      | false=>rfl
      | true=>have:=hgb.2 (hkb.2 h); rw [g1] at this; cases this
    rw [this,if_pos rfl]
  · have hk:=hgb.1 g1
    have hk2:=hkb.1 hk
    rw [hk2,if_neg (by simp)]
    have hbn:b ≠ p0.fObjects.length:=by omega
    obtain ⟨hkd,hlt⟩:=hE.ci.tree.up b hk hbn
    have hup:∀ a,a < p0.fObjects.length→a ≠ b→(g a b = true↔Anc (dF dv) p0.fObjects.length (dF dv b) a):=fun a ha hne=>by
      rw [hM.val a b ha hb,hE.dm hO ha hk]
      constructor
      · intro h
        cases h with
        | refl=>exact absurd rfl hne
        | up _ h=>exact h
      · exact fun h=>.up hbn h
    rcases h2 with ⟨a,rfl,ha,hne,hga,hlast⟩ | ⟨rfl,hnone⟩
    · have hA:=(hup a ha hne).1 hga
      have hdn:dF dv b ≠ p0.fObjects.length:=fun e=>by
        rw [e] at hA
        have:=hE.ci.tree.root_anc hA; omega
      have hdl:dF dv b < p0.fObjects.length:=by have:=hO.le (hE.ci.kin _ hkd); omega
      have hdb:dF dv b ≠ b:=fun e=>by rw [e] at hlt; omega
      have h3:=hlast (dF dv b) hdl hdb ((hup _ hdl hdb).2 (.refl _))
      rw [hM.val _ a hdl ha,hE.dm hO hdl (hE.ci.tree.anc hA hkd).1] at h3
      have:=hE.ci.tree.anti hkd (hE.ci.tree.anc hA hkd).1 hA h3
      have e2:dv.getD b 0 = a:=this
      rw [e2,if_neg (by omega)]
    · by_cases hdn:dF dv b = p0.fObjects.length
      · have e2:dv.getD b 0 = p0.fObjects.length:=hdn
        rw [e2,if_pos rfl]
      · have hdl:dF dv b < p0.fObjects.length:=by have:=hO.le (hE.ci.kin _ hkd); omega
        have hdb:dF dv b ≠ b:=fun e=>by rw [e] at hlt; omega
        refine absurd (fun c hc hne hg=>?_) (hnone (dF dv b) hdl hdb ((hup _ hdl hdb).2 (.refl _)))
        rw [hM.val c _ hc hdl,hE.dm hO hc hkd]
        exact (hup c hc hne).1 hg
theorem aHX (hF:pQ p0) (hs:∀ o∈p0.fObjects,o.fType.size≤9223372036854775807):(F3 p0 ≠ 0∧mq p0 = some ([],F3 p0))∨(F3 p0 = 0∧oX p0∧∃ ls dv dk,OrdQ p0 ls∧DomEnd p0 ls dv dk∧mq p0 = some (mj p0.fObjects.length dv dk,0)):=by
  unfold mq Go.RM.dominatorsF
  rw [ajV hF hs]
  simp only [gk]
  by_cases h:F3 p0 = 0
  · have hV:=aFQ h
    obtain ⟨ls,h1,hO⟩:=aTW hF hV
    obtain ⟨dv,dk,h2,hE⟩:=aLJ hF hV hO
    refine .inr ⟨h,hV,ls,dv,dk,hO,hE,?_⟩
    rw [h,h1]
    simp only [decide_true,cond_true,gk]
    rw [h2,nX]
    rfl
  · exact .inl ⟨h,by rw [tk h]; rfl⟩
theorem aKX (hF:pQ p0) (hs:∀ o∈p0.fObjects,o.fType.size≤9223372036854775807) {ls dv:List Nat} {dk:List Bool} (h0:F3 p0 = 0) (hO:OrdQ p0 ls) (hE:DomEnd p0 ls dv dk):eV p0 = some (mj p0.fObjects.length dv dk,0):=by
  have hn:=hF.n
  obtain ⟨d,g,hd,hM⟩:=aTK hF
  have hl:=hM.len
  unfold eV
  rw [Yx hF hs,h0]
  simp only [gk,decide_true,Bool.not_true,cond_false,hd]
  have key:Ok (loop (i3 d) ([],0)) fun l=>l = mj p0.fObjects.length dv dk:=by
    refine N7 p0.fObjects.length (fun s k=>s = (List.range k.toNat).map (CV p0.fObjects.length dv dk)) (by omega) rfl fun s k hI h0 h1=>?_
    unfold i3
    obtain ⟨b,rfl⟩:=Int.eq_ofNat_of_zero_le h0
    refine zX (fun hk=>?_) (fun hk=>?_)
    · have hb:b < p0.fObjects.length:=by omega
      rw [aQJ hF hO hE hM hb]
      simp only [gk]
      have hsl:s.length = b:=by rw [hI,List.length_map,List.length_range]; rfl
      rw [aMJ (by simp only [List.length_singleton]; omega) (by simp only [List.length_singleton]; omega)]
      refine acj (Inv:=fun s (k:Int)=>s = (List.range k.toNat).map (CV p0.fObjects.length dv dk)) ?_ h0 (by omega) (by omega)
      have:((b:Int) + 1).toNat = b + 1:=by omega
      rw [this,List.range_succ,List.map_append,hI]
      rfl
    · refine DQ ?_
      rw [hI]
      have:(b:Int).toNat = p0.fObjects.length:=by omega
      rw [this]; rfl
  obtain ⟨l,h1,h2⟩:=key
  rw [h1,h2]
  rfl
theorem TW (l:List Int) (hl:l.length≤1000000):eY l l = some true:=by
  unfold eY
  rw [vz (step:=jz l l) l (fun _ _=>none) hl (fun i y hy=>by
    have hil:=gz hy
    have hw:=xq (show i < 9223372036854775807 by omega)
    unfold jz
    simp only [show ((i:Int) < (l.length:Int)) from by omega,decide_true,cond_true,l7,hy,gk,Bool.not_true,cond_false,hw]) (by unfold jz; simp),auX]
  simp only [decide_true,Bool.not_true,cond_false,OZ,gk]
theorem anx (n:Nat) (dv:List Nat) (dk:List Bool):(mj n dv dk).length = n:=by unfold mj; rw [List.length_map,List.length_range]
theorem heapDominates_holds (p0:api_Heap) (hs:∀ o∈p0.fObjects,o.fType.size≤9223372036854775807):dV p0 = some true:=by
  unfold dV
  obtain ⟨b,hb,hbF⟩:=aSX p0
  rw [hb]
  simp only [gk]
  cases b with
  | false=>simp only [Bool.not_false,cond_true,Z4,gk]
  | true =>
    have hF:=hbF.1 rfl
    have hn:=hF.n
    simp only [Bool.not_true,cond_false]
    rcases aHX hF hs with ⟨h1,h2⟩ | ⟨h1,hV,ls,dv,dk,hO,hE,h2⟩
    · have h3:eV p0 = some ([],F3 p0):=by
        unfold eV
        rw [Yx hF hs]
        simp only [gk,tk h1,Bool.not_false,cond_true]
      rw [h2,h3]
      simp only [gk,TW [] (by simp),cond_true,decide_true,Z4]
    · rw [h2,aKX hF hs h1 hO hE]
      simp only [gk,TW _ (show (mj p0.fObjects.length dv dk).length≤1000000 by rw [anx]; omega),cond_true,decide_true,Z4]
end
open Go.Proofs Go.Proofs.Ytliccamocpglcaa
open Go.RM (CV mj)
section
variable {p0:api_Heap}
end
open Go.Proofs Go.Proofs.Ytliccamocpglcaa
open Go.RM (CV mj)
section
variable {p0:api_Heap}
end
open Go.Proofs Go.Proofs.Ytliccamocpglcaa
open Go.RM (uQ Fq abq akj)
open Classical in
noncomputable def Wq (f:Nat→Int) (p:Nat→Prop):Nat→Int
  | 0=>0
  | n + 1=>Wq f p n + if p n then f n else 0
theorem Sj {f:Nat→Int} {p:Nat→Prop} {B:Int} (hB:0≤B):∀ (n:Nat),(∀ u,u < n→0≤f u∧f u≤B)→0≤Wq f p n∧Wq f p n≤n * B
  | 0,_=>by unfold Wq; omega
  | n + 1,h=>by
    have h1:=Sj (p:=p) hB n (fun u hu=>h u (by omega))
    have h2:=h n (by omega)
    unfold Wq
    have e:((n + 1:Nat):Int) * B = n * B + B:=by rw [Int.natCast_add,Int.add_mul]; omega
    rw [e]
    split <;> omega
section
variable {p0:api_Heap}
def SZ (p0:api_Heap) (u:Nat):Int:=((qj p0).map Go.RM.HO.size).getD u 0
theorem aTX {u:Nat} {o:bK} (h:p0.fObjects[u]? = some o):SZ p0 u = o.fSize:=by
  unfold SZ
  rw [ow,gw,Ux,h]; rfl
theorem aXj (hV:oX p0) {u:Nat} (h:u < p0.fObjects.length):0≤SZ p0 u∧SZ p0 u≤1000000000000:=by
  obtain ⟨o,ho⟩ : ∃ o,p0.fObjects[u]? = some o:=⟨_,ck h⟩
  rw [aTX ho]
  exact hV.size o (jk ho)
abbrev aVZ (p0:api_Heap) (dv:List Nat) (u v:Nat):Prop:=Anc (dF dv) p0.fObjects.length u v
structure RI (p0:api_Heap) (dv D:List Nat) (z:List Int):Prop where
  len:z.length = p0.fObjects.length + 1
  A1:∀ v,v∈D→z.getD v 0 = Wq (SZ p0) (fun u=>u∈D∧aVZ p0 dv u v) p0.fObjects.length
  A2:∀ v,v≤p0.fObjects.length→v ∉ D→z.getD v 0 = Wq (SZ p0) (fun u=>u∈D∧∃ c,c∈D∧dF dv c = v∧aVZ p0 dv u c) p0.fObjects.length
  B:∀ v,v≤p0.fObjects.length→z.getD v 0 = (if v∈D then SZ p0 v else 0) + Wq (fun c=>z.getD c 0) (fun c=>c∈D∧dF dv c = v) p0.fObjects.length
theorem RI.range (hF:pQ p0) (hV:oX p0) {dv D:List Nat} {z:List Int} (h:RI p0 dv D z) {v:Nat} (hv:v≤p0.fObjects.length):0≤z.getD v 0∧z.getD v 0≤16000000000000:=by
  have hn:=hF.n
  have key:∀ p:Nat→Prop,0≤Wq (SZ p0) p p0.fObjects.length∧Wq (SZ p0) p p0.fObjects.length≤16000000000000:=fun p=>by
    have:=Sj (p:=p) (B:=1000000000000) (by omega) p0.fObjects.length fun u hu=>aXj hV hu
    refine ⟨this.1,Int.le_trans this.2 ?_⟩
    have:(p0.fObjects.length:Int) * 1000000000000≤16 * 1000000000000:=Int.mul_le_mul_of_nonneg_right (by omega) (by omega)
    omega
  by_cases e:v∈D
  · rw [h.A1 v e]; exact key _
  · rw [h.A2 v hv e]; exact key _
end
open Go.Proofs Go.Proofs.Ytliccamocpglcaa
open Go.RM (uQ CV mj)
section
variable {p0:api_Heap}
open Classical in
open Classical in
end
open Go.Proofs Go.Proofs.Ytliccamocpglcaa
open Go.RM (uQ CV mj)
section
variable {p0:api_Heap}
end
end Go.VM
