/- The law holds: plain mathematics on what the functions compute. -/
import Derived.Test.YtliccamocpglcabL51B
namespace Go.VM
def fW {α ρ:Type} (g:Nat→α→Option ρ):List α→Nat→Option ρ
  | [],_=>none
  | y :: ys,i=>match g i y with
    | some r=>some r
    | none=>fW g ys (i + 1)
theorem zX {α ρ:Type} {g:Nat→α→Option ρ}:∀ {xs:List α} {i:Nat},fW g xs i = none↔∀ j y,xs[j]? = some y→g (i + j) y = none
  | [],i=>by simp [fW]
  | y :: ys,i=>by
    simp only [fW]
    cases h:g i y with
    | some r =>
      simp only [reduceCtorEq,false_iff]
      intro hx
      have:=hx 0 y rfl
      rw [Nat.add_zero,h] at this; simp at this
    | none =>
      rw [zX (xs:=ys) (i:=i + 1)]
      constructor
      · intro hx j y' hj
        cases j with
        | zero=>simp at hj; subst hj; exact h
        | succ j=>have:=hx j y' (by simpa using hj); rwa [show i + 1 + j = i + (j + 1) from by omega] at this
      · intro hx j y' hj
        have:=hx (j + 1) y' (by simpa using hj)
        rwa [show i + (j + 1) = i + 1 + j from by omega] at this
theorem wY {α ρ:Type} {g:Nat→α→Option ρ} {r:ρ}:∀ {xs:List α} {i:Nat},fW g xs i = some r→∃ j y,xs[j]? = some y∧g (i + j) y = some r∧∀ k z,k < j→xs[k]? = some z→g (i + k) z = none
  | [],i,h=>by simp [fW] at h
  | y :: ys,i,h=>by
    simp only [fW] at h
    cases hg:g i y with
    | some r' =>
      rw [hg] at h; cases h
      exact ⟨0,y,rfl,hg,fun k z hk=>by omega⟩
    | none =>
      rw [hg] at h
      obtain ⟨j,z,h1,h2,h3⟩:=wY h
      refine ⟨j + 1,z,by simpa using h1,by rw [← h2]; congr 1; omega,fun k u hk hu=>?_⟩
      cases k with
      | zero=>simp at hu; subst hu; exact hg
      | succ k=>have:=h3 k u (by omega) (by simpa using hu); rwa [show i + 1 + k = i + (k + 1) from by omega] at this
theorem S1 {α ρ:Type} (g:Nat → α → Option ρ) (e:ρ):∀ (xs:List α) (i:Nat),abx (fun i y (_:Unit) => match g i y with | some r => Sum.inr r | none => .inl ()) (fun _ => e) xs i () = (fW g xs i).getD e
  | [],_=>rfl
  | y :: ys,i=>by
    simp only [abx,fW]
    cases g i y with
    | some r=>rfl
    | none=>exact S1 g e ys (i + 1)
theorem ajW {α ρ:Type} {step:Int→Option (Int ⊕ ρ)} (xs:List α) (g:Nat→α→Option ρ) (e:ρ) (hl:xs.length < lX)
    (h1:∀ (i:Nat) y,xs[i]? = some y → step (i:Int) = some (match g i y with | some r => .inr r | none => .inl ((i:Int) + 1))) (h2:step (xs.length:Int) = some (.inr e)):loop step 0 = some ((fW g xs 0).getD e) := by
  have := XX (σ := Unit) (step := step) xs (fun i _ => (i:Int)) (fun i y _ => match g i y with | some r => .inr r | none => .inl ()) (fun _ => e) hl
    (fun i y s hy=>by
      rw [h1 i y hy]
      cases g i y <;> simp)
    (fun _=>h2) ()
  rw [show (0:Int) = ((0:Nat):Int) from rfl,this,S1]
theorem gz {α:Type} {xs:List α} {i:Nat} {y:α} (h:xs[i]? = some y):i < xs.length:=(cw.1 h).1
theorem vW {i:Nat} (h:i < 9223372036854775807):w64 ((i:Int) + 1) = (i:Int) + 1:=iZ (by omega)
end Go.VM
namespace Go.VM
def Ok {α:Type} (x:Option α) (P:α→Prop):Prop:=∃ r,x = some r∧P r
def Yes {α:Type}:α→Prop:=fun _=>True
def Q4 {α β:Type} (A:α→Prop) (B:β→Prop):α ⊕ β→Prop
  | .inl a=>A a
  | .inr b=>B b
theorem aNj {α:Type} {P:α→Prop} {r:α} (h:P r):Ok (some r) P:=⟨r,rfl,h⟩
theorem Cj {α β:Type} {A:α→Prop} {B:β→Prop} {a:α} (h:A a):Ok (some (.inl a)) (Q4 A B):=⟨_,rfl,h⟩
theorem B8 {α β:Type} {A:α→Prop} {B:β→Prop} {b:β} (h:B b):Ok (some (.inr b)) (Q4 A B):=⟨_,rfl,h⟩
theorem oK {α β:Type} {x:Option α} {f:α→Option β} {Q:α→Prop} {P:β→Prop} (hx:Ok x Q) (hf:∀ r,Q r→Ok (f r) P):Ok (x.bind f) P:=by
  obtain ⟨r,h1,h2⟩:=hx
  subst h1; exact hf r h2
theorem aIj {α β γ:Type} {x:Option (α ⊕ γ)} {f:α ⊕ γ→Option β} {Q:α ⊕ γ→Prop} {P:β→Prop} (hx:Ok x Q) (hf:∀ r,Q (.inl r)→Ok (f (.inl r)) P) (hg:∀ r,Q (.inr r)→Ok (f (.inr r)) P):Ok (x.bind f) P :=
  oK hx (fun r => match r with | .inl a => hf a | .inr b => hg b)
theorem FK {α:Type} {b:Bool} {x y:Option α} {P:α→Prop} (h1:b = true→Ok x P) (h2:b = false→Ok y P):Ok (cond b x y) P:=by
  cases b
  · exact h2 rfl
  · exact h1 rfl
theorem Ok.mono {α:Type} {x:Option α} {P Q:α→Prop} (h:Ok x P) (hq:∀ r,P r→Q r):Ok x Q:=by
  obtain ⟨r,h1,h2⟩:=h; exact ⟨r,h1,hq r h2⟩
theorem Ok.yes {α:Type} {x:Option α} {P:α→Prop} (h:Ok x P):Ok x Yes:=h.mono (fun _ _=>trivial)
theorem Kz {α:Type} {xs:List α} {i:Int} (h1:0≤i) (h2:i < xs.length):Ok (idx xs i) (fun y=>xs[i.toNat]? = some y):=by
  obtain ⟨n,rfl⟩:=Int.eq_ofNat_of_zero_le h1
  have h3:n < xs.length:=by omega
  rw [l7]
  exact ⟨xs[n],by simp [h3],by simp [h3]⟩
theorem Q8 {S ρ:Type} {step:S→Option (S ⊕ ρ)} (Inv:S→Prop) (m:S→Nat) {Post:ρ→Prop}
    (h:∀ s,Inv s→Ok (step s) (Q4 (fun s'=>Inv s'∧m s' < m s) Post)) {s:S} (hs:Inv s) (hm:m s < lX):Ok (loop step s) Post:=by
  refine aLx Inv m Post (fun s hs=>?_) hs hm
  obtain ⟨r,h1,h2⟩:=h s hs
  cases r with
  | inl a=>exact Or.inl ⟨a,h1,h2⟩
  | inr b=>exact Or.inr ⟨b,h1,h2⟩
theorem aXQ {ρ:Type} {step:Int→Option (Int ⊕ ρ)} (n:Nat) {Post:ρ→Prop} (hn:n≤9223372036854775807)
    (h:∀ i:Int,0≤i→i≤n→Ok (step i) (Q4 (fun a=>i < n∧a = i + 1) Post)):Ok (loop step 0) Post:=by
  refine Q8 (fun i:Int=>0≤i∧i≤(n:Int)) (fun i:Int=>((n:Int) - i).toNat) (fun i hi=>(h i hi.1 hi.2).mono ?_) ⟨by omega,by omega⟩ (by simp [lX]; omega)
  rintro (a | b) hr
  · obtain ⟨h1,rfl⟩ : i < n∧a = i + 1:=hr
    exact ⟨⟨by omega,by omega⟩,by omega⟩
  · exact hr
theorem Wx {α:Type} {r:α}:Ok (some r) Yes:=⟨r,rfl,trivial⟩
theorem Mx {α β:Type} {B:β→Prop} {a:α}:Ok (some (.inl a)) (Q4 Yes B):=⟨_,rfl,trivial⟩
theorem M0 {α β:Type} {A:α→Prop} {b:β}:Ok (some (.inr b)) (Q4 A Yes):=⟨_,rfl,trivial⟩
theorem MX {ρ:Type} {i:Int} {n:Nat} {P:ρ→Prop} (h1:0≤i) (h2:i < (n:Int)) (h3:n≤9223372036854775807):Ok (some (.inl (w64 (i + 1)))) (Q4 (fun a:Int=>i < (n:Int)∧a = i + 1) P) :=
  Cj ⟨h2,iZ (by omega)⟩
theorem yZ {α:Type} {p:Prop} [Decidable p] {x y:Option α} {P:α→Prop} (h1:p→Ok x P) (h2 : ¬p→Ok y P):Ok (cond (decide p) x y) P :=
  FK (fun h=>h1 (of_decide_eq_true h)) (fun h=>h2 (of_decide_eq_false h))
theorem MZ {α:Type} {p:Prop} [Decidable p] {x y:Option α} {P:α→Prop} (h1 : ¬p→Ok x P) (h2:p→Ok y P):Ok (cond (!decide p) x y) P:=by
  by_cases h:p
  · simpa [h] using h2 h
  · simpa [h] using h1 h
theorem S7 {α:Type} {b:Bool} {x y:Option α} {P:α→Prop} (h1:b = false→Ok x P) (h2:b = true→Ok y P):Ok (cond (!b) x y) P:=by
  cases b
  · exact h1 rfl
  · exact h2 rfl
theorem K7 {σ ρ:Type} {step:σ × Int→Option ((σ × Int) ⊕ ρ)} (n:Nat) (Inv:σ→Int→Prop) {Post:ρ→Prop} (hn:n≤9223372036854775807) {s0:σ} (h0:Inv s0 0)
    (h:∀ (s:σ) (i:Int),Inv s i→0≤i→i≤n→Ok (step (s,i)) (Q4 (fun a=>i < n∧a.2 = i + 1∧Inv a.1 (i + 1)) Post)):Ok (loop step (s0,0)) Post:=by
  refine Q8 (fun s:σ × Int=>Inv s.1 s.2∧0≤s.2∧s.2≤(n:Int)) (fun s:σ × Int=>((n:Int) - s.2).toNat) (fun s hi=>(h s.1 s.2 hi.1 hi.2.1 hi.2.2).mono ?_) ⟨h0,by simp,by simp⟩ (by simp [lX]; omega)
  rintro (⟨a,j⟩ | b) hr
  · obtain ⟨h1,h2,h3⟩ : s.2 < n∧j = s.2 + 1∧Inv a (s.2 + 1):=hr
    subst h2
    exact ⟨⟨h3,by simp; omega,by simp; omega⟩,by simp; omega⟩
  · exact hr
theorem L9 {σ ρ:Type} {s:σ} {i:Int} {n:Nat} {Inv:σ→Int→Prop} {P:ρ→Prop} (hI:Inv s (i + 1)) (h1:0≤i) (h2:i < (n:Int)) (h3:n≤9223372036854775807):Ok (some (.inl (s,w64 (i + 1)))) (Q4 (fun a:σ × Int=>i < (n:Int)∧a.2 = i + 1∧Inv a.1 (i + 1)) P) :=
  Cj ⟨h2,iZ (by omega),hI⟩
theorem aPq {b n:Nat} (h1:n * b≤140737488355328) (h2:n≤9223372036854775807):aBQ b n = true:=by
  simp only [aBQ,dw]
  exact ⟨Nat.ble_eq_true_of_le h1,Nat.ble_eq_true_of_le h2⟩
theorem N9 (c:Int):Ok (pq c) Yes:=by
  unfold pq eY lV
  repeat' (first | (with_reducible first | exact Wx | exact M0 | exact Mx | refine MZ (fun _=>?_) fun _=>?_ | refine yZ (fun _=>?_) fun _=>?_ | refine S7 (fun _=>?_) fun _=>?_ | refine FK (fun _=>?_) fun _=>?_) | (with_reducible refine MX ?_ ?_ ?_ <;> (first | assumption | omega | rw [iZ] <;> omega)) | with_reducible refine oK (Kz (by (first | assumption | omega | rw [iZ] <;> omega)) (by (first | assumption | omega | rw [iZ] <;> omega))) (fun _ _=>?_) | (with_reducible refine oK (Q:=Yes) ?_ fun _ _=>?_) | dsimp only)
theorem V2 (s:ByteArray) (h:s.size≤9223372036854775807):Ok (mq s) Yes:=by
  unfold mq
  refine oK (Q:=Yes) ?_ (fun v _=>?_)
  · repeat' (first | (with_reducible first | exact Wx | exact M0 | exact Mx | refine MZ (fun _=>?_) fun _=>?_ | refine yZ (fun _=>?_) fun _=>?_ | refine S7 (fun _=>?_) fun _=>?_ | refine FK (fun _=>?_) fun _=>?_) | (with_reducible refine MX ?_ ?_ ?_ <;> (first | assumption | omega | rw [iZ] <;> omega)) | with_reducible refine oK (Kz (by (first | assumption | omega | rw [iZ] <;> omega)) (by (first | assumption | omega | rw [iZ] <;> omega))) (fun _ _=>?_) | (with_reducible refine oK (Q:=Yes) ?_ fun _ _=>?_) | dsimp only)
  refine FK (fun _=>aNj trivial) (fun _=>?_)
  have e:s.data.toList.length = s.size:=by rw [Array.length_toList]; rfl
  refine aIj (Q:=Yes) (aXQ s.size h fun i h1 h2=>?_) (fun _ _=>?_) (fun _ _=>?_)
  · unfold nZ
    repeat' (first | (with_reducible first | exact Wx | exact M0 | exact Mx | refine MZ (fun _=>?_) fun _=>?_ | refine yZ (fun _=>?_) fun _=>?_ | refine S7 (fun _=>?_) fun _=>?_ | refine FK (fun _=>?_) fun _=>?_) | (with_reducible refine MX ?_ ?_ ?_ <;> (first | assumption | omega | rw [iZ] <;> omega)) | with_reducible refine oK (Kz (by (first | assumption | omega | rw [iZ] <;> omega)) (by (first | assumption | omega | rw [iZ] <;> omega))) (fun _ _=>?_) | (with_reducible refine Ok.yes (Kz ?_ (by rw [e]; (first | assumption | omega | rw [iZ] <;> omega))) <;> (first | assumption | omega | rw [iZ] <;> omega)) | (with_reducible refine Ok.yes (N9 _) <;> (first | assumption | omega | rw [iZ] <;> omega)) | (with_reducible refine oK (Q:=Yes) ?_ fun _ _=>?_) | dsimp only)
  · repeat' (first | (with_reducible first | exact Wx | exact M0 | exact Mx | refine MZ (fun _=>?_) fun _=>?_ | refine yZ (fun _=>?_) fun _=>?_ | refine S7 (fun _=>?_) fun _=>?_ | refine FK (fun _=>?_) fun _=>?_) | (with_reducible refine MX ?_ ?_ ?_ <;> (first | assumption | omega | rw [iZ] <;> omega)) | with_reducible refine oK (Kz (by (first | assumption | omega | rw [iZ] <;> omega)) (by (first | assumption | omega | rw [iZ] <;> omega))) (fun _ _=>?_) | (with_reducible refine oK (Q:=Yes) ?_ fun _ _=>?_) | dsimp only)
  · repeat' (first | (with_reducible first | exact Wx | exact M0 | exact Mx | refine MZ (fun _=>?_) fun _=>?_ | refine yZ (fun _=>?_) fun _=>?_ | refine S7 (fun _=>?_) fun _=>?_ | refine FK (fun _=>?_) fun _=>?_) | (with_reducible refine MX ?_ ?_ ?_ <;> (first | assumption | omega | rw [iZ] <;> omega)) | with_reducible refine oK (Kz (by (first | assumption | omega | rw [iZ] <;> omega)) (by (first | assumption | omega | rw [iZ] <;> omega))) (fun _ _=>?_) | (with_reducible refine oK (Q:=Yes) ?_ fun _ _=>?_) | dsimp only)
theorem aGW {S ρ:Type} {step:S→Option (S ⊕ ρ)} {Q:ρ→Prop} (h:∀ s r,step s = some (.inr r)→Q r) {s:S} {r:ρ} (hr:loop step s = some r):Q r:=by
  have key:∀ n s,iter step n s = some r→Q r:=by
    intro n
    induction n with
    | zero=>intro s h; simp [iter] at h
    | succ n ih =>
      intro s hs
      rw [EV] at hs
      cases e:step s with
      | none=>rw [e] at hs; simp at hs
      | some x =>
        rw [e] at hs
        cases x with
        | inl s'=>exact ih s' hs
        | inr r'=>simp only [fw] at hs; subst hs; exact h s _ e
  exact key _ s hr
theorem avQ (y:UInt8):pq (y.toNat:Int) = lQ (y.toNat:Int):=by
  have h:(List.range 256).all (fun n=>decide (pq (n:Int) = lQ (n:Int))) = true:=by kernel_rfl
  exact of_decide_eq_true (pw.1 h y.toNat (List.mem_range.2 (UInt8.toNat_lt y)))
theorem aAq (s:ByteArray):s = ⟨#[]⟩↔(s.size:Int) < 1:=by
  constructor
  · intro h; subst h; decide
  · intro h
    cases s with
    | mk a =>
      have:a.size = 0:=by
        have:(ByteArray.mk a).size = a.size:=rfl
        omega
      rw [Array.eq_empty_of_size_eq_zero this]
theorem aMV (s:ByteArray):mq s = kJ s:=by
  unfold mq kJ
  have h1:nZ s = m8 s:=by
    funext i
    simp only [nZ,m8,avQ]
  have h2:decide (s = ⟨#[]⟩) = decide ((ByteArray.size s:Int) < 1):=decide_eq_decide.2 (aAq s)
  rw [h1,h2] <;> rfl
theorem aMx {s:ByteArray} {r:Int} (h:mq s = some r):r = 0∨r = 3:=by
  unfold mq at h
  obtain ⟨v,_,h⟩:=bB h
  cases v with
  | true=>simp at h; exact .inr h.symm
  | false =>
    obtain ⟨q,hq,h⟩:=bB (show (loop (nZ s) 0).bind _ = some r from h)
    have:=aGW (Q:=fun q:Unit ⊕ Int=>∀ x,q = .inr x→x = 3) (fun i r hr=>by
      unfold nZ at hr
      by_cases hi:i < (ByteArray.size s:Int)
      · simp only [hi,decide_true,cond_true] at hr
        obtain ⟨y,_,hr⟩:=bB hr
        obtain ⟨z,_,hr⟩:=bB hr
        cases z
        · simp only [Bool.not_false,cond_true,fw,Sum.inr.injEq] at hr
          subst hr; intro x hx; cases hx; rfl
        · simp at hr
      · simp [hi] at hr; subst hr; intro x hx; cases hx) hq
    cases q with
    | inl _=>simp at h; exact .inl h.symm
    | inr x=>simp at h; subst h; exact .inr (this _ rfl)
theorem Ix {κ ν:Type} [DecidableEq κ] (k k':κ) (v:ν):∀ (m:List (κ × ν)),z8 k (Nj k' v m) = if k = k' then some v else z8 k m
  | []=>by simp [Nj,z8]
  | p :: r=>by
    simp only [Nj]
    by_cases e:k' = p.1
    · subst e
      simp only [qw,z8]
      by_cases e2:k = p.1 <;> simp [e2]
    · rw [if_neg e]
      simp only [z8]
      rw [Ix k k' v r]
      by_cases e2:k = p.1
      · subst e2
        rw [if_pos rfl,if_pos rfl,if_neg (fun h=>e h.symm)]
      · rw [if_neg e2,if_neg e2]
open Go.Proofs Go.Proofs.Ytliccamocpglcab
def R7:api_Heap:={ fObjects:=[⟨1,10,⟨#[116]⟩,[2,3]⟩,⟨2,10,⟨#[116]⟩,[4]⟩,⟨3,10,⟨#[116]⟩,[4]⟩,⟨4,10,⟨#[116]⟩,[]⟩],fRoots:=[1] }
theorem aYx:eV = some R7:=by kernel_rfl
theorem aGK:K9 R7 = some ([true,true,true,true],0):=by kernel_rfl
theorem aVq:Aq R7 = some ([-1,0,0,0],0):=by kernel_rfl
theorem aUX:D2 R7 = some ([40,10,10,10],0):=by kernel_rfl
theorem aRV:Ox R7 4 = some ([1,2,4],0):=by kernel_rfl
def ex4:List (Fin (fY R7).length):=[⟨0,by decide⟩,⟨1,by decide⟩,⟨2,by decide⟩,⟨3,by decide⟩]
theorem aPX:tj R7 2 = some (Go.RM.outT (fY R7) ((Go.RM.topSort (fY R7) [40,10,10,10,40] ex4).take 2),0):=by kernel_rfl
theorem aVJ:tj R7 2 = some ([1,2],0):=by
  rw [aPX]
  have h:Go.RM.topSort (fY R7) [40,10,10,10,40] ex4 = ex4:=by
    unfold Go.RM.topSort
    exact List.mergeSort_of_pairwise (by simp only [Go.RM.cf_lt]; decide +kernel)
  rw [h]
  rfl
theorem asj:gj = some true:=by
  unfold gj
  simp only [aYx,aGK,aVq,aUX,aRV,aVJ,gk]
  kernel_rfl
open Go.Proofs Go.Proofs.Ytliccamocpglcab
theorem Kq {α ρ σ:Type} (g:Nat→α→Option ρ) (f:ρ→σ):∀ (xs:List α) (i:Nat),fW (fun i y=>(g i y).map f) xs i = (fW g xs i).map f
  | [],_=>rfl
  | y :: ys,i=>by
    simp only [fW]
    cases g i y with
    | some r=>rfl
    | none=>exact Kq g f ys (i + 1)
def O7 {ρ:Type}:Option ρ→Unit ⊕ ρ
  | some r=>.inr r
  | none=>.inl ()
theorem u0 {α ρ:Type} {step:Int→Option (Int ⊕ (Unit ⊕ ρ))} (xs:List α) (g:Nat→α→Option ρ) (hl:xs.length≤1000000)
    (h1:∀ (i:Nat) y,xs[i]? = some y → step (i:Int) = some (match g i y with | some r => .inr (.inr r) | none => .inl ((i:Int) + 1))) (h2:step (xs.length:Int) = some (.inr (.inl ()))):loop step 0 = some (O7 (fW g xs 0)) := by
  rw [ajW xs (fun i y=>(g i y).map Sum.inr) (.inl ()) (by simp [lX]; omega) (fun i y hy=>by rw [h1 i y hy]; cases g i y <;> rfl) h2,Kq]
  cases fW g xs 0 <;> rfl
def Tq (l:List Int) (i:Nat):Int:=l.getD (i - 1) 0
theorem aeY {l:List Int} {i:Nat} {y:Int} (hy:l[i]? = some y) (hi:0 < i) (h:l.length≤1000000):idx l (w64 ((i:Int) - 1)) = some (Tq l i):=by
  have:=gz hy
  rw [iZ (by omega)]
  have e:(i:Int) - 1 = ((i - 1:Nat):Int):=by omega
  rw [e,l7,Tq,lw,ck (by omega)]
  rfl
def Q7 (p:Int→Bool) (l:List Int) (i:Nat) (n:Int):Option Int:=if p n = false then some 5 else if 0 < i∧n≤Tq l i then some 11 else none
def T7 (p:Int→Bool) (l:List Int):Int:=(fW (Q7 p l) l 0).getD 0
def uQ (p0:api_Heap) (n:Int):Bool:=p0.fObjects.any fun o=>decide (o.fId = n)
theorem aJx (l:List Int) (m:List (Int × Int)) (hl:l.length≤1000000):gW l m = some (T7 (fun n=>(z8 n m).isSome) l):=by
  unfold gW
  rw [u0 (step:=ij l m) l (Q7 (fun n=>(z8 n m).isSome) l) hl (fun i y hy=>by
    have hil:=gz hy
    have hw:=vW (show i < 9223372036854775807 by omega)
    unfold ij Q7
    simp only [show ((i:Int) < (l.length:Int)) from by omega,decide_true,cond_true,l7,hy,gk]
    by_cases hm:(z8 y m).isSome = true
    case neg=>rw [Bool.not_eq_true] at hm; simp [hm]
    case pos =>
      simp only [hm,Bool.not_true,cond_false,Bool.true_eq_false,qk]
      by_cases h0:0 < i
      · simp only [show (0:Int) < (i:Int) from by omega,decide_true,cond_true,aeY hy h0 hl,gk]
        by_cases h1:y≤Tq l i
        · simp [h0,h1]
        · rw [sk h1]
          simp [h0,h1,hw]
      · simp only [show ¬ (0:Int) < (i:Int) from by omega,decide_false,cond_false,gk]
        simp [h0,hw]) (by
    unfold ij
    simp)]
  unfold T7
  cases fW (Q7 (fun n=>(z8 n m).isSome) l) l 0 <;> rfl
def H4 (p0:api_Heap) (n:Int):Int × Bool:=match p0.fObjects.findIdx? (fun o=>decide (o.fId = n)) with
  | some k=>((k:Int),true)
  | none=>(0,false)
theorem KZ (n:Int):∀ (ys:List bY) (j:Nat),fW (fun i (o:bY)=>if o.fId = n then some (i:Int) else none) ys j = (ys.findIdx? (fun o=>decide (o.fId = n))).map fun k=>((k + j:Nat):Int)
  | [],j=>rfl
  | y :: ys,j=>by
    simp only [fW,List.findIdx?_cons]
    by_cases h:y.fId = n
    · simp [h]
    · simp only [h,qk,decide_false,KZ n ys (j + 1)]
      cases ys.findIdx? fun o=>decide (o.fId = n) with
      | none=>rfl
      | some k=>simp; omega
theorem ayz (p0:api_Heap) (n:Int) (hl:p0.fObjects.length≤1000000):mW p0 n = some (H4 p0 n):=by
  unfold mW
  rw [u0 (step:=kz p0 n) p0.fObjects (fun i o=>(if o.fId = n then some (i:Int) else none).map fun k=>(k,true)) hl (fun i y hy=>by
    have hil:=gz hy
    unfold kz
    simp only [show ((i:Int) < (p0.fObjects.length:Int)) from by omega,decide_true,cond_true,l7,hy,gk]
    by_cases h:y.fId = n
    · simp [h]
    · simp [h,vW (show i < 9223372036854775807 by omega)]) (by
    unfold kz
    simp),Kq,KZ]
  unfold H4
  cases p0.fObjects.findIdx? fun o=>decide (o.fId = n) <;> rfl
theorem arJ (p0:api_Heap) (n:Int) (hl:p0.fObjects.length≤1000000):eQ p0 n = some (H4 p0 n):=by
  unfold eQ eX
  rw [u0 (step:=cQ p0.fObjects n) p0.fObjects (fun i o=>(if o.fId = n then some (i:Int) else none)) hl (fun i y hy=>by
    have hil:=gz hy
    unfold cQ rj
    simp only [show ((i:Int) < (p0.fObjects.length:Int)) from by omega,decide_true,cond_true,l7,hy,gk]
    by_cases h:y.fId = n
    · simp [h]
    · simp [h,vW (show i < 9223372036854775807 by omega)]) (by
    unfold cQ
    simp),KZ]
  unfold H4
  cases p0.fObjects.findIdx? fun o=>decide (o.fId = n) with
  | none=>rfl
  | some k=>simp [O7]
theorem akZ (p0:api_Heap) (n:Int):(H4 p0 n).2 = uQ p0 n:=by
  unfold H4 uQ
  have h:(p0.fObjects.findIdx? fun o=>decide (o.fId = n)).isSome = p0.fObjects.any fun o=>decide (o.fId = n):=List.findIdx?_isSome ..
  rw [← h]
  cases p0.fObjects.findIdx? fun o=>decide (o.fId = n) <;> rfl
theorem apV (p0:api_Heap) (l:List Int) (hp:p0.fObjects.length≤1000000) (hl:l.length≤1000000):kV p0 l = some (T7 (uQ p0) l):=by
  unfold kV
  rw [u0 (step:=j9 p0 l) l (Q7 (uQ p0) l) hl (fun i y hy=>by
    have hil:=gz hy
    have hw:=vW (show i < 9223372036854775807 by omega)
    unfold j9 Q7
    simp only [show ((i:Int) < (l.length:Int)) from by omega,decide_true,cond_true,l7,hy,gk,ayz p0 y hp,akZ]
    cases hm:uQ p0 y with
    | false=>rfl
    | true =>
      simp only [Bool.not_true,cond_false]
      by_cases h0:0 < i
      · simp only [show (0:Int) < (i:Int) from by omega,decide_true,cond_true,aeY hy h0 hl,gk]
        by_cases h1:y≤Tq l i
        · simp [h0,h1]
        · rw [sk h1]
          simp [h0,h1,hw]
      · simp only [show ¬ (0:Int) < (i:Int) from by omega,decide_false,cond_false,gk]
        simp [h0,hw]) (by
    unfold j9
    simp)]
  unfold T7
  cases fW (Q7 (uQ p0) l) l 0 <;> rfl
theorem X2 {p:Int→Bool} {l:List Int} (h:T7 p l = 0):(∀ n∈l,p n = true)∧∀ i a b,l[i]? = some a→l[i + 1]? = some b→a < b:=by
  have hn:fW (Q7 p l) l 0 = none:=by
    unfold T7 at h
    cases hf:fW (Q7 p l) l 0 with
    | none=>rfl
    | some r =>
      rw [hf] at h
      obtain ⟨j,y,_,hg,_⟩:=wY hf
      unfold Q7 at hg
      simp only [Option.getD_some] at h
      subst h
      split at hg
      · cases hg
      · split at hg <;> cases hg
  rw [zX] at hn
  refine ⟨fun n hm=>?_,fun i a b ha hb=>?_⟩
  · obtain ⟨j,hj⟩:=Dk hm
    have:=hn j n hj
    unfold Q7 at this
    split at this
    · cases this
    · rename_i h; cases hp:p n with
      | true=>rfl
      | false=>exact absurd hp h
  · have:=hn (i + 1) b hb
    unfold Q7 at this
    split at this
    · cases this
    · split at this
      · cases this
      · rename_i h
        have hp:Tq l (0 + (i + 1)) = a:=by
          unfold Tq
          rw [lw,show 0 + (i + 1) - 1 = i from by omega,ha]; rfl
        rw [hp] at h
        omega
open Go.Proofs Go.Proofs.Ytliccamocpglcab
structure mQ (p0:api_Heap):Prop where
  n:p0.fObjects.length≤16
  r:p0.fRoots.length≤16
  refs:∀ o∈p0.fObjects,o.fRefs.length≤40
theorem aVK (p0:api_Heap):∃ b,ox p0 = some b∧(b = true↔mQ p0):=by
  unfold ox rW
  by_cases h1:(16:Int) < (p0.fObjects.length:Int)
  · exact ⟨false,by simp [h1],by simp; intro h; have:=h.n; omega⟩
  by_cases h2:(16:Int) < (p0.fRoots.length:Int)
  · exact ⟨false,by simp [h1,h2],by simp; intro h; have:=h.r; omega⟩
  have hl:p0.fObjects.length≤1000000:=by omega
  rw [u0 (step:=lj p0) p0.fObjects (fun _ o=>if 40 < o.fRefs.length then some false else none) hl (fun i y hy=>by
    have hil:=gz hy
    have hw:=vW (show i < 9223372036854775807 by omega)
    unfold lj
    simp only [show ((i:Int) < (p0.fObjects.length:Int)) from by omega,decide_true,cond_true,l7,hy,gk]
    by_cases h:40 < y.fRefs.length
    · have h':(40:Int) < (y.fRefs.length:Int):=by omega
      simp [h,h']
    · have h' : ¬ (40:Int) < (y.fRefs.length:Int):=by omega
      simp [h,h',hw]) (by unfold lj; simp)]
  cases hf:fW (fun _ (o:bY)=>if 40 < o.fRefs.length then some false else none) p0.fObjects 0 with
  | none =>
    refine ⟨true,by simp [h1,h2,O7],⟨fun _=>⟨by omega,by omega,fun o ho=>?_⟩,fun _=>rfl⟩⟩
    rw [zX] at hf
    obtain ⟨j,hj⟩:=Dk ho
    have:=hf j o hj
    split at this
    · cases this
    · omega
  | some r =>
    obtain ⟨j,y,hy,hg,_⟩:=wY hf
    split at hg
    · rename_i h
      cases hg
      refine ⟨false,by simp [h1,h2,O7],by simp; intro hF; have:=hF.refs y (jw hy); omega⟩
    · cases hg
def Sz (l:List bY) (i:Nat):Int:=(l[i - 1]?.map fun o=>o.fId).getD 0
def VV (s:ByteArray):Int:=(mq s).getD 0
theorem ajZ {s:ByteArray} (h:s.size≤9223372036854775807):mq s = some (VV s)∧kJ s = some (VV s)∧(VV s = 0∨VV s = 3):=by
  obtain ⟨r,hr,_⟩:=V2 s h
  have:VV s = r:=by unfold VV; rw [hr]; rfl
  rw [this,← aMV]
  exact ⟨hr,hr,aMx hr⟩
def ayQ (o:bY):Bool:=decide (o.fId < 0) || decide (1000000000000000 < o.fId) || decide (o.fSize < 0) || decide (1000000000000 < o.fSize)
def L6 (l:List bY) (i:Nat) (o:bY):Option Int:=if ayQ o = true then some 2 else if VV o.fType = 0 then (if 0 < i∧o.fId≤Sz l i then some 11 else none) else some 3
theorem X6 {l:List bY} {i:Nat} {y:bY} (hy:l[i]? = some y) (hi:0 < i) (h:l.length≤1000000):∃ z,idx l (w64 ((i:Int) - 1)) = some z∧z.fId = Sz l i:=by
  have:=gz hy
  rw [iZ (by omega)]
  have e:(i:Int) - 1 = ((i - 1:Nat):Int):=by omega
  rw [e,l7,Sz,ck (show i - 1 < l.length by omega)]
  exact ⟨_,rfl,rfl⟩
theorem asK (o:bY):((bif decide (o.fId < 0) then some true else bif decide (1000000000000000 < o.fId) then some true else bif decide (o.fSize < 0) then some true else some (decide (1000000000000 < o.fSize))):Option Bool) = some (ayQ o):=by
  unfold ayQ
  cases decide (o.fId < 0) <;> cases decide (1000000000000000 < o.fId) <;> cases decide (o.fSize < 0) <;> rfl
theorem awY (p0:api_Heap) (hn:p0.fObjects.length≤1000000) (hs:∀ o∈p0.fObjects,o.fType.size≤9223372036854775807):loop (jQ p0) 0 = some (O7 (fW (L6 p0.fObjects) p0.fObjects 0)):=by
  refine u0 p0.fObjects (L6 p0.fObjects) hn (fun i y hy=>?_) (by unfold jQ; simp)
  have hil:=gz hy
  have hw:=vW (show i < 9223372036854775807 by omega)
  obtain ⟨_,h2,h3⟩:=ajZ (hs y (jw hy))
  unfold jQ L6
  simp only [show ((i:Int) < (p0.fObjects.length:Int)) from by omega,decide_true,cond_true,l7,hy,gk,asK,h2]
  cases ayQ y with
  | true=>rfl
  | false =>
    simp only [cond_false,wk,qk]
    rcases h3 with h3 | h3
    · simp only [h3,decide_true,Bool.not_true,cond_false,qw]
      by_cases h0:0 < i
      · obtain ⟨z,hz,hz2⟩:=X6 hy h0 hn
        simp only [show (0:Int) < (i:Int) from by omega,decide_true,cond_true,hz,gk,hz2]
        by_cases h1:y.fId≤Sz p0.fObjects i
        · simp [h0,h1]
        · rw [sk h1]
          simp [h0,h1,hw]
      · simp only [show ¬ (0:Int) < (i:Int) from by omega,decide_false,cond_false,gk]
        simp [h0,hw]
    · simp [h3]
theorem PZ {g:Nat → bY → Option Int}:∀ (ys:List bY) (j:Nat) (m:List (Int × Int)),∃ m',abx (fun i o m => match g i o with | some r => Sum.inr (Sum.inr r) | none => Sum.inl (Nj o.fId (i:Int) m)) (fun m => Sum.inl m) ys j m = (match fW g ys j with | some r => Sum.inr r | none => Sum.inl m') ∧ ∀ k,(z8 k m').isSome = ((z8 k m).isSome || ys.any fun o => decide (o.fId = k))
  | [],j,m=>⟨m,rfl,fun k=>by simp⟩
  | y :: ys,j,m=>by
    simp only [abx,fW]
    cases hg:g j y with
    | some r=>exact ⟨Nj y.fId 0 (ys.foldr (fun o q=>Nj o.fId 0 q) m),by simp,fun k=>by
        rw [Ix,List.any_cons]
        by_cases e:k = y.fId
        · simp [e]
        · rw [if_neg e]
          have:∀ zs:List bY,(z8 k (zs.foldr (fun o q=>Nj o.fId 0 q) m)).isSome = ((z8 k m).isSome || zs.any fun o=>decide (o.fId = k)):=by
            intro zs
            induction zs with
            | nil=>simp
            | cons z zs ih =>
              rw [List.foldr_cons,Ix,List.any_cons]
              by_cases e:k = z.fId
              · simp [e]
              · rw [if_neg e,ih]; simp [Ne.symm e]
          rw [this]; simp [Ne.symm e]⟩
    | none =>
      obtain ⟨m',h1,h2⟩:=PZ (g:=g) ys (j + 1) (Nj y.fId (j:Int) m)
      refine ⟨m',h1,fun k=>?_⟩
      rw [h2,Ix,List.any_cons]
      by_cases e:k = y.fId
      · simp [e]
      · rw [if_neg e]; simp [Ne.symm e]
theorem aNV (p0:api_Heap) (hn:p0.fObjects.length ≤ 1000000) (hs:∀ o ∈ p0.fObjects,o.fType.size ≤ 9223372036854775807):∃ m,loop (mX p0) ([],0) = some (match fW (L6 p0.fObjects) p0.fObjects 0 with | some r => .inr r | none => .inl m) ∧ ∀ k,(z8 k m).isSome = uQ p0 k := by
  have h := XX (step := mX p0) (ρ := List (Int × Int) ⊕ Int) p0.fObjects (fun i (m:List (Int × Int)) => (m,(i:Int))) (fun i o m => match L6 p0.fObjects i o with | some r => Sum.inr (Sum.inr r) | none => Sum.inl (Nj o.fId (i:Int) m)) (fun m => Sum.inl m) (by simp [lX]; omega) (fun i y m hy => by
    have hil:=gz hy
    have hw:=vW (show i < 9223372036854775807 by omega)
    obtain ⟨h1,_,h3⟩:=ajZ (hs y (jw hy))
    unfold mX L6
    simp only [show ((i:Int) < (p0.fObjects.length:Int)) from by omega,decide_true,cond_true,l7,hy,gk,asK,h1]
    cases ayQ y with
    | true=>rfl
    | false =>
      simp only [cond_false,wk,qk]
      rcases h3 with h3 | h3
      · simp only [h3,decide_true,Bool.not_true,cond_false,qw]
        by_cases h0:0 < i
        · obtain ⟨z,hz,hz2⟩:=X6 hy h0 hn
          simp only [show (0:Int) < (i:Int) from by omega,decide_true,cond_true,hz,gk,hz2]
          by_cases h1:y.fId≤Sz p0.fObjects i
          · simp [h0,h1]
          · rw [sk h1]
            simp [h0,h1,hw]
        · simp only [show ¬ (0:Int) < (i:Int) from by omega,decide_false,cond_false,gk]
          simp [h0,hw]
      · simp [h3]) (fun m=>by unfold mX; simp) []
  obtain ⟨m',h1,h2⟩:=PZ (g:=L6 p0.fObjects) p0.fObjects 0 []
  refine ⟨m',by rw [← h1]; exact h,fun k=>?_⟩
  rw [h2]
  simp [uQ,z8]
open Go.Proofs Go.Proofs.Ytliccamocpglcab
def aXV (l:List Int):Prop:=∀ i a b,l[i]? = some a→l[i + 1]? = some b→a < b
structure hZ (p0:api_Heap):Prop where
  inc:∀ i a b,p0.fObjects[i]? = some a→p0.fObjects[i + 1]? = some b→a.fId < b.fId
  size:∀ o∈p0.fObjects,0≤o.fSize∧o.fSize≤1000000000000
  refs:∀ o∈p0.fObjects,(∀ n∈o.fRefs,uQ p0 n = true)∧aXV o.fRefs
  roots:(∀ n∈p0.fRoots,uQ p0 n = true)∧aXV p0.fRoots
def GX (p0:api_Heap) (_:Nat) (o:bY):Option Int:=if T7 (uQ p0) o.fRefs = 0 then none else some (T7 (uQ p0) o.fRefs)
section
variable {p0:api_Heap}
theorem aFz (hF:mQ p0):∃ e,loop (o7 p0) (0,0) = some e∧loop (qj p0) (0,0) = some e∧e≤20000:=by
  have hn:=hF.n
  have key:Ok (loop (o7 p0) (0,0)) (fun e=>e≤20000):=by
    refine K7 p0.fObjects.length (fun s i=>0≤s∧s≤40 * i) (by omega) ⟨by omega,by omega⟩ fun s i hI h0 h1=>?_
    unfold o7
    refine yZ (fun h=>?_) (fun h=>?_)
    · refine oK (Kz h0 h) fun y hy=>?_
      have hr:=hF.refs y (jw hy)
      rw [iZ (n:=s + (y.fRefs.length:Int)) (by omega)]
      exact L9 (Inv:=fun s i=>0≤s∧s≤40 * i) ⟨by omega,by omega⟩ h0 h (by omega)
    · exact B8 (by omega)
  obtain ⟨e,h1,h2⟩:=key
  exact ⟨e,h1,h1,h2⟩
theorem aFQ (hF:mQ p0) {m:List (Int × Int)} (hm:∀ k,(z8 k m).isSome = uQ p0 k):loop (oV p0 m) 0 = some (O7 (fW (GX p0) p0.fObjects 0)):=by
  have hn:=hF.n
  have hmf:(fun n=>(z8 n m).isSome) = uQ p0:=funext hm
  refine u0 p0.fObjects (GX p0) (by omega) (fun i y hy=>?_) (by unfold oV; simp)
  have hil:=gz hy
  have hw:=vW (show i < 9223372036854775807 by omega)
  have hr:=hF.refs y (jw hy)
  unfold oV GX
  simp only [show ((i:Int) < (p0.fObjects.length:Int)) from by omega,decide_true,cond_true,l7,hy,gk,aJx y.fRefs m (by omega),hmf]
  by_cases h:T7 (uQ p0) y.fRefs = 0
  · simp [h,hw]
  · simp [h]
theorem aHW (hF:mQ p0):loop (jZ p0) 0 = some (O7 (fW (GX p0) p0.fObjects 0)):=by
  have hn:=hF.n
  refine u0 p0.fObjects (GX p0) (by omega) (fun i y hy=>?_) (by unfold jZ; simp)
  have hil:=gz hy
  have hw:=vW (show i < 9223372036854775807 by omega)
  have hr:=hF.refs y (jw hy)
  unfold jZ GX
  simp only [show ((i:Int) < (p0.fObjects.length:Int)) from by omega,decide_true,cond_true,l7,hy,gk,apV p0 y.fRefs (by omega) (by omega)]
  by_cases h:T7 (uQ p0) y.fRefs = 0
  · simp [h,hw]
  · simp [h]
def GZ (p0:api_Heap):Int:=match fW (L6 p0.fObjects) p0.fObjects 0 with
  | some r=>r
  | none=>match fW (GX p0) p0.fObjects 0 with
    | some r=>r
    | none=>T7 (uQ p0) p0.fRoots
theorem anZ (hF:mQ p0) (hs:∀ o∈p0.fObjects,o.fType.size≤9223372036854775807):iW p0 = some (GZ p0):=by
  have hn:=hF.n
  have hr:=hF.r
  obtain ⟨e,h1,_,h2⟩:=aFz hF
  obtain ⟨m,h3,hm⟩:=aNV p0 (by omega) hs
  have hmf:(fun n=>(z8 n m).isSome) = uQ p0:=funext hm
  unfold iW GZ
  rw [h1,h3]
  simp only [gk,show ¬ (5000:Int) < (p0.fObjects.length:Int) from by omega,show ¬ (20000:Int) < e from by omega,show ¬ (5000:Int) < (p0.fRoots.length:Int) from by omega,decide_false,cond_false]
  cases fW (L6 p0.fObjects) p0.fObjects 0 with
  | some r=>rfl
  | none =>
    simp only [aFQ hF hm,gk]
    cases fW (GX p0) p0.fObjects 0 with
    | some r=>rfl
    | none=>simp only [O7,aJx p0.fRoots m (by omega),hmf,gk]
theorem Y9 (hF:mQ p0) (hs:∀ o∈p0.fObjects,o.fType.size≤9223372036854775807):l9 p0 = some (GZ p0):=by
  have hn:=hF.n
  have hr:=hF.r
  obtain ⟨e,_,h1,h2⟩:=aFz hF
  have h3:=awY p0 (by omega) hs
  unfold l9 GZ
  rw [h1,h3]
  simp only [gk,show ¬ (5000:Int) < (p0.fObjects.length:Int) from by omega,show ¬ (20000:Int) < e from by omega,show ¬ (5000:Int) < (p0.fRoots.length:Int) from by omega,decide_false,cond_false]
  cases fW (L6 p0.fObjects) p0.fObjects 0 with
  | some r=>rfl
  | none =>
    simp only [O7,aHW hF,gk]
    cases fW (GX p0) p0.fObjects 0 with
    | some r=>rfl
    | none=>simp only [O7,apV p0 p0.fRoots (by omega) (by omega),gk]
theorem aCZ (h:GZ p0 = 0):hZ p0:=by
  unfold GZ at h
  cases h1:fW (L6 p0.fObjects) p0.fObjects 0 with
  | some r =>
    rw [h1] at h
    obtain ⟨j,y,_,hg,_⟩:=wY h1
    unfold L6 at hg
    simp only at h
    subst h
    split at hg
    · cases hg
    · split at hg
      · split at hg <;> cases hg
      · cases hg
  | none =>
    rw [h1] at h
    simp only at h
    cases h2:fW (GX p0) p0.fObjects 0 with
    | some r =>
      rw [h2] at h
      obtain ⟨j,y,_,hg,_⟩:=wY h2
      unfold GX at hg
      simp only at h
      subst h
      split at hg
      · cases hg
      · rename_i hne; exact absurd (Option.some.inj hg) hne
    | none =>
      rw [h2] at h
      simp only at h
      rw [zX] at h1 h2
      refine ⟨fun i a b ha hb=>?_,fun o ho=>?_,fun o ho=>?_,X2 h⟩
      · have:=h1 (i + 1) b hb
        unfold L6 at this
        split at this
        · cases this
        · split at this
          · split at this
            · cases this
            · rename_i hh
              have hp:Sz p0.fObjects (0 + (i + 1)) = a.fId:=by
                unfold Sz
                rw [show 0 + (i + 1) - 1 = i from by omega,ha]; rfl
              rw [hp] at hh
              omega
          · cases this
      · obtain ⟨j,hj⟩:=Dk ho
        have:=h1 j o hj
        unfold L6 at this
        split at this
        · cases this
        · rename_i hb
          unfold ayQ at hb
          simp only [Bk,mw,not_or] at hb
          omega
      · obtain ⟨j,hj⟩:=Dk ho
        have:=h2 j o hj
        unfold GX at this
        split at this
        · rename_i h0; exact X2 h0
        · cases this
theorem auJ (hV:hZ p0):∀ (d i:Nat) (a b:bY),p0.fObjects[i]? = some a→p0.fObjects[i + d + 1]? = some b→a.fId < b.fId
  | 0,i,a,b,ha,hb=>hV.inc i a b ha hb
  | d + 1,i,a,b,ha,hb=>by
    have hl:=gz hb
    have hc:p0.fObjects[i + d + 1]? = some p0.fObjects[i + d + 1]:=ck (by omega)
    have h1:=auJ hV d i a _ ha hc
    have h2:=hV.inc (i + d + 1) _ b hc (by rw [show i + d + 1 + 1 = i + (d + 1) + 1 from by omega]; exact hb)
    omega
theorem aVW (hV:hZ p0) {i j:Nat} {a b:bY} (ha:p0.fObjects[i]? = some a) (hb:p0.fObjects[j]? = some b) (h:a.fId = b.fId):i = j:=by
  rcases Nat.lt_trichotomy i j with h1 | h1 | h1
  · have:=auJ hV (j - i - 1) i a b ha (by rw [show i + (j - i - 1) + 1 = j from by omega]; exact hb); omega
  · exact h1
  · have:=auJ hV (i - j - 1) j b a hb (by rw [show j + (i - j - 1) + 1 = i from by omega]; exact ha); omega
theorem arW (hV:hZ p0) {k:Nat} {o:bY} (ho:p0.fObjects[k]? = some o):H4 p0 o.fId = ((k:Int),true):=by
  unfold H4
  have h:p0.fObjects.findIdx? (fun x=>decide (x.fId = o.fId)) = some k:=by
    have hk:=gz ho
    rw [List.findIdx?_eq_some_iff_getElem]
    refine ⟨hk,by have:=(cw.1 ho).2; simp [this],fun j hj=>?_⟩
    have hjk:p0.fObjects[j]? = some p0.fObjects[j]:=ck (by omega)
    simp only [mw]
    intro e
    have:=aVW hV hjk ho e
    omega
  rw [h]
theorem asX {n:Int} (h:uQ p0 n = true):∃ (k:Nat) (o:bY),p0.fObjects[k]? = some o∧o.fId = n:=by
  unfold uQ at h
  rw [List.any_eq_true] at h
  obtain ⟨o,ho,h⟩:=h
  obtain ⟨k,hk⟩:=Dk ho
  exact ⟨k,o,hk,of_decide_eq_true h⟩
end
open Go.Proofs Go.Proofs.Ytliccamocpglcab
inductive Pw (E:Nat→Nat→Prop) (r:Nat) (w:Int):Nat→Nat→Prop
  | zero:Pw E r w 0 r
  | succ {m x y:Nat}:Pw E r w m x→E x y→(y:Int) ≠ w→Pw E r w (m + 1) y
def WW (p0:api_Heap) (i:Nat):List Int:=if i = p0.fObjects.length then p0.fRoots else match p0.fObjects[i]? with
  | some o=>o.fRefs
  | none=>[]
def Edge (p0:api_Heap) (i k:Nat):Prop:=∃ o,p0.fObjects[k]? = some o∧o.fId∈WW p0 i
abbrev Pth (p0:api_Heap) (w:Int) (m k:Nat):Prop:=Pw (Edge p0) p0.fObjects.length w m k
theorem Edge.lt {p0:api_Heap} {i k:Nat} (h:Edge p0 i k):k < p0.fObjects.length:=by
  obtain ⟨o,h1,_⟩:=h; exact gz h1
theorem Pw.pos_lt {p0:api_Heap} {w:Int} {m k:Nat} (h:Pth p0 w (m + 1) k):k < p0.fObjects.length:=by
  cases h with | succ _ h _ => exact h.lt
def LY (p0:api_Heap) (w:Int) (m k:Nat):Prop:=Pth p0 w m k∧∀ m',m' < m→¬ Pth p0 w m' k
theorem BJ {l:List Nat} {n:Nat} (hd:l.Nodup) (h:∀ x∈l,x < n):l.length≤n:=by
  induction n generalizing l with
  | zero =>
    cases l with
    | nil=>exact iw _
    | cons a l=>exact absurd (h a (Cw ..)) (by omega)
  | succ n ih =>
    have h1:(l.erase n).length≤n:=ih (hd.erase n) (fun x hx=>by
      have h2:=(List.Nodup.mem_erase_iff hd).1 hx
      have:=h x h2.2
      have:=h2.1
      omega)
    have h3:(l.erase n).length ≥ l.length - 1:=by
      rw [List.length_erase]; split <;> omega
    omega
theorem PV {p0:api_Heap} {w:Int}:∀ (m k:Nat),LY p0 w m k→∃ xs:List Nat,xs.length = m∧∀ i x,xs[i]? = some x→LY p0 w (i + 1) x
  | 0,k,_=>⟨[],rfl,fun i x h=>by simp at h⟩
  | m + 1,k,h=>by
    cases h.1 with
    | succ h1 h2 h3 =>
      rename_i x
      have hx:LY p0 w m x:=⟨h1,fun m' hm' hp=>h.2 (m' + 1) (by omega) (.succ hp h2 h3)⟩
      obtain ⟨xs,hl,hxs⟩:=PV m x hx
      refine ⟨xs++[k],by rw [vw,hl]; rfl,fun i y hy=>?_⟩
      by_cases hi:i < xs.length
      · rw [List.getElem?_append_left hi] at hy; exact hxs i y hy
      · have:i = m:=by
          have:=gz hy
          rw [vw] at this
          simp only [List.length_singleton] at this
          omega
        subst this
        rw [List.getElem?_append_right (by omega),hl,Nat.sub_self] at hy
        cases hy
        exact h
theorem akW {p0:api_Heap} {w:Int} {a b k:Nat} (h:LY p0 w a k) (h':LY p0 w b k):a = b:=by
  rcases Nat.lt_trichotomy a b with h1 | h1 | h1
  · exact absurd h.1 (h'.2 a h1)
  · exact h1
  · exact absurd h'.1 (h.2 b h1)
theorem adz {p0:api_Heap} {w:Int} {m k:Nat} (h:LY p0 w m k):m≤p0.fObjects.length:=by
  obtain ⟨xs,hl,hxs⟩:=PV m k h
  rw [← hl]
  refine BJ ?_ (fun x hx=>?_)
  · rw [List.nodup_iff_pairwise_ne,List.pairwise_iff_getElem]
    intro i j hi hj hij e
    have h1:=hxs i _ (ck hi)
    have h2:=hxs j _ (ck hj)
    rw [e] at h1
    have:=akW h1 h2
    omega
  · obtain ⟨i,hi⟩:=Dk hx
    exact (hxs i x hi).1.pos_lt
theorem NJ {p0:api_Heap} {w:Int}:∀ (m k:Nat),Pth p0 w m k→∃ m',m'≤m∧LY p0 w m' k:=by
  intro m
  induction m using Nat.strongRecOn with
  | ind m ih =>
    intro k h
    by_cases hh:∃ m',m' < m∧Pth p0 w m' k
    · obtain ⟨m',h1,h2⟩:=hh
      obtain ⟨m'',h3,h4⟩:=ih m' h1 k h2
      exact ⟨m'',by omega,h4⟩
    · exact ⟨m,iw _,h,fun m' h1 h2=>hh ⟨m',h1,h2⟩⟩
theorem aLX (l:List Int) (n:Int) (hl:l.length≤1000000):lJ l n = some (decide (n∈l)):=by
  unfold lJ
  rw [u0 (step:=lq l n) l (fun _ y=>if y = n then some true else none) hl (fun i y hy=>by
    have hil:=gz hy
    have hw:=vW (show i < 9223372036854775807 by omega)
    unfold lq
    simp only [show ((i:Int) < (l.length:Int)) from by omega,decide_true,cond_true,l7,hy,gk]
    by_cases h:y = n
    · simp [h]
    · simp [h,hw]) (by unfold lq; simp)]
  cases hf:fW (fun _ y=>if y = n then some true else none) l 0 with
  | none =>
    rw [zX] at hf
    have:n ∉ l:=fun hm=>by
      obtain ⟨j,hj⟩:=Dk hm
      have:=hf j n hj
      simp at this
    simp [O7,this]
  | some r =>
    obtain ⟨j,y,hy,hg,_⟩:=wY hf
    split at hg
    · rename_i h
      cases hg
      subst h
      simp [O7,jw hy]
    · cases hg
def Lev (p0:api_Heap) (w:Int) (j:Nat) (s:List Int):Prop:=s.length = p0.fObjects.length∧∀ k,k < p0.fObjects.length→(s.getD k 0 = 0∧∀ m,m≤j→¬ Pth p0 w m k)∨∃ m:Nat,0 < m∧m≤j∧s.getD k 0 = (m:Int)∧LY p0 w m k
section
variable {p0:api_Heap}
theorem Dz {l:List Int} {i:Nat} {v:Int} (h:i < l.length) (q:Nat):(l.set i v).getD q 0 = if q = i then v else l.getD q 0:=by
  rw [lw,lw,zw]
  by_cases e:i = q
  · subst e; rw [if_pos rfl,if_pos h,if_pos rfl]; rfl
  · rw [if_neg e,if_neg (Ne.symm e)]
theorem aTJ {l:List Int} {q:Nat} {y:Int} (h:l[q]? = some y):l.getD q 0 = y:=by rw [lw,h]; rfl
def C1 (p0:api_Heap) (w:Int) (out:List Int) (j i q:Nat):Prop:=out.getD i 0 = (j:Int)∧(q:Int) ≠ w∧out.getD q 0 = 0∧Edge p0 i q
theorem aMJ (hF:mQ p0) (w:Int) {out:List Int} (ho:out.length = p0.fObjects.length) {i j:Nat} (hi:i < p0.fObjects.length) (hj:1≤j∧j≤1000) :
    Ok (loop (jV p0 w (j:Int) (i:Int)) (out,0)) fun s=>s.length = p0.fObjects.length∧∀ q,q < p0.fObjects.length→(C1 p0 w out j i q∧s.getD q 0 = (j:Int) + 1)∨(¬ C1 p0 w out j i q∧s.getD q 0 = out.getD q 0):=by
  have hn:=hF.n
  refine K7 p0.fObjects.length (fun s k=>s.length = p0.fObjects.length∧∀ q,q < p0.fObjects.length→(((q:Int) < k∧C1 p0 w out j i q)∧s.getD q 0 = (j:Int) + 1)∨(¬ ((q:Int) < k∧C1 p0 w out j i q)∧s.getD q 0 = out.getD q 0)) (by omega) ⟨ho,fun q hq=>.inr ⟨fun h=>by omega,rfl⟩⟩ fun s k hI h0 h1=>?_
  obtain ⟨hl,hI⟩:=hI
  have hsi:s.getD i 0 = out.getD i 0:=by
    rcases hI i hi with ⟨⟨_,hc⟩,_⟩ | ⟨_,h⟩
    · have:=hc.1; have:=hc.2.2.1; omega
    · exact h
  obtain ⟨yi,hyi⟩ : ∃ y,s[i]? = some y:=⟨_,ck (by omega)⟩
  have hyi2:=aTJ hyi
  unfold jV
  simp only [l7,hyi,gk]
  by_cases hk:k < (s.length:Int)
  · simp only [hk,decide_true,cond_true,gk]
    by_cases hyj:yi = (j:Int)
    · simp only [hyj,decide_true,cond_true]
      obtain ⟨kn,rfl⟩:=Int.eq_ofNat_of_zero_le h0
      have hkn:kn < p0.fObjects.length:=by omega
      obtain ⟨yk,hyk⟩ : ∃ y,s[kn]? = some y:=⟨_,ck (by omega)⟩
      have hyk2:=aTJ hyk
      obtain ⟨oi,hoi⟩ : ∃ o,p0.fObjects[i]? = some o:=⟨_,ck hi⟩
      obtain ⟨ok,hok⟩ : ∃ o,p0.fObjects[kn]? = some o:=⟨_,ck hkn⟩
      have hre:=hF.refs oi (jw hoi)
      have hE:Edge p0 i kn↔ok.fId∈oi.fRefs:=by
        unfold Edge WW
        rw [if_neg (by omega),hoi]
        constructor
        · rintro ⟨o,h1,h2⟩; rw [hok] at h1; cases h1; exact h2
        · intro h; exact ⟨ok,hok,h⟩
      have hsk:s.getD kn 0 = out.getD kn 0:=by
        rcases hI kn hkn with ⟨⟨h,_⟩,_⟩ | ⟨_,h⟩
        · omega
        · exact h
      have hnext:∀ s':List Int,s'.length = p0.fObjects.length→(∀ q,q ≠ kn→s'.getD q 0 = s.getD q 0)→((C1 p0 w out j i kn∧s'.getD kn 0 = (j:Int) + 1)∨(¬ C1 p0 w out j i kn∧s'.getD kn 0 = out.getD kn 0)) →
          Ok (some (Sum.inl (s',w64 ((kn:Int) + 1)))) (Q4 (fun a:List Int × Int=>(kn:Int) < (p0.fObjects.length:Int)∧a.2 = (kn:Int) + 1∧(a.1.length = p0.fObjects.length∧∀ q,q < p0.fObjects.length→(((q:Int) < (kn:Int) + 1∧C1 p0 w out j i q)∧a.1.getD q 0 = (j:Int) + 1)∨(¬ ((q:Int) < (kn:Int) + 1∧C1 p0 w out j i q)∧a.1.getD q 0 = out.getD q 0))) fun s:List Int=>s.length = p0.fObjects.length∧∀ q,q < p0.fObjects.length→(C1 p0 w out j i q∧s.getD q 0 = (j:Int) + 1)∨(¬ C1 p0 w out j i q∧s.getD q 0 = out.getD q 0)):=by
        intro s' hl' hkeep hat
        refine Cj ⟨by omega,iZ (by omega),hl',fun q hq=>?_⟩
        by_cases e:q = kn
        · subst e
          rcases hat with ⟨h1,h2⟩ | ⟨h1,h2⟩
          · exact .inl ⟨⟨by omega,h1⟩,h2⟩
          · exact .inr ⟨fun h=>h1 h.2,h2⟩
        · rcases hI q hq with ⟨⟨h1,h2⟩,h3⟩ | ⟨h1,h2⟩
          · exact .inl ⟨⟨by omega,h2⟩,by rw [hkeep q e]; exact h3⟩
          · exact .inr ⟨fun h=>h1 ⟨by omega,h.2⟩,by rw [hkeep q e]; exact h2⟩
      have hsame : ¬ C1 p0 w out j i kn→Ok (some (Sum.inl (s,w64 ((kn:Int) + 1)))) _:=fun hc=>hnext s hl (fun _ _=>rfl) (.inr ⟨hc,hsk⟩)
      simp only [l7,hyk,hoi,hok,gk,aLX oi.fRefs ok.fId (by omega)]
      by_cases c1:(kn:Int) = w
      · have hd:decide ((kn:Int) = w) = true:=decide_eq_true c1
        simp only [hd,Bool.not_true,cond_false,gk]
        exact hsame fun h=>h.2.1 c1
      · simp only [c1,decide_false,Bool.not_false,cond_true,gk]
        by_cases c2:yk = 0
        · simp only [c2,decide_true,cond_true,gk]
          by_cases c3:ok.fId∈oi.fRefs
          · simp only [c3,decide_true,cond_true,gk]
            rw [iZ (n:=(j:Int) + 1) (by omega)]
            refine hnext _ (by rw [uw]; exact hl) (fun q hq=>?_) (.inl ⟨⟨by omega,c1,by omega,hE.2 c3⟩,?_⟩)
            · rw [show Int.toNat (kn:Int) = kn from rfl,Dz (by omega),if_neg hq]
            · rw [show Int.toNat (kn:Int) = kn from rfl,Dz (by omega),if_pos rfl]
          · simp only [c3,decide_false,cond_false,gk]
            exact hsame fun h=>c3 (hE.1 h.2.2.2)
        · simp only [c2,decide_false,cond_false,gk]
          exact hsame fun h=>by have:=h.2.2.1; omega
    · simp only [hyj,decide_false,cond_false]
      refine B8 ⟨hl,fun q hq=>.inr ⟨fun h=>by have:=h.1; omega,?_⟩⟩
      rcases hI q hq with ⟨⟨_,h2⟩,_⟩ | ⟨_,h2⟩
      · have:=h2.1; omega
      · exact h2
  · simp only [hk,decide_false,cond_false,gk]
    refine B8 ⟨hl,fun q hq=>?_⟩
    rcases hI q hq with ⟨⟨_,h2⟩,h3⟩ | ⟨h2,h3⟩
    · exact .inl ⟨h2,h3⟩
    · exact .inr ⟨fun h=>h2 ⟨by omega,h⟩,h3⟩
def C2 (p0:api_Heap) (w:Int) (out:List Int) (j i q:Nat):Prop:=∃ i',i' < i∧C1 p0 w out j i' q
theorem aOX (hF:mQ p0) (w:Int) {out:List Int} (ho:out.length = p0.fObjects.length) {j:Nat} (hj:1≤j∧j≤1000) :
    Ok (loop (jY p0 w (j:Int)) (out,0)) fun s:List Int=>s.length = p0.fObjects.length∧∀ q,q < p0.fObjects.length→(C2 p0 w out j p0.fObjects.length q∧s.getD q 0 = (j:Int) + 1)∨(¬ C2 p0 w out j p0.fObjects.length q∧s.getD q 0 = out.getD q 0):=by
  have hn:=hF.n
  refine K7 p0.fObjects.length (fun s k=>s.length = p0.fObjects.length∧∀ q,q < p0.fObjects.length→(C2 p0 w out j k.toNat q∧s.getD q 0 = (j:Int) + 1)∨(¬ C2 p0 w out j k.toNat q∧s.getD q 0 = out.getD q 0)) (by omega) ⟨ho,fun q hq=>.inr ⟨fun ⟨i',h,_⟩=>by simp at h,rfl⟩⟩ fun s k hI h0 h1=>?_
  obtain ⟨hl,hI⟩:=hI
  unfold jY
  obtain ⟨i,rfl⟩:=Int.eq_ofNat_of_zero_le h0
  simp only [Int.toNat_natCast] at hI
  refine yZ (fun h=>?_) (fun h=>?_)
  · have hi:i < p0.fObjects.length:=by omega
    refine oK (aMJ hF w hl hi hj) fun s' hs'=>?_
    obtain ⟨hl',hs'⟩:=hs'
    refine Cj ⟨by omega,iZ (by omega),hl',fun q hq=>?_⟩
    have hti:((i:Int) + 1).toNat = i + 1:=by omega
    rw [hti]
    have hsi:s.getD i 0 = (j:Int)↔out.getD i 0 = (j:Int):=by
      rcases hI i hi with ⟨⟨i',_,hc⟩,h2⟩ | ⟨_,h2⟩
      · have:=hc.2.2.1; omega
      · rw [h2]
    rcases hs' q hq with ⟨hc,h2⟩ | ⟨hc,h2⟩
    · have hsq:=hc.2.2.1
      rcases hI q hq with ⟨_,h3⟩ | ⟨h3,h4⟩
      · omega
      · exact .inl ⟨⟨i,by omega,hsi.1 hc.1,hc.2.1,by omega,hc.2.2.2⟩,h2⟩
    · rcases hI q hq with ⟨⟨i',hi',hc'⟩,h3⟩ | ⟨h3,h4⟩
      · exact .inl ⟨⟨i',by omega,hc'⟩,h2.trans h3⟩
      · refine .inr ⟨fun ⟨i',hi',hc'⟩=>?_,h2.trans h4⟩
        by_cases e:i' = i
        · subst e
          exact hc ⟨hsi.2 hc'.1,hc'.2.1,by rw [h4]; exact hc'.2.2.1,hc'.2.2.2⟩
        · exact h3 ⟨i',by omega,hc'⟩
  · refine B8 ⟨hl,fun q hq=>?_⟩
    have:i = p0.fObjects.length:=by omega
    subst this
    exact hI q hq
theorem aFW (w:Int) {j:Nat} (hj:1≤j) {out s:List Int} (hL:Lev p0 w j out) (hl:s.length = p0.fObjects.length)
    (hs:∀ q,q < p0.fObjects.length→(C2 p0 w out j p0.fObjects.length q∧s.getD q 0 = (j:Int) + 1)∨(¬ C2 p0 w out j p0.fObjects.length q∧s.getD q 0 = out.getD q 0)):Lev p0 w (j + 1) s:=by
  refine ⟨hl,fun k hk=>?_⟩
  rcases hs k hk with ⟨⟨i,hi,hc⟩,h2⟩ | ⟨hc,h2⟩
  · obtain ⟨c1,c2,c3,c4⟩:=hc
    refine .inr ⟨j + 1,by omega,iw _,by omega,?_⟩
    have hni:Pth p0 w j i:=by
      rcases hL.2 i hi with ⟨h,_⟩ | ⟨m,_,_,h3,h4⟩
      · omega
      · have:m = j:=by omega
        subst this; exact h4.1
    have hno:∀ m,m≤j→¬ Pth p0 w m k:=by
      rcases hL.2 k hk with ⟨_,h⟩ | ⟨m,h1,_,h3,_⟩
      · exact h
      · omega
    exact ⟨.succ hni c4 c2,fun m hm=>hno m (by omega)⟩
  · rcases hL.2 k hk with ⟨h3,h4⟩ | ⟨m,h3,h4,h5,h6⟩
    · refine .inl ⟨by omega,fun m hm hp=>?_⟩
      by_cases e:m≤j
      · exact h4 m e hp
      · have:m = j + 1:=by omega
        subst this
        cases hp with
        | succ p1 p2 p3 =>
          rename_i x
          have hx:x < p0.fObjects.length:=by
            cases j with
            | zero=>omega
            | succ j'=>exact p1.pos_lt
          refine hc ⟨x,hx,?_,p3,h3,p2⟩
          rcases hL.2 x hx with ⟨_,h⟩ | ⟨m,g1,g2,g3,g4⟩
          · exact absurd p1 (h j (iw _))
          · by_cases e2:m = j
            · rw [g3,e2]
            · exact absurd (Pw.succ g4.1 p2 p3) (h4 (m + 1) (by omega))
    · exact .inr ⟨m,h3,by omega,by omega,h6⟩
theorem aSZ (hF:mQ p0) (w:Int) {out:List Int} (hL:Lev p0 w 1 out):Ok (loop (jK p0 w) (out,1)) fun s=>Lev p0 w (p0.fObjects.length + 1) s:=by
  have hn:=hF.n
  refine Q8 (fun s:List Int × Int=>∃ j:Nat,s.2 = (j:Int)∧1≤j∧j≤p0.fObjects.length + 1∧Lev p0 w j s.1) (fun s=>(p0.fObjects.length + 1:Nat) - s.2.toNat) (fun s hs=>?_) ⟨1,rfl,iw _,by omega,hL⟩ (by simp [lX]; omega)
  obtain ⟨s,z⟩:=s
  obtain ⟨j,rfl,h1,h2,hL⟩:=hs
  unfold jK
  refine yZ (fun h=>?_) (fun h=>?_)
  · have hjl:j≤p0.fObjects.length:=by rw [hL.1] at h; omega
    refine oK (aOX hF w hL.1 ⟨h1,by omega⟩) fun s' hs'=>?_
    refine Cj ⟨⟨j + 1,?_,by omega,by omega,aFW w h1 hL hs'.1 hs'.2⟩,?_⟩
    · rw [iZ (by omega)]; omega
    · simp only
      rw [iZ (by omega)]
      omega
  · have:j = p0.fObjects.length + 1:=by rw [hL.1] at h; omega
    subst this
    exact B8 hL
theorem aPV (hF:mQ p0) (w:Int):Ok (loop (jJ p0 w) (List.replicate p0.fObjects.length 0,0)) fun s=>Lev p0 w 1 s:=by
  have hn:=hF.n
  have hr:=hF.r
  have hz:∀ q,(List.replicate p0.fObjects.length (0:Int)).getD q 0 = 0:=fun q=>by
    rw [lw,List.getElem?_replicate]
    split <;> rfl
  refine K7 p0.fObjects.length (fun s k=>s.length = p0.fObjects.length∧∀ q,q < p0.fObjects.length→(((q:Int) < k∧(q:Int) ≠ w∧Edge p0 p0.fObjects.length q)∧s.getD q 0 = 1)∨(¬ ((q:Int) < k∧(q:Int) ≠ w∧Edge p0 p0.fObjects.length q)∧s.getD q 0 = 0)) (by omega) ⟨by rw [nw],fun q hq=>.inr ⟨fun h=>by omega,hz q⟩⟩ fun s k hI h0 h1=>?_
  obtain ⟨hl,hI⟩:=hI
  unfold jJ
  obtain ⟨kn,rfl⟩:=Int.eq_ofNat_of_zero_le h0
  refine yZ (fun h=>?_) (fun h=>?_)
  · have hkn:kn < p0.fObjects.length:=by omega
    obtain ⟨ok,hok⟩ : ∃ o,p0.fObjects[kn]? = some o:=⟨_,ck hkn⟩
    obtain ⟨yk,hyk⟩ : ∃ y,s[kn]? = some y:=⟨_,ck (by omega)⟩
    have hE:Edge p0 p0.fObjects.length kn↔ok.fId∈p0.fRoots:=by
      unfold Edge WW
      rw [if_pos rfl]
      constructor
      · rintro ⟨o,h1,h2⟩; rw [hok] at h1; cases h1; exact h2
      · intro h; exact ⟨ok,hok,h⟩
    have hsk:s.getD kn 0 = 0:=by
      rcases hI kn hkn with ⟨⟨h,_⟩,_⟩ | ⟨_,h⟩
      · omega
      · exact h
    have hnext:∀ s':List Int,s'.length = p0.fObjects.length→(∀ q,q ≠ kn→s'.getD q 0 = s.getD q 0)→((((kn:Int) ≠ w∧Edge p0 p0.fObjects.length kn)∧s'.getD kn 0 = 1)∨(¬ ((kn:Int) ≠ w∧Edge p0 p0.fObjects.length kn)∧s'.getD kn 0 = 0)) →
        Ok (some (Sum.inl (s',w64 ((kn:Int) + 1)))) (Q4 (fun a:List Int × Int=>(kn:Int) < (p0.fObjects.length:Int)∧a.2 = (kn:Int) + 1∧(a.1.length = p0.fObjects.length∧∀ q,q < p0.fObjects.length→(((q:Int) < (kn:Int) + 1∧(q:Int) ≠ w∧Edge p0 p0.fObjects.length q)∧a.1.getD q 0 = 1)∨(¬ ((q:Int) < (kn:Int) + 1∧(q:Int) ≠ w∧Edge p0 p0.fObjects.length q)∧a.1.getD q 0 = 0))) fun s:List Int=>Lev p0 w 1 s):=by
      intro s' hl' hkeep hat
      refine Cj ⟨by omega,iZ (by omega),hl',fun q hq=>?_⟩
      by_cases e:q = kn
      · subst e
        rcases hat with ⟨h1,h2⟩ | ⟨h1,h2⟩
        · exact .inl ⟨⟨by omega,h1⟩,h2⟩
        · exact .inr ⟨fun h=>h1 h.2,h2⟩
      · rcases hI q hq with ⟨⟨h1,h2⟩,h3⟩ | ⟨h1,h2⟩
        · exact .inl ⟨⟨by omega,h2⟩,by rw [hkeep q e]; exact h3⟩
        · exact .inr ⟨fun h=>h1 ⟨by omega,h.2⟩,by rw [hkeep q e]; exact h2⟩
    have hsame : ¬ ((kn:Int) ≠ w∧Edge p0 p0.fObjects.length kn)→Ok (some (Sum.inl (s,w64 ((kn:Int) + 1)))) _:=fun hc=>hnext s hl (fun _ _=>rfl) (.inr ⟨hc,hsk⟩)
    simp only [l7,hok,hyk,gk,aLX p0.fRoots ok.fId (by omega)]
    by_cases c1:(kn:Int) = w
    · have hd:decide ((kn:Int) = w) = true:=decide_eq_true c1
      simp only [hd,Bool.not_true,cond_false,gk]
      exact hsame fun h=>h.1 c1
    · simp only [c1,decide_false,Bool.not_false,cond_true,gk]
      by_cases c3:ok.fId∈p0.fRoots
      · simp only [c3,decide_true,cond_true,gk]
        refine hnext _ (by rw [uw]; exact hl) (fun q hq=>?_) (.inl ⟨⟨c1,hE.2 c3⟩,?_⟩)
        · rw [show Int.toNat (kn:Int) = kn from rfl,Dz (by omega),if_neg hq]
        · rw [show Int.toNat (kn:Int) = kn from rfl,Dz (by omega),if_pos rfl]
      · simp only [c3,decide_false,cond_false,gk]
        exact hsame fun h=>c3 (hE.1 h.2)
  · have hkk:kn = p0.fObjects.length:=by omega
    refine B8 ⟨hl,fun q hq=>?_⟩
    have h0 : ¬ Pth p0 w 0 q:=fun hp=>by
      cases hp; omega
    rcases hI q hq with ⟨⟨_,h2,h3⟩,h4⟩ | ⟨h2,h3⟩
    · exact .inr ⟨1,by omega,iw _,h4,.succ .zero h3 h2,fun m' hm'=>by obtain rfl:m' = 0:=(by omega); exact h0⟩
    · refine .inl ⟨h3,fun m hm hp=>?_⟩
      rcases Nat.eq_zero_or_pos m with e | e
      · subst e; exact h0 hp
      · have:m = 1:=by omega
        subst this
        cases hp with
        | succ p1 p2 p3 =>
          cases p1
          exact h2 ⟨by omega,p3,p2⟩
def DistIs (p0:api_Heap) (w:Int) (d:List Int):Prop:=d.length = p0.fObjects.length∧∀ k,k < p0.fObjects.length→(d.getD k 0 = 0∧∀ m,¬ Pth p0 w m k)∨∃ m:Nat,0 < m∧d.getD k 0 = (m:Int)∧LY p0 w m k
theorem aaj (hF:mQ p0) (w:Int):∃ d,cj p0 w = some d∧DistIs p0 w d:=by
  have hn:=hF.n
  obtain ⟨s4,h4,hL4⟩:=aPV hF w
  obtain ⟨s3,h3,hL3⟩:=aSZ hF w hL4
  refine ⟨s3,?_,hL3.1,fun k hk=>?_⟩
  · unfold cj
    have hm:mkB 8 (p0.fObjects.length:Int) = true:=by unfold mkB; exact decide_eq_true (by omega)
    rw [hm,Int.toNat_natCast,h4]
    simp only [cond_true,gk,h3]
  · rcases hL3.2 k hk with ⟨h1,h2⟩ | ⟨m,h1,h2,h3,h4⟩
    · refine .inl ⟨h1,fun m hp=>?_⟩
      obtain ⟨m',_,hm'⟩:=NJ m k hp
      exact h2 m' (by have:=adz hm'; omega) hm'.1
    · exact .inr ⟨m,h1,h3,h4⟩
theorem DistIs.pos {w:Int} {d:List Int} (h:DistIs p0 w d) {k:Nat} (hk:k < p0.fObjects.length):0 < d.getD k 0↔∃ m,Pth p0 w m k:=by
  rcases h.2 k hk with ⟨h1,h2⟩ | ⟨m,h1,h2,h3⟩
  · constructor
    · intro h; omega
    · rintro ⟨m,hm⟩; exact absurd hm (h2 m)
  · constructor
    · intro _; exact ⟨m,h3.1⟩
    · intro _; omega
theorem DistIs.zero {w:Int} {d:List Int} (h:DistIs p0 w d) {k:Nat} (hk:k < p0.fObjects.length):d.getD k 0 = 0↔¬ ∃ m,Pth p0 w m k:=by
  rcases h.2 k hk with ⟨h1,h2⟩ | ⟨m,h1,h2,h3⟩
  · constructor
    · rintro _ ⟨m,hm⟩; exact h2 m hm
    · intro _; exact h1
  · constructor
    · intro h; omega
    · intro hh; exact absurd ⟨m,h3.1⟩ hh
end
open Go.Proofs Go.Proofs.Ytliccamocpglcab
open Go.RM (addS addsFrom adds HO fndN)
theorem N5 {α:Type} {l:List (List α)} {i:Nat} {v:List α} (h:i < l.length) (q:Nat):(l.set i v).getD q [] = if q = i then v else l.getD q []:=by
  rw [lw,lw,zw]
  by_cases e:i = q
  · subst e; rw [if_pos rfl,if_pos h,if_pos rfl]; rfl
  · rw [if_neg e,if_neg (Ne.symm e)]
theorem amV (i:Nat):∀ (l:List Nat) (p:List (List Nat) × List (List Nat)),i < p.1.length→∀ q,(l.foldl (fun p k=>addS p i k) p).1.getD q [] = if q = i then p.1.getD i []++l else p.1.getD q []
  | [],p,_,q=>by
    simp only [List.foldl_nil,List.append_nil]
    split
    · rename_i h; rw [h]
    · rfl
  | k :: l,p,h,q=>by
    rw [List.foldl_cons,amV i l (addS p i k) (by simp [addS]; exact h) q]
    simp only [addS]
    rw [N5 h,N5 h,if_pos rfl]
    by_cases e:q = i
    · rw [if_pos e,if_pos e,List.append_assoc]; rfl
    · rw [if_neg e,if_neg e,if_neg e]
theorem amZ (i:Nat):∀ (l:List Nat) (p:List (List Nat) × List (List Nat)) (k j:Nat),k < p.2.length→(j∈(l.foldl (fun p k=>addS p i k) p).2.getD k []↔j∈p.2.getD k []∨(j = i∧k∈l))
  | [],p,k,j,_=>by simp
  | a :: l,p,k,j,h=>by
    rw [List.foldl_cons,amZ i l (addS p i a) k j (by simp [addS]; exact h)]
    simp only [addS]
    by_cases e:k = a
    · subst e
      rw [N5 h,if_pos rfl,rk,fk]
      simp only [jk]
      constructor
      · rintro ((h1 | h1) | h1)
        · exact .inl h1
        · exact .inr ⟨h1,.inl trivial⟩
        · exact .inr ⟨h1.1,.inr h1.2⟩
      · rintro (h1 | ⟨h1,_⟩)
        · exact .inl (.inl h1)
        · exact .inl (.inr h1)
    · have:(p.2.set a (p.2.getD a []++[i])).getD k [] = p.2.getD k []:=by
        rw [lw,zw,if_neg (fun h=>e h.symm),← lw]
      rw [this]
      simp only [jk,e,false_or]
theorem anJ (fnd:Int→Nat):∀ (l:List HO) (j:Nat) (p:List (List Nat) × List (List Nat)),j + l.length≤p.1.length→∀ q,(addsFrom fnd j l p).1.getD q [] = p.1.getD q []++(if j≤q then ((l[q - j]?).map fun o=>o.refs.map fnd).getD [] else [])
  | [],j,p,_,q=>by simp [addsFrom]
  | o :: l,j,p,h,q=>by
    simp only [List.length_cons] at h
    have hl:=Go.RM.addSs_len j (o.refs.map fnd) p
    unfold addsFrom
    rw [anJ fnd l (j + 1) _ (by rw [hl.1]; omega) q,amV j _ p (by omega) q]
    by_cases e:q = j
    · subst e
      rw [if_pos rfl,if_neg (by omega),if_pos (iw _),Nat.sub_self,List.append_nil]; rfl
    · rw [if_neg e]
      by_cases h1:j≤q
      · rw [if_pos (by omega),if_pos h1,show q - j = (q - (j + 1)) + 1 from by omega,List.getElem?_cons_succ]
      · rw [if_neg (by omega),if_neg h1]
theorem aBK (fnd:Int→Nat):∀ (l:List HO) (j:Nat) (p:List (List Nat) × List (List Nat)) (k i:Nat),k < p.2.length→(i∈(addsFrom fnd j l p).2.getD k []↔i∈p.2.getD k []∨∃ t o,l[t]? = some o∧i = j + t∧k∈o.refs.map fnd)
  | [],j,p,k,i,_=>by simp [addsFrom]
  | o :: l,j,p,k,i,h=>by
    have hl:=Go.RM.addSs_len j (o.refs.map fnd) p
    unfold addsFrom
    rw [aBK fnd l (j + 1) _ k i (by rw [hl.2]; exact h),amZ j _ p k i h]
    constructor
    · rintro ((h1 | ⟨h1,h2⟩) | ⟨t,o',h1,h2,h3⟩)
      · exact .inl h1
      · exact .inr ⟨0,o,rfl,by omega,h2⟩
      · exact .inr ⟨t + 1,o',h1,by omega,h3⟩
    · rintro (h1 | ⟨t,o',h1,h2,h3⟩)
      · exact .inl (.inl h1)
      · cases t with
        | zero=>cases h1; exact .inl (.inr ⟨by omega,h3⟩)
        | succ t=>exact .inr ⟨t,o',h1,by omega,h3⟩
theorem ahQ {α:Type} (n q:Nat):(List.replicate n ([]:List α)).getD q [] = []:=by
  rw [lw,List.getElem?_replicate]
  split <;> rfl
section
variable {p0:api_Heap}
abbrev Kj (p0:api_Heap):Int→Nat:=fndN (eQ p0)
abbrev awX (p0:api_Heap):List (List Nat):=(adds (Kj p0) (fY p0) p0.fRoots).1
abbrev Lz (p0:api_Heap):List (List Nat):=(adds (Kj p0) (fY p0) p0.fRoots).2
theorem MK (i:Nat):(fY p0)[i]? = (p0.fObjects[i]?).map fun o=>⟨o.fId,o.fSize,o.fType,o.fRefs⟩:=by unfold fY; rw [gw]
theorem aGV:(awX p0).length = p0.fObjects.length + 1:=by
  have:=(Go.RM.adds_len (Kj p0) (fY p0) p0.fRoots).1
  rw [iz] at this; exact this
theorem aJV:(Lz p0).length = p0.fObjects.length + 1:=by
  have:=(Go.RM.adds_len (Kj p0) (fY p0) p0.fRoots).2
  rw [iz] at this; exact this
theorem aRx {i:Nat} (hi:i≤p0.fObjects.length):(awX p0).getD i [] = (WW p0 i).map (Kj p0):=by
  unfold awX adds
  have hl:=Go.RM.addsFrom_len (Kj p0) (fY p0) 0 (List.replicate ((fY p0).length + 1) [],List.replicate ((fY p0).length + 1) [])
  rw [amV _ _ _ (by rw [hl.1,nw]; omega),anJ _ _ _ _ (by rw [nw]; omega),anJ _ _ _ _ (by rw [nw]; omega)]
  simp only [ahQ,List.nil_append,Nat.zero_le,qw,Nat.sub_zero,MK]
  rw [iz]
  unfold WW
  by_cases e:i = p0.fObjects.length
  · rw [if_pos e,if_pos e,List.getElem?_eq_none (iw _)]
    rfl
  · rw [if_neg e,if_neg e]
    cases p0.fObjects[i]? <;> rfl
theorem aBV {k j:Nat} (hk:k≤p0.fObjects.length):j∈(Lz p0).getD k []↔j≤p0.fObjects.length∧k∈(WW p0 j).map (Kj p0):=by
  unfold Lz adds
  have hl:=Go.RM.addsFrom_len (Kj p0) (fY p0) 0 (List.replicate ((fY p0).length + 1) [],List.replicate ((fY p0).length + 1) [])
  have hh:=iz p0
  rw [amZ _ _ _ _ _ (by rw [hl.2,nw]; omega),aBK _ _ _ _ _ _ (by rw [nw]; omega)]
  simp only [ahQ,zk,false_or,MK,iz]
  unfold WW
  constructor
  · rintro (⟨t,o,h1,h2,h3⟩ | ⟨h1,h2⟩)
    · obtain ⟨o',h4,rfl⟩:=aw.1 h1
      have:=gz h4
      have hjt:j = t:=by omega
      subst hjt
      exact ⟨by omega,by rw [if_neg (by omega),h4]; exact h3⟩
    · subst h1; exact ⟨iw _,by rw [if_pos rfl]; exact h2⟩
  · rintro ⟨h1,h2⟩
    by_cases e:j = p0.fObjects.length
    · rw [if_pos e] at h2; exact .inr ⟨e,h2⟩
    · rw [if_neg e] at h2
      cases hj:p0.fObjects[j]? with
      | none=>rw [List.getElem?_eq_none_iff] at hj; omega
      | some o =>
        rw [hj] at h2
        exact .inl ⟨j,_,by rw [hj]; rfl,by omega,h2⟩
theorem aMX (hV:hZ p0) {i:Nat} {n:Int} (h:n∈WW p0 i):uQ p0 n = true:=by
  unfold WW at h
  split at h
  · exact hV.roots.1 n h
  · split at h
    · rename_i o ho; exact (hV.refs o (jw ho)).1 n h
    · simp at h
theorem aSK (hF:mQ p0) (hV:hZ p0) {k:Nat} {o:bY} (ho:p0.fObjects[k]? = some o):Kj p0 o.fId = k:=by
  have hn:=hF.n
  unfold Kj fndN
  rw [arJ p0 o.fId (by omega),arW hV ho]
  exact Int.toNat_natCast k
theorem aeX (hF:mQ p0) (hV:hZ p0) {i k:Nat}:k∈(WW p0 i).map (Kj p0)↔Edge p0 i k:=by
  rw [yw]
  constructor
  · rintro ⟨n,h1,rfl⟩
    obtain ⟨k,o,hk,rfl⟩:=asX (aMX hV h1)
    rw [aSK hF hV hk]
    exact ⟨o,hk,h1⟩
  · rintro ⟨o,hk,h1⟩
    exact ⟨o.fId,h1,aSK hF hV hk⟩
theorem atW (hF:mQ p0) (hV:hZ p0) {i k:Nat} (hi:i≤p0.fObjects.length):k∈(awX p0).getD i []↔Edge p0 i k:=by rw [aRx hi,aeX hF hV]
theorem aOq (hF:mQ p0) (hV:hZ p0) {i k:Nat} (hk:k≤p0.fObjects.length):i∈(Lz p0).getD k []↔i≤p0.fObjects.length∧Edge p0 i k:=by rw [aBV hk,aeX hF hV]
theorem aBx (hF:mQ p0) (hV:hZ p0):Go.RM.graphB (eQ p0) (fY p0) p0.fRoots = true:=by
  have hn:=hF.n
  have hr:=hF.r
  have key:∀ l:List Int,l.length≤1000→(∀ n∈l,uQ p0 n = true)→Go.RM.refsB (eQ p0) (fY p0).length l = true:=by
    intro l hl hh
    unfold Go.RM.refsB
    rw [dw,mw,pw]
    refine ⟨hl,fun n hm=>?_⟩
    obtain ⟨k,o,hk,rfl⟩:=asX (hh n hm)
    have:=gz hk
    rw [arJ p0 o.fId (by omega),arW hV hk]
    simp only [dw,mw,iz,Int.toNat_natCast]
    omega
  unfold Go.RM.graphB
  rw [dw,dw,mw,pw,iz]
  refine ⟨⟨by omega,fun o ho=>?_⟩,by rw [← iz p0]; exact key _ (by omega) hV.roots.1⟩
  unfold fY at ho
  obtain ⟨o',ho',rfl⟩:=yw.1 ho
  have:=hF.refs o' ho'
  rw [← iz p0]
  exact key _ (by simp only; omega) (hV.refs o' ho').1
end
open Go.Proofs Go.Proofs.Ytliccamocpglcab
open Go.RM (wZ NX)
section
variable (to:List (List Nat))
structure aYQ (i:Nat) (us us' nd:List Nat):Prop where
  nodup:us'.Nodup
  ndn:nd.Nodup
  part:∀ x,x∈us↔x∈us'∨x∈nd
  disj:∀ x∈nd,x ∉ us'
  last:∃ l,nd = l++[i]
  clos:∀ x∈nd,∀ y∈to.getD x [],y ∉ us'
  pred:∀ x∈nd,x ≠ i→∃ l1 l2,nd = l1++x :: l2∧∃ p∈l2,x∈to.getD p []
  len:us'.length < us.length
structure ahj (us0 done us nd:List Nat):Prop where
  nodup:us.Nodup
  ndn:nd.Nodup
  part:∀ x,x∈us0↔x∈us∨x∈nd
  disj:∀ x∈nd,x ∉ us
  clos:∀ x∈nd,∀ y∈to.getD x [],y ∉ us
  seen:∀ k∈done,k ∉ us
  pred:∀ x∈nd,x∈done∨∃ l1 l2,nd = l1++x :: l2∧∃ p∈l2,x∈to.getD p []
  len:us.length≤us0.length
variable {to}
theorem Z5 {f:Nat} (hv:∀ i us ord,us.length≤f→us.Nodup→i∈us→(∀ x∈us,x < to.length)→∃ us' nd,wZ f to i us ord = some (us',ord++nd)∧aYQ to i us us' nd) (us0:List Nat) (hf:us0.length≤f) (hlt:∀ x∈us0,x < to.length) :
    ∀ (l done us nd ord:List Nat),ahj to us0 done us nd→∃ us' nd',l.foldlM (NX f to) (us,ord++nd) = some (us',ord++nd')∧ahj to us0 (done++l) us' nd'
  | [],done,us,nd,ord,h=>⟨us,nd,rfl,by rw [List.append_nil]; exact h⟩
  | k :: l,done,us,nd,ord,h=>by
    rw [List.foldlM_cons]
    unfold NX
    by_cases hk:k∈us
    · rw [if_pos hk]
      have hus:∀ x∈us,x < to.length:=fun x hx=>hlt x ((h.part x).2 (.inl hx))
      obtain ⟨us',nd2,h1,q⟩:=hv k us (ord++nd) (Nat.le_trans h.len hf) h.nodup hk hus
      rw [h1]
      simp only [Option.bind_eq_bind,gk]
      have hsub:∀ x,x ∉ us→x ∉ us':=fun x hx hx'=>hx ((q.part x).2 (.inl hx'))
      have hq:ahj to us0 (done++[k]) us' (nd++nd2):=by
        refine ⟨q.nodup,?_,fun x=>?_,fun x hx=>?_,fun x hx y hy=>?_,fun x hx=>?_,fun x hx=>?_,by have:=q.len; have:=h.len; omega⟩
        · rw [List.nodup_append]
          exact ⟨h.ndn,q.ndn,fun a ha b hb e=>by subst e; exact h.disj a ha ((q.part a).2 (.inr hb))⟩
        · rw [h.part x,q.part x,rk]
          constructor
          · rintro ((h1 | h1) | h1)
            · exact .inl h1
            · exact .inr (.inr h1)
            · exact .inr (.inl h1)
          · rintro (h1 | h1 | h1)
            · exact .inl (.inl h1)
            · exact .inr h1
            · exact .inl (.inr h1)
        · rcases rk.1 hx with hx | hx
          · exact hsub x (h.disj x hx)
          · exact q.disj x hx
        · rcases rk.1 hx with hx | hx
          · exact hsub y (h.clos x hx y hy)
          · exact q.clos x hx y hy
        · rcases rk.1 hx with hx | hx
          · exact hsub x (h.seen x hx)
          · rw [fk.1 hx]
            obtain ⟨l',hl'⟩:=q.last
            exact q.disj k (by rw [hl']; simp)
        · rcases rk.1 hx with hx | hx
          · rcases h.pred x hx with h2 | ⟨l1,l2,h2,p,h3,h4⟩
            · exact .inl (List.mem_append_left _ h2)
            · exact .inr ⟨l1,l2++nd2,by rw [h2]; simp,p,List.mem_append_left _ h3,h4⟩
          · by_cases e:x = k
            · exact .inl (by rw [e]; simp)
            · obtain ⟨l1,l2,h2,p,h3,h4⟩:=q.pred x hx e
              exact .inr ⟨nd++l1,l2,by rw [h2]; simp,p,h3,h4⟩
      obtain ⟨us'',nd',h2,h3⟩:=Z5 hv us0 hf hlt l (done++[k]) us' (nd++nd2) ord hq
      refine ⟨us'',nd',?_,by rw [List.append_assoc] at h3; exact h3⟩
      rw [List.append_assoc]
      exact h2
    · rw [if_neg hk]
      simp only [Option.bind_eq_bind,gk]
      have hq:ahj to us0 (done++[k]) us nd:=⟨h.nodup,h.ndn,h.part,h.disj,h.clos,fun x hx=>by
        rcases rk.1 hx with hx | hx
        · exact h.seen x hx
        · rw [fk.1 hx]; exact hk,fun x hx=>(h.pred x hx).imp (List.mem_append_left _) id,h.len⟩
      obtain ⟨us'',nd',h2,h3⟩:=Z5 hv us0 hf hlt l (done++[k]) us nd ord hq
      exact ⟨us'',nd',h2,by rw [List.append_assoc] at h3; exact h3⟩
theorem aej:∀ (f i:Nat) (us ord:List Nat),us.length≤f→us.Nodup→i∈us→(∀ x∈us,x < to.length)→∃ us' nd,wZ f to i us ord = some (us',ord++nd)∧aYQ to i us us' nd
  | 0,i,us,ord,hl,_,hi,_=>by
    have:=List.length_pos_of_mem hi; omega
  | f + 1,i,us,ord,hl,hn,hi,hlt=>by
    have hil:=hlt i hi
    have hel:(us.erase i).length = us.length - 1:=List.length_erase_of_mem hi
    have hpos:=List.length_pos_of_mem hi
    have h0:ahj to (us.erase i) [] (us.erase i) []:=⟨hn.erase i,List.nodup_nil,fun x=>by simp,fun x hx=>by simp at hx,fun x hx=>by simp at hx,fun x hx=>by simp at hx,fun x hx=>by simp at hx,iw _⟩
    obtain ⟨us',nd,h1,q⟩:=Z5 (fun i us ord=>aej f i us ord) (us.erase i) (by omega) (fun x hx=>hlt x (List.mem_of_mem_erase hx)) (to.getD i []) [] (us.erase i) [] ord h0
    rw [List.nil_append] at q
    rw [List.append_nil] at h1
    have bQ:to[i]? = some (to.getD i []):=by rw [lw,ck hil]; rfl
    have hmem:∀ x,x∈us.erase i↔x ≠ i∧x∈us:=fun x=>List.Nodup.mem_erase_iff hn
    have hni:i ∉ us':=fun h=>by
      have:=(hmem i).1 ((q.part i).2 (.inl h)); exact this.1 rfl
    have hnd:i ∉ nd:=fun h=>by
      have:=(hmem i).1 ((q.part i).2 (.inr h)); exact this.1 rfl
    refine ⟨us',nd++[i],?_,⟨q.nodup,?_,fun x=>?_,fun x hx=>?_,⟨nd,rfl⟩,fun x hx y hy=>?_,fun x hx hne=>?_,by have:=q.len; omega⟩⟩
    · rw [Go.RM.visitF_succ,bQ]
      simp only [h1,List.append_assoc]
    · rw [List.nodup_append]
      exact ⟨q.ndn,by simp,fun a ha b hb e=>by rw [fk.1 hb] at e; exact hnd (e ▸ ha)⟩
    · rw [rk,fk]
      by_cases e:x = i
      · subst e; simp [hi]
      · have:=q.part x
        rw [hmem x] at this
        simp only [e,or_false]
        rw [← this]
        simp [e]
    · rcases rk.1 hx with hx | hx
      · exact q.disj x hx
      · rw [fk.1 hx]; exact hni
    · rcases rk.1 hx with hx | hx
      · exact q.clos x hx y hy
      · rw [fk.1 hx] at hy
        exact q.seen y hy
    · rcases rk.1 hx with hx | hx
      · rcases q.pred x hx with h2 | ⟨l1,l2,h2,p,h3,h4⟩
        · obtain ⟨l1,l2,h3⟩:=List.append_of_mem hx
          exact ⟨l1,l2++[i],by rw [h3]; simp,i,by simp,h2⟩
        · exact ⟨l1,l2++[i],by rw [h2]; simp,p,List.mem_append_left _ h3,h4⟩
      · exact absurd (fk.1 hx) hne
end
open Go.Proofs Go.Proofs.Ytliccamocpglcab
open Go.RM (wZ iK QK valsF)
theorem acW:∀ (ord:List Nat) (j:Nat) (p:List Nat × List Bool),ord.Nodup→(∀ x∈ord,x < p.1.length∧x < p.2.length) →
    (∀ (i:Nat) x,ord[i]? = some x→(iK j ord p).1[x]? = some (j + i))∧(∀ x,x ∉ ord→(iK j ord p).1[x]? = p.1[x]?∧(iK j ord p).2[x]? = p.2[x]?)∧∀ x∈ord,(iK j ord p).2[x]? = some true
  | [],j,p,_,_=>⟨fun i x h=>by simp at h,fun x _=>⟨rfl,rfl⟩,fun x h=>by simp at h⟩
  | a :: l,j,p,hn,hlt=>by
    obtain ⟨ha,hn'⟩:=List.nodup_cons.1 hn
    obtain ⟨h1,h2,h3⟩:=acW l (j + 1) (p.1.set a j,p.2.set a true) hn' (fun x hx=>by simp only [uw]; exact hlt x (vk _ hx))
    have hal:=hlt a (Cw ..)
    unfold iK
    refine ⟨fun i x hx=>?_,fun x hx=>?_,fun x hx=>?_⟩
    · cases i with
      | zero =>
        cases hx
        rw [(h2 a ha).1]
        simp only
        rw [zw,if_pos rfl,if_pos hal.1]; rfl
      | succ i =>
        rw [h1 i x hx]
        congr 1
        omega
    · rw [jk,not_or] at hx
      rw [(h2 x hx.2).1,(h2 x hx.2).2]
      simp only
      rw [zw,zw,if_neg (Ne.symm hx.1),if_neg (Ne.symm hx.1)]
      exact ⟨rfl,rfl⟩
    · rcases jk.1 hx with rfl | hx
      · rw [(h2 x ha).2]
        simp only
        rw [zw,if_pos rfl,if_pos hal.2]
      · exact h3 x hx
section
variable {p0:api_Heap}
structure OrdQ (p0:api_Heap) (ls:List Nat):Prop where
  nodup:(p0.fObjects.length :: ls).Nodup
  lt:∀ x∈ls,x < p0.fObjects.length
  mem:∀ x,x∈p0.fObjects.length :: ls↔∃ m,Pth p0 (-1) m x
  pred:∀ x∈ls,∃ l1 l2,p0.fObjects.length :: ls = l1++x :: l2∧∃ p∈l1,Edge p0 p x
theorem aVQ (hF:mQ p0) (hV:hZ p0):∃ ls,QK (eQ p0) (fY p0) p0.fRoots = some (p0.fObjects.length :: ls)∧OrdQ p0 ls:=by
  have hn:=hF.n
  have htl:(awX p0).length = p0.fObjects.length + 1:=aGV
  obtain ⟨us',nd,h1,q⟩:=aej (to:=awX p0) 100 p0.fObjects.length (List.range (p0.fObjects.length + 1)) [] (by rw [List.length_range]; omega) List.nodup_range (List.mem_range.2 (by omega)) (fun x hx=>by rw [htl]; exact List.mem_range.1 hx)
  rw [List.nil_append] at h1
  obtain ⟨l,hl⟩:=q.last
  have hndlt:∀ x∈nd,x < p0.fObjects.length + 1:=fun x hx=>List.mem_range.1 ((q.part x).2 (.inr hx))
  have hrev:nd.reverse = p0.fObjects.length :: l.reverse:=by rw [hl]; simp
  have hlen:nd.length≤p0.fObjects.length + 1:=BJ q.ndn hndlt
  have hpred:∀ x∈nd,x ≠ p0.fObjects.length→∃ l1 l2,nd.reverse = l1++x :: l2∧∃ p∈l1,Edge p0 p x:=fun x hx hne=>by
    obtain ⟨l1,l2,e,p,hp,hpx⟩:=q.pred x hx hne
    refine ⟨l2.reverse,l1.reverse,by rw [e]; simp,p,List.mem_reverse.2 hp,?_⟩
    have hpn:p∈nd:=by rw [e]; simp [hp]
    exact (atW hF hV (by have:=hndlt p hpn; omega)).1 hpx
  have hreach:∀ (j:Nat) (l1:List Nat) (x:Nat) (l2:List Nat),l1.length = j→nd.reverse = l1++x :: l2→∃ m,Pth p0 (-1) m x:=by
    intro j
    induction j using Nat.strongRecOn with
    | ind j ih =>
      intro l1 x l2 hj e
      by_cases hx:x = p0.fObjects.length
      · subst hx; exact ⟨0,.zero⟩
      · have hxn:x∈nd:=List.mem_reverse.1 (by rw [e]; simp)
        obtain ⟨a1,a2,e2,p,hp,hE⟩:=hpred x hxn hx
        have hnd:nd.reverse.Nodup:=List.pairwise_reverse.2 (q.ndn.imp fun h=>Ne.symm h)
        have hl1:l1 = a1:=by
          rw [e] at e2 hnd
          have hx1:x ∉ l1:=fun h=>by
            rw [List.nodup_append] at hnd
            exact hnd.2.2 x h x (by simp) rfl
          have hx2:x ∉ a1:=fun h=>by
            rw [e2,List.nodup_append] at hnd
            exact hnd.2.2 x h x (by simp) rfl
          rcases List.append_eq_append_iff.1 e2 with ⟨c,hc1,hc2⟩ | ⟨c,hc1,hc2⟩
          · cases c with
            | nil=>rw [hc1,List.append_nil]
            | cons z c =>
              simp only [List.cons_append,List.cons.injEq] at hc2
              rw [hc1,← hc2.1] at hx2; simp at hx2
          · cases c with
            | nil=>rw [hc1,List.append_nil]
            | cons z c =>
              simp only [List.cons_append,List.cons.injEq] at hc2
              rw [hc1,← hc2.1] at hx1; simp at hx1
        subst hl1
        obtain ⟨b1,b2,e3⟩:=List.append_of_mem hp
        obtain ⟨m,hm⟩:=ih b1.length (by rw [← hj,e3,vw,List.length_cons]; omega) b1 p (b2++x :: l2) rfl (by rw [e,e3]; simp)
        exact ⟨m + 1,.succ hm hE (by omega)⟩
  refine ⟨l.reverse,?_,⟨?_,fun x hx=>?_,fun x=>?_,fun x hx=>?_⟩⟩
  · unfold QK
    rw [aBx hF hV]
    simp only [cond_true,iz]
    have h1':wZ 100 (Go.RM.adds (Kj p0) (fY p0) p0.fRoots).1 p0.fObjects.length (List.range (p0.fObjects.length + 1)) [] = some (us',nd):=h1
    rw [h1']
    have hb:(decide (nd.length≤1000) && nd.all (fun i=>decide (i < p0.fObjects.length + 1))) = true:=by
      rw [dw,mw,pw]
      exact ⟨by omega,fun x hx=>decide_eq_true (hndlt x hx)⟩
    simp only [hb,cond_true,hrev]
  · rw [← hrev]
    exact List.pairwise_reverse.2 (q.ndn.imp fun h=>Ne.symm h)
  · have hxn:x∈nd:=by rw [hl]; simp [List.mem_reverse.1 hx]
    have h2:=hndlt x hxn
    have h3:x ≠ p0.fObjects.length:=fun e=>by
      have:=q.ndn
      rw [hl,List.nodup_append] at this
      exact this.2.2 x (List.mem_reverse.1 hx) p0.fObjects.length (by simp) e
    omega
  · rw [← hrev,List.mem_reverse]
    constructor
    · intro hx
      obtain ⟨l1,l2,e⟩:=List.append_of_mem (List.mem_reverse.2 hx)
      exact hreach l1.length l1 x l2 rfl e
    · rintro ⟨m,hm⟩
      induction hm with
      | zero=>rw [hl]; simp
      | @succ m x y p1 p2 _ ih =>
        have h2:=q.clos x ih y ((atW hF hV (by have:=hndlt x ih; omega)).2 p2)
        rcases (q.part y).1 (List.mem_range.2 (by have := p2.lt; omega)) with h3 | h3
        · exact absurd h3 h2
        · exact h3
  · have hxn:x∈nd:=by rw [hl]; simp [List.mem_reverse.1 hx]
    have h3:x ≠ p0.fObjects.length:=fun e=>by
      have:=q.ndn
      rw [hl,List.nodup_append] at this
      exact this.2.2 x (List.mem_reverse.1 hx) p0.fObjects.length (by simp) e
    rw [← hrev]
    exact hpred x hxn h3
theorem OrdQ.vals {ls:List Nat} (h:OrdQ p0 ls):(∀ (i:Nat) x,(p0.fObjects.length :: ls)[i]? = some x→(valsF p0.fObjects.length (p0.fObjects.length :: ls)).1[x]? = some i) ∧
    ∀ x,x≤p0.fObjects.length→((valsF p0.fObjects.length (p0.fObjects.length :: ls)).2.getD x false = true↔x∈p0.fObjects.length :: ls):=by
  have hlt:∀ x∈p0.fObjects.length :: ls,x < p0.fObjects.length + 1:=fun x hx=>by
    rcases jk.1 hx with rfl | hx
    · omega
    · have:=h.lt x hx; omega
  obtain ⟨h1,h2,h3⟩:=acW (p0.fObjects.length :: ls) 0 (List.replicate (p0.fObjects.length + 1) 0,List.replicate (p0.fObjects.length + 1) false) h.nodup (fun x hx=>by simp only [nw]; exact ⟨hlt x hx,hlt x hx⟩)
  unfold valsF
  refine ⟨fun i x hx=>by rw [h1 i x hx,Nat.zero_add],fun x hx=>?_⟩
  rw [lw]
  constructor
  · intro hh
    apply Classical.byContradiction
    intro hne
    rw [(h2 x hne).2,List.getElem?_replicate,if_pos (by omega)] at hh
    simp at hh
  · intro hh
    rw [h3 x hh]; rfl
end
open Go.Proofs Go.Proofs.Ytliccamocpglcab
open Go.RM (QK valsF)
section
variable {p0:api_Heap}
end
open Go.Proofs Go.Proofs.Ytliccamocpglcab
section
variable {p0:api_Heap}
theorem azj {α ρ:Type} (l:List α):fW (fun (_:Nat) (_:α)=>(none:Option ρ)) l 0 = none:=zX.2 fun _ _ _=>rfl
end
open Go.Proofs Go.Proofs.Ytliccamocpglcab
open Go.RM (vK Dj G9 K0)
inductive Anc (d:Nat→Nat) (r:Nat):Nat→Nat→Prop
  | refl (v:Nat):Anc d r v v
  | up {v a:Nat}:v ≠ r→Anc d r (d v) a→Anc d r v a
theorem Anc.trans {d:Nat→Nat} {r a b c:Nat} (h:Anc d r a b) (h':Anc d r b c):Anc d r a c:=by
  induction h with
  | refl=>exact h'
  | up hn _ ih=>exact .up hn (ih h')
theorem Anc.linear {d:Nat→Nat} {r v a b:Nat} (h:Anc d r v a) (h':Anc d r v b):Anc d r a b∨Anc d r b a:=by
  induction h with
  | refl=>exact .inl h'
  | up hn ha ih =>
    cases h' with
    | refl=>exact .inr (.up hn ha)
    | up _ hb=>exact ih hb
structure Tree (d P:Nat→Nat) (r:Nat) (K:Nat→Prop):Prop where
  root:K r
  up:∀ v,K v→v ≠ r→K (d v)∧P (d v) < P v
  inj:∀ u v,K u→K v→P u = P v→u = v
section
variable {d P:Nat→Nat} {r:Nat} {K:Nat→Prop}
theorem Tree.anc (hT:Tree d P r K) {v a:Nat} (h:Anc d r v a):K v→K a∧P a≤P v∧(P a = P v→a = v):=by
  induction h with
  | refl v=>exact fun hk=>⟨hk,iw _,fun _=>rfl⟩
  | up hn _ ih =>
    intro hk
    obtain ⟨h1,h2⟩:=hT.up _ hk hn
    obtain ⟨h3,h4,_⟩:=ih h1
    exact ⟨h3,by omega,fun h=>by omega⟩
theorem Tree.anc_root (hT:Tree d P r K):∀ (n v:Nat),P v≤n→K v→Anc d r v r:=by
  intro n
  induction n with
  | zero =>
    intro v hv hk
    by_cases e:v = r
    · subst e; exact .refl _
    · have:=(hT.up v hk e).2; omega
  | succ n ih =>
    intro v hv hk
    by_cases e:v = r
    · subst e; exact .refl _
    · obtain ⟨h1,h2⟩:=hT.up v hk e
      exact .up e (ih _ (by omega) h1)
theorem Tree.root_anc (_:Tree d P r K) {a:Nat} (h:Anc d r r a):a = r:=by
  cases h with
  | refl=>rfl
  | up h _=>exact absurd rfl h
theorem Tree.anti (hT:Tree d P r K) {u v:Nat} (hu:K u) (hv:K v) (h:Anc d r u v) (h':Anc d r v u):u = v:=by
  have h1:=hT.anc h hu
  have h2:=hT.anc h' hv
  exact (h1.2.2 (by omega)).symm
def turn (d:Nat→Nat) (i b:Nat):Nat→Nat:=fun v=>if v = i then b else d v
theorem tJ {i b v:Nat} (h:v ≠ i):turn d i b v = d v:=if_neg h
theorem Tree.small (hT:Tree d P r K) {i b v a:Nat} (h:Anc d r v a):K v→P v < P i→Anc (turn d i b) r v a:=by
  induction h with
  | refl=>exact fun _ _=>.refl _
  | @up v a hn _ ih =>
    intro hk hlt
    obtain ⟨h1,h2⟩:=hT.up _ hk hn
    have hvi:v ≠ i:=fun e=>by subst e; omega
    exact .up hn (by rw [tJ hvi]; exact ih h1 (by omega))
theorem Tree.small' (hT:Tree d P r K) {i b v a:Nat} (h:Anc (turn d i b) r v a):K v→P v < P i→Anc d r v a:=by
  induction h with
  | refl=>exact fun _ _=>.refl _
  | @up v a hn h' ih =>
    intro hk hlt
    obtain ⟨h1,h2⟩:=hT.up _ hk hn
    have hvi:v ≠ i:=fun e=>by subst e; omega
    rw [tJ hvi] at ih
    exact .up hn (ih h1 (by omega))
theorem apq {i b v:Nat} (h:Anc d r v i):Anc (turn d i b) r v i:=by
  generalize hx:i = x at h
  induction h with
  | refl v=>subst hx; exact .refl _
  | @up v a hn _ ih =>
    subst hx
    by_cases e:v = i
    · subst e; exact .refl _
    · exact .up hn (by rw [tJ e]; exact ih rfl)
theorem aNW {i b v a:Nat} (h:Anc d r v a) : ¬ Anc d r v i→Anc (turn d i b) r v a:=by
  induction h with
  | refl=>exact fun _=>.refl _
  | @up v a hn _ ih =>
    intro hni
    have hvi:v ≠ i:=fun e=>by subst e; exact hni (.refl _)
    exact .up hn (by rw [tJ hvi]; exact ih fun h=>hni (.up hn h))
theorem aDK {i b v a:Nat} (h:Anc (turn d i b) r v a) : ¬ Anc d r v i→Anc d r v a:=by
  induction h with
  | refl=>exact fun _=>.refl _
  | @up v a hn _ ih =>
    intro hni
    have hvi:v ≠ i:=fun e=>by subst e; exact hni (.refl _)
    rw [tJ hvi] at ih
    exact .up hn (ih fun h=>hni (.up hn h))
theorem Tree.seg (hT:Tree d P r K) {i b v a:Nat} (h:Anc d r v a):K v→Anc d r a i→Anc (turn d i b) r v a:=by
  induction h with
  | refl=>exact fun _ _=>.refl _
  | @up v a hn hh ih =>
    intro hk hai
    obtain ⟨h1,h2⟩:=hT.up _ hk hn
    have h3:=hT.anc hh h1
    have h4:=hT.anc hai h3.1
    have e:v ≠ i:=fun e=>by subst e; omega
    exact .up hn (by rw [tJ e]; exact ih h1 hai)
end
section
variable {pl dv:List Nat} {P:Nat→Nat} {r n:Nat} {K:Nat→Prop}
abbrev dF (dv:List Nat) (v:Nat):Nat:=dv.getD v 0
theorem abq {l:List Nat} {v:Nat} (h:v < l.length):l[v]? = some (l.getD v 0):=by rw [lw,ck h]; rfl
theorem O9 (hT:Tree (dF dv) P r K) (hr:∀ v,K v→P r≤P v) (hpl:∀ v,K v→pl[v]? = some (P v)) (hdv:∀ v,K v→v < dv.length):∀ (F a b:Nat),K a→K b→P a + P b < F→∃ c,vK F pl dv a b = some c∧K c∧∀ x,Anc (dF dv) r c x↔Anc (dF dv) r a x∧Anc (dF dv) r b x
  | 0,a,b,_,_,h=>by omega
  | F + 1,a,b,ha,hb,h=>by
    unfold vK
    by_cases e:a = b
    · subst e
      exact ⟨a,by rw [if_pos rfl],ha,fun x=>⟨fun h=>⟨h,h⟩,fun h=>h.1⟩⟩
    · rw [if_neg e,hpl a ha,hpl b hb]
      simp only
      by_cases hlt:P a < P b
      · rw [if_pos hlt,abq (hdv b hb)]
        have hbr:b ≠ r:=fun e=>by subst e; have:=hr a ha; omega
        obtain ⟨h1,h2⟩:=hT.up b hb hbr
        obtain ⟨c,g1,g2,g3⟩:=O9 hT hr hpl hdv F (dF dv b) a h1 ha (by omega)
        refine ⟨c,g1,g2,fun x=>?_⟩
        rw [g3 x]
        constructor
        · rintro ⟨k1,k2⟩; exact ⟨k2,.up hbr k1⟩
        · rintro ⟨k1,k2⟩
          cases k2 with
          | refl=>have:=(hT.anc k1 ha).2.1; omega
          | up _ k2=>exact ⟨k2,k1⟩
      · rw [if_neg hlt,abq (hdv a ha)]
        have hne:P a ≠ P b:=fun h=>e (hT.inj a b ha hb h)
        have har:a ≠ r:=fun e=>by subst e; have:=hr b hb; omega
        obtain ⟨h1,h2⟩:=hT.up a ha har
        obtain ⟨c,g1,g2,g3⟩:=O9 hT hr hpl hdv F (dF dv a) b h1 hb (by omega)
        refine ⟨c,g1,g2,fun x=>?_⟩
        rw [g3 x]
        constructor
        · rintro ⟨k1,k2⟩; exact ⟨.up har k1,k2⟩
        · rintro ⟨k1,k2⟩
          cases k1 with
          | refl=>have:=(hT.anc k2 hb).2.1; omega
          | up _ k1=>exact ⟨k1,k2⟩
def aaY (dv:List Nat) (r:Nat) (K:Nat→Prop) (done:List Nat):Option Nat→Prop
  | none=>∀ p∈done,¬ K p
  | some c=>K c∧(∃ p∈done,K p)∧∀ x,Anc (dF dv) r c x↔∀ p∈done,K p→Anc (dF dv) r p x
theorem apW {F:Nat} {dk:List Bool} (hT:Tree (dF dv) P r K) (hr:∀ v,K v→P r≤P v) (hpl:∀ v,K v→pl[v]? = some (P v)) (hdv:∀ v,K v→v < dv.length) (hF:∀ a b,K a→K b→P a + P b < F) (hdk:∀ k,k≤n→∃ b,dk[k]? = some b∧(b = true↔K k)) :
    ∀ (l done:List Nat) (best:Option Nat),(∀ k∈l,k≤n)→aaY dv r K done best→∃ res,l.foldlM (Dj F pl dv dk) best = some res∧aaY dv r K (done++l) res
  | [],done,best,_,h=>⟨best,rfl,by rw [List.append_nil]; exact h⟩
  | k :: l,done,best,hl,h=>by
    rw [List.foldlM_cons]
    obtain ⟨b,hb1,hb2⟩:=hdk k (hl k (Cw ..))
    have go:∀ best',Dj F pl dv dk best k = some best'→aaY dv r K (done++[k]) best'→∃ res,(Dj F pl dv dk best k >>= fun s=>l.foldlM (Dj F pl dv dk) s) = some res∧aaY dv r K (done++(k :: l)) res:=by
      intro best' h1 h2
      obtain ⟨res,h3,h4⟩:=apW hT hr hpl hdv hF hdk l (done++[k]) best' (fun k hk=>hl k (vk _ hk)) h2
      refine ⟨res,by rw [h1]; exact h3,by rw [List.append_assoc] at h4; exact h4⟩
    cases b with
    | false =>
      have hk : ¬ K k:=fun h=>by have:=hb2.2 h; cases this
      refine go best (by unfold Dj; rw [hb1]) ?_
      cases best with
      | none =>
        intro p hp
        rcases rk.1 hp with hp | hp
        · exact h p hp
        · rw [fk.1 hp]; exact hk
      | some c =>
        obtain ⟨h1,⟨p,hp1,hp2⟩,h2⟩:=h
        refine ⟨h1,⟨p,List.mem_append_left _ hp1,hp2⟩,fun x=>?_⟩
        rw [h2 x]
        constructor
        · intro hh p hp hK
          rcases rk.1 hp with hp | hp
          · exact hh p hp hK
          · rw [fk.1 hp] at hK; exact absurd hK hk
        · intro hh p hp hK; exact hh p (List.mem_append_left _ hp) hK
    | true =>
      have hk:K k:=hb2.1 rfl
      cases best with
      | none =>
        refine go (some k) (by unfold Dj; rw [hb1]) ⟨hk,⟨k,by simp,hk⟩,fun x=>?_⟩
        constructor
        · intro hx p hp hK
          rcases rk.1 hp with hp | hp
          · exact absurd hK (h p hp)
          · rw [fk.1 hp]; exact hx
        · intro hh; exact hh k (by simp) hk
      | some c =>
        obtain ⟨h1,⟨p,hp1,hp2⟩,h2⟩:=h
        obtain ⟨c',g1,g2,g3⟩:=O9 hT hr hpl hdv F c k h1 hk (hF c k h1 hk)
        refine go (some c') (by unfold Dj; rw [hb1]; simp only [g1]; rfl) ⟨g2,⟨k,by simp,hk⟩,fun x=>?_⟩
        rw [g3 x,h2 x]
        constructor
        · rintro ⟨k1,k2⟩ p hp hK
          rcases rk.1 hp with hp | hp
          · exact k1 p hp hK
          · rw [fk.1 hp]; exact k2
        · intro hh
          exact ⟨fun p hp hK=>hh p (List.mem_append_left _ hp) hK,hh k (by simp) hk⟩
end
open Go.Proofs Go.Proofs.Ytliccamocpglcab
open Go.RM (vK Dj G9 K0 valsF)
section
variable {p0:api_Heap}
abbrev t8 (p0:api_Heap) (ls:List Nat):List Nat:=p0.fObjects.length :: ls
abbrev plL (p0:api_Heap) (ls:List Nat):List Nat:=(valsF p0.fObjects.length (p0.fObjects.length :: ls)).1
abbrev PL (p0:api_Heap) (ls:List Nat) (v:Nat):Nat:=(plL p0 ls).getD v 0
def Kn (dk:List Bool) (v:Nat):Prop:=dk[v]? = some true
theorem OrdQ.place {ls:List Nat} (hO:OrdQ p0 ls) {j x:Nat} (h:(t8 p0 ls)[j]? = some x):PL p0 ls x = j:=by
  have:=hO.vals.1 j x h
  unfold PL
  rw [lw,this]; rfl
theorem OrdQ.pl_get {ls:List Nat} (hO:OrdQ p0 ls) {x:Nat} (h:x∈t8 p0 ls):(plL p0 ls)[x]? = some (PL p0 ls x):=by
  obtain ⟨j,hj⟩:=Dk h
  rw [hO.vals.1 j x hj,hO.place hj]
theorem OrdQ.inj {ls:List Nat} (hO:OrdQ p0 ls) {u v:Nat} (hu:u∈t8 p0 ls) (hv:v∈t8 p0 ls) (h:PL p0 ls u = PL p0 ls v):u = v:=by
  obtain ⟨i,hi⟩:=Dk hu
  obtain ⟨j,hj⟩:=Dk hv
  rw [hO.place hi,hO.place hj] at h
  subst h
  rw [hi] at hj
  exact Option.some.inj hj
theorem OrdQ.root_place {ls:List Nat} (hO:OrdQ p0 ls):PL p0 ls p0.fObjects.length = 0:=hO.place (j:=0) rfl
theorem OrdQ.place_lt {ls:List Nat} (hO:OrdQ p0 ls) {u:Nat} (hu:u∈t8 p0 ls):PL p0 ls u≤p0.fObjects.length:=by
  obtain ⟨i,hi⟩:=Dk hu
  rw [hO.place hi]
  have h1:=gz hi
  have h2:ls.length≤p0.fObjects.length:=BJ (List.nodup_cons.1 hO.nodup).2 hO.lt
  rw [List.length_cons] at h1
  omega
theorem OrdQ.le {ls:List Nat} (hO:OrdQ p0 ls) {u:Nat} (hu:u∈t8 p0 ls):u≤p0.fObjects.length:=by
  rcases jk.1 hu with rfl | h
  · exact iw _
  · exact Nat.le_of_lt (hO.lt u h)
theorem Pth.any {w:Int} {m x:Nat} (h:Pth p0 w m x):Pth p0 (-1) m x:=by
  induction h with
  | zero=>exact .zero
  | succ _ h2 _ ih=>exact .succ ih h2 (by omega)
theorem Pth.self {m a:Nat} (ha:a ≠ p0.fObjects.length) : ¬ Pth p0 (a:Int) m a:=fun h=>by
  cases h with
  | zero=>exact ha rfl
  | succ _ _ h=>exact h rfl
theorem Pth.through {a i m v:Nat} (hi:i ≠ p0.fObjects.length) (h:Pth p0 (a:Int) m v) : ¬ Pth p0 (i:Int) m v→∃ m',m'≤m∧Pth p0 (a:Int) m' i:=by
  induction h with
  | zero=>intro h; exact absurd .zero h
  | @succ m x y h1 h2 h3 ih =>
    intro h
    by_cases e:y = i
    · subst e; exact ⟨m + 1,iw _,.succ h1 h2 h3⟩
    · by_cases hx:Pth p0 (i:Int) m x
      · exact absurd (.succ hx h2 (by omega)) h
      · obtain ⟨m',g1,g2⟩:=ih hx
        exact ⟨m',by omega,g2⟩
inductive PG (p0:api_Heap) (ls:List Nat) (k:Nat) (x:Nat):Nat→Prop
  | refl:PG p0 ls k x x
  | step {y z:Nat}:PG p0 ls k x y→Edge p0 y z→k≤PL p0 ls z→PG p0 ls k x z
theorem PG.mono {ls:List Nat} {k k' x y:Nat} (h:PG p0 ls k x y) (hk:k'≤k):PG p0 ls k' x y:=by
  induction h with
  | refl=>exact .refl
  | step _ h2 h3 ih=>exact .step ih h2 (by omega)
theorem PG.trans {ls:List Nat} {k x y z:Nat} (h:PG p0 ls k x y) (h':PG p0 ls k y z):PG p0 ls k x z:=by
  induction h' with
  | refl=>exact h
  | step _ h2 h3 ih=>exact .step ih h2 h3
theorem PG.walk {ls:List Nat} {k x y a:Nat} (h:PG p0 ls k x y) (ha:PL p0 ls a < k) {m:Nat} (hp:Pth p0 (a:Int) m x):∃ m',Pth p0 (a:Int) m' y:=by
  induction h with
  | refl=>exact ⟨m,hp⟩
  | @step y z _ h2 h3 ih =>
    obtain ⟨m',hm⟩:=ih
    exact ⟨m' + 1,.succ hm h2 (fun e=>by have:z = a:=by omega
                                         subst this; omega)⟩
structure CI (p0:api_Heap) (ls dv:List Nat) (dk:List Bool):Prop where
  l1:dv.length = p0.fObjects.length + 1
  l2:dk.length = p0.fObjects.length + 1
  bd:∀ v∈dv,v≤p0.fObjects.length
  kin:∀ v,Kn dk v→v∈t8 p0 ls
  tree:Tree (dF dv) (PL p0 ls) p0.fObjects.length (Kn dk)
  J:∀ v,Kn dk v→v ≠ p0.fObjects.length→PG p0 ls (PL p0 ls (dF dv v)) (dF dv v) v
  S:∀ v,Kn dk v→∀ a,a ≠ p0.fObjects.length→(∀ m,¬ Pth p0 (a:Int) m v)→Anc (dF dv) p0.fObjects.length v a
theorem CI.path {ls dv:List Nat} {dk:List Bool} (hC:CI p0 ls dv dk) {v a:Nat} (h:Anc (dF dv) p0.fObjects.length v a):Kn dk v→PG p0 ls (PL p0 ls a) a v:=by
  induction h with
  | refl=>exact fun _=>.refl
  | @up v a hn h' ih =>
    intro hk
    obtain ⟨h1,h2⟩:=hC.tree.up v hk hn
    have h3:=hC.tree.anc h' h1
    exact (ih h1).trans ((hC.J v hk hn).mono h3.2.1)
theorem Cz {dk:List Bool} {i:Nat} (hi:i < dk.length) (v:Nat):Kn (dk.set i true) v↔v = i∨Kn dk v:=by
  unfold Kn
  rw [zw]
  by_cases e:i = v
  · subst e; rw [if_pos rfl,if_pos hi]; simp
  · rw [if_neg e]; simp [Ne.symm e]
theorem aKV {dv:List Nat} {i b:Nat} (hi:i < dv.length):dF (dv.set i b) = turn (dF dv) i b:=by
  funext v
  unfold dF turn
  rw [lw,zw]
  by_cases e:i = v
  · subst e; rw [if_pos rfl,if_pos hi,if_pos rfl]; rfl
  · rw [if_neg e,if_neg (Ne.symm e),← lw]
def K3 (p0:api_Heap) (dv:List Nat) (dk:List Bool) (i b:Nat):Prop:=∀ x,Anc (dF dv) p0.fObjects.length b x↔∀ p,Edge p0 p i→Kn dk p→Anc (dF dv) p0.fObjects.length p x
theorem aPZ {ls:List Nat} (hO:OrdQ p0 ls) {dv:List Nat} {dk:List Bool} (hC:CI p0 ls dv dk) {i:Nat} (hi:i∈ls) {b:Nat} (hb:Kn dk b) (hbi:PL p0 ls b < PL p0 ls i) (hp:∃ p,Edge p0 p i∧Kn dk p) (hB:K3 p0 dv dk i b):CI p0 ls (dv.set i b) (dk.set i true):=by
  have hil:=hO.lt i hi
  have hio:i∈t8 p0 ls:=vk _ hi
  have hid:i < dv.length:=by rw [hC.l1]; omega
  have hik:i < dk.length:=by rw [hC.l2]; omega
  have hin:i ≠ p0.fObjects.length:=by omega
  have hd:=aKV (b:=b) hid
  have hkin':∀ v,Kn (dk.set i true) v→v∈t8 p0 ls:=fun v hv=>by
    rcases (Cz hik v).1 hv with rfl | h
    · exact hio
    · exact hC.kin v h
  have hdi:turn (dF dv) i b i = b:=if_pos rfl
  have hSi:∀ a,a ≠ p0.fObjects.length→(∀ m,¬ Pth p0 (a:Int) m i)→Anc (turn (dF dv) i b) p0.fObjects.length i a:=fun a ha hno=>by
    by_cases e:a = i
    · subst e; exact .refl _
    · refine .up hin ?_
      rw [hdi]
      refine hC.tree.small ((hB a).2 fun p hpe hpk=>hC.S p hpk a ha fun m hm=>?_) hb hbi
      exact hno (m + 1) (.succ hm hpe (by omega))
  refine ⟨by rw [uw]; exact hC.l1,by rw [uw]; exact hC.l2,fun v hv=>by
    rcases List.mem_or_eq_of_mem_set hv with h | h
    · exact hC.bd v h
    · rw [h]; exact hO.le (hC.kin b hb),hkin',?_,?_,?_⟩
  · rw [hd]
    refine ⟨(Cz hik _).2 (.inr hC.tree.root),fun v hv hvn=>?_,fun u v hu hv h=>hO.inj (hkin' u hu) (hkin' v hv) h⟩
    by_cases e:v = i
    · subst e
      rw [hdi]
      exact ⟨(Cz hik _).2 (.inr hb),hbi⟩
    · rw [tJ e]
      rcases (Cz hik v).1 hv with h | h
      · exact absurd h e
      · obtain ⟨h1,h2⟩:=hC.tree.up v h hvn
        exact ⟨(Cz hik _).2 (.inr h1),h2⟩
  · rw [hd]
    intro v hv hvn
    by_cases e:v = i
    · subst e
      rw [hdi]
      obtain ⟨p,hpe,hpk⟩:=hp
      have h1:=(hB b).1 (.refl b) p hpe hpk
      exact .step (hC.path h1 hpk) hpe (by omega)
    · rw [tJ e]
      rcases (Cz hik v).1 hv with h | h
      · exact absurd h e
      · exact hC.J v h hvn
  · rw [hd]
    intro v hv a ha hno
    by_cases e:v = i
    · subst e; exact hSi a ha hno
    · have hvk:Kn dk v:=by
        rcases (Cz hik v).1 hv with h | h
        · exact absurd h e
        · exact h
      have hva:=hC.S v hvk a ha hno
      by_cases hvi:Anc (dF dv) p0.fObjects.length v i
      · rcases hva.linear hvi with h | h
        · exact hC.tree.seg hva hvk h
        · by_cases e2:a = i
          · subst e2; exact apq hvi
          · have hki:=(hC.tree.anc hvi hvk).1
            have hai:=hC.tree.anc h hki
            have hlt:PL p0 ls a < PL p0 ls i:=by
              rcases Nat.lt_or_ge (PL p0 ls a) (PL p0 ls i) with h3 | h3
              · exact h3
              · exact absurd (hai.2.2 (by omega)) e2
            refine (apq hvi).trans (hSi a ha fun m hm=>?_)
            obtain ⟨m',hm'⟩:=(hC.path hvi hvk).walk hlt hm
            exact hno m' hm'
      · exact aNW hva hvi
theorem aRW (hF:mQ p0) (hV:hZ p0) {ls:List Nat} (hO:OrdQ p0 ls) {dv:List Nat} {dk:List Bool} (hC:CI p0 ls dv dk) {i:Nat} (hi:i∈ls) (hp:∃ p,Edge p0 p i∧Kn dk p∧PL p0 ls p < PL p0 ls i) (fl:Bool) :
    ∃ b fl',G9 200 (plL p0 ls) (Lz p0) ((dv,dk),fl) i = some ((dv.set i b,dk.set i true),fl')∧(fl' = false↔fl = false∧Kn dk i∧dF dv i = b)∧Kn dk b∧PL p0 ls b < PL p0 ls i∧K3 p0 dv dk i b∧CI p0 ls (dv.set i b) (dk.set i true):=by
  have hn:=hF.n
  have hil:=hO.lt i hi
  have hid:i < dv.length:=by rw [hC.l1]; omega
  have hik:i < dk.length:=by rw [hC.l2]; omega
  obtain ⟨p,hpe,hpk,hplt⟩:=hp
  have hfr:(Lz p0)[i]? = some ((Lz p0).getD i []):=by rw [lw,ck (by rw [aJV]; omega)]; rfl
  have hmem:∀ k,k∈(Lz p0).getD i []↔k≤p0.fObjects.length∧Edge p0 k i:=fun k=>aOq hF hV (by omega)
  obtain ⟨res,h1,h2⟩:=apW (n:=p0.fObjects.length) (pl:=plL p0 ls) (dv:=dv) (dk:=dk) (F:=200) hC.tree (fun v hv=>by rw [hO.root_place]; omega) (fun v hv=>hO.pl_get (hC.kin v hv)) (fun v hv=>by have:=hO.le (hC.kin v hv); rw [hC.l1]; omega)
    (fun a b ha hb=>by have:=hO.place_lt (hC.kin a ha); have:=hO.place_lt (hC.kin b hb); omega)
    (fun k hk=>⟨dk[k]'(by rw [hC.l2]; omega),ck _,by unfold Kn; rw [ck (by rw [hC.l2]; omega)]; simp⟩) ((Lz p0).getD i []) [] none (fun k hk=>((hmem k).1 hk).1) (fun p hp=>by simp at hp)
  rw [List.nil_append] at h2
  have hpm:p∈(Lz p0).getD i []:=(hmem p).2 ⟨hO.le (hC.kin p hpk),hpe⟩
  cases res with
  | none=>exact absurd hpk (h2 p hpm)
  | some b =>
    obtain ⟨hb,_,hbx⟩:=h2
    have hB:K3 p0 dv dk i b:=fun x=>by
      rw [hbx x]
      constructor
      · intro h q hq hk; exact h q ((hmem q).2 ⟨hO.le (hC.kin q hk),hq⟩) hk
      · intro h q hq hk; exact h q ((hmem q).1 hq).2 hk
    have hbi:PL p0 ls b < PL p0 ls i:=by
      have:=hC.tree.anc ((hB b).1 (.refl b) p hpe hpk) hpk
      omega
    have hci:=aPZ hO hC hi hb hbi ⟨p,hpe,hpk⟩ hB
    have hvi:dv[i]? = some (dF dv i):=abq hid
    unfold G9
    simp only [hfr,h1]
    have hki:dk[i]? = some dk[i]:=ck hik
    cases hk:dk[i] with
    | false =>
      rw [hk] at hki
      refine ⟨b,true,by rw [hki,hvi],⟨fun h=>by (cases h),fun h=>?_⟩,hb,hbi,hB,hci⟩
      have:=h.2.1
      unfold Kn at this
      rw [hki] at this
      cases this
    | true =>
      rw [hk] at hki
      by_cases e:dF dv i = b
      · refine ⟨b,fl,?_,⟨fun h=>⟨h,hki,e⟩,fun h=>h.1⟩,hb,hbi,hB,hci⟩
        rw [hki,hvi]
        simp only [e,qw]
        have e1:dv.set i b = dv:=by
          apply List.ext_getElem?
          intro j
          rw [zw]
          by_cases ej:i = j
          · subst ej; rw [if_pos rfl,if_pos hid,hvi,e]
          · rw [if_neg ej]
        have e2:dk.set i true = dk:=by
          apply List.ext_getElem?
          intro j
          rw [zw]
          by_cases ej:i = j
          · subst ej; rw [if_pos rfl,if_pos hik,hki]
          · rw [if_neg ej]
        rw [e1,e2]
      · refine ⟨b,true,?_,⟨fun h=>by (cases h),fun h=>absurd h.2.2 e⟩,hb,hbi,hB,hci⟩
        rw [hki,hvi]
        simp only [e,qk]
end
open Go.Proofs Go.Proofs.Ytliccamocpglcab
open Go.RM (vK Dj G9 K0 valsF)
section
variable {p0:api_Heap}
def LV (p0:api_Heap) (dv:List Nat) (dk:List Bool) (L:Nat→Nat):Prop:=∀ v,Kn dk v→∀ a,a ≠ p0.fObjects.length→Anc (dF dv) p0.fObjects.length v a→∀ m,m≤L v→¬ Pth p0 (a:Int) m v
theorem ayj {d:Nat→Nat} {i b:Nat}:turn (turn d i b) i (d i) = d:=by
  funext v
  unfold turn
  by_cases e:v = i
  · subst e; rw [if_pos rfl]
  · rw [if_neg e,if_neg e]
theorem aQQ {ls:List Nat} (hO:OrdQ p0 ls) {dv:List Nat} {dk:List Bool} (hC:CI p0 ls dv dk) (hall:∀ x∈t8 p0 ls,Kn dk x) {i:Nat} (hi:i∈ls) {b:Nat} (hb:Kn dk b) (hbi:PL p0 ls b < PL p0 ls i) (hB:K3 p0 dv dk i b) (hC':CI p0 ls (dv.set i b) (dk.set i true))
    {L:Nat→Nat} {k:Nat} (hL:LV p0 dv dk L) (h1:∀ x,k≤L x + 1) (h2:∀ x,L x≤k):LV p0 (dv.set i b) (dk.set i true) (fun x=>if x = i then k else L x):=by
  have hil:=hO.lt i hi
  have hid:i < dv.length:=by rw [hC.l1]; omega
  have hik:i < dk.length:=by rw [hC.l2]; omega
  have hin:i ≠ p0.fObjects.length:=by omega
  have hd:=aKV (b:=b) hid
  have hdi:turn (dF dv) i b i = b:=if_pos rfl
  have hki:Kn dk i:=hall i (vk _ hi)
  have hself:∀ a,a ≠ p0.fObjects.length→Anc (turn (dF dv) i b) p0.fObjects.length i a→∀ m,m≤k→¬ Pth p0 (a:Int) m i:=by
    intro a ha hA m hm hp
    cases hA with
    | refl=>exact Pth.self hin hp
    | up _ hA =>
      rw [hdi] at hA
      have hA:=hC.tree.small' hA hb hbi
      cases hp with
      | zero=>exact hin rfl
      | @succ m x _ p1 p2 p3 =>
        have hx:x∈t8 p0 ls:=(hO.mem x).2 ⟨m,Pth.any p1⟩
        exact hL x (hall x hx) a ha ((hB a).1 hA x p2 (hall x hx)) m (by have:=h1 x; omega) p1
  intro v hv a ha hA m hm hp
  rw [hd] at hA
  by_cases e:v = i
  · subst e
    have hm:m≤k:=by dsimp only at hm; rw [if_pos rfl] at hm; exact hm
    exact hself a ha hA m hm hp
  · have hm2:m≤L v:=by dsimp only at hm; rw [if_neg e] at hm; exact hm
    clear hm
    have hvk:Kn dk v:=by
      rcases (Cz hik v).1 hv with h | h
      · exact absurd h e
      · exact h
    by_cases hvi:Anc (dF dv) p0.fObjects.length v i
    · have hvi':Anc (turn (dF dv) i b) p0.fObjects.length v i:=apq hvi
      rcases hA.linear hvi' with h | h
      · have hT':=hC'.tree
        rw [hd] at hT'
        have:=hT'.seg (b:=dF dv i) hA hv h
        rw [ayj] at this
        exact hL v hvk a ha this m hm2 hp
      · by_cases e2:a = i
        · subst e2; exact hL v hvk a ha hvi m hm2 hp
        · obtain ⟨m',g1,g2⟩:=hp.through hin (hL v hvk i hin hvi m hm2)
          exact hself a ha h m' (by have:=h2 v; omega) g2
    · exact hL v hvk a ha (aDK hA hvi) m hm2 hp
def aqV (p0:api_Heap) (dv:List Nat) (dk:List Bool):Prop:=∀ v,Kn dk v→∀ a,a ≠ p0.fObjects.length→Anc (dF dv) p0.fObjects.length v a→∀ m,¬ Pth p0 (a:Int) m v
theorem aCj {dv:List Nat} {dk:List Bool} {k:Nat} (hL:LV p0 dv dk fun _=>k) (hk:p0.fObjects.length≤k):aqV p0 dv dk:=fun v hv a ha hA m hp=>by
  obtain ⟨m',_,hm'⟩:=NJ m v hp
  exact hL v hv a ha hA m' (show m'≤k by have:=adz hm'; omega) hm'.1
theorem anQ {ls:List Nat} (hO:OrdQ p0 ls) {dv:List Nat} {dk:List Bool} (hC:CI p0 ls dv dk) (hall:∀ x∈t8 p0 ls,Kn dk x) (hX:aqV p0 dv dk) {i:Nat} (hi:i∈ls) {b:Nat} (hb:Kn dk b) (hbi:PL p0 ls b < PL p0 ls i) (hB:K3 p0 dv dk i b):dF dv i = b:=by
  have hil:=hO.lt i hi
  have hin:i ≠ p0.fObjects.length:=by omega
  have hki:Kn dk i:=hall i (vk _ hi)
  obtain ⟨hkd,hlt⟩:=hC.tree.up i hki hin
  have hroot:∀ v,Kn dk v→Anc (dF dv) p0.fObjects.length v p0.fObjects.length:=fun v hv=>hC.tree.anc_root _ v (iw _) hv
  refine (hC.tree.anti hb hkd ((hB _).2 fun p hpe hpk=>?_) ?_).symm
  · by_cases e:dF dv i = p0.fObjects.length
    · rw [e]; exact hroot p hpk
    · refine hC.S p hpk _ e fun m hm=>?_
      refine hX i hki (dF dv i) e (.up hin (.refl _)) (m + 1) (.succ hm hpe fun h=>?_)
      have:i = dF dv i:=by omega
      rw [← this] at hlt
      omega
  · by_cases e:b = p0.fObjects.length
    · rw [e]; exact hroot _ hkd
    · have hA:Anc (dF dv) p0.fObjects.length i b:=by
        refine hC.S i hki b e fun m hm=>?_
        cases hm with
        | zero=>exact hin rfl
        | @succ m x _ p1 p2 p3 =>
          have hx:x∈t8 p0 ls:=(hO.mem x).2 ⟨m,Pth.any p1⟩
          exact hX x (hall x hx) b e ((hB b).1 (.refl b) x p2 (hall x hx)) m p1
      cases hA with
      | refl=>omega
      | up _ h=>exact h
theorem Z1 (hF:mQ p0) (hV:hZ p0) {ls:List Nat} (hO:OrdQ p0 ls):∀ (l done:List Nat) (dv:List Nat) (dk:List Bool) (fl:Bool),ls = done++l→CI p0 ls dv dk→(∀ x∈p0.fObjects.length :: done,Kn dk x) →
    ∃ dv' dk' fl',l.foldlM (G9 200 (plL p0 ls) (Lz p0)) ((dv,dk),fl) = some ((dv',dk'),fl')∧CI p0 ls dv' dk'∧(∀ x∈t8 p0 ls,Kn dk' x) ∧
      (fl' = false→fl = false∧dv' = dv∧dk' = dk∧∀ i∈l,K3 p0 dv dk i (dF dv i)) ∧
      ((∀ x∈t8 p0 ls,Kn dk x)→aqV p0 dv dk→fl = false→fl' = false) ∧
      (∀ k,(∀ x∈t8 p0 ls,Kn dk x)→LV p0 dv dk (fun x=>if x∈done then k + 1 else k)→LV p0 dv' dk' (fun x=>if x∈ls then k + 1 else k))
  | [],done,dv,dk,fl,hl,hC,hk=>by
    rw [List.append_nil] at hl
    subst hl
    exact ⟨dv,dk,fl,rfl,hC,hk,fun h=>⟨h,rfl,rfl,fun i hi=>by simp at hi⟩,fun _ _ h=>h,fun k _ h=>h⟩
  | i :: l,done,dv,dk,fl,hl,hC,hk=>by
    have hi:i∈ls:=by rw [hl]; simp
    have hil:=hO.lt i hi
    have hik:i < dk.length:=by rw [hC.l2]; omega
    have hp:∃ p,Edge p0 p i∧Kn dk p∧PL p0 ls p < PL p0 ls i:=by
      obtain ⟨l1,l2,e,p,hp,hpe⟩:=hO.pred i hi
      have e':t8 p0 ls = (p0.fObjects.length :: done)++i :: l:=by unfold t8; rw [hl]; rfl
      have hidx:(t8 p0 ls)[l1.length]? = some i:=by unfold t8; rw [e]; simp
      have hidx2:(t8 p0 ls)[(p0.fObjects.length :: done).length]? = some i:=by rw [e']; simp
      have h1:=hO.place hidx
      have h2:=hO.place hidx2
      have hl1:l1 = p0.fObjects.length :: done:=by
        have e3:l1++i :: l2 = (p0.fObjects.length :: done)++i :: l:=by rw [← e,← e']
        exact (List.append_inj e3 (by omega)).1
      subst hl1
      refine ⟨p,hpe,hk p hp,?_⟩
      obtain ⟨j,hj⟩:=Dk hp
      have hjl:=gz hj
      have h3:=hO.place (j:=j) (x:=p) (by rw [e',List.getElem?_append_left hjl]; exact hj)
      omega
    obtain ⟨b,fl1,h1,h2,hb,hbi,hB,hC1⟩:=aRW hF hV hO hC hi hp fl
    have hk1:∀ x∈p0.fObjects.length :: (done++[i]),Kn (dk.set i true) x:=fun x hx=>by
      rw [Cz hik]
      rcases jk.1 hx with rfl | hx
      · exact .inr (hk _ (Cw ..))
      · rcases rk.1 hx with hx | hx
        · exact .inr (hk x (vk _ hx))
        · exact .inl (fk.1 hx)
    obtain ⟨dv',dk',fl',g1,g2,g3,g4,g5,g6⟩:=Z1 hF hV hO l (done++[i]) (dv.set i b) (dk.set i true) fl1 (by rw [hl]; simp) hC1 hk1
    have hsame:Kn dk i→dF dv i = b→dv.set i b = dv∧dk.set i true = dk:=fun hki e=>by
      have hid:i < dv.length:=by rw [hC.l1]; omega
      constructor
      · apply List.ext_getElem?
        intro j
        rw [zw]
        by_cases ej:i = j
        · subst ej; rw [if_pos rfl,if_pos hid,abq hid,← e]
        · rw [if_neg ej]
      · apply List.ext_getElem?
        intro j
        rw [zw]
        by_cases ej:i = j
        · subst ej; rw [if_pos rfl,if_pos hik]; exact hki.symm
        · rw [if_neg ej]
    refine ⟨dv',dk',fl',by rw [List.foldlM_cons,h1]; exact g1,g2,g3,fun hf=>?_,fun hall hX hf=>?_,fun k hall hL=>?_⟩
    · obtain ⟨q1,q2,q3,q4⟩:=g4 hf
      obtain ⟨q5,q6,q7⟩:=h2.1 q1
      obtain ⟨s1,s2⟩:=hsame q6 q7
      rw [s1] at q2 q4
      rw [s2] at q3 q4
      exact ⟨q5,q2,q3,fun j hj=>by
        rcases jk.1 hj with rfl | hj
        · rw [q7]; exact hB
        · exact q4 j hj⟩
    · have hki:=hall i (vk _ hi)
      have e:=anQ hO hC hall hX hi hb hbi hB
      obtain ⟨s1,s2⟩:=hsame hki e
      have hf1:=h2.2 ⟨hf,hki,e⟩
      rw [s1,s2] at g5
      exact g5 hall hX hf1
    · have hL1:=aQQ hO hC hall hi hb hbi hB hC1 (k:=k + 1) hL (fun x=>by split <;> omega) (fun x=>by split <;> omega)
      refine g6 k (fun x hx=>(Cz hik x).2 (.inr (hall x hx))) ?_
      have he:(fun x=>if x = i then k + 1 else if x∈done then k + 1 else k) = fun x=>if x∈done++[i] then k + 1 else k:=by
        funext x
        by_cases e:x = i
        · subst e; rw [if_pos rfl,if_pos (by simp)]
        · rw [if_neg e]
          by_cases e2:x∈done
          · rw [if_pos e2,if_pos (by simp [e2])]
          · rw [if_neg e2,if_neg (by simp [e,e2])]
      rw [← he]
      exact hL1
structure DomEnd (p0:api_Heap) (ls dv:List Nat) (dk:List Bool):Prop where
  ci:CI p0 ls dv dk
  all:∀ x∈t8 p0 ls,Kn dk x
  exact:aqV p0 dv dk
theorem aCK {ls:List Nat} (hO:OrdQ p0 ls) {dv:List Nat} {dk:List Bool} (hC:CI p0 ls dv dk) (hall:∀ x∈t8 p0 ls,Kn dk x) (hfix:∀ i∈ls,K3 p0 dv dk i (dF dv i)):DomEnd p0 ls dv dk:=by
  refine ⟨hC,hall,fun v hv a ha hA m hp=>?_⟩
  have key:∀ m v,Pth p0 (a:Int) m v→Anc (dF dv) p0.fObjects.length v a→False:=by
    intro m v hp
    induction hp with
    | zero=>intro h; exact ha (hC.tree.root_anc h)
    | @succ m x y p1 p2 p3 ih =>
      intro h
      have hx:x∈t8 p0 ls:=(hO.mem x).2 ⟨m,Pth.any p1⟩
      have hy:y∈t8 p0 ls:=(hO.mem y).2 ⟨m + 1,Pth.any (Pw.succ p1 p2 p3:Pth p0 (a:Int) (m + 1) y)⟩
      have hyl:y∈ls:=by
        rcases jk.1 hy with e | e
        · have:=p2.lt; omega
        · exact e
      cases h with
      | refl=>exact p3 rfl
      | up _ h=>exact ih ((hfix y hyl a).1 h x p2 (hall x hx))
  exact key m v hp hA
theorem aDz (hF:mQ p0) (hV:hZ p0) {ls:List Nat} (hO:OrdQ p0 ls):∀ (f k:Nat) (dv:List Nat) (dk:List Bool),CI p0 ls dv dk→(∀ x∈t8 p0 ls,Kn dk x)→LV p0 dv dk (fun _=>k)→1≤f→p0.fObjects.length + 1≤k + f→∃ dv' dk',K0 200 (plL p0 ls) (Lz p0) (t8 p0 ls) f (dv,dk) = some (dv',dk')∧DomEnd p0 ls dv' dk'
  | 0,_,_,_,_,_,_,h,_=>by omega
  | f + 1,k,dv,dk,hC,hall,hL,_,hf=>by
    have h0:LV p0 dv dk (fun x=>if x∈([]:List Nat) then k + 1 else k):=by simpa using hL
    obtain ⟨dv',dk',fl',g1,g2,g3,g4,g5,g6⟩ := Z1 hF hV hO ls [] dv dk false rfl hC (fun x hx => hall x (by rcases jk.1 hx with e | e; exact e ▸ Cw ..; simp at e))
    unfold K0
    have hdrop:(t8 p0 ls).drop 1 = ls:=rfl
    rw [hdrop,g1]
    cases fl' with
    | false =>
      obtain ⟨_,q2,q3,q4⟩:=g4 rfl
      subst q2 q3
      exact ⟨_,_,rfl,aCK hO hC hall q4⟩
    | true =>
      have hkn:k < p0.fObjects.length:=by
        rcases Nat.lt_or_ge k p0.fObjects.length with h | h
        · exact h
        · have:=g5 hall (aCj hL h) rfl
          cases this
      have hL':LV p0 dv' dk' (fun _=>k + 1):=fun v hv a ha hA m hm hp=>by
        have hvo:=g2.kin v hv
        rcases jk.1 hvo with e | e
        · subst e; exact ha (g2.tree.root_anc hA)
        · exact g6 k hall h0 v hv a ha hA m (by dsimp only; rw [if_pos e]; exact hm) hp
      exact aDz hF hV hO f (k + 1) dv' dk' g2 g3 hL' (by omega) (by omega)
theorem arK (fnd:Int→Nat):∀ (l:List Go.RM.HO) (j B:Nat) (p:List (List Nat) × List (List Nat)),(∀ o∈l,o.refs.length≤40)→Go.RM.ub B p→Go.RM.ub (B + 40 * l.length) (Go.RM.addsFrom fnd j l p)
  | [],j,B,p,_,h=>h
  | o :: l,j,B,p,hl,h=>by
    have h1:=Go.RM.addSs_ub j (o.refs.map fnd) B p h
    rw [List.length_map] at h1
    have ho:=hl o (Cw ..)
    have h2:Go.RM.ub (B + 40) ((o.refs.map fnd).foldl (fun p k=>Go.RM.addS p j k) p):=⟨fun l hl=>Nat.le_trans (h1.1 l hl) (by omega),fun l hl=>Nat.le_trans (h1.2 l hl) (by omega)⟩
    have h3:=arK fnd l (j + 1) (B + 40) _ (fun o ho=>hl o (vk _ ho)) h2
    have e:B + 40 + 40 * l.length = B + 40 * (o :: l).length:=by rw [List.length_cons]; omega
    rw [e] at h3
    exact h3
theorem aYK (hF:mQ p0):Go.RM.ub 700 (Go.RM.adds (Kj p0) (fY p0) p0.fRoots):=by
  have hn:=hF.n
  have hr:=hF.r
  unfold Go.RM.adds
  have h0:Go.RM.ub 0 (List.replicate ((fY p0).length + 1) [],List.replicate ((fY p0).length + 1) []):=⟨fun l hl=>by rw [List.eq_of_mem_replicate hl]; exact iw _,fun l hl=>by rw [List.eq_of_mem_replicate hl]; exact iw _⟩
  have h1:=arK (Kj p0) (fY p0) 0 0 _ (fun o ho=>by
    unfold fY at ho
    obtain ⟨o',ho',rfl⟩:=yw.1 ho
    exact hF.refs o' ho') h0
  have h2:=Go.RM.addSs_ub (fY p0).length (p0.fRoots.map (Kj p0)) _ _ h1
  rw [List.length_map,iz] at h2
  rw [iz]
  exact ⟨fun l hl=>Nat.le_trans (h2.1 l hl) (by omega),fun l hl=>Nat.le_trans (h2.2 l hl) (by omega)⟩
theorem ajK (hF:mQ p0):∀ l∈Lz p0,l.length≤700:=(aYK hF).2
theorem aOY (hF:mQ p0) (hV:hZ p0) {ls:List Nat} (hO:OrdQ p0 ls):∃ dv dk,Go.RM.domsF (eQ p0) (fY p0) p0.fRoots (t8 p0 ls) = some (dv,dk)∧DomEnd p0 ls dv dk:=by
  have hn:=hF.n
  have hC0:CI p0 ls ((List.replicate (p0.fObjects.length + 1) 0).set p0.fObjects.length p0.fObjects.length) ((List.replicate (p0.fObjects.length + 1) false).set p0.fObjects.length true):=by
    have hk:∀ v,Kn ((List.replicate (p0.fObjects.length + 1) false).set p0.fObjects.length true) v↔v = p0.fObjects.length:=fun v=>by
      rw [Cz (by rw [nw]; omega)]
      unfold Kn
      rw [List.getElem?_replicate]
      constructor
      · rintro (h | h)
        · exact h
        · split at h <;> cases h
      · exact .inl
    refine ⟨by rw [uw,nw],by rw [uw,nw],fun v hv=>by
      rcases List.mem_or_eq_of_mem_set hv with h | h
      · have:=List.eq_of_mem_replicate h; omega
      · omega,fun v hv=>by rw [(hk v).1 hv]; exact Cw ..,⟨(hk _).2 rfl,fun v hv hne=>absurd ((hk v).1 hv) hne,fun u v hu hv _=>by rw [(hk u).1 hu,(hk v).1 hv]⟩,fun v hv hne=>absurd ((hk v).1 hv) hne,fun v hv a ha hno=>?_⟩
    rw [(hk v).1 hv] at hno
    exact absurd .zero (hno 0)
  obtain ⟨dv,dk,fl,g1,g2,g3,g4,g5,g6⟩:=Z1 hF hV hO ls [] _ _ false rfl hC0 (fun x hx=>by
    rcases jk.1 hx with e | e
    · subst e; exact hC0.tree.root
    · simp at e)
  have hres:∃ dv' dk',K0 200 (plL p0 ls) (Lz p0) (t8 p0 ls) 100 ((List.replicate (p0.fObjects.length + 1) 0).set p0.fObjects.length p0.fObjects.length,(List.replicate (p0.fObjects.length + 1) false).set p0.fObjects.length true) = some (dv',dk')∧DomEnd p0 ls dv' dk':=by
    rw [show (100:Nat) = 99 + 1 from rfl]
    unfold K0
    have hdrop:(t8 p0 ls).drop 1 = ls:=rfl
    rw [hdrop,g1]
    cases fl with
    | false =>
      obtain ⟨_,q2,q3,q4⟩:=g4 rfl
      rw [q2,q3]
      rw [q3] at g3
      exact ⟨_,_,rfl,aCK hO hC0 g3 q4⟩
    | true =>
      exact aDz hF hV hO 99 0 dv dk g2 g3 (fun v hv a ha hA m hm hp=>by
        have hm0:m≤0:=hm
        have:m = 0:=by omega
        subst this
        cases hp
        exact ha (g2.tree.root_anc hA)) (by omega) (by omega)
  obtain ⟨dv',dk',h1,h2⟩:=hres
  refine ⟨dv',dk',?_,h2⟩
  unfold Go.RM.domsF t8
  simp only [iz]
  have hll:ls.length≤p0.fObjects.length:=BJ (List.nodup_cons.1 hO.nodup).2 hO.lt
  have hfl:(Lz p0).all (fun l=>decide (l.length≤1000000)) = true:=by
    rw [pw]
    intro l hl
    have:=ajK hF l hl
    exact decide_eq_true (by omega)
  have hb:(decide (p0.fObjects.length < p0.fObjects.length + 1∧p0.fObjects.length≤60) && decide ((p0.fObjects.length :: ls).length≤1000) && (Go.RM.adds (Go.RM.fndN (eQ p0)) (fY p0) p0.fRoots).2.all (fun l=>decide (l.length≤1000000))) = true:=by
    rw [dw,dw,mw,mw]
    exact ⟨⟨⟨by omega,by omega⟩,by rw [List.length_cons]; omega⟩,hfl⟩
  rw [hb]
  have h1':K0 200 (valsF p0.fObjects.length (p0.fObjects.length :: ls)).1 (Go.RM.adds (Go.RM.fndN (eQ p0)) (fY p0) p0.fRoots).2 (p0.fObjects.length :: ls) 100 ((List.replicate (p0.fObjects.length + 1) 0).set p0.fObjects.length p0.fObjects.length,(List.replicate (p0.fObjects.length + 1) false).set p0.fObjects.length true) = some (dv',dk'):=h1
  simp only [cond_true,h1']
  have hdv:dv'.all (fun v=>decide (v < p0.fObjects.length + 1)) = true:=by
    rw [pw]
    intro v hv
    have:=h2.ci.bd v hv
    exact decide_eq_true (by omega)
  have hc:(decide (dv'.length = p0.fObjects.length + 1) && decide (dk'.length = p0.fObjects.length + 1) && dv'.all (fun v=>decide (v < p0.fObjects.length + 1))) = true:=by
    rw [dw,dw,mw,mw]
    exact ⟨⟨h2.ci.l1,h2.ci.l2⟩,hdv⟩
  rw [hc]
  rfl
end
open Go.Proofs Go.Proofs.Ytliccamocpglcab
open Go.RM (JV rK V3 E5 dominatesF)
section
variable {p0:api_Heap}
def DM (p0:api_Heap) (a b:Nat):Prop:=(∃ m,Pth p0 (-1) m b)∧¬ ∃ m,Pth p0 (a:Int) m b
structure Mat (p0:api_Heap) (d:List (List Bool)) (g:Nat→Nat→Bool):Prop where
  len:d.length = p0.fObjects.length
  row:∀ a,a < p0.fObjects.length→∃ r,d[a]? = some r∧r.length = p0.fObjects.length∧∀ b,b < p0.fObjects.length→r[b]? = some (g a b)
  val:∀ a b,a < p0.fObjects.length→b < p0.fObjects.length→(g a b = true↔DM p0 a b)
theorem aWQ (hF:mQ p0):∃ d g,i4 p0 = some d∧Mat p0 d g:=by
  have hn:=hF.n
  obtain ⟨all,ha,hA⟩:=aaj hF (-1)
  have hrest:∀ i:Nat,∃ l,cj p0 (i:Int) = some l∧DistIs p0 (i:Int) l:=fun i=>aaj hF (i:Int)
  have hd:i4 p0 = some (V3 all (fun i=>(cj p0 (i:Int)).getD []) p0.fObjects.length):=by
    unfold i4 dominatesF
    rw [ha]
    simp only [gk]
    refine (Bool.cond_eq_ite .. ▸ if_pos ?_:_)
    rw [dw,dw,mw,mw,pw]
    refine ⟨⟨by omega,hA.1⟩,fun i _=>?_⟩
    obtain ⟨l,h1,h2⟩:=hrest i
    rw [h1]
    exact decide_eq_true h2.1
  refine ⟨_,fun a b=>decide (0 < all.getD b 0) && decide (((cj p0 (a:Int)).getD []).getD b 0 = 0),hd,Go.RM.domM_len ..,fun a ha=>⟨E5 all ((cj p0 (a:Int)).getD []) p0.fObjects.length,?_,?_,fun b hb=>?_⟩,fun a b ha hb=>?_⟩
  · unfold V3
    rw [gw,List.getElem?_range ha]; rfl
  · unfold E5
    rw [List.length_map,List.length_range]
  · unfold E5
    rw [gw,List.getElem?_range hb]; rfl
  · obtain ⟨l,h1,h2⟩:=hrest a
    rw [h1,Option.getD_some,dw,mw,mw,hA.pos hb,h2.zero hb]
    rfl
theorem DomEnd.dm {ls dv:List Nat} {dk:List Bool} (hO:OrdQ p0 ls) (hE:DomEnd p0 ls dv dk) {a b:Nat} (ha:a < p0.fObjects.length) (hb:Kn dk b):DM p0 a b↔Anc (dF dv) p0.fObjects.length b a:=by
  constructor
  · rintro ⟨_,h⟩
    exact hE.ci.S b hb a (by omega) fun m hm=>h ⟨m,hm⟩
  · intro h
    exact ⟨(hO.mem b).1 (hE.ci.kin b hb),fun ⟨m,hm⟩=>hE.exact b hb a (by omega) h m hm⟩
theorem amJ (l:List Int) (hl:l.length≤1000000):d9 l l = some true:=by
  unfold d9
  rw [u0 (step:=jX l l) l (fun _ _=>none) hl (fun i y hy=>by
    have hil:=gz hy
    have hw:=vW (show i < 9223372036854775807 by omega)
    unfold jX
    simp only [show ((i:Int) < (l.length:Int)) from by omega,decide_true,cond_true,l7,hy,gk,Bool.not_true,cond_false,hw]) (by unfold jX; simp),azj]
  simp only [decide_true,Bool.not_true,cond_false,O7,gk]
end
open Go.Proofs Go.Proofs.Ytliccamocpglcab
open Go.RM (JV rK)
section
variable {p0:api_Heap}
end
open Go.Proofs Go.Proofs.Ytliccamocpglcab
open Go.RM (JV rK)
section
variable {p0:api_Heap}
end
open Go.Proofs Go.Proofs.Ytliccamocpglcab
open Go.RM (l8 xV Q5 aaq)
open Classical in
noncomputable def rQ (f:Nat→Int) (p:Nat→Prop):Nat→Int
  | 0=>0
  | n + 1=>rQ f p n + if p n then f n else 0
theorem o9 {f g:Nat→Int} {p q:Nat→Prop}:∀ (n:Nat),(∀ u,u < n→(p u↔q u))→(∀ u,u < n→p u→f u = g u)→rQ f p n = rQ g q n
  | 0,_,_=>rfl
  | n + 1,h1,h2=>by
    unfold rQ
    rw [o9 n (fun u hu=>h1 u (by omega)) (fun u hu=>h2 u (by omega))]
    congr 1
    by_cases h:p n
    · rw [if_pos h,if_pos ((h1 n (by omega)).1 h),h2 n (by omega) h]
    · rw [if_neg h,if_neg (fun hq=>h ((h1 n (by omega)).2 hq))]
theorem yj {f:Nat→Int} {p:Nat→Prop}:∀ (n:Nat),(∀ u,u < n→¬ p u)→rQ f p n = 0
  | 0,_=>rfl
  | n + 1,h=>by
    unfold rQ
    rw [yj n (fun u hu=>h u (by omega)),if_neg (h n (by omega))]; rfl
theorem Rq {f:Nat→Int} {p q:Nat→Prop}:∀ (n:Nat),(∀ u,u < n→¬ (p u∧q u))→rQ f (fun u=>p u∨q u) n = rQ f p n + rQ f q n
  | 0,_=>rfl
  | n + 1,h=>by
    have hn:=h n (by omega)
    unfold rQ
    rw [Rq n (fun u hu=>h u (by omega))]
    by_cases h1:p n
    · have h2 : ¬ q n:=fun h2=>hn ⟨h1,h2⟩
      rw [if_pos h1,if_neg h2,if_pos (.inl h1)]; omega
    · by_cases h2:q n
      · rw [if_neg h1,if_pos h2,if_pos (.inr h2)]; omega
      · rw [if_neg h1,if_neg h2,if_neg (fun h=>h.elim h1 h2)]; omega
theorem T0 {f:Nat→Int} {i:Nat}:∀ (n:Nat),rQ f (fun u=>u = i) n = if i < n then f i else 0
  | 0=>by rw [if_neg (by omega)]; rfl
  | n + 1=>by
    unfold rQ
    rw [T0 n]
    by_cases h:n = i
    · subst h; rw [if_neg (by omega),if_pos rfl,if_pos (by omega)]; omega
    · rw [if_neg h]
      by_cases h2:i < n
      · rw [if_pos h2,if_pos (by omega)]; omega
      · rw [if_neg h2,if_neg (by omega)]; omega
theorem LQ {f:Nat→Int} {p:Nat→Prop} {B:Int} (hB:0≤B):∀ (n:Nat),(∀ u,u < n→0≤f u∧f u≤B)→0≤rQ f p n∧rQ f p n≤n * B
  | 0,_=>by unfold rQ; omega
  | n + 1,h=>by
    have h1:=LQ (p:=p) hB n (fun u hu=>h u (by omega))
    have h2:=h n (by omega)
    unfold rQ
    have e:((n + 1:Nat):Int) * B = n * B + B:=by rw [Int.natCast_add,Int.add_mul]; omega
    rw [e]
    split <;> omega
section
variable {p0:api_Heap}
def SZ (p0:api_Heap) (u:Nat):Int:=((fY p0).map Go.RM.HO.size).getD u 0
theorem aoK {u:Nat} {o:bY} (h:p0.fObjects[u]? = some o):SZ p0 u = o.fSize:=by
  unfold SZ
  rw [lw,gw,MK,h]; rfl
theorem aqX (hV:hZ p0) {u:Nat} (h:u < p0.fObjects.length):0≤SZ p0 u∧SZ p0 u≤1000000000000:=by
  obtain ⟨o,ho⟩ : ∃ o,p0.fObjects[u]? = some o:=⟨_,ck h⟩
  rw [aoK ho]
  exact hV.size o (jw ho)
abbrev O2 (p0:api_Heap) (dv:List Nat) (u v:Nat):Prop:=Anc (dF dv) p0.fObjects.length u v
structure RI (p0:api_Heap) (dv D:List Nat) (z:List Int):Prop where
  len:z.length = p0.fObjects.length + 1
  A1:∀ v,v∈D→z.getD v 0 = rQ (SZ p0) (fun u=>u∈D∧O2 p0 dv u v) p0.fObjects.length
  A2:∀ v,v≤p0.fObjects.length→v ∉ D→z.getD v 0 = rQ (SZ p0) (fun u=>u∈D∧∃ c,c∈D∧dF dv c = v∧O2 p0 dv u c) p0.fObjects.length
  B:∀ v,v≤p0.fObjects.length→z.getD v 0 = (if v∈D then SZ p0 v else 0) + rQ (fun c=>z.getD c 0) (fun c=>c∈D∧dF dv c = v) p0.fObjects.length
theorem RI.range (hF:mQ p0) (hV:hZ p0) {dv D:List Nat} {z:List Int} (h:RI p0 dv D z) {v:Nat} (hv:v≤p0.fObjects.length):0≤z.getD v 0∧z.getD v 0≤16000000000000:=by
  have hn:=hF.n
  have key:∀ p:Nat→Prop,0≤rQ (SZ p0) p p0.fObjects.length∧rQ (SZ p0) p p0.fObjects.length≤16000000000000:=fun p=>by
    have:=LQ (p:=p) (B:=1000000000000) (by omega) p0.fObjects.length fun u hu=>aqX hV hu
    refine ⟨this.1,Int.le_trans this.2 ?_⟩
    have:(p0.fObjects.length:Int) * 1000000000000≤16 * 1000000000000:=Int.mul_le_mul_of_nonneg_right (by omega) (by omega)
    omega
  by_cases e:v∈D
  · rw [h.A1 v e]; exact key _
  · rw [h.A2 v hv e]; exact key _
theorem I5 {l:List Int} {i:Nat} {x:Int} (h:i < l.length) (v:Nat):(l.set i x).getD v 0 = if v = i then x else l.getD v 0:=by
  rw [lw,zw]
  by_cases e:i = v
  · subst e; rw [if_pos rfl,if_pos rfl,if_pos h]; rfl
  · rw [if_neg e,if_neg (Ne.symm e),← lw]
theorem aHY (dv:List Nat):RI p0 dv [] (List.replicate (p0.fObjects.length + 1) 0):=by
  have hz:∀ v,(List.replicate (p0.fObjects.length + 1) (0:Int)).getD v 0 = 0:=fun v=>by
    rw [lw,List.getElem?_replicate]
    split <;> rfl
  refine ⟨nw,fun v h=>by simp at h,fun v _ _=>?_,fun v _=>?_⟩
  · rw [hz,yj _ fun u _ h=>by simp at h]
  · rw [hz,if_neg (by simp),yj _ fun u _ h=>by simp at h]; rfl
theorem aPQ (hF:mQ p0) (hV:hZ p0) {ls dv:List Nat} {dk:List Bool} (hO:OrdQ p0 ls) (hE:DomEnd p0 ls dv dk) {l D:List Nat} {i:Nat} (hl:ls = l++i :: D) {z:List Int} (h:RI p0 dv D z):RI p0 dv (i :: D) (xV ((fY p0).map Go.RM.HO.size) dv z i):=by
  have hn:=hF.n
  have hmem:i∈ls:=by rw [hl]; simp
  have hin:=hO.lt i hmem
  have hK:∀ x,x∈ls→Kn dk x:=fun x hx=>hE.all x (vk _ hx)
  obtain ⟨hkd,hlt⟩:=hE.ci.tree.up i (hK i hmem) (by omega)
  have hdn:dF dv i≤p0.fObjects.length:=hO.le (hE.ci.kin _ hkd)
  have hpi:PL p0 ls i = l.length + 1:=hO.place (by rw [hl]; show (p0.fObjects.length :: (l++i :: D))[l.length + 1]? = some i; simp)
  have hpD:∀ u,u∈D→u∈ls∧l.length + 1 < PL p0 ls u:=fun u hu=>by
    obtain ⟨j,hj⟩:=Dk hu
    refine ⟨by rw [hl]; simp [hu],?_⟩
    have:(t8 p0 ls)[l.length + 2 + j]? = some u:=by
      rw [hl]
      show (p0.fObjects.length :: (l++i :: D))[l.length + 2 + j]? = some u
      rw [show l.length + 2 + j = (l.length + 1 + j) + 1 from by omega,List.getElem?_cons_succ,List.getElem?_append_right (by omega),show l.length + 1 + j - l.length = j + 1 from by omega,List.getElem?_cons_succ,hj]
    rw [hO.place this]; omega
  have hiD:i ∉ D:=fun hi=>by have:=(hpD i hi).2; omega
  have hdi:dF dv i ≠ i:=fun e=>by rw [e] at hlt; omega
  have hdD:dF dv i ∉ D:=fun hi=>by have:=(hpD _ hi).2; omega
  have hupD:∀ c,c∈D→Kn dk c∧c ≠ p0.fObjects.length:=fun c hc=>⟨hK c (hpD c hc).1,by have:=hO.lt c (hpD c hc).1; omega⟩
  have hnoA:∀ v,v∈D→¬ O2 p0 dv i v:=fun v hv ha=>by
    have h1:=(hE.ci.tree.anc ha (hK i hmem)).2.1
    have:=(hpD v hv).2; omega
  have hrange:=fun {v:Nat} (hv:v≤p0.fObjects.length)=>h.range hF hV hv
  have hsz:=aqX hV hin
  have hz:∀ v,v≤p0.fObjects.length→(xV ((fY p0).map Go.RM.HO.size) dv z i).getD v 0 = if v = i then z.getD i 0 + SZ p0 i else if v = dF dv i then z.getD v 0 + (z.getD i 0 + SZ p0 i) else z.getD v 0:=by
    intro v hv
    have hzi:=hrange (v:=i) (by omega)
    have hzd:=hrange hdn
    have hw1:IntKind.i64.wrap (z.getD i 0 + SZ p0 i) = z.getD i 0 + SZ p0 i:=iZ (by omega)
    have hw2:IntKind.i64.wrap (z.getD (dF dv i) 0 + (z.getD i 0 + SZ p0 i)) = z.getD (dF dv i) 0 + (z.getD i 0 + SZ p0 i):=iZ (by omega)
    have e1:Q5 ((fY p0).map Go.RM.HO.size) z i = z.set i (z.getD i 0 + SZ p0 i):=by
      unfold Q5; rw [← hw1]; rfl
    have g1:=fun v=>I5 (l:=z) (i:=i) (x:=z.getD i 0 + SZ p0 i) (by rw [h.len]; omega) v
    unfold xV aaq
    rw [e1,g1,g1,if_neg hdi,if_pos rfl,hw2,I5 (by rw [uw,h.len]; exact Nat.lt_succ_of_le hdn),g1]
    by_cases e:v = i
    · subst e; rw [if_neg (Ne.symm hdi),if_pos rfl,if_pos rfl]
    · rw [if_neg e]
      by_cases e2:v = dF dv i
      · rw [if_pos e2,if_neg e,if_pos e2,e2]
      · rw [if_neg e2,if_neg e,if_neg e2]
  have hzi:z.getD i 0 = rQ (SZ p0) (fun u=>u∈D∧O2 p0 dv u i) p0.fObjects.length:=by
    rw [h.A2 i (by omega) hiD]
    refine o9 _ (fun u _=>⟨fun ⟨hu,c,hc,e,ha⟩=>⟨hu,?_⟩,fun ⟨hu,ha⟩=>⟨hu,?_⟩⟩) fun _ _ _=>rfl
    · exact ha.trans (.up (hupD c hc).2 (e ▸ .refl _))
    · have key:∀ u,O2 p0 dv u i→u∈D→∃ c,c∈D∧dF dv c = i∧O2 p0 dv u c:=by
        intro u ha
        generalize hq:i = q at ha
        induction ha with
        | refl=>intro hu; subst hq; exact absurd hu hiD
        | @up u q hne ha' ih =>
          intro hu
          subst hq
          by_cases e:dF dv u = i
          · exact ⟨u,hu,e,.refl _⟩
          · have hkd':=hE.ci.tree.up u (hupD u hu).1 (hupD u hu).2
            have hpl:=(hE.ci.tree.anc ha' hkd'.1)
            have hdu:dF dv u∈D:=by
              have h1:dF dv u∈t8 p0 ls:=hE.ci.kin _ hkd'.1
              obtain ⟨j,hj⟩:=Dk h1
              have h2:=hO.place hj
              have h3:l.length + 1 < j:=by
                rcases Nat.lt_or_ge (l.length + 1) j with h | h
                · exact h
                · have:=hpl.2.2 (by omega)
                  exact absurd this.symm e
              rw [hl] at hj
              have h4:(p0.fObjects.length :: (l++i :: D))[j]? = some (dF dv u):=hj
              obtain ⟨j',rfl⟩ : ∃ j',j = (l.length + 1 + j') + 1:=⟨j - (l.length + 2),by omega⟩
              rw [List.getElem?_cons_succ,List.getElem?_append_right (by omega),show l.length + 1 + j' - l.length = j' + 1 from by omega,List.getElem?_cons_succ] at h4
              exact jw h4
            obtain ⟨c,h1,h2,h3⟩:=ih rfl hdu
            exact ⟨c,h1,h2,.up hne h3⟩
      exact key u ha hu
  have hnew:z.getD i 0 + SZ p0 i = rQ (SZ p0) (fun u=>u∈i :: D∧O2 p0 dv u i) p0.fObjects.length:=by
    have e:rQ (SZ p0) (fun u=>u∈i :: D∧O2 p0 dv u i) p0.fObjects.length = rQ (SZ p0) (fun u=>(u∈D∧O2 p0 dv u i)∨u = i) p0.fObjects.length:=by
      refine o9 _ (fun u _=>⟨fun ⟨hu,ha⟩=>?_,fun hu=>?_⟩) fun _ _ _=>rfl
      · rcases jk.1 hu with e | hu
        · exact .inr e
        · exact .inl ⟨hu,ha⟩
      · rcases hu with ⟨hu,ha⟩ | e
        · exact ⟨vk _ hu,ha⟩
        · subst e; exact ⟨Cw ..,.refl _⟩
    rw [e,Rq,← hzi,T0,if_pos hin]
    rintro u _ ⟨⟨hu,_⟩,e⟩
    exact hiD (e ▸ hu)
  refine ⟨?_,fun v hv=>?_,fun v hv hvD=>?_,fun v hv=>?_⟩
  · unfold xV aaq Q5; rw [uw,uw,h.len]
  · rcases jk.1 hv with e | hv1
    · subst e
      rw [hz v (by omega),if_pos rfl,hnew]
    · have hvn:=hO.lt v (hpD v hv1).1
      have e1:v ≠ i:=fun e=>hiD (e ▸ hv1)
      have e2:v ≠ dF dv i:=fun e=>hdD (e ▸ hv1)
      rw [hz v (by omega),if_neg e1,if_neg e2,h.A1 v hv1]
      refine o9 _ (fun u _=>⟨fun ⟨hu,ha⟩=>⟨vk _ hu,ha⟩,fun ⟨hu,ha⟩=>?_⟩) fun _ _ _=>rfl
      rcases jk.1 hu with e | hu
      · subst e; exact absurd ha (hnoA v hv1)
      · exact ⟨hu,ha⟩
  · have e1:v ≠ i:=fun e=>hvD (e ▸ Cw ..)
    have hvD':v ∉ D:=fun hh=>hvD (vk _ hh)
    rw [hz v hv,if_neg e1]
    have hsplit:rQ (SZ p0) (fun u=>u∈i :: D∧∃ c,c∈i :: D∧dF dv c = v∧O2 p0 dv u c) p0.fObjects.length = rQ (SZ p0) (fun u=>(u∈D∧∃ c,c∈D∧dF dv c = v∧O2 p0 dv u c)∨(u∈i :: D∧dF dv i = v∧O2 p0 dv u i)) p0.fObjects.length:=by
      refine o9 _ (fun u _=>⟨fun ⟨hu,c,hc,e,ha⟩=>?_,fun hu=>?_⟩) fun _ _ _=>rfl
      · rcases jk.1 hc with e' | hc1
        · subst e'; exact .inr ⟨hu,e,ha⟩
        · rcases jk.1 hu with e' | hu1
          · subst e'; exact absurd ha (hnoA c hc1)
          · exact .inl ⟨hu1,c,hc1,e,ha⟩
      · rcases hu with ⟨hu,c,hc,e,ha⟩ | ⟨hu,e,ha⟩
        · exact ⟨vk _ hu,c,vk _ hc,e,ha⟩
        · exact ⟨hu,i,Cw ..,e,ha⟩
    rw [hsplit,Rq _ (fun u _=>?_),← h.A2 v hv hvD']
    · by_cases e2:v = dF dv i
      · rw [if_pos e2,hnew]
        congr 1
        refine o9 _ (fun u _=>⟨fun ⟨hu,ha⟩=>⟨hu,e2.symm,ha⟩,fun ⟨hu,_,ha⟩=>⟨hu,ha⟩⟩) fun _ _ _=>rfl
      · rw [if_neg e2,yj _ fun u _ ⟨_,e,_⟩=>e2 e.symm]; omega
    · rintro ⟨⟨hu,c,hc,e,ha⟩,⟨_,e',ha'⟩⟩
      have hci:c ≠ i:=fun e=>hiD (e ▸ hc)
      rcases ha.linear ha' with h1 | h1
      · cases h1 with
        | refl=>exact hci rfl
        | up _ h1 =>
          rw [e,← e'] at h1
          have:=(hE.ci.tree.anc h1 hkd).2.1
          omega
      · exact hnoA c hc h1
  · have hold:=h.B v hv
    have hsum:rQ (fun c=>(xV ((fY p0).map Go.RM.HO.size) dv z i).getD c 0) (fun c=>c∈i :: D∧dF dv c = v) p0.fObjects.length = rQ (fun c=>z.getD c 0) (fun c=>c∈D∧dF dv c = v) p0.fObjects.length + if dF dv i = v then z.getD i 0 + SZ p0 i else 0:=by
      have e:rQ (fun c=>(xV ((fY p0).map Go.RM.HO.size) dv z i).getD c 0) (fun c=>c∈i :: D∧dF dv c = v) p0.fObjects.length = rQ (fun c=>(xV ((fY p0).map Go.RM.HO.size) dv z i).getD c 0) (fun c=>(c∈D∧dF dv c = v)∨(c = i∧dF dv i = v)) p0.fObjects.length:=by
        refine o9 _ (fun u _=>⟨fun ⟨hu,e⟩=>?_,fun hu=>?_⟩) fun _ _ _=>rfl
        · rcases jk.1 hu with e' | hu
          · subst e'; exact .inr ⟨rfl,e⟩
          · exact .inl ⟨hu,e⟩
        · rcases hu with ⟨hu,e⟩ | ⟨e',e⟩
          · exact ⟨vk _ hu,e⟩
          · subst e'; exact ⟨Cw ..,e⟩
      rw [e,Rq (p:=fun c=>c∈D∧dF dv c = v) (q:=fun c=>c = i∧dF dv i = v) _ fun u _ h=>hiD (h.2.1 ▸ h.1.1)]
      congr 1
      · refine o9 _ (fun _ _=>Iff.rfl) fun u hu ⟨hD,_⟩=>?_
        have e1:u ≠ i:=fun e=>hiD (e ▸ hD)
        have e2:u ≠ dF dv i:=fun e=>hdD (e ▸ hD)
        rw [hz u (by omega),if_neg e1,if_neg e2]
      · by_cases e:dF dv i = v
        · rw [if_pos e,o9 (g:=fun c=>(xV ((fY p0).map Go.RM.HO.size) dv z i).getD c 0) (q:=fun c=>c = i) _ (fun u _=>⟨fun h=>h.1,fun h=>⟨h,e⟩⟩) fun _ _ _=>rfl,T0,if_pos hin,hz i (by omega),if_pos rfl]
        · rw [if_neg e,yj _ fun u _ h=>e h.2]
    rw [hsum,hz v hv]
    by_cases e1:v = i
    · subst e1
      rw [if_pos rfl,if_neg hdi,if_pos (Cw ..),hold,if_neg hiD]; omega
    · have hm:(v∈i :: D)↔v∈D:=⟨fun hh=>(jk.1 hh).resolve_left e1,vk _⟩
      rw [if_neg e1]
      by_cases e2:v = dF dv i
      · have hvD:v ∉ D:=fun hh=>hdD (e2 ▸ hh)
        rw [if_pos e2,if_pos e2.symm,hold,if_neg hvD,if_neg (fun hh=>hvD (hm.1 hh))]; omega
      · rw [if_neg e2,if_neg (Ne.symm e2),hold]
        by_cases h3:v∈D
        · rw [if_pos h3,if_pos (hm.2 h3)]; omega
        · rw [if_neg h3,if_neg (fun hh=>h3 (hm.1 hh))]; omega
theorem aWx (hF:mQ p0) (hV:hZ p0) {ls dv:List Nat} {dk:List Bool} (hO:OrdQ p0 ls) (hE:DomEnd p0 ls dv dk):RI p0 dv ls (l8 (fY p0) dv ls):=by
  have key:∀ (l D:List Nat) (z:List Int),ls = l++D→RI p0 dv D z→RI p0 dv ls (l.reverse.foldl (xV ((fY p0).map Go.RM.HO.size) dv) z):=by
    intro l
    induction hk:l.length generalizing l with
    | zero =>
      intro D z e h
      have:l = []:=ik hk
      subst this
      rw [e]; exact h
    | succ k ih =>
      intro D z e h
      obtain ⟨l',i,rfl⟩ : ∃ l' i,l = l'++[i]:=⟨l.dropLast,l.getLast (fun e=>by rw [e] at hk; simp at hk),(List.dropLast_concat_getLast _).symm⟩
      rw [List.reverse_append,List.reverse_singleton,List.singleton_append,List.foldl_cons]
      have e':ls = l'++i :: D:=by rw [e,List.append_assoc]; rfl
      exact ih l' (by simpa using hk) (i :: D) _ e' (aPQ hF hV hO hE e' h)
  have hz:List.replicate ((fY p0).length + 1) (0:Int) = List.replicate (p0.fObjects.length + 1) 0:=by rw [iz]
  unfold l8
  rw [hz]
  exact key ls [] _ (by rw [List.append_nil]) (aHY dv)
end
open Go.Proofs Go.Proofs.Ytliccamocpglcab
open Go.RM (l8 JV rK)
section
variable {p0:api_Heap}
theorem ajJ {ls dv:List Nat} {dk:List Bool} (hO:OrdQ p0 ls) (hE:DomEnd p0 ls dv dk) {b:Nat} (hb:b < p0.fObjects.length):b∈ls↔Kn dk b:=by
  constructor
  · intro h; exact hE.all b (vk _ h)
  · intro h
    rcases jk.1 (hE.ci.kin b h) with e | e
    · omega
    · exact e
noncomputable def yJ (p0:api_Heap) (v:Nat):Int:=rQ (SZ p0) (fun b=>DM p0 v b) p0.fObjects.length
theorem aTX {ls dv:List Nat} {dk:List Bool} (hO:OrdQ p0 ls) (hE:DomEnd p0 ls dv dk) {v u:Nat} (hv:v < p0.fObjects.length) (hu:u < p0.fObjects.length):DM p0 v u↔u∈ls∧O2 p0 dv u v:=by
  constructor
  · intro h
    have hm:u∈p0.fObjects.length :: ls:=(hO.mem u).2 h.1
    have hul:u∈ls:=by
      rcases jk.1 hm with e | e
      · omega
      · exact e
    exact ⟨hul,(hE.dm hO hv (hE.all u hm)).1 h⟩
  · rintro ⟨h1,h2⟩
    exact (hE.dm hO hv (hE.all u (vk _ h1))).2 h2
theorem aKX (hF:mQ p0) (hV:hZ p0) {ls dv:List Nat} {dk:List Bool} (hO:OrdQ p0 ls) (hE:DomEnd p0 ls dv dk) {v:Nat} (hv:v < p0.fObjects.length):(l8 (fY p0) dv ls).getD v 0 = yJ p0 v:=by
  have hR:=aWx hF hV hO hE
  by_cases h:v∈ls
  · rw [hR.A1 v h]
    exact o9 _ (fun u hu=>(aTX hO hE hv hu).symm) fun _ _ _=>rfl
  · rw [hR.A2 v (by omega) h]
    refine (yj _ fun u _ hh=>?_).trans (yj _ fun u hu hh=>?_).symm
    · obtain ⟨_,c,hc,e,_⟩:=hh
      have h1:=hE.ci.tree.up c (hE.all c (vk _ hc)) (by have:=hO.lt c hc; omega)
      exact h ((ajJ hO hE hv).2 (e ▸ h1.1))
    · obtain ⟨h1,h2⟩:=(aTX hO hE hv hu).1 hh
      exact h ((ajJ hO hE hv).2 (hE.ci.tree.anc h2 (hE.all u (vk _ h1))).1)
theorem aOZ (hF:mQ p0) (hV:hZ p0) (p:Nat→Prop) {k:Nat} (hk:k≤p0.fObjects.length):0≤rQ (SZ p0) p k∧rQ (SZ p0) p k≤16000000000000:=by
  have hn:=hF.n
  have h:=LQ (f:=SZ p0) (p:=p) (B:=1000000000000) (by omega) k fun u hu=>aqX hV (by omega:u < p0.fObjects.length)
  have:(k:Int) * 1000000000000≤16 * 1000000000000:=Int.mul_le_mul_of_nonneg_right (by omega) (by omega)
  omega
open Classical in
theorem YJ (f:Nat→Int) (p:Nat→Prop) (n:Nat):rQ f p (n + 1) = rQ f p n + if p n then f n else 0:=rfl
theorem RJ {l:List Int} {i:Nat} (h:i < l.length):l[i]? = some (l.getD i 0):=by rw [lw,ck h]; rfl
open Classical in
theorem aNz (hF:mQ p0) (hV:hZ p0) {d:List (List Bool)} {g:Nat→Nat→Bool} (hM:Mat p0 d g) {a:Nat} (ha:a < p0.fObjects.length) {z0:List Int} (hz:z0.length = p0.fObjects.length) (h0:z0.getD a 0 = 0) :
    Ok (loop (j0 p0 d (a:Int)) (z0,0)) fun z=>z.length = p0.fObjects.length∧(∀ v,v ≠ a→z.getD v 0 = z0.getD v 0)∧z.getD a 0 = yJ p0 a:=by
  have hn:=hF.n
  have hl:=hM.len
  refine K7 p0.fObjects.length (fun (z:List Int) (k:Int)=>z.length = p0.fObjects.length∧(∀ v,v ≠ a→z.getD v 0 = z0.getD v 0)∧z.getD a 0 = rQ (SZ p0) (fun b=>DM p0 a b) k.toNat) (by omega) ⟨hz,fun _ _=>rfl,h0⟩ fun z k hI h0 h1=>?_
  obtain ⟨hI1,hI2,hI3⟩:=hI
  unfold j0
  obtain ⟨b,rfl⟩:=Int.eq_ofNat_of_zero_le h0
  refine yZ (fun hk=>?_) (fun hk=>?_)
  · have hb:b < p0.fObjects.length:=by omega
    obtain ⟨r,hr,_,hrv⟩:=hM.row a ha
    have hza:=RJ (l:=z) (i:=a) (by omega)
    obtain ⟨o,ho⟩ : ∃ o,p0.fObjects[b]? = some o:=⟨_,ck hb⟩
    have hsz:=aqX hV hb
    rw [aoK ho] at hsz
    have hbd:=aOZ hF hV (fun b=>DM p0 a b) (show b≤p0.fObjects.length by omega)
    have hbt:((b:Int) + 1).toNat = b + 1:=by omega
    simp only [l7,hr,gk,hrv b hb]
    cases hg:g a b with
    | false =>
      simp only [cond_false,gk]
      refine L9 (Inv:=fun (z:List Int) (k:Int)=>z.length = p0.fObjects.length∧(∀ v,v ≠ a→z.getD v 0 = z0.getD v 0)∧z.getD a 0 = rQ (SZ p0) (fun b=>DM p0 a b) k.toNat) ⟨hI1,hI2,?_⟩ h0 (by omega) (by omega)
      rw [hI3,hbt,YJ,if_neg (fun hd=>by have:=(hM.val a b ha hb).2 hd; rw [hg] at this; cases this),Int.toNat_natCast,Int.add_zero]
    | true =>
      simp only [cond_true,hza,ho,gk]
      have hw:w64 (z.getD a 0 + o.fSize) = z.getD a 0 + o.fSize:=iZ (by rw [hI3,Int.toNat_natCast]; omega)
      rw [hw,Int.toNat_natCast]
      refine L9 (Inv:=fun (z:List Int) (k:Int)=>z.length = p0.fObjects.length∧(∀ v,v ≠ a→z.getD v 0 = z0.getD v 0)∧z.getD a 0 = rQ (SZ p0) (fun b=>DM p0 a b) k.toNat) ⟨by rw [uw]; exact hI1,fun v hv=>?_,?_⟩ h0 (by omega) (by omega)
      · rw [I5 (by omega),if_neg hv]; exact hI2 v hv
      · rw [I5 (by omega),if_pos rfl,hI3,hbt,Int.toNat_natCast]
        rw [YJ,if_pos ((hM.val a b ha hb).1 hg),aoK ho]
  · refine B8 ⟨hI1,hI2,?_⟩
    rw [hI3]
    have:(b:Int).toNat = p0.fObjects.length:=by omega
    rw [this]; rfl
theorem aRJ (hF:mQ p0) (hV:hZ p0) (hs:∀ o∈p0.fObjects,o.fType.size≤9223372036854775807) (h0:GZ p0 = 0):∃ z,fJ p0 = some (z,0)∧z.length = p0.fObjects.length∧∀ v,v < p0.fObjects.length→z.getD v 0 = yJ p0 v:=by
  have hn:=hF.n
  obtain ⟨d,g,hd,hM⟩:=aWQ hF
  have hl:=hM.len
  have hm:mkB 8 (d.length:Int) = true:=by unfold mkB; exact decide_eq_true (by omega)
  unfold fJ
  rw [Y9 hF hs,h0]
  simp only [gk,decide_true,Bool.not_true,cond_false,hd,hm,cond_true]
  have key:Ok (loop (j7 p0 d) (List.replicate (Int.toNat (d.length:Int)) 0,0)) fun z=>z.length = p0.fObjects.length∧∀ v,v < p0.fObjects.length→z.getD v 0 = yJ p0 v:=by
    have hz:∀ v,(List.replicate (Int.toNat (d.length:Int)) (0:Int)).getD v 0 = 0:=fun v=>by
      rw [lw,List.getElem?_replicate]
      split <;> rfl
    refine K7 p0.fObjects.length (fun (z:List Int) (k:Int)=>z.length = p0.fObjects.length∧(∀ v,v < p0.fObjects.length→(v:Int) < k→z.getD v 0 = yJ p0 v)∧∀ v:Nat,k≤(v:Int)→z.getD v 0 = 0) (by omega) ⟨by rw [nw]; omega,fun v _ h=>by omega,fun v _=>hz v⟩ fun z k hI h0 h1=>?_
    obtain ⟨hI1,hI2,hI3⟩:=hI
    unfold j7
    obtain ⟨a,rfl⟩:=Int.eq_ofNat_of_zero_le h0
    refine yZ (fun hk=>?_) (fun hk=>?_)
    · have ha:a < p0.fObjects.length:=by omega
      refine oK (aNz hF hV hM ha hI1 (hI3 a (by omega))) fun z' hz'=>?_
      obtain ⟨q1,q2,q3⟩:=hz'
      refine L9 (Inv:=fun (z:List Int) (k:Int)=>z.length = p0.fObjects.length∧(∀ v,v < p0.fObjects.length→(v:Int) < k→z.getD v 0 = yJ p0 v)∧∀ v:Nat,k≤(v:Int)→z.getD v 0 = 0) ⟨q1,fun v hv hlt=>?_,fun v hlt=>?_⟩ h0 (by omega) (by omega)
      · by_cases e:v = a
        · rw [e]; exact q3
        · rw [q2 v e]; exact hI2 v hv (by omega)
      · rw [q2 v (by omega)]; exact hI3 v (by omega)
    · exact B8 ⟨hI1,fun v hv=>hI2 v hv (by omega)⟩
  obtain ⟨z,h1,h2⟩:=key
  rw [h1]
  exact ⟨z,rfl,h2⟩
end
open Go.Proofs Go.Proofs.Ytliccamocpglcab
open Go.RM (l8 JV rK)
section
variable {p0:api_Heap}
end
open Go.Proofs Go.Proofs.Ytliccamocpglcab
open Go.RM (aqJ WZ QSt)
section
variable {p0:api_Heap}
def dsF (p0:api_Heap) (es:List (Nat × Nat)):List Nat:=p0.fObjects.length :: es.map Prod.snd
structure BI (p0:api_Heap) (es:List (Nat × Nat)) (t:Nat) (pre:List Nat) (bv:List Nat) (bk:List Bool):Prop where
  l1:bv.length = p0.fObjects.length + 1
  l2:bk.length = p0.fObjects.length + 1
  kn:∀ k,k≤p0.fObjects.length→(bk.getD k false = true↔k∈dsF p0 es)
  nd:(dsF p0 es).Nodup
  par:∀ (j t' v:Nat),es[j]? = some (t',v)→t'≤j∧v < p0.fObjects.length∧∃ u,(dsF p0 es)[t']? = some u∧Edge p0 u v∧bv.getD v 0 = u
  lex:es.Pairwise fun a b=>a.1 < b.1∨(a.1 = b.1∧a.2 < b.2)
  top:∀ e∈es,e.1 < t∨(e.1 = t∧e.2∈pre)
  all:∀ (t' u:Nat),t' < t→(dsF p0 es)[t']? = some u→∀ v,Edge p0 u v→∃ e∈es,e.2 = v∧e.1≤t'
  cur:∀ v∈pre,∃ e∈es,e.2 = v∧e.1≤t
theorem BI.le {es:List (Nat × Nat)} {t:Nat} {pre bv:List Nat} {bk:List Bool} (h:BI p0 es t pre bv bk) {x:Nat} (hx:x∈dsF p0 es):x≤p0.fObjects.length:=by
  rcases jk.1 hx with e | hx
  · omega
  · obtain ⟨e,he,rfl⟩:=yw.1 hx
    obtain ⟨j,hj⟩:=Dk he
    have:=(h.par j e.1 e.2 hj).2.1
    omega
end
open Go.Proofs Go.Proofs.Ytliccamocpglcab
open Go.RM (GJ WZ)
section
variable {p0:api_Heap}
inductive To (p0:api_Heap) (w:Nat):Nat→Nat→Prop
  | one:To p0 w 1 w
  | more {r i k:Nat}:Edge p0 i k→To p0 w r k→To p0 w (r + 1) i
def LTo (p0:api_Heap) (w r i:Nat):Prop:=To p0 w r i∧∀ r',r' < r→¬ To p0 w r' i
theorem To.pos {w r i:Nat} (h:To p0 w r i):0 < r:=by cases h <;> omega
theorem To.path {w r i m:Nat} (h:To p0 w r i):Pth p0 (-1) m i→Pth p0 (-1) (m + (r - 1)) w:=by
  induction h generalizing m with
  | one=>exact fun h=>h
  | @more r i k he ht ih =>
    intro hp
    have hpos:=ht.pos
    have:=ih (m:=m + 1) (.succ hp he (by omega))
    rw [show m + 1 + (r - 1) = m + (r + 1 - 1) from by omega] at this
    exact this
section
variable {es:List (Nat × Nat)} {bv:List Nat} {bk:List Bool}
end
end
open Go.Proofs Go.Proofs.Ytliccamocpglcab
open Go.RM (GJ WZ pathF)
section
variable {p0:api_Heap}
end
open Go.Proofs Go.Proofs.Ytliccamocpglcab
open Go.RM (l8 topSort topF wX outT Jq WK cfT)
section
variable {p0:api_Heap}
def Bfr (p0:api_Heap) (x y:Nat):Prop:=yJ p0 y < yJ p0 x∨(yJ p0 x = yJ p0 y∧x < y)
def idT (p0:api_Heap) (i:Nat):Int:=((p0.fObjects[i]?).map fun o=>o.fId).getD 0
theorem Uj (i:Nat):Jq (fY p0) i = idT p0 i:=by
  unfold Jq idT
  rw [MK]
  cases p0.fObjects[i]? <;> rfl
theorem alj (hV:hZ p0) {x y:Nat} (hx:x < p0.fObjects.length) (hy:y < p0.fObjects.length):idT p0 x < idT p0 y↔x < y:=by
  obtain ⟨a,ha⟩ : ∃ o,p0.fObjects[x]? = some o:=⟨_,ck hx⟩
  obtain ⟨b,hb⟩ : ∃ o,p0.fObjects[y]? = some o:=⟨_,ck hy⟩
  have ea:idT p0 x = a.fId:=by unfold idT; rw [ha]; rfl
  have eb:idT p0 y = b.fId:=by unfold idT; rw [hb]; rfl
  rw [ea,eb]
  have key:∀ {x y:Nat} {a b:bY},p0.fObjects[x]? = some a→p0.fObjects[y]? = some b→x < y→a.fId < b.fId:=fun {x y a b} ha hb h =>
    auJ hV (y - x - 1) x a b ha (by rw [show x + (y - x - 1) + 1 = y from by omega]; exact hb)
  constructor
  · intro h
    rcases Nat.lt_trichotomy x y with h1 | h1 | h1
    · exact h1
    · subst h1; rw [ha] at hb; cases hb; omega
    · have:=key hb ha h1; omega
  · exact key ha hb
theorem aUZ (hF:mQ p0) (hV:hZ p0) {ls dv:List Nat} {dk:List Bool} (hO:OrdQ p0 ls) (hE:DomEnd p0 ls dv dk) (x y:Fin (fY p0).length):Go.Proofs.ltOf (cfT (fY p0) (l8 (fY p0) dv ls)) x y = true↔Bfr p0 x y:=by
  have hx:(x:Nat) < p0.fObjects.length:=by have:=x.2; have e:(fY p0).length = p0.fObjects.length:=iz _; omega
  have hy:(y:Nat) < p0.fObjects.length:=by have:=y.2; have e:(fY p0).length = p0.fObjects.length:=iz _; omega
  rw [Go.RM.cf_lt,mw,aKX hF hV hO hE hx,aKX hF hV hO hE hy,Uj,Uj,alj hV hx hy]
  unfold Bfr; omega
theorem aVY (hV:hZ p0):WK (fY p0) = true:=by
  unfold WK
  rw [pw]
  intro x hx
  rw [pw]
  intro y hy
  rw [List.mem_range,iz] at hx hy
  refine decide_eq_true fun h=>?_
  rw [Uj,Uj] at h
  have h1:=alj hV hx hy
  have h2:=alj hV hy hx
  rcases Nat.lt_trichotomy x y with h3 | h3 | h3
  · have:=h1.2 h3; omega
  · exact h3
  · have:=h2.2 h3; omega
theorem aGZ (hF:mQ p0) (hs:∀ o∈p0.fObjects,o.fType.size≤9223372036854775807) (n:Int):(GZ p0 ≠ 0∧tj p0 n = some ([],GZ p0))∨(GZ p0 = 0∧hZ p0∧((n < 0∧tj p0 n = some ([],2))∨(0≤n∧∃ S:List Nat,S.Nodup∧S.Pairwise (Bfr p0)∧(∀ x,x∈S↔x < p0.fObjects.length∧∃ m,Pth p0 (-1) m x)∧tj p0 n = some ((S.take n.toNat).map (idT p0),0)))):=by
  have hn:=hF.n
  unfold tj topF
  rw [anZ hF hs]
  simp only [gk]
  by_cases h:GZ p0 = 0
  · have hV:=aCZ h
    refine .inr ⟨h,hV,?_⟩
    obtain ⟨ls,h1,hO⟩:=aVQ hF hV
    obtain ⟨dv,dk,h2,hE⟩:=aOY hF hV hO
    have hlen:(p0.fObjects.length :: ls).length≤1000:=Nat.le_trans (BJ hO.nodup (n:=p0.fObjects.length + 1) fun x hx=>by have:=hO.le hx; omega) (by omega)
    have hc:(((p0.fObjects.length :: ls).drop 1).all (fun v=>decide (v < (fY p0).length)) && decide ((p0.fObjects.length :: ls).length≤1000) && WK (fY p0)) = true:=by
      rw [dw,dw,pw]
      exact ⟨⟨fun v hv=>decide_eq_true (by rw [iz]; exact hO.lt v hv),decide_eq_true hlen⟩,aVY hV⟩
    rw [h,h1]
    simp only [decide_true,cond_true,gk]
    rw [h2]
    simp only [gk]
    rw [hc]
    simp only [cond_true]
    by_cases hneg:n < 0
    · exact .inl ⟨hneg,by rw [decide_eq_true hneg]; rfl⟩
    · refine .inr ⟨by omega,((topSort (fY p0) (l8 (fY p0) dv ls) (wX (fY p0) (p0.fObjects.length :: ls))).map fun x:Fin (fY p0).length=>(x:Nat)),?_,?_,?_,?_⟩
      · have hk:(wX (fY p0) (p0.fObjects.length :: ls)).Nodup:=(List.nodup_finRange _).filter _
        have hp:=(List.mergeSort_perm (wX (fY p0) (p0.fObjects.length :: ls)) fun x y=>!Go.Proofs.ltOf (cfT (fY p0) (l8 (fY p0) dv ls)) y x).nodup_iff.2 hk
        unfold topSort
        rw [List.nodup_iff_pairwise_ne,List.pairwise_map]
        rw [List.nodup_iff_pairwise_ne] at hp
        exact hp.imp fun h e=>h (Fin.ext e)
      · have hk:(wX (fY p0) (p0.fObjects.length :: ls)).Nodup:=(List.nodup_finRange _).filter _
        have hp:=(List.mergeSort_perm (wX (fY p0) (p0.fObjects.length :: ls)) fun x y=>!Go.Proofs.ltOf (cfT (fY p0) (l8 (fY p0) dv ls)) y x).nodup_iff.2 hk
        have hle:∀ x y:Fin (fY p0).length,(!Go.Proofs.ltOf (cfT (fY p0) (l8 (fY p0) dv ls)) y x) = true↔¬ Bfr p0 y x:=fun x y=>by
          rw [← aUZ hF hV hO hE y x]; simp
        have hq:=List.pairwise_mergeSort (le:=fun x y=>!Go.Proofs.ltOf (cfT (fY p0) (l8 (fY p0) dv ls)) y x) (fun a b c h1 h2=>by
          rw [hle] at h1 h2 ⊢
          unfold Bfr at h1 h2 ⊢; omega) (fun a b=>by
          rw [Bk,hle,hle]
          unfold Bfr; omega) (wX (fY p0) (p0.fObjects.length :: ls))
        unfold topSort
        rw [List.pairwise_map]
        rw [List.nodup_iff_pairwise_ne] at hp
        refine (hp.and hq).imp fun {a b} ⟨h1,h2⟩=>?_
        rw [hle] at h2
        have h3:(a:Nat) ≠ (b:Nat):=fun e=>h1 (Fin.ext e)
        unfold Bfr at h2 ⊢; omega
      · intro x
        have hv:∀ k,k≤p0.fObjects.length→((Go.RM.valsF (fY p0).length (p0.fObjects.length :: ls)).2.getD k false = true↔k∈p0.fObjects.length :: ls):=by rw [iz]; exact hO.vals.2
        constructor
        · intro hx
          obtain ⟨y,hy,rfl⟩:=yw.1 hx
          have hyk:=(List.mergeSort_perm _ _).mem_iff.1 hy
          unfold wX at hyk
          have hyl:(y:Nat) < p0.fObjects.length:=by have:=y.2; have e:(fY p0).length = p0.fObjects.length:=iz _; omega
          have h3:=(List.mem_filter.1 hyk).2
          exact ⟨hyl,(hO.mem y).1 ((hv y (by omega)).1 h3)⟩
        · rintro ⟨hx,hr⟩
          have hx':x < (fY p0).length:=by rw [iz]; exact hx
          refine yw.2 ⟨⟨x,hx'⟩,(List.mergeSort_perm _ _).mem_iff.2 ?_,rfl⟩
          unfold wX
          refine List.mem_filter.2 ⟨List.mem_finRange _,?_⟩
          exact (hv x (by omega)).2 ((hO.mem x).2 hr)
      · rw [sk hneg]
        simp only [cond_false]
        congr 2
        unfold outT
        rw [← List.map_take,List.map_map]
        refine List.map_congr_left fun x _=>?_
        exact Uj x
  · exact .inl ⟨h,by rw [sk h]; rfl⟩
end
open Go.Proofs Go.Proofs.Ytliccamocpglcab
section
variable {p0:api_Heap}
theorem To.least {w r i:Nat} (h:To p0 w r i):∃ r',r'≤r∧LTo p0 w r' i:=by
  induction r using Nat.strongRecOn with
  | ind r ih =>
    by_cases hh:∃ r',r' < r∧To p0 w r' i
    · obtain ⟨r',h1,h2⟩:=hh
      obtain ⟨r2,h3,h4⟩:=ih r' h1 h2
      exact ⟨r2,by omega,h4⟩
    · exact ⟨r,iw _,h,fun r' hr ht=>hh ⟨r',hr,ht⟩⟩
def Vt (p0:api_Heap) (w M q:Nat) (x:Int):Prop:=(∃ r:Nat,r≤M∧LTo p0 w r q∧x = (r:Int))∨((∀ r,r≤M→¬ LTo p0 w r q)∧x = 0)
theorem LTo.pos {w r i:Nat} (h:LTo p0 w r i):0 < r:=h.1.pos
theorem Vt.zero {w M q:Nat} {x:Int} (h:Vt p0 w M q x):x = 0↔∀ r,r≤M→¬ LTo p0 w r q:=by
  rcases h with ⟨r,h1,h2,h3⟩ | ⟨h1,h2⟩
  · have:=h2.pos
    constructor
    · intro e; omega
    · intro e; exact absurd h2 (e r h1)
  · exact ⟨fun _=>h1,fun _=>h2⟩
theorem aJY {w J i:Nat} (hJ:0 < J) (hno:∀ r,r≤J→¬ LTo p0 w r i):LTo p0 w (J + 1) i↔∃ k,k < p0.fObjects.length∧LTo p0 w J k∧Edge p0 i k:=by
  constructor
  · rintro ⟨h1,h2⟩
    cases h1 with
    | one=>omega
    | @more _ _ k he ht =>
      exact ⟨k,he.lt,⟨ht,fun r' hr' ht'=>h2 (r' + 1) (by omega) (.more he ht')⟩,he⟩
  · rintro ⟨k,_,hk,he⟩
    refine ⟨.more he hk.1,fun r' hr' ht'=>?_⟩
    obtain ⟨r2,h3,h4⟩:=ht'.least
    exact hno r2 (by omega) h4
theorem Vt.up {w J q:Nat} {x:Int} (h:Vt p0 w J q x) (hx:x ≠ 0):Vt p0 w (J + 1) q x:=by
  rcases h with ⟨r,h1,h2,h3⟩ | ⟨_,h2⟩
  · exact .inl ⟨r,by omega,h2,h3⟩
  · exact absurd h2 hx
theorem Vt.set {w J q:Nat} (hJ:0 < J) (h:Vt p0 w J q 0) (hc:∃ k,k < p0.fObjects.length∧LTo p0 w J k∧Edge p0 q k):Vt p0 w (J + 1) q ((J:Int) + 1) :=
  .inl ⟨J + 1,iw _,(aJY hJ (h.zero.1 rfl)).2 hc,by omega⟩
end
open Go.Proofs Go.Proofs.Ytliccamocpglcab
section
variable {p0:api_Heap}
end
open Go.Proofs Go.Proofs.Ytliccamocpglcab
section
variable {p0:api_Heap}
end
open Go.Proofs Go.Proofs.Ytliccamocpglcab
section
variable {p0:api_Heap}
def Hj (S:List Nat) (j i:Nat):Prop:=i∈S∧i ∉ S.take j
theorem O3 {S:List Nat} (hS:S.Nodup) {j i:Nat}:Hj S j i↔i∈S.drop j:=by
  have h:=hS
  rw [← List.take_append_drop j S,List.nodup_append] at h
  constructor
  · rintro ⟨h1,h2⟩
    rw [← List.take_append_drop j S] at h1
    exact (rk.1 h1).resolve_left h2
  · intro h1
    refine ⟨List.mem_of_mem_drop h1,fun h2=>h.2.2 i h2 i h1 rfl⟩
theorem aJK (hF:mQ p0) {S:List Nat} (hS:S.Nodup) (hP:S.Pairwise (Bfr p0)) (hM:∀ x,x∈S↔x < p0.fObjects.length∧∃ m,Pth p0 (-1) m x) {z d:List Int} (hz:z.length = p0.fObjects.length) (hzv:∀ v,v < p0.fObjects.length→z.getD v 0 = yJ p0 v) (hd:DistIs p0 (-1) d) {tk:List Bool} (ht:tk.length = p0.fObjects.length) {j:Nat} (htv:∀ i,i < p0.fObjects.length→(tk.getD i false = true↔i∈S.take j)) :
    Ok (loop (oX (z,0) d tk) (-1,0)) fun b=>(b = -1∧S.drop j = [])∨∃ y l,S.drop j = y :: l∧b = (y:Int):=by
  have hn:=hF.n
  have hdl:=hd.1
  refine (K7 p0.fObjects.length (fun (b i:Int)=>(b = -1∧∀ c:Nat,(c:Int) < i→¬ Hj S j c)∨∃ y:Nat,b = (y:Int)∧(y:Int) < i∧Hj S j y∧∀ c:Nat,(c:Int) < i→Hj S j c→c = y∨Bfr p0 y c) (Post:=fun b=>(b = -1∧∀ c:Nat,c < p0.fObjects.length→¬ Hj S j c)∨∃ y:Nat,b = (y:Int)∧y < p0.fObjects.length∧Hj S j y∧∀ c:Nat,c < p0.fObjects.length→Hj S j c→c = y∨Bfr p0 y c) (by omega) (.inl ⟨rfl,fun c h=>by omega⟩) fun b i hI h0 h1=>?_).mono fun b hb=>?_
  · unfold oX
    obtain ⟨i,rfl⟩:=Int.eq_ofNat_of_zero_le h0
    refine yZ (fun hk=>?_) (fun hk=>?_)
    · have hi:i < p0.fObjects.length:=by omega
      have hdi:=RJ (l:=d) (i:=i) (by omega)
      have hti:tk[i]? = some (tk.getD i false):=by rw [lw,ck (by omega)]; rfl
      have hzi:=RJ (l:=z) (i:=i) (by omega)
      have hpos:=hd.pos hi
      have hC:Hj S j i↔0 < d.getD i 0∧tk.getD i false = false:=by
        unfold Hj
        rw [hM,hpos,← htv i hi,Bool.not_eq_true]
        exact ⟨fun h=>⟨h.1.2,h.2⟩,fun h=>⟨⟨hi,h.1⟩,h.2⟩⟩
      have hw:w64 ((i:Int) + 1) = (i:Int) + 1:=vW (by omega)
      have keep : ¬ Hj S j i→Ok (some (Sum.inl (b,(i:Int) + 1)):Option ((Int × Int) ⊕ Int)) (Q4 (fun a:Int × Int=>(i:Int) < (p0.fObjects.length:Int)∧a.2 = (i:Int) + 1∧((a.1 = -1∧∀ c:Nat,(c:Int) < (i:Int) + 1→¬ Hj S j c)∨∃ y:Nat,a.1 = (y:Int)∧(y:Int) < (i:Int) + 1∧Hj S j y∧∀ c:Nat,(c:Int) < (i:Int) + 1→Hj S j c→c = y∨Bfr p0 y c)) fun b=>(b = -1∧∀ c:Nat,c < p0.fObjects.length→¬ Hj S j c)∨∃ y:Nat,b = (y:Int)∧y < p0.fObjects.length∧Hj S j y∧∀ c:Nat,c < p0.fObjects.length→Hj S j c→c = y∨Bfr p0 y c):=by
        intro hc
        refine Cj ⟨by omega,rfl,?_⟩
        rcases hI with ⟨h2,h3⟩ | ⟨y,h2,h3,h4,h5⟩
        · refine .inl ⟨h2,fun c hlt=>?_⟩
          by_cases e:c = i
          · subst e; exact hc
          · exact h3 c (by omega)
        · refine .inr ⟨y,h2,by omega,h4,fun c hlt hcc=>?_⟩
          by_cases e:c = i
          · subst e; exact absurd hcc hc
          · exact h5 c (by omega) hcc
      simp only [l7,hdi,hti,hzi,gk,hw]
      by_cases c1:0 < d.getD i 0
      · simp only [c1,decide_true,cond_true,gk]
        cases c2:tk.getD i false with
        | true =>
          simp only [Bool.not_true,cond_false,gk]
          exact keep fun h=>by have:=(hC.1 h).2; rw [c2] at this; cases this
        | false =>
          have hcand:=hC.2 ⟨c1,c2⟩
          simp only [Bool.not_false,cond_true]
          rcases hI with ⟨h2,h3⟩ | ⟨y,h2,h3,h4,h5⟩
          · subst h2
            simp only [show ((-1:Int) < 0) from by omega,decide_true,cond_true,gk]
            refine Cj ⟨by omega,rfl,.inr ⟨i,rfl,by omega,hcand,fun c hlt hcc=>?_⟩⟩
            by_cases e:c = i
            · exact .inl e
            · exact absurd hcc (h3 c (by omega))
          · subst h2
            have hyn:y < p0.fObjects.length:=by omega
            have hzy:=RJ (l:=z) (i:=y) (by omega)
            have hneg : ¬ ((y:Int) < 0):=by omega
            simp only [hneg,decide_false,cond_false,l7,hzy,gk,hzv y hyn,hzv i hi]
            by_cases c3:yJ p0 y < yJ p0 i
            · simp only [c3,decide_true,cond_true,gk]
              refine Cj ⟨by omega,rfl,.inr ⟨i,rfl,by omega,hcand,fun c hlt hcc=>?_⟩⟩
              by_cases e:c = i
              · exact .inl e
              · right
                rcases h5 c (by omega) hcc with e2 | h6
                · subst e2; exact .inl c3
                · unfold Bfr at h6 ⊢; omega
            · simp only [c3,decide_false,cond_false,gk]
              refine Cj ⟨by omega,rfl,.inr ⟨y,rfl,by omega,h4,fun c hlt hcc=>?_⟩⟩
              by_cases e:c = i
              · subst e
                right
                unfold Bfr; omega
              · exact h5 c (by omega) hcc
      · simp only [c1,decide_false,cond_false,gk]
        exact keep fun h=>c1 (hC.1 h).1
    · refine B8 ?_
      have e:i = p0.fObjects.length:=by omega
      subst e
      rcases hI with ⟨h2,h3⟩ | ⟨y,h2,h3,h4,h5⟩
      · exact .inl ⟨h2,fun c hc=>h3 c (by omega)⟩
      · exact .inr ⟨y,h2,by omega,h4,fun c hc=>h5 c (by omega)⟩
  · rcases hb with ⟨h2,h3⟩ | ⟨y,h2,h3,h4,h5⟩
    · refine .inl ⟨h2,List.eq_nil_iff_forall_not_mem.2 fun x hx=>?_⟩
      have hc:=(O3 hS).2 hx
      exact h3 x ((hM x).1 hc.1).1 hc
    · have hy:=(O3 hS).1 h4
      cases hdr:S.drop j with
      | nil=>rw [hdr] at hy; cases hy
      | cons x l =>
        right
        refine ⟨x,l,rfl,?_⟩
        have hx:Hj S j x:=(O3 hS).2 (by rw [hdr]; exact Cw ..)
        have hpd:(S.drop j).Pairwise (Bfr p0):=hP.sublist (List.drop_sublist ..)
        rw [hdr] at hpd hy
        rcases h5 x ((hM x).1 hx.1).1 hx with e | h6
        · rw [h2,e]
        · rcases jk.1 hy with e | hy
          · rw [h2,e]
          · have:=(List.pairwise_cons.1 hpd).1 y hy
            unfold Bfr at h6 this; omega
theorem heapTops_holds (p0:api_Heap) (p1:Int) (hs:∀ o∈p0.fObjects,o.fType.size≤9223372036854775807):fZ p0 p1 = some true:=by
  unfold fZ
  obtain ⟨b,hb,hbF⟩:=aVK p0
  rw [hb]
  simp only [gk]
  cases b with
  | false=>simp only [Bool.not_false,cond_true,asj,gk]
  | true =>
    have hF:=hbF.1 rfl
    have hn:=hF.n
    simp only [Bool.not_true,cond_false]
    have fin:∀ (l:List Int) (e:Int),l.length≤1000000→tj p0 p1 = some (l,e)→gQ p0 p1 = some (l,e)→((tj p0 p1).bind fun r3=>((gQ p0 p1).bind fun r4=>((((d9 r3.1 r4.1).bind fun r6=>(bif r6 then (bif (decide (r3.2 = r4.2)) then ((gj ).bind fun r9=>some r9) else some false) else some false)):Option Bool).bind fun v5=>some v5))) = some true:=by
      intro l e hl h1 h2
      rw [h1,h2]
      simp only [gk,amJ l hl,cond_true,decide_true,asj]
    rcases aGZ hF hs p1 with ⟨h1,h2⟩ | ⟨h1,hV,h⟩
    · refine fin [] _ (by simp) h2 ?_
      have h3:fJ p0 = some ([],GZ p0):=by
        unfold fJ
        rw [Y9 hF hs]
        simp only [gk,sk h1,Bool.not_false,cond_true]
      unfold gQ
      rw [h3]
      simp only [gk,sk h1,Bool.not_false,cond_true]
    · obtain ⟨z,h3,hz1,hz2⟩:=aRJ hF hV hs h1
      rcases h with ⟨h2,h4⟩ | ⟨h2,S,hS,hP,hM,h4⟩
      · refine fin [] _ (by simp) h4 ?_
        unfold gQ
        rw [h3]
        simp only [gk,decide_true,Bool.not_true,cond_false,decide_eq_true h2,cond_true]
      · obtain ⟨d,hd,hDi⟩:=aaj hF (-1)
        have hdl:=hDi.1
        have hSl:S.length≤p0.fObjects.length:=BJ hS fun x hx=>((hM x).1 hx).1
        have hm:mkB 1 (d.length:Int) = true:=by unfold mkB; exact decide_eq_true (by omega)
        have key:Ok (loop (oQ p0 p1 (z,0) d) (List.replicate (Int.toNat (d.length:Int)) false,[])) fun q=>q = .inl ((S.take p1.toNat).map (idT p0))∨q = .inr ((S.take p1.toNat).map (idT p0),0):=by
          refine Q8 (fun s:List Bool × List Int=>∃ j:Nat,j≤S.length∧(j:Int)≤p1∧s.1.length = p0.fObjects.length∧(∀ i,i < p0.fObjects.length→(s.1.getD i false = true↔i∈S.take j))∧s.2 = (S.take j).map (idT p0)) (fun s=>S.length + 1 - s.2.length) (fun s hs=>?_) ⟨0,Nat.zero_le _,h2,by rw [nw]; omega,fun i hi=>?_,rfl⟩ (by simp [lX]; omega)
          · obtain ⟨tk,out⟩:=s
            obtain ⟨j,hj1,hj2,ht1,ht2,rfl⟩:=hs
            have hol:((S.take j).map (idT p0)).length = j:=by rw [List.length_map,List.length_take]; omega
            unfold oQ
            simp only [hol]
            refine yZ (fun h=>?_) (fun h=>?_)
            · refine oK (aJK hF hS hP hM hz1 hz2 hDi ht1 ht2) fun q hq=>?_
              rcases hq with ⟨rfl,hq⟩ | ⟨y,l,hq,rfl⟩
              · simp only [show ((-1:Int) < 0) from by omega,decide_true,cond_true]
                refine B8 (.inr ?_)
                have e1:S.length≤j:=by
                  have:(S.drop j).length = 0:=by rw [hq]; rfl
                  rw [List.length_drop] at this; omega
                rw [List.take_of_length_le (by omega),List.take_of_length_le (by omega)]
              · have hjp:(j:Int) < p1:=h
                have hy:y∈S:=List.mem_of_mem_drop (by rw [hq]; exact Cw ..)
                have hyn:=((hM y).1 hy).1
                have hjl:j < S.length:=by
                  rcases Nat.lt_or_ge j S.length with h5 | h5
                  · exact h5
                  · rw [List.drop_eq_nil_of_le h5] at hq; cases hq
                have hyj:S[j]? = some y:=by
                  have:(S.drop j)[0]? = some y:=by rw [hq]; rfl
                  rw [List.getElem?_drop] at this
                  exact this
                obtain ⟨o,ho⟩ : ∃ o,p0.fObjects[y]? = some o:=⟨_,ck hyn⟩
                have hneg : ¬ ((y:Int) < 0):=by omega
                have hty:tk[y]? = some (tk.getD y false):=by rw [lw,ck (show y < tk.length by rw [ht1]; exact hyn)]; rfl
                simp only [hneg,decide_false,cond_false,l7,hty,ho,gk]
                rw [aPq (by simp only [List.length_singleton]; omega) (by simp only [List.length_singleton]; omega)]
                have htake:S.take (j + 1) = S.take j++[y]:=by rw [List.take_add_one,hyj]; rfl
                have eo:idT p0 y = o.fId:=by unfold idT; rw [ho]; rfl
                refine Cj ⟨⟨j + 1,by omega,by omega,by rw [uw]; exact ht1,fun i hi=>?_,?_⟩,?_⟩
                · rw [htake,Int.toNat_natCast,lw,zw]
                  by_cases e:y = i
                  · subst e; rw [if_pos rfl,if_pos (show y < tk.length by rw [ht1]; exact hyn)]; simp
                  · rw [if_neg e,← lw,ht2 i hi,rk,fk]
                    exact ⟨.inl,fun h=>h.resolve_right (Ne.symm e)⟩
                · show (S.take j).map (idT p0)++[o.fId] = (S.take (j + 1)).map (idT p0)
                  rw [htake,List.map_append,← eo]; rfl
                · show S.length + 1 - ((S.take j).map (idT p0)++[o.fId]).length < S.length + 1 - j
                  rw [vw,hol,List.length_singleton]; omega
            · refine B8 (.inl ?_)
              have:p1.toNat = j:=by omega
              rw [this]
          · rw [lw,List.getElem?_replicate]
            split <;> simp
        obtain ⟨q,q1,q2⟩:=key
        refine fin ((S.take p1.toNat).map (idT p0)) 0 (by rw [List.length_map,List.length_take]; omega) h4 ?_
        unfold gQ
        rw [h3]
        have hneg : ¬ p1 < 0:=by omega
        simp only [gk,decide_true,Bool.not_true,cond_false,sk hneg,hd,hm,cond_true]
        rw [q1]
        rcases q2 with rfl | rfl <;> rfl
end
end Go.VM
