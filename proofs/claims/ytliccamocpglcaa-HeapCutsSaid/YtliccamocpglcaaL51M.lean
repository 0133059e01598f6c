/- The law holds: plain mathematics on what the functions compute. -/
import Derived.Test.YtliccamocpglcaaL51B
namespace Go.VM
def eJ {α ρ:Type} (g:Nat→α→Option ρ):List α→Nat→Option ρ
  | [],_=>none
  | y :: ys,i=>match g i y with
    | some r=>some r
    | none=>eJ g ys (i + 1)
theorem xJ {α ρ:Type} {g:Nat→α→Option ρ}:∀ {xs:List α} {i:Nat},eJ g xs i = none↔∀ j y,xs[j]? = some y→g (i + j) y = none
  | [],i=>by simp [eJ]
  | y :: ys,i=>by
    simp only [eJ]
    cases h:g i y with
    | some r =>
      simp only [reduceCtorEq,false_iff]
      intro hx
      have:=hx 0 y rfl
      rw [Nat.add_zero,h] at this; simp at this
    | none =>
      rw [xJ (xs:=ys) (i:=i + 1)]
      constructor
      · intro hx j y' hj
        cases j with
        | zero=>simp at hj; subst hj; exact h
        | succ j=>have:=hx j y' (by simpa using hj); rwa [show i + 1 + j = i + (j + 1) from by omega] at this
      · intro hx j y' hj
        have:=hx (j + 1) y' (by simpa using hj)
        rwa [show i + (j + 1) = i + 1 + j from by omega] at this
theorem qY {α ρ:Type} {g:Nat→α→Option ρ} {r:ρ}:∀ {xs:List α} {i:Nat},eJ g xs i = some r→∃ j y,xs[j]? = some y∧g (i + j) y = some r∧∀ k z,k < j→xs[k]? = some z→g (i + k) z = none
  | [],i,h=>by simp [eJ] at h
  | y :: ys,i,h=>by
    simp only [eJ] at h
    cases hg:g i y with
    | some r' =>
      rw [hg] at h; cases h
      exact ⟨0,y,rfl,hg,fun k z hk=>by omega⟩
    | none =>
      rw [hg] at h
      obtain ⟨j,z,h1,h2,h3⟩:=qY h
      refine ⟨j + 1,z,by simpa using h1,by rw [← h2]; congr 1; omega,fun k u hk hu=>?_⟩
      cases k with
      | zero=>simp at hu; subst hu; exact hg
      | succ k=>have:=h3 k u (by omega) (by simpa using hu); rwa [show i + 1 + k = i + (k + 1) from by omega] at this
theorem TY {α ρ:Type} (g:Nat → α → Option ρ) (e:ρ):∀ (xs:List α) (i:Nat),YQ (fun i y (_:Unit) => match g i y with | some r => Sum.inr r | none => .inl ()) (fun _ => e) xs i () = (eJ g xs i).getD e
  | [],_=>rfl
  | y :: ys,i=>by
    simp only [YQ,eJ]
    cases g i y with
    | some r=>rfl
    | none=>exact TY g e ys (i + 1)
theorem afJ {α ρ:Type} {step:Int→Option (Int ⊕ ρ)} (xs:List α) (g:Nat→α→Option ρ) (e:ρ) (hl:xs.length < l9)
    (h1:∀ (i:Nat) y,xs[i]? = some y → step (i:Int) = some (match g i y with | some r => .inr r | none => .inl ((i:Int) + 1))) (h2:step (xs.length:Int) = some (.inr e)):loop step 0 = some ((eJ g xs 0).getD e) := by
  have := VJ (σ := Unit) (step := step) xs (fun i _ => (i:Int)) (fun i y _ => match g i y with | some r => .inr r | none => .inl ()) (fun _ => e) hl
    (fun i y s hy=>by
      rw [h1 i y hy]
      cases g i y <;> simp)
    (fun _=>h2) ()
  rw [show (0:Int) = ((0:Nat):Int) from rfl,this,TY]
theorem fQ {α:Type} {xs:List α} {i:Nat} {y:α} (h:xs[i]? = some y):i < xs.length:=(cw.1 h).1
theorem vY {i:Nat} (h:i < 9223372036854775807):w64 ((i:Int) + 1) = (i:Int) + 1:=lj (by omega)
end Go.VM
namespace Go.VM
def Ok {α:Type} (x:Option α) (P:α→Prop):Prop:=∃ r,x = some r∧P r
def Yes {α:Type}:α→Prop:=fun _=>True
def Xx {α β:Type} (A:α→Prop) (B:β→Prop):α ⊕ β→Prop
  | .inl a=>A a
  | .inr b=>B b
theorem aJW {α:Type} {P:α→Prop} {r:α} (h:P r):Ok (some r) P:=⟨r,rfl,h⟩
theorem azq {α β:Type} {A:α→Prop} {B:β→Prop} {a:α} (h:A a):Ok (some (.inl a)) (Xx A B):=⟨_,rfl,h⟩
theorem aPZ {α β:Type} {A:α→Prop} {B:β→Prop} {b:β} (h:B b):Ok (some (.inr b)) (Xx A B):=⟨_,rfl,h⟩
theorem sK {α β:Type} {x:Option α} {f:α→Option β} {Q:α→Prop} {P:β→Prop} (hx:Ok x Q) (hf:∀ r,Q r→Ok (f r) P):Ok (x.bind f) P:=by
  obtain ⟨r,h1,h2⟩:=hx
  subst h1; exact hf r h2
theorem aAY {α β γ:Type} {x:Option (α ⊕ γ)} {f:α ⊕ γ→Option β} {Q:α ⊕ γ→Prop} {P:β→Prop} (hx:Ok x Q) (hf:∀ r,Q (.inl r)→Ok (f (.inl r)) P) (hg:∀ r,Q (.inr r)→Ok (f (.inr r)) P):Ok (x.bind f) P :=
  sK hx (fun r => match r with | .inl a => hf a | .inr b => hg b)
theorem EV {α:Type} {b:Bool} {x y:Option α} {P:α→Prop} (h1:b = true→Ok x P) (h2:b = false→Ok y P):Ok (cond b x y) P:=by
  cases b
  · exact h2 rfl
  · exact h1 rfl
theorem Ok.mono {α:Type} {x:Option α} {P Q:α→Prop} (h:Ok x P) (hq:∀ r,P r→Q r):Ok x Q:=by
  obtain ⟨r,h1,h2⟩:=h; exact ⟨r,h1,hq r h2⟩
theorem Ok.yes {α:Type} {x:Option α} {P:α→Prop} (h:Ok x P):Ok x Yes:=h.mono (fun _ _=>trivial)
theorem Iz {α:Type} {xs:List α} {i:Int} (h1:0≤i) (h2:i < xs.length):Ok (idx xs i) (fun y=>xs[i.toNat]? = some y):=by
  obtain ⟨n,rfl⟩:=Int.eq_ofNat_of_zero_le h1
  have h3:n < xs.length:=by omega
  rw [sQ]
  exact ⟨xs[n],by simp [h3],by simp [h3]⟩
theorem aoq {S ρ:Type} {step:S→Option (S ⊕ ρ)} (Inv:S→Prop) (m:S→Nat) {Post:ρ→Prop}
    (h:∀ s,Inv s→Ok (step s) (Xx (fun s'=>Inv s'∧m s' < m s) Post)) {s:S} (hs:Inv s) (hm:m s < l9):Ok (loop step s) Post:=by
  refine azK Inv m Post (fun s hs=>?_) hs hm
  obtain ⟨r,h1,h2⟩:=h s hs
  cases r with
  | inl a=>exact Or.inl ⟨a,h1,h2⟩
  | inr b=>exact Or.inr ⟨b,h1,h2⟩
theorem aSV {ρ:Type} {step:Int→Option (Int ⊕ ρ)} (n:Nat) {Post:ρ→Prop} (hn:n≤9223372036854775807)
    (h:∀ i:Int,0≤i→i≤n→Ok (step i) (Xx (fun a=>i < n∧a = i + 1) Post)):Ok (loop step 0) Post:=by
  refine aoq (fun i:Int=>0≤i∧i≤(n:Int)) (fun i:Int=>((n:Int) - i).toNat) (fun i hi=>(h i hi.1 hi.2).mono ?_) ⟨by omega,by omega⟩ (by simp [l9]; omega)
  rintro (a | b) hr
  · obtain ⟨h1,rfl⟩ : i < n∧a = i + 1:=hr
    exact ⟨⟨by omega,by omega⟩,by omega⟩
  · exact hr
theorem PW {α:Type} {r:α}:Ok (some r) Yes:=⟨r,rfl,trivial⟩
theorem L2 {α β:Type} {B:β→Prop} {a:α}:Ok (some (.inl a)) (Xx Yes B):=⟨_,rfl,trivial⟩
theorem LX {α β:Type} {A:α→Prop} {b:β}:Ok (some (.inr b)) (Xx A Yes):=⟨_,rfl,trivial⟩
theorem KK {ρ:Type} {i:Int} {n:Nat} {P:ρ→Prop} (h1:0≤i) (h2:i < (n:Int)) (h3:n≤9223372036854775807):Ok (some (.inl (w64 (i + 1)))) (Xx (fun a:Int=>i < (n:Int)∧a = i + 1) P) :=
  azq ⟨h2,lj (by omega)⟩
theorem Nx {α:Type} {p:Prop} [Decidable p] {x y:Option α} {P:α→Prop} (h1:p→Ok x P) (h2 : ¬p→Ok y P):Ok (cond (decide p) x y) P :=
  EV (fun h=>h1 (of_decide_eq_true h)) (fun h=>h2 (of_decide_eq_false h))
theorem KZ {α:Type} {p:Prop} [Decidable p] {x y:Option α} {P:α→Prop} (h1 : ¬p→Ok x P) (h2:p→Ok y P):Ok (cond (!decide p) x y) P:=by
  by_cases h:p
  · simpa [h] using h2 h
  · simpa [h] using h1 h
theorem S6 {α:Type} {b:Bool} {x y:Option α} {P:α→Prop} (h1:b = false→Ok x P) (h2:b = true→Ok y P):Ok (cond (!b) x y) P:=by
  cases b
  · exact h1 rfl
  · exact h2 rfl
theorem aQx {σ ρ:Type} {step:σ × Int→Option ((σ × Int) ⊕ ρ)} (n:Nat) (Inv:σ→Int→Prop) {Post:ρ→Prop} (hn:n≤9223372036854775807) {s0:σ} (h0:Inv s0 0)
    (h:∀ (s:σ) (i:Int),Inv s i→0≤i→i≤n→Ok (step (s,i)) (Xx (fun a=>i < n∧a.2 = i + 1∧Inv a.1 (i + 1)) Post)):Ok (loop step (s0,0)) Post:=by
  refine aoq (fun s:σ × Int=>Inv s.1 s.2∧0≤s.2∧s.2≤(n:Int)) (fun s:σ × Int=>((n:Int) - s.2).toNat) (fun s hi=>(h s.1 s.2 hi.1 hi.2.1 hi.2.2).mono ?_) ⟨h0,by simp,by simp⟩ (by simp [l9]; omega)
  rintro (⟨a,j⟩ | b) hr
  · obtain ⟨h1,h2,h3⟩ : s.2 < n∧j = s.2 + 1∧Inv a (s.2 + 1):=hr
    subst h2
    exact ⟨⟨h3,by simp; omega,by simp; omega⟩,by simp; omega⟩
  · exact hr
theorem axW {σ ρ:Type} {s:σ} {i:Int} {n:Nat} {Inv:σ→Int→Prop} {P:ρ→Prop} (hI:Inv s (i + 1)) (h1:0≤i) (h2:i < (n:Int)) (h3:n≤9223372036854775807):Ok (some (.inl (s,w64 (i + 1)))) (Xx (fun a:σ × Int=>i < (n:Int)∧a.2 = i + 1∧Inv a.1 (i + 1)) P) :=
  azq ⟨h2,lj (by omega),hI⟩
theorem MX (c:Int):Ok (nJ c) Yes:=by
  unfold nJ d9 j8
  repeat' (first | (with_reducible first | exact PW | exact LX | exact L2 | refine KZ (fun _=>?_) fun _=>?_ | refine Nx (fun _=>?_) fun _=>?_ | refine S6 (fun _=>?_) fun _=>?_ | refine EV (fun _=>?_) fun _=>?_) | (with_reducible refine KK ?_ ?_ ?_ <;> (first | assumption | omega | rw [lj] <;> omega)) | with_reducible refine sK (Iz (by (first | assumption | omega | rw [lj] <;> omega)) (by (first | assumption | omega | rw [lj] <;> omega))) (fun _ _=>?_) | (with_reducible refine sK (Q:=Yes) ?_ fun _ _=>?_) | dsimp only)
theorem P3 (s:ByteArray) (h:s.size≤9223372036854775807):Ok (kX s) Yes:=by
  unfold kX
  refine sK (Q:=Yes) ?_ (fun v _=>?_)
  · repeat' (first | (with_reducible first | exact PW | exact LX | exact L2 | refine KZ (fun _=>?_) fun _=>?_ | refine Nx (fun _=>?_) fun _=>?_ | refine S6 (fun _=>?_) fun _=>?_ | refine EV (fun _=>?_) fun _=>?_) | (with_reducible refine KK ?_ ?_ ?_ <;> (first | assumption | omega | rw [lj] <;> omega)) | with_reducible refine sK (Iz (by (first | assumption | omega | rw [lj] <;> omega)) (by (first | assumption | omega | rw [lj] <;> omega))) (fun _ _=>?_) | (with_reducible refine sK (Q:=Yes) ?_ fun _ _=>?_) | dsimp only)
  refine EV (fun _=>aJW trivial) (fun _=>?_)
  have e:s.data.toList.length = s.size:=by rw [Array.length_toList]; rfl
  refine aAY (Q:=Yes) (aSV s.size h fun i h1 h2=>?_) (fun _ _=>?_) (fun _ _=>?_)
  · unfold mJ
    repeat' (first | (with_reducible first | exact PW | exact LX | exact L2 | refine KZ (fun _=>?_) fun _=>?_ | refine Nx (fun _=>?_) fun _=>?_ | refine S6 (fun _=>?_) fun _=>?_ | refine EV (fun _=>?_) fun _=>?_) | (with_reducible refine KK ?_ ?_ ?_ <;> (first | assumption | omega | rw [lj] <;> omega)) | with_reducible refine sK (Iz (by (first | assumption | omega | rw [lj] <;> omega)) (by (first | assumption | omega | rw [lj] <;> omega))) (fun _ _=>?_) | (with_reducible refine Ok.yes (Iz ?_ (by rw [e]; (first | assumption | omega | rw [lj] <;> omega))) <;> (first | assumption | omega | rw [lj] <;> omega)) | (with_reducible refine Ok.yes (MX _) <;> (first | assumption | omega | rw [lj] <;> omega)) | (with_reducible refine sK (Q:=Yes) ?_ fun _ _=>?_) | dsimp only)
  · repeat' (first | (with_reducible first | exact PW | exact LX | exact L2 | refine KZ (fun _=>?_) fun _=>?_ | refine Nx (fun _=>?_) fun _=>?_ | refine S6 (fun _=>?_) fun _=>?_ | refine EV (fun _=>?_) fun _=>?_) | (with_reducible refine KK ?_ ?_ ?_ <;> (first | assumption | omega | rw [lj] <;> omega)) | with_reducible refine sK (Iz (by (first | assumption | omega | rw [lj] <;> omega)) (by (first | assumption | omega | rw [lj] <;> omega))) (fun _ _=>?_) | (with_reducible refine sK (Q:=Yes) ?_ fun _ _=>?_) | dsimp only)
  · repeat' (first | (with_reducible first | exact PW | exact LX | exact L2 | refine KZ (fun _=>?_) fun _=>?_ | refine Nx (fun _=>?_) fun _=>?_ | refine S6 (fun _=>?_) fun _=>?_ | refine EV (fun _=>?_) fun _=>?_) | (with_reducible refine KK ?_ ?_ ?_ <;> (first | assumption | omega | rw [lj] <;> omega)) | with_reducible refine sK (Iz (by (first | assumption | omega | rw [lj] <;> omega)) (by (first | assumption | omega | rw [lj] <;> omega))) (fun _ _=>?_) | (with_reducible refine sK (Q:=Yes) ?_ fun _ _=>?_) | dsimp only)
theorem aDZ {S ρ:Type} {step:S→Option (S ⊕ ρ)} {Q:ρ→Prop} (h:∀ s r,step s = some (.inr r)→Q r) {s:S} {r:ρ} (hr:loop step s = some r):Q r:=by
  have key:∀ n s,iter step n s = some r→Q r:=by
    intro n
    induction n with
    | zero=>intro s h; simp [iter] at h
    | succ n ih =>
      intro s hs
      rw [DQ] at hs
      cases e:step s with
      | none=>rw [e] at hs; simp at hs
      | some x =>
        rw [e] at hs
        cases x with
        | inl s'=>exact ih s' hs
        | inr r'=>simp only [fk] at hs; subst hs; exact h s _ e
  exact key _ s hr
theorem aqY (y:UInt8):nJ (y.toNat:Int) = jY (y.toNat:Int):=by
  have h:(List.range 256).all (fun n=>decide (nJ (n:Int) = jY (n:Int))) = true:=by kernel_rfl
  exact of_decide_eq_true (uk.1 h y.toNat (List.mem_range.2 (UInt8.toNat_lt y)))
theorem arz (s:ByteArray):s = ⟨#[]⟩↔(s.size:Int) < 1:=by
  constructor
  · intro h; subst h; decide
  · intro h
    cases s with
    | mk a =>
      have:a.size = 0:=by
        have:(ByteArray.mk a).size = a.size:=rfl
        omega
      rw [Array.eq_empty_of_size_eq_zero this]
theorem aHW (s:ByteArray):kX s = jx s:=by
  unfold kX jx
  have h1:mJ s = lY s:=by
    funext i
    simp only [mJ,lY,aqY]
  have h2:decide (s = ⟨#[]⟩) = decide ((ByteArray.size s:Int) < 1):=decide_eq_decide.2 (arz s)
  rw [h1,h2] <;> rfl
theorem aHj {s:ByteArray} {r:Int} (h:kX s = some r):r = 0∨r = 3:=by
  unfold kX at h
  obtain ⟨v,_,h⟩:=bB h
  cases v with
  | true=>simp at h; exact .inr h.symm
  | false =>
    obtain ⟨q,hq,h⟩:=bB (show (loop (mJ s) 0).bind _ = some r from h)
    have:=aDZ (Q:=fun q:Unit ⊕ Int=>∀ x,q = .inr x→x = 3) (fun i r hr=>by
      unfold mJ at hr
      by_cases hi:i < (ByteArray.size s:Int)
      · simp only [hi,decide_true,cond_true] at hr
        obtain ⟨y,_,hr⟩:=bB hr
        obtain ⟨z,_,hr⟩:=bB hr
        cases z
        · simp only [Bool.not_false,cond_true,fk,Sum.inr.injEq] at hr
          subst hr; intro x hx; cases hx; rfl
        · simp at hr
      · simp [hi] at hr; subst hr; intro x hx; cases hx) hq
    cases q with
    | inl _=>simp at h; exact .inl h.symm
    | inr x=>simp at h; subst h; exact .inr (this _ rfl)
theorem G7 {κ ν:Type} [DecidableEq κ] (k k':κ) (v:ν):∀ (m:List (κ × ν)),yX k (J4 k' v m) = if k = k' then some v else yX k m
  | []=>by simp [J4,yX]
  | p :: r=>by
    simp only [J4]
    by_cases e:k' = p.1
    · subst e
      simp only [ow,yX]
      by_cases e2:k = p.1 <;> simp [e2]
    · rw [if_neg e]
      simp only [yX]
      rw [G7 k k' v r]
      by_cases e2:k = p.1
      · subst e2
        rw [if_pos rfl,if_pos rfl,if_neg (fun h=>e h.symm)]
      · rw [if_neg e2,if_neg e2]
open Go.Proofs Go.Proofs.Ytliccamocpglcaa
def SK:api_Heap:={ fObjects:=[⟨1,10,⟨#[116]⟩,[2,3]⟩,⟨2,10,⟨#[116]⟩,[4]⟩,⟨3,10,⟨#[116]⟩,[4]⟩,⟨4,10,⟨#[116]⟩,[]⟩],fRoots:=[1] }
theorem aSX:eQ = some SK:=by kernel_rfl
theorem aAz:rY SK = some ([true,true,true,true],0):=by kernel_rfl
theorem aRq:kK SK = some ([-1,0,0,0],0):=by kernel_rfl
theorem aPV:Cz SK = some ([40,10,10,10],0):=by kernel_rfl
theorem aIQ:M6 SK 4 = some ([1,2,4],0):=by kernel_rfl
def ex4:List (Fin (nK SK).length):=[⟨0,by decide⟩,⟨1,by decide⟩,⟨2,by decide⟩,⟨3,by decide⟩]
theorem aMV:Lz SK 2 = some (Go.RM.outT (nK SK) ((Go.RM.topSort (nK SK) [40,10,10,10,40] ex4).take 2),0):=by kernel_rfl
theorem aPq:Lz SK 2 = some ([1,2],0):=by
  rw [aMV]
  have h:Go.RM.topSort (nK SK) [40,10,10,10,40] ex4 = ex4:=by
    unfold Go.RM.topSort
    exact List.mergeSort_of_pairwise (by simp only [Go.RM.cf_lt]; decide +kernel)
  rw [h]
  rfl
theorem Xq:iq = some true:=by
  unfold iq
  simp only [aSX,aAz,aRq,aPV,aIQ,aPq,gw]
  kernel_rfl
open Go.Proofs Go.Proofs.Ytliccamocpglcaa
theorem Jz {α ρ σ:Type} (g:Nat→α→Option ρ) (f:ρ→σ):∀ (xs:List α) (i:Nat),eJ (fun i y=>(g i y).map f) xs i = (eJ g xs i).map f
  | [],_=>rfl
  | y :: ys,i=>by
    simp only [eJ]
    cases g i y with
    | some r=>rfl
    | none=>exact Jz g f ys (i + 1)
def T8 {ρ:Type}:Option ρ→Unit ⊕ ρ
  | some r=>.inr r
  | none=>.inl ()
theorem t6 {α ρ:Type} {step:Int→Option (Int ⊕ (Unit ⊕ ρ))} (xs:List α) (g:Nat→α→Option ρ) (hl:xs.length≤1000000)
    (h1:∀ (i:Nat) y,xs[i]? = some y → step (i:Int) = some (match g i y with | some r => .inr (.inr r) | none => .inl ((i:Int) + 1))) (h2:step (xs.length:Int) = some (.inr (.inl ()))):loop step 0 = some (T8 (eJ g xs 0)) := by
  rw [afJ xs (fun i y=>(g i y).map Sum.inr) (.inl ()) (by simp [l9]; omega) (fun i y hy=>by rw [h1 i y hy]; cases g i y <;> rfl) h2,Jz]
  cases eJ g xs 0 <;> rfl
def Q6 (l:List Int) (i:Nat):Int:=l.getD (i - 1) 0
theorem abj {l:List Int} {i:Nat} {y:Int} (hy:l[i]? = some y) (hi:0 < i) (h:l.length≤1000000):idx l (w64 ((i:Int) - 1)) = some (Q6 l i):=by
  have:=fQ hy
  rw [lj (by omega)]
  have e:(i:Int) - 1 = ((i - 1:Nat):Int):=by omega
  rw [e,sQ,Q6,sk,ck (by omega)]
  rfl
def O5 (p:Int→Bool) (l:List Int) (i:Nat) (n:Int):Option Int:=if p n = false then some 5 else if 0 < i∧n≤Q6 l i then some 11 else none
def O3 (p:Int→Bool) (l:List Int):Int:=(eJ (O5 p l) l 0).getD 0
def mY (p0:api_Heap) (n:Int):Bool:=p0.fObjects.any fun o=>decide (o.fId = n)
theorem aDx (l:List Int) (m:List (Int × Int)) (hl:l.length≤1000000):gq l m = some (O3 (fun n=>(yX n m).isSome) l):=by
  unfold gq
  rw [t6 (step:=gQ l m) l (O5 (fun n=>(yX n m).isSome) l) hl (fun i y hy=>by
    have hil:=fQ hy
    have hw:=vY (show i < 9223372036854775807 by omega)
    unfold gQ O5
    simp only [show ((i:Int) < (l.length:Int)) from by omega,decide_true,cond_true,sQ,hy,gw]
    by_cases hm:(yX y m).isSome = true
    case neg=>rw [Bool.not_eq_true] at hm; simp [hm]
    case pos =>
      simp only [hm,Bool.not_true,cond_false,Bool.true_eq_false,nw]
      by_cases h0:0 < i
      · simp only [show (0:Int) < (i:Int) from by omega,decide_true,cond_true,abj hy h0 hl,gw]
        by_cases h1:y≤Q6 l i
        · simp [h0,h1]
        · rw [vk h1]
          simp [h0,h1,hw]
      · simp only [show ¬ (0:Int) < (i:Int) from by omega,decide_false,cond_false,gw]
        simp [h0,hw]) (by
    unfold gQ
    simp)]
  unfold O3
  cases eJ (O5 (fun n=>(yX n m).isSome) l) l 0 <;> rfl
def F0 (p0:api_Heap) (n:Int):Int × Bool:=match p0.fObjects.findIdx? (fun o=>decide (o.fId = n)) with
  | some k=>((k:Int),true)
  | none=>(0,false)
theorem I5 (n:Int):∀ (ys:List aY) (j:Nat),eJ (fun i (o:aY)=>if o.fId = n then some (i:Int) else none) ys j = (ys.findIdx? (fun o=>decide (o.fId = n))).map fun k=>((k + j:Nat):Int)
  | [],j=>rfl
  | y :: ys,j=>by
    simp only [eJ,List.findIdx?_cons]
    by_cases h:y.fId = n
    · simp [h]
    · simp only [h,nw,decide_false,I5 n ys (j + 1)]
      cases ys.findIdx? fun o=>decide (o.fId = n) with
      | none=>rfl
      | some k=>simp; omega
theorem avV (p0:api_Heap) (n:Int) (hl:p0.fObjects.length≤1000000):k8 p0 n = some (F0 p0 n):=by
  unfold k8
  rw [t6 (step:=i2 p0 n) p0.fObjects (fun i o=>(if o.fId = n then some (i:Int) else none).map fun k=>(k,true)) hl (fun i y hy=>by
    have hil:=fQ hy
    unfold i2
    simp only [show ((i:Int) < (p0.fObjects.length:Int)) from by omega,decide_true,cond_true,sQ,hy,gw]
    by_cases h:y.fId = n
    · simp [h]
    · simp [h,vY (show i < 9223372036854775807 by omega)]) (by
    unfold i2
    simp),Jz,I5]
  unfold F0
  cases p0.fObjects.findIdx? fun o=>decide (o.fId = n) <;> rfl
theorem anz (p0:api_Heap) (n:Int) (hl:p0.fObjects.length≤1000000):dY p0 n = some (F0 p0 n):=by
  unfold dY d0
  rw [t6 (step:=cz p0.fObjects n) p0.fObjects (fun i o=>(if o.fId = n then some (i:Int) else none)) hl (fun i y hy=>by
    have hil:=fQ hy
    unfold cz o9
    simp only [show ((i:Int) < (p0.fObjects.length:Int)) from by omega,decide_true,cond_true,sQ,hy,gw]
    by_cases h:y.fId = n
    · simp [h]
    · simp [h,vY (show i < 9223372036854775807 by omega)]) (by
    unfold cz
    simp),I5]
  unfold F0
  cases p0.fObjects.findIdx? fun o=>decide (o.fId = n) with
  | none=>rfl
  | some k=>simp [T8]
theorem aiX (p0:api_Heap) (n:Int):(F0 p0 n).2 = mY p0 n:=by
  unfold F0 mY
  have h:(p0.fObjects.findIdx? fun o=>decide (o.fId = n)).isSome = p0.fObjects.any fun o=>decide (o.fId = n):=List.findIdx?_isSome ..
  rw [← h]
  cases p0.fObjects.findIdx? fun o=>decide (o.fId = n) <;> rfl
theorem aoJ (p0:api_Heap) (l:List Int) (hp:p0.fObjects.length≤1000000) (hl:l.length≤1000000):jq p0 l = some (O3 (mY p0) l):=by
  unfold jq
  rw [t6 (step:=i4 p0 l) l (O5 (mY p0) l) hl (fun i y hy=>by
    have hil:=fQ hy
    have hw:=vY (show i < 9223372036854775807 by omega)
    unfold i4 O5
    simp only [show ((i:Int) < (l.length:Int)) from by omega,decide_true,cond_true,sQ,hy,gw,avV p0 y hp,aiX]
    cases hm:mY p0 y with
    | false=>rfl
    | true =>
      simp only [Bool.not_true,cond_false]
      by_cases h0:0 < i
      · simp only [show (0:Int) < (i:Int) from by omega,decide_true,cond_true,abj hy h0 hl,gw]
        by_cases h1:y≤Q6 l i
        · simp [h0,h1]
        · rw [vk h1]
          simp [h0,h1,hw]
      · simp only [show ¬ (0:Int) < (i:Int) from by omega,decide_false,cond_false,gw]
        simp [h0,hw]) (by
    unfold i4
    simp)]
  unfold O3
  cases eJ (O5 (mY p0) l) l 0 <;> rfl
theorem U3 {p:Int→Bool} {l:List Int} (h:O3 p l = 0):(∀ n∈l,p n = true)∧∀ i a b,l[i]? = some a→l[i + 1]? = some b→a < b:=by
  have hn:eJ (O5 p l) l 0 = none:=by
    unfold O3 at h
    cases hf:eJ (O5 p l) l 0 with
    | none=>rfl
    | some r =>
      rw [hf] at h
      obtain ⟨j,y,_,hg,_⟩:=qY hf
      unfold O5 at hg
      simp only [Option.getD_some] at h
      subst h
      split at hg
      · cases hg
      · split at hg <;> cases hg
  rw [xJ] at hn
  refine ⟨fun n hm=>?_,fun i a b ha hb=>?_⟩
  · obtain ⟨j,hj⟩:=List.getElem?_of_mem hm
    have:=hn j n hj
    unfold O5 at this
    split at this
    · cases this
    · rename_i h; cases hp:p n with
      | true=>rfl
      | false=>exact absurd hp h
  · have:=hn (i + 1) b hb
    unfold O5 at this
    split at this
    · cases this
    · split at this
      · cases this
      · rename_i h
        have hp:Q6 l (0 + (i + 1)) = a:=by
          unfold Q6
          rw [sk,show 0 + (i + 1) - 1 = i from by omega,ha]; rfl
        rw [hp] at h
        omega
open Go.Proofs Go.Proofs.Ytliccamocpglcaa
structure oK (p0:api_Heap):Prop where
  n:p0.fObjects.length≤16
  r:p0.fRoots.length≤16
  refs:∀ o∈p0.fObjects,o.fRefs.length≤40
theorem aOj (p0:api_Heap):∃ b,l8 p0 = some b∧(b = true↔oK p0):=by
  unfold l8 pX
  by_cases h1:(16:Int) < (p0.fObjects.length:Int)
  · exact ⟨false,by simp [h1],by simp; intro h; have:=h.n; omega⟩
  by_cases h2:(16:Int) < (p0.fRoots.length:Int)
  · exact ⟨false,by simp [h1,h2],by simp; intro h; have:=h.r; omega⟩
  have hl:p0.fObjects.length≤1000000:=by omega
  rw [t6 (step:=j5 p0) p0.fObjects (fun _ o=>if 40 < o.fRefs.length then some false else none) hl (fun i y hy=>by
    have hil:=fQ hy
    have hw:=vY (show i < 9223372036854775807 by omega)
    unfold j5
    simp only [show ((i:Int) < (p0.fObjects.length:Int)) from by omega,decide_true,cond_true,sQ,hy,gw]
    by_cases h:40 < y.fRefs.length
    · have h':(40:Int) < (y.fRefs.length:Int):=by omega
      simp [h,h']
    · have h' : ¬ (40:Int) < (y.fRefs.length:Int):=by omega
      simp [h,h',hw]) (by unfold j5; simp)]
  cases hf:eJ (fun _ (o:aY)=>if 40 < o.fRefs.length then some false else none) p0.fObjects 0 with
  | none =>
    refine ⟨true,by simp [h1,h2,T8],⟨fun _=>⟨by omega,by omega,fun o ho=>?_⟩,fun _=>rfl⟩⟩
    rw [xJ] at hf
    obtain ⟨j,hj⟩:=List.getElem?_of_mem ho
    have:=hf j o hj
    split at this
    · cases this
    · omega
  | some r =>
    obtain ⟨j,y,hy,hg,_⟩:=qY hf
    split at hg
    · rename_i h
      cases hg
      refine ⟨false,by simp [h1,h2,T8],by simp; intro hF; have:=hF.refs y (jk hy); omega⟩
    · cases hg
def H5 (l:List aY) (i:Nat):Int:=(l[i - 1]?.map fun o=>o.fId).getD 0
def T1 (s:ByteArray):Int:=(kX s).getD 0
theorem acV {s:ByteArray} (h:s.size≤9223372036854775807):kX s = some (T1 s)∧jx s = some (T1 s)∧(T1 s = 0∨T1 s = 3):=by
  obtain ⟨r,hr,_⟩:=P3 s h
  have:T1 s = r:=by unfold T1; rw [hr]; rfl
  rw [this,← aHW]
  exact ⟨hr,hr,aHj hr⟩
def asz (o:aY):Bool:=decide (o.fId < 0) || decide (1000000000000000 < o.fId) || decide (o.fSize < 0) || decide (1000000000000 < o.fSize)
def E8 (l:List aY) (i:Nat) (o:aY):Option Int:=if asz o = true then some 2 else if T1 o.fType = 0 then (if 0 < i∧o.fId≤H5 l i then some 11 else none) else some 3
theorem W1 {l:List aY} {i:Nat} {y:aY} (hy:l[i]? = some y) (hi:0 < i) (h:l.length≤1000000):∃ z,idx l (w64 ((i:Int) - 1)) = some z∧z.fId = H5 l i:=by
  have:=fQ hy
  rw [lj (by omega)]
  have e:(i:Int) - 1 = ((i - 1:Nat):Int):=by omega
  rw [e,sQ,H5,ck (show i - 1 < l.length by omega)]
  exact ⟨_,rfl,rfl⟩
theorem alK (o:aY):((bif decide (o.fId < 0) then some true else bif decide (1000000000000000 < o.fId) then some true else bif decide (o.fSize < 0) then some true else some (decide (1000000000000 < o.fSize))):Option Bool) = some (asz o):=by
  unfold asz
  cases decide (o.fId < 0) <;> cases decide (1000000000000000 < o.fId) <;> cases decide (o.fSize < 0) <;> rfl
theorem avY (p0:api_Heap) (hn:p0.fObjects.length≤1000000) (hs:∀ o∈p0.fObjects,o.fType.size≤9223372036854775807):loop (iJ p0) 0 = some (T8 (eJ (E8 p0.fObjects) p0.fObjects 0)):=by
  refine t6 p0.fObjects (E8 p0.fObjects) hn (fun i y hy=>?_) (by unfold iJ; simp)
  have hil:=fQ hy
  have hw:=vY (show i < 9223372036854775807 by omega)
  obtain ⟨_,h2,h3⟩:=acV (hs y (jk hy))
  unfold iJ E8
  simp only [show ((i:Int) < (p0.fObjects.length:Int)) from by omega,decide_true,cond_true,sQ,hy,gw,alK,h2]
  cases asz y with
  | true=>rfl
  | false =>
    simp only [cond_false,uw,nw]
    rcases h3 with h3 | h3
    · simp only [h3,decide_true,Bool.not_true,cond_false,ow]
      by_cases h0:0 < i
      · obtain ⟨z,hz,hz2⟩:=W1 hy h0 hn
        simp only [show (0:Int) < (i:Int) from by omega,decide_true,cond_true,hz,gw,hz2]
        by_cases h1:y.fId≤H5 p0.fObjects i
        · simp [h0,h1]
        · rw [vk h1]
          simp [h0,h1,hw]
      · simp only [show ¬ (0:Int) < (i:Int) from by omega,decide_false,cond_false,gw]
        simp [h0,hw]
    · simp [h3]
theorem OX {g:Nat → aY → Option Int}:∀ (ys:List aY) (j:Nat) (m:List (Int × Int)),∃ m',YQ (fun i o m => match g i o with | some r => Sum.inr (Sum.inr r) | none => Sum.inl (J4 o.fId (i:Int) m)) (fun m => Sum.inl m) ys j m = (match eJ g ys j with | some r => Sum.inr r | none => Sum.inl m') ∧ ∀ k,(yX k m').isSome = ((yX k m).isSome || ys.any fun o => decide (o.fId = k))
  | [],j,m=>⟨m,rfl,fun k=>by simp⟩
  | y :: ys,j,m=>by
    simp only [YQ,eJ]
    cases hg:g j y with
    | some r=>exact ⟨J4 y.fId 0 (ys.foldr (fun o q=>J4 o.fId 0 q) m),by simp,fun k=>by
        rw [G7,List.any_cons]
        by_cases e:k = y.fId
        · simp [e]
        · rw [if_neg e]
          have:∀ zs:List aY,(yX k (zs.foldr (fun o q=>J4 o.fId 0 q) m)).isSome = ((yX k m).isSome || zs.any fun o=>decide (o.fId = k)):=by
            intro zs
            induction zs with
            | nil=>simp
            | cons z zs ih =>
              rw [List.foldr_cons,G7,List.any_cons]
              by_cases e:k = z.fId
              · simp [e]
              · rw [if_neg e,ih]; simp [Ne.symm e]
          rw [this]; simp [Ne.symm e]⟩
    | none =>
      obtain ⟨m',h1,h2⟩:=OX (g:=g) ys (j + 1) (J4 y.fId (j:Int) m)
      refine ⟨m',h1,fun k=>?_⟩
      rw [h2,G7,List.any_cons]
      by_cases e:k = y.fId
      · simp [e]
      · rw [if_neg e]; simp [Ne.symm e]
theorem aGW (p0:api_Heap) (hn:p0.fObjects.length ≤ 1000000) (hs:∀ o ∈ p0.fObjects,o.fType.size ≤ 9223372036854775807):∃ m,loop (kV p0) ([],0) = some (match eJ (E8 p0.fObjects) p0.fObjects 0 with | some r => .inr r | none => .inl m) ∧ ∀ k,(yX k m).isSome = mY p0 k := by
  have h := VJ (step := kV p0) (ρ := List (Int × Int) ⊕ Int) p0.fObjects (fun i (m:List (Int × Int)) => (m,(i:Int))) (fun i o m => match E8 p0.fObjects i o with | some r => Sum.inr (Sum.inr r) | none => Sum.inl (J4 o.fId (i:Int) m)) (fun m => Sum.inl m) (by simp [l9]; omega) (fun i y m hy => by
    have hil:=fQ hy
    have hw:=vY (show i < 9223372036854775807 by omega)
    obtain ⟨h1,_,h3⟩:=acV (hs y (jk hy))
    unfold kV E8
    simp only [show ((i:Int) < (p0.fObjects.length:Int)) from by omega,decide_true,cond_true,sQ,hy,gw,alK,h1]
    cases asz y with
    | true=>rfl
    | false =>
      simp only [cond_false,uw,nw]
      rcases h3 with h3 | h3
      · simp only [h3,decide_true,Bool.not_true,cond_false,ow]
        by_cases h0:0 < i
        · obtain ⟨z,hz,hz2⟩:=W1 hy h0 hn
          simp only [show (0:Int) < (i:Int) from by omega,decide_true,cond_true,hz,gw,hz2]
          by_cases h1:y.fId≤H5 p0.fObjects i
          · simp [h0,h1]
          · rw [vk h1]
            simp [h0,h1,hw]
        · simp only [show ¬ (0:Int) < (i:Int) from by omega,decide_false,cond_false,gw]
          simp [h0,hw]
      · simp [h3]) (fun m=>by unfold kV; simp) []
  obtain ⟨m',h1,h2⟩:=OX (g:=E8 p0.fObjects) p0.fObjects 0 []
  refine ⟨m',by rw [← h1]; exact h,fun k=>?_⟩
  rw [h2]
  simp [mY,yX]
open Go.Proofs Go.Proofs.Ytliccamocpglcaa
def aTq (l:List Int):Prop:=∀ i a b,l[i]? = some a→l[i + 1]? = some b→a < b
structure lQ (p0:api_Heap):Prop where
  inc:∀ i a b,p0.fObjects[i]? = some a→p0.fObjects[i + 1]? = some b→a.fId < b.fId
  size:∀ o∈p0.fObjects,0≤o.fSize∧o.fSize≤1000000000000
  refs:∀ o∈p0.fObjects,(∀ n∈o.fRefs,mY p0 n = true)∧aTq o.fRefs
  roots:(∀ n∈p0.fRoots,mY p0 n = true)∧aTq p0.fRoots
def yW (p0:api_Heap) (_:Nat) (o:aY):Option Int:=if O3 (mY p0) o.fRefs = 0 then none else some (O3 (mY p0) o.fRefs)
section
variable {p0:api_Heap}
theorem aGj (hF:oK p0):∃ e,loop (nQ p0) (0,0) = some e∧loop (oq p0) (0,0) = some e∧e≤20000:=by
  have hn:=hF.n
  have key:Ok (loop (nQ p0) (0,0)) (fun e=>e≤20000):=by
    refine aQx p0.fObjects.length (fun s i=>0≤s∧s≤40 * i) (by omega) ⟨by omega,by omega⟩ fun s i hI h0 h1=>?_
    unfold nQ
    refine Nx (fun h=>?_) (fun h=>?_)
    · refine sK (Iz h0 h) fun y hy=>?_
      have hr:=hF.refs y (jk hy)
      rw [lj (n:=s + (y.fRefs.length:Int)) (by omega)]
      exact axW (Inv:=fun s i=>0≤s∧s≤40 * i) ⟨by omega,by omega⟩ h0 h (by omega)
    · exact aPZ (by omega)
  obtain ⟨e,h1,h2⟩:=key
  exact ⟨e,h1,h1,h2⟩
theorem aAK (hF:oK p0) {m:List (Int × Int)} (hm:∀ k,(yX k m).isSome = mY p0 k):loop (m8 p0 m) 0 = some (T8 (eJ (yW p0) p0.fObjects 0)):=by
  have hn:=hF.n
  have hmf:(fun n=>(yX n m).isSome) = mY p0:=funext hm
  refine t6 p0.fObjects (yW p0) (by omega) (fun i y hy=>?_) (by unfold m8; simp)
  have hil:=fQ hy
  have hw:=vY (show i < 9223372036854775807 by omega)
  have hr:=hF.refs y (jk hy)
  unfold m8 yW
  simp only [show ((i:Int) < (p0.fObjects.length:Int)) from by omega,decide_true,cond_true,sQ,hy,gw,aDx y.fRefs m (by omega),hmf]
  by_cases h:O3 (mY p0) y.fRefs = 0
  · simp [h,hw]
  · simp [h]
theorem azX (hF:oK p0):loop (iz p0) 0 = some (T8 (eJ (yW p0) p0.fObjects 0)):=by
  have hn:=hF.n
  refine t6 p0.fObjects (yW p0) (by omega) (fun i y hy=>?_) (by unfold iz; simp)
  have hil:=fQ hy
  have hw:=vY (show i < 9223372036854775807 by omega)
  have hr:=hF.refs y (jk hy)
  unfold iz yW
  simp only [show ((i:Int) < (p0.fObjects.length:Int)) from by omega,decide_true,cond_true,sQ,hy,gw,aoJ p0 y.fRefs (by omega) (by omega)]
  by_cases h:O3 (mY p0) y.fRefs = 0
  · simp [h,hw]
  · simp [h]
def xK (p0:api_Heap):Int:=match eJ (E8 p0.fObjects) p0.fObjects 0 with
  | some r=>r
  | none=>match eJ (yW p0) p0.fObjects 0 with
    | some r=>r
    | none=>O3 (mY p0) p0.fRoots
theorem R5 (hF:oK p0) (hs:∀ o∈p0.fObjects,o.fType.size≤9223372036854775807):gK p0 = some (xK p0):=by
  have hn:=hF.n
  have hr:=hF.r
  obtain ⟨e,h1,_,h2⟩:=aGj hF
  obtain ⟨m,h3,hm⟩:=aGW p0 (by omega) hs
  have hmf:(fun n=>(yX n m).isSome) = mY p0:=funext hm
  unfold gK xK
  rw [h1,h3]
  simp only [gw,show ¬ (5000:Int) < (p0.fObjects.length:Int) from by omega,show ¬ (20000:Int) < e from by omega,show ¬ (5000:Int) < (p0.fRoots.length:Int) from by omega,decide_false,cond_false]
  cases eJ (E8 p0.fObjects) p0.fObjects 0 with
  | some r=>rfl
  | none =>
    simp only [aAK hF hm,gw]
    cases eJ (yW p0) p0.fObjects 0 with
    | some r=>rfl
    | none=>simp only [T8,aDx p0.fRoots m (by omega),hmf,gw]
theorem auJ (hF:oK p0) (hs:∀ o∈p0.fObjects,o.fType.size≤9223372036854775807):kQ p0 = some (xK p0):=by
  have hn:=hF.n
  have hr:=hF.r
  obtain ⟨e,_,h1,h2⟩:=aGj hF
  have h3:=avY p0 (by omega) hs
  unfold kQ xK
  rw [h1,h3]
  simp only [gw,show ¬ (5000:Int) < (p0.fObjects.length:Int) from by omega,show ¬ (20000:Int) < e from by omega,show ¬ (5000:Int) < (p0.fRoots.length:Int) from by omega,decide_false,cond_false]
  cases eJ (E8 p0.fObjects) p0.fObjects 0 with
  | some r=>rfl
  | none =>
    simp only [T8,azX hF,gw]
    cases eJ (yW p0) p0.fObjects 0 with
    | some r=>rfl
    | none=>simp only [T8,aoJ p0 p0.fRoots (by omega) (by omega),gw]
theorem aez (h:xK p0 = 0):lQ p0:=by
  unfold xK at h
  cases h1:eJ (E8 p0.fObjects) p0.fObjects 0 with
  | some r =>
    rw [h1] at h
    obtain ⟨j,y,_,hg,_⟩:=qY h1
    unfold E8 at hg
    simp only at h
    subst h
    split at hg
    · cases hg
    · split at hg
      · split at hg <;> cases hg
      · cases hg
  | none =>
    rw [h1] at h
    simp only at h
    cases h2:eJ (yW p0) p0.fObjects 0 with
    | some r =>
      rw [h2] at h
      obtain ⟨j,y,_,hg,_⟩:=qY h2
      unfold yW at hg
      simp only at h
      subst h
      split at hg
      · cases hg
      · rename_i hne; exact absurd (Option.some.inj hg) hne
    | none =>
      rw [h2] at h
      simp only at h
      rw [xJ] at h1 h2
      refine ⟨fun i a b ha hb=>?_,fun o ho=>?_,fun o ho=>?_,U3 h⟩
      · have:=h1 (i + 1) b hb
        unfold E8 at this
        split at this
        · cases this
        · split at this
          · split at this
            · cases this
            · rename_i hh
              have hp:H5 p0.fObjects (0 + (i + 1)) = a.fId:=by
                unfold H5
                rw [show 0 + (i + 1) - 1 = i from by omega,ha]; rfl
              rw [hp] at hh
              omega
          · cases this
      · obtain ⟨j,hj⟩:=List.getElem?_of_mem ho
        have:=h1 j o hj
        unfold E8 at this
        split at this
        · cases this
        · rename_i hb
          unfold asz at hb
          simp only [xk,jw,not_or] at hb
          omega
      · obtain ⟨j,hj⟩:=List.getElem?_of_mem ho
        have:=h2 j o hj
        unfold yW at this
        split at this
        · rename_i h0; exact U3 h0
        · cases this
theorem aFq (hV:lQ p0):∀ (d i:Nat) (a b:aY),p0.fObjects[i]? = some a→p0.fObjects[i + d + 1]? = some b→a.fId < b.fId
  | 0,i,a,b,ha,hb=>hV.inc i a b ha hb
  | d + 1,i,a,b,ha,hb=>by
    have hl:=fQ hb
    have hc:p0.fObjects[i + d + 1]? = some p0.fObjects[i + d + 1]:=ck (by omega)
    have h1:=aFq hV d i a _ ha hc
    have h2:=hV.inc (i + d + 1) _ b hc (by rw [show i + d + 1 + 1 = i + (d + 1) + 1 from by omega]; exact hb)
    omega
theorem aPX (hV:lQ p0) {i j:Nat} {a b:aY} (ha:p0.fObjects[i]? = some a) (hb:p0.fObjects[j]? = some b) (h:a.fId = b.fId):i = j:=by
  rcases Nat.lt_trichotomy i j with h1 | h1 | h1
  · have:=aFq hV (j - i - 1) i a b ha (by rw [show i + (j - i - 1) + 1 = j from by omega]; exact hb); omega
  · exact h1
  · have:=aFq hV (i - j - 1) j b a hb (by rw [show j + (i - j - 1) + 1 = i from by omega]; exact ha); omega
theorem anx (hV:lQ p0) {k:Nat} {o:aY} (ho:p0.fObjects[k]? = some o):F0 p0 o.fId = ((k:Int),true):=by
  unfold F0
  have h:p0.fObjects.findIdx? (fun x=>decide (x.fId = o.fId)) = some k:=by
    have hk:=fQ ho
    rw [List.findIdx?_eq_some_iff_getElem]
    refine ⟨hk,by have:=(cw.1 ho).2; simp [this],fun j hj=>?_⟩
    have hjk:p0.fObjects[j]? = some p0.fObjects[j]:=ck (by omega)
    simp only [jw]
    intro e
    have:=aPX hV hjk ho e
    omega
  rw [h]
theorem amK {n:Int} (h:mY p0 n = true):∃ (k:Nat) (o:aY),p0.fObjects[k]? = some o∧o.fId = n:=by
  unfold mY at h
  rw [List.any_eq_true] at h
  obtain ⟨o,ho,h⟩:=h
  obtain ⟨k,hk⟩:=List.getElem?_of_mem ho
  exact ⟨k,o,hk,of_decide_eq_true h⟩
end
open Go.Proofs Go.Proofs.Ytliccamocpglcaa
inductive Pw (E:Nat→Nat→Prop) (r:Nat) (w:Int):Nat→Nat→Prop
  | zero:Pw E r w 0 r
  | succ {m x y:Nat}:Pw E r w m x→E x y→(y:Int) ≠ w→Pw E r w (m + 1) y
def QZ (p0:api_Heap) (i:Nat):List Int:=if i = p0.fObjects.length then p0.fRoots else match p0.fObjects[i]? with
  | some o=>o.fRefs
  | none=>[]
def Edge (p0:api_Heap) (i k:Nat):Prop:=∃ o,p0.fObjects[k]? = some o∧o.fId∈QZ p0 i
abbrev Pth (p0:api_Heap) (w:Int) (m k:Nat):Prop:=Pw (Edge p0) p0.fObjects.length w m k
theorem Edge.lt {p0:api_Heap} {i k:Nat} (h:Edge p0 i k):k < p0.fObjects.length:=by
  obtain ⟨o,h1,_⟩:=h; exact fQ h1
theorem Pw.pos_lt {p0:api_Heap} {w:Int} {m k:Nat} (h:Pth p0 w (m + 1) k):k < p0.fObjects.length:=by
  cases h with | succ _ h _ => exact h.lt
def OJ (p0:api_Heap) (w:Int) (m k:Nat):Prop:=Pth p0 w m k∧∀ m',m' < m→¬ Pth p0 w m' k
theorem Hx {l:List Nat} {n:Nat} (hd:l.Nodup) (h:∀ x∈l,x < n):l.length≤n:=by
  induction n generalizing l with
  | zero =>
    cases l with
    | nil=>exact iw _
    | cons a l=>exact absurd (h a (List.mem_cons_self ..)) (by omega)
  | succ n ih =>
    have h1:(l.erase n).length≤n:=ih (hd.erase n) (fun x hx=>by
      have h2:=(List.Nodup.mem_erase_iff hd).1 hx
      have:=h x h2.2
      have:=h2.1
      omega)
    have h3:(l.erase n).length ≥ l.length - 1:=by
      rw [List.length_erase]; split <;> omega
    omega
theorem Oz {p0:api_Heap} {w:Int}:∀ (m k:Nat),OJ p0 w m k→∃ xs:List Nat,xs.length = m∧∀ i x,xs[i]? = some x→OJ p0 w (i + 1) x
  | 0,k,_=>⟨[],rfl,fun i x h=>by simp at h⟩
  | m + 1,k,h=>by
    cases h.1 with
    | succ h1 h2 h3 =>
      rename_i x
      have hx:OJ p0 w m x:=⟨h1,fun m' hm' hp=>h.2 (m' + 1) (by omega) (.succ hp h2 h3)⟩
      obtain ⟨xs,hl,hxs⟩:=Oz m x hx
      refine ⟨xs++[k],by rw [tk,hl]; rfl,fun i y hy=>?_⟩
      by_cases hi:i < xs.length
      · rw [List.getElem?_append_left hi] at hy; exact hxs i y hy
      · have:i = m:=by
          have:=fQ hy
          rw [tk] at this
          simp only [List.length_singleton] at this
          omega
        subst this
        rw [List.getElem?_append_right (by omega),hl,Nat.sub_self] at hy
        cases hy
        exact h
theorem ajK {p0:api_Heap} {w:Int} {a b k:Nat} (h:OJ p0 w a k) (h':OJ p0 w b k):a = b:=by
  rcases Nat.lt_trichotomy a b with h1 | h1 | h1
  · exact absurd h.1 (h'.2 a h1)
  · exact h1
  · exact absurd h'.1 (h.2 b h1)
theorem aBW {p0:api_Heap} {w:Int} {m k:Nat} (h:OJ p0 w m k):m≤p0.fObjects.length:=by
  obtain ⟨xs,hl,hxs⟩:=Oz m k h
  rw [← hl]
  refine Hx ?_ (fun x hx=>?_)
  · rw [List.nodup_iff_pairwise_ne,List.pairwise_iff_getElem]
    intro i j hi hj hij e
    have h1:=hxs i _ (ck hi)
    have h2:=hxs j _ (ck hj)
    rw [e] at h1
    have:=ajK h1 h2
    omega
  · obtain ⟨i,hi⟩:=List.getElem?_of_mem hx
    exact (hxs i x hi).1.pos_lt
theorem Y8 {p0:api_Heap} {w:Int}:∀ (m k:Nat),Pth p0 w m k→∃ m',m'≤m∧OJ p0 w m' k:=by
  intro m
  induction m using Nat.strongRecOn with
  | ind m ih =>
    intro k h
    by_cases hh:∃ m',m' < m∧Pth p0 w m' k
    · obtain ⟨m',h1,h2⟩:=hh
      obtain ⟨m'',h3,h4⟩:=ih m' h1 k h2
      exact ⟨m'',by omega,h4⟩
    · exact ⟨m,iw _,h,fun m' h1 h2=>hh ⟨m',h1,h2⟩⟩
section
variable {p0:api_Heap}
def DistIs (p0:api_Heap) (w:Int) (d:List Int):Prop:=d.length = p0.fObjects.length∧∀ k,k < p0.fObjects.length→(d.getD k 0 = 0∧∀ m,¬ Pth p0 w m k)∨∃ m:Nat,0 < m∧d.getD k 0 = (m:Int)∧OJ p0 w m k
theorem DistIs.zero {w:Int} {d:List Int} (h:DistIs p0 w d) {k:Nat} (hk:k < p0.fObjects.length):d.getD k 0 = 0↔¬ ∃ m,Pth p0 w m k:=by
  rcases h.2 k hk with ⟨h1,h2⟩ | ⟨m,h1,h2,h3⟩
  · constructor
    · rintro _ ⟨m,hm⟩; exact h2 m hm
    · intro _; exact h1
  · constructor
    · intro h; omega
    · intro hh; exact absurd ⟨m,h3.1⟩ hh
end
open Go.Proofs Go.Proofs.Ytliccamocpglcaa
open Go.RM (addS addsFrom adds HO fndN)
theorem MY {α:Type} {l:List (List α)} {i:Nat} {v:List α} (h:i < l.length) (q:Nat):(l.set i v).getD q [] = if q = i then v else l.getD q []:=by
  rw [sk,sk,pw]
  by_cases e:i = q
  · subst e; rw [if_pos rfl,if_pos h,if_pos rfl]; rfl
  · rw [if_neg e,if_neg (Ne.symm e)]
theorem afV (i:Nat):∀ (l:List Nat) (p:List (List Nat) × List (List Nat)),i < p.1.length→∀ q,(l.foldl (fun p k=>addS p i k) p).1.getD q [] = if q = i then p.1.getD i []++l else p.1.getD q []
  | [],p,_,q=>by
    simp only [List.foldl_nil,List.append_nil]
    split
    · rename_i h; rw [h]
    · rfl
  | k :: l,p,h,q=>by
    rw [List.foldl_cons,afV i l (addS p i k) (by simp [addS]; exact h) q]
    simp only [addS]
    rw [MY h,MY h,if_pos rfl]
    by_cases e:q = i
    · rw [if_pos e,if_pos e,List.append_assoc]; rfl
    · rw [if_neg e,if_neg e,if_neg e]
theorem akq (i:Nat):∀ (l:List Nat) (p:List (List Nat) × List (List Nat)) (k j:Nat),k < p.2.length→(j∈(l.foldl (fun p k=>addS p i k) p).2.getD k []↔j∈p.2.getD k []∨(j = i∧k∈l))
  | [],p,k,j,_=>by simp
  | a :: l,p,k,j,h=>by
    rw [List.foldl_cons,akq i l (addS p i a) k j (by simp [addS]; exact h)]
    simp only [addS]
    by_cases e:k = a
    · subst e
      rw [MY h,if_pos rfl,rk,fw]
      simp only [List.mem_cons]
      constructor
      · rintro ((h1 | h1) | h1)
        · exact .inl h1
        · exact .inr ⟨h1,.inl trivial⟩
        · exact .inr ⟨h1.1,.inr h1.2⟩
      · rintro (h1 | ⟨h1,_⟩)
        · exact .inl (.inl h1)
        · exact .inl (.inr h1)
    · have:(p.2.set a (p.2.getD a []++[i])).getD k [] = p.2.getD k []:=by
        rw [sk,pw,if_neg (fun h=>e h.symm),← sk]
      rw [this]
      simp only [List.mem_cons,e,false_or]
theorem agV (fnd:Int→Nat):∀ (l:List HO) (j:Nat) (p:List (List Nat) × List (List Nat)),j + l.length≤p.1.length→∀ q,(addsFrom fnd j l p).1.getD q [] = p.1.getD q []++(if j≤q then ((l[q - j]?).map fun o=>o.refs.map fnd).getD [] else [])
  | [],j,p,_,q=>by simp [addsFrom]
  | o :: l,j,p,h,q=>by
    simp only [List.length_cons] at h
    have hl:=Go.RM.addSs_len j (o.refs.map fnd) p
    unfold addsFrom
    rw [agV fnd l (j + 1) _ (by rw [hl.1]; omega) q,afV j _ p (by omega) q]
    by_cases e:q = j
    · subst e
      rw [if_pos rfl,if_neg (by omega),if_pos (iw _),Nat.sub_self,List.append_nil]; rfl
    · rw [if_neg e]
      by_cases h1:j≤q
      · rw [if_pos (by omega),if_pos h1,show q - j = (q - (j + 1)) + 1 from by omega,List.getElem?_cons_succ]
      · rw [if_neg (by omega),if_neg h1]
theorem ayK (fnd:Int→Nat):∀ (l:List HO) (j:Nat) (p:List (List Nat) × List (List Nat)) (k i:Nat),k < p.2.length→(i∈(addsFrom fnd j l p).2.getD k []↔i∈p.2.getD k []∨∃ t o,l[t]? = some o∧i = j + t∧k∈o.refs.map fnd)
  | [],j,p,k,i,_=>by simp [addsFrom]
  | o :: l,j,p,k,i,h=>by
    have hl:=Go.RM.addSs_len j (o.refs.map fnd) p
    unfold addsFrom
    rw [ayK fnd l (j + 1) _ k i (by rw [hl.2]; exact h),akq j _ p k i h]
    constructor
    · rintro ((h1 | ⟨h1,h2⟩) | ⟨t,o',h1,h2,h3⟩)
      · exact .inl h1
      · exact .inr ⟨0,o,rfl,by omega,h2⟩
      · exact .inr ⟨t + 1,o',h1,by omega,h3⟩
    · rintro (h1 | ⟨t,o',h1,h2,h3⟩)
      · exact .inl (.inl h1)
      · cases t with
        | zero=>cases h1; exact .inl (.inr ⟨by omega,h3⟩)
        | succ t=>exact .inr ⟨t,o',h1,by omega,h3⟩
theorem abZ {α:Type} (n q:Nat):(List.replicate n ([]:List α)).getD q [] = []:=by
  rw [sk,List.getElem?_replicate]
  split <;> rfl
section
variable {p0:api_Heap}
abbrev JK (p0:api_Heap):Int→Nat:=fndN (dY p0)
abbrev asK (p0:api_Heap):List (List Nat):=(adds (JK p0) (nK p0) p0.fRoots).1
abbrev IX (p0:api_Heap):List (List Nat):=(adds (JK p0) (nK p0) p0.fRoots).2
theorem R8 (i:Nat):(nK p0)[i]? = (p0.fObjects[i]?).map fun o=>⟨o.fId,o.fSize,o.fType,o.fRefs⟩:=by unfold nK; rw [gk]
theorem aEV:(asK p0).length = p0.fObjects.length + 1:=by
  have:=(Go.RM.adds_len (JK p0) (nK p0) p0.fRoots).1
  rw [jK] at this; exact this
theorem aEx:(IX p0).length = p0.fObjects.length + 1:=by
  have:=(Go.RM.adds_len (JK p0) (nK p0) p0.fRoots).2
  rw [jK] at this; exact this
theorem aMZ {i:Nat} (hi:i≤p0.fObjects.length):(asK p0).getD i [] = (QZ p0 i).map (JK p0):=by
  unfold asK adds
  have hl:=Go.RM.addsFrom_len (JK p0) (nK p0) 0 (List.replicate ((nK p0).length + 1) [],List.replicate ((nK p0).length + 1) [])
  rw [afV _ _ _ (by rw [hl.1,lw]; omega),agV _ _ _ _ (by rw [lw]; omega),agV _ _ _ _ (by rw [lw]; omega)]
  simp only [abZ,List.nil_append,Nat.zero_le,ow,Nat.sub_zero,R8]
  rw [jK]
  unfold QZ
  by_cases e:i = p0.fObjects.length
  · rw [if_pos e,if_pos e,List.getElem?_eq_none (iw _)]
    rfl
  · rw [if_neg e,if_neg e]
    cases p0.fObjects[i]? <;> rfl
theorem aEJ {k j:Nat} (hk:k≤p0.fObjects.length):j∈(IX p0).getD k []↔j≤p0.fObjects.length∧k∈(QZ p0 j).map (JK p0):=by
  unfold IX adds
  have hl:=Go.RM.addsFrom_len (JK p0) (nK p0) 0 (List.replicate ((nK p0).length + 1) [],List.replicate ((nK p0).length + 1) [])
  have hh:=jK p0
  rw [akq _ _ _ _ _ (by rw [hl.2,lw]; omega),ayK _ _ _ _ _ _ (by rw [lw]; omega)]
  simp only [abZ,List.not_mem_nil,false_or,R8,jK]
  unfold QZ
  constructor
  · rintro (⟨t,o,h1,h2,h3⟩ | ⟨h1,h2⟩)
    · obtain ⟨o',h4,rfl⟩:=aw.1 h1
      have:=fQ h4
      have hjt:j = t:=by omega
      subst hjt
      exact ⟨by omega,by rw [if_neg (by omega),h4]; exact h3⟩
    · subst h1; exact ⟨iw _,by rw [if_pos rfl]; exact h2⟩
  · rintro ⟨h1,h2⟩
    by_cases e:j = p0.fObjects.length
    · rw [if_pos e] at h2; exact .inr ⟨e,h2⟩
    · rw [if_neg e] at h2
      cases hj:p0.fObjects[j]? with
      | none=>rw [List.getElem?_eq_none_iff] at hj; omega
      | some o =>
        rw [hj] at h2
        exact .inl ⟨j,_,by rw [hj]; rfl,by omega,h2⟩
theorem aHX (hV:lQ p0) {i:Nat} {n:Int} (h:n∈QZ p0 i):mY p0 n = true:=by
  unfold QZ at h
  split at h
  · exact hV.roots.1 n h
  · split at h
    · rename_i o ho; exact (hV.refs o (jk ho)).1 n h
    · simp at h
theorem aNj (hF:oK p0) (hV:lQ p0) {k:Nat} {o:aY} (ho:p0.fObjects[k]? = some o):JK p0 o.fId = k:=by
  have hn:=hF.n
  unfold JK fndN
  rw [anz p0 o.fId (by omega),anx hV ho]
  exact Int.toNat_natCast k
theorem ZX (hF:oK p0) (hV:lQ p0) {i k:Nat}:k∈(QZ p0 i).map (JK p0)↔Edge p0 i k:=by
  rw [yw]
  constructor
  · rintro ⟨n,h1,rfl⟩
    obtain ⟨k,o,hk,rfl⟩:=amK (aHX hV h1)
    rw [aNj hF hV hk]
    exact ⟨o,hk,h1⟩
  · rintro ⟨o,hk,h1⟩
    exact ⟨o.fId,h1,aNj hF hV hk⟩
theorem apV (hF:oK p0) (hV:lQ p0) {i k:Nat} (hi:i≤p0.fObjects.length):k∈(asK p0).getD i []↔Edge p0 i k:=by rw [aMZ hi,ZX hF hV]
theorem aLX (hF:oK p0) (hV:lQ p0) {i k:Nat} (hk:k≤p0.fObjects.length):i∈(IX p0).getD k []↔i≤p0.fObjects.length∧Edge p0 i k:=by rw [aEJ hk,ZX hF hV]
theorem aqJ (hF:oK p0) (hV:lQ p0):Go.RM.graphB (dY p0) (nK p0) p0.fRoots = true:=by
  have hn:=hF.n
  have hr:=hF.r
  have key:∀ l:List Int,l.length≤1000→(∀ n∈l,mY p0 n = true)→Go.RM.refsB (dY p0) (nK p0).length l = true:=by
    intro l hl hh
    unfold Go.RM.refsB
    rw [dw,jw,uk]
    refine ⟨hl,fun n hm=>?_⟩
    obtain ⟨k,o,hk,rfl⟩:=amK (hh n hm)
    have:=fQ hk
    rw [anz p0 o.fId (by omega),anx hV hk]
    simp only [dw,jw,jK,Int.toNat_natCast]
    omega
  unfold Go.RM.graphB
  rw [dw,dw,jw,uk,jK]
  refine ⟨⟨by omega,fun o ho=>?_⟩,by rw [← jK p0]; exact key _ (by omega) hV.roots.1⟩
  unfold nK at ho
  obtain ⟨o',ho',rfl⟩:=yw.1 ho
  have:=hF.refs o' ho'
  rw [← jK p0]
  exact key _ (by simp only; omega) (hV.refs o' ho').1
end
open Go.Proofs Go.Proofs.Ytliccamocpglcaa
open Go.RM (uJ J8)
section
variable (to:List (List Nat))
structure aTZ (i:Nat) (us us' nd:List Nat):Prop where
  nodup:us'.Nodup
  ndn:nd.Nodup
  part:∀ x,x∈us↔x∈us'∨x∈nd
  disj:∀ x∈nd,x ∉ us'
  last:∃ l,nd = l++[i]
  clos:∀ x∈nd,∀ y∈to.getD x [],y ∉ us'
  pred:∀ x∈nd,x ≠ i→∃ l1 l2,nd = l1++x :: l2∧∃ p∈l2,x∈to.getD p []
  len:us'.length < us.length
structure aeW (us0 done us nd:List Nat):Prop where
  nodup:us.Nodup
  ndn:nd.Nodup
  part:∀ x,x∈us0↔x∈us∨x∈nd
  disj:∀ x∈nd,x ∉ us
  clos:∀ x∈nd,∀ y∈to.getD x [],y ∉ us
  seen:∀ k∈done,k ∉ us
  pred:∀ x∈nd,x∈done∨∃ l1 l2,nd = l1++x :: l2∧∃ p∈l2,x∈to.getD p []
  len:us.length≤us0.length
variable {to}
theorem XJ {f:Nat} (hv:∀ i us ord,us.length≤f→us.Nodup→i∈us→(∀ x∈us,x < to.length)→∃ us' nd,uJ f to i us ord = some (us',ord++nd)∧aTZ to i us us' nd) (us0:List Nat) (hf:us0.length≤f) (hlt:∀ x∈us0,x < to.length) :
    ∀ (l done us nd ord:List Nat),aeW to us0 done us nd→∃ us' nd',l.foldlM (J8 f to) (us,ord++nd) = some (us',ord++nd')∧aeW to us0 (done++l) us' nd'
  | [],done,us,nd,ord,h=>⟨us,nd,rfl,by rw [List.append_nil]; exact h⟩
  | k :: l,done,us,nd,ord,h=>by
    rw [List.foldlM_cons]
    unfold J8
    by_cases hk:k∈us
    · rw [if_pos hk]
      have hus:∀ x∈us,x < to.length:=fun x hx=>hlt x ((h.part x).2 (.inl hx))
      obtain ⟨us',nd2,h1,q⟩:=hv k us (ord++nd) (Nat.le_trans h.len hf) h.nodup hk hus
      rw [h1]
      simp only [Option.bind_eq_bind,gw]
      have hsub:∀ x,x ∉ us→x ∉ us':=fun x hx hx'=>hx ((q.part x).2 (.inl hx'))
      have hq:aeW to us0 (done++[k]) us' (nd++nd2):=by
        refine ⟨q.nodup,?_,fun x=>?_,fun x hx=>?_,fun x hx y hy=>?_,fun x hx=>?_,fun x hx=>?_,by have:=q.len; have:=h.len; omega⟩
        · rw [List.nodup_append]
          exact ⟨h.ndn,q.ndn,fun a ha b hb e=>by subst e; exact h.disj a ha ((q.part a).2 (.inr hb))⟩
        · rw [h.part x,q.part x,rk]
          constructor
          · rintro ((h1 | h1) | h1)
            · exact .inl h1
            · exact .inr (.inr h1)
            · exact .inr (.inl h1)
          · rintro (h1 | h1 | h1)
            · exact .inl (.inl h1)
            · exact .inr h1
            · exact .inl (.inr h1)
        · rcases rk.1 hx with hx | hx
          · exact hsub x (h.disj x hx)
          · exact q.disj x hx
        · rcases rk.1 hx with hx | hx
          · exact hsub y (h.clos x hx y hy)
          · exact q.clos x hx y hy
        · rcases rk.1 hx with hx | hx
          · exact hsub x (h.seen x hx)
          · rw [fw.1 hx]
            obtain ⟨l',hl'⟩:=q.last
            exact q.disj k (by rw [hl']; simp)
        · rcases rk.1 hx with hx | hx
          · rcases h.pred x hx with h2 | ⟨l1,l2,h2,p,h3,h4⟩
            · exact .inl (List.mem_append_left _ h2)
            · exact .inr ⟨l1,l2++nd2,by rw [h2]; simp,p,List.mem_append_left _ h3,h4⟩
          · by_cases e:x = k
            · exact .inl (by rw [e]; simp)
            · obtain ⟨l1,l2,h2,p,h3,h4⟩:=q.pred x hx e
              exact .inr ⟨nd++l1,l2,by rw [h2]; simp,p,h3,h4⟩
      obtain ⟨us'',nd',h2,h3⟩:=XJ hv us0 hf hlt l (done++[k]) us' (nd++nd2) ord hq
      refine ⟨us'',nd',?_,by rw [List.append_assoc] at h3; exact h3⟩
      rw [List.append_assoc]
      exact h2
    · rw [if_neg hk]
      simp only [Option.bind_eq_bind,gw]
      have hq:aeW to us0 (done++[k]) us nd:=⟨h.nodup,h.ndn,h.part,h.disj,h.clos,fun x hx=>by
        rcases rk.1 hx with hx | hx
        · exact h.seen x hx
        · rw [fw.1 hx]; exact hk,fun x hx=>(h.pred x hx).imp (List.mem_append_left _) id,h.len⟩
      obtain ⟨us'',nd',h2,h3⟩:=XJ hv us0 hf hlt l (done++[k]) us nd ord hq
      exact ⟨us'',nd',h2,by rw [List.append_assoc] at h3; exact h3⟩
theorem aaj:∀ (f i:Nat) (us ord:List Nat),us.length≤f→us.Nodup→i∈us→(∀ x∈us,x < to.length)→∃ us' nd,uJ f to i us ord = some (us',ord++nd)∧aTZ to i us us' nd
  | 0,i,us,ord,hl,_,hi,_=>by
    have:=List.length_pos_of_mem hi; omega
  | f + 1,i,us,ord,hl,hn,hi,hlt=>by
    have hil:=hlt i hi
    have hel:(us.erase i).length = us.length - 1:=List.length_erase_of_mem hi
    have hpos:=List.length_pos_of_mem hi
    have h0:aeW to (us.erase i) [] (us.erase i) []:=⟨hn.erase i,List.nodup_nil,fun x=>by simp,fun x hx=>by simp at hx,fun x hx=>by simp at hx,fun x hx=>by simp at hx,fun x hx=>by simp at hx,iw _⟩
    obtain ⟨us',nd,h1,q⟩:=XJ (fun i us ord=>aaj f i us ord) (us.erase i) (by omega) (fun x hx=>hlt x (List.mem_of_mem_erase hx)) (to.getD i []) [] (us.erase i) [] ord h0
    rw [List.nil_append] at q
    rw [List.append_nil] at h1
    have aK:to[i]? = some (to.getD i []):=by rw [sk,ck hil]; rfl
    have hmem:∀ x,x∈us.erase i↔x ≠ i∧x∈us:=fun x=>List.Nodup.mem_erase_iff hn
    have hni:i ∉ us':=fun h=>by
      have:=(hmem i).1 ((q.part i).2 (.inl h)); exact this.1 rfl
    have hnd:i ∉ nd:=fun h=>by
      have:=(hmem i).1 ((q.part i).2 (.inr h)); exact this.1 rfl
    refine ⟨us',nd++[i],?_,⟨q.nodup,?_,fun x=>?_,fun x hx=>?_,⟨nd,rfl⟩,fun x hx y hy=>?_,fun x hx hne=>?_,by have:=q.len; omega⟩⟩
    · rw [Go.RM.visitF_succ,aK]
      simp only [h1,List.append_assoc]
    · rw [List.nodup_append]
      exact ⟨q.ndn,by simp,fun a ha b hb e=>by rw [fw.1 hb] at e; exact hnd (e ▸ ha)⟩
    · rw [rk,fw]
      by_cases e:x = i
      · subst e; simp [hi]
      · have:=q.part x
        rw [hmem x] at this
        simp only [e,or_false]
        rw [← this]
        simp [e]
    · rcases rk.1 hx with hx | hx
      · exact q.disj x hx
      · rw [fw.1 hx]; exact hni
    · rcases rk.1 hx with hx | hx
      · exact q.clos x hx y hy
      · rw [fw.1 hx] at hy
        exact q.seen y hy
    · rcases rk.1 hx with hx | hx
      · rcases q.pred x hx with h2 | ⟨l1,l2,h2,p,h3,h4⟩
        · obtain ⟨l1,l2,h3⟩:=List.append_of_mem hx
          exact ⟨l1,l2++[i],by rw [h3]; simp,i,by simp,h2⟩
        · exact ⟨l1,l2++[i],by rw [h2]; simp,p,List.mem_append_left _ h3,h4⟩
      · exact absurd (fw.1 hx) hne
end
open Go.Proofs Go.Proofs.Ytliccamocpglcaa
open Go.RM (uJ gY O1 qJ)
theorem aaq:∀ (ord:List Nat) (j:Nat) (p:List Nat × List Bool),ord.Nodup→(∀ x∈ord,x < p.1.length∧x < p.2.length) →
    (∀ (i:Nat) x,ord[i]? = some x→(gY j ord p).1[x]? = some (j + i))∧(∀ x,x ∉ ord→(gY j ord p).1[x]? = p.1[x]?∧(gY j ord p).2[x]? = p.2[x]?)∧∀ x∈ord,(gY j ord p).2[x]? = some true
  | [],j,p,_,_=>⟨fun i x h=>by simp at h,fun x _=>⟨rfl,rfl⟩,fun x h=>by simp at h⟩
  | a :: l,j,p,hn,hlt=>by
    obtain ⟨ha,hn'⟩:=List.nodup_cons.1 hn
    obtain ⟨h1,h2,h3⟩:=aaq l (j + 1) (p.1.set a j,p.2.set a true) hn' (fun x hx=>by simp only [vw]; exact hlt x (List.mem_cons_of_mem _ hx))
    have hal:=hlt a (List.mem_cons_self ..)
    unfold gY
    refine ⟨fun i x hx=>?_,fun x hx=>?_,fun x hx=>?_⟩
    · cases i with
      | zero =>
        cases hx
        rw [(h2 a ha).1]
        simp only
        rw [pw,if_pos rfl,if_pos hal.1]; rfl
      | succ i =>
        rw [h1 i x hx]
        congr 1
        omega
    · rw [List.mem_cons,not_or] at hx
      rw [(h2 x hx.2).1,(h2 x hx.2).2]
      simp only
      rw [pw,pw,if_neg (Ne.symm hx.1),if_neg (Ne.symm hx.1)]
      exact ⟨rfl,rfl⟩
    · rcases List.mem_cons.1 hx with rfl | hx
      · rw [(h2 x ha).2]
        simp only
        rw [pw,if_pos rfl,if_pos hal.2]
      · exact h3 x hx
section
variable {p0:api_Heap}
structure OrdQ (p0:api_Heap) (ls:List Nat):Prop where
  nodup:(p0.fObjects.length :: ls).Nodup
  lt:∀ x∈ls,x < p0.fObjects.length
  mem:∀ x,x∈p0.fObjects.length :: ls↔∃ m,Pth p0 (-1) m x
  pred:∀ x∈ls,∃ l1 l2,p0.fObjects.length :: ls = l1++x :: l2∧∃ p∈l1,Edge p0 p x
theorem aBZ (hF:oK p0) (hV:lQ p0):∃ ls,O1 (dY p0) (nK p0) p0.fRoots = some (p0.fObjects.length :: ls)∧OrdQ p0 ls:=by
  have hn:=hF.n
  have htl:(asK p0).length = p0.fObjects.length + 1:=aEV
  obtain ⟨us',nd,h1,q⟩:=aaj (to:=asK p0) 100 p0.fObjects.length (List.range (p0.fObjects.length + 1)) [] (by rw [List.length_range]; omega) List.nodup_range (List.mem_range.2 (by omega)) (fun x hx=>by rw [htl]; exact List.mem_range.1 hx)
  rw [List.nil_append] at h1
  obtain ⟨l,hl⟩:=q.last
  have hndlt:∀ x∈nd,x < p0.fObjects.length + 1:=fun x hx=>List.mem_range.1 ((q.part x).2 (.inr hx))
  have hrev:nd.reverse = p0.fObjects.length :: l.reverse:=by rw [hl]; simp
  have hlen:nd.length≤p0.fObjects.length + 1:=Hx q.ndn hndlt
  have hpred:∀ x∈nd,x ≠ p0.fObjects.length→∃ l1 l2,nd.reverse = l1++x :: l2∧∃ p∈l1,Edge p0 p x:=fun x hx hne=>by
    obtain ⟨l1,l2,e,p,hp,hpx⟩:=q.pred x hx hne
    refine ⟨l2.reverse,l1.reverse,by rw [e]; simp,p,List.mem_reverse.2 hp,?_⟩
    have hpn:p∈nd:=by rw [e]; simp [hp]
    exact (apV hF hV (by have:=hndlt p hpn; omega)).1 hpx
  have hreach:∀ (j:Nat) (l1:List Nat) (x:Nat) (l2:List Nat),l1.length = j→nd.reverse = l1++x :: l2→∃ m,Pth p0 (-1) m x:=by
    intro j
    induction j using Nat.strongRecOn with
    | ind j ih =>
      intro l1 x l2 hj e
      by_cases hx:x = p0.fObjects.length
      · subst hx; exact ⟨0,.zero⟩
      · have hxn:x∈nd:=List.mem_reverse.1 (by rw [e]; simp)
        obtain ⟨a1,a2,e2,p,hp,hE⟩:=hpred x hxn hx
        have hnd:nd.reverse.Nodup:=List.pairwise_reverse.2 (q.ndn.imp fun h=>Ne.symm h)
        have hl1:l1 = a1:=by
          rw [e] at e2 hnd
          have hx1:x ∉ l1:=fun h=>by
            rw [List.nodup_append] at hnd
            exact hnd.2.2 x h x (by simp) rfl
          have hx2:x ∉ a1:=fun h=>by
            rw [e2,List.nodup_append] at hnd
            exact hnd.2.2 x h x (by simp) rfl
          rcases List.append_eq_append_iff.1 e2 with ⟨c,hc1,hc2⟩ | ⟨c,hc1,hc2⟩
          · cases c with
            | nil=>rw [hc1,List.append_nil]
            | cons z c =>
              simp only [List.cons_append,List.cons.injEq] at hc2
              rw [hc1,← hc2.1] at hx2; simp at hx2
          · cases c with
            | nil=>rw [hc1,List.append_nil]
            | cons z c =>
              simp only [List.cons_append,List.cons.injEq] at hc2
              rw [hc1,← hc2.1] at hx1; simp at hx1
        subst hl1
        obtain ⟨b1,b2,e3⟩:=List.append_of_mem hp
        obtain ⟨m,hm⟩:=ih b1.length (by rw [← hj,e3,tk,List.length_cons]; omega) b1 p (b2++x :: l2) rfl (by rw [e,e3]; simp)
        exact ⟨m + 1,.succ hm hE (by omega)⟩
  refine ⟨l.reverse,?_,⟨?_,fun x hx=>?_,fun x=>?_,fun x hx=>?_⟩⟩
  · unfold O1
    rw [aqJ hF hV]
    simp only [cond_true,jK]
    have h1':uJ 100 (Go.RM.adds (JK p0) (nK p0) p0.fRoots).1 p0.fObjects.length (List.range (p0.fObjects.length + 1)) [] = some (us',nd):=h1
    rw [h1']
    have hb:(decide (nd.length≤1000) && nd.all (fun i=>decide (i < p0.fObjects.length + 1))) = true:=by
      rw [dw,jw,uk]
      exact ⟨by omega,fun x hx=>decide_eq_true (hndlt x hx)⟩
    simp only [hb,cond_true,hrev]
  · rw [← hrev]
    exact List.pairwise_reverse.2 (q.ndn.imp fun h=>Ne.symm h)
  · have hxn:x∈nd:=by rw [hl]; simp [List.mem_reverse.1 hx]
    have h2:=hndlt x hxn
    have h3:x ≠ p0.fObjects.length:=fun e=>by
      have:=q.ndn
      rw [hl,List.nodup_append] at this
      exact this.2.2 x (List.mem_reverse.1 hx) p0.fObjects.length (by simp) e
    omega
  · rw [← hrev,List.mem_reverse]
    constructor
    · intro hx
      obtain ⟨l1,l2,e⟩:=List.append_of_mem (List.mem_reverse.2 hx)
      exact hreach l1.length l1 x l2 rfl e
    · rintro ⟨m,hm⟩
      induction hm with
      | zero=>rw [hl]; simp
      | @succ m x y p1 p2 _ ih =>
        have h2:=q.clos x ih y ((apV hF hV (by have:=hndlt x ih; omega)).2 p2)
        rcases (q.part y).1 (List.mem_range.2 (by have := p2.lt; omega)) with h3 | h3
        · exact absurd h3 h2
        · exact h3
  · have hxn:x∈nd:=by rw [hl]; simp [List.mem_reverse.1 hx]
    have h3:x ≠ p0.fObjects.length:=fun e=>by
      have:=q.ndn
      rw [hl,List.nodup_append] at this
      exact this.2.2 x (List.mem_reverse.1 hx) p0.fObjects.length (by simp) e
    rw [← hrev]
    exact hpred x hxn h3
theorem OrdQ.vals {ls:List Nat} (h:OrdQ p0 ls):(∀ (i:Nat) x,(p0.fObjects.length :: ls)[i]? = some x→(qJ p0.fObjects.length (p0.fObjects.length :: ls)).1[x]? = some i) ∧
    ∀ x,x≤p0.fObjects.length→((qJ p0.fObjects.length (p0.fObjects.length :: ls)).2.getD x false = true↔x∈p0.fObjects.length :: ls):=by
  have hlt:∀ x∈p0.fObjects.length :: ls,x < p0.fObjects.length + 1:=fun x hx=>by
    rcases List.mem_cons.1 hx with rfl | hx
    · omega
    · have:=h.lt x hx; omega
  obtain ⟨h1,h2,h3⟩:=aaq (p0.fObjects.length :: ls) 0 (List.replicate (p0.fObjects.length + 1) 0,List.replicate (p0.fObjects.length + 1) false) h.nodup (fun x hx=>by simp only [lw]; exact ⟨hlt x hx,hlt x hx⟩)
  unfold qJ
  refine ⟨fun i x hx=>by rw [h1 i x hx,Nat.zero_add],fun x hx=>?_⟩
  rw [sk]
  constructor
  · intro hh
    apply Classical.byContradiction
    intro hne
    rw [(h2 x hne).2,List.getElem?_replicate,if_pos (by omega)] at hh
    simp at hh
  · intro hh
    rw [h3 x hh]; rfl
end
open Go.Proofs Go.Proofs.Ytliccamocpglcaa
open Go.RM (O1 qJ)
section
variable {p0:api_Heap}
def ReachIs (p0:api_Heap) (l:List Bool):Prop:=l.length = p0.fObjects.length∧∀ k,k < p0.fObjects.length→(l.getD k false = true↔∃ m,Pth p0 (-1) m k)
theorem agq (hF:oK p0) (hs:∀ o∈p0.fObjects,o.fType.size≤9223372036854775807):(xK p0 ≠ 0∧rY p0 = some ([],xK p0))∨(xK p0 = 0∧lQ p0∧∃ l,rY p0 = some (l,0)∧ReachIs p0 l):=by
  unfold rY Go.RM.reachF
  rw [R5 hF hs]
  simp only [gw]
  by_cases h:xK p0 = 0
  · have hV:=aez h
    refine .inr ⟨h,hV,?_⟩
    obtain ⟨ls,h1,hO⟩:=aBZ hF hV
    rw [h,h1]
    simp only [decide_true,cond_true,qw]
    obtain ⟨_,hv⟩:=hO.vals
    have hkl:(qJ p0.fObjects.length (p0.fObjects.length :: ls)).2.length = p0.fObjects.length + 1:=by
      have:=(Go.RM.placeFrom_len (p0.fObjects.length :: ls) 0 (List.replicate (p0.fObjects.length + 1) 0,List.replicate (p0.fObjects.length + 1) false)).2
      rw [lw] at this
      exact this
    refine ⟨_,rfl,by rw [jK,List.length_take,hkl]; omega,fun k hk=>?_⟩
    rw [jK,← hO.mem k,← hv k (by omega),sk,yk,if_pos hk,← sk]
  · exact .inl ⟨h,by rw [vk h]; rfl⟩
end
open Go.Proofs Go.Proofs.Ytliccamocpglcaa
section
variable {p0:api_Heap}
theorem WK {α ρ:Type} (l:List α):eJ (fun (_:Nat) (_:α)=>(none:Option ρ)) l 0 = none:=xJ.2 fun _ _ _=>rfl
theorem ReachIs.get {l:List Bool} (h:ReachIs p0 l) {k:Nat} (hk:k < p0.fObjects.length):∃ b,l[k]? = some b∧(b = true↔∃ m,Pth p0 (-1) m k):=by
  have hl:k < l.length:=by rw [h.1]; exact hk
  refine ⟨l[k],ck hl,?_⟩
  have:=h.2 k hk
  rw [sk,ck hl] at this
  exact this
end
open Go.Proofs Go.Proofs.Ytliccamocpglcaa
open Go.RM (uq BW FK JZ)
inductive Anc (d:Nat→Nat) (r:Nat):Nat→Nat→Prop
  | refl (v:Nat):Anc d r v v
  | up {v a:Nat}:v ≠ r→Anc d r (d v) a→Anc d r v a
theorem Anc.trans {d:Nat→Nat} {r a b c:Nat} (h:Anc d r a b) (h':Anc d r b c):Anc d r a c:=by
  induction h with
  | refl=>exact h'
  | up hn _ ih=>exact .up hn (ih h')
theorem Anc.linear {d:Nat→Nat} {r v a b:Nat} (h:Anc d r v a) (h':Anc d r v b):Anc d r a b∨Anc d r b a:=by
  induction h with
  | refl=>exact .inl h'
  | up hn ha ih =>
    cases h' with
    | refl=>exact .inr (.up hn ha)
    | up _ hb=>exact ih hb
structure Tree (d P:Nat→Nat) (r:Nat) (K:Nat→Prop):Prop where
  root:K r
  up:∀ v,K v→v ≠ r→K (d v)∧P (d v) < P v
  inj:∀ u v,K u→K v→P u = P v→u = v
section
variable {d P:Nat→Nat} {r:Nat} {K:Nat→Prop}
theorem Tree.anc (hT:Tree d P r K) {v a:Nat} (h:Anc d r v a):K v→K a∧P a≤P v∧(P a = P v→a = v):=by
  induction h with
  | refl v=>exact fun hk=>⟨hk,iw _,fun _=>rfl⟩
  | up hn _ ih =>
    intro hk
    obtain ⟨h1,h2⟩:=hT.up _ hk hn
    obtain ⟨h3,h4,_⟩:=ih h1
    exact ⟨h3,by omega,fun h=>by omega⟩
theorem Tree.anc_root (hT:Tree d P r K):∀ (n v:Nat),P v≤n→K v→Anc d r v r:=by
  intro n
  induction n with
  | zero =>
    intro v hv hk
    by_cases e:v = r
    · subst e; exact .refl _
    · have:=(hT.up v hk e).2; omega
  | succ n ih =>
    intro v hv hk
    by_cases e:v = r
    · subst e; exact .refl _
    · obtain ⟨h1,h2⟩:=hT.up v hk e
      exact .up e (ih _ (by omega) h1)
theorem Tree.root_anc (_:Tree d P r K) {a:Nat} (h:Anc d r r a):a = r:=by
  cases h with
  | refl=>rfl
  | up h _=>exact absurd rfl h
theorem Tree.anti (hT:Tree d P r K) {u v:Nat} (hu:K u) (hv:K v) (h:Anc d r u v) (h':Anc d r v u):u = v:=by
  have h1:=hT.anc h hu
  have h2:=hT.anc h' hv
  exact (h1.2.2 (by omega)).symm
def turn (d:Nat→Nat) (i b:Nat):Nat→Nat:=fun v=>if v = i then b else d v
theorem rJ {i b v:Nat} (h:v ≠ i):turn d i b v = d v:=if_neg h
theorem Tree.small (hT:Tree d P r K) {i b v a:Nat} (h:Anc d r v a):K v→P v < P i→Anc (turn d i b) r v a:=by
  induction h with
  | refl=>exact fun _ _=>.refl _
  | @up v a hn _ ih =>
    intro hk hlt
    obtain ⟨h1,h2⟩:=hT.up _ hk hn
    have hvi:v ≠ i:=fun e=>by subst e; omega
    exact .up hn (by rw [rJ hvi]; exact ih h1 (by omega))
theorem Tree.small' (hT:Tree d P r K) {i b v a:Nat} (h:Anc (turn d i b) r v a):K v→P v < P i→Anc d r v a:=by
  induction h with
  | refl=>exact fun _ _=>.refl _
  | @up v a hn h' ih =>
    intro hk hlt
    obtain ⟨h1,h2⟩:=hT.up _ hk hn
    have hvi:v ≠ i:=fun e=>by subst e; omega
    rw [rJ hvi] at ih
    exact .up hn (ih h1 (by omega))
theorem aiq {i b v:Nat} (h:Anc d r v i):Anc (turn d i b) r v i:=by
  generalize hx:i = x at h
  induction h with
  | refl v=>subst hx; exact .refl _
  | @up v a hn _ ih =>
    subst hx
    by_cases e:v = i
    · subst e; exact .refl _
    · exact .up hn (by rw [rJ e]; exact ih rfl)
theorem aGX {i b v a:Nat} (h:Anc d r v a) : ¬ Anc d r v i→Anc (turn d i b) r v a:=by
  induction h with
  | refl=>exact fun _=>.refl _
  | @up v a hn _ ih =>
    intro hni
    have hvi:v ≠ i:=fun e=>by subst e; exact hni (.refl _)
    exact .up hn (by rw [rJ hvi]; exact ih fun h=>hni (.up hn h))
theorem aEK {i b v a:Nat} (h:Anc (turn d i b) r v a) : ¬ Anc d r v i→Anc d r v a:=by
  induction h with
  | refl=>exact fun _=>.refl _
  | @up v a hn _ ih =>
    intro hni
    have hvi:v ≠ i:=fun e=>by subst e; exact hni (.refl _)
    rw [rJ hvi] at ih
    exact .up hn (ih fun h=>hni (.up hn h))
theorem Tree.seg (hT:Tree d P r K) {i b v a:Nat} (h:Anc d r v a):K v→Anc d r a i→Anc (turn d i b) r v a:=by
  induction h with
  | refl=>exact fun _ _=>.refl _
  | @up v a hn hh ih =>
    intro hk hai
    obtain ⟨h1,h2⟩:=hT.up _ hk hn
    have h3:=hT.anc hh h1
    have h4:=hT.anc hai h3.1
    have e:v ≠ i:=fun e=>by subst e; omega
    exact .up hn (by rw [rJ e]; exact ih h1 hai)
end
section
variable {pl dv:List Nat} {P:Nat→Nat} {r n:Nat} {K:Nat→Prop}
abbrev dF (dv:List Nat) (v:Nat):Nat:=dv.getD v 0
theorem W2 {l:List Nat} {v:Nat} (h:v < l.length):l[v]? = some (l.getD v 0):=by rw [sk,ck h]; rfl
theorem L5 (hT:Tree (dF dv) P r K) (hr:∀ v,K v→P r≤P v) (hpl:∀ v,K v→pl[v]? = some (P v)) (hdv:∀ v,K v→v < dv.length):∀ (F a b:Nat),K a→K b→P a + P b < F→∃ c,uq F pl dv a b = some c∧K c∧∀ x,Anc (dF dv) r c x↔Anc (dF dv) r a x∧Anc (dF dv) r b x
  | 0,a,b,_,_,h=>by omega
  | F + 1,a,b,ha,hb,h=>by
    unfold uq
    by_cases e:a = b
    · subst e
      exact ⟨a,by rw [if_pos rfl],ha,fun x=>⟨fun h=>⟨h,h⟩,fun h=>h.1⟩⟩
    · rw [if_neg e,hpl a ha,hpl b hb]
      simp only
      by_cases hlt:P a < P b
      · rw [if_pos hlt,W2 (hdv b hb)]
        have hbr:b ≠ r:=fun e=>by subst e; have:=hr a ha; omega
        obtain ⟨h1,h2⟩:=hT.up b hb hbr
        obtain ⟨c,g1,g2,g3⟩:=L5 hT hr hpl hdv F (dF dv b) a h1 ha (by omega)
        refine ⟨c,g1,g2,fun x=>?_⟩
        rw [g3 x]
        constructor
        · rintro ⟨k1,k2⟩; exact ⟨k2,.up hbr k1⟩
        · rintro ⟨k1,k2⟩
          cases k2 with
          | refl=>have:=(hT.anc k1 ha).2.1; omega
          | up _ k2=>exact ⟨k2,k1⟩
      · rw [if_neg hlt,W2 (hdv a ha)]
        have hne:P a ≠ P b:=fun h=>e (hT.inj a b ha hb h)
        have har:a ≠ r:=fun e=>by subst e; have:=hr b hb; omega
        obtain ⟨h1,h2⟩:=hT.up a ha har
        obtain ⟨c,g1,g2,g3⟩:=L5 hT hr hpl hdv F (dF dv a) b h1 hb (by omega)
        refine ⟨c,g1,g2,fun x=>?_⟩
        rw [g3 x]
        constructor
        · rintro ⟨k1,k2⟩; exact ⟨.up har k1,k2⟩
        · rintro ⟨k1,k2⟩
          cases k1 with
          | refl=>have:=(hT.anc k2 hb).2.1; omega
          | up _ k1=>exact ⟨k1,k2⟩
def X7 (dv:List Nat) (r:Nat) (K:Nat→Prop) (done:List Nat):Option Nat→Prop
  | none=>∀ p∈done,¬ K p
  | some c=>K c∧(∃ p∈done,K p)∧∀ x,Anc (dF dv) r c x↔∀ p∈done,K p→Anc (dF dv) r p x
theorem alJ {F:Nat} {dk:List Bool} (hT:Tree (dF dv) P r K) (hr:∀ v,K v→P r≤P v) (hpl:∀ v,K v→pl[v]? = some (P v)) (hdv:∀ v,K v→v < dv.length) (hF:∀ a b,K a→K b→P a + P b < F) (hdk:∀ k,k≤n→∃ b,dk[k]? = some b∧(b = true↔K k)) :
    ∀ (l done:List Nat) (best:Option Nat),(∀ k∈l,k≤n)→X7 dv r K done best→∃ res,l.foldlM (BW F pl dv dk) best = some res∧X7 dv r K (done++l) res
  | [],done,best,_,h=>⟨best,rfl,by rw [List.append_nil]; exact h⟩
  | k :: l,done,best,hl,h=>by
    rw [List.foldlM_cons]
    obtain ⟨b,hb1,hb2⟩:=hdk k (hl k (List.mem_cons_self ..))
    have go:∀ best',BW F pl dv dk best k = some best'→X7 dv r K (done++[k]) best'→∃ res,(BW F pl dv dk best k >>= fun s=>l.foldlM (BW F pl dv dk) s) = some res∧X7 dv r K (done++(k :: l)) res:=by
      intro best' h1 h2
      obtain ⟨res,h3,h4⟩:=alJ hT hr hpl hdv hF hdk l (done++[k]) best' (fun k hk=>hl k (List.mem_cons_of_mem _ hk)) h2
      refine ⟨res,by rw [h1]; exact h3,by rw [List.append_assoc] at h4; exact h4⟩
    cases b with
    | false =>
      have hk : ¬ K k:=fun h=>by have:=hb2.2 h; cases this
      refine go best (by unfold BW; rw [hb1]) ?_
      cases best with
      | none =>
        intro p hp
        rcases rk.1 hp with hp | hp
        · exact h p hp
        · rw [fw.1 hp]; exact hk
      | some c =>
        obtain ⟨h1,⟨p,hp1,hp2⟩,h2⟩:=h
        refine ⟨h1,⟨p,List.mem_append_left _ hp1,hp2⟩,fun x=>?_⟩
        rw [h2 x]
        constructor
        · intro hh p hp hK
          rcases rk.1 hp with hp | hp
          · exact hh p hp hK
          · rw [fw.1 hp] at hK; exact absurd hK hk
        · intro hh p hp hK; exact hh p (List.mem_append_left _ hp) hK
    | true =>
      have hk:K k:=hb2.1 rfl
      cases best with
      | none =>
        refine go (some k) (by unfold BW; rw [hb1]) ⟨hk,⟨k,by simp,hk⟩,fun x=>?_⟩
        constructor
        · intro hx p hp hK
          rcases rk.1 hp with hp | hp
          · exact absurd hK (h p hp)
          · rw [fw.1 hp]; exact hx
        · intro hh; exact hh k (by simp) hk
      | some c =>
        obtain ⟨h1,⟨p,hp1,hp2⟩,h2⟩:=h
        obtain ⟨c',g1,g2,g3⟩:=L5 hT hr hpl hdv F c k h1 hk (hF c k h1 hk)
        refine go (some c') (by unfold BW; rw [hb1]; simp only [g1]; rfl) ⟨g2,⟨k,by simp,hk⟩,fun x=>?_⟩
        rw [g3 x,h2 x]
        constructor
        · rintro ⟨k1,k2⟩ p hp hK
          rcases rk.1 hp with hp | hp
          · exact k1 p hp hK
          · rw [fw.1 hp]; exact k2
        · intro hh
          exact ⟨fun p hp hK=>hh p (List.mem_append_left _ hp) hK,hh k (by simp) hk⟩
end
open Go.Proofs Go.Proofs.Ytliccamocpglcaa
open Go.RM (uq BW FK JZ qJ)
section
variable {p0:api_Heap}
abbrev tW (p0:api_Heap) (ls:List Nat):List Nat:=p0.fObjects.length :: ls
abbrev plL (p0:api_Heap) (ls:List Nat):List Nat:=(qJ p0.fObjects.length (p0.fObjects.length :: ls)).1
abbrev PL (p0:api_Heap) (ls:List Nat) (v:Nat):Nat:=(plL p0 ls).getD v 0
def Kn (dk:List Bool) (v:Nat):Prop:=dk[v]? = some true
theorem OrdQ.place {ls:List Nat} (hO:OrdQ p0 ls) {j x:Nat} (h:(tW p0 ls)[j]? = some x):PL p0 ls x = j:=by
  have:=hO.vals.1 j x h
  unfold PL
  rw [sk,this]; rfl
theorem OrdQ.pl_get {ls:List Nat} (hO:OrdQ p0 ls) {x:Nat} (h:x∈tW p0 ls):(plL p0 ls)[x]? = some (PL p0 ls x):=by
  obtain ⟨j,hj⟩:=List.getElem?_of_mem h
  rw [hO.vals.1 j x hj,hO.place hj]
theorem OrdQ.inj {ls:List Nat} (hO:OrdQ p0 ls) {u v:Nat} (hu:u∈tW p0 ls) (hv:v∈tW p0 ls) (h:PL p0 ls u = PL p0 ls v):u = v:=by
  obtain ⟨i,hi⟩:=List.getElem?_of_mem hu
  obtain ⟨j,hj⟩:=List.getElem?_of_mem hv
  rw [hO.place hi,hO.place hj] at h
  subst h
  rw [hi] at hj
  exact Option.some.inj hj
theorem OrdQ.root_place {ls:List Nat} (hO:OrdQ p0 ls):PL p0 ls p0.fObjects.length = 0:=hO.place (j:=0) rfl
theorem OrdQ.place_lt {ls:List Nat} (hO:OrdQ p0 ls) {u:Nat} (hu:u∈tW p0 ls):PL p0 ls u≤p0.fObjects.length:=by
  obtain ⟨i,hi⟩:=List.getElem?_of_mem hu
  rw [hO.place hi]
  have h1:=fQ hi
  have h2:ls.length≤p0.fObjects.length:=Hx (List.nodup_cons.1 hO.nodup).2 hO.lt
  rw [List.length_cons] at h1
  omega
theorem OrdQ.le {ls:List Nat} (hO:OrdQ p0 ls) {u:Nat} (hu:u∈tW p0 ls):u≤p0.fObjects.length:=by
  rcases List.mem_cons.1 hu with rfl | h
  · exact iw _
  · exact Nat.le_of_lt (hO.lt u h)
theorem Pth.any {w:Int} {m x:Nat} (h:Pth p0 w m x):Pth p0 (-1) m x:=by
  induction h with
  | zero=>exact .zero
  | succ _ h2 _ ih=>exact .succ ih h2 (by omega)
theorem Pth.self {m a:Nat} (ha:a ≠ p0.fObjects.length) : ¬ Pth p0 (a:Int) m a:=fun h=>by
  cases h with
  | zero=>exact ha rfl
  | succ _ _ h=>exact h rfl
theorem Pth.through {a i m v:Nat} (hi:i ≠ p0.fObjects.length) (h:Pth p0 (a:Int) m v) : ¬ Pth p0 (i:Int) m v→∃ m',m'≤m∧Pth p0 (a:Int) m' i:=by
  induction h with
  | zero=>intro h; exact absurd .zero h
  | @succ m x y h1 h2 h3 ih =>
    intro h
    by_cases e:y = i
    · subst e; exact ⟨m + 1,iw _,.succ h1 h2 h3⟩
    · by_cases hx:Pth p0 (i:Int) m x
      · exact absurd (.succ hx h2 (by omega)) h
      · obtain ⟨m',g1,g2⟩:=ih hx
        exact ⟨m',by omega,g2⟩
inductive PG (p0:api_Heap) (ls:List Nat) (k:Nat) (x:Nat):Nat→Prop
  | refl:PG p0 ls k x x
  | step {y z:Nat}:PG p0 ls k x y→Edge p0 y z→k≤PL p0 ls z→PG p0 ls k x z
theorem PG.mono {ls:List Nat} {k k' x y:Nat} (h:PG p0 ls k x y) (hk:k'≤k):PG p0 ls k' x y:=by
  induction h with
  | refl=>exact .refl
  | step _ h2 h3 ih=>exact .step ih h2 (by omega)
theorem PG.trans {ls:List Nat} {k x y z:Nat} (h:PG p0 ls k x y) (h':PG p0 ls k y z):PG p0 ls k x z:=by
  induction h' with
  | refl=>exact h
  | step _ h2 h3 ih=>exact .step ih h2 h3
theorem PG.walk {ls:List Nat} {k x y a:Nat} (h:PG p0 ls k x y) (ha:PL p0 ls a < k) {m:Nat} (hp:Pth p0 (a:Int) m x):∃ m',Pth p0 (a:Int) m' y:=by
  induction h with
  | refl=>exact ⟨m,hp⟩
  | @step y z _ h2 h3 ih =>
    obtain ⟨m',hm⟩:=ih
    exact ⟨m' + 1,.succ hm h2 (fun e=>by have:z = a:=by omega
                                         subst this; omega)⟩
structure CI (p0:api_Heap) (ls dv:List Nat) (dk:List Bool):Prop where
  l1:dv.length = p0.fObjects.length + 1
  l2:dk.length = p0.fObjects.length + 1
  bd:∀ v∈dv,v≤p0.fObjects.length
  kin:∀ v,Kn dk v→v∈tW p0 ls
  tree:Tree (dF dv) (PL p0 ls) p0.fObjects.length (Kn dk)
  J:∀ v,Kn dk v→v ≠ p0.fObjects.length→PG p0 ls (PL p0 ls (dF dv v)) (dF dv v) v
  S:∀ v,Kn dk v→∀ a,a ≠ p0.fObjects.length→(∀ m,¬ Pth p0 (a:Int) m v)→Anc (dF dv) p0.fObjects.length v a
theorem CI.path {ls dv:List Nat} {dk:List Bool} (hC:CI p0 ls dv dk) {v a:Nat} (h:Anc (dF dv) p0.fObjects.length v a):Kn dk v→PG p0 ls (PL p0 ls a) a v:=by
  induction h with
  | refl=>exact fun _=>.refl
  | @up v a hn h' ih =>
    intro hk
    obtain ⟨h1,h2⟩:=hC.tree.up v hk hn
    have h3:=hC.tree.anc h' h1
    exact (ih h1).trans ((hC.J v hk hn).mono h3.2.1)
theorem Aj {dk:List Bool} {i:Nat} (hi:i < dk.length) (v:Nat):Kn (dk.set i true) v↔v = i∨Kn dk v:=by
  unfold Kn
  rw [pw]
  by_cases e:i = v
  · subst e; rw [if_pos rfl,if_pos hi]; simp
  · rw [if_neg e]; simp [Ne.symm e]
theorem ayZ {dv:List Nat} {i b:Nat} (hi:i < dv.length):dF (dv.set i b) = turn (dF dv) i b:=by
  funext v
  unfold dF turn
  rw [sk,pw]
  by_cases e:i = v
  · subst e; rw [if_pos rfl,if_pos hi,if_pos rfl]; rfl
  · rw [if_neg e,if_neg (Ne.symm e),← sk]
def I7 (p0:api_Heap) (dv:List Nat) (dk:List Bool) (i b:Nat):Prop:=∀ x,Anc (dF dv) p0.fObjects.length b x↔∀ p,Edge p0 p i→Kn dk p→Anc (dF dv) p0.fObjects.length p x
theorem aJY {ls:List Nat} (hO:OrdQ p0 ls) {dv:List Nat} {dk:List Bool} (hC:CI p0 ls dv dk) {i:Nat} (hi:i∈ls) {b:Nat} (hb:Kn dk b) (hbi:PL p0 ls b < PL p0 ls i) (hp:∃ p,Edge p0 p i∧Kn dk p) (hB:I7 p0 dv dk i b):CI p0 ls (dv.set i b) (dk.set i true):=by
  have hil:=hO.lt i hi
  have hio:i∈tW p0 ls:=List.mem_cons_of_mem _ hi
  have hid:i < dv.length:=by rw [hC.l1]; omega
  have hik:i < dk.length:=by rw [hC.l2]; omega
  have hin:i ≠ p0.fObjects.length:=by omega
  have hd:=ayZ (b:=b) hid
  have hkin':∀ v,Kn (dk.set i true) v→v∈tW p0 ls:=fun v hv=>by
    rcases (Aj hik v).1 hv with rfl | h
    · exact hio
    · exact hC.kin v h
  have hdi:turn (dF dv) i b i = b:=if_pos rfl
  have hSi:∀ a,a ≠ p0.fObjects.length→(∀ m,¬ Pth p0 (a:Int) m i)→Anc (turn (dF dv) i b) p0.fObjects.length i a:=fun a ha hno=>by
    by_cases e:a = i
    · subst e; exact .refl _
    · refine .up hin ?_
      rw [hdi]
      refine hC.tree.small ((hB a).2 fun p hpe hpk=>hC.S p hpk a ha fun m hm=>?_) hb hbi
      exact hno (m + 1) (.succ hm hpe (by omega))
  refine ⟨by rw [vw]; exact hC.l1,by rw [vw]; exact hC.l2,fun v hv=>by
    rcases List.mem_or_eq_of_mem_set hv with h | h
    · exact hC.bd v h
    · rw [h]; exact hO.le (hC.kin b hb),hkin',?_,?_,?_⟩
  · rw [hd]
    refine ⟨(Aj hik _).2 (.inr hC.tree.root),fun v hv hvn=>?_,fun u v hu hv h=>hO.inj (hkin' u hu) (hkin' v hv) h⟩
    by_cases e:v = i
    · subst e
      rw [hdi]
      exact ⟨(Aj hik _).2 (.inr hb),hbi⟩
    · rw [rJ e]
      rcases (Aj hik v).1 hv with h | h
      · exact absurd h e
      · obtain ⟨h1,h2⟩:=hC.tree.up v h hvn
        exact ⟨(Aj hik _).2 (.inr h1),h2⟩
  · rw [hd]
    intro v hv hvn
    by_cases e:v = i
    · subst e
      rw [hdi]
      obtain ⟨p,hpe,hpk⟩:=hp
      have h1:=(hB b).1 (.refl b) p hpe hpk
      exact .step (hC.path h1 hpk) hpe (by omega)
    · rw [rJ e]
      rcases (Aj hik v).1 hv with h | h
      · exact absurd h e
      · exact hC.J v h hvn
  · rw [hd]
    intro v hv a ha hno
    by_cases e:v = i
    · subst e; exact hSi a ha hno
    · have hvk:Kn dk v:=by
        rcases (Aj hik v).1 hv with h | h
        · exact absurd h e
        · exact h
      have hva:=hC.S v hvk a ha hno
      by_cases hvi:Anc (dF dv) p0.fObjects.length v i
      · rcases hva.linear hvi with h | h
        · exact hC.tree.seg hva hvk h
        · by_cases e2:a = i
          · subst e2; exact aiq hvi
          · have hki:=(hC.tree.anc hvi hvk).1
            have hai:=hC.tree.anc h hki
            have hlt:PL p0 ls a < PL p0 ls i:=by
              rcases Nat.lt_or_ge (PL p0 ls a) (PL p0 ls i) with h3 | h3
              · exact h3
              · exact absurd (hai.2.2 (by omega)) e2
            refine (aiq hvi).trans (hSi a ha fun m hm=>?_)
            obtain ⟨m',hm'⟩:=(hC.path hvi hvk).walk hlt hm
            exact hno m' hm'
      · exact aGX hva hvi
theorem aLK (hF:oK p0) (hV:lQ p0) {ls:List Nat} (hO:OrdQ p0 ls) {dv:List Nat} {dk:List Bool} (hC:CI p0 ls dv dk) {i:Nat} (hi:i∈ls) (hp:∃ p,Edge p0 p i∧Kn dk p∧PL p0 ls p < PL p0 ls i) (fl:Bool) :
    ∃ b fl',FK 200 (plL p0 ls) (IX p0) ((dv,dk),fl) i = some ((dv.set i b,dk.set i true),fl')∧(fl' = false↔fl = false∧Kn dk i∧dF dv i = b)∧Kn dk b∧PL p0 ls b < PL p0 ls i∧I7 p0 dv dk i b∧CI p0 ls (dv.set i b) (dk.set i true):=by
  have hn:=hF.n
  have hil:=hO.lt i hi
  have hid:i < dv.length:=by rw [hC.l1]; omega
  have hik:i < dk.length:=by rw [hC.l2]; omega
  obtain ⟨p,hpe,hpk,hplt⟩:=hp
  have hfr:(IX p0)[i]? = some ((IX p0).getD i []):=by rw [sk,ck (by rw [aEx]; omega)]; rfl
  have hmem:∀ k,k∈(IX p0).getD i []↔k≤p0.fObjects.length∧Edge p0 k i:=fun k=>aLX hF hV (by omega)
  obtain ⟨res,h1,h2⟩:=alJ (n:=p0.fObjects.length) (pl:=plL p0 ls) (dv:=dv) (dk:=dk) (F:=200) hC.tree (fun v hv=>by rw [hO.root_place]; omega) (fun v hv=>hO.pl_get (hC.kin v hv)) (fun v hv=>by have:=hO.le (hC.kin v hv); rw [hC.l1]; omega)
    (fun a b ha hb=>by have:=hO.place_lt (hC.kin a ha); have:=hO.place_lt (hC.kin b hb); omega)
    (fun k hk=>⟨dk[k]'(by rw [hC.l2]; omega),ck _,by unfold Kn; rw [ck (by rw [hC.l2]; omega)]; simp⟩) ((IX p0).getD i []) [] none (fun k hk=>((hmem k).1 hk).1) (fun p hp=>by simp at hp)
  rw [List.nil_append] at h2
  have hpm:p∈(IX p0).getD i []:=(hmem p).2 ⟨hO.le (hC.kin p hpk),hpe⟩
  cases res with
  | none=>exact absurd hpk (h2 p hpm)
  | some b =>
    obtain ⟨hb,_,hbx⟩:=h2
    have hB:I7 p0 dv dk i b:=fun x=>by
      rw [hbx x]
      constructor
      · intro h q hq hk; exact h q ((hmem q).2 ⟨hO.le (hC.kin q hk),hq⟩) hk
      · intro h q hq hk; exact h q ((hmem q).1 hq).2 hk
    have hbi:PL p0 ls b < PL p0 ls i:=by
      have:=hC.tree.anc ((hB b).1 (.refl b) p hpe hpk) hpk
      omega
    have hci:=aJY hO hC hi hb hbi ⟨p,hpe,hpk⟩ hB
    have hvi:dv[i]? = some (dF dv i):=W2 hid
    unfold FK
    simp only [hfr,h1]
    have hki:dk[i]? = some dk[i]:=ck hik
    cases hk:dk[i] with
    | false =>
      rw [hk] at hki
      refine ⟨b,true,by rw [hki,hvi],⟨fun h=>by (cases h),fun h=>?_⟩,hb,hbi,hB,hci⟩
      have:=h.2.1
      unfold Kn at this
      rw [hki] at this
      cases this
    | true =>
      rw [hk] at hki
      by_cases e:dF dv i = b
      · refine ⟨b,fl,?_,⟨fun h=>⟨h,hki,e⟩,fun h=>h.1⟩,hb,hbi,hB,hci⟩
        rw [hki,hvi]
        simp only [e,ow]
        have e1:dv.set i b = dv:=by
          apply List.ext_getElem?
          intro j
          rw [pw]
          by_cases ej:i = j
          · subst ej; rw [if_pos rfl,if_pos hid,hvi,e]
          · rw [if_neg ej]
        have e2:dk.set i true = dk:=by
          apply List.ext_getElem?
          intro j
          rw [pw]
          by_cases ej:i = j
          · subst ej; rw [if_pos rfl,if_pos hik,hki]
          · rw [if_neg ej]
        rw [e1,e2]
      · refine ⟨b,true,?_,⟨fun h=>by (cases h),fun h=>absurd h.2.2 e⟩,hb,hbi,hB,hci⟩
        rw [hki,hvi]
        simp only [e,nw]
end
open Go.Proofs Go.Proofs.Ytliccamocpglcaa
open Go.RM (uq BW FK JZ qJ)
section
variable {p0:api_Heap}
def LV (p0:api_Heap) (dv:List Nat) (dk:List Bool) (L:Nat→Nat):Prop:=∀ v,Kn dk v→∀ a,a ≠ p0.fObjects.length→Anc (dF dv) p0.fObjects.length v a→∀ m,m≤L v→¬ Pth p0 (a:Int) m v
theorem atq {d:Nat→Nat} {i b:Nat}:turn (turn d i b) i (d i) = d:=by
  funext v
  unfold turn
  by_cases e:v = i
  · subst e; rw [if_pos rfl]
  · rw [if_neg e,if_neg e]
theorem aMx {ls:List Nat} (hO:OrdQ p0 ls) {dv:List Nat} {dk:List Bool} (hC:CI p0 ls dv dk) (hall:∀ x∈tW p0 ls,Kn dk x) {i:Nat} (hi:i∈ls) {b:Nat} (hb:Kn dk b) (hbi:PL p0 ls b < PL p0 ls i) (hB:I7 p0 dv dk i b) (hC':CI p0 ls (dv.set i b) (dk.set i true))
    {L:Nat→Nat} {k:Nat} (hL:LV p0 dv dk L) (h1:∀ x,k≤L x + 1) (h2:∀ x,L x≤k):LV p0 (dv.set i b) (dk.set i true) (fun x=>if x = i then k else L x):=by
  have hil:=hO.lt i hi
  have hid:i < dv.length:=by rw [hC.l1]; omega
  have hik:i < dk.length:=by rw [hC.l2]; omega
  have hin:i ≠ p0.fObjects.length:=by omega
  have hd:=ayZ (b:=b) hid
  have hdi:turn (dF dv) i b i = b:=if_pos rfl
  have hki:Kn dk i:=hall i (List.mem_cons_of_mem _ hi)
  have hself:∀ a,a ≠ p0.fObjects.length→Anc (turn (dF dv) i b) p0.fObjects.length i a→∀ m,m≤k→¬ Pth p0 (a:Int) m i:=by
    intro a ha hA m hm hp
    cases hA with
    | refl=>exact Pth.self hin hp
    | up _ hA =>
      rw [hdi] at hA
      have hA:=hC.tree.small' hA hb hbi
      cases hp with
      | zero=>exact hin rfl
      | @succ m x _ p1 p2 p3 =>
        have hx:x∈tW p0 ls:=(hO.mem x).2 ⟨m,Pth.any p1⟩
        exact hL x (hall x hx) a ha ((hB a).1 hA x p2 (hall x hx)) m (by have:=h1 x; omega) p1
  intro v hv a ha hA m hm hp
  rw [hd] at hA
  by_cases e:v = i
  · subst e
    have hm:m≤k:=by dsimp only at hm; rw [if_pos rfl] at hm; exact hm
    exact hself a ha hA m hm hp
  · have hm2:m≤L v:=by dsimp only at hm; rw [if_neg e] at hm; exact hm
    clear hm
    have hvk:Kn dk v:=by
      rcases (Aj hik v).1 hv with h | h
      · exact absurd h e
      · exact h
    by_cases hvi:Anc (dF dv) p0.fObjects.length v i
    · have hvi':Anc (turn (dF dv) i b) p0.fObjects.length v i:=aiq hvi
      rcases hA.linear hvi' with h | h
      · have hT':=hC'.tree
        rw [hd] at hT'
        have:=hT'.seg (b:=dF dv i) hA hv h
        rw [atq] at this
        exact hL v hvk a ha this m hm2 hp
      · by_cases e2:a = i
        · subst e2; exact hL v hvk a ha hvi m hm2 hp
        · obtain ⟨m',g1,g2⟩:=hp.through hin (hL v hvk i hin hvi m hm2)
          exact hself a ha h m' (by have:=h2 v; omega) g2
    · exact hL v hvk a ha (aEK hA hvi) m hm2 hp
def apZ (p0:api_Heap) (dv:List Nat) (dk:List Bool):Prop:=∀ v,Kn dk v→∀ a,a ≠ p0.fObjects.length→Anc (dF dv) p0.fObjects.length v a→∀ m,¬ Pth p0 (a:Int) m v
theorem azj {dv:List Nat} {dk:List Bool} {k:Nat} (hL:LV p0 dv dk fun _=>k) (hk:p0.fObjects.length≤k):apZ p0 dv dk:=fun v hv a ha hA m hp=>by
  obtain ⟨m',_,hm'⟩:=Y8 m v hp
  exact hL v hv a ha hA m' (show m'≤k by have:=aBW hm'; omega) hm'.1
theorem ajJ {ls:List Nat} (hO:OrdQ p0 ls) {dv:List Nat} {dk:List Bool} (hC:CI p0 ls dv dk) (hall:∀ x∈tW p0 ls,Kn dk x) (hX:apZ p0 dv dk) {i:Nat} (hi:i∈ls) {b:Nat} (hb:Kn dk b) (hbi:PL p0 ls b < PL p0 ls i) (hB:I7 p0 dv dk i b):dF dv i = b:=by
  have hil:=hO.lt i hi
  have hin:i ≠ p0.fObjects.length:=by omega
  have hki:Kn dk i:=hall i (List.mem_cons_of_mem _ hi)
  obtain ⟨hkd,hlt⟩:=hC.tree.up i hki hin
  have hroot:∀ v,Kn dk v→Anc (dF dv) p0.fObjects.length v p0.fObjects.length:=fun v hv=>hC.tree.anc_root _ v (iw _) hv
  refine (hC.tree.anti hb hkd ((hB _).2 fun p hpe hpk=>?_) ?_).symm
  · by_cases e:dF dv i = p0.fObjects.length
    · rw [e]; exact hroot p hpk
    · refine hC.S p hpk _ e fun m hm=>?_
      refine hX i hki (dF dv i) e (.up hin (.refl _)) (m + 1) (.succ hm hpe fun h=>?_)
      have:i = dF dv i:=by omega
      rw [← this] at hlt
      omega
  · by_cases e:b = p0.fObjects.length
    · rw [e]; exact hroot _ hkd
    · have hA:Anc (dF dv) p0.fObjects.length i b:=by
        refine hC.S i hki b e fun m hm=>?_
        cases hm with
        | zero=>exact hin rfl
        | @succ m x _ p1 p2 p3 =>
          have hx:x∈tW p0 ls:=(hO.mem x).2 ⟨m,Pth.any p1⟩
          exact hX x (hall x hx) b e ((hB b).1 (.refl b) x p2 (hall x hx)) m p1
      cases hA with
      | refl=>omega
      | up _ h=>exact h
theorem XZ (hF:oK p0) (hV:lQ p0) {ls:List Nat} (hO:OrdQ p0 ls):∀ (l done:List Nat) (dv:List Nat) (dk:List Bool) (fl:Bool),ls = done++l→CI p0 ls dv dk→(∀ x∈p0.fObjects.length :: done,Kn dk x) →
    ∃ dv' dk' fl',l.foldlM (FK 200 (plL p0 ls) (IX p0)) ((dv,dk),fl) = some ((dv',dk'),fl')∧CI p0 ls dv' dk'∧(∀ x∈tW p0 ls,Kn dk' x) ∧
      (fl' = false→fl = false∧dv' = dv∧dk' = dk∧∀ i∈l,I7 p0 dv dk i (dF dv i)) ∧
      ((∀ x∈tW p0 ls,Kn dk x)→apZ p0 dv dk→fl = false→fl' = false) ∧
      (∀ k,(∀ x∈tW p0 ls,Kn dk x)→LV p0 dv dk (fun x=>if x∈done then k + 1 else k)→LV p0 dv' dk' (fun x=>if x∈ls then k + 1 else k))
  | [],done,dv,dk,fl,hl,hC,hk=>by
    rw [List.append_nil] at hl
    subst hl
    exact ⟨dv,dk,fl,rfl,hC,hk,fun h=>⟨h,rfl,rfl,fun i hi=>by simp at hi⟩,fun _ _ h=>h,fun k _ h=>h⟩
  | i :: l,done,dv,dk,fl,hl,hC,hk=>by
    have hi:i∈ls:=by rw [hl]; simp
    have hil:=hO.lt i hi
    have hik:i < dk.length:=by rw [hC.l2]; omega
    have hp:∃ p,Edge p0 p i∧Kn dk p∧PL p0 ls p < PL p0 ls i:=by
      obtain ⟨l1,l2,e,p,hp,hpe⟩:=hO.pred i hi
      have e':tW p0 ls = (p0.fObjects.length :: done)++i :: l:=by unfold tW; rw [hl]; rfl
      have hidx:(tW p0 ls)[l1.length]? = some i:=by unfold tW; rw [e]; simp
      have hidx2:(tW p0 ls)[(p0.fObjects.length :: done).length]? = some i:=by rw [e']; simp
      have h1:=hO.place hidx
      have h2:=hO.place hidx2
      have hl1:l1 = p0.fObjects.length :: done:=by
        have e3:l1++i :: l2 = (p0.fObjects.length :: done)++i :: l:=by rw [← e,← e']
        exact (List.append_inj e3 (by omega)).1
      subst hl1
      refine ⟨p,hpe,hk p hp,?_⟩
      obtain ⟨j,hj⟩:=List.getElem?_of_mem hp
      have hjl:=fQ hj
      have h3:=hO.place (j:=j) (x:=p) (by rw [e',List.getElem?_append_left hjl]; exact hj)
      omega
    obtain ⟨b,fl1,h1,h2,hb,hbi,hB,hC1⟩:=aLK hF hV hO hC hi hp fl
    have hk1:∀ x∈p0.fObjects.length :: (done++[i]),Kn (dk.set i true) x:=fun x hx=>by
      rw [Aj hik]
      rcases List.mem_cons.1 hx with rfl | hx
      · exact .inr (hk _ (List.mem_cons_self ..))
      · rcases rk.1 hx with hx | hx
        · exact .inr (hk x (List.mem_cons_of_mem _ hx))
        · exact .inl (fw.1 hx)
    obtain ⟨dv',dk',fl',g1,g2,g3,g4,g5,g6⟩:=XZ hF hV hO l (done++[i]) (dv.set i b) (dk.set i true) fl1 (by rw [hl]; simp) hC1 hk1
    have hsame:Kn dk i→dF dv i = b→dv.set i b = dv∧dk.set i true = dk:=fun hki e=>by
      have hid:i < dv.length:=by rw [hC.l1]; omega
      constructor
      · apply List.ext_getElem?
        intro j
        rw [pw]
        by_cases ej:i = j
        · subst ej; rw [if_pos rfl,if_pos hid,W2 hid,← e]
        · rw [if_neg ej]
      · apply List.ext_getElem?
        intro j
        rw [pw]
        by_cases ej:i = j
        · subst ej; rw [if_pos rfl,if_pos hik]; exact hki.symm
        · rw [if_neg ej]
    refine ⟨dv',dk',fl',by rw [List.foldlM_cons,h1]; exact g1,g2,g3,fun hf=>?_,fun hall hX hf=>?_,fun k hall hL=>?_⟩
    · obtain ⟨q1,q2,q3,q4⟩:=g4 hf
      obtain ⟨q5,q6,q7⟩:=h2.1 q1
      obtain ⟨s1,s2⟩:=hsame q6 q7
      rw [s1] at q2 q4
      rw [s2] at q3 q4
      exact ⟨q5,q2,q3,fun j hj=>by
        rcases List.mem_cons.1 hj with rfl | hj
        · rw [q7]; exact hB
        · exact q4 j hj⟩
    · have hki:=hall i (List.mem_cons_of_mem _ hi)
      have e:=ajJ hO hC hall hX hi hb hbi hB
      obtain ⟨s1,s2⟩:=hsame hki e
      have hf1:=h2.2 ⟨hf,hki,e⟩
      rw [s1,s2] at g5
      exact g5 hall hX hf1
    · have hL1:=aMx hO hC hall hi hb hbi hB hC1 (k:=k + 1) hL (fun x=>by split <;> omega) (fun x=>by split <;> omega)
      refine g6 k (fun x hx=>(Aj hik x).2 (.inr (hall x hx))) ?_
      have he:(fun x=>if x = i then k + 1 else if x∈done then k + 1 else k) = fun x=>if x∈done++[i] then k + 1 else k:=by
        funext x
        by_cases e:x = i
        · subst e; rw [if_pos rfl,if_pos (by simp)]
        · rw [if_neg e]
          by_cases e2:x∈done
          · rw [if_pos e2,if_pos (by simp [e2])]
          · rw [if_neg e2,if_neg (by simp [e,e2])]
      rw [← he]
      exact hL1
structure I6 (p0:api_Heap) (ls dv:List Nat) (dk:List Bool):Prop where
  ci:CI p0 ls dv dk
  all:∀ x∈tW p0 ls,Kn dk x
  exact:apZ p0 dv dk
theorem aDX {ls:List Nat} (hO:OrdQ p0 ls) {dv:List Nat} {dk:List Bool} (hC:CI p0 ls dv dk) (hall:∀ x∈tW p0 ls,Kn dk x) (hfix:∀ i∈ls,I7 p0 dv dk i (dF dv i)):I6 p0 ls dv dk:=by
  refine ⟨hC,hall,fun v hv a ha hA m hp=>?_⟩
  have key:∀ m v,Pth p0 (a:Int) m v→Anc (dF dv) p0.fObjects.length v a→False:=by
    intro m v hp
    induction hp with
    | zero=>intro h; exact ha (hC.tree.root_anc h)
    | @succ m x y p1 p2 p3 ih =>
      intro h
      have hx:x∈tW p0 ls:=(hO.mem x).2 ⟨m,Pth.any p1⟩
      have hy:y∈tW p0 ls:=(hO.mem y).2 ⟨m + 1,Pth.any (Pw.succ p1 p2 p3:Pth p0 (a:Int) (m + 1) y)⟩
      have hyl:y∈ls:=by
        rcases List.mem_cons.1 hy with e | e
        · have:=p2.lt; omega
        · exact e
      cases h with
      | refl=>exact p3 rfl
      | up _ h=>exact ih ((hfix y hyl a).1 h x p2 (hall x hx))
  exact key m v hp hA
theorem aFW (hF:oK p0) (hV:lQ p0) {ls:List Nat} (hO:OrdQ p0 ls):∀ (f k:Nat) (dv:List Nat) (dk:List Bool),CI p0 ls dv dk→(∀ x∈tW p0 ls,Kn dk x)→LV p0 dv dk (fun _=>k)→1≤f→p0.fObjects.length + 1≤k + f→∃ dv' dk',JZ 200 (plL p0 ls) (IX p0) (tW p0 ls) f (dv,dk) = some (dv',dk')∧I6 p0 ls dv' dk'
  | 0,_,_,_,_,_,_,h,_=>by omega
  | f + 1,k,dv,dk,hC,hall,hL,_,hf=>by
    have h0:LV p0 dv dk (fun x=>if x∈([]:List Nat) then k + 1 else k):=by simpa using hL
    obtain ⟨dv',dk',fl',g1,g2,g3,g4,g5,g6⟩ := XZ hF hV hO ls [] dv dk false rfl hC (fun x hx => hall x (by rcases List.mem_cons.1 hx with e | e; exact e ▸ List.mem_cons_self ..; simp at e))
    unfold JZ
    have hdrop:(tW p0 ls).drop 1 = ls:=rfl
    rw [hdrop,g1]
    cases fl' with
    | false =>
      obtain ⟨_,q2,q3,q4⟩:=g4 rfl
      subst q2 q3
      exact ⟨_,_,rfl,aDX hO hC hall q4⟩
    | true =>
      have hkn:k < p0.fObjects.length:=by
        rcases Nat.lt_or_ge k p0.fObjects.length with h | h
        · exact h
        · have:=g5 hall (azj hL h) rfl
          cases this
      have hL':LV p0 dv' dk' (fun _=>k + 1):=fun v hv a ha hA m hm hp=>by
        have hvo:=g2.kin v hv
        rcases List.mem_cons.1 hvo with e | e
        · subst e; exact ha (g2.tree.root_anc hA)
        · exact g6 k hall h0 v hv a ha hA m (by dsimp only; rw [if_pos e]; exact hm) hp
      exact aFW hF hV hO f (k + 1) dv' dk' g2 g3 hL' (by omega) (by omega)
theorem amQ (fnd:Int→Nat):∀ (l:List Go.RM.HO) (j B:Nat) (p:List (List Nat) × List (List Nat)),(∀ o∈l,o.refs.length≤40)→Go.RM.ub B p→Go.RM.ub (B + 40 * l.length) (Go.RM.addsFrom fnd j l p)
  | [],j,B,p,_,h=>h
  | o :: l,j,B,p,hl,h=>by
    have h1:=Go.RM.addSs_ub j (o.refs.map fnd) B p h
    rw [List.length_map] at h1
    have ho:=hl o (List.mem_cons_self ..)
    have h2:Go.RM.ub (B + 40) ((o.refs.map fnd).foldl (fun p k=>Go.RM.addS p j k) p):=⟨fun l hl=>Nat.le_trans (h1.1 l hl) (by omega),fun l hl=>Nat.le_trans (h1.2 l hl) (by omega)⟩
    have h3:=amQ fnd l (j + 1) (B + 40) _ (fun o ho=>hl o (List.mem_cons_of_mem _ ho)) h2
    have e:B + 40 + 40 * l.length = B + 40 * (o :: l).length:=by rw [List.length_cons]; omega
    rw [e] at h3
    exact h3
theorem aTY (hF:oK p0):Go.RM.ub 700 (Go.RM.adds (JK p0) (nK p0) p0.fRoots):=by
  have hn:=hF.n
  have hr:=hF.r
  unfold Go.RM.adds
  have h0:Go.RM.ub 0 (List.replicate ((nK p0).length + 1) [],List.replicate ((nK p0).length + 1) []):=⟨fun l hl=>by rw [List.eq_of_mem_replicate hl]; exact iw _,fun l hl=>by rw [List.eq_of_mem_replicate hl]; exact iw _⟩
  have h1:=amQ (JK p0) (nK p0) 0 0 _ (fun o ho=>by
    unfold nK at ho
    obtain ⟨o',ho',rfl⟩:=yw.1 ho
    exact hF.refs o' ho') h0
  have h2:=Go.RM.addSs_ub (nK p0).length (p0.fRoots.map (JK p0)) _ _ h1
  rw [List.length_map,jK] at h2
  rw [jK]
  exact ⟨fun l hl=>Nat.le_trans (h2.1 l hl) (by omega),fun l hl=>Nat.le_trans (h2.2 l hl) (by omega)⟩
theorem aiV (hF:oK p0):∀ l∈IX p0,l.length≤700:=(aTY hF).2
theorem aGV (hF:oK p0) (hV:lQ p0) {ls:List Nat} (hO:OrdQ p0 ls):∃ dv dk,Go.RM.domsF (dY p0) (nK p0) p0.fRoots (tW p0 ls) = some (dv,dk)∧I6 p0 ls dv dk:=by
  have hn:=hF.n
  have hC0:CI p0 ls ((List.replicate (p0.fObjects.length + 1) 0).set p0.fObjects.length p0.fObjects.length) ((List.replicate (p0.fObjects.length + 1) false).set p0.fObjects.length true):=by
    have hk:∀ v,Kn ((List.replicate (p0.fObjects.length + 1) false).set p0.fObjects.length true) v↔v = p0.fObjects.length:=fun v=>by
      rw [Aj (by rw [lw]; omega)]
      unfold Kn
      rw [List.getElem?_replicate]
      constructor
      · rintro (h | h)
        · exact h
        · split at h <;> cases h
      · exact .inl
    refine ⟨by rw [vw,lw],by rw [vw,lw],fun v hv=>by
      rcases List.mem_or_eq_of_mem_set hv with h | h
      · have:=List.eq_of_mem_replicate h; omega
      · omega,fun v hv=>by rw [(hk v).1 hv]; exact List.mem_cons_self ..,⟨(hk _).2 rfl,fun v hv hne=>absurd ((hk v).1 hv) hne,fun u v hu hv _=>by rw [(hk u).1 hu,(hk v).1 hv]⟩,fun v hv hne=>absurd ((hk v).1 hv) hne,fun v hv a ha hno=>?_⟩
    rw [(hk v).1 hv] at hno
    exact absurd .zero (hno 0)
  obtain ⟨dv,dk,fl,g1,g2,g3,g4,g5,g6⟩:=XZ hF hV hO ls [] _ _ false rfl hC0 (fun x hx=>by
    rcases List.mem_cons.1 hx with e | e
    · subst e; exact hC0.tree.root
    · simp at e)
  have hres:∃ dv' dk',JZ 200 (plL p0 ls) (IX p0) (tW p0 ls) 100 ((List.replicate (p0.fObjects.length + 1) 0).set p0.fObjects.length p0.fObjects.length,(List.replicate (p0.fObjects.length + 1) false).set p0.fObjects.length true) = some (dv',dk')∧I6 p0 ls dv' dk':=by
    rw [show (100:Nat) = 99 + 1 from rfl]
    unfold JZ
    have hdrop:(tW p0 ls).drop 1 = ls:=rfl
    rw [hdrop,g1]
    cases fl with
    | false =>
      obtain ⟨_,q2,q3,q4⟩:=g4 rfl
      rw [q2,q3]
      rw [q3] at g3
      exact ⟨_,_,rfl,aDX hO hC0 g3 q4⟩
    | true =>
      exact aFW hF hV hO 99 0 dv dk g2 g3 (fun v hv a ha hA m hm hp=>by
        have hm0:m≤0:=hm
        have:m = 0:=by omega
        subst this
        cases hp
        exact ha (g2.tree.root_anc hA)) (by omega) (by omega)
  obtain ⟨dv',dk',h1,h2⟩:=hres
  refine ⟨dv',dk',?_,h2⟩
  unfold Go.RM.domsF tW
  simp only [jK]
  have hll:ls.length≤p0.fObjects.length:=Hx (List.nodup_cons.1 hO.nodup).2 hO.lt
  have hfl:(IX p0).all (fun l=>decide (l.length≤1000000)) = true:=by
    rw [uk]
    intro l hl
    have:=aiV hF l hl
    exact decide_eq_true (by omega)
  have hb:(decide (p0.fObjects.length < p0.fObjects.length + 1∧p0.fObjects.length≤60) && decide ((p0.fObjects.length :: ls).length≤1000) && (Go.RM.adds (Go.RM.fndN (dY p0)) (nK p0) p0.fRoots).2.all (fun l=>decide (l.length≤1000000))) = true:=by
    rw [dw,dw,jw,jw]
    exact ⟨⟨⟨by omega,by omega⟩,by rw [List.length_cons]; omega⟩,hfl⟩
  rw [hb]
  have h1':JZ 200 (qJ p0.fObjects.length (p0.fObjects.length :: ls)).1 (Go.RM.adds (Go.RM.fndN (dY p0)) (nK p0) p0.fRoots).2 (p0.fObjects.length :: ls) 100 ((List.replicate (p0.fObjects.length + 1) 0).set p0.fObjects.length p0.fObjects.length,(List.replicate (p0.fObjects.length + 1) false).set p0.fObjects.length true) = some (dv',dk'):=h1
  simp only [cond_true,h1']
  have hdv:dv'.all (fun v=>decide (v < p0.fObjects.length + 1)) = true:=by
    rw [uk]
    intro v hv
    have:=h2.ci.bd v hv
    exact decide_eq_true (by omega)
  have hc:(decide (dv'.length = p0.fObjects.length + 1) && decide (dk'.length = p0.fObjects.length + 1) && dv'.all (fun v=>decide (v < p0.fObjects.length + 1))) = true:=by
    rw [dw,dw,jw,jw]
    exact ⟨⟨h2.ci.l1,h2.ci.l2⟩,hdv⟩
  rw [hc]
  rfl
end
open Go.Proofs Go.Proofs.Ytliccamocpglcaa
open Go.RM (vK i9 aTz aRV ajX)
section
variable {p0:api_Heap}
theorem axK (hF:oK p0) (hs:∀ o∈p0.fObjects,o.fType.size≤9223372036854775807):(xK p0 ≠ 0∧kK p0 = some ([],xK p0))∨(xK p0 = 0∧lQ p0∧∃ ls dv dk,OrdQ p0 ls∧I6 p0 ls dv dk∧kK p0 = some (i9 p0.fObjects.length dv dk,0)):=by
  unfold kK Go.RM.dominatorsF
  rw [R5 hF hs]
  simp only [gw]
  by_cases h:xK p0 = 0
  · have hV:=aez h
    obtain ⟨ls,h1,hO⟩:=aBZ hF hV
    obtain ⟨dv,dk,h2,hE⟩:=aGV hF hV hO
    refine .inr ⟨h,hV,ls,dv,dk,hO,hE,?_⟩
    rw [h,h1]
    simp only [decide_true,cond_true,gw]
    rw [h2,jK]
    rfl
  · exact .inl ⟨h,by rw [vk h]; rfl⟩
theorem AJ (n:Nat) (dv:List Nat) (dk:List Bool):(i9 n dv dk).length = n:=by unfold i9; rw [List.length_map,List.length_range]
end
open Go.Proofs Go.Proofs.Ytliccamocpglcaa
open Go.RM (vK i9)
def aQQ (o:aY):aY:={ o with fRefs:=[] }
def uZ (p0:api_Heap) (b:Nat):api_Heap:={ fObjects:=p0.fObjects.modify b aQQ,fRoots:=p0.fRoots }
section
variable {p0:api_Heap}
theorem EY (b:Nat):(uZ p0 b).fObjects.length = p0.fObjects.length:=List.length_modify ..
theorem B8 (b k:Nat):(uZ p0 b).fObjects[k]? = (p0.fObjects[k]?).map fun o=>if b = k then aQQ o else o:=by
  unfold uZ
  rw [List.getElem?_modify]
  cases p0.fObjects[k]? with
  | none=>rfl
  | some o=>by_cases e:b = k <;> simp [e]
theorem YX {b k:Nat} {o:aY} (h:(uZ p0 b).fObjects[k]? = some o):∃ o',p0.fObjects[k]? = some o'∧o = if b = k then aQQ o' else o':=by
  rw [B8] at h
  cases h1:p0.fObjects[k]? with
  | none=>rw [h1] at h; cases h
  | some o'=>rw [h1] at h; cases h; exact ⟨o',rfl,rfl⟩
theorem X2 {b:Nat} {o:aY} (h:o∈(uZ p0 b).fObjects):∃ o'∈p0.fObjects,o.fId = o'.fId∧o.fType = o'.fType∧o.fRefs.length≤o'.fRefs.length:=by
  obtain ⟨k,hk⟩:=List.getElem?_of_mem h
  obtain ⟨o',h1,h2⟩:=YX hk
  refine ⟨o',jk h1,?_⟩
  rw [h2]
  split
  · exact ⟨rfl,rfl,Nat.zero_le _⟩
  · exact ⟨rfl,rfl,iw _⟩
theorem aGY (hF:oK p0) (b:Nat):oK (uZ p0 b):=by
  refine ⟨by rw [EY]; exact hF.n,hF.r,fun o ho=>?_⟩
  obtain ⟨o',h1,_,_,h2⟩:=X2 ho
  have:=hF.refs o' h1
  omega
theorem azV (b:Nat):mY (uZ p0 b) = mY p0:=by
  funext n
  have:∀ q:Bool,mY (uZ p0 b) n = q↔mY p0 n = q:=by
    have key:mY (uZ p0 b) n = true↔mY p0 n = true:=by
      unfold mY
      rw [List.any_eq_true,List.any_eq_true]
      constructor
      · rintro ⟨o,ho,h⟩
        obtain ⟨o',h1,h2,_⟩:=X2 ho
        exact ⟨o',h1,by rw [← h2]; exact h⟩
      · rintro ⟨o,ho,h⟩
        obtain ⟨k,hk⟩:=List.getElem?_of_mem ho
        have:=B8 (p0:=p0) b k
        rw [hk] at this
        refine ⟨_,jk this,?_⟩
        split
        · exact h
        · exact h
    intro q
    cases q with
    | true=>exact key
    | false=>rw [← Bool.not_eq_true,← Bool.not_eq_true,key]
  exact (this _).2 rfl
theorem azW (b i:Nat):H5 (uZ p0 b).fObjects i = H5 p0.fObjects i:=by
  unfold H5
  rw [B8]
  cases p0.fObjects[i - 1]? with
  | none=>rfl
  | some o =>
    simp only [qw,Option.getD_some]
    split <;> rfl
theorem aMj (h:xK p0 = 0) (b:Nat):xK (uZ p0 b) = 0:=by
  unfold xK at h ⊢
  cases h1:eJ (E8 p0.fObjects) p0.fObjects 0 with
  | some r =>
    rw [h1] at h
    obtain ⟨j,y,_,hg,_⟩:=qY h1
    unfold E8 at hg
    simp only at h
    subst h
    split at hg
    · cases hg
    · split at hg
      · split at hg <;> cases hg
      · cases hg
  | none =>
    rw [h1] at h
    simp only at h
    cases h2:eJ (yW p0) p0.fObjects 0 with
    | some r =>
      rw [h2] at h
      obtain ⟨j,y,_,hg,_⟩:=qY h2
      unfold yW at hg
      simp only at h
      subst h
      split at hg
      · cases hg
      · rename_i hne; exact absurd (Option.some.inj hg) hne
    | none =>
      rw [h2] at h
      simp only at h
      rw [xJ] at h1 h2
      have h1':eJ (E8 (uZ p0 b).fObjects) (uZ p0 b).fObjects 0 = none:=xJ.2 fun j y hy=>by
        obtain ⟨o,ho,rfl⟩:=YX hy
        have:=h1 j o ho
        unfold E8 at this ⊢
        rw [azW]
        split
        · exact this
        · exact this
      have h2':eJ (yW (uZ p0 b)) (uZ p0 b).fObjects 0 = none:=xJ.2 fun j y hy=>by
        obtain ⟨o,ho,rfl⟩:=YX hy
        have:=h2 j o ho
        unfold yW at this ⊢
        rw [azV]
        split
        · rfl
        · exact this
      rw [h1',h2']
      show O3 (mY (uZ p0 b)) p0.fRoots = 0
      rw [azV]; exact h
theorem aiQ (hF:oK p0) {b:Nat} (hb:b < p0.fObjects.length):i3 p0 (b:Int) = some (uZ p0 b):=by
  have hn:=hF.n
  unfold i3
  have h1:decide ((0:Int)≤(b:Int)) = true:=decide_eq_true (by omega)
  have h2:decide ((b:Int).toNat < p0.fObjects.length) = true:=decide_eq_true (by omega)
  have h3:decide (p0.fObjects.length≤60) = true:=decide_eq_true (by omega)
  rw [h1,h2,h3]
  rfl
theorem Q9 {b:Nat} (hb:b < p0.fObjects.length) {i k:Nat}:Edge (uZ p0 b) i k↔i ≠ b∧Edge p0 i k:=by
  have hsrc:QZ (uZ p0 b) i = if i = b then [] else QZ p0 i:=by
    unfold QZ
    rw [EY]
    by_cases e:i = p0.fObjects.length
    · rw [if_pos e,if_pos e,if_neg (by omega)]; rfl
    · rw [if_neg e,if_neg e,B8]
      by_cases e2:i = b
      · subst e2
        rw [ck hb,if_pos rfl]
        simp only [qw,ow]; rfl
      · rw [if_neg e2]
        cases p0.fObjects[i]? with
        | none=>rfl
        | some o=>simp only [qw,if_neg (Ne.symm e2)]
  constructor
  · rintro ⟨o,h1,h2⟩
    obtain ⟨o',h3,h4⟩:=YX h1
    rw [hsrc] at h2
    by_cases e:i = b
    · rw [if_pos e] at h2; cases h2
    · rw [if_neg e] at h2
      refine ⟨e,o',h3,?_⟩
      have:o.fId = o'.fId:=by rw [h4]; split <;> rfl
      rw [← this]; exact h2
  · rintro ⟨e,o,h1,h2⟩
    have h3:=B8 (p0:=p0) b k
    rw [h1] at h3
    refine ⟨_,h3,?_⟩
    rw [hsrc,if_neg e]
    split
    · exact h2
    · exact h2
theorem anV {b:Nat} (hb:b < p0.fObjects.length) {m k:Nat} (h:Pth (uZ p0 b) (-1) m k):Pth p0 (-1) m k∧(k ≠ b→Pth p0 (b:Int) m k):=by
  have h':Pw (Edge (uZ p0 b)) p0.fObjects.length (-1) m k:=by have:=h; unfold Pth at this; rwa [EY] at this
  clear h
  induction h' with
  | zero=>exact ⟨.zero,fun _=>.zero⟩
  | succ p1 p2 p3 ih =>
    obtain ⟨e,p2⟩:=(Q9 hb).1 p2
    exact ⟨.succ ih.1 p2 (by omega),fun hne=>.succ (ih.2 e) p2 (by omega)⟩
theorem aHQ {b:Nat} (hb:b < p0.fObjects.length) {m k:Nat} (h:Pth p0 (b:Int) m k):Pth (uZ p0 b) (-1) m k:=by
  unfold Pth
  rw [EY]
  induction h with
  | zero=>exact .zero
  | @succ m x y p1 p2 p3 ih =>
    refine .succ ih ((Q9 hb).2 ⟨fun e=>?_,p2⟩) (by omega)
    subst e
    exact Pth.self (by omega) p1
theorem aFX {b:Nat} (hb:b < p0.fObjects.length) {m k:Nat} (h:Pth p0 (-1) m k):(∃ m',Pth (uZ p0 b) (-1) m' k)∨∃ m',Pth (uZ p0 b) (-1) m' b:=by
  unfold Pth
  rw [EY]
  induction h with
  | zero=>exact .inl ⟨0,.zero⟩
  | @succ m x y p1 p2 p3 ih =>
    rcases ih with ⟨m',h⟩ | h
    · by_cases e:x = b
      · subst e; exact .inr ⟨m',h⟩
      · exact .inl ⟨m' + 1,.succ h ((Q9 hb).2 ⟨e,p2⟩) (by omega)⟩
    · exact .inr h
theorem aCK (hF:oK p0) {ls dv:List Nat} {dk:List Bool} (hO:OrdQ p0 ls) (hE:I6 p0 ls dv dk) {b c:Nat} (hb:b < p0.fObjects.length) (hc:c < p0.fObjects.length) :
    -2≤vK p0.fObjects.length dv dk c∧vK p0.fObjects.length dv dk c < p0.fObjects.length∧vK p0.fObjects.length dv dk c ≠ (c:Int)∧(vK p0.fObjects.length dv dk c = (b:Int)→∀ m,¬ Pth (uZ p0 b) (-1) m c)∧(vK p0.fObjects.length dv dk c = -2→∀ m,¬ Pth (uZ p0 b) (-1) m c)∧(vK p0.fObjects.length dv dk c = -1→∃ m,Pth (uZ p0 b) (-1) m c):=by
  have hcl:c < dk.length:=by rw [hE.ci.l2]; omega
  have hkc:Kn dk c↔dk.getD c false = true:=by unfold Kn; rw [sk,ck hcl]; simp
  have hreach:Kn dk c↔∃ m,Pth p0 (-1) m c:=⟨fun h=>(hO.mem c).1 (hE.ci.kin c h),fun h=>hE.all c ((hO.mem c).2 h)⟩
  unfold vK
  cases hk:dk.getD c false with
  | false =>
    rw [if_pos rfl]
    refine ⟨by omega,by omega,by omega,fun h=>by omega,fun _ m hm=>?_,fun h=>by omega⟩
    have:=hkc.1 (hreach.2 ⟨m,(anV hb hm).1⟩)
    rw [hk] at this; cases this
  | true =>
    have hK:=hkc.2 hk
    rw [if_neg (by simp)]
    have hcn:c ≠ p0.fObjects.length:=by omega
    obtain ⟨hkd,hlt⟩:=hE.ci.tree.up c hK hcn
    have hle:=hO.le (hE.ci.kin _ hkd)
    have hd:dv.getD c 0 = dF dv c:=rfl
    rw [hd]
    by_cases e:dF dv c = p0.fObjects.length
    · rw [if_pos e]
      refine ⟨by omega,by omega,by omega,fun h=>by omega,fun h=>by omega,fun _=>?_⟩
      obtain ⟨m,hm⟩:=hreach.1 hK
      by_cases ecb:c = b
      · subst ecb
        rcases aFX hb hm with h | h <;> exact h
      · by_cases hh:∃ m,Pth p0 (b:Int) m c
        · obtain ⟨m,hm⟩:=hh
          exact ⟨m,aHQ hb hm⟩
        · exfalso
          have hA:=hE.ci.S c hK b (by omega) fun m hm=>hh ⟨m,hm⟩
          cases hA with
          | refl=>exact ecb rfl
          | up _ h =>
            rw [e] at h
            have:=hE.ci.tree.root_anc h
            omega
    · rw [if_neg e]
      have hne:dF dv c ≠ c:=fun e2=>by rw [e2] at hlt; omega
      refine ⟨by omega,by omega,by omega,fun h m hm=>?_,fun h=>by omega,fun h=>by omega⟩
      have hbd:dF dv c = b:=by omega
      have hcb:c ≠ b:=by omega
      exact hE.exact c hK b (by omega) (hbd ▸ Anc.up hcn (.refl _)) m ((anV hb hm).2 hcb)
end
open Go.Proofs Go.Proofs.Ytliccamocpglcaa
open Go.RM (vK i9)
section
variable {p0:api_Heap}
theorem akX {n c:Nat} (h:c < n) (dv:List Nat) (dk:List Bool):(i9 n dv dk)[c]? = some (vK n dv dk c):=by
  unfold i9
  rw [gk,List.getElem?_range h]; rfl
theorem auW (hF:oK p0) {ls dv:List Nat} {dk:List Bool} (hO:OrdQ p0 ls) (hE:I6 p0 ls dv dk) {b c:Nat} (hb:b < p0.fObjects.length) (hc:c < p0.fObjects.length) {l:List Bool} (hl:ReachIs (uZ p0 b) l) :
    d6 (i9 p0.fObjects.length dv dk,0) (b:Int) (l,0) (c:Int) = some (.inl ((c:Int) + 1)):=by
  have hn:=hF.n
  have hw:=vY (show c < 9223372036854775807 by omega)
  obtain ⟨h1,h2,h3,h4,h5,h6⟩:=aCK hF hO hE hb hc
  obtain ⟨r,hr,hR⟩:=hl.get (show c < (uZ p0 b).fObjects.length by rw [EY]; exact hc)
  unfold d6
  have hg:=akX hc dv dk
  generalize vK p0.fObjects.length dv dk c = d at *
  simp only [AJ,show ((c:Int) < (p0.fObjects.length:Int)) from by omega,decide_true,cond_true,sQ,hg,gw,show ¬ d < -2 from by omega,show ¬ (p0.fObjects.length:Int)≤d from by omega,h3,decide_false,cond_false,hr]
  cases r with
  | true =>
    obtain ⟨m,hm⟩:=hR.1 rfl
    have e1 : ¬ d = (b:Int):=fun e=>h4 e m hm
    have e2 : ¬ d = -2:=fun e=>h5 e m hm
    simp only [e1,e2,decide_false,cond_false,Bool.not_true]
    cases decide (d = -1) <;> simp only [cond_true,cond_false,gw,hw]
  | false =>
    have e3 : ¬ d = -1:=fun e=>by have:=hR.2 (h6 e); cases this
    simp only [e3,decide_false,cond_false,gw]
    cases decide (d = (b:Int)) <;> cases decide (d = -2) <;> simp only [cond_true,cond_false,gw,hw]
theorem heapCuts_holds (p0:api_Heap) (hs:∀ o∈p0.fObjects,o.fType.size≤9223372036854775807):eK p0 = some true:=by
  unfold eK
  obtain ⟨b,hb,hbF⟩:=aOj p0
  rw [hb]
  simp only [gw]
  cases b with
  | false=>simp only [Bool.not_false,cond_true,Xq,gw]
  | true =>
    have hF:=hbF.1 rfl
    have hn:=hF.n
    simp only [Bool.not_true,cond_false,auJ hF hs,gw]
    rcases axK hF hs with ⟨h1,h2⟩ | ⟨h1,hV,ls,dv,dk,hO,hE,h2⟩
    · simp only [vk h1,Bool.not_false,cond_true,Xq,gw]
    · simp only [h1,decide_true,Bool.not_true,cond_false,h2,gw,AJ]
      have hr2:loop (eW p0 (i9 p0.fObjects.length dv dk,0)) 0 = some (.inl ()):=by
        rw [t6 (step:=eW p0 (i9 p0.fObjects.length dv dk,0)) p0.fObjects (fun _ _=>none) (by omega) (fun b y hy=>by
          have hb:=fQ hy
          have hw:=vY (show b < 9223372036854775807 by omega)
          have hl1:∃ l,rY (uZ p0 b) = some (l,0)∧ReachIs (uZ p0 b) l:=by
            rcases agq (aGY hF b) (fun o ho=>by
              obtain ⟨o',h3,_,h4,_⟩:=X2 ho
              rw [h4]; exact hs o' h3) with ⟨h3,_⟩ | ⟨_,_,h3⟩
            · exact absurd (aMj h1 b) h3
            · exact h3
          obtain ⟨l,hl,hR⟩:=hl1
          have hll:(l.length:Int) = (p0.fObjects.length:Int):=by rw [hR.1,EY]
          have hlp:loop (d6 (i9 p0.fObjects.length dv dk,0) (b:Int) (l,0)) 0 = some (.inl ()):=by
            rw [t6 (step:=d6 (i9 p0.fObjects.length dv dk,0) (b:Int) (l,0)) p0.fObjects (fun _ _=>none) (by omega) (fun c y hy=>auW hF hO hE hb (fQ hy) hR) (by unfold d6; simp [AJ]),WK]
            rfl
          unfold eW
          simp only [AJ,show ((b:Int) < (p0.fObjects.length:Int)) from by omega,decide_true,cond_true,aiQ hF hb,gw,hl,Bool.not_true,cond_false,hll,hlp,hw]) (by unfold eW; simp [AJ]),WK]
        rfl
      simp only [hr2,gw,Xq]
end
open Go.Proofs Go.Proofs.Ytliccamocpglcaa
open Go.RM (tQ DK Yq akV)
open Classical in
noncomputable def Ux (f:Nat→Int) (p:Nat→Prop):Nat→Int
  | 0=>0
  | n + 1=>Ux f p n + if p n then f n else 0
theorem Q0 {f:Nat→Int} {p:Nat→Prop} {B:Int} (hB:0≤B):∀ (n:Nat),(∀ u,u < n→0≤f u∧f u≤B)→0≤Ux f p n∧Ux f p n≤n * B
  | 0,_=>by unfold Ux; omega
  | n + 1,h=>by
    have h1:=Q0 (p:=p) hB n (fun u hu=>h u (by omega))
    have h2:=h n (by omega)
    unfold Ux
    have e:((n + 1:Nat):Int) * B = n * B + B:=by rw [Int.natCast_add,Int.add_mul]; omega
    rw [e]
    split <;> omega
section
variable {p0:api_Heap}
def SZ (p0:api_Heap) (u:Nat):Int:=((nK p0).map Go.RM.HO.size).getD u 0
theorem aPY {u:Nat} {o:aY} (h:p0.fObjects[u]? = some o):SZ p0 u = o.fSize:=by
  unfold SZ
  rw [sk,gk,R8,h]; rfl
theorem aSZ (hV:lQ p0) {u:Nat} (h:u < p0.fObjects.length):0≤SZ p0 u∧SZ p0 u≤1000000000000:=by
  obtain ⟨o,ho⟩ : ∃ o,p0.fObjects[u]? = some o:=⟨_,ck h⟩
  rw [aPY ho]
  exact hV.size o (jk ho)
abbrev aTx (p0:api_Heap) (dv:List Nat) (u v:Nat):Prop:=Anc (dF dv) p0.fObjects.length u v
structure RI (p0:api_Heap) (dv D:List Nat) (z:List Int):Prop where
  len:z.length = p0.fObjects.length + 1
  A1:∀ v,v∈D→z.getD v 0 = Ux (SZ p0) (fun u=>u∈D∧aTx p0 dv u v) p0.fObjects.length
  A2:∀ v,v≤p0.fObjects.length→v ∉ D→z.getD v 0 = Ux (SZ p0) (fun u=>u∈D∧∃ c,c∈D∧dF dv c = v∧aTx p0 dv u c) p0.fObjects.length
  B:∀ v,v≤p0.fObjects.length→z.getD v 0 = (if v∈D then SZ p0 v else 0) + Ux (fun c=>z.getD c 0) (fun c=>c∈D∧dF dv c = v) p0.fObjects.length
theorem RI.range (hF:oK p0) (hV:lQ p0) {dv D:List Nat} {z:List Int} (h:RI p0 dv D z) {v:Nat} (hv:v≤p0.fObjects.length):0≤z.getD v 0∧z.getD v 0≤16000000000000:=by
  have hn:=hF.n
  have key:∀ p:Nat→Prop,0≤Ux (SZ p0) p p0.fObjects.length∧Ux (SZ p0) p p0.fObjects.length≤16000000000000:=fun p=>by
    have:=Q0 (p:=p) (B:=1000000000000) (by omega) p0.fObjects.length fun u hu=>aSZ hV hu
    refine ⟨this.1,Int.le_trans this.2 ?_⟩
    have:(p0.fObjects.length:Int) * 1000000000000≤16 * 1000000000000:=Int.mul_le_mul_of_nonneg_right (by omega) (by omega)
    omega
  by_cases e:v∈D
  · rw [h.A1 v e]; exact key _
  · rw [h.A2 v hv e]; exact key _
end
open Go.Proofs Go.Proofs.Ytliccamocpglcaa
open Go.RM (tQ vK i9)
section
variable {p0:api_Heap}
open Classical in
open Classical in
end
open Go.Proofs Go.Proofs.Ytliccamocpglcaa
open Go.RM (tQ vK i9)
section
variable {p0:api_Heap}
end
end Go.VM
