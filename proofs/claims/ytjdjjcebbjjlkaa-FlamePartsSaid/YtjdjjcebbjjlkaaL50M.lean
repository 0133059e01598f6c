/- The law holds: plain mathematics on what the functions compute. -/
import Derived.Test.YtjdjjcebbjjlkaaL50B
namespace Go.VM
theorem dj {α:Type} {xs:List α} {i:Nat} {y:α} (h:xs[i]? = some y):i < xs.length:=(bw.1 h).1
end Go.VM
namespace Go.VM
def Ok {α:Type} (x:Option α) (P:α→Prop):Prop:=∃ r,x = some r∧P r
def Yes {α:Type}:α→Prop:=fun _=>True
def nQ {α β:Type} (A:α→Prop) (B:β→Prop):α ⊕ β→Prop
 | .inl a=>A a
 | .inr b=>B b
theorem a7 {α:Type} {P:α→Prop} {r:α} (h:P r):Ok (some r) P:=⟨r,rfl,h⟩
theorem j8 {α β:Type} {A:α→Prop} {B:β→Prop} {a:α} (h:A a):Ok (some (.inl a)) (nQ A B):=⟨_,rfl,h⟩
theorem dZ {α β:Type} {A:α→Prop} {B:β→Prop} {b:β} (h:B b):Ok (some (.inr b)) (nQ A B):=⟨_,rfl,h⟩
theorem bj {α β:Type} {x:Option α} {f:α→Option β} {Q:α→Prop} {P:β→Prop} (hx:Ok x Q) (hf:∀ r,Q r→Ok (f r) P):Ok (x.bind f) P:=by
 obtain ⟨r,h1,h2⟩:=hx
 subst h1; exact hf r h2
theorem mZ {α β γ:Type} {x:Option (α ⊕ γ)} {f:α ⊕ γ→Option β} {Q:α ⊕ γ→Prop} {P:β→Prop} (hx:Ok x Q) (hf:∀ r,Q (.inl r)→Ok (f (.inl r)) P) (hg:∀ r,Q (.inr r)→Ok (f (.inr r)) P):Ok (x.bind f) P :=
 bj hx (fun r => match r with | .inl a => hf a | .inr b => hg b)
theorem aNX {α β:Type} {x:Option α} {f:α→Option β} {P:β→Prop} (hx:Ok x Yes) (hf:∀ r,x = some r→Ok (f r) P):Ok (x.bind f) P:=by
 obtain ⟨r,h1,h2⟩:=hx
 subst h1; exact hf r rfl
theorem e9 {α:Type} {b:Bool} {x y:Option α} {P:α→Prop} (h1:b = true→Ok x P) (h2:b = false→Ok y P):Ok (cond b x y) P:=by
 cases b
 ·exact h2 rfl
 ·exact h1 rfl
theorem Ok.mono {α:Type} {x:Option α} {P Q:α→Prop} (h:Ok x P) (hq:∀ r,P r→Q r):Ok x Q:=by
 obtain ⟨r,h1,h2⟩:=h; exact ⟨r,h1,hq r h2⟩
theorem Ok.yes {α:Type} {x:Option α} {P:α→Prop} (h:Ok x P):Ok x Yes:=h.mono (fun _ _=>trivial)
theorem Dz {α:Type} {xs:List α} {i:Int} (h1:0≤i) (h2:i < xs.length):Ok (idx xs i) (fun y=>xs[i.toNat]? = some y):=by
 obtain ⟨n,rfl⟩:=Int.eq_ofNat_of_zero_le h1
 have h3:n < xs.length:=by omega
 rw [iW]
 exact ⟨xs[n],by simp [h3],by simp [h3]⟩
theorem rW {S ρ:Type} {step:S→Option (S ⊕ ρ)} (Inv:S→Prop) (m:S→Nat) {Post:ρ→Prop}
  (h:∀ s,Inv s→Ok (step s) (nQ (fun s'=>Inv s'∧m s' < m s) Post)) {s:S} (hs:Inv s) (hm:m s < gq):Ok (loop step s) Post:=by
 refine aHW Inv m Post (fun s hs=>?_) hs hm
 obtain ⟨r,h1,h2⟩:=h s hs
 cases r with
 | inl a=>exact Or.inl ⟨a,h1,h2⟩
 | inr b=>exact Or.inr ⟨b,h1,h2⟩
theorem aUW {ρ:Type} {step:Int→Option (Int ⊕ ρ)} (n:Nat) {Post:ρ→Prop} (hn:n≤9223372036854775807)
  (h:∀ i:Int,0≤i→i≤n→Ok (step i) (nQ (fun a=>i < n∧a = i + 1) Post)):Ok (loop step 0) Post:=by
 refine rW (fun i:Int=>0≤i∧i≤(n:Int)) (fun i:Int=>((n:Int) - i).toNat) (fun i hi=>(h i hi.1 hi.2).mono ?_) ⟨by omega,by omega⟩ (by simp [gq]; omega)
 rintro (a | b) hr
 ·obtain ⟨h1,rfl⟩ : i < n∧a = i + 1:=hr
  exact ⟨⟨by omega,by omega⟩,by omega⟩
 ·exact hr
theorem j7 {α:Type} {r:α}:Ok (some r) Yes:=⟨r,rfl,trivial⟩
theorem AZ {α β:Type} {B:β→Prop} {a:α}:Ok (some (.inl a)) (nQ Yes B):=⟨_,rfl,trivial⟩
theorem zW {α β:Type} {A:α→Prop} {b:β}:Ok (some (.inr b)) (nQ A Yes):=⟨_,rfl,trivial⟩
theorem AY {ρ:Type} {i:Int} {n:Nat} {P:ρ→Prop} (h1:0≤i) (h2:i < (n:Int)) (h3:n≤9223372036854775807):Ok (some (.inl (w64 (i + 1)))) (nQ (fun a:Int=>i < (n:Int)∧a = i + 1) P) :=
 j8 ⟨h2,cJ (by omega)⟩
theorem cq {α:Type} {p:Prop} [Decidable p] {x y:Option α} {P:α→Prop} (h1:p→Ok x P) (h2 : ¬p→Ok y P):Ok (cond (decide p) x y) P :=
 e9 (fun h=>h1 (of_decide_eq_true h)) (fun h=>h2 (of_decide_eq_false h))
theorem qJ {α:Type} {p:Prop} [Decidable p] {x y:Option α} {P:α→Prop} (h1 : ¬p→Ok x P) (h2:p→Ok y P):Ok (cond (!decide p) x y) P:=by
 by_cases h:p
 ·simpa [h] using h2 h
 ·simpa [h] using h1 h
theorem wq {α:Type} {b:Bool} {x y:Option α} {P:α→Prop} (h1:b = false→Ok x P) (h2:b = true→Ok y P):Ok (cond (!b) x y) P:=by
 cases b
 ·exact h1 rfl
 ·exact h2 rfl
abbrev Tot {α:Type} (x:Option α):Prop:=Ok x Yes
theorem aWJ {σ ρ:Type} {step:σ × Int→Option ((σ × Int) ⊕ ρ)} (n:Nat) (Inv:σ→Int→Prop) {Post:ρ→Prop} (hn:n≤9223372036854775807) {s0:σ} (h0:Inv s0 0)
  (h:∀ (s:σ) (i:Int),Inv s i→0≤i→i≤n→Ok (step (s,i)) (nQ (fun a=>i < n∧a.2 = i + 1∧Inv a.1 (i + 1)) Post)):Ok (loop step (s0,0)) Post:=by
 refine rW (fun s:σ × Int=>Inv s.1 s.2∧0≤s.2∧s.2≤(n:Int)) (fun s:σ × Int=>((n:Int) - s.2).toNat) (fun s hi=>(h s.1 s.2 hi.1 hi.2.1 hi.2.2).mono ?_) ⟨h0,by simp,by simp⟩ (by simp [gq]; omega)
 rintro (⟨a,j⟩ | b) hr
 ·obtain ⟨h1,h2,h3⟩ : s.2 < n∧j = s.2 + 1∧Inv a (s.2 + 1):=hr
  subst h2
  exact ⟨⟨h3,by simp; omega,by simp; omega⟩,by simp; omega⟩
 ·exact hr
theorem aXX {ρ:Type} {step:Int→Option (Int ⊕ ρ)} (n:Nat) (Inv:Int→Prop) {Post:ρ→Prop} (hn:n≤9223372036854775807) (h0:Inv 0)
  (h:∀ i:Int,Inv i→0≤i→i≤n→Ok (step i) (nQ (fun a=>i < n∧a = i + 1∧Inv (i + 1)) Post)):Ok (loop step 0) Post:=by
 refine rW (fun i:Int=>Inv i∧0≤i∧i≤(n:Int)) (fun i:Int=>((n:Int) - i).toNat) (fun i hi=>(h i hi.1 hi.2.1 hi.2.2).mono ?_) ⟨h0,by omega,by omega⟩ (by simp [gq]; omega)
 rintro (a | b) hr
 ·obtain ⟨h1,rfl,h3⟩ : i < n∧a = i + 1∧Inv (i + 1):=hr
  exact ⟨⟨h3,by omega,by omega⟩,by omega⟩
 ·exact hr
theorem xK {b n:Nat} (h1:n * b≤140737488355328) (h2:n≤9223372036854775807):Sx b n = true:=by
 simp only [Sx,ek]
 exact ⟨Nat.ble_eq_true_of_le h1,Nat.ble_eq_true_of_le h2⟩
theorem QZ (c:Int):Ok (m7 c) Yes:=by
 unfold m7 dW jQ
 repeat' (first | (with_reducible first | exact j7 | exact zW | exact AZ | refine qJ (fun _=>?_) fun _=>?_ | refine cq (fun _=>?_) fun _=>?_ | refine wq (fun _=>?_) fun _=>?_ | refine e9 (fun _=>?_) fun _=>?_) | (with_reducible refine AY ?_ ?_ ?_ <;> (first | assumption | omega | rw [cJ] <;> omega)) | with_reducible refine bj (Dz (by (first | assumption | omega | rw [cJ] <;> omega)) (by (first | assumption | omega | rw [cJ] <;> omega))) (fun _ _=>?_) | (with_reducible refine bj (Q:=Yes) ?_ fun _ _=>?_) | dsimp only)
theorem q8 (s:ByteArray) (h:s.size≤9223372036854775807):Ok (c6 s) Yes:=by
 unfold c6
 refine bj (Q:=Yes) ?_ (fun v _=>?_)
 ·repeat' (first | (with_reducible first | exact j7 | exact zW | exact AZ | refine qJ (fun _=>?_) fun _=>?_ | refine cq (fun _=>?_) fun _=>?_ | refine wq (fun _=>?_) fun _=>?_ | refine e9 (fun _=>?_) fun _=>?_) | (with_reducible refine AY ?_ ?_ ?_ <;> (first | assumption | omega | rw [cJ] <;> omega)) | with_reducible refine bj (Dz (by (first | assumption | omega | rw [cJ] <;> omega)) (by (first | assumption | omega | rw [cJ] <;> omega))) (fun _ _=>?_) | (with_reducible refine bj (Q:=Yes) ?_ fun _ _=>?_) | dsimp only)
 refine e9 (fun _=>a7 trivial) (fun _=>?_)
 have e:s.data.toList.length = s.size:=by rw [Array.length_toList]; rfl
 refine mZ (Q:=Yes) (aUW s.size h fun i h1 h2=>?_) (fun _ _=>?_) (fun _ _=>?_)
 ·unfold lZ
  repeat' (first | (with_reducible first | exact j7 | exact zW | exact AZ | refine qJ (fun _=>?_) fun _=>?_ | refine cq (fun _=>?_) fun _=>?_ | refine wq (fun _=>?_) fun _=>?_ | refine e9 (fun _=>?_) fun _=>?_) | (with_reducible refine AY ?_ ?_ ?_ <;> (first | assumption | omega | rw [cJ] <;> omega)) | with_reducible refine bj (Dz (by (first | assumption | omega | rw [cJ] <;> omega)) (by (first | assumption | omega | rw [cJ] <;> omega))) (fun _ _=>?_) | (with_reducible refine Ok.yes (Dz ?_ (by rw [e]; (first | assumption | omega | rw [cJ] <;> omega))) <;> (first | assumption | omega | rw [cJ] <;> omega)) | (with_reducible refine Ok.yes (QZ _) <;> (first | assumption | omega | rw [cJ] <;> omega)) | (with_reducible refine bj (Q:=Yes) ?_ fun _ _=>?_) | dsimp only)
 ·repeat' (first | (with_reducible first | exact j7 | exact zW | exact AZ | refine qJ (fun _=>?_) fun _=>?_ | refine cq (fun _=>?_) fun _=>?_ | refine wq (fun _=>?_) fun _=>?_ | refine e9 (fun _=>?_) fun _=>?_) | (with_reducible refine AY ?_ ?_ ?_ <;> (first | assumption | omega | rw [cJ] <;> omega)) | with_reducible refine bj (Dz (by (first | assumption | omega | rw [cJ] <;> omega)) (by (first | assumption | omega | rw [cJ] <;> omega))) (fun _ _=>?_) | (with_reducible refine bj (Q:=Yes) ?_ fun _ _=>?_) | dsimp only)
 ·repeat' (first | (with_reducible first | exact j7 | exact zW | exact AZ | refine qJ (fun _=>?_) fun _=>?_ | refine cq (fun _=>?_) fun _=>?_ | refine wq (fun _=>?_) fun _=>?_ | refine e9 (fun _=>?_) fun _=>?_) | (with_reducible refine AY ?_ ?_ ?_ <;> (first | assumption | omega | rw [cJ] <;> omega)) | with_reducible refine bj (Dz (by (first | assumption | omega | rw [cJ] <;> omega)) (by (first | assumption | omega | rw [cJ] <;> omega))) (fun _ _=>?_) | (with_reducible refine bj (Q:=Yes) ?_ fun _ _=>?_) | dsimp only)
abbrev okN (s:ByteArray):Prop:=s.size≤9223372036854775807
theorem SX (l:List ByteArray) (h:l.length≤9223372036854775807) (hx:∀ x∈l,okN x):Ok (fY l) Yes:=by
 unfold fY
 refine cq (fun _=>j7) (fun _=>?_)
 refine mZ (Q:=Yes) (aUW l.length (by omega) fun i h1 h2=>?_) (fun _ _=>?_) (fun _ _=>?_)
 ·unfold lX
  repeat' (first | (with_reducible first | exact j7 | exact zW | exact AZ | refine qJ (fun _=>?_) fun _=>?_ | refine cq (fun _=>?_) fun _=>?_ | refine wq (fun _=>?_) fun _=>?_ | refine e9 (fun _=>?_) fun _=>?_) | (with_reducible refine AY ?_ ?_ ?_ <;> (first | assumption | omega | rw [cJ] <;> omega)) | with_reducible refine bj (Dz (by (first | assumption | omega | rw [cJ] <;> omega)) (by (first | assumption | omega | rw [cJ] <;> omega))) (fun _ _=>?_) | (with_reducible refine Ok.yes (q8 _ (hx _ (fw (by assumption)))) <;> (first | assumption | omega | rw [cJ] <;> omega)) | (with_reducible refine bj (Q:=Yes) ?_ fun _ _=>?_) | dsimp only)
 ·repeat' (first | (with_reducible first | exact j7 | exact zW | exact AZ | refine qJ (fun _=>?_) fun _=>?_ | refine cq (fun _=>?_) fun _=>?_ | refine wq (fun _=>?_) fun _=>?_ | refine e9 (fun _=>?_) fun _=>?_) | (with_reducible refine AY ?_ ?_ ?_ <;> (first | assumption | omega | rw [cJ] <;> omega)) | with_reducible refine bj (Dz (by (first | assumption | omega | rw [cJ] <;> omega)) (by (first | assumption | omega | rw [cJ] <;> omega))) (fun _ _=>?_) | (with_reducible refine Ok.yes (q8 _ (hx _ (fw (by assumption)))) <;> (first | assumption | omega | rw [cJ] <;> omega)) | (with_reducible refine bj (Q:=Yes) ?_ fun _ _=>?_) | dsimp only)
 ·repeat' (first | (with_reducible first | exact j7 | exact zW | exact AZ | refine qJ (fun _=>?_) fun _=>?_ | refine cq (fun _=>?_) fun _=>?_ | refine wq (fun _=>?_) fun _=>?_ | refine e9 (fun _=>?_) fun _=>?_) | (with_reducible refine AY ?_ ?_ ?_ <;> (first | assumption | omega | rw [cJ] <;> omega)) | with_reducible refine bj (Dz (by (first | assumption | omega | rw [cJ] <;> omega)) (by (first | assumption | omega | rw [cJ] <;> omega))) (fun _ _=>?_) | (with_reducible refine Ok.yes (q8 _ (hx _ (fw (by assumption)))) <;> (first | assumption | omega | rw [cJ] <;> omega)) | (with_reducible refine bj (Q:=Yes) ?_ fun _ _=>?_) | dsimp only)
theorem W2 (a):Tot (lz a):=by
 unfold lz
 repeat' (first | (with_reducible first | exact j7 | exact zW | exact AZ | refine qJ (fun _=>?_) fun _=>?_ | refine cq (fun _=>?_) fun _=>?_ | refine wq (fun _=>?_) fun _=>?_ | refine e9 (fun _=>?_) fun _=>?_) | (with_reducible refine AY ?_ ?_ ?_ <;> (first | assumption | omega | rw [cJ] <;> omega)) | with_reducible refine bj (Dz (by (first | assumption | omega | rw [cJ] <;> omega)) (by (first | assumption | omega | rw [cJ] <;> omega))) (fun _ _=>?_) | (with_reducible refine bj (Q:=Yes) ?_ fun _ _=>?_) | dsimp only)
theorem adV {κ ν:Type} [DecidableEq κ] (k k':κ) (v:ν):∀ (m:List (κ × ν)),FZ k (akW k' v m) = if k = k' then some v else FZ k m
 | []=>by simp [akW,FZ]
 | p :: r=>by
  simp only [akW]
  by_cases e:k' = p.1
  ·subst e
   simp only [rk,FZ]
   by_cases e2:k = p.1 <;> simp [e2]
  ·rw [if_neg e]
   simp only [FZ]
   rw [adV k k' v r]
   by_cases e2:k = p.1
   ·subst e2
    rw [if_pos rfl,if_pos rfl,if_neg (fun h=>e h.symm)]
   ·rw [if_neg e2,if_neg e2]
theorem aMz {S ρ:Type} {step:S→Option (S ⊕ ρ)} {Q:ρ→Prop} (h:∀ s r,step s = some (.inr r)→Q r) {s:S} {r:ρ} (hr:loop step s = some r):Q r:=by
 have key:∀ n s,iter step n s = some r→Q r:=by
  intro n
  induction n with
  | zero=>intro s h; simp [iter] at h
  | succ n ih =>
   intro s hs
   rw [Rz] at hs
   cases e:step s with
   | none=>rw [e] at hs; simp at hs
   | some x =>
    rw [e] at hs
    cases x with
    | inl s'=>exact ih s' hs
    | inr r'=>simp only [cw] at hs; subst hs; exact h s _ e
 exact key _ s hr
theorem aEK (y:UInt8):m7 (y.toNat:Int) = i9 (y.toNat:Int):=by
 have h:(List.range 256).all (fun n=>decide (m7 (n:Int) = i9 (n:Int))) = true:=by kernel_rfl
 exact of_decide_eq_true (List.all_eq_true.1 h y.toNat (List.mem_range.2 (UInt8.toNat_lt y)))
theorem aCx (s:ByteArray):s = ⟨#[]⟩↔(s.size:Int) < 1:=by
 constructor
 ·intro h; subst h; decide
 ·intro h
  cases s with
  | mk a =>
   have:a.size = 0:=by
    have:(ByteArray.mk a).size = a.size:=rfl
    omega
   rw [Array.eq_empty_of_size_eq_zero this]
theorem azV (s:ByteArray):c6 s = i3 s:=by
 unfold c6 i3
 have h1:lZ s = lq s:=by
  funext i
  simp only [lZ,lq,aEK]
 have h2:decide (s = ⟨#[]⟩) = decide ((ByteArray.size s:Int) < 1):=decide_eq_decide.2 (aCx s)
 rw [h1,h2] <;> rfl
theorem aTq {s:ByteArray} {r:Int} (h:c6 s = some r):r = 0∨r = 3:=by
 unfold c6 at h
 obtain ⟨v,_,h⟩:=bB h
 cases v with
 | true=>simp at h; exact .inr h.symm
 | false =>
  obtain ⟨q,hq,h⟩:=bB (show (loop (lZ s) 0).bind _ = some r from h)
  have:=aMz (Q:=fun q:Unit ⊕ Int=>∀ x,q = .inr x→x = 3) (fun i r hr=>by
   unfold lZ at hr
   by_cases hi:i < (ByteArray.size s:Int)
   ·simp only [hi,decide_true,cond_true] at hr
    obtain ⟨y,_,hr⟩:=bB hr
    obtain ⟨z,_,hr⟩:=bB hr
    cases z
    ·simp only [Bool.not_false,cond_true,cw,Sum.inr.injEq] at hr
     subst hr; intro x hx; cases hx; rfl
    ·simp at hr
   ·simp [hi] at hr; subst hr; intro x hx; cases hx) hq
  cases q with
  | inl _=>simp at h; exact .inl h.symm
  | inr x=>simp at h; subst h; exact .inr (this _ rfl)
theorem aDK (l:List ByteArray):fY l = i7 l:=by
 unfold fY i7
 have h1:lX l = jK l:=by
  funext i
  unfold lX jK
  cases idx l i with
  | none=>rfl
  | some y =>
   simp only [ck,← azV]
   cases e:c6 y with
   | none=>rfl
   | some r =>
    rcases aTq e with rfl | rfl <;> rfl
 rw [h1] <;> rfl
theorem abQ (l:List aK):gV l = kq l:=by
 unfold gV kq
 have h1:l9 l = kj l:=by
  funext i
  unfold l9 kj
  cases e:idx l i with
  | none=>rfl
  | some y =>
   simp only [ck,← aDK]
   rfl
 rw [h1] <;> rfl
theorem ahW:∀ x y:List UInt8,(!(Op.bytesLess x y || decide (x = y))) = Op.bytesLess y x
 | [],[]=>by simp [Op.bytesLess]
 | [],b :: y=>by simp [Op.bytesLess]
 | a :: x,[]=>by simp [Op.bytesLess]
 | a :: x,b :: y=>by
  have ih:=ahW x y
  simp only [Op.bytesLess,List.cons.injEq]
  by_cases h1:a < b
  ·have h2 : ¬ b < a:=UInt8.lt_asymm h1
   have h3 : ¬ a = b:=UInt8.ne_of_lt h1
   have h4 : ¬ b = a:=fun e=>h3 e.symm
   simp [h1,h2,h3,h4]
  ·by_cases h2:a = b
   ·subst h2
    simp [h1,← ih]
   ·have h3:b < a:=by
     rcases UInt8.lt_or_lt_of_ne h2 with h | h
     ·exact absurd h h1
     ·exact h
    have h4 : ¬ b = a:=fun e=>h2 e.symm
    simp [h1,h2,h3]
theorem aMX (a b:ByteArray):a.toList = b.toList↔a = b:=by
 constructor
 ·intro h
  rw [ByteArray.toList_eq,ByteArray.toList_eq] at h
  exact Go.WideShapes.bytes_inj h
 ·intro h; rw [h]
theorem K5 (a b:ByteArray):(!(sLt a b || decide (a = b))) = sLt b a:=by
 unfold sLt
 rw [← ahW a.toList b.toList]
 simp only [aMX]
theorem afj {a b:ByteArray} (h:sLt a b = true):sLt b a = false∧a ≠ b:=by
 have h1:=K5 a b
 have h2:=K5 b a
 rw [h] at h1 h2
 simp at h1 h2
 exact ⟨h1,fun e=>h2.2 e.symm⟩
theorem U1 {σ ρ:Type} {step:σ × Int→Option ((σ × Int) ⊕ ρ)} (n:Nat) (Inv:σ→Nat→Prop) {Post:ρ→Prop} (hn:n≤9223372036854775807) {s0:σ} (h0:Inv s0 0)
  (h:∀ (s:σ) (i:Nat),Inv s i→i≤n→Ok (step (s,(i:Int))) (nQ (fun a=>i < n∧a.2 = ((i + 1:Nat):Int)∧Inv a.1 (i + 1)) Post)):Ok (loop step (s0,0)) Post:=by
 refine aWJ n (fun s i=>Inv s i.toNat) hn h0 (fun s i hI h1 h2=>?_)
 obtain ⟨k,rfl⟩:=Int.eq_ofNat_of_zero_le h1
 refine (h s k hI (by omega)).mono ?_
 rintro (⟨a,b⟩ | b) hr
 ·obtain ⟨h3,h4,h5⟩ : k < n∧b = ((k + 1:Nat):Int)∧Inv a (k + 1):=hr
  refine ⟨by omega,by omega,?_⟩
  rw [show ((k:Int) + 1).toNat = k + 1 by omega]; exact h5
 ·exact hr
theorem DX {ρ:Type} {step:Int→Option (Int ⊕ ρ)} (n:Nat) (Inv:Nat→Prop) {Post:ρ→Prop} (hn:n≤9223372036854775807) (h0:Inv 0)
  (h:∀ i:Nat,Inv i→i≤n→Ok (step (i:Int)) (nQ (fun a=>i < n∧a = ((i + 1:Nat):Int)∧Inv (i + 1)) Post)):Ok (loop step 0) Post:=by
 refine aXX n (fun i=>Inv i.toNat) hn h0 (fun i hI h1 h2=>?_)
 obtain ⟨k,rfl⟩:=Int.eq_ofNat_of_zero_le h1
 refine (h k hI (by omega)).mono ?_
 rintro (b | b) hr
 ·obtain ⟨h3,h4,h5⟩ : k < n∧b = ((k + 1:Nat):Int)∧Inv (k + 1):=hr
  refine ⟨by omega,by omega,?_⟩
  rw [show ((k:Int) + 1).toNat = k + 1 by omega]; exact h5
 ·exact hr
theorem u9 {α:Type} {xs:List α} {i:Nat} (h:i < xs.length):Ok (idx xs (i:Int)) (fun y=>xs[i]? = some y):=by
 rw [iW]; exact ⟨xs[i],by simp [h],by simp [h]⟩
theorem u0 {i n:Nat} (h:i < n) (hn:n≤9223372036854775807):w64 ((i:Int) + 1) = ((i + 1:Nat):Int):=by rw [cJ (by omega)]; omega
def dV (f:Nat→Int):Nat→Int
 | 0=>0
 | n + 1=>dV f n + f n
theorem g7 {f g:Nat→Int}:∀ {n:Nat},(∀ k,k < n→f k = g k)→dV f n = dV g n
 | 0,_=>rfl
 | n + 1,h=>by simp only [dV]; rw [g7 fun k hk=>h k (by omega),h n (by omega)]
theorem I5 (f g:Nat→Int):∀ n,dV (fun k=>f k + g k) n = dV f n + dV g n
 | 0=>rfl
 | n + 1=>by simp only [dV,I5 f g n]; omega
theorem uW:∀ n,dV (fun _=>0) n = 0
 | 0=>rfl
 | n + 1=>by simp only [dV,uW n]; rfl
theorem acJ (g:Nat→Nat→Int) (m:Nat):∀ n,dV (fun i=>dV (fun k=>g i k) m) n = dV (fun k=>dV (fun i=>g i k) n) m
 | 0=>by simp only [dV,uW]
 | n + 1=>by
  simp only [dV]
  rw [acJ g m n,← I5]
theorem JX (j:Nat) (c:Int):∀ n,dV (fun i=>if i = j then c else 0) n = if j < n then c else 0
 | 0=>by simp [dV]
 | n + 1=>by
  simp only [dV,JX j c n]
  by_cases h1:j < n
  ·have h2 : ¬ n = j:=by omega
   have h3:j < n + 1:=by omega
   simp [h1,h2,h3]
  ·by_cases h2:n = j
   ·subst h2; simp
   ·have h3 : ¬ j < n + 1:=by omega
    simp [h1,h2,h3]
theorem KW {f:Nat→Int} {c:Int}:∀ {n:Nat},(∀ k,k < n→0≤f k∧f k≤c)→0≤dV f n∧dV f n≤n * c
 | 0,_=>by simp [dV]
 | n + 1,h=>by
  obtain ⟨h1,h2⟩:=KW (f:=f) (c:=c) (n:=n) fun k hk=>h k (by omega)
  obtain ⟨h3,h4⟩:=h n (by omega)
  simp only [dV]
  refine ⟨by omega,?_⟩
  have:((n + 1:Nat):Int) * c = n * c + c:=by rw [Int.natCast_add,Int.add_mul]; simp
  omega
inductive DescN (l:List ax) (j:Int):Int→Prop
 | self:DescN l j j
 | up {a:Nat} {y:ax}:l[a]? = some y→DescN l j y.fParent→DescN l j (a:Int)
theorem DescN.inv {l:List ax} {j a:Int} (h:DescN l j a):j = a∨∃ (k:Nat) (y:ax),a = (k:Int)∧l[k]? = some y∧DescN l j y.fParent:=by
 cases h with
 | self=>exact .inl rfl
 | up hy h=>exact .inr ⟨_,_,rfl,hy,h⟩
theorem DescN.step {l:List ax} {j:Int} {a:Nat} {y:ax} (hy:l[a]? = some y) (hne:j ≠ a):DescN l j (a:Int)↔DescN l j y.fParent:=by
 constructor
 ·intro h
  rcases h.inv with e | ⟨k,z,e,hz,h⟩
  ·exact absurd e hne
  ·have:k = a:=by omega
   subst this
   rw [hy] at hz; cases hz
   exact h
 ·exact .up hy
def UpN (l:List ax) (n:Nat):Prop:=∀ (j:Nat) y,j < n→l[j]? = some y→-1≤y.fParent∧y.fParent < (j:Int)
theorem DescN.le {l:List ax} {n:Nat} (hu:UpN l n) {j a:Int} (h:DescN l j a):a < n→j≤a:=by
 induction h with
 | self=>intro _; omega
 | @up a y hy _ ih =>
  intro ha
  have:=hu a y (by omega) hy
  have:=ih (by omega)
  omega
theorem DescN.out {l:List ax} {j a:Int} (h:DescN l j a) (ha:a < 0):j = a:=by
 rcases h.inv with e | ⟨k,z,e,_,_⟩
 ·exact e
 ·omega
def XZ (l:List ax) (i:Nat) (y:ax):Prop:=y.fParent = -1∨(0≤y.fParent∧DescN l y.fParent ((i:Int) - 1))
theorem aSQ {l:List ax} {i:Nat} (hi:i < l.length) (hl:l.length≤2000) (hu:UpN l i) (y:ax):Ok (loop (vZ l y) ((i:Int) - 1)) (fun e=>y.fParent = e↔XZ l i y):=by
 refine rW (fun s:Int=>-1≤s∧s < i∧(0≤y.fParent→(DescN l y.fParent s↔DescN l y.fParent ((i:Int) - 1)))) (fun s:Int=>(s + 1).toNat) (fun s hs=>?_) ⟨by omega,by omega,fun _=>Iff.rfl⟩ (by simp [gq]; omega)
 obtain ⟨h1,h2,h3⟩:=hs
 unfold vZ
 refine bj (Q:=fun v=>v = true↔0≤s∧s ≠ y.fParent) ?_ (fun v hv=>?_)
 ·by_cases g1:0≤s <;> by_cases g2:s = y.fParent <;> simp [g1,g2,Ok]
 refine e9 (fun e=>?_) (fun e=>dZ ?_)
 ·obtain ⟨g1,g2⟩:=hv.1 e
  obtain ⟨k,rfl⟩:=Int.eq_ofNat_of_zero_le g1
  refine bj (u9 (by omega)) (fun z hz=>?_)
  have:=hu k z (by omega) hz
  exact j8 ⟨⟨by omega,by omega,fun h0=>(DescN.step hz (fun e=>g2 e.symm)).symm.trans (h3 h0)⟩,by omega⟩
 ·have hn : ¬ (0≤s∧s ≠ y.fParent):=fun h=>by have:=hv.2 h; rw [e] at this; simp at this
  by_cases g1:0≤s
  ·have g2:s = y.fParent:=Decidable.byContradiction fun h=>hn ⟨g1,h⟩
   subst g2
   exact ⟨fun _=>.inr ⟨g1,(h3 g1).1 .self⟩,fun _=>rfl⟩
  ·have e1:s = -1:=by omega
   subst e1
   constructor
   ·intro h; exact .inl h
   ·rintro (h | ⟨h0,hd⟩)
    ·exact h
    ·have:=((h3 h0).2 hd).out (by omega); exact this
theorem aDX {l:List ax} {i:Nat} (hi:i < l.length) (hl:l.length≤2000) (hu:UpN l i) (a:Int) (ha:0≤a):Ok (j1 l a ((i:Int) - 1)) (fun b=>b = true↔DescN l a ((i:Int) - 1)):=by
 unfold j1
 refine bj (Q:=fun e=>e = a↔DescN l a ((i:Int) - 1)) (rW (fun s:Int=>-1≤s∧s < i∧(DescN l a s↔DescN l a ((i:Int) - 1))) (fun s:Int=>(s + 1).toNat) (fun s hs=>?_) ⟨by omega,by omega,Iff.rfl⟩ (by simp [gq]; omega)) (fun e he=>a7 (by rw [vw]; exact he))
 obtain ⟨h1,h2,h3⟩:=hs
 unfold nK
 refine bj (Q:=fun v=>v = true↔0≤s∧s ≠ a) ?_ (fun v hv=>?_)
 ·by_cases g1:0≤s <;> by_cases g2:s = a <;> simp [g1,g2,Ok]
 refine e9 (fun e=>?_) (fun e=>dZ ?_)
 ·obtain ⟨g1,g2⟩:=hv.1 e
  obtain ⟨k,rfl⟩:=Int.eq_ofNat_of_zero_le g1
  refine bj (u9 (by omega)) (fun z hz=>?_)
  have:=hu k z (by omega) hz
  exact j8 ⟨⟨by omega,by omega,(DescN.step hz (fun e=>g2 e.symm)).symm.trans h3⟩,by omega⟩
 ·have hn : ¬ (0≤s∧s ≠ a):=fun h=>by have:=hv.2 h; rw [e] at this; simp at this
  by_cases g1:0≤s
  ·have g2:s = a:=Decidable.byContradiction fun h=>hn ⟨g1,h⟩
   subst g2
   exact ⟨fun _=>h3.1 .self,fun _=>rfl⟩
  ·exact ⟨fun h=>by omega,fun hd=>by have:=(h3.2 hd).out (by omega); omega⟩
def wW (l:List ax) (p:Int):Nat→Option ByteArray
 | 0=>none
 | n + 1=>match l[n]? with
  | some z=>if z.fParent = p then some z.fName else wW l p n
  | none=>wW l p n
def aqK (l:List ax) (i:Nat) (y:ax):Prop:=∃ s,wW l y.fParent i = some s∧sLt s y.fName = false
def NodeR (l:List ax) (i:Nat) (y:ax) (c:Int):Prop:=(c = 10∧¬ XZ l i y)∨(c = 11∧XZ l i y∧aqK l i y)∨(c = 0∧XZ l i y∧¬ aqK l i y)
def FormsV (l:List ax) (v:Int):Prop:=(v = 0∧∀ (i:Nat) y,l[i]? = some y→NodeR l i y 0)∨(v ≠ 0∧∃ (j:Nat) (y:ax),l[j]? = some y∧(∀ (k:Nat) z,k < j→l[k]? = some z→NodeR l k z 0)∧NodeR l j y v)
theorem NodeR.det {l:List ax} {i:Nat} {y:ax} {c d:Int} (h:NodeR l i y c) (h':NodeR l i y d):c = d:=by
 rcases h with ⟨rfl,h1⟩ | ⟨rfl,h1,h2⟩ | ⟨rfl,h1,h2⟩ <;> rcases h' with ⟨rfl,g1⟩ | ⟨rfl,g1,g2⟩ | ⟨rfl,g1,g2⟩ <;> first | rfl | exact absurd h1 g1 | exact absurd g1 h1 | exact absurd h2 g2 | exact absurd g2 h2
theorem FormsV.det {l:List ax} {v w:Int} (h:FormsV l v) (h':FormsV l w):v = w:=by
 rcases h with ⟨rfl,h1⟩ | ⟨h0,j,y,hy,h1,h2⟩ <;> rcases h' with ⟨rfl,g1⟩ | ⟨g0,k,z,hz,g1,g2⟩
 ·rfl
 ·exact (h1 k z hz).det g2
 ·exact h2.det (g1 j y hy)
 ·rcases Nat.lt_trichotomy j k with e | e | e
  ·exact absurd (h2.det (g1 j y e hy)) h0
  ·subst e; rw [hy] at hz; cases hz; exact h2.det g2
  ·exact absurd (g2.det (h1 k z e hz)) g0
theorem UpN.of {l:List ax} {n:Nat} (h:∀ (k:Nat) z,k < n→l[k]? = some z→NodeR l k z 0):UpN l n:=by
 intro j
 induction j using Nat.strongRecOn with
 | _ j ih =>
  intro y hj hy
  have hu:UpN l j:=fun k z hk hz=>ih k hk z (by omega) hz
  have hp:XZ l j y:=by
   rcases h j y hj hy with ⟨e,_⟩ | ⟨e,_⟩ | ⟨_,h1,_⟩
   ·omega
   ·omega
   ·exact h1
  rcases hp with e | ⟨e,hd⟩
  ·omega
  ·have:=hd.le hu (by omega)
   omega
theorem aRV (l:List ax) (hl:l.length≤2000):Ok (x9 l) (FormsV l):=by
 unfold x9
 refine mZ (Q:=nQ (fun _=>∀ (k:Nat) z,k < l.length→l[k]? = some z→NodeR l k z 0) (fun v=>v ≠ 0∧∃ (j:Nat) (y:ax),l[j]? = some y∧(∀ (k:Nat) z,k < j→l[k]? = some z→NodeR l k z 0)∧NodeR l j y v)) (U1 l.length (fun (m:List (Int × ByteArray)) n=>(∀ p,FZ p m = wW l p n)∧∀ (k:Nat) z,k < n→l[k]? = some z→NodeR l k z 0) (by omega) ⟨fun p=>rfl,fun k z hk=>by omega⟩ (fun m i hI h2=>?_)) (fun _ hq=>a7 (.inl ⟨rfl,fun i y hy=>hq i y (dj hy) hy⟩)) (fun r hr=>a7 (.inr hr))
 obtain ⟨hm,hN⟩:=hI
 unfold B5
 dsimp only
 refine cq (fun hi=>?_) (fun hi=>dZ (fun k z hk hz=>hN k z (by omega) hz))
 refine bj (u9 (by omega)) (fun y hy=>?_)
 rw [show w64 ((i:Int) - 1) = (i:Int) - 1 from cJ (by omega)]
 refine bj (aSQ (by omega) hl (UpN.of hN) y) (fun e he=>?_)
 refine qJ (fun hne=>dZ ⟨by omega,i,y,hy,hN,.inl ⟨rfl,fun hp=>hne (he.2 hp)⟩⟩) (fun heq=>?_)
 have hp:=he.1 heq
 refine bj (Q:=fun v=>v = true↔aqK l i y) ?_ (fun v hv=>?_)
 ·rw [hm]
  unfold aqK
  cases hL:wW l y.fParent i with
  | none=>exact a7 ⟨fun h=>by simp at h,fun ⟨s,h,_⟩=>by simp at h⟩
  | some s =>
   simp only [Option.isSome_some,cond_true,Option.getD_some]
   refine a7 ?_
   have ht:=K5 y.fName s
   constructor
   ·intro h
    refine ⟨s,rfl,?_⟩
    rw [← ht,h]; rfl
   ·rintro ⟨s',e,h⟩
    cases e
    rw [← ht] at h
    cases hb:(sLt y.fName s || decide (y.fName = s)) with
    | true=>rfl
    | false=>rw [hb] at h; simp at h
 refine e9 (fun e=>dZ ⟨by omega,i,y,hy,hN,.inr (.inl ⟨rfl,hp,hv.1 e⟩)⟩) (fun e=>?_)
 rw [u0 (n:=l.length) (by omega) (by omega)]
 refine j8 ⟨by omega,rfl,fun p=>?_,fun k z hk hz=>?_⟩
 ·simp only
  rw [adV]
  simp only [wW,hy,hm]
  by_cases e:y.fParent = p
  ·simp [e]
  ·have : ¬ p = y.fParent:=fun h=>e h.symm
   simp [e,this]
 ·by_cases e2:k = i
  ·subst e2; rw [hy] at hz; cases hz
   exact .inr (.inr ⟨rfl,hp,fun h=>by rw [hv.2 h] at e; simp at e⟩)
  ·exact hN k z (by omega) hz
theorem aQV (l:List ax) (hl:l.length≤2000):Ok (j3 l) (FormsV l):=by
 unfold j3
 refine mZ (Q:=nQ (fun _=>∀ (k:Nat) z,k < l.length→l[k]? = some z→NodeR l k z 0) (fun v=>v ≠ 0∧∃ (j:Nat) (y:ax),l[j]? = some y∧(∀ (k:Nat) z,k < j→l[k]? = some z→NodeR l k z 0)∧NodeR l j y v)) (DX l.length (fun n=>∀ (k:Nat) z,k < n→l[k]? = some z→NodeR l k z 0) (by omega) (fun k z hk=>by omega) (fun i hN h2=>?_)) (fun _ hq=>a7 (.inl ⟨rfl,fun i y hy=>hq i y (dj hy) hy⟩)) (fun r hr=>a7 (.inr hr))
 unfold n6
 refine cq (fun hi=>?_) (fun hi=>dZ (fun k z hk hz=>hN k z (by omega) hz))
 refine bj (u9 (by omega)) (fun y hy=>?_)
 have hu:=UpN.of hN
 rw [show w64 ((i:Int) - 1) = (i:Int) - 1 from cJ (by omega)]
 refine bj (Q:=fun v=>v = false↔XZ l i y) ?_ (fun v hv=>?_)
 ·refine cq (fun g=>a7 ?_) (fun g1=>?_)
  ·refine ⟨fun h=>by simp at h,fun h=>?_⟩
   rcases h with h | h <;> omega
  refine cq (fun g=>a7 ?_) (fun g2=>?_)
  ·refine ⟨fun h=>by simp at h,fun h=>?_⟩
   rcases h with h | ⟨h,hd⟩
   ·omega
   ·have:=hd.le hu (by omega); omega
  refine cq (fun g3=>?_) (fun g3=>a7 ⟨fun _=>.inl (by omega),fun _=>rfl⟩)
  refine bj (aDX (by omega) hl hu y.fParent g3) (fun b hb=>a7 ?_)
  constructor
  ·intro h
   exact .inr ⟨g3,hb.1 (by simpa using h)⟩
  ·rintro (h | ⟨_,hd⟩)
   ·omega
   ·simpa using hb.2 hd
 refine e9 (fun e=>dZ ⟨by omega,i,y,hy,hN,.inl ⟨rfl,fun hp=>by rw [hv.2 hp] at e; simp at e⟩⟩) (fun e=>?_)
 have hp:=hv.1 e
 refine bj (Q:=fun e:Int=>-1≤e∧e < i∧((e = -1∧wW l y.fParent i = none)∨∃ (k:Nat) (z:ax),e = (k:Int)∧l[k]? = some z∧wW l y.fParent i = some z.fName)) (rW (fun s:Int=>-1≤s∧s < i∧wW l y.fParent i = wW l y.fParent (s + 1).toNat) (fun s:Int=>(s + 1).toNat) (fun s hs=>?_) ⟨by omega,by omega,by rw [show ((i:Int) - 1 + 1).toNat = i by omega]⟩ (by simp [gq]; omega)) (fun q hq=>?_)
 ·obtain ⟨k1,k2,k3⟩:=hs
  unfold ox
  by_cases k0:0≤s
  ·obtain ⟨k,rfl⟩:=Int.eq_ofNat_of_zero_le k0
   simp only [k0,decide_true,cond_true]
   obtain ⟨z,hz⟩ : ∃ z,l[k]? = some z:=⟨l[k]'(by omega),bk (by omega)⟩
   rw [iW,hz]
   simp only [ck]
   have hk3:wW l y.fParent i = if z.fParent = y.fParent then some z.fName else wW l y.fParent k:=by
    rw [k3,show ((k:Int) + 1).toNat = k + 1 by omega]
    simp only [wW,hz]
   by_cases hq:z.fParent = y.fParent
   ·simp only [hq,decide_true,Bool.not_true,cond_false]
    exact dZ ⟨by omega,by omega,.inr ⟨k,z,rfl,hz,by rw [hk3,if_pos hq]⟩⟩
   ·simp only [hq,decide_false,Bool.not_false,cond_true]
    rw [show w64 ((k:Int) - 1) = (k:Int) - 1 from cJ (by omega)]
    exact j8 ⟨⟨by omega,by omega,by rw [hk3,if_neg hq]; congr 1; omega⟩,by omega⟩
  ·simp only [k0,decide_false,cond_false,ck]
   have:s = -1:=by omega
   subst this
   exact dZ ⟨by omega,by omega,.inl ⟨rfl,by rw [k3]; rfl⟩⟩
 obtain ⟨q1,q2,q3⟩:=hq
 refine bj (Q:=fun v=>v = true↔aqK l i y) ?_ (fun v hv=>?_)
 ·unfold aqK
  rcases q3 with ⟨rfl,hL⟩ | ⟨k,z,rfl,hz,hL⟩
  ·rw [hL]
   exact a7 ⟨fun h=>by simp at h,fun ⟨s,h,_⟩=>by simp at h⟩
  ·rw [hL]
   have k0:(0:Int)≤(k:Int):=by omega
   simp only [k0,decide_true,cond_true]
   rw [iW,hz,iW,hy]
   simp only [ck]
   refine a7 ⟨fun h=>⟨_,rfl,by simpa using h⟩,fun ⟨s,e,h⟩=>?_⟩
   cases e
   simp [h]
 refine e9 (fun e=>dZ ⟨by omega,i,y,hy,hN,.inr (.inl ⟨rfl,hp,hv.1 e⟩)⟩) (fun e=>?_)
 rw [u0 (n:=l.length) (by omega) (by omega)]
 refine j8 ⟨by omega,rfl,fun k z hk hz=>?_⟩
 by_cases e2:k = i
 ·subst e2; rw [hy] at hz; cases hz
  exact .inr (.inr ⟨rfl,hp,fun h=>by rw [hv.2 h] at e; simp at e⟩)
 ·exact hN k z (by omega) hz
def qj (l:List ax) (k:Nat):Int := match l[k]? with | some y => y.fSelf | none => 0
def Ux (l:List ax) (k:Nat):Int := match l[k]? with | some y => y.fCount | none => 0
theorem q5 {l:List ax} {k:Nat} {y:ax} (h:l[k]? = some y):qj l k = y.fSelf:=by simp [qj,h]
theorem U8 {l:List ax} {k:Nat} {y:ax} (h:l[k]? = some y):Ux l k = y.fCount:=by simp [Ux,h]
def adJ (y:ax):Prop:=c6 y.fName = some 0∧0≤y.fSelf∧y.fSelf≤100000000000000∧0≤y.fCount∧y.fCount≤20000∧(y.fCount = 0→y.fSelf = 0)
structure L4 (l:List ax):Prop where
 num:∀ (k:Nat) y,l[k]? = some y→adJ y
 self:dV (qj l) l.length≤100000000000000
 cnt:dV (Ux l) l.length≤20000
theorem aoJ (l:List ax) (hl:l.length≤2000) (hn:∀ x∈l,okN x.fName):Ok (k9 l) (fun r=>r = 0↔L4 l):=by
 unfold k9
 refine mZ (Q:=nQ (fun e=>(∀ (k:Nat) y,l[k]? = some y→adJ y)∧e.1 = dV (qj l) l.length∧e.2 = dV (Ux l) l.length) (fun r=>r ≠ 0∧¬ L4 l)) (rW (fun s:Int × Int × Int=>∃ n:Nat,s.2.2 = (n:Int)∧n≤l.length∧(∀ (k:Nat) y,k < n→l[k]? = some y→adJ y)∧s.1 = dV (qj l) n∧s.2.1 = dV (Ux l) n) (fun s=>((l.length:Int) - s.2.2).toNat) (fun s hs=>?_) ⟨0,rfl,by omega,fun k y h=>by omega,rfl,rfl⟩ (by simp [gq]; omega)) (fun e he=>?_) (fun r hr=>a7 ⟨fun e=>absurd e hr.1,fun g=>absurd g hr.2⟩)
 ·obtain ⟨a,b,c⟩:=s
  obtain ⟨n,h1,h2,h3,h4,h5⟩:=hs
  simp only at h1 h4 h5
  subst h1
  unfold l8
  dsimp only
  have hb1:=KW (f:=qj l) (c:=100000000000000) (n:=n) (fun k hk=>by
   obtain ⟨y,hy⟩ : ∃ y,l[k]? = some y:=⟨l[k]'(by omega),bk (by omega)⟩
   have:=h3 k y hk hy
   rw [q5 hy]; exact ⟨this.2.1,this.2.2.1⟩)
  have hb2:=KW (f:=Ux l) (c:=20000) (n:=n) (fun k hk=>by
   obtain ⟨y,hy⟩ : ∃ y,l[k]? = some y:=⟨l[k]'(by omega),bk (by omega)⟩
   have:=h3 k y hk hy
   rw [U8 hy]; exact ⟨this.2.2.2.1,this.2.2.2.2.1⟩)
  refine cq (fun hi=>?_) (fun hi=>?_)
  ·refine bj (u9 (by omega)) (fun y hy=>?_)
   obtain ⟨r,hr,_⟩:=q8 y.fName (hn y (fw hy))
   rw [hr,ck]
   refine qJ (fun h0=>dZ ⟨h0,fun g=>?_⟩) (fun h0=>?_)
   ·have:=(g.num n y hy).1
    rw [hr] at this; exact h0 (Option.some.inj this)
   subst h0
   refine bj (Q:=fun v=>v = false↔adJ y) ?_ (fun v hv=>?_)
   ·unfold adJ
    by_cases g1:y.fSelf < 0 <;> by_cases g2:100000000000000 < y.fSelf <;> by_cases g3:y.fCount < 0 <;> by_cases g4:20000 < y.fCount <;> by_cases g5:y.fCount = 0 <;> by_cases g6:y.fSelf = 0 <;> simp [g1,g2,g3,g4,g5,g6,Ok,hr] <;> omega
   refine e9 (fun e=>dZ ⟨show (2:Int) ≠ 0 by omega,fun g=>by rw [hv.2 (g.num n y hy)] at e; simp at e⟩) (fun e=>?_)
   have hN:=hv.1 e
   obtain ⟨_,k1,k2,k3,k4,_⟩:=hN
   rw [cJ (by omega),cJ (by omega),cJ (by omega)]
   refine j8 ⟨⟨n + 1,by simp only; omega,by omega,fun k z hk hz=>?_,?_,?_⟩,by simp only; omega⟩
   ·by_cases e2:k = n
    ·subst e2; rw [hy] at hz; cases hz; exact hv.1 e
    ·exact h3 k z (by omega) hz
   ·simp only [dV,q5 hy]; omega
   ·simp only [dV,U8 hy]; omega
  ·have:n = l.length:=by omega
   subst this
   exact dZ ⟨fun k y hy=>h3 k y (dj hy) hy,h4,h5⟩
 ·obtain ⟨e1,e2⟩:=e
  obtain ⟨h1,h2,h3⟩:=he
  simp only at h2 h3
  subst h2; subst h3
  dsimp only
  refine bj (Q:=fun v=>v = false↔L4 l) ?_ (fun v hv=>?_)
  ·refine cq (fun g=>a7 ⟨fun h=>by simp at h,fun h=>by have:=h.self; omega⟩) (fun g=>a7 ⟨fun h=>⟨h1,by omega,by have:=of_decide_eq_false h; omega⟩,fun h=>decide_eq_false (by have:=h.cnt; omega)⟩)
  refine e9 (fun e=>a7 ⟨fun h=>by omega,fun g=>by rw [hv.2 g] at e; simp at e⟩) (fun e=>a7 ⟨fun _=>hv.1 e,fun _=>rfl⟩)
theorem aDz (l:List ax):k9 l = jz l:=by
 unfold k9 jz
 have:l8 l = jW l:=by
  funext s
  obtain ⟨a,b,c⟩:=s
  unfold l8 jW
  simp only [← azV]
 rw [this]
def gZ (l:List ax) (j m:Nat):Bool := match l[m]? with | some z => decide (z.fParent = (j:Int)) | none => false
def alV (l:List ax) (g:Nat→Int) (n j:Nat):Int:=dV (fun m=>if n≤m∧gZ l j m = true then g m else 0) l.length
def tg (t:List Int) (j:Nat):Int:=(t[j]?).getD 0
def S1 (l:List ax) (j:Nat):Prop:=∀ z,l[j + 1]? = some z→z.fParent ≠ (j:Int)
structure aBj (l:List ax) (t:List Int) (lf:List Bool) (n:Nat):Prop where
 tl:t.length = l.length
 ll:lf.length = l.length
 sum:∀ j,j < l.length→tg t j = (if n≤j then qj l j else 0) + alV l (tg t) n j
 pos:∀ j,0≤tg t j
 pend:dV (tg t) n + dV (qj l) n≤dV (qj l) l.length
 bd:∀ j,tg t j≤100000000000000
 leaf:∀ j b,n≤j→lf[j]? = some b→(b = true↔S1 l j)
theorem WJ (t:List Int) (i j:Nat) (v:Int) (hi:i < t.length):tg (t.set i v) j = if j = i then v else tg t j:=by
 unfold tg
 rw [List.getElem?_set]
 by_cases e:i = j
 ·subst e; simp [hi]
 ·have : ¬ j = i:=fun h=>e h.symm
  simp [e,this]
theorem aJx {l:List ax} (hu:UpN l l.length) {j m:Nat} (h:gZ l j m = true):j < m∧m < l.length:=by
 unfold gZ at h
 split at h
 ·rename_i z hz
  have:=hu m z (dj hz) hz
  have h2:=of_decide_eq_true h
  exact ⟨by omega,dj hz⟩
 ·simp at h
theorem ayQ {f:Nat→Int} (hf:∀ k,0≤f k):∀ {n j:Nat},j < n→f j≤dV f n
 | 0,j,h=>by omega
 | n + 1,j,h=>by
  simp only [dV]
  have h0:0≤dV f n:=by
   have:∀ n,0≤dV f n:=by
    intro n
    induction n with
    | zero=>simp [dV]
    | succ n ih=>have:=hf n; simp only [dV]; omega
   exact this n
  by_cases e:j = n
  ·subst e; omega
  ·have:=ayQ hf (n:=n) (j:=j) (by omega)
   have:=hf n
   omega
theorem aCW {l:List ax} (hl:l.length≤2000) (hg:L4 l) (hu:UpN l l.length) {t:List Int} {lf:List Bool} {a:Nat} {y:ax} (hy:l[a]? = some y) (H:aBj l t lf (a + 1)) {b:Bool} (hb:b = true↔S1 l a)
  {t':List Int} (ht:t'.length = l.length) (h1:∀ j,tg t' j = if j = a then tg t a + y.fSelf else if (j:Int) = y.fParent then tg t j + (tg t a + y.fSelf) else tg t j):aBj l t' (lf.set a b) a:=by
 have hal:=dj hy
 obtain ⟨_,s0,s1,_,_,_⟩:=hg.num a y hy
 have hp:=hu a y hal hy
 have hself:qj l a = y.fSelf:=q5 hy
 have hta:=H.pos a
 have hT:tg t a + y.fSelf≤100000000000000:=by
  have h2:=H.pend
  simp only [dV] at h2
  have h3:0≤dV (tg t) a:=by
   have:∀ n,0≤dV (tg t) n:=by
    intro n
    induction n with
    | zero=>simp [dV]
    | succ n ih=>have:=H.pos n; simp only [dV]; omega
   exact this a
  have h4:0≤dV (qj l) a:=by
   refine (KW (c:=100000000000000) (fun k hk=>?_)).1
   obtain ⟨z,hz⟩ : ∃ z,l[k]? = some z:=⟨l[k]'(by omega),bk (by omega)⟩
   have:=hg.num k z hz
   rw [q5 hz]; exact ⟨this.2.1,this.2.2.1⟩
  have:=hg.self
  omega
 have hk:∀ j,j < l.length→alV l (tg t') a j = alV l (tg t) (a + 1) j + if (j:Int) = y.fParent then tg t a + y.fSelf else 0:=by
  intro j hj
  unfold alV
  have:∀ m,(if a≤m∧gZ l j m = true then tg t' m else 0) = (if a + 1≤m∧gZ l j m = true then tg t m else 0) + if m = a then (if (j:Int) = y.fParent then tg t a + y.fSelf else 0) else 0:=by
   intro m
   by_cases e:m = a
   ·subst e
    have n1 : ¬ m + 1≤m:=by omega
    have hkid:gZ l j m = decide (y.fParent = (j:Int)):=by unfold gZ; rw [hy]
    rw [hkid,h1 m]
    by_cases e2:y.fParent = (j:Int)
    ·simp [n1,e2]
    ·have e3 : ¬ (j:Int) = y.fParent:=fun h=>e2 h.symm
     simp [n1,e2,e3]
   ·have n1:(a≤m)↔(a + 1≤m):=by omega
    simp only [n1,e,mw,Int.add_zero]
    by_cases c:a + 1≤m∧gZ l j m = true
    ·rw [if_pos c,if_pos c,h1 m,if_neg e]
     have : ¬ (m:Int) = y.fParent:=by omega
     rw [if_neg this]
    ·rw [if_neg c,if_neg c]
  rw [g7 (fun m _=>this m),I5,JX]
  simp [hal]
 refine ⟨ht,by simp [H.ll],fun j hj=>?_,fun j=>?_,?_,fun j=>?_,fun j c hj hc=>?_⟩
 ·rw [hk j hj,h1 j]
  have hs:=H.sum j hj
  by_cases e:j = a
  ·subst e
   have n1 : ¬ j + 1≤j:=by omega
   have n2 : ¬ (j:Int) = y.fParent:=by omega
   rw [if_neg n1] at hs
   simp only [n2,rk,mw,gk,hself]
   omega
  ·rw [if_neg e]
   by_cases e2:(j:Int) = y.fParent
   ·have n1 : ¬ a≤j:=by omega
    have n2 : ¬ a + 1≤j:=by omega
    rw [if_neg n2] at hs
    simp only [e2,rk,n1,mw]
    omega
   ·have n1:(a + 1≤j)↔(a≤j):=by omega
    simp only [n1] at hs
    simp only [e2,mw]
    omega
 ·rw [h1 j]
  have:=H.pos j
  split
  ·omega
  ·split <;> omega
 ·have h2:=H.pend
  simp only [dV,hself] at h2
  have:dV (tg t') a = dV (tg t) a + (if 0≤y.fParent then tg t a + y.fSelf else 0):=by
   by_cases e:0≤y.fParent
   ·obtain ⟨p,hpe⟩:=Int.eq_ofNat_of_zero_le e
    have key:∀ n,n≤a→dV (tg t') n = dV (tg t) n + if p < n then tg t a + y.fSelf else 0:=by
     intro n hn
     have hc:dV (tg t') n = dV (fun k=>tg t k + if k = p then tg t a + y.fSelf else 0) n:=g7 fun k hk=>by
      rw [h1 k,if_neg (by omega)]
      by_cases e2:k = p
      ·subst e2
       simp [hpe]
      ·have : ¬ (k:Int) = y.fParent:=by omega
       simp [this,e2]
     rw [hc,I5,JX]
    rw [key a (gk _),if_pos (by omega),if_pos e]
   ·rw [if_neg e]
    rw [g7 (g:=tg t) (fun k hk=>?_)]
    ·omega
    ·rw [h1 k,if_neg (by omega),if_neg (by omega)]
  rw [this]
  split <;> omega
 ·rw [h1 j]
  have hbd:=H.bd j
  split
  ·omega
  ·split
   ·rename_i e1 e2
    have h2:=H.pend
    simp only [dV,hself] at h2
    have h3:=ayQ H.pos (n:=a) (j:=j) (by omega)
    have h4:0≤dV (qj l) a:=by
     refine (KW (c:=100000000000000) (fun k hk=>?_)).1
     obtain ⟨z,hz⟩ : ∃ z,l[k]? = some z:=⟨l[k]'(by omega),bk (by omega)⟩
     have:=hg.num k z hz
     rw [q5 hz]; exact ⟨this.2.1,this.2.2.1⟩
    have:=hg.self
    omega
   ·exact hbd
 ·rw [List.getElem?_set] at hc
  by_cases e:a = j
  ·subst e
   simp [H.ll,hal] at hc
   subst hc
   exact hb
  ·rw [if_neg e] at hc
   exact H.leaf j c (by omega) hc
theorem agj {t:List Int} {i:Nat} (h:i < t.length):idx t (i:Int) = some (tg t i):=by
 rw [iW,bk h]
 simp [tg,h]
theorem axW (l:List ax) (hl:l.length≤2000) (hg:L4 l) (hu:UpN l l.length) :
  Ok (loop (wj l) ((List.replicate (Int.toNat (List.length l:Int)) 0),(List.replicate (Int.toNat (List.length l:Int)) false),(w64 ((List.length l:Int) - 1)))) (fun e=>aBj l e.1 e.2 0):=by
 rw [show w64 ((l.length:Int) - 1) = (l.length:Int) - 1 from cJ (by omega)]
 have hself0:0≤dV (qj l) l.length:=by
  refine (KW (c:=100000000000000) (fun k hk=>?_)).1
  obtain ⟨z,hz⟩ : ∃ z,l[k]? = some z:=⟨l[k]'(by omega),bk (by omega)⟩
  have:=hg.num k z hz
  rw [q5 hz]; exact ⟨this.2.1,this.2.2.1⟩
 have tz:∀ j,tg (List.replicate (Int.toNat (List.length l:Int)) 0) j = 0:=by
  intro j
  unfold tg
  rw [List.getElem?_replicate]
  split <;> rfl
 refine rW (fun s:List Int × List Bool × Int=>-1≤s.2.2∧s.2.2 < l.length∧aBj l s.1 s.2.1 (s.2.2 + 1).toNat) (fun s=>(s.2.2 + 1).toNat) (fun s hs=>?_) ⟨by simp only; omega,by simp only; omega,?_⟩ (by simp [gq]; omega)
 ·obtain ⟨t,lf,i⟩:=s
  obtain ⟨h1,h2,H⟩:=hs
  simp only at h1 h2 H
  unfold wj
  dsimp only
  refine cq (fun h0=>?_) (fun h0=>dZ ?_)
  ·obtain ⟨a,rfl⟩:=Int.eq_ofNat_of_zero_le h0
   have ha:a < l.length:=by omega
   obtain ⟨y,hy⟩ : ∃ y,l[a]? = some y:=⟨l[a]'ha,bk ha⟩
   rw [show ((a:Int) + 1).toNat = a + 1 by omega] at H
   have hat:a < t.length:=by rw [H.tl]; exact ha
   have hal:a < lf.length:=by rw [H.ll]; exact ha
   obtain ⟨_,s0,s1,_,_,_⟩:=hg.num a y hy
   have hp:=hu a y ha hy
   have hpos:=H.pos a
   have hbd:=H.bd a
   have ey:idx l (a:Int) = some y:=by rw [iW,hy]
   have ew:w64 (tg t a + y.fSelf) = tg t a + y.fSelf:=cJ (by omega)
   rw [agj hat,ey]
   simp only [ck,ew]
   obtain ⟨lb,hlb,hleaf⟩ : ∃ lb,((bif (decide ((w64 ((a:Int) + 1)) = (List.length l:Int))) then ((idx lf (a:Int)).bind fun y125=>some (List.set lf (Int.toNat (a:Int)) true)) else ((idx l (w64 ((a:Int) + 1))).bind fun y123=>((idx lf (a:Int)).bind fun y124=>some (List.set lf (Int.toNat (a:Int)) (!decide (y123.fParent = (a:Int)))))):Option (List Bool)) = some (lf.set a lb))∧(lb = true↔S1 l a):=by
    obtain ⟨c,hc⟩ : ∃ c,lf[a]? = some c:=⟨lf[a]'hal,bk hal⟩
    rw [u0 (n:=l.length) ha (by omega)]
    by_cases e:a + 1 = l.length
    ·have:(((a + 1:Nat):Int) = (l.length:Int)):=by omega
     simp only [this,decide_true,cond_true,iW,hc,ck]
     refine ⟨true,rfl,fun _ z hz=>?_,fun _=>rfl⟩
     have:=dj hz
     omega
    ·have : ¬ (((a + 1:Nat):Int) = (l.length:Int)):=by omega
     obtain ⟨z,hz⟩ : ∃ z,l[a + 1]? = some z:=⟨l[a + 1]'(by omega),bk (by omega)⟩
     simp only [this,decide_false,cond_false,iW,hz,hc,ck]
     refine ⟨_,rfl,fun h z' hz'=>?_,fun h=>?_⟩
     ·rw [hz] at hz'; cases hz'
      simpa using h
     ·simpa using h z hz
   rw [hlb]
   simp only [ck]
   rw [show (Int.toNat (a:Int)) = a from by omega]
   have hat':a < (t.set a (tg t a + y.fSelf)).length:=by rw [sk]; exact hat
   refine bj (Q:=fun e=>e.2 = lf.set a lb∧e.1.length = l.length∧∀ j,tg e.1 j = if j = a then tg t a + y.fSelf else if (j:Int) = y.fParent then tg t j + (tg t a + y.fSelf) else tg t j) ?_ (fun e he=>?_)
   ·refine cq (fun g=>?_) (fun g=>a7 ⟨rfl,by simp [H.tl],fun j=>?_⟩)
    ·obtain ⟨p,hpe⟩:=Int.eq_ofNat_of_zero_le g
     have hpa:p < a:=by omega
     have hpt:p < (t.set a (tg t a + y.fSelf)).length:=by rw [sk]; omega
     rw [hpe,agj hpt,agj hat',ck,ck,ck]
     rw [WJ _ _ _ _ hat,WJ _ _ _ _ hat,if_neg (by omega),if_pos rfl]
     have hpp:=H.pos p
     have hpb:=H.bd p
     rw [show w64 (tg t p + (tg t a + y.fSelf)) = tg t p + (tg t a + y.fSelf) from cJ (by omega),show Int.toNat (p:Int) = p from by omega]
     refine a7 ⟨rfl,by simp [H.tl],fun j=>?_⟩
     simp only
     rw [WJ _ _ _ _ hpt,WJ _ _ _ _ hat]
     by_cases e1:j = p
     ·subst e1
      have : ¬ j = a:=by omega
      simp [this]
     ·have : ¬ (j:Int) = (p:Int):=by omega
      simp [e1,this]
    ·simp only
     rw [WJ _ _ _ _ hat]
     by_cases e1:j = a
     ·simp [e1]
     ·have : ¬ (j:Int) = y.fParent:=by omega
      simp [e1,this]
   ·obtain ⟨t',lf'⟩:=e
    obtain ⟨e1,e2,e3⟩:=he
    simp only at e1 e2 e3
    subst e1
    dsimp only
    rw [show w64 ((a:Int) - 1) = (a:Int) - 1 from cJ (by omega)]
    refine j8 ⟨⟨by simp only; omega,by simp only; omega,?_⟩,by simp only; omega⟩
    simp only
    rw [show ((a:Int) - 1 + 1).toNat = a by omega]
    exact aCW hl hg hu hy H hleaf e2 e3
  ·have:i = -1:=by omega
   subst this
   exact H
 ·simp only
  rw [show ((l.length:Int) - 1 + 1).toNat = l.length by omega]
  refine ⟨by simp,by simp,fun j hj=>?_,fun j=>by rw [tz]; omega,?_,fun j=>by rw [tz]; omega,fun j b hj hb=>?_⟩
  ·rw [tz,if_neg (by omega)]
   unfold alV
   rw [g7 (g:=fun _=>0) (fun m hm=>?_),uW]
   ·rfl
   ·rw [if_neg (by omega)]
  ·rw [g7 (g:=fun _=>0) (fun m _=>tz m),uW]; omega
  ·rw [List.getElem?_replicate] at hb
   split at hb
   ·omega
   ·simp at hb
def aLV (l:List ax) (t:List Int):Prop:=∀ (i:Nat) y,l[i]? = some y→y.fTotal = tg t i∧¬ (S1 l i∧y.fCount = 0)
theorem aHY {l:List ax} (hl:l.length≤2000) {t:List Int} {lf:List Bool} (H:aBj l t lf 0):Ok (loop (vz l t lf) 0) (fun q=>(∃ u,q = .inl u∧aLV l t)∨(q = .inr 10∧¬ aLV l t)):=by
 refine DX l.length (fun n=>∀ (i:Nat) y,i < n→l[i]? = some y→y.fTotal = tg t i∧¬ (S1 l i∧y.fCount = 0)) (by omega) (fun i y h=>by omega) (fun i hI h2=>?_)
 unfold vz
 refine cq (fun hi=>?_) (fun hi=>dZ (.inl ⟨(),rfl,fun k y hy=>hI k y (by have:=dj hy; omega) hy⟩))
 obtain ⟨y,hy⟩ : ∃ y,l[i]? = some y:=⟨l[i]'(by omega),bk (by omega)⟩
 have hal:i < lf.length:=by rw [H.ll]; omega
 obtain ⟨c,hc⟩ : ∃ c,lf[i]? = some c:=⟨lf[i]'hal,bk hal⟩
 have hleaf:=H.leaf i c (by omega) hc
 rw [iW,hy,ck,iW,hc,ck,agj (by rw [H.tl]; omega)]
 refine bj (Q:=fun v=>v = false↔(y.fTotal = tg t i∧¬ (S1 l i∧y.fCount = 0))) ?_ (fun v hv=>?_)
 ·cases c with
  | true =>
   have hL:=hleaf.1 rfl
   simp only [cond_true]
   by_cases g:y.fCount = 0
   ·simp only [g,decide_true,cond_true]
    exact a7 ⟨fun h=>by simp at h,fun h=>absurd ⟨hL,trivial⟩ h.2⟩
   ·simp only [g,decide_false,cond_false,ck]
    refine a7 ⟨fun h=>⟨by simpa using h,fun h=>h.2⟩,fun h=>by simpa using h.1⟩
  | false =>
   have hL : ¬ S1 l i:=fun h=>by have:=hleaf.2 h; simp at this
   simp only [cond_false,ck]
   exact a7 ⟨fun h=>⟨by simpa using h,fun h=>hL h.1⟩,fun h=>by simpa using h.1⟩
 refine e9 (fun e=>dZ (.inr ⟨rfl,fun hp=>by rw [hv.2 (hp i y hy)] at e; simp at e⟩)) (fun e=>?_)
 rw [u0 (n:=l.length) (by omega) (by omega)]
 refine j8 ⟨by omega,rfl,fun k z hk hz=>?_⟩
 by_cases e2:k = i
 ·subst e2; rw [hy] at hz; cases hz; exact hv.1 e
 ·exact hI k z (by omega) hz
def aFx (l:List ax) (k:Nat):Int := match l[k]? with | some y => y.fTotal | none => 0
def Lz (l:List ax) (i:Nat):Nat→Int
 | 0=>qj l i
 | d + 1=>if gZ l i (i + 1 + d) = true then w64 (Lz l i d + aFx l (i + 1 + d)) else Lz l i d
def YJ (l:List ax) (i d:Nat):Prop:=∀ e,e < d→gZ l i (i + 1 + e) = false
def acW (l:List ax):Prop:=∀ (i:Nat) y,l[i]? = some y→Lz l i (l.length - (i + 1)) = y.fTotal∧¬ (YJ l i (l.length - (i + 1))∧y.fCount = 0)
theorem aMQ {l:List ax} (hl:l.length≤2000):Ok (jx l) (fun r=>(r = 0∧acW l)∨(r = 10∧¬ acW l)):=by
 unfold jx
 refine mZ (Q:=nQ (fun _=>acW l) (fun r=>r = 10∧¬ acW l)) (DX l.length (fun n=>∀ (i:Nat) y,i < n→l[i]? = some y→Lz l i (l.length - (i + 1)) = y.fTotal∧¬ (YJ l i (l.length - (i + 1))∧y.fCount = 0)) (by omega) (fun i y h=>by omega) (fun i hI h2=>?_)) (fun _ hq=>a7 (.inl ⟨rfl,hq⟩)) (fun r hr=>a7 (.inr hr))
 unfold m6
 refine cq (fun hi=>?_) (fun hi=>dZ (fun k y hy=>hI k y (by have:=dj hy; omega) hy))
 obtain ⟨y,hy⟩ : ∃ y,l[i]? = some y:=⟨l[i]'(by omega),bk (by omega)⟩
 rw [iW,hy,ck,u0 (n:=l.length) (by omega) (by omega)]
 refine bj (Q:=fun e=>e.1 = Lz l i (l.length - (i + 1))∧(e.2 = true↔YJ l i (l.length - (i + 1)))) (rW (fun s:Int × Bool × Int=>∃ d:Nat,s.2.2 = ((i + 1 + d:Nat):Int)∧i + 1 + d≤l.length∧s.1 = Lz l i d∧(s.2.1 = true↔YJ l i d)) (fun s=>((l.length:Int) - s.2.2).toNat) (fun s hs=>?_) ⟨0,rfl,by omega,by simp only [Lz,q5 hy],fun _ e h=>by omega,fun _=>rfl⟩ (by simp [gq]; omega)) (fun e he=>?_)
 ·obtain ⟨a,b,c⟩:=s
  obtain ⟨d,h1,h2,h3,h4⟩:=hs
  simp only at h1 h3 h4
  subst h1; subst h3
  unfold m9
  dsimp only
  refine cq (fun hj=>?_) (fun hj=>?_)
  ·obtain ⟨z,hz⟩ : ∃ z,l[i + 1 + d]? = some z:=⟨l[i + 1 + d]'(by omega),bk (by omega)⟩
   have hkid:gZ l i (i + 1 + d) = decide (z.fParent = (i:Int)):=by unfold gZ; rw [hz]
   rw [iW,hz]
   simp only [ck]
   rw [u0 (n:=l.length) (by omega) (by omega)]
   by_cases g:z.fParent = (i:Int)
   ·simp only [g,decide_true,cond_true,ck]
    refine j8 ⟨⟨d + 1,by simp only; omega,by omega,?_,?_⟩,by simp only; omega⟩
    ·simp only [Lz,hkid,g,decide_true,rk,aFx,hz]
    ·simp only
     exact ⟨fun h=>by simp at h,fun h=>by have:=h d (by omega); rw [hkid] at this; simp [g] at this⟩
   ·simp only [g,decide_false,cond_false,ck]
    refine j8 ⟨⟨d + 1,by simp only; omega,by omega,?_,?_⟩,by simp only; omega⟩
    ·simp only [Lz,hkid,g,decide_false,pw,mw]
    ·simp only
     rw [h4]
     constructor
     ·intro h e he
      by_cases e2:e = d
      ·subst e2; rw [hkid]; simp [g]
      ·exact h e (by omega)
     ·intro h e he; exact h e (by omega)
  ·have:d = l.length - (i + 1):=by omega
   subst this
   exact dZ ⟨rfl,h4⟩
 ·obtain ⟨e1,e2⟩:=e
  obtain ⟨he1,he2⟩:=he
  simp only at he1 he2
  subst he1
  dsimp only
  refine bj (Q:=fun v=>v = false↔(Lz l i (l.length - (i + 1)) = y.fTotal∧¬ (YJ l i (l.length - (i + 1))∧y.fCount = 0))) ?_ (fun v hv=>?_)
  ·cases e2 with
   | true =>
    have hL:=he2.1 rfl
    simp only [cond_true,ck]
    by_cases g:y.fCount = 0
    ·simp only [g,decide_true,cond_true]
     exact a7 ⟨fun h=>by simp at h,fun h=>absurd ⟨hL,trivial⟩ h.2⟩
    ·simp only [g,decide_false,cond_false]
     exact a7 ⟨fun h=>⟨by simpa using h,fun h=>h.2⟩,fun h=>by simpa using h.1⟩
   | false =>
    have hL : ¬ YJ l i (l.length - (i + 1)):=fun h=>by have:=he2.2 h; simp at this
    simp only [cond_false,ck]
    exact a7 ⟨fun h=>⟨by simpa using h,fun h=>hL h.1⟩,fun h=>by simpa using h.1⟩
  refine e9 (fun e=>dZ ⟨rfl,fun hp=>by rw [hv.2 (hp i y hy)] at e; simp at e⟩) (fun e=>?_)
  refine j8 ⟨by omega,rfl,fun k z hk hz=>?_⟩
  by_cases e2:k = i
  ·subst e2; rw [hy] at hz; cases hz; exact hv.1 e
  ·exact hI k z (by omega) hz
theorem X3 {l:List ax} (hN:∀ (k:Nat) z,k < l.length→l[k]? = some z→NodeR l k z 0) {i:Nat} (hi:i < l.length):S1 l i↔YJ l i (l.length - (i + 1)):=by
 have hu:UpN l l.length:=UpN.of hN
 have hkp:∀ m,gZ l i m = true↔∃ z,l[m]? = some z∧z.fParent = (i:Int):=by
  intro m
  unfold gZ
  cases hz:l[m]? with
  | none=>simp
  | some z=>simp
 constructor
 ·intro h e he
  cases hk:gZ l i (i + 1 + e) with
  | false=>rfl
  | true =>
   exfalso
   have key:∀ d,(∀ e,e < d→gZ l i (i + 1 + e) = false)∨∃ e,e < d∧gZ l i (i + 1 + e) = true∧∀ f,f < e→gZ l i (i + 1 + f) = false:=by
    intro d
    induction d with
    | zero=>exact .inl fun e h=>by omega
    | succ d ih =>
     rcases ih with h1 | ⟨e,h1,h2,h3⟩
     ·cases hd:gZ l i (i + 1 + d) with
      | false =>
       refine .inl (fun e he=>?_)
       by_cases e2:e = d
       ·subst e2; exact hd
       ·exact h1 e (by omega)
      | true=>exact .inr ⟨d,by omega,hd,h1⟩
     ·exact .inr ⟨e,by omega,h2,h3⟩
   rcases key (e + 1) with h1 | ⟨f,h1,h2,h3⟩
   ·rw [h1 e (by omega)] at hk; simp at hk
   ·obtain ⟨z,hz,hp⟩:=(hkp _).1 h2
    have hlt:=dj hz
    by_cases f0:f = 0
    ·subst f0
     exact h z (by simpa using hz) hp
    ·have hpar:XZ l (i + 1 + f) z:=by
      rcases hN _ z hlt hz with ⟨e,_⟩ | ⟨e,_⟩ | ⟨_,hp,_⟩
      ·omega
      ·omega
      ·exact hp
     rcases hpar with e | ⟨_,hd⟩
     ·omega
     ·rw [hp] at hd
      have up:∀ a:Int,DescN l (i:Int) a→a < (i + 1 + f:Nat)→(i:Int) < a→False:=by
       intro a hd
       induction hd with
       | self=>intro _ h; omega
       | @up k y hy hd' ih =>
        intro hlt2 hgt
        have hpy:=hu k y (by omega) hy
        by_cases e:y.fParent = (i:Int)
        ·have:=h3 (k - (i + 1)) (by omega)
         rw [show i + 1 + (k - (i + 1)) = k by omega] at this
         rw [(hkp k).2 ⟨y,hy,e⟩] at this; simp at this
        ·have hle:=hd'.le hu (by omega)
         exact ih (by omega) (by omega)
      exact up _ hd (by omega) (by omega)
 ·intro h z hz e
  have:=h 0 (by have:=dj hz; omega)
  rw [(hkp _).2 ⟨z,by simpa using hz,e⟩] at this
  simp at this
theorem X8 {l:List ax} (hg:L4 l) (hN:∀ (k:Nat) z,k < l.length→l[k]? = some z→NodeR l k z 0) {t:List Int} {lf:List Bool} (H:aBj l t lf 0):aLV l t↔acW l:=by
 have hu:UpN l l.length:=UpN.of hN
 have sum:∀ i,i < l.length→(∀ m,i < m→m < l.length→aFx l m = tg t m)→Lz l i (l.length - (i + 1)) = tg t i:=by
  intro i hi htot
  have h1:=H.sum i hi
  rw [if_pos (Nat.zero_le _)] at h1
  have hsi:0≤qj l i:=by
   obtain ⟨z,hz⟩ : ∃ z,l[i]? = some z:=⟨l[i]'hi,bk hi⟩
   rw [q5 hz]; exact (hg.num i z hz).2.1
  have hpart:∀ n,n≤l.length→i + 1≤n→Lz l i (n - (i + 1)) = qj l i + dV (fun m=>if 0≤m∧gZ l i m = true then tg t m else 0) n∧Lz l i (n - (i + 1))≤tg t i:=by
   intro n
   induction n with
   | zero=>intro _ h; omega
   | succ n ih =>
    intro hn hin
    have hle:dV (fun m=>if 0≤m∧gZ l i m = true then tg t m else 0) (n + 1)≤alV l (tg t) 0 i:=by
     unfold alV
     have pos:∀ m,0≤(if 0≤m∧gZ l i m = true then tg t m else 0):=by
      intro m; have:=H.pos m; split <;> omega
     have:∀ d,dV (fun m=>if 0≤m∧gZ l i m = true then tg t m else 0) (n + 1)≤dV (fun m=>if 0≤m∧gZ l i m = true then tg t m else 0) (n + 1 + d):=by
      intro d
      induction d with
      | zero=>exact Int.le_refl _
      | succ d ih=>have:=pos (n + 1 + d); rw [← Nat.add_assoc]; simp only [dV] at ih ⊢; omega
     have:=this (l.length - (n + 1))
     rwa [show n + 1 + (l.length - (n + 1)) = l.length by omega] at this
    by_cases e:n = i
    ·subst e
     have z:dV (fun m=>if 0≤m∧gZ l n m = true then tg t m else 0) (n + 1) = 0:=by
      rw [g7 (g:=fun _=>0) (fun m hm=>?_),uW]
      rw [if_neg]
      intro ⟨_,hk⟩
      have:=(aJx hu hk).1
      omega
     rw [z] at hle ⊢
     rw [show n + 1 - (n + 1) = 0 by omega]
     simp only [Lz]
     omega
    ·obtain ⟨i1,i2⟩:=ih (by omega) (by omega)
     rw [show n + 1 - (i + 1) = (n - (i + 1)) + 1 by omega]
     simp only [Lz]
     rw [show i + 1 + (n - (i + 1)) = n by omega]
     have hpn:=H.pos n
     have hbn:=H.bd n
     have hpi:=H.bd i
     have hp0:0≤Lz l i (n - (i + 1))∨True:=.inr trivial
     have ht:aFx l n = tg t n:=htot n (by omega) (by omega)
     by_cases k:gZ l i n = true
     ·rw [if_pos k,ht]
      have e1:dV (fun m=>if 0≤m∧gZ l i m = true then tg t m else 0) (n + 1) = dV (fun m=>if 0≤m∧gZ l i m = true then tg t m else 0) n + tg t n:=by
       simp [dV,k]
      rw [e1] at hle ⊢
      have hnn:0≤dV (fun m=>if 0≤m∧gZ l i m = true then tg t m else 0) n:=by
       have:∀ n,0≤dV (fun m=>if 0≤m∧gZ l i m = true then tg t m else 0) n:=by
        intro n
        induction n with
        | zero=>simp [dV]
        | succ n ih =>
         have:=H.pos n
         simp only [dV]
         split <;> omega
       exact this n
      have hs:=H.pos i
      rw [cJ (by rw [i1]; omega),i1]
      omega
     ·rw [if_neg k]
      have e1:dV (fun m=>if 0≤m∧gZ l i m = true then tg t m else 0) (n + 1) = dV (fun m=>if 0≤m∧gZ l i m = true then tg t m else 0) n:=by
       simp [dV,k]
      rw [e1]
      exact ⟨i1,i2⟩
  have:=(hpart l.length (gk _) (by omega)).1
  rw [this,h1]
  rfl
 constructor
 ·intro hp i y hy
  have hi:=dj hy
  obtain ⟨h1,h2⟩:=hp i y hy
  refine ⟨?_,fun h=>h2 ⟨(X3 hN hi).2 h.1,h.2⟩⟩
  rw [h1]
  refine sum i hi fun m _ hm=>?_
  obtain ⟨z,hz⟩ : ∃ z,l[m]? = some z:=⟨l[m]'hm,bk hm⟩
  have:=(hp m z hz).1
  simp [aFx,hz,this]
 ·intro hp
  have key:∀ d i y,l.length - i≤d→l[i]? = some y→y.fTotal = tg t i:=by
   intro d
   induction d with
   | zero=>intro i y h hy; have:=dj hy; omega
   | succ d ih =>
    intro i y h hy
    have hi:=dj hy
    rw [← (hp i y hy).1]
    refine sum i hi fun m him hm=>?_
    obtain ⟨z,hz⟩ : ∃ z,l[m]? = some z:=⟨l[m]'hm,bk hm⟩
    have:=ih m z (by omega) hz
    simp [aFx,hz,this]
  intro i y hy
  exact ⟨key _ i y (gk _) hy,fun h=>(hp i y hy).2 ⟨(X3 hN (dj hy)).1 h.1,h.2⟩⟩
structure ValF (l:List ax):Prop where
 len:l.length≤2000
 good:L4 l
 node:∀ (k:Nat) z,k < l.length→l[k]? = some z→NodeR l k z 0
 tot:acW l
theorem avY (l:List ax) (hn:∀ x∈l,okN x.fName) (hl:l.length≤140737488351232):∃ r,eK l = some r∧iz l = some r∧(r = 0↔ValF l):=by
 unfold eK iz
 by_cases h0:2000 < (l.length:Int)
 ·simp only [h0,decide_true,cond_true]
  exact ⟨7,rfl,rfl,fun h=>by omega,fun h=>by have:=h.len; omega⟩
 simp only [h0,decide_false,cond_false]
 have hl2:l.length≤2000:=by omega
 obtain ⟨r,hr,hg⟩:=aoJ l hl2 hn
 rw [← aDz,hr]
 simp only [ck]
 by_cases e:r = 0
 ·subst e
  have G:=hg.1 rfl
  simp only [decide_true,Bool.not_true,cond_false,cond_true]
  obtain ⟨v,hv,hf⟩:=aRV l hl2
  obtain ⟨v',hv',hf'⟩:=aQV l hl2
  have:=hf.det hf'
  subst this
  rw [hv,hv']
  simp only [ck]
  by_cases e2:v = 0
  ·subst e2
   have hN:∀ (k:Nat) z,k < l.length→l[k]? = some z→NodeR l k z 0:=by
    rcases hf with ⟨_,h⟩ | ⟨h,_⟩
    ·exact fun k z _ hz=>h k z hz
    ·exact absurd rfl h
   have hu:UpN l l.length:=UpN.of hN
   simp only [decide_true,Bool.not_true,cond_false,cond_true]
   have m1:mkB 8 (l.length:Int) = true:=by unfold mkB; exact decide_eq_true ⟨by omega,by omega,by omega⟩
   have m2:mkB 1 (l.length:Int) = true:=by unfold mkB; exact decide_eq_true ⟨by omega,by omega,by omega⟩
   rw [m1,m2]
   simp only [cond_true]
   obtain ⟨⟨t,lf⟩,ht,H⟩:=axW l hl2 G hu
   rw [ht]
   simp only [ck]
   obtain ⟨q,hq,hP⟩:=aHY hl2 H
   obtain ⟨q',hq',hP'⟩:=aMQ hl2 (l:=l)
   rw [hq,hq']
   simp only [ck]
   rcases hP with ⟨u,rfl,hp⟩ | ⟨rfl,hp⟩ <;> rcases hP' with ⟨rfl,hp'⟩ | ⟨rfl,hp'⟩
   ·exact ⟨0,rfl,rfl,fun _=>⟨hl2,G,hN,hp'⟩,fun _=>rfl⟩
   ·exact absurd ((X8 G hN H).1 hp) hp'
   ·exact absurd ((X8 G hN H).2 hp') hp
   ·exact ⟨10,rfl,rfl,fun h=>by omega,fun h=>absurd h.tot hp'⟩
  ·simp only [e2,decide_false,Bool.not_false,cond_true,cond_false,ck]
   refine ⟨v,rfl,rfl,fun h=>absurd h e2,fun h=>?_⟩
   exfalso
   rcases hf with ⟨h1,_⟩ | ⟨_,j,y,hy,_,hR⟩
   ·exact e2 h1
   ·exact e2 (hR.det (h.node j y (dj hy) hy))
 ·simp only [e,decide_false,Bool.not_false,cond_true,cond_false,ck]
  exact ⟨r,rfl,rfl,fun h=>absurd h e,fun h=>absurd (hg.2 h.good) e⟩
inductive PathN (l:List ax):Int→List ByteArray→Prop
 | out {i:Int}:i < 0→PathN l i []
 | up {i:Nat} {y:ax} {p:List ByteArray}:l[i]? = some y→PathN l y.fParent p→PathN l (i:Int) (p++[y.fName])
theorem PathN.inv {l:List ax} {a:Int} {k:Nat} {y:ax} {p:List ByteArray} (h:PathN l a p) (ha:a = (k:Int)) (hy:l[k]? = some y):∃ q,PathN l y.fParent q∧p = q++[y.fName]:=by
 cases h with
 | out h=>omega
 | @up i z q hz hq =>
  have:i = k:=by omega
  subst this
  rw [hy] at hz; cases hz
  exact ⟨q,hq,rfl⟩
theorem PathN.uni {l:List ax} {i:Int} {p:List ByteArray} (h1:PathN l i p):∀ {q:List ByteArray},PathN l i q→p = q:=by
 induction h1 with
 | @out i h0=>intro q h2; cases h2 with
  | out _=>rfl
  | up=>omega
 | @up k y p hy _ ih =>
  intro q h2
  obtain ⟨q',h3,rfl⟩:=h2.inv rfl hy
  rw [ih h3]
theorem UpN.path {l:List ax} (h:UpN l l.length):∀ (i:Nat) y,l[i]? = some y→∃ p,PathN l (i:Int) p∧p.length≤i + 1∧p ≠ []:=by
 intro i
 induction i using Nat.strongRecOn with
 | _ i ih =>
  intro y hy
  have hp:=h i y (dj hy) hy
  by_cases e:y.fParent < 0
  ·exact ⟨[]++[y.fName],.up hy (.out e),by simp,by simp⟩
  ·obtain ⟨p,hpe⟩:=Int.eq_ofNat_of_zero_le (show 0≤y.fParent by omega)
   have hlt:=dj hy
   obtain ⟨z,hz⟩ : ∃ z,l[p]? = some z:=⟨l[p]'(by omega),bk (by omega)⟩
   obtain ⟨q,h1,h2,_⟩:=ih p (by omega) z hz
   exact ⟨q++[y.fName],.up hy (by rw [hpe]; exact h1),by simp; omega,by simp⟩
theorem ValF.up {l:List ax} (h:ValF l):UpN l l.length:=UpN.of h.node
theorem ValF.check {l:List ax} (h:ValF l) (hn:∀ x∈l,okN x.fName):eK l = some 0∧iz l = some 0:=by
 obtain ⟨r,h1,h2,h3⟩:=avY l hn (by have:=h.len; omega)
 rw [h3.2 h] at h1 h2
 exact ⟨h1,h2⟩
theorem V2:∀ {x y z:List UInt8},Op.bytesLess x y = true→Op.bytesLess y z = true→Op.bytesLess x z = true
 | [],y,z,h1,h2=>by
  cases z with
  | nil=>cases y <;> simp [Op.bytesLess] at h2
  | cons c z=>simp [Op.bytesLess]
 | a :: x,[],z,h1,h2=>by simp [Op.bytesLess] at h1
 | a :: x,b :: y,[],h1,h2=>by simp [Op.bytesLess] at h2
 | a :: x,b :: y,c :: z,h1,h2=>by
  simp only [Op.bytesLess,xk,ek,vw,beq_iff_eq] at h1 h2 ⊢
  rcases h1 with h1 | ⟨rfl,h1⟩ <;> rcases h2 with h2 | ⟨rfl,h2⟩
  ·exact .inl (UInt8.lt_trans h1 h2)
  ·exact .inl h1
  ·exact .inl h2
  ·exact .inr ⟨rfl,V2 h1 h2⟩
theorem acK {a b c:ByteArray} (h1:sLt a b = true) (h2:sLt b c = true):sLt a c = true:=V2 h1 h2
theorem ValF.sib {l:List ax} (h:ValF l):∀ (i:Nat) y,l[i]? = some y→∀ (j:Nat) z,j < i→l[j]? = some z→z.fParent = y.fParent→sLt z.fName y.fName = true:=by
 have last:∀ p n j z,j < n→n≤l.length→l[j]? = some z→z.fParent = p→∃ (k:Nat) (u:ax),k < n∧j≤k∧l[k]? = some u∧u.fParent = p∧wW l p n = some u.fName:=by
  intro p n
  induction n with
  | zero=>intro j z h; omega
  | succ n ih =>
   intro j z hj hn hz hp
   obtain ⟨v,hv⟩ : ∃ v,l[n]? = some v:=⟨l[n]'(by omega),bk (by omega)⟩
   by_cases e:v.fParent = p
   ·exact ⟨n,v,by omega,by omega,hv,e,by simp [wW,hv,e]⟩
   ·have hjn:j < n:=by
     rcases Nat.lt_or_ge j n with h | h
     ·exact h
     ·have:j = n:=by omega
      subst this
      rw [hv] at hz; cases hz; exact absurd hp e
    obtain ⟨k,u,h1,h2,h3,h4,h5⟩:=ih j z hjn (by omega) hz hp
    exact ⟨k,u,by omega,h2,h3,h4,by simp [wW,hv,e,h5]⟩
 intro i
 induction i using Nat.strongRecOn with
 | _ i ih =>
  intro y hy j z hj hz hp
  have hil:=dj hy
  obtain ⟨k,u,h1,h2,h3,h4,h5⟩:=last y.fParent i j z hj (by omega) hz hp
  have hb : ¬ aqK l i y:=by
   rcases h.node i y hil hy with ⟨e,_⟩ | ⟨e,_⟩ | ⟨_,_,hb⟩
   ·omega
   ·omega
   ·exact hb
  have hu:sLt u.fName y.fName = true:=by
   cases hs:sLt u.fName y.fName with
   | true=>rfl
   | false=>exact absurd ⟨_,h5,hs⟩ hb
  by_cases e:j = k
  ·subst e; rw [hz] at h3; cases h3; exact hu
  ·exact acK (ih k h1 u h3 j z (by omega) hz (hp.trans h4.symm)) hu
theorem w8 (a:ByteArray):sLt a a = false:=by
 cases h:sLt a a with
 | false=>rfl
 | true=>exact absurd rfl (afj h).2
theorem ValF.one {l:List ax} (h:ValF l) {i j:Nat} {y z:ax} (hy:l[i]? = some y) (hz:l[j]? = some z) (hp:y.fParent = z.fParent) (hn:y.fName = z.fName):i = j:=by
 rcases Nat.lt_trichotomy i j with e | e | e
 ·have:=h.sib j z hz i y e hy hp
  rw [hn,w8] at this; simp at this
 ·exact e
 ·have:=h.sib i y hy j z e hz hp.symm
  rw [hn,w8] at this; simp at this
theorem ValF.inj {l:List ax} (h:ValF l) {p:List ByteArray}:∀ {i j:Int},-1≤i→-1≤j→PathN l i p→PathN l j p→i = j:=by
 intro i j hi hj h1
 induction h1 generalizing j with
 | @out i h0 =>
  intro h2
  generalize hp:([]:List ByteArray) = p at h2
  cases h2 with
  | out h=>omega
  | up _ _=>simp at hp
 | @up k y q hy hq ih =>
  intro h2
  generalize hp:q++[y.fName] = p at h2
  cases h2 with
  | out h=>simp at hp
  | @up m z r hz hr =>
   have e:=List.append_inj' hp rfl
   simp only [List.cons.injEq,and_true] at e
   obtain ⟨rfl,e2⟩:=e
   have u1:=h.up k y (dj hy) hy
   have u2:=h.up m z (dj hz) hz
   have:=ih (by omega) (by omega) hr
   rw [h.one hy hz this e2]
def iZ:List ByteArray→List ByteArray→Int
 | [],[]=>0
 | [],_ :: _=>-1
 | _ :: _,[]=>1
 | a :: p,b :: q=>if sLt a b = true then -1 else if a = b then iZ p q else 1
theorem xZ (a b:ByteArray) (p q:List ByteArray):iZ (a :: p) (b :: q) = if sLt a b = true then -1 else if a = b then iZ p q else 1:=rfl
theorem EY:∀ p,iZ p p = 0
 | []=>rfl
 | a :: p=>by simp [iZ,w8,EY p]
theorem xQ:∀ {p q:List ByteArray},iZ p q = 0→p = q
 | [],[],_=>rfl
 | [],_ :: _,h=>by simp [iZ] at h
 | _ :: _,[],h=>by simp [iZ] at h
 | a :: p,b :: q,h=>by
  unfold iZ at h
  split at h
  ·omega
  ·split at h
   ·rename_i e; rw [e,xQ h]
   ·omega
theorem IK (a:ByteArray) (r:List ByteArray):∀ p,iZ p (p++a :: r) = -1
 | []=>rfl
 | b :: p=>by simp [iZ,w8,IK a r p]
theorem KV {a b:ByteArray} (h:sLt a b = true) (r s:List ByteArray):∀ p,iZ (p++a :: r) (p++b :: s) = -1
 | []=>by simp [iZ,h]
 | c :: p=>by simp [iZ,w8,KV h r s p]
theorem RZ (p q:List ByteArray) (hp:p.length≤1000000) (hq:q.length≤9000000):dY p q = some (iZ p q):=by
 have:Ok (dY p q) (fun r=>r = iZ p q):=by
  unfold dY
  refine mZ (Q:=nQ (fun _=>iZ p q = if p.length < q.length then -1 else if q.length < p.length then 1 else 0) (fun r=>r = iZ p q)) (DX p.length (fun n=>n≤q.length∧iZ p q = iZ (p.drop n) (q.drop n)) (by omega) ⟨by omega,by simp⟩ (fun i hI h2=>?_)) (fun _ hr=>?_) (fun r hr=>a7 hr)
  ·obtain ⟨g1,g2⟩:=hI
   unfold l7
   by_cases k1:i < p.length
   ·by_cases k2:i < q.length
    ·have e1:((i:Int) < (p.length:Int)):=by omega
     have e2:((i:Int) < (q.length:Int)):=by omega
     rw [iW,iW,bk k1,bk k2]
     simp only [e1,e2,decide_true,cond_true,ck]
     rw [List.drop_eq_getElem_cons k1,List.drop_eq_getElem_cons k2] at g2
     rw [xZ] at g2
     refine e9 (fun h=>dZ ?_) (fun h=>e9 (fun h'=>dZ ?_) (fun h'=>?_))
     ·show (-1:Int) = _
      rw [g2,if_pos h]
     ·show (1:Int) = _
      rw [g2,if_neg (by simp [h]),if_neg (by intro e; simp [e] at h')]
     ·rw [u0 (n:=p.length) (by omega) (by omega)]
      refine j8 ⟨by omega,rfl,by omega,?_⟩
      rw [g2,if_neg (by simp [h]),if_pos (by simpa [h] using h')]
    ·have e2 : ¬ ((i:Int) < (q.length:Int)):=by omega
     have e1:((i:Int) < (p.length:Int)):=by omega
     simp only [e1,e2,decide_true,decide_false,cond_true,cond_false,ck]
     refine dZ (show nQ _ _ (.inl ()) from ?_)
     show iZ p q = _
     rw [g2,List.drop_eq_getElem_cons k1,List.drop_eq_nil_of_le (show q.length≤i by omega),if_neg (by omega),if_pos (by omega)]
     rfl
   ·have e1 : ¬ ((i:Int) < (p.length:Int)):=by omega
    simp only [e1,decide_false,cond_false,ck]
    refine dZ (show nQ _ _ (.inl ()) from ?_)
    show iZ p q = _
    rw [g2,List.drop_eq_nil_of_le (show p.length≤i by omega)]
    by_cases k2:i < q.length
    ·rw [List.drop_eq_getElem_cons k2,if_pos (by omega)]
     rfl
    ·rw [List.drop_eq_nil_of_le (show q.length≤i by omega),if_neg (by omega),if_neg (by omega)]
     rfl
  ·have hr:iZ p q = if p.length < q.length then -1 else if q.length < p.length then 1 else 0:=hr
   refine cq (fun h=>a7 ?_) (fun h=>cq (fun h'=>a7 ?_) (fun h'=>a7 ?_))
   ·rw [hr,if_pos (by omega)]
   ·rw [hr,if_neg (by omega),if_pos (by omega)]
   ·rw [hr,if_neg (by omega),if_neg (by omega)]
 obtain ⟨r,h1,h2⟩:=this
 rw [h1,h2]
theorem DescN.fork {l:List ax} {a x:Int} (h:DescN l a x):∀ {pa px:List ByteArray},PathN l a pa→PathN l x px→(px = pa∧x = a)∨∃ (c:Nat) (z:ax) (rest:List ByteArray),l[c]? = some z∧z.fParent = a∧px = pa++z.fName :: rest∧(UpN l l.length→(c:Int)≤x):=by
 induction h with
 | self=>intro pa px h1 h2; exact .inl ⟨h2.uni h1,rfl⟩
 | @up k y hy hd ih =>
  intro pa px h1 h2
  obtain ⟨q,hq,rfl⟩:=h2.inv rfl hy
  rcases ih h1 hq with ⟨rfl,e⟩ | ⟨c,z,rest,g1,g2,rfl,g3⟩
  ·exact .inr ⟨k,y,[],hy,e,rfl,fun _=>by omega⟩
  ·refine .inr ⟨c,z,rest++[y.fName],g1,g2,by simp,fun hu=>?_⟩
   have:=g3 hu
   have:=hu k y (dj hy) hy
   omega
theorem aAz {l:List ax} (hu:UpN l l.length):∀ (k:Nat),k < l.length→DescN l (-1) (k:Int):=by
 intro k
 induction k using Nat.strongRecOn with
 | _ k ih =>
  intro hk
  obtain ⟨y,hy⟩ : ∃ y,l[k]? = some y:=⟨l[k]'hk,bk hk⟩
  have:=hu k y hk hy
  by_cases e:y.fParent = -1
  ·exact .up hy (by rw [e]; exact .self)
  ·obtain ⟨p,hp⟩:=Int.eq_ofNat_of_zero_le (show 0≤y.fParent by omega)
   exact .up hy (by rw [hp]; exact ih p (by omega) (by omega))
theorem ValF.incr {l:List ax} (h:ValF l) {i:Nat} (hi:i + 1 < l.length) {p q:List ByteArray} (hp:PathN l (i:Int) p) (hq:PathN l ((i + 1:Nat):Int) q):iZ p q = -1:=by
 obtain ⟨y,hy⟩ : ∃ y,l[i + 1]? = some y:=⟨l[i + 1]'hi,bk hi⟩
 obtain ⟨pa,hpa,rfl⟩:=hq.inv rfl hy
 have hd:DescN l y.fParent (i:Int):=by
  rcases h.node (i + 1) y hi hy with ⟨e,_⟩ | ⟨e,_⟩ | ⟨_,hp,_⟩
  ·omega
  ·omega
  ·rcases hp with e | ⟨_,hd⟩
   ·rw [e]; exact aAz h.up i (by omega)
   ·have:(((i + 1:Nat):Int) - 1) = (i:Int):=by omega
    rw [this] at hd; exact hd
 rcases hd.fork hpa hp with ⟨rfl,_⟩ | ⟨c,z,rest,g1,g2,rfl,g3⟩
 ·exact IK _ [] _
 ·have:=g3 h.up
  exact KV (h.sib (i + 1) y hy c z (by omega) g1 g2) rest [] pa
abbrev Ent:=aj
theorem A3:∀ p q:List ByteArray,iZ q p = - iZ p q
 | [],[]=>rfl
 | [],b :: q=>rfl
 | a :: p,[]=>rfl
 | a :: p,b :: q=>by
  rw [xZ,xZ]
  by_cases h:sLt a b = true
  ·obtain ⟨h1,h2⟩:=afj h
   rw [if_pos h,h1,if_neg (by simp),if_neg (Ne.symm h2)]; rfl
  ·rw [if_neg h]
   by_cases e:a = b
   ·subst e
    rw [if_neg h,if_pos rfl,if_pos rfl]; exact A3 p q
   ·have h3:sLt b a = true:=by rw [← K5 a b]; simp [h,e]
    rw [if_pos h3,if_neg e]
theorem EQ:∀ p q:List ByteArray,iZ p q = -1∨iZ p q = 0∨iZ p q = 1
 | [],[]=>.inr (.inl rfl)
 | [],b :: q=>.inl rfl
 | a :: p,[]=>.inr (.inr rfl)
 | a :: p,b :: q=>by
  rw [xZ]
  split
  ·exact .inl rfl
  ·split
   ·exact EQ p q
   ·exact .inr (.inr rfl)
theorem tK:∀ {p q r:List ByteArray},iZ p q = -1→iZ q r = -1→iZ p r = -1
 | _,_,[],_,h2=>by
  rename_i p q h1
  cases q with
  | nil=>simp [iZ] at h2
  | cons b q=>simp [iZ] at h2
 | [],_,c :: r,_,_=>rfl
 | a :: p,[],c :: r,h1,_=>by simp [iZ] at h1
 | a :: p,b :: q,c :: r,h1,h2=>by
  rw [xZ] at h1 h2 ⊢
  by_cases e1:sLt a b = true
  ·by_cases e2:sLt b c = true
   ·rw [if_pos (acK e1 e2)]
   ·rw [if_neg e2] at h2
    by_cases e3:b = c
    ·subst e3; rw [if_pos e1]
    ·rw [if_neg e3] at h2; omega
  ·rw [if_neg e1] at h1
   by_cases e3:a = b
   ·subst e3
    rw [if_pos rfl] at h1
    by_cases e2:sLt a c = true
    ·rw [if_pos e2]
    ·rw [if_neg e2] at h2 ⊢
     by_cases e4:a = c
     ·rw [if_pos e4] at h2 ⊢; exact tK h1 h2
     ·rw [if_neg e4] at h2; omega
   ·rw [if_neg e3] at h1; omega
theorem iK {p:List ByteArray} (h:iZ p p = -1):False:=by rw [EY] at h; omega
def sq (l:List Ent):Prop:=l.Pairwise fun x y=>iZ x.fPath y.fPath = -1
def oQ:List Ent→Ent→List Ent
 | [],e=>[e]
 | x :: l,e=>if iZ x.fPath e.fPath = 0 then { fPath:=e.fPath,fSelf:=x.fSelf + e.fSelf,fCount:=x.fCount + e.fCount } :: l else if 0 < iZ x.fPath e.fPath then e :: x :: l else x :: oQ l e
theorem I4 (e:Ent):∀ {l:List Ent} {q:List ByteArray},(∃ x∈oQ l e,x.fPath = q)↔(∃ x∈l,x.fPath = q)∨q = e.fPath
 | [],q=>by simp [oQ,eq_comm]
 | x :: l,q=>by
  unfold oQ
  split
  ·rename_i h
   have:=xQ h
   simp only [iw]
   constructor
   ·rintro ⟨y,rfl | hy,rfl⟩
    ·exact .inr rfl
    ·exact .inl ⟨y,.inr hy,rfl⟩
   ·rintro (⟨y,rfl | hy,rfl⟩ | rfl)
    ·exact ⟨_,.inl rfl,this.symm⟩
    ·exact ⟨y,.inr hy,rfl⟩
    ·exact ⟨_,.inl rfl,rfl⟩
  ·split
   ·simp only [iw]
    constructor
    ·rintro ⟨y,rfl | hy,rfl⟩
     ·exact .inr rfl
     ·exact .inl ⟨y,hy,rfl⟩
    ·rintro (⟨y,hy,rfl⟩ | rfl)
     ·exact ⟨y,.inr hy,rfl⟩
     ·exact ⟨e,.inl rfl,rfl⟩
   ·have ih:=I4 e (l:=l) (q:=q)
    simp only [iw]
    constructor
    ·rintro ⟨y,rfl | hy,rfl⟩
     ·exact .inl ⟨y,.inl rfl,rfl⟩
     ·rcases ih.1 ⟨y,hy,rfl⟩ with ⟨z,hz,h⟩ | h
      ·exact .inl ⟨z,.inr hz,h⟩
      ·exact .inr h
    ·rintro (⟨y,rfl | hy,rfl⟩ | h)
     ·exact ⟨y,.inl rfl,rfl⟩
     ·obtain ⟨z,hz,h⟩:=ih.2 (.inl ⟨y,hy,rfl⟩)
      exact ⟨z,.inr hz,h⟩
     ·obtain ⟨z,hz,h⟩:=ih.2 (.inr h)
      exact ⟨z,.inr hz,h⟩
theorem aaX {e:Ent}:∀ {l:List Ent},sq l→sq (oQ l e)
 | [],_=>List.pairwise_singleton _ _
 | x :: l,h=>by
  unfold sq at h
  rw [List.pairwise_cons] at h
  obtain ⟨h1,h2⟩:=h
  unfold oQ
  split
  ·rename_i h0
   have:=xQ h0
   refine List.pairwise_cons.2 ⟨fun y hy=>?_,h2⟩
   rw [← show x.fPath = e.fPath from this]; exact h1 y hy
  ·rename_i h0
   split
   ·rename_i hp
    have hl:iZ e.fPath x.fPath = -1:=by
     rw [A3 x.fPath e.fPath]
     rcases EQ x.fPath e.fPath with h | h | h <;> omega
    refine List.pairwise_cons.2 ⟨fun y hy=>?_,List.pairwise_cons.2 ⟨h1,h2⟩⟩
    rcases iw.1 hy with rfl | hy
    ·exact hl
    ·exact tK hl (h1 y hy)
   ·rename_i hp
    have hl:iZ x.fPath e.fPath = -1:=by
     rcases EQ x.fPath e.fPath with h | h | h <;> omega
    refine List.pairwise_cons.2 ⟨fun y hy=>?_,aaX h2⟩
    rcases (I4 e (l := l) (q := y.fPath)).1 ⟨y,hy,rfl⟩ with ⟨z,hz,h⟩ | h
    ·rw [← h]; exact h1 z hz
    ·rw [h]; exact hl
theorem aaV {e:Ent}:∀ {l:List Ent},sq l→∀ x∈oQ l e,(x∈l∧x.fPath ≠ e.fPath)∨(x.fPath = e.fPath∧((∃ y∈l,y.fPath = e.fPath∧x.fSelf = y.fSelf + e.fSelf∧x.fCount = y.fCount + e.fCount)∨((∀ y∈l,y.fPath ≠ e.fPath)∧x = e)))
 | [],_,x,hx=>by
  rw [show oQ [] e = [e] from rfl,dk] at hx
  exact .inr ⟨by rw [hx],.inr ⟨fun y hy=>by simp at hy,hx⟩⟩
 | y :: l,h,x,hx=>by
  unfold sq at h
  rw [List.pairwise_cons] at h
  obtain ⟨h1,h2⟩:=h
  unfold oQ at hx
  split at hx
  ·rename_i h0
   have h0:=xQ h0
   rcases iw.1 hx with rfl | hx
   ·exact .inr ⟨rfl,.inl ⟨y,lw,h0,rfl,rfl⟩⟩
   ·refine .inl ⟨ik _ hx,fun e1=>?_⟩
    have:=h1 x hx
    rw [e1,h0] at this
    exact iK this
  ·rename_i h0
   split at hx
   ·rename_i hp
    have hl:iZ e.fPath y.fPath = -1:=by
     rw [A3 y.fPath e.fPath]
     rcases EQ y.fPath e.fPath with h | h | h <;> omega
    have hne:∀ z∈y :: l,z.fPath ≠ e.fPath:=by
     intro z hz e1
     rcases iw.1 hz with rfl | hz
     ·rw [e1] at hl; exact iK hl
     ·have:=tK hl (h1 z hz)
      rw [e1] at this; exact iK this
    rcases iw.1 hx with rfl | hx
    ·exact .inr ⟨rfl,.inr ⟨hne,rfl⟩⟩
    ·exact .inl ⟨hx,hne x hx⟩
   ·rename_i hp
    have hye:y.fPath ≠ e.fPath:=fun e1=>h0 (by rw [e1]; exact EY _)
    rcases iw.1 hx with rfl | hx
    ·exact .inl ⟨lw,hye⟩
    ·rcases aaV h2 x hx with ⟨g1,g2⟩ | ⟨g1,⟨z,hz,g2⟩ | ⟨g2,g3⟩⟩
     ·exact .inl ⟨ik _ g1,g2⟩
     ·exact .inr ⟨g1,.inl ⟨z,ik _ hz,g2⟩⟩
     ·refine .inr ⟨g1,.inr ⟨fun z hz=>?_,g3⟩⟩
      rcases iw.1 hz with rfl | hz
      ·exact hye
      ·exact g2 z hz
structure InvE (l:List Ent) (K:List ByteArray→Prop) (S C:List ByteArray→Int):Prop where
 srt:sq l
 key:∀ q,(∃ x∈l,x.fPath = q)↔K q
 val:∀ x∈l,x.fSelf = S x.fPath∧x.fCount = C x.fPath
 zero:∀ q,¬ K q→S q = 0∧C q = 0
theorem InvE.put {l:List Ent} {K:List ByteArray→Prop} {S C:List ByteArray→Int} (h:InvE l K S C) (e:Ent):InvE (oQ l e) (fun q=>K q∨q = e.fPath) (fun q=>S q + if q = e.fPath then e.fSelf else 0) (fun q=>C q + if q = e.fPath then e.fCount else 0):=by
 refine ⟨aaX h.srt,fun q=>by rw [I4,h.key],fun x hx=>?_,fun q hq=>?_⟩
 ·rcases aaV h.srt x hx with ⟨g1,g2⟩ | ⟨g1,⟨z,hz,g2,g3,g4⟩ | ⟨g2,rfl⟩⟩
  ·obtain ⟨v1,v2⟩:=h.val x g1
   rw [if_neg g2,if_neg g2]; omega
  ·obtain ⟨v1,v2⟩:=h.val z hz
   rw [if_pos g1,if_pos g1,g1,← g2,g3,g4]; omega
  ·obtain ⟨z1,z2⟩:=h.zero x.fPath fun hk=>by
    obtain ⟨y,hy,e⟩:=(h.key _).2 hk
    exact g2 y hy e
   rw [if_pos rfl,if_pos rfl]; omega
 ·have hq1 : ¬ K q:=fun h=>hq (.inl h)
  have hq2 : ¬ q = e.fPath:=fun h=>hq (.inr h)
  obtain ⟨z1,z2⟩:=h.zero q hq1
  simp only [if_neg hq2]; omega
theorem InvE.uniq:∀ {l l':List Ent} {K:List ByteArray→Prop} {S C:List ByteArray→Int},InvE l K S C→InvE l' K S C→l = l':=by
 have key:∀ {l l':List Ent},sq l→sq l'→(∀ q,(∃ x∈l,x.fPath = q)↔∃ x∈l',x.fPath = q)→l.map (·.fPath) = l'.map (·.fPath):=by
  intro l
  induction l with
  | nil =>
   intro l' _ _ h
   cases l' with
   | nil=>rfl
   | cons y l'=>obtain ⟨x,hx,_⟩:=(h y.fPath).2 ⟨y,lw,rfl⟩; simp at hx
  | cons x l ih =>
   intro l' h1 h2 h
   cases l' with
   | nil=>obtain ⟨y,hy,_⟩:=(h x.fPath).1 ⟨x,lw,rfl⟩; simp at hy
   | cons y l' =>
    unfold sq at h1 h2
    rw [List.pairwise_cons] at h1 h2
    have hxy:x.fPath = y.fPath:=by
     obtain ⟨z,hz,e⟩:=(h x.fPath).1 ⟨x,lw,rfl⟩
     obtain ⟨u,hu,e'⟩:=(h y.fPath).2 ⟨y,lw,rfl⟩
     rcases iw.1 hz with rfl | hz
     ·exact e.symm
     ·rcases iw.1 hu with rfl | hu
      ·exact e'
      ·have g1:=h2.1 z hz
       have g2:=h1.1 u hu
       rw [e] at g1; rw [e'] at g2
       exact (iK (tK g1 g2)).elim
    rw [nk,nk,hxy,ih h1.2 h2.2 fun q=>?_]
    constructor
    ·rintro ⟨z,hz,e⟩
     obtain ⟨u,hu,e'⟩:=(h q).1 ⟨z,ik _ hz,e⟩
     rcases iw.1 hu with rfl | hu
     ·have g:=h1.1 z hz
      rw [e,← e',← hxy] at g
      exact (iK g).elim
     ·exact ⟨u,hu,e'⟩
    ·rintro ⟨z,hz,e⟩
     obtain ⟨u,hu,e'⟩:=(h q).2 ⟨z,ik _ hz,e⟩
     rcases iw.1 hu with rfl | hu
     ·have g:=h2.1 z hz
      rw [e,← e',hxy] at g
      exact (iK g).elim
     ·exact ⟨u,hu,e'⟩
 intro l l' K S C h h'
 have hp:=key h.srt h'.srt fun q=>(h.key q).trans (h'.key q).symm
 apply List.ext_getElem?
 intro j
 have hj:=congrArg (fun m=>m[j]?) hp
 simp only [ow] at hj
 cases hx:l[j]? with
 | none=>rw [hx] at hj; cases hy:l'[j]? with
  | none=>rfl
  | some y=>rw [hy] at hj; simp at hj
 | some x=>rw [hx] at hj; cases hy:l'[j]? with
  | none=>rw [hy] at hj; simp at hj
  | some y =>
   rw [hy] at hj
   simp only [jk,cw] at hj
   obtain ⟨a1,a2⟩:=h.val x (fw hx)
   obtain ⟨b1,b2⟩:=h'.val y (fw hy)
   cases x with | mk xp xs xc => cases y with | mk yp ys yc =>
   simp only at hj a1 a2 b1 b2
   subst hj
   rw [a1,a2,b1,b2]
def aWx (e:Ent):Prop:=0≤e.fSelf∧e.fSelf≤4000000000000000000∧0≤e.fCount∧e.fCount≤4000000000000000000∧e.fPath.length≤1000000
theorem anj {p q:List ByteArray} (h:iZ q p = -1):iZ p q = 1:=by rw [A3 q p]; omega
theorem aUX {l:List Ent} {e:Ent} (hs:sq l) (hl:l.length≤100000) (hn:∀ x∈l,aWx x) (he:aWx e):gW l e = some (oQ l e):=by
 have:Ok (gW l e) (fun r=>r = oQ l e):=by
  unfold gW
  refine bj (Q:=fun r:List Ent × Bool=>((r.2 = false∧r.1.length≤l.length∧oQ l e = r.1++[e])∨(r.2 = true∧oQ l e = r.1))) (rW (fun s:List Ent × Bool × Int=>∃ n:Nat,s.2.2 = (n:Int)∧n≤l.length∧((s.2.1 = false∧s.1.length≤n∧oQ l e = s.1++oQ (l.drop n) e)∨(s.2.1 = true∧s.1.length≤n + 1∧oQ l e = s.1++l.drop n∧∀ x∈l.drop n,iZ x.fPath e.fPath = 1))) (fun s=>((l.length:Int) - s.2.2).toNat) (fun s hs'=>?_) ⟨0,rfl,Nat.zero_le _,.inl ⟨rfl,by simp,by simp⟩⟩ (by simp [gq]; omega)) (fun r hr=>?_)
  ·obtain ⟨acc,dn,i⟩:=s
   obtain ⟨n,h1,h2,h4⟩:=hs'
   simp only at h1 h4
   subst h1
   unfold p6
   dsimp only
   refine cq (fun hi=>?_) (fun hi=>dZ ?_)
   ·have hil:n < l.length:=by omega
    obtain ⟨y,hy⟩ : ∃ y,l[n]? = some y:=⟨l[n]'hil,bk hil⟩
    have hym:=fw hy
    obtain ⟨n1,n2,n3,n4,n5⟩:=hn y hym
    obtain ⟨e1,e2,e3,e4,e5⟩:=he
    have hdrop:l.drop n = y :: l.drop (n + 1):=by
     rw [List.drop_eq_getElem_cons hil]
     rw [bk hil] at hy
     cases hy; rfl
    have hlater:∀ x∈l.drop (n + 1),iZ y.fPath x.fPath = -1:=by
     have:=List.Pairwise.sublist (List.drop_sublist n l) hs
     rw [hdrop,List.pairwise_cons] at this
     exact this.1
    rw [hdrop] at h4
    rw [iW,hy]
    simp only [ck]
    rw [RZ _ _ n5 (by omega)]
    simp only [ck]
    refine bj (Q:=fun r:List Ent × Bool=>((r.2 = false∧r.1.length≤n + 1∧oQ l e = r.1++oQ (l.drop (n + 1)) e)∨(r.2 = true∧r.1.length≤n + 1 + 1∧oQ l e = r.1++l.drop (n + 1)∧∀ x∈l.drop (n + 1),iZ x.fPath e.fPath = 1))) ?_ (fun r hr=>?_)
    ·refine cq (fun hc=>?_) (fun hc=>?_)
     ·have hp:=xQ hc
      rcases h4 with ⟨rfl,h3,h4⟩ | ⟨rfl,h3,h4,h5⟩
      ·rw [cJ (by omega),cJ (by omega),xK (by simp; omega) (by simp; omega)]
       simp only [cond_true]
       refine a7 (.inr ⟨rfl,by simp; omega,?_,fun x hx=>?_⟩)
       ·rw [h4]
        simp only [oQ,if_pos hc,List.append_assoc,List.singleton_append]
       ·have:=hlater x hx
        rw [hp] at this
        exact anj this
      ·have:=h5 y lw
       omega
     ·rcases h4 with ⟨rfl,h3,h4⟩ | ⟨rfl,h3,h4,h5⟩
      ·refine bj (Q:=fun v=>v = decide (0 < iZ y.fPath e.fPath)) (cq (fun h=>a7 (by simp [h])) (fun h=>a7 (by simp [h]))) (fun v hv=>?_)
       subst hv
       by_cases hp:0 < iZ y.fPath e.fPath
       ·have hl1:iZ e.fPath y.fPath = -1:=by
         rw [A3 y.fPath e.fPath]
         rcases EQ y.fPath e.fPath with h | h | h <;> omega
        simp only [hp,decide_true,cond_true]
        rw [xK (by simp; omega) (by simp; omega)]
        simp only [cond_true,ck]
        rw [xK (by simp; omega) (by simp; omega)]
        simp only [cond_true]
        refine a7 (.inr ⟨rfl,by simp; omega,?_,fun x hx=>anj (tK hl1 (hlater x hx))⟩)
        rw [h4]
        simp only [oQ,if_neg hc,if_pos hp,List.append_assoc,List.singleton_append]
        rfl
       ·simp only [hp,decide_false,cond_false,ck]
        rw [xK (by simp; omega) (by simp; omega)]
        simp only [cond_true]
        refine a7 (.inl ⟨rfl,by simp; omega,?_⟩)
        rw [h4]
        simp only [oQ,if_neg hc,if_neg hp,List.append_assoc,List.singleton_append]
      ·refine bj (Q:=fun v=>v = false) (cq (fun h=>a7 rfl) (fun h=>a7 rfl)) (fun v hv=>?_)
       subst hv
       simp only [cond_false,ck]
       rw [xK (by simp; omega) (by simp; omega)]
       simp only [cond_true]
       refine a7 (.inr ⟨rfl,by simp; omega,?_,fun x hx=>h5 x (ik _ hx)⟩)
       rw [h4,List.append_assoc,List.singleton_append]
    ·obtain ⟨a,b⟩:=r
     dsimp only
     rw [u0 (n:=l.length) hil (by omega)]
     exact j8 ⟨⟨n + 1,rfl,by omega,hr⟩,by simp only; omega⟩
   ·have hnl:n = l.length:=by omega
    subst hnl
    rw [List.drop_length] at h4
    rcases h4 with ⟨h5,h3,h4⟩ | ⟨h5,_,h4,_⟩
    ·exact .inl ⟨h5,h3,h4⟩
    ·exact .inr ⟨h5,by rw [h4]; simp⟩
  ·obtain ⟨a,b⟩:=r
   rcases hr with ⟨g1,g0,g2⟩ | ⟨g1,g2⟩ <;> simp only at g1 g2 <;> subst g1
   ·simp only at g0
    dsimp only
    simp only [Bool.not_false,cond_true]
    rw [xK (by simp; omega) (by simp; omega)]
    exact a7 g2.symm
   ·dsimp only
    exact a7 g2.symm
 obtain ⟨r,h1,h2⟩:=this
 rw [h1,h2]
theorem InvE.congr {l:List Ent} {K K':List ByteArray→Prop} {S C S' C':List ByteArray→Int} (h:InvE l K S C) (hk:∀ q,K q↔K' q) (hs:∀ q,S q = S' q) (hc:∀ q,C q = C' q):InvE l K' S' C':=by
 refine ⟨h.srt,fun q=>(h.key q).trans (hk q),fun x hx=>?_,fun q hq=>?_⟩
 ·rw [← hs,← hc]; exact h.val x hx
 ·rw [← hs,← hc]; exact h.zero q fun h=>hq ((hk q).1 h)
def qY (E:List Ent) (q:List ByteArray):Prop:=q ≠ []∧∃ e∈E,q <+: e.fPath
def gQ (E:List Ent) (q:List ByteArray):Int:=(E.map fun e=>if q = e.fPath then e.fSelf else 0).sum
def jZ (E:List Ent) (q:List ByteArray):Int:=(E.map fun e=>if q = e.fPath then e.fCount else 0).sum
def szE (E:List Ent):Nat:=(E.map fun e=>e.fPath.length + 1).sum
structure BdE (E:List Ent):Prop where
 num:∀ e∈E,0≤e.fSelf∧0≤e.fCount∧e.fPath ≠ []
 sz:szE E≤100000
 self:(E.map (·.fSelf)).sum≤4000000000000000000
 cnt:(E.map (·.fCount)).sum≤4000000000000000000
theorem pZ {α:Type} (f:α→Int) (p:α→Prop) [DecidablePred p]:∀ l:List α,(∀ x∈l,0≤f x)→0≤(l.map fun x=>if p x then f x else 0).sum∧(l.map fun x=>if p x then f x else 0).sum≤(l.map f).sum
 | [],_=>⟨Int.le_refl _,Int.le_refl _⟩
 | x :: l,h=>by
  obtain ⟨h1,h2⟩:=pZ f p l fun y hy=>h y (ik _ hy)
  have h3:=h x lw
  simp only [nk,List.sum_cons]
  split <;> omega
theorem y8 {α:Type} (f:α→Int):∀ (l:List α) (i:Nat),(∀ x∈l,0≤f x)→((l.take i).map f).sum≤(l.map f).sum
 | [],i,_=>by simp
 | x :: l,0,h=>by
  have h1:=h x lw
  have h2:=y8 f l 0 fun y hy=>h y (ik _ hy)
  simp only [List.take_zero,List.map_nil,List.sum_nil,nk,List.sum_cons] at h2 ⊢
  omega
 | x :: l,i + 1,h=>by
  have h2:=y8 f l i fun y hy=>h y (ik _ hy)
  simp only [List.take_succ_cons,nk,List.sum_cons]
  omega
theorem Ij {α:Type} (f:α→Int) {l:List α} {x:α} (h:∀ y∈l,0≤f y) (hx:x∈l):f x≤(l.map f).sum:=by
 induction l with
 | nil=>simp at hx
 | cons a l ih =>
  simp only [nk,List.sum_cons]
  have h0:0≤(l.map f).sum:=by
   have:=y8 f l 0 fun y hy=>h y (ik _ hy)
   simpa using this
  rcases iw.1 hx with rfl | hx
  ·omega
  ·have:=ih (fun y hy=>h y (ik _ hy)) hx
   have:=h a lw
   omega
theorem agz:∀ {E:List Ent} {e:Ent},e∈E→e.fPath.length + 1≤szE E
 | [],_,h=>by simp at h
 | a :: E,e,h=>by
  unfold szE
  simp only [nk,List.sum_cons]
  rcases iw.1 h with rfl | h
  ·omega
  ·have:=agz h; unfold szE at this; omega
theorem aGY (E:List Ent) (i:Nat):szE (E.take i)≤szE E:=by
 induction E generalizing i with
 | nil=>simp
 | cons a E ih =>
  cases i with
  | zero=>unfold szE; simp
  | succ i =>
   have:=ih i
   unfold szE at this ⊢
   simp only [List.take_succ_cons,nk,List.sum_cons]; omega
theorem BdE.one {E:List Ent} (h:BdE E) {e:Ent} (he:e∈E):aWx e:=by
 have h1:=h.num e he
 have h2:=Ij (·.fSelf) (fun y hy=>(h.num y hy).1) he
 have h3:=Ij (·.fCount) (fun y hy=>(h.num y hy).2.1) he
 have h4:=agz he
 have:=h.sz; have:=h.self; have:=h.cnt
 exact ⟨h1.1,by omega,h1.2.1,by omega,by omega⟩
theorem BdE.bd {E:List Ent} (h:BdE E) (i:Nat) (q:List ByteArray):0≤gQ (E.take i) q∧gQ (E.take i) q≤4000000000000000000∧0≤jZ (E.take i) q∧jZ (E.take i) q≤4000000000000000000:=by
 have hm:∀ x∈E.take i,x∈E:=fun x hx=>List.mem_of_mem_take hx
 have h1:=pZ (fun e:Ent=>e.fSelf) (fun e=>q = e.fPath) (E.take i) fun x hx=>(h.num x (hm x hx)).1
 have h2:=pZ (fun e:Ent=>e.fCount) (fun e=>q = e.fPath) (E.take i) fun x hx=>(h.num x (hm x hx)).2.1
 have h3:=y8 (·.fSelf) E i fun x hx=>(h.num x hx).1
 have h4:=y8 (·.fCount) E i fun x hx=>(h.num x hx).2.1
 have:=h.self; have:=h.cnt
 unfold gQ jZ
 omega
theorem Q8 (e:Ent):∀ l:List Ent,(oQ l e).length≤l.length + 1
 | []=>by simp [oQ]
 | x :: l=>by
  have:=Q8 e l
  unfold oQ
  split
  ·simp
  ·split
   ·simp
   ·simp only [List.length_cons]; omega
theorem X0 {l:List ByteArray} {n:Nat} (h:n≤l.length):G0 l 0 (n:Int) = some (l.take n):=by
 unfold G0
 rw [if_pos ⟨by omega,by omega,by omega⟩]
 simp
theorem aMx {p q:List ByteArray}:(q ≠ []∧q <+: p)↔∃ m,1≤m∧m≤p.length∧q = p.take m:=by
 constructor
 ·rintro ⟨h1,h2⟩
  refine ⟨q.length,?_,h2.length_le,(List.prefix_iff_eq_take.1 h2)⟩
  have:=List.length_pos_iff.2 h1; omega
 ·rintro ⟨m,h1,h2,rfl⟩
  refine ⟨?_,List.take_prefix m p⟩
  intro h
  have:=congrArg List.length h
  simp only [List.length_take,List.length_nil] at this
  omega
theorem aZX {E:List Ent} (hE:BdE E) {i:Nat} {e:Ent} (he:E[i]? = some e) {l:List Ent} {K:List ByteArray→Prop} {S C:List ByteArray→Int} (hI:InvE l K S C) (hK:∀ q,K q→q.length≤1000000) (hb:∀ q,0≤S q∧S q≤4000000000000000000∧0≤C q∧C q≤4000000000000000000) (hl:l.length + e.fPath.length + 1≤100000) :
  Ok (loop (mV E (i:Int)) (l,1)) (fun r=>InvE r (fun q=>K q∨(q ≠ []∧q <+: e.fPath)) S C∧r.length≤l.length + e.fPath.length):=by
 have hem:=fw he
 have hpl:e.fPath.length≤1000000:=(hE.one hem).2.2.2.2
 refine rW (fun s:List Ent × Int=>∃ n:Nat,s.2 = (n:Int)∧1≤n∧n≤e.fPath.length + 1∧s.1.length + 1≤l.length + n∧InvE s.1 (fun q=>K q∨∃ m,1≤m∧m < n∧q = e.fPath.take m) S C) (fun s=>((e.fPath.length:Int) + 1 - s.2).toNat) (fun s hs=>?_) ⟨1,rfl,gk _,by omega,by simp,hI.congr (fun q=>⟨.inl,fun h=>h.elim id fun ⟨m,h1,h2,_⟩=>by omega⟩) (fun _=>rfl) (fun _=>rfl)⟩ (by simp [gq]; omega)
 obtain ⟨a,c⟩:=s
 obtain ⟨n,h1,h2,h3,h4,h5⟩:=hs
 simp only at h1 h4 h5
 subst h1
 unfold mV
 dsimp only
 rw [iW,he]
 simp only [ck]
 refine cq (fun hi=>?_) (fun hi=>dZ ⟨?_,by omega⟩)
 ·have hnl:n≤e.fPath.length:=by omega
  rw [X0 hnl]
  simp only [ck]
  rw [aUX h5.srt (by omega) (fun x hx=>?_) ⟨by simp,by simp,by simp,by simp,by simp only [List.length_take]; omega⟩]
  ·simp only [ck]
   rw [u0 (n:=10000000) (by omega) (by omega)]
   refine j8 ⟨⟨n + 1,rfl,by omega,by omega,?_,?_⟩,by simp only; omega⟩
   ·have:=Q8 ({ fPath:=e.fPath.take n,fSelf:=0,fCount:=0 }:Ent) a
    simp only; omega
   ·refine (h5.put _).congr (fun q=>?_) (fun q=>by simp) (fun q=>by simp)
    constructor
    ·rintro ((h | ⟨m,g1,g2,g3⟩) | h)
     ·exact .inl h
     ·exact .inr ⟨m,g1,by omega,g3⟩
     ·exact .inr ⟨n,h2,by omega,h⟩
    ·rintro (h | ⟨m,g1,g2,g3⟩)
     ·exact .inl (.inl h)
     ·by_cases e1:m = n
      ·subst e1; exact .inr g3
      ·exact .inl (.inr ⟨m,g1,by omega,g3⟩)
  ·obtain ⟨v1,v2⟩:=h5.val x hx
   obtain ⟨b1,b2,b3,b4⟩:=hb x.fPath
   refine ⟨by omega,by omega,by omega,by omega,?_⟩
   rcases (h5.key x.fPath).1 ⟨x,hx,rfl⟩ with h | ⟨m,_,_,h⟩
   ·exact hK _ h
   ·rw [h,List.length_take]; omega
 ·refine h5.congr (fun q=>?_) (fun _=>rfl) (fun _=>rfl)
  rw [aMx]
  constructor
  ·rintro (h | ⟨m,g1,g2,g3⟩)
   ·exact .inl h
   ·exact .inr ⟨m,g1,by omega,g3⟩
  ·rintro (h | ⟨m,g1,g2,g3⟩)
   ·exact .inl h
   ·exact .inr ⟨m,g1,by omega,g3⟩
theorem A1 {α:Type} {l:List α} {i:Nat} {x:α} (h:l[i]? = some x):l.take (i + 1) = l.take i++[x]:=by
 rw [List.take_add_one,h]; rfl
theorem a0x {E:List Ent} (hE:BdE E):Ok (loop (mz E) ([],0)) (fun r=>InvE r (qY E) (gQ E) (jZ E)∧r.length≤100000):=by
 have hEl:E.length≤100000:=by
  have:∀ E:List Ent,E.length≤szE E:=by
   intro E
   induction E with
   | nil=>simp
   | cons a E ih=>unfold szE at ih ⊢; simp only [nk,List.sum_cons,List.length_cons]; omega
  exact Nat.le_trans (this E) hE.sz
 refine U1 E.length (fun (l:List Ent) n=>InvE l (qY (E.take n)) (gQ (E.take n)) (jZ (E.take n))∧l.length≤szE (E.take n)) (by omega) ⟨⟨List.Pairwise.nil,fun q=>?_,fun x hx=>by simp at hx,fun q _=>⟨rfl,rfl⟩⟩,by simp⟩ (fun l i hI h2=>?_)
 ·constructor
  ·rintro ⟨x,hx,_⟩; simp at hx
  ·rintro ⟨_,e,he,_⟩; simp at he
 ·obtain ⟨hI,hl⟩:=hI
  unfold mz
  dsimp only
  refine cq (fun hi=>?_) (fun hi=>dZ ?_)
  ·have hil:i < E.length:=by omega
   obtain ⟨e,he⟩ : ∃ e,E[i]? = some e:=⟨E[i]'hil,bk hil⟩
   have hem:=fw he
   have hsn:=A1 he
   have hsz:szE (E.take (i + 1)) = szE (E.take i) + (e.fPath.length + 1):=by
    rw [hsn]; unfold szE; rw [vk,List.sum_append]; simp
   have hst:=aGY E (i + 1)
   have hsz0:=hE.sz
   have hb:=hE.bd i
   have hK:∀ q,qY (E.take i) q→q.length≤1000000:=fun q ⟨_,x,hx,hp⟩=>by
    have h1:=agz (List.mem_of_mem_take hx)
    have h2:=hp.length_le
    omega
   refine bj (aZX hE he hI hK hb (by omega)) (fun r hr=>?_)
   obtain ⟨hr1,hr2⟩:=hr
   rw [iW,he]
   simp only [ck]
   rw [aUX hr1.srt (by omega) (fun x hx=>?_) (hE.one hem)]
   ·simp only [ck]
    rw [u0 (n:=E.length) hil (by omega)]
    have hpl:=Q8 e r
    refine j8 ⟨hil,rfl,?_,by show (oQ r e).length≤_; omega⟩
    refine (hr1.put e).congr (fun q=>?_) (fun q=>?_) (fun q=>?_)
    ·rw [hsn]
     unfold qY
     constructor
     ·rintro ((⟨h1,x,hx,h2⟩ | ⟨h1,h2⟩) | rfl)
      ·exact ⟨h1,x,List.mem_append_left _ hx,h2⟩
      ·exact ⟨h1,e,List.mem_append_right _ (by simp),h2⟩
      ·exact ⟨(hE.num e hem).2.2,e,List.mem_append_right _ (by simp),List.prefix_refl _⟩
     ·rintro ⟨h1,x,hx,h2⟩
      rcases qw.1 hx with hx | hx
      ·exact .inl (.inl ⟨h1,x,hx,h2⟩)
      ·rw [dk.1 hx] at h2
       exact .inl (.inr ⟨h1,h2⟩)
    ·rw [hsn]; unfold gQ; rw [vk,List.sum_append]; simp
    ·rw [hsn]; unfold jZ; rw [vk,List.sum_append]; simp
   ·obtain ⟨v1,v2⟩:=hr1.val x hx
    obtain ⟨b1,b2,b3,b4⟩:=hb x.fPath
    refine ⟨by omega,by omega,by omega,by omega,?_⟩
    rcases (hr1.key x.fPath).1 ⟨x,hx,rfl⟩ with h | ⟨_,h⟩
    ·exact hK _ h
    ·have:=h.length_le
     have:=(hE.one hem).2.2.2.2
     omega
  ·have hil:i = E.length:=by omega
   subst hil
   rw [List.take_length] at hI hl
   exact ⟨hI,Nat.le_trans hl hE.sz⟩
def F8 (all:List Ent) (q:List ByteArray):Int:=(all.map fun x=>if q <+: x.fPath then x.fSelf else 0).sum
def aSZ (all:List Ent) (p:List ByteArray) (x:Int):Prop:=(p = []∧x = -1)∨(p ≠ []∧∃ (k:Nat) (z:Ent),all[k]? = some z∧z.fPath = p∧x = (k:Int))
structure NodesE (all:List Ent) (l:List ax):Prop where
 len:l.length = all.length
 nod:∀ (j:Nat) x y,all[j]? = some x→l[j]? = some y→∃ p,x.fPath = p++[y.fName]∧y.fSelf = x.fSelf∧y.fCount = x.fCount∧y.fTotal = F8 all x.fPath∧aSZ all p y.fParent
theorem P6 {all:List Ent} (h:sq all) {j k:Nat} {x y:Ent} (hx:all[j]? = some x) (hy:all[k]? = some y) (e:x.fPath = y.fPath):j = k:=by
 have key:∀ {j k:Nat} {x y:Ent},j < k→all[j]? = some x→all[k]? = some y→iZ x.fPath y.fPath = -1:=by
  intro j k x y hjk hx hy
  obtain ⟨h1,rfl⟩:=bw.1 hx
  obtain ⟨h2,rfl⟩:=bw.1 hy
  exact List.pairwise_iff_getElem.1 h j k h1 h2 hjk
 rcases Nat.lt_trichotomy j k with h1 | h1 | h1
 ·have:=key h1 hx hy; rw [e] at this; exact (iK this).elim
 ·exact h1
 ·have:=key h1 hy hx; rw [e] at this; exact (iK this).elim
theorem NodesE.uniq {all:List Ent} (hs:sq all) {l l':List ax} (h:NodesE all l) (h':NodesE all l'):l = l':=by
 apply List.ext_getElem?
 intro j
 by_cases hj:j < all.length
 ·obtain ⟨x,hx⟩ : ∃ x,all[j]? = some x:=⟨all[j]'hj,bk hj⟩
  obtain ⟨y,hy⟩ : ∃ y,l[j]? = some y:=⟨l[j]'(by rw [h.len]; exact hj),bk _⟩
  obtain ⟨z,hz⟩ : ∃ y,l'[j]? = some y:=⟨l'[j]'(by rw [h'.len]; exact hj),bk _⟩
  obtain ⟨p,a1,a2,a3,a4,a5⟩:=h.nod j x y hx hy
  obtain ⟨q,b1,b2,b3,b4,b5⟩:=h'.nod j x z hx hz
  have e:=a1.symm.trans b1
  have e2:=List.append_inj' e rfl
  simp only [List.cons.injEq,and_true] at e2
  obtain ⟨rfl,e3⟩:=e2
  have e4:y.fParent = z.fParent:=by
   rcases a5 with ⟨_,g1⟩ | ⟨g0,k,u,g1,g2,g3⟩ <;> rcases b5 with ⟨_,k1⟩ | ⟨k0,m,v,k1,k2,k3⟩
   ·rw [g1,k1]
   ·exact absurd ‹_› k0
   ·exact absurd ‹_› g0
   ·rw [g3,k3,P6 hs g1 k1 (g2.trans k2.symm)]
  rw [hy,hz]
  cases y with | mk y1 y2 y3 y4 y5 => cases z with | mk z1 z2 z3 z4 z5 =>
  simp only at a2 a3 a4 b2 b3 b4 e3 e4
  rw [e3,e4,a2,a3,a4,b2,b3,b4]
 ·rw [uw (by rw [h.len]; omega),uw (by rw [h'.len]; omega)]
theorem aKq {p q:List ByteArray} (hp:p.length≤1000000) (hq:q.length≤1000000):jq p q = some (decide (q <+: p)):=by
 unfold jq
 by_cases h:(q.length:Int)≤(p.length:Int)
 ·simp only [h,decide_true,cond_true]
  rw [X0 (by omega)]
  simp only [ck]
  rw [RZ _ _ (by rw [List.length_take]; omega) (by omega)]
  simp only [ck]
  congr 1
  rw [decide_eq_decide]
  constructor
  ·intro h1
   have:=xQ h1
   rw [← this]; exact List.take_prefix _ _
  ·intro h1
   rw [← List.prefix_iff_eq_take.1 h1]
   exact EY _
 ·have : ¬ q <+: p:=fun h1=>h (by have:=h1.length_le; omega)
  simp only [h,decide_false,cond_false,ck,this]
structure SmallE (all:List Ent):Prop where
 len:all.length≤5000
 num:∀ x∈all,0≤x.fSelf∧x.fSelf≤1000000000000000∧x.fPath.length≤1000000∧x.fPath ≠ []
theorem M1 {α:Type} (f:α→Int) (B:Int) (hB:0≤B):∀ l:List α,(∀ x∈l,0≤f x∧f x≤B)→0≤(l.map f).sum∧(l.map f).sum≤l.length * B
 | [],_=>by simp
 | x :: l,h=>by
  obtain ⟨h1,h2⟩:=M1 f B hB l fun y hy=>h y (ik _ hy)
  have h3:=h x lw
  simp only [nk,List.sum_cons,List.length_cons]
  have:((l.length + 1:Nat):Int) * B = l.length * B + B:=by
   rw [show ((l.length + 1:Nat):Int) = (l.length:Int) + 1 by omega,Int.add_mul,Int.one_mul]
  rw [this]; omega
theorem SmallE.bd {all:List Ent} (h:SmallE all) (q:List ByteArray) (n:Nat):0≤F8 (all.take n) q∧F8 (all.take n) q≤5000000000000000000:=by
 unfold F8
 have h1:=M1 (fun x:Ent=>if q <+: x.fPath then x.fSelf else 0) 1000000000000000 (by omega) (all.take n) fun x hx=>by
  have:=h.num x (List.mem_of_mem_take hx)
  split <;> omega
 have h2:((all.take n).length:Int)≤5000:=by rw [List.length_take]; have:=h.len; omega
 have h3:((all.take n).length:Int) * 1000000000000000≤5000 * 1000000000000000:=Int.mul_le_mul_of_nonneg_right h2 (by omega)
 omega
theorem aYW {all:List Ent} (hs:sq all) (hsm:SmallE all) (hcl:∀ p a,(∃ x∈all,x.fPath = p++[a])→p ≠ []→∃ x∈all,x.fPath = p) {j:Nat} {y:Ent} (hy:all[j]? = some y) {p:List ByteArray} {a:ByteArray} (hp:y.fPath = p++[a]) :
  Ok (loop (m4 all y) ((-1),0,0)) (fun r=>aSZ all p r.1∧r.2 = F8 all y.fPath):=by
 have hym:=fw hy
 obtain ⟨y1,y2,y3,y4⟩:=hsm.num y hym
 have hpl:y.fPath.length = p.length + 1:=by rw [hp]; simp
 have hlen:=hsm.len
 refine rW (fun s:Int × Int × Int=>∃ n:Nat,s.2.2 = (n:Int)∧n≤all.length∧s.2.1 = F8 (all.take n) y.fPath∧((s.1 = -1∧(p = []∨∀ (k:Nat) z,k < n→all[k]? = some z→z.fPath ≠ p))∨(p ≠ []∧∃ (k:Nat) (z:Ent),k < n∧all[k]? = some z∧z.fPath = p∧s.1 = (k:Int)))) (fun s=>((all.length:Int) - s.2.2).toNat) (fun s hs'=>?_) ⟨0,rfl,Nat.zero_le _,rfl,.inl ⟨rfl,.inr fun k z hk=>by omega⟩⟩ (by simp [gq]; omega)
 obtain ⟨par,tot,i⟩:=s
 obtain ⟨n,h1,h2,h3,h4⟩:=hs'
 simp only at h1 h3 h4
 subst h1
 unfold m4
 dsimp only
 refine cq (fun hi=>?_) (fun hi=>dZ ?_)
 ·have hil:n < all.length:=by omega
  obtain ⟨x,hx⟩ : ∃ x,all[n]? = some x:=⟨all[n]'hil,bk hil⟩
  have hxm:=fw hx
  obtain ⟨x1,x2,x3,x4⟩:=hsm.num x hxm
  have hsn:F8 (all.take (n + 1)) y.fPath = F8 (all.take n) y.fPath + if y.fPath <+: x.fPath then x.fSelf else 0:=by
   rw [A1 hx]; unfold F8; rw [vk,List.sum_append]; simp
  have hb:=hsm.bd y.fPath (n + 1)
  rw [iW,hx]
  simp only [ck]
  rw [aKq x3 y3]
  simp only [ck]
  refine bj (Q:=fun r:Int × Int=>r.2 = F8 (all.take (n + 1)) y.fPath∧((r.1 = -1∧(p = []∨∀ (k:Nat) z,k < n + 1→all[k]? = some z→z.fPath ≠ p))∨(p ≠ []∧∃ (k:Nat) (z:Ent),k < n + 1∧all[k]? = some z∧z.fPath = p∧r.1 = (k:Int)))) ?_ (fun r hr=>?_)
  ·refine bj (Q:=fun v=>v = F8 (all.take (n + 1)) y.fPath) ?_ (fun v hv=>?_)
   ·refine cq (fun h=>a7 ?_) (fun h=>a7 ?_)
    ·rw [hsn,if_pos h] at hb ⊢
     rw [h3,cJ (by omega)]
    ·rw [hsn,if_neg h,h3]; omega
   subst hv
   refine bj (Q:=fun v=>v = true↔(p ≠ []∧x.fPath = p)) ?_ (fun v hv=>?_)
   ·refine cq (fun h=>?_) (fun h=>a7 ?_)
    ·rw [hpl,cJ (by omega),show (((p.length + 1:Nat):Int) - 1) = ((p.length:Nat):Int) by omega,X0 (by omega)]
     simp only [ck]
     have htk:y.fPath.take p.length = p:=by rw [hp]; simp
     rw [htk,RZ _ _ x3 (by omega)]
     simp only [ck]
     refine a7 ?_
     rw [vw]
     constructor
     ·intro h5
      refine ⟨fun h6=>?_,xQ h5⟩
      rw [h6] at hpl; simp only [List.length_nil] at hpl; omega
     ·rintro ⟨_,h5⟩
      rw [h5]; exact EY _
    ·refine ⟨fun h=>by simp at h,fun ⟨h5,_⟩=>?_⟩
     have:=List.length_pos_iff.2 h5
     omega
   refine e9 (fun e=>a7 ⟨rfl,?_⟩) (fun e=>a7 ⟨rfl,?_⟩)
   ·obtain ⟨g1,g2⟩:=hv.1 e
    exact .inr ⟨g1,n,x,by omega,hx,g2,rfl⟩
   ·have hne : ¬ (p ≠ []∧x.fPath = p):=fun h=>by rw [hv.2 h] at e; simp at e
    rcases h4 with ⟨g1,g2⟩ | ⟨g0,k,z,g1,g2⟩
    ·refine .inl ⟨g1,?_⟩
     rcases g2 with g2 | g2
     ·exact .inl g2
     ·by_cases h0:p = []
      ·exact .inl h0
      ·refine .inr fun k z hk hz h5=>?_
       by_cases e2:k = n
       ·subst e2; rw [hx] at hz; cases hz; exact hne ⟨h0,h5⟩
       ·exact g2 k z (by omega) hz h5
    ·exact .inr ⟨g0,k,z,by omega,g2⟩
  ·obtain ⟨a1,a2⟩:=r
   obtain ⟨r1,r2⟩:=hr
   dsimp only
   rw [u0 (n:=all.length) hil (by omega)]
   exact j8 ⟨⟨n + 1,rfl,by omega,r1,r2⟩,by simp only; omega⟩
 ·have hnl:n = all.length:=by omega
  subst hnl
  rw [List.take_length] at h3
  refine ⟨?_,h3⟩
  rcases h4 with ⟨g1,g2⟩ | ⟨g0,k,z,_,g2,g3,g4⟩
  ·by_cases h0:p = []
   ·exact .inl ⟨h0,g1⟩
   ·obtain ⟨x,hx,e⟩:=hcl p a ⟨y,hym,hp⟩ h0
    obtain ⟨k,hk,rfl⟩:=List.mem_iff_getElem.1 hx
    rcases g2 with g2 | g2
    ·exact absurd g2 h0
    ·exact absurd e (g2 k _ hk (bk hk))
  ·exact .inr ⟨g0,k,z,g2,g3,g4⟩
theorem aYY {all:List Ent} (hs:sq all) (hsm:SmallE all) (hcl:∀ p a,(∃ x∈all,x.fPath = p++[a])→p ≠ []→∃ x∈all,x.fPath = p) :
  Ok (loop (mJ all) ([],0)) (fun l=>NodesE all l):=by
 have hlen:=hsm.len
 refine U1 all.length (fun (l:List ax) n=>l.length = n∧∀ (j:Nat) x y,all[j]? = some x→l[j]? = some y→∃ p,x.fPath = p++[y.fName]∧y.fSelf = x.fSelf∧y.fCount = x.fCount∧y.fTotal = F8 all x.fPath∧aSZ all p y.fParent) (by omega) ⟨rfl,fun j x y _ h=>by simp at h⟩ (fun l i hI h2=>?_)
 obtain ⟨hl,hI⟩:=hI
 unfold mJ
 dsimp only
 refine cq (fun hi=>?_) (fun hi=>dZ ⟨by omega,hI⟩)
 have hil:i < all.length:=by omega
 obtain ⟨y,hy⟩ : ∃ x,all[i]? = some x:=⟨all[i]'hil,bk hil⟩
 obtain ⟨y1,y2,y3,y4⟩:=hsm.num y (fw hy)
 obtain ⟨p,a,hp⟩ : ∃ p a,y.fPath = p++[a]:=⟨_,_,(List.dropLast_concat_getLast y4).symm⟩
 have hpl:y.fPath.length = p.length + 1:=by rw [hp]; simp
 rw [iW,hy]
 simp only [ck]
 rw [hpl,cJ (by omega),show (((p.length + 1:Nat):Int) - 1) = ((p.length:Nat):Int) by omega,iW]
 have hla:y.fPath[p.length]? = some a:=by rw [hp]; simp
 rw [hla]
 simp only [ck]
 refine bj (aYW hs hsm hcl hy hp) (fun r hr=>?_)
 obtain ⟨r1,r2⟩:=r
 obtain ⟨g1,g2⟩:=hr
 simp only at g1 g2
 dsimp only
 rw [xK (by simp; omega) (by simp; omega)]
 simp only [cond_true]
 rw [u0 (n:=all.length) hil (by omega)]
 refine j8 ⟨hil,rfl,by simp [hl],fun j x z hx hz=>?_⟩
 rcases Nat.lt_or_ge j l.length with h | h
 ·rw [nw h] at hz
  exact hI j x z hx hz
 ·rw [uk h] at hz
  have hj:j = i:=by
   have:=(bw.1 hz).1
   simp only [List.length_singleton] at this
   omega
  subst hj
  rw [hl,Nat.sub_self] at hz
  cases hz
  rw [hy] at hx; cases hx
  exact ⟨p,hp,rfl,rfl,g2,g1⟩
open Go.RM (TN Ar rj LZ T4 yZ L7 GX N5 TX ar0 D4 B7 iX BW C3 ux y9 zY)
theorem aVq {p q:List ByteArray} {a:ByteArray}:q <+: p++[a]↔q <+: p∨q = p++[a]:=by
 constructor
 ·intro h
  rw [List.prefix_iff_eq_take] at h
  rcases Nat.lt_or_ge p.length q.length with h1 | h1
  ·right
   rw [h,List.take_of_length_le (by simp; omega)]
  ·left
   rw [List.take_append_of_le_length h1] at h
   rw [h]; exact List.take_prefix _ _
 ·rintro (h | rfl)
  ·exact h.trans (List.prefix_append _ _)
  ·exact List.prefix_refl _
structure WFA (ar:Ar) (L:List (List ByteArray)):Prop where
 len:L.length = ar.length
 root:L[0]? = some []
 kid:∀ (i:Nat) t p,ar[i]? = some t→L[i]? = some p→∀ e∈t.kids.getD [],L[e.2]? = some (p++[e.1])
 nd:L.Nodup
 clo:∀ (k:Nat) p a,L[k]? = some (p++[a])→∃ (i:Nat) (t:TN),L[i]? = some p∧ar[i]? = some t∧(a,k)∈t.kids.getD []
 knd:∀ (i:Nat) t,ar[i]? = some t→((t.kids.getD []).map (·.1)).Nodup
def ValA (ar:Ar) (L:List (List ByteArray)) (S C:List ByteArray→Int):Prop:=∀ (i:Nat) t p,ar[i]? = some t→L[i]? = some p→t.self = S p∧t.count = C p
theorem asK {α:Type} {L:List α} (h:L.Nodup) {i j:Nat} {x:α} (hi:L[i]? = some x) (hj:L[j]? = some x):i = j:=by
 obtain ⟨h1,e1⟩:=bw.1 hi
 obtain ⟨h2,e2⟩:=bw.1 hj
 exact (List.getElem_inj h).1 (e1.trans e2.symm)
theorem WFA.same {ar:Ar} {L:List (List ByteArray)} (h:WFA ar L) {i:Nat} {t:TN} (ht:ar[i]? = some t) {t':TN} (hk:t'.kids.getD [] = t.kids.getD []):WFA (ar.set i t') L:=by
 have bq:∀ (j:Nat) u,(ar.set i t')[j]? = some u→∃ u',ar[j]? = some u'∧u.kids.getD [] = u'.kids.getD []:=fun j u hu=>by
  rcases iX hu with ⟨rfl,rfl⟩ | ⟨_,hu⟩
  ·exact ⟨t,ht,hk⟩
  ·exact ⟨u,hu,rfl⟩
 refine ⟨by rw [sk]; exact h.len,h.root,fun j u p hu hp e he=>?_,h.nd,fun k p a hk'=>?_,fun j u hu=>?_⟩
 ·obtain ⟨u',h1,h2⟩:=bq j u hu
  rw [h2] at he; exact h.kid j u' p h1 hp e he
 ·obtain ⟨j,u,h1,h2,h3⟩:=h.clo k p a hk'
  by_cases e:i = j
  ·subst e
   rw [ht] at h2; cases h2
   exact ⟨i,t',h1,by rw [List.getElem?_set,if_pos rfl,if_pos (bw.1 ht).1],by rw [hk]; exact h3⟩
  ·exact ⟨j,u,h1,by rw [List.getElem?_set,if_neg e]; exact h2,h3⟩
 ·obtain ⟨u',h1,h2⟩:=bq j u hu
  rw [h2]; exact h.knd j u' h1
theorem ValA.set {ar:Ar} {L:List (List ByteArray)} {S C:List ByteArray→Int} (h:ValA ar L S C) {i:Nat} {t t':TN} (ht:ar[i]? = some t) (h1:t'.self = t.self) (h2:t'.count = t.count):ValA (ar.set i t') L S C:=fun j u p hu hp=>by
 rcases iX hu with ⟨rfl,rfl⟩ | ⟨_,hu⟩
 ·rw [h1,h2]; exact h i t p ht hp
 ·exact h j u p hu hp
theorem WFA.down {ar:Ar} {L:List (List ByteArray)} {S C:List ByteArray→Int} (h:WFA ar L) (hv:ValA ar L S C) (hz:∀ q,q ∉ L→S q = 0∧C q = 0) {i:Nat} {p:List ByteArray} (hp:L[i]? = some p) (s:ByteArray) :
  ∃ ar' k L',LZ (ar,i) s = some (ar',k)∧WFA ar' L'∧ValA ar' L' S C∧L'[k]? = some (p++[s])∧(∀ q,q∈L'↔q∈L∨q = p++[s]):=by
 obtain ⟨t,ht⟩ : ∃ t,ar[i]? = some t:=⟨ar[i]'(by rw [← h.len]; exact (bw.1 hp).1),bk _⟩
 have hin:=(bw.1 ht).1
 have hdn:LZ (ar,i) s = some (match rj s (t.kids.getD []) with
  | some k=>(ar.set i { t with kids:=some (t.kids.getD []) },k)
  | none=>(ar.set i { t with kids:=some (t.kids.getD []++[(s,ar.length)]) }++[⟨0,0,none⟩],ar.length)):=by
  unfold LZ
  simp only [ht,jk]
  cases rj s (t.kids.getD []) <;> rfl
 cases hk:rj s (t.kids.getD []) with
 | some k =>
  rw [hk] at hdn
  have hm:=D4 hk
  have hLk:=h.kid i t p ht hp _ hm
  refine ⟨_,_,L,hdn,h.same ht rfl,hv.set ht rfl rfl,hLk,fun q=>⟨.inl,fun hq=>hq.elim id fun e=>?_⟩⟩
  rw [e]; exact fw hLk
 | none =>
  rw [hk] at hdn
  have hnn:=B7 hk
  have hnew:p++[s] ∉ L:=fun hm=>by
   obtain ⟨k,hk',e⟩:=List.mem_iff_getElem.1 hm
   obtain ⟨j,u,h1,h2,h3⟩:=h.clo k p s (by rw [bk hk',e])
   have:=asK h.nd h1 hp
   subst this
   rw [ht] at h2; cases h2
   exact hnn _ h3 rfl
  have hlen:=h.len
  refine ⟨_,_,L++[p++[s]],hdn,⟨by simp [hlen],?_,fun j u r hu hr e he=>?_,?_,fun k r a hk'=>?_,fun j u hu=>?_⟩,fun j u r hu hr=>?_,by rw [uk (by omega),hlen,Nat.sub_self]; rfl,fun q=>by simp⟩
  ·rw [nw (bw.1 h.root).1]; exact h.root
  ·rcases BW hu with ⟨h1,hu⟩ | ⟨_,rfl⟩
   ·rw [sk] at h1
    rw [nw (by omega)] at hr
    have put:∀ k q,L[k]? = some q→(L++[p++[s]])[k]? = some q:=fun k q hq=>by rw [nw (bw.1 hq).1]; exact hq
    rcases iX hu with ⟨rfl,rfl⟩ | ⟨_,hu⟩
    ·rw [hp] at hr; cases hr
     rcases qw.1 (show e ∈ t.kids.getD [] ++ [(s,ar.length)] from he) with he | he
     ·exact put _ _ (h.kid i t p ht hp e he)
     ·rw [dk.1 he]
      show (L++[p++[s]])[ar.length]? = _
      rw [uk (by omega),hlen,Nat.sub_self]; rfl
    ·exact put _ _ (h.kid j u r hu hr e he)
   ·simp at he
  ·rw [List.nodup_append]
   exact ⟨h.nd,by simp,fun a ha c hc=>by rw [dk.1 hc]; intro e; exact hnew (e ▸ ha)⟩
  ·have grow:∀ (j:Nat) u,ar[j]? = some u→∃ u',(ar.set i { t with kids:=some (t.kids.getD []++[(s,ar.length)]) }++[⟨0,0,none⟩])[j]? = some u'∧∀ e∈u.kids.getD [],e∈u'.kids.getD []:=fun j u hu=>by
    have hj:=(bw.1 hu).1
    rw [nw (by rw [sk]; exact hj),List.getElem?_set]
    by_cases e:i = j
    ·subst e
     rw [ht] at hu; cases hu
     exact ⟨_,by rw [if_pos rfl,if_pos hin],fun e he=>List.mem_append_left _ he⟩
    ·rw [if_neg e]; exact ⟨u,hu,fun e he=>he⟩
   rcases BW hk' with ⟨h1,hk'⟩ | ⟨h1,e⟩
   ·obtain ⟨j,u,h1,h2,h3⟩:=h.clo k r a hk'
    obtain ⟨u',h4,h5⟩:=grow j u h2
    exact ⟨j,u',by rw [nw (bw.1 h1).1]; exact h1,h4,h5 _ h3⟩
   ·have e2:=List.append_inj' e rfl
    simp only [List.cons.injEq,and_true] at e2
    obtain ⟨rfl,rfl⟩:=e2
    refine ⟨i,_,by rw [nw (bw.1 hp).1]; exact hp,by rw [nw (by rw [sk]; exact hin),List.getElem?_set,if_pos rfl,if_pos hin],?_⟩
    show (a,k)∈t.kids.getD []++[(a,ar.length)]
    rw [h1,hlen]; simp
  ·rcases BW hu with ⟨h1,hu⟩ | ⟨_,rfl⟩
   ·rcases iX hu with ⟨rfl,rfl⟩ | ⟨_,hu⟩
    ·show ((t.kids.getD []++[(s,ar.length)]).map (·.1)).Nodup
     rw [vk,List.nodup_append]
     refine ⟨h.knd i t ht,by simp,fun a ha c hc=>?_⟩
     simp only [nk,List.map_nil,dk] at hc
     obtain ⟨e,he,rfl⟩:=qk.1 ha
     rw [hc]; exact hnn e he
    ·exact h.knd j u hu
   ·simp
  ·rcases BW hu with ⟨h1,hu⟩ | ⟨h1,rfl⟩
   ·rw [sk] at h1
    rw [nw (by omega)] at hr
    rcases iX hu with ⟨rfl,rfl⟩ | ⟨_,hu⟩
    ·exact hv i t r ht hr
    ·exact hv j u r hu hr
   ·rw [sk] at h1
    subst h1
    rw [uk (by omega),hlen,Nat.sub_self] at hr
    cases hr
    obtain ⟨z1,z2⟩:=hz _ hnew
    exact ⟨z1.symm,z2.symm⟩
theorem WFA.downs {S C:List ByteArray→Int}:∀ (path:List ByteArray) {ar:Ar} {L:List (List ByteArray)} {i:Nat} {p:List ByteArray},WFA ar L→ValA ar L S C→(∀ q,q ∉ L→S q = 0∧C q = 0)→L[i]? = some p →
  ∃ ar' k L',path.foldlM LZ (ar,i) = some (ar',k)∧WFA ar' L'∧ValA ar' L' S C∧L'[k]? = some (p++path)∧(∀ q,q∈L'↔q∈L∨(p <+: q∧q ≠ p∧q <+: p++path))
 | [],ar,L,i,p,h,hv,hz,hp=>by
  refine ⟨ar,i,L,rfl,h,hv,by rw [List.append_nil]; exact hp,fun q=>⟨.inl,fun hq=>hq.elim id fun ⟨h1,h2,h3⟩=>?_⟩⟩
  rw [List.append_nil] at h3
  exact absurd (h3.eq_of_length (Nat.le_antisymm h3.length_le h1.length_le)) h2
 | s :: path,ar,L,i,p,h,hv,hz,hp=>by
  obtain ⟨ar1,k1,L1,g1,g2,g3,g4,g5⟩:=h.down hv hz hp s
  obtain ⟨ar2,k2,L2,f1,f2,f3,f4,f5⟩:=WFA.downs path g2 g3 (fun q hq=>hz q fun hm=>hq ((g5 q).2 (.inl hm))) g4
  refine ⟨ar2,k2,L2,by rw [List.foldlM_cons,g1]; exact f1,f2,f3,by rw [f4,List.append_assoc]; rfl,fun q=>?_⟩
  have e:p++[s]++path = p++s :: path:=by simp
  rw [f5,g5,e]
  constructor
  ·rintro ((h | rfl) | ⟨h1,h2,h3⟩)
   ·exact .inl h
   ·refine .inr ⟨List.prefix_append _ _,fun h=>?_,?_⟩
    ·have:=congrArg List.length h; rw [kw,List.length_singleton] at this; omega
    ·rw [← e]; exact List.prefix_append _ _
   ·refine .inr ⟨(List.prefix_append _ _).trans h1,fun h=>?_,h3⟩
    have:=h1.length_le
    rw [h,kw,List.length_singleton] at this; omega
  ·rintro (h | ⟨h1,h2,h3⟩)
   ·exact .inl (.inl h)
   ·obtain ⟨r,rfl⟩:=h1
    cases r with
    | nil=>simp at h2
    | cons a r =>
     have h4:=h3
     rw [List.prefix_append_right_inj] at h4
     have ha:a = s:=by
      obtain ⟨u,hu⟩:=h4
      simp only [List.cons_append,List.cons.injEq] at hu
      exact hu.1
     subst ha
     by_cases hr:r = []
     ·subst hr; exact .inl (.inr rfl)
     ·refine .inr ⟨?_,fun h=>?_,h3⟩
      ·exact ⟨r,by simp⟩
      ·have:=congrArg List.length h
       simp only [kw,List.length_cons,List.length_nil] at this
       have:=List.length_pos_iff.2 hr
       omega
open Go.RM (TN Ar rj LZ T4 yZ L7 GX N5 TX ar0 D4 B7 iX BW C3 ux y9 zY leS E9 D3)
theorem alj:∀ x y:List UInt8,Op.bytesLess x y = true↔x < y
 | [],[]=>by simp [Op.bytesLess]
 | [],b :: y=>by simp [Op.bytesLess]
 | a :: x,[]=>by simp [Op.bytesLess]
 | a :: x,b :: y=>by
  rw [List.cons_lt_cons_iff,← alj x y]
  simp [Op.bytesLess]
theorem aRX {a b:ByteArray} (h:leS a b = true) (hne:a ≠ b):sLt a b = true:=by
 cases h1:sLt a b with
 | true=>rfl
 | false =>
  have h2:=K5 a b
  rw [h1] at h2
  simp only [hne,decide_false,Bool.or_self,Bool.not_false] at h2
  have h3:b.data.toList < a.data.toList:=by
   have h5:=h2.symm
   unfold sLt at h5
   rw [Go.Lib.toList_data,Go.Lib.toList_data] at h5
   exact (alj _ _).1 h5
  unfold leS at h
  have h4:=of_decide_eq_true h
  exact absurd h3 (List.not_lt.2 h4)
theorem aCj {l:List (ByteArray × Nat)} (hn:(l.map (·.1)).Nodup):(C3 l).Pairwise fun a b=>sLt a.1 b.1 = true:=by
 have h1:(C3 l).Pairwise fun a b=>leS a.1 b.1 = true :=
  List.pairwise_mergeSort (le:=fun a b:ByteArray × Nat=>leS a.1 b.1) (fun a b c h1 h2=>D3 _ _ _ h1 h2) (fun a b=>E9 _ _) l
 have h2:((C3 l).map (·.1)).Nodup:=((ux l).map (·.1)).nodup_iff.2 hn
 unfold List.Nodup at h2
 rw [List.pairwise_map] at h2
 exact (h1.and h2).imp fun ⟨a,b⟩=>aRX a b
theorem uK {α:Type} [DecidableEq α]:∀ {l l':List α},l.Nodup→(∀ x∈l,x∈l')→l.length≤l'.length
 | [],_,_,_=>Nat.zero_le _
 | a :: l,l',hn,h=>by
  rw [List.nodup_cons] at hn
  have ha:=h a lw
  have:=uK (l':=l'.erase a) hn.2 fun x hx=>(List.mem_erase_of_ne (fun e:x = a=>hn.1 (by rw [← e]; exact hx))).2 (h x (ik _ hx))
  rw [List.length_erase_of_mem ha] at this
  have:=List.length_pos_of_mem ha
  simp only [List.length_cons]; omega
abbrev Pth:=List ByteArray
def SrtP (l:List Pth):Prop:=l.Pairwise fun p q=>iZ p q = -1
theorem SrtP.nodup {l:List Pth} (h:SrtP l):l.Nodup:=List.Pairwise.imp (fun h e=>by subst e; exact iK h) h
def ZX (S:Pth→Int) (labs:List Pth) (q:Pth):Int:=(labs.map fun r=>if q <+: r then S r else 0).sum
theorem VV (S:Pth→Int) (a c:List Pth) (q:Pth):ZX S (a++c) q = ZX S a q + ZX S c q:=by unfold ZX; rw [vk,List.sum_append]
theorem Qz (S:Pth→Int) (r:Pth) (a:List Pth) (q:Pth):ZX S (r :: a) q = (if q <+: r then S r else 0) + ZX S a q:=rfl
theorem K7 (S:Pth→Int) {q:Pth}:∀ {a:List Pth},(∀ r∈a,¬ q <+: r)→ZX S a q = 0
 | [],_=>rfl
 | r :: a,h=>by
  rw [Qz,if_neg (h r lw),K7 S fun x hx=>h x (ik _ hx)]; rfl
theorem ajK (S:Pth→Int) {q:Pth}:∀ {a:List Pth},(∀ r∈a,q <+: r)→ZX S a q = (a.map S).sum
 | [],_=>rfl
 | r :: a,h=>by
  rw [Qz,if_pos (h r lw),ajK S fun x hx=>h x (ik _ hx)]; rfl
structure Blk (S C:Pth→Int) (p:Pth) (parent len:Int) (out:List N5) (w:Int) (labs:List Pth):Prop where
 hlen:out.length = labs.length
 srt:SrtP labs
 nod:∀ (j:Nat) q y,labs[j]? = some q→out[j]? = some y→∃ r,q = r++[y.2.1]∧y.2.2.1 = S q∧y.2.2.2.1 = ZX S labs q∧y.2.2.2.2 = C q∧((r = p∧y.1 = parent)∨(r ≠ p∧∃ k:Nat,labs[k]? = some r∧y.1 = len + k))
 tot:w = (labs.map S).sum
theorem U5 {p:Pth} {a b:ByteArray} {q:Pth} (h1:p++[a] <+: q) (h2:p++[b] <+: q):a = b:=by
 obtain ⟨u,hu⟩:=h1
 obtain ⟨v,hv⟩:=h2
 rw [List.append_assoc] at hu hv
 have:=List.append_cancel_left (hu.trans hv.symm)
 simp only [List.singleton_append,List.cons.injEq] at this
 exact this.1
theorem agQ {p:Pth} {a:ByteArray} {q:Pth} (h:p++[a] <+: q):q ≠ p:=fun e=>by
 have:=h.length_le
 rw [e,kw,List.length_singleton] at this; omega
section
variable {ar:Ar} {L:List Pth} {S C:Pth→Int}
theorem WFA.pre (h:WFA ar L):∀ (r:Pth) {p:Pth},p++r∈L→p∈L:=by
 intro r
 induction r with
 | nil=>intro p hp; rwa [List.append_nil] at hp
 | cons a r ih =>
  intro p hp
  have:p++[a]∈L:=ih (p:=p++[a]) (by rw [List.append_assoc]; exact hp)
  obtain ⟨k,hk,e⟩:=List.mem_iff_getElem.1 this
  obtain ⟨i,t,h1,_⟩:=h.clo k p a (by rw [bk hk,e])
  exact fw h1
theorem aUK (hS:∀ q,0≤S q∧S q≤100000000000001) (hL:L.length≤5001) {labs:List Pth} (hn:labs.Nodup) (hs:∀ q∈labs,q∈L):0≤(labs.map S).sum∧(labs.map S).sum≤600000000000000000:=by
 have h1:=M1 S 100000000000001 (by omega) labs fun x _=>hS x
 have h2:=uK hn hs
 have h3:((labs.length:Nat):Int) * 100000000000001≤5001 * 100000000000001:=Int.mul_le_mul_of_nonneg_right (by omega) (by omega)
 omega
theorem Blk.kid (hS:∀ q,0≤S q∧S q≤100000000000001) (hL:L.length≤5001) {p:Pth} {parent len:Int} {Kd:List ByteArray} {out:List N5} {w:Int} {labs:List Pth} (hB:Blk S C p parent len out w labs) (hk:∀ q,q∈labs↔q∈L∧∃ a∈Kd,p++[a] <+: q) {e:ByteArray} (hlt:∀ a∈Kd,sLt a e = true) (heL:p++[e]∈L) {out1:List N5} {w1:Int} {labs1:List Pth} (hB1:Blk S C (p++[e]) (len + out.length) (len + out.length + 1) out1 w1 labs1) (hk1:∀ q,q∈labs1↔q∈L∧p++[e] <+: q∧q ≠ p++[e]) :
  Blk S C p parent len (out++(parent,e,S (p++[e]),IntKind.i64.wrap (S (p++[e]) + w1),C (p++[e])) :: out1) (IntKind.i64.wrap (w + IntKind.i64.wrap (S (p++[e]) + w1))) (labs++(p++[e]) :: labs1)∧∀ q,q∈labs++(p++[e]) :: labs1↔q∈L∧∃ a∈Kd++[e],p++[a] <+: q:=by
 have hkey:∀ q,q∈labs++(p++[e]) :: labs1↔q∈L∧∃ a∈Kd++[e],p++[a] <+: q:=by
  intro q
  rw [qw,iw,hk,hk1]
  constructor
  ·rintro (⟨h1,a,h2,h3⟩ | rfl | ⟨h1,h2,_⟩)
   ·exact ⟨h1,a,List.mem_append_left _ h2,h3⟩
   ·exact ⟨heL,e,by simp,List.prefix_refl _⟩
   ·exact ⟨h1,e,by simp,h2⟩
  ·rintro ⟨h1,a,h2,h3⟩
   rcases qw.1 h2 with h2 | h2
   ·exact .inl ⟨h1,a,h2,h3⟩
   ·rw [dk.1 h2] at h3
    by_cases e1:q = p++[e]
    ·exact .inr (.inl e1)
    ·exact .inr (.inr ⟨h1,h3,e1⟩)
 have hne:∀ a∈Kd,a ≠ e:=fun a ha h=>by have:=hlt a ha; rw [h,w8] at this; cases this
 have old:∀ x∈labs,∃ a∈Kd,p++[a] <+: x:=fun x hx=>((hk x).1 hx).2
 have new:∀ y∈(p++[e]) :: labs1,p++[e] <+: y:=fun y hy=>by
  rcases iw.1 hy with rfl | hy
  ·exact List.prefix_refl _
  ·exact ((hk1 y).1 hy).2.1
 have hsrt:SrtP (labs++(p++[e]) :: labs1):=by
  unfold SrtP
  rw [List.pairwise_append,List.pairwise_cons]
  refine ⟨hB.srt,⟨fun y hy=>?_,hB1.srt⟩,fun x hx y hy=>?_⟩
  ·obtain ⟨_,h2,h3⟩:=(hk1 y).1 hy
   obtain ⟨r,rfl⟩:=h2
   cases r with
   | nil=>simp at h3
   | cons b r=>exact IK b r _
  ·obtain ⟨a,ha,r,rfl⟩:=old x hx
   obtain ⟨s,rfl⟩:=new y hy
   rw [List.append_assoc,List.append_assoc]
   exact KV (hlt a ha) r s p
 have hnd:=hsrt.nodup
 have hsum:=aUK hS hL hnd fun q hq=>((hkey q).1 hq).1
 have hsum1:=aUK hS hL (List.nodup_append.1 hnd).2.1 fun q hq=>((hkey q).1 (List.mem_append_right _ hq)).1
 rw [vk,List.sum_append] at hsum
 rw [nk,List.sum_cons] at hsum hsum1
 rw [← hB.tot,← hB1.tot] at hsum
 rw [← hB1.tot] at hsum1
 have e1:IntKind.i64.wrap (S (p++[e]) + w1) = S (p++[e]) + w1:=Go.RM.wr (by omega) (by omega)
 have e2:IntKind.i64.wrap (w + (S (p++[e]) + w1)) = w + (S (p++[e]) + w1):=Go.RM.wr (by omega) (by omega)
 rw [e1,e2]
 have hol:=hB.hlen
 have hol1:=hB1.hlen
 refine ⟨⟨by simp [hol,hol1],hsrt,fun j q y hq hy=>?_,?_⟩,hkey⟩
 ·rcases Nat.lt_trichotomy j labs.length with hj | hj | hj
  ·rw [nw hj] at hq
   rw [nw (by omega)] at hy
   obtain ⟨r,h1,h2,h3,h4,h5⟩:=hB.nod j q y hq hy
   obtain ⟨a,ha,hpa⟩:=old q (fw hq)
   refine ⟨r,h1,h2,?_,h4,h5.imp id fun ⟨g0,k,g1,g2⟩=>⟨g0,k,?_,g2⟩⟩
   ·rw [VV,K7 S (a:=(p++[e]) :: labs1) fun y hy hqy=>hne a ha (U5 (hpa.trans hqy) (new y hy)),h3]; omega
   ·rw [nw (bw.1 g1).1]; exact g1
  ·subst hj
   rw [uk (gk _),Nat.sub_self] at hq
   rw [uk (by omega),show labs.length - out.length = 0 by omega] at hy
   cases hq; cases hy
   refine ⟨p,rfl,rfl,?_,rfl,.inl ⟨rfl,rfl⟩⟩
   rw [VV,K7 S (a:=labs) fun x hx hqx=>by
    obtain ⟨a,ha,hpa⟩:=old x hx
    exact hne a ha (U5 hpa hqx),ajK S (a:=(p++[e]) :: labs1) new,nk,List.sum_cons,← hB1.tot]
   show S (p++[e]) + w1 = _
   omega
  ·obtain ⟨m,rfl⟩ : ∃ m,j = labs.length + 1 + m:=⟨j - labs.length - 1,by omega⟩
   rw [uk (by omega),show labs.length + 1 + m - labs.length = m + 1 by omega,List.getElem?_cons_succ] at hq
   rw [uk (by omega),show labs.length + 1 + m - out.length = m + 1 by omega,List.getElem?_cons_succ] at hy
   obtain ⟨r,h1,h2,h3,h4,h5⟩:=hB1.nod m q y hq hy
   obtain ⟨_,hpq,hqn⟩:=(hk1 q).1 (fw hq)
   refine ⟨r,h1,h2,?_,h4,.inr ?_⟩
   ·rw [VV,K7 S (a:=labs) fun x hx hqx=>by
     obtain ⟨a,ha,hpa⟩:=old x hx
     exact hne a ha (U5 hpa (hpq.trans hqx)),Qz,if_neg fun h=>hqn (h.eq_of_length (Nat.le_antisymm h.length_le hpq.length_le)),h3]
    omega
   ·rcases h5 with ⟨g1,g2⟩ | ⟨g1,k,g2,g3⟩
    ·refine ⟨by rw [g1]; exact agQ (List.prefix_refl _),labs.length,?_,by rw [g2,hol]⟩
     rw [uk (gk _),Nat.sub_self,g1]; rfl
    ·have hpr:=((hk1 r).1 (fw g2)).2.1
     refine ⟨agQ hpr,labs.length + 1 + k,?_,by rw [g3,hol]; omega⟩
     rw [uk (by omega),show labs.length + 1 + k - labs.length = k + 1 by omega,List.getElem?_cons_succ]
     exact g2
 ·rw [vk,List.sum_append,nk,List.sum_cons,← hB.tot,← hB1.tot]
theorem aXY (hW:WFA ar L) (hV:ValA ar L S C) (hS:∀ q,0≤S q∧S q≤100000000000001) (hL:L.length≤5001):∀ (f i:Nat) (p:Pth) (parent len:Int),L[i]? = some p→(∀ q∈L,p <+: q→q.length < p.length + f) →
  ∃ out w labs,yZ ar f i parent len = some (out,w)∧Blk S C p parent len out w labs∧∀ q,q∈labs↔q∈L∧p <+: q∧q ≠ p:=by
 intro f
 induction f with
 | zero =>
  intro i p parent len hp hf
  have:=hf p (fw hp) (List.prefix_refl _)
  omega
 | succ f ih =>
  intro i p parent len hp hf
  obtain ⟨t,ht⟩ : ∃ t,ar[i]? = some t:=⟨ar[i]'(by rw [← hW.len]; exact (bw.1 hp).1),bk _⟩
  have hkid:=hW.kid i t p ht hp
  have hsrt:=aCj (hW.knd i t ht)
  have hmem:∀ e,e∈C3 (t.kids.getD [])↔e∈t.kids.getD []:=fun e=>(ux _).mem_iff
  rw [GX,ht]
  simp only [ck]
  have fold:∀ (R Kd:List (ByteArray × Nat)) (out:List N5) (w:Int) (labs:List Pth),Kd++R = C3 (t.kids.getD [])→Blk S C p parent len out w labs→(∀ q,q∈labs↔q∈L∧∃ a∈Kd.map (·.1),p++[a] <+: q) →
    ∃ out' w' labs',R.foldlM (L7 ar f parent len) (out,w) = some (out',w')∧Blk S C p parent len out' w' labs'∧∀ q,q∈labs'↔q∈L∧∃ a∈(Kd++R).map (·.1),p++[a] <+: q:=by
   intro R
   induction R with
   | nil =>
    intro Kd out w labs _ hB hk
    exact ⟨out,w,labs,rfl,hB,by rw [List.append_nil]; exact hk⟩
   | cons e R ihR =>
    intro Kd out w labs hKR hB hk
    have heK:e∈t.kids.getD []:=(hmem e).1 (by rw [← hKR]; simp)
    have hLe:=hkid e heK
    obtain ⟨kn,hkn⟩ : ∃ kn,ar[e.2]? = some kn:=⟨ar[e.2]'(by rw [← hW.len]; exact (bw.1 hLe).1),bk _⟩
    obtain ⟨v1,v2⟩:=hV e.2 kn _ hkn hLe
    obtain ⟨out1,w1,labs1,g1,g2,g3⟩:=ih e.2 (p++[e.1]) (len + out.length) (len + out.length + 1) hLe fun q hq hpq=>by
     have:=hf q hq ((List.prefix_append _ _).trans hpq)
     rw [kw,List.length_singleton]; omega
    have hlt:∀ a∈Kd.map (·.1),sLt a e.1 = true:=fun a ha=>by
     obtain ⟨d,hd,rfl⟩:=qk.1 ha
     rw [← hKR,List.pairwise_append] at hsrt
     exact hsrt.2.2 d hd e lw
    obtain ⟨k1,k2⟩:=Blk.kid hS hL hB hk hlt (fw hLe) g2 g3
    obtain ⟨out',w',labs',f1,f2,f3⟩:=ihR (Kd++[e]) _ _ _ (by rw [← hKR]; simp) k1 (by rw [vk]; exact k2)
    refine ⟨out',w',labs',?_,f2,by rw [show Kd++e :: R = Kd++[e]++R by simp]; exact f3⟩
    rw [List.foldlM_cons]
    have hst:L7 ar f parent len (out,w) e = some (out++(parent,e.1,S (p++[e.1]),IntKind.i64.wrap (S (p++[e.1]) + w1),C (p++[e.1])) :: out1,IntKind.i64.wrap (w + IntKind.i64.wrap (S (p++[e.1]) + w1))):=by
     unfold L7
     rw [hkn]
     simp only [ck]
     rw [g1]
     simp only [jk,v1,v2]
    rw [hst]
    exact f1
  obtain ⟨out,w,labs,f1,f2,f3⟩:=fold (C3 (t.kids.getD [])) [] [] 0 [] rfl ⟨rfl,List.Pairwise.nil,fun j q y h=>by simp at h,rfl⟩ (fun q=>⟨fun h=>by simp at h,fun ⟨_,a,h,_⟩=>by simp at h⟩)
  refine ⟨out,w,labs,f1,f2,fun q=>?_⟩
  rw [f3,List.nil_append]
  constructor
  ·rintro ⟨h1,a,ha,h2⟩
   exact ⟨h1,(List.prefix_append _ _).trans h2,agQ h2⟩
  ·rintro ⟨h1,⟨r,rfl⟩,h3⟩
   refine ⟨h1,?_⟩
   cases r with
   | nil=>simp at h3
   | cons a r =>
    have:p++[a]∈L:=hW.pre r (p:=p++[a]) (by rw [List.append_assoc]; exact h1)
    obtain ⟨k,hk,e⟩:=List.mem_iff_getElem.1 this
    obtain ⟨j,u,g1,g2,g3⟩:=hW.clo k p a (by rw [bk hk,e])
    have:=asK hW.nd g1 hp
    subst this
    rw [ht] at g2; cases g2
    refine ⟨a,qk.2 ⟨(a,k),(hmem _).2 g3,rfl⟩,r,by simp⟩
end
open Go.RM (TN Ar rj LZ T4 yZ N5 TX ar0 iX BW y9 zY)
def T9 (n:Int):Int:=min n 100000000000001
def agZ (n:Int):Int:=min n 20001
def Nz (ar:Ar) (e:Ent):Option Ar:=T4 ar e.fPath e.fSelf e.fCount
structure AInv (ar:Ar) (L:List Pth) (K:Pth→Prop) (S C:Pth→Int):Prop where
 wf:WFA ar L
 val:ValA ar L (fun q=>T9 (S q)) (fun q=>agZ (C q))
 key:∀ q,q∈L↔q = []∨K q
 zero:∀ q,¬ K q→S q = 0∧C q = 0
theorem AInv.add {ar:Ar} {L:List Pth} {K:Pth→Prop} {S C:Pth→Int} (h:AInv ar L K S C) (hK : ¬ K []) (hb:∀ q,0≤S q∧0≤C q) {e:Ent} (he:0≤e.fSelf∧e.fSelf≤4000000000000000000∧0≤e.fCount∧e.fCount≤4000000000000000000) (hp:e.fPath ≠ []) :
  ∃ ar' L',Nz ar e = some ar'∧AInv ar' L' (fun q=>K q∨(q ≠ []∧q <+: e.fPath)) (fun q=>S q + if q = e.fPath then e.fSelf else 0) (fun q=>C q + if q = e.fPath then e.fCount else 0):=by
 have hz:∀ q,q ∉ L→T9 (S q) = 0∧agZ (C q) = 0:=fun q hq=>by
  obtain ⟨z1,z2⟩:=h.zero q fun hk=>hq ((h.key q).2 (.inr hk))
  rw [z1,z2]; exact ⟨rfl,rfl⟩
 obtain ⟨ar1,k,L1,g1,g2,g3,g4,g5⟩:=WFA.downs e.fPath h.wf h.val hz h.wf.root
 rw [List.nil_append] at g4
 obtain ⟨t,ht⟩ : ∃ t,ar1[k]? = some t:=⟨ar1[k]'(by rw [← g2.len]; exact (bw.1 g4).1),bk _⟩
 obtain ⟨v1,v2⟩:=g3 k t _ ht g4
 simp only at v1 v2
 obtain ⟨b1,b2⟩:=hb e.fPath
 have w1:IntKind.i64.wrap (t.self + e.fSelf) = t.self + e.fSelf:=by
  rw [v1]; unfold T9; exact Go.RM.wr (by omega) (by omega)
 have w2:IntKind.i64.wrap (t.count + e.fCount) = t.count + e.fCount:=by
  rw [v2]; unfold agZ; exact Go.RM.wr (by omega) (by omega)
 refine ⟨_,L1,?_,g2.same ht (t':={ t with self:=min (IntKind.i64.wrap (t.self + e.fSelf)) (TX + 1),count:=min (IntKind.i64.wrap (t.count + e.fCount)) 20001 }) rfl,fun i u p hu hpu=>?_,fun q=>?_,fun q hq=>?_⟩
 ·unfold Nz T4
  rw [g1]
  simp only [ck,ht,jk]
 ·rcases iX hu with ⟨rfl,rfl⟩ | ⟨hne,hu⟩
  ·rw [g4] at hpu; cases hpu
   show min (IntKind.i64.wrap (t.self + e.fSelf)) (TX + 1) = T9 (S e.fPath + if e.fPath = e.fPath then e.fSelf else 0)∧min (IntKind.i64.wrap (t.count + e.fCount)) 20001 = agZ (C e.fPath + if e.fPath = e.fPath then e.fCount else 0)
   rw [if_pos rfl,if_pos rfl,w1,w2,v1,v2]
   unfold T9 agZ TX
   omega
  ·have hpe:p ≠ e.fPath:=fun e1=>hne (by rw [e1] at hpu; exact (asK g2.nd hpu g4).symm)
   obtain ⟨u1,u2⟩:=g3 i u p hu hpu
   simp only [if_neg hpe,Int.add_zero]
   exact ⟨u1,u2⟩
 ·rw [g5,h.key]
  constructor
  ·rintro ((h | h) | ⟨_,h2,h3⟩)
   ·exact .inl h
   ·exact .inr (.inl h)
   ·exact .inr (.inr ⟨h2,h3⟩)
  ·rintro (h | h | ⟨h2,h3⟩)
   ·exact .inl (.inl h)
   ·exact .inl (.inr h)
   ·exact .inr ⟨List.nil_prefix,h2,h3⟩
 ·have hq1 : ¬ K q:=fun h=>hq (.inl h)
  have hq2 : ¬ q = e.fPath:=fun e1=>hq (.inr ⟨by rw [e1]; exact hp,by rw [e1]; exact List.prefix_refl _⟩)
  obtain ⟨z1,z2⟩:=h.zero q hq1
  simp only [if_neg hq2,z1,z2]
  exact ⟨rfl,rfl⟩
theorem atV {E:List Ent} (hE:BdE E):∀ n,n≤E.length→∃ ar L,(E.take n).foldlM Nz ar0 = some ar∧AInv ar L (qY (E.take n)) (gQ (E.take n)) (jZ (E.take n)):=by
 intro n
 induction n with
 | zero =>
  intro _
  have h0:∀ (i:Nat) t,ar0[i]? = some t→i = 0∧t = ⟨0,0,none⟩:=fun i t ht=>by
   unfold ar0 at ht
   cases i with
   | zero=>cases ht; exact ⟨rfl,rfl⟩
   | succ i=>simp at ht
  have h1:∀ (i:Nat) p,[([]:Pth)][i]? = some p→i = 0∧p = []:=fun i p hp=>by
   cases i with
   | zero=>cases hp; exact ⟨rfl,rfl⟩
   | succ i=>simp at hp
  refine ⟨ar0,[[]],rfl,⟨⟨rfl,rfl,fun i t p ht _ e he=>?_,by simp,fun k p a hk=>?_,fun i t ht=>?_⟩,fun i t p ht hp=>?_,fun q=>?_,fun q _=>⟨rfl,rfl⟩⟩⟩
  ·rw [(h0 i t ht).2] at he; simp at he
  ·have:=(h1 k _ hk).2; simp at this
  ·rw [(h0 i t ht).2]; simp
  ·rw [(h0 i t ht).2]; exact ⟨rfl,rfl⟩
  ·simp [qY]
 | succ n ih =>
  intro hn
  obtain ⟨ar,L,h1,h2⟩:=ih (by omega)
  obtain ⟨e,he⟩ : ∃ e,E[n]? = some e:=⟨E[n]'(by omega),bk _⟩
  have hem:=fw he
  have hsn:=A1 he
  have hone:=hE.one hem
  obtain ⟨ar',L',g1,g2⟩:=h2.add (fun h=>h.1 rfl) (fun q=>⟨(hE.bd n q).1,(hE.bd n q).2.2.1⟩) ⟨hone.1,hone.2.1,hone.2.2.1,hone.2.2.2.1⟩ (hE.num e hem).2.2
  refine ⟨ar',L',?_,g2.wf,?_,fun q=>?_,fun q hq=>?_⟩
  ·rw [hsn,List.foldlM_append,h1]
   show ([e].foldlM Nz ar) = _
   rw [List.foldlM_cons,g1]; rfl
  ·have e1:gQ (E.take (n + 1)) = fun q=>gQ (E.take n) q + if q = e.fPath then e.fSelf else 0:=by
    funext q; rw [hsn]; unfold gQ; rw [vk,List.sum_append]; simp
   have e2:jZ (E.take (n + 1)) = fun q=>jZ (E.take n) q + if q = e.fPath then e.fCount else 0:=by
    funext q; rw [hsn]; unfold jZ; rw [vk,List.sum_append]; simp
   rw [e1,e2]; exact g2.val
  ·rw [g2.key,hsn]
   unfold qY
   constructor
   ·rintro (h | ⟨h1,x,hx,h2⟩ | ⟨h1,h2⟩)
    ·exact .inl h
    ·exact .inr ⟨h1,x,List.mem_append_left _ hx,h2⟩
    ·exact .inr ⟨h1,e,List.mem_append_right _ (by simp),h2⟩
   ·rintro (h | ⟨h1,x,hx,h2⟩)
    ·exact .inl h
    ·rcases qw.1 hx with hx | hx
     ·exact .inr (.inl ⟨h1,x,hx,h2⟩)
     ·rw [dk.1 hx] at h2
      exact .inr (.inr ⟨h1,h2⟩)
  ·have hz:=g2.zero q
   have hkk : ¬ (qY (E.take n) q∨(q ≠ []∧q <+: e.fPath)):=fun h=>hq (by
    rw [hsn]
    rcases h with ⟨h1,x,hx,h2⟩ | ⟨h1,h2⟩
    ·exact ⟨h1,x,List.mem_append_left _ hx,h2⟩
    ·exact ⟨h1,e,List.mem_append_right _ (by simp),h2⟩)
   obtain ⟨z1,z2⟩:=hz hkk
   have s1:gQ (E.take (n + 1)) q = gQ (E.take n) q + if q = e.fPath then e.fSelf else 0:=by
    rw [hsn]; unfold gQ; rw [vk,List.sum_append]; simp
   have s2:jZ (E.take (n + 1)) q = jZ (E.take n) q + if q = e.fPath then e.fCount else 0:=by
    rw [hsn]; unfold jZ; rw [vk,List.sum_append]; simp
   rw [s1,s2]; exact ⟨z1,z2⟩
def aJY (E:List Ent):List Pth:=(E.map fun e=>(List.range (e.fPath.length)).map fun m=>e.fPath.take (m + 1)).flatten
theorem ahY:∀ E:List Ent,(aJY E).length≤szE E:=by
 intro E
 unfold aJY
 induction E with
 | nil=>simp
 | cons a E ih =>
  unfold szE at ih ⊢
  simp only [nk,List.flatten_cons,kw,jw,List.length_range,List.sum_cons]
  omega
theorem ahK {E:List Ent} {q:Pth} (h:qY E q):q∈aJY E:=by
 obtain ⟨h3,e,he,h4⟩:=h
 obtain ⟨m,m1,m2,m3⟩:=aMx.1 ⟨h3,h4⟩
 refine List.mem_flatten.2 ⟨_,qk.2 ⟨e,he,rfl⟩,qk.2 ⟨m - 1,List.mem_range.2 (by omega),?_⟩⟩
 rw [m3,show m - 1 + 1 = m by omega]
structure SmlE (E:List Ent):Prop where
 bd:BdE E
 keys:∃ Ks:List Pth,Ks.length≤5000∧∀ q,qY E q→q∈Ks
 self:(E.map (·.fSelf)).sum≤1000000000000000
 len:∀ e∈E,e.fPath.length≤900
 nam:∀ e∈E,∀ s∈e.fPath,okN s
theorem SmlE.S {E:List Ent} (h:SmlE E) (q:Pth):0≤gQ E q∧gQ E q≤1000000000000000∧0≤jZ E q:=by
 have h1:=pZ (fun e:Ent=>e.fSelf) (fun e=>q = e.fPath) E fun x hx=>(h.bd.num x hx).1
 have h2:=pZ (fun e:Ent=>e.fCount) (fun e=>q = e.fPath) E fun x hx=>(h.bd.num x hx).2.1
 have:=h.self
 unfold gQ jZ
 omega
theorem aLK {E:List Ent} {p:Pth} {a:ByteArray} (h:qY E (p++[a])) (hp:p ≠ []):qY E p:=by
 obtain ⟨_,e,he,h2⟩:=h
 exact ⟨hp,e,he,(List.prefix_append _ _).trans h2⟩
theorem InvE.pre {E all:List Ent} {S C:Pth→Int} (h:InvE all (qY E) S C):∀ p a,(∃ x∈all,x.fPath = p++[a])→p ≠ []→∃ x∈all,x.fPath = p:=fun p a hx hp=>(h.key p).2 (aLK ((h.key _).1 hx) hp)
structure DocG (E:List Ent) (all:List Ent) (l:List ax):Prop where
 inv:InvE all (qY E) (gQ E) (jZ E)
 nod:NodesE all l
 len:all.length≤5000
theorem X6 {E all:List Ent} {S C:Pth→Int} (h:InvE all (qY E) S C) (hn:∀ e∈E,∀ s∈e.fPath,okN s) {l:List ax} (hN:NodesE all l):∀ y∈l,okN y.fName:=by
 intro y hy
 obtain ⟨j,hj,rfl⟩:=List.mem_iff_getElem.1 hy
 obtain ⟨x,hx⟩ : ∃ x,all[j]? = some x:=⟨all[j]'(by rw [← hN.len]; exact hj),bk _⟩
 obtain ⟨p,hp,_⟩:=hN.nod j x _ hx (bk hj)
 obtain ⟨_,e,he,h2⟩:=(h.key _).1 ⟨x,fw hx,hp⟩
 exact hn e he _ (h2.subset (by simp))
theorem aUx {E:List Ent} (hE:SmlE E):∃ all l c,DocG E all l∧eK l = some c∧(c = 0↔ValF l)∧kQ E = some (if c = 0 then (l,0) else ([],c)):=by
 obtain ⟨all,h1,hI,hl⟩:=a0x hE.bd
 have hlen:all.length≤5000:=by
  obtain ⟨Ks,k1,k2⟩:=hE.keys
  have:=uK (l:=all.map (·.fPath)) (l':=Ks) (by
   have:=hI.srt
   unfold sq at this
   unfold List.Nodup
   rw [List.pairwise_map]
   exact this.imp fun h e=>by rw [e] at h; exact iK h) fun q hq=>by
    obtain ⟨x,hx,rfl⟩:=qk.1 hq
    exact k2 _ ((hI.key _).1 ⟨x,hx,rfl⟩)
  rw [jw] at this
  omega
 have hsm:SmallE all:=⟨hlen,fun x hx=>by
  obtain ⟨v1,v2⟩:=hI.val x hx
  have hs:=hE.S x.fPath
  obtain ⟨h3,e,he,h4⟩:=(hI.key _).1 ⟨x,hx,rfl⟩
  have:=h4.length_le
  have:=hE.len e he
  exact ⟨by omega,by omega,by omega,h3⟩⟩
 obtain ⟨l,h2,hN⟩:=aYY hI.srt hsm hI.pre
 obtain ⟨c,c1,c2,c3⟩:=avY l (X6 hI hE.nam hN) (by rw [hN.len]; omega)
 refine ⟨all,l,c,⟨hI,hN,hlen⟩,c1,c3,?_⟩
 unfold kQ
 rw [h1]
 simp only [ck]
 rw [h2]
 simp only [ck]
 rw [c2]
 simp only [ck]
 by_cases e:c = 0
 ·simp [e]
 ·simp [e]
theorem aHj {E:List Ent} (hE:SmlE E) {all:List Ent} {l:List ax} (hD:DocG E all l):∃ ar out w allP,E.foldlM Nz ar0 = some ar∧zY ar = true∧yZ ar 1000 0 (-1) 0 = some (out,w)∧out.length≤5000∧InvE allP (qY E) (fun q=>T9 (gQ E q)) (fun q=>agZ (jZ E q))∧NodesE allP (out.map T2):=by
 obtain ⟨ar,L,h1,h2⟩:=atV hE.bd E.length (gk _)
 rw [List.take_length] at h1 h2
 have hL:L.length≤5001:=by
  have:=uK (l':=[] :: all.map (·.fPath)) h2.wf.nd fun q hq=>by
   rcases (h2.key q).1 hq with rfl | hk
   ·exact lw
   ·obtain ⟨x,hx,rfl⟩:=(hD.inv.key q).2 hk
    exact ik _ (qk.2 ⟨x,hx,rfl⟩)
  rw [List.length_cons,jw] at this
  have:=hD.len
  omega
 have hS:∀ q,0≤T9 (gQ E q)∧T9 (gQ E q)≤100000000000001:=fun q=>by
  have:=hE.S q
  unfold T9; omega
 obtain ⟨out,w,labs,g1,g2,g3⟩:=aXY h2.wf h2.val hS hL 1000 0 [] (-1) 0 h2.wf.root fun q hq _=>by
  rcases (h2.key q).1 hq with rfl | ⟨_,e,he,h4⟩
  ·simp
  ·have:=h4.length_le
   have:=hE.len e he
   simp only [List.length_nil]; omega
 have hkey:∀ q,q∈labs↔qY E q:=fun q=>by
  rw [g3,h2.key]
  constructor
  ·rintro ⟨h | h,_,h3⟩
   ·exact absurd h h3
   ·exact h
  ·exact fun h=>⟨.inr h,List.nil_prefix,h.1⟩
 have hll:labs.length≤5000:=by
  have:=uK (l':=all.map (·.fPath)) g2.srt.nodup fun q hq=>by
   obtain ⟨x,hx,rfl⟩:=(hD.inv.key q).2 ((hkey q).1 hq)
   exact qk.2 ⟨x,hx,rfl⟩
  rw [jw] at this
  have:=hD.len
  omega
 refine ⟨ar,out,w,labs.map fun q=>{ fPath:=q,fSelf:=T9 (gQ E q),fCount:=agZ (jZ E q) },h1,?_,g1,by rw [g2.hlen]; exact hll,⟨?_,fun q=>?_,fun x hx=>?_,fun q hq=>?_⟩,⟨by rw [jw,jw,g2.hlen],fun j x y hx hy=>?_⟩⟩
 ·unfold zY
  rw [List.all_eq_true]
  intro t ht
  obtain ⟨i,hi,rfl⟩:=List.mem_iff_getElem.1 ht
  exact decide_eq_true (h2.wf.knd i _ (bk hi))
 ·unfold sq
  rw [List.pairwise_map]
  exact g2.srt
 ·constructor
  ·rintro ⟨x,hx,rfl⟩
   obtain ⟨r,hr,rfl⟩:=qk.1 hx
   exact (hkey r).1 hr
  ·exact fun h=>⟨_,qk.2 ⟨q,(hkey q).2 h,rfl⟩,rfl⟩
 ·obtain ⟨r,_,rfl⟩:=qk.1 hx
  exact ⟨rfl,rfl⟩
 ·obtain ⟨z1,z2⟩:=hD.inv.zero q hq
  rw [z1,z2]; exact ⟨rfl,rfl⟩
 ·rw [ow] at hx hy
  obtain ⟨q,hq,rfl⟩:=aw.1 hx
  obtain ⟨n,hn,rfl⟩:=aw.1 hy
  obtain ⟨r,e1,e2,e3,e4,e5⟩:=g2.nod j q n hq hn
  refine ⟨r,e1,e2,e4,?_,?_⟩
  ·rw [show (T2 n).fTotal = n.2.2.2.1 from rfl,e3]
   unfold F8 ZX
   rw [List.map_map]
   rfl
  ·rcases e5 with ⟨rfl,e6⟩ | ⟨e0,k,e6,e7⟩
   ·exact .inl ⟨rfl,e6⟩
   ·exact .inr ⟨e0,k,_,by rw [ow,e6]; rfl,rfl,by rw [show (T2 n).fParent = n.1 from rfl,e7]; omega⟩
theorem avx {E:List Ent} (hE:SmlE E) (hc:∀ q,gQ E q≤100000000000000∧jZ E q≤20000) {all:List Ent} {l:List ax} (hD:DocG E all l):∃ ar out w,E.foldlM Nz ar0 = some ar∧zY ar = true∧yZ ar 1000 0 (-1) 0 = some (out,w)∧out.length≤5000∧out.map T2 = l:=by
 obtain ⟨ar,out,w,allP,h1,h2,h3,h4,h5,h6⟩:=aHj hE hD
 have e:allP = all:=(h5.congr (fun _=>Iff.rfl) (fun q=>by have:=hc q; unfold T9; omega) (fun q=>by have:=hc q; unfold agZ; omega)).uniq hD.inv
 subst e
 exact ⟨ar,out,w,h1,h2,h3,h4,h6.uniq h5.srt hD.nod⟩
open Go.RM (Ar T4 yZ N5 ar0 zY Hz ofSamplesF t8)
theorem aKQ (l:List ByteArray) (hl:l.length≤9223372036854775807) (hx:∀ x∈l,okN x):Ok (fY l) (fun r=>r = 0→l.length≤32∧∀ x∈l,c6 x = some 0):=by
 unfold fY
 refine cq (fun _=>a7 (fun h=>by omega)) (fun h=>?_)
 refine mZ (Q:=nQ (fun _=>∀ (k:Nat) x,k < l.length→l[k]? = some x→c6 x = some 0) (fun r=>r ≠ 0)) (DX l.length (fun n=>∀ (k:Nat) x,k < n→l[k]? = some x→c6 x = some 0) hl (fun k x h=>by omega) (fun i hI h2=>?_)) (fun _ hr=>a7 fun _=>⟨by omega,fun x hx=>?_⟩) (fun r hr=>a7 fun e=>absurd e hr)
 ·unfold lX
  refine cq (fun hi=>?_) (fun hi=>dZ (show nQ _ _ (.inl ()) from fun k x hk=>hI k x (by omega)))
  refine bj (u9 (by omega)) (fun y hy=>?_)
  refine aNX (q8 y (hx y (fw hy))) (fun r hr=>?_)
  refine qJ (fun hne=>dZ (show nQ _ _ (.inr r) from hne)) (fun he=>?_)
  rw [u0 (n:=l.length) (by omega) hl]
  refine j8 ⟨by omega,rfl,fun k x hk hkx=>?_⟩
  by_cases e:k = i
  ·subst e; rw [hy] at hkx; cases hkx; rw [hr,he]
  ·exact hI k x (by omega) hkx
 ·obtain ⟨k,hk,rfl⟩:=List.mem_iff_getElem.1 hx
  exact hr k _ hk (bk hk)
def Xj (y:aK):Prop:=1≤y.fWeight∧y.fWeight≤1000000000000∧y.fStack.length≤32∧∀ x∈y.fStack,c6 x = some 0
theorem aDZ (l:List aK) (hl:l.length≤9223372036854775807) (hx:∀ x∈l,x.fStack.length≤9223372036854775807∧∀ y∈x.fStack,okN y):Ok (gV l) (fun r=>r = 0→(∀ y∈l,Xj y)∧∀ (k:Nat) y z,l[k]? = some y→l[k + 1]? = some z→y.fAt≤z.fAt):=by
 have key:Ok (gV l) (fun r=>r = 0→∀ (k:Nat) y,k < l.length→l[k]? = some y→Xj y∧∀ z,0 < k→l[k - 1]? = some z→z.fAt≤y.fAt):=by
  unfold gV
  refine mZ (Q:=nQ (fun _=>∀ (k:Nat) y,k < l.length→l[k]? = some y→Xj y∧∀ z,0 < k→l[k - 1]? = some z→z.fAt≤y.fAt) (fun r=>r ≠ 0)) (DX l.length (fun n=>∀ (k:Nat) y,k < n→l[k]? = some y→Xj y∧∀ z,0 < k→l[k - 1]? = some z→z.fAt≤y.fAt) hl (fun k x h=>by omega) (fun i hI h2=>?_)) (fun _ hr=>a7 fun _=>hr) (fun r hr=>a7 fun e=>absurd e hr)
  unfold l9
  refine cq (fun hi=>?_) (fun hi=>dZ (show nQ _ _ (.inl ()) from fun k x hk=>hI k x (by omega)))
  have hil:i < l.length:=by omega
  refine bj (u9 hil) (fun y hy=>?_)
  have hym:=fw hy
  refine bj (Q:=fun b=>b = true→1≤y.fWeight∧y.fWeight≤1000000000000) ?_ (fun b hb=>?_)
  ·unfold lz
   refine bj (Q:=fun b=>b = true→1≤y.fWeight∧y.fWeight≤1000000000000) ?_ (fun b hb=>a7 hb)
   refine cq (fun _=>?_) (fun _=>a7 (fun h=>by simp at h))
   refine cq (fun _=>?_) (fun _=>a7 (fun h=>by simp at h))
   refine cq (fun _=>?_) (fun _=>a7 (fun h=>by simp at h))
   refine cq (fun _=>?_) (fun _=>a7 (fun h=>by simp at h))
   refine cq (fun h1=>?_) (fun _=>a7 (fun h=>by simp at h))
   exact a7 fun h2=>⟨h1,of_decide_eq_true h2⟩
  refine wq (fun e=>dZ (show nQ _ _ (.inr 2) from by show (2:Int) ≠ 0; omega)) (fun e=>?_)
  obtain ⟨w1,w2⟩:=hb e
  refine bj (aKQ y.fStack (hx y hym).1 (hx y hym).2) (fun r hr=>?_)
  refine qJ (fun hne=>dZ (show nQ _ _ (.inr r) from hne)) (fun he=>?_)
  obtain ⟨f1,f2⟩:=hr he
  refine bj (Q:=fun v=>v = false→∀ z,0 < i→l[i - 1]? = some z→z.fAt≤y.fAt) ?_ (fun v hv=>?_)
  ·refine cq (fun h0=>?_) (fun h0=>a7 fun _ z hz=>by omega)
   rw [cJ (by omega),show ((i:Int) - 1) = ((i - 1:Nat):Int) by omega]
   refine bj (u9 (by omega)) (fun z hz=>a7 fun h u _ hu=>?_)
   rw [hz] at hu; cases hu
   have:=of_decide_eq_false h
   omega
  refine e9 (fun e2=>dZ (show nQ _ _ (.inr 11) from by show (11:Int) ≠ 0; omega)) (fun e2=>?_)
  rw [u0 (n:=l.length) hil hl]
  refine j8 ⟨hil,rfl,fun k x hk hkx=>?_⟩
  by_cases e3:k = i
  ·subst e3; rw [hy] at hkx; cases hkx
   exact ⟨⟨w1,w2,f1,f2⟩,hv e2⟩
  ·exact hI k x (by omega) hkx
 refine key.mono fun r hr h0=>⟨fun y hy=>?_,fun k y z hy hz=>?_⟩
 ·obtain ⟨k,hk,rfl⟩:=List.mem_iff_getElem.1 hy
  exact (hr h0 k _ hk (bk hk)).1
 ·have:=(hr h0 (k + 1) z (bw.1 hz).1 hz).2 y (by omega) (by rw [show k + 1 - 1 = k by omega]; exact hy)
  exact this
def LV (y:aK):Option Ent:=if y.fStack = [] then none else some { fPath:=y.fStack,fSelf:=y.fWeight,fCount:=1 }
def oq (l:List aK):List Ent:=l.filterMap LV
theorem aoK {l:List aK} {e:Ent} (h:e∈oq l):∃ y∈l,y.fStack ≠ []∧e = { fPath:=y.fStack,fSelf:=y.fWeight,fCount:=1 }:=by
 obtain ⟨y,hy,h⟩:=List.mem_filterMap.1 h
 unfold LV at h
 split at h
 ·cases h
 ·rename_i hne
  cases h; exact ⟨y,hy,hne,rfl⟩
theorem afV {E:List Ent} {m:Nat} (h:∀ e∈E,e.fPath.length + 1≤m):szE E≤E.length * m:=by
 induction E with
 | nil=>simp [szE]
 | cons a E ih =>
  have h1:=h a lw
  have h2:=ih fun e he=>h e (ik _ he)
  unfold szE at h2 ⊢
  simp only [nk,List.sum_cons,List.length_cons,Nat.succ_mul]
  omega
theorem O2 {l:List aK} {n:Nat} (hn:n≤40) (hl:l.length≤n) (hg:∀ y∈l,Xj y) (hx:∀ x∈l,∀ y∈x.fStack,okN y):SmlE (oq l)∧∀ q,gQ (oq l) q≤100000000000000∧jZ (oq l) q≤20000:=by
 have hlen:(oq l).length≤n:=Nat.le_trans (List.length_filterMap_le _ _) hl
 have hE:∀ e∈oq l,1≤e.fSelf∧e.fSelf≤1000000000000∧e.fCount = 1∧e.fPath.length≤32∧e.fPath ≠ []∧∀ s∈e.fPath,okN s:=fun e he=>by
  obtain ⟨y,hy,h1,rfl⟩:=aoK he
  obtain ⟨g1,g2,g3,g4⟩:=hg y hy
  exact ⟨g1,g2,rfl,g3,h1,hx y hy⟩
 have hsz:=afV (E:=oq l) (m:=33) fun e he=>by have:=(hE e he).2.2.2.1; omega
 have hs:=M1 (fun e:Ent=>e.fSelf) 1000000000000 (by omega) (oq l) fun e he=>⟨by have:=(hE e he).1; omega,(hE e he).2.1⟩
 have hc:=M1 (fun e:Ent=>e.fCount) 1 (by omega) (oq l) fun e he=>by have:=(hE e he).2.2.1; omega
 have h3:(((oq l).length:Nat):Int) * 1000000000000≤40 * 1000000000000:=Int.mul_le_mul_of_nonneg_right (by omega) (by omega)
 have hb:BdE (oq l):=⟨fun e he=>by have:=hE e he; exact ⟨by omega,by omega,this.2.2.2.2.1⟩,by omega,by omega,by omega⟩
 refine ⟨⟨hb,⟨aJY (oq l),by have:=ahY (oq l); omega,fun q hq=>ahK hq⟩,by omega,fun e he=>by have:=(hE e he).2.2.2.1; omega,fun e he=>(hE e he).2.2.2.2.2⟩,fun q=>?_⟩
 have h1:=pZ (fun e:Ent=>e.fSelf) (fun e=>q = e.fPath) (oq l) fun x hx=>(hb.num x hx).1
 have h2:=pZ (fun e:Ent=>e.fCount) (fun e=>q = e.fPath) (oq l) fun x hx=>(hb.num x hx).2.1
 unfold gQ jZ
 omega
theorem aaz:∀ (l:List aK) (ar:Ar),(∀ y∈l,y.fStack.length≤1000000)→(l.map X1).foldlM Hz ar = (oq l).foldlM Nz ar
 | [],ar,_=>rfl
 | y :: l,ar,h=>by
  have ih:=fun ar=>aaz l ar fun z hz=>h z (ik _ hz)
  rw [nk,List.foldlM_cons]
  unfold oq at ih ⊢
  by_cases e:y.fStack = []
  ·have h1:Hz ar (X1 y) = some ar:=by unfold Hz X1; simp only [e,if_pos]
   rw [h1,List.filterMap_cons,show LV y = none by unfold LV; rw [if_pos e]]
   exact ih ar
  ·have h1:Hz ar (X1 y) = Nz ar { fPath:=y.fStack,fSelf:=y.fWeight,fCount:=1 }:=by
    unfold Hz X1 Nz
    simp only [if_neg e,if_pos (h y lw)]
   rw [h1,List.filterMap_cons,show LV y = some { fPath:=y.fStack,fSelf:=y.fWeight,fCount:=1 } by unfold LV; rw [if_neg e]]
   rw [List.foldlM_cons]
   cases Nz ar { fPath:=y.fStack,fSelf:=y.fWeight,fCount:=1 } with
   | none=>rfl
   | some a=>exact ih a
theorem aVJ (l:List aK) (hl:l.length≤40):loop (fQ l) ([],0) = some (oq l):=by
 have:Ok (loop (fQ l) ([],0)) (fun r=>r = oq l):=by
  refine U1 l.length (fun (a:List Ent) n=>a = oq (l.take n)∧a.length≤n) (by omega) ⟨rfl,gk _⟩ (fun a i hI h2=>?_)
  obtain ⟨rfl,hal⟩:=hI
  unfold fQ
  dsimp only
  refine cq (fun hi=>?_) (fun hi=>dZ ?_)
  ·have hil:i < l.length:=by omega
   obtain ⟨y,hy⟩ : ∃ y,l[i]? = some y:=⟨l[i]'hil,bk hil⟩
   have hsn:oq (l.take (i + 1)) = oq (l.take i)++(LV y).toList:=by
    rw [A1 hy]; unfold oq; rw [List.filterMap_append]
    congr 1
   rw [iW,hy]
   simp only [ck]
   refine bj (Q:=fun r=>r = oq (l.take (i + 1))) ?_ (fun r hr=>?_)
   ·refine cq (fun h=>?_) (fun h=>a7 ?_)
    ·have hne:y.fStack ≠ []:=fun e=>by rw [e] at h; simp at h
     rw [xK (by simp; omega) (by simp; omega)]
     simp only [cond_true]
     refine a7 ?_
     rw [hsn]; unfold LV; rw [if_neg hne]; rfl
    ·have hne:y.fStack = []:=by
      have:y.fStack.length = 0:=by omega
      exact fk this
     rw [hsn]; unfold LV; rw [if_pos hne]; simp
   ·rw [u0 (n:=l.length) hil (by omega),hr]
    refine j8 ⟨hil,rfl,rfl,?_⟩
    show (oq (l.take (i + 1))).length≤i + 1
    have:=List.length_filterMap_le LV (l.take (i + 1))
    rw [List.length_take] at this
    unfold oq; omega
  ·have:i = l.length:=by omega
   subst this
   rw [List.take_length]
 obtain ⟨r,h1,h2⟩:=this
 rw [h1,h2]
theorem Q0 (l:List aK) (hl:l.length≤20) (hx:∀ x∈l,x.fStack.length≤9223372036854775807∧∀ y∈x.fStack,okN y) :
  ∃ r,i4 l = some r∧eY l = some r∧((gV l = some r.2∧r.2 ≠ 0∧r.1 = [])∨(gV l = some 0∧(∀ y∈l,Xj y)∧(∀ (k:Nat) y z,l[k]? = some y→l[k + 1]? = some z→y.fAt≤z.fAt)∧∃ all g c,DocG (oq l) all g∧eK g = some c∧(c = 0↔ValF g)∧r = if c = 0 then (g,0) else ([],c))):=by
 obtain ⟨e,he,hg⟩:=aDZ l (by omega) hx
 by_cases e0:e = 0
 ·subst e0
  obtain ⟨hg,hsr⟩:=hg rfl
  obtain ⟨hS,hcap⟩:=O2 (n:=20) (by omega) hl hg fun x hx'=>(hx x hx').2
  obtain ⟨all,g,c,hD,hc,hV,hof⟩:=aUx hS
  obtain ⟨ar,out,w,h1,h2,h3,h4,h5⟩:=avx hS hcap hD
  refine ⟨if c = 0 then (g,0) else ([],c),?_,?_,.inr ⟨he,hg,hsr,all,g,c,hD,hc,hV,rfl⟩⟩
  ·unfold i4 ofSamplesF
   rw [he]
   simp only [ck,jw,decide_true,cond_true]
   rw [decide_eq_true (by omega),cond_true,aaz l ar0 fun y hy=>by have:=(hg y hy).2.2.1; omega,h1]
   simp only [ck,h2,cond_true]
   unfold t8
   rw [h3]
   simp only [ck]
   rw [decide_eq_true (by omega),cond_true]
   unfold TQ
   rw [h5,hc]
   simp only [jk]
   by_cases e:c = 0
   ·simp only [e,decide_true,cond_true,if_pos]; rw [h5]
   ·simp only [e,decide_false,cond_false,mw]; rfl
  ·unfold eY
   rw [← abQ,he]
   simp only [ck,decide_true,Bool.not_true,cond_false]
   rw [aVJ l (by omega)]
   simp only [ck,hof]
 ·refine ⟨([],e),?_,?_,.inl ⟨he,e0,rfl⟩⟩
  ·unfold i4 ofSamplesF
   rw [he]
   simp only [ck,jw]
   rw [decide_eq_true (by omega),cond_true,decide_eq_false e0]
   rfl
  ·unfold eY
   rw [← abQ,he]
   simp [e0]
theorem E7 {α:Type} (f:Nat→Int) (h:α→Int) (l:List α) (hf:∀ (k:Nat) y,l[k]? = some y→f k = h y):∀ n,n≤l.length→dV f n = ((l.take n).map h).sum:=by
 intro n
 induction n with
 | zero=>intro _; rfl
 | succ n ih =>
  intro hn
  obtain ⟨y,hy⟩ : ∃ y,l[n]? = some y:=⟨l[n]'(by omega),bk _⟩
  rw [A1 hy,vk,List.sum_append,← ih (by omega)]
  simp only [dV,hf n y hy,nk,List.map_nil,List.sum_cons,List.sum_nil,Int.add_zero]
theorem awV {all:List Ent} (hs:sq all) {q:Pth} (c:Int) (hq:∃ x∈all,x.fPath = q):(all.map fun x=>if x.fPath = q then c else 0).sum = c:=by
 induction all with
 | nil=>obtain ⟨x,hx,_⟩:=hq; simp at hx
 | cons a all ih =>
  unfold sq at hs
  rw [List.pairwise_cons] at hs
  simp only [nk,List.sum_cons]
  by_cases e:a.fPath = q
  ·have h0:(all.map fun x=>if x.fPath = q then c else 0).sum = 0:=by
    have:∀ l:List Ent,(∀ x∈l,x.fPath ≠ q)→(l.map fun x=>if x.fPath = q then c else 0).sum = 0:=by
     intro l
     induction l with
     | nil=>intro _; rfl
     | cons b l ih2 =>
      intro h
      simp only [nk,List.sum_cons,if_neg (h b lw)]
      rw [ih2 fun x hx=>h x (ik _ hx)]; rfl
    refine this all fun x hx e2=>?_
    have:=hs.1 x hx
    rw [e,e2] at this; exact iK this
   rw [if_pos e,h0]; omega
  ·rw [if_neg e,ih hs.2 (by
    obtain ⟨x,hx,e2⟩:=hq
    rcases iw.1 hx with rfl | hx
    ·exact absurd e2 e
    ·exact ⟨x,hx,e2⟩)]
   omega
theorem amZ {all:List Ent} (hs:sq all):∀ E:List Ent,(∀ e∈E,∃ x∈all,x.fPath = e.fPath)→(all.map fun x=>gQ E x.fPath).sum = (E.map (·.fSelf)).sum
 | [],_=>by
  have:∀ l:List Ent,(l.map fun x=>gQ [] x.fPath).sum = 0:=by
   intro l
   induction l with
   | nil=>rfl
   | cons a l ih=>rw [nk,List.sum_cons,ih]; rfl
  exact this all
 | e :: E,h=>by
  have ih:=amZ hs E fun x hx=>h x (ik _ hx)
  have h1:=awV hs e.fSelf (h e lw)
  have add:∀ l:List Ent,(l.map fun x=>gQ (e :: E) x.fPath).sum = (l.map fun x=>if x.fPath = e.fPath then e.fSelf else 0).sum + (l.map fun x=>gQ E x.fPath).sum:=by
   intro l
   induction l with
   | nil=>rfl
   | cons a l ih =>
    simp only [nk,List.sum_cons,ih]
    have:gQ (e :: E) a.fPath = (if a.fPath = e.fPath then e.fSelf else 0) + gQ E a.fPath:=rfl
    rw [this]; omega
  rw [add,h1,ih]
  rfl
theorem auX {all:List Ent} {g:List ax} (h:NodesE all g):g.map (·.fSelf) = all.map (·.fSelf):=by
 apply List.ext_getElem?
 intro j
 rw [ow,ow]
 by_cases hj:j < all.length
 ·obtain ⟨x,hx⟩ : ∃ x,all[j]? = some x:=⟨all[j]'hj,bk hj⟩
  obtain ⟨y,hy⟩ : ∃ y,g[j]? = some y:=⟨g[j]'(by rw [h.len]; exact hj),bk _⟩
  obtain ⟨p,_,e,_⟩:=h.nod j x y hx hy
  rw [hx,hy,jk,jk,e]
 ·have:=h.len
  rw [uw (l:=g) (by omega),uw (l:=all) (by omega)]
  rfl
theorem DocG.self {E all:List Ent} {g:List ax} (hE:BdE E) (h:DocG E all g):dV (qj g) g.length = (E.map (·.fSelf)).sum:=by
 rw [E7 (qj g) (·.fSelf) g (fun k y hy=>q5 hy) g.length (gk _),List.take_length,auX h.nod]
 rw [← amZ h.inv.srt E fun e he=>(h.inv.key _).2 ⟨(hE.num e he).2.2,e,he,List.prefix_refl _⟩]
 congr 1
 exact List.map_congr_left fun x hx=>(h.inv.val x hx).1
theorem apq (l:List ax) (hl:l.length≤9223372036854775807):f8 l l = some true:=by
 have:Ok (f8 l l) (fun b=>b = true):=by
  unfold f8
  simp only [decide_true,Bool.not_true,cond_false]
  refine mZ (Q:=nQ Yes (fun _=>False)) (DX l.length (fun _=>True) hl trivial (fun i _ h2=>?_)) (fun _ _=>a7 rfl) (fun r hr=>hr.elim)
  unfold o8
  refine cq (fun hi=>?_) (fun _=>dZ (show nQ Yes _ (.inl ()) from trivial))
  refine bj (u9 (by omega)) (fun y hy=>?_)
  rw [iW,hy]
  simp only [ck,decide_true,Bool.and_self,bne_self_eq_false,cond_false]
  rw [u0 (n:=l.length) (by omega) hl]
  exact j8 ⟨by omega,rfl,trivial⟩
 obtain ⟨r,h1,h2⟩:=this
 rw [h1,h2]
theorem arQ (e:A2) (h:e.fStack.length≤9223372036854775807):Ok (kz e) Yes:=by
 unfold kz
 refine bj (Q:=Yes) (cq (fun _=>j7) (fun _=>j7)) (fun v _=>?_)
 refine e9 (fun _=>j7) (fun _=>?_)
 refine mZ (Q:=nQ Yes Yes) (DX e.fStack.length (fun _=>True) h trivial (fun i _ h2=>?_)) (fun _ _=>j7) (fun _ _=>j7)
 unfold nW
 refine cq (fun hi=>?_) (fun _=>dZ (show nQ Yes Yes (.inl ()) from trivial))
 refine bj (u9 (by omega)) (fun y hy=>?_)
 refine cq (fun _=>dZ (show nQ Yes Yes (.inr false) from trivial)) (fun _=>?_)
 rw [u0 (n:=e.fStack.length) (by omega) h]
 exact j8 ⟨by omega,rfl,trivial⟩
theorem aoY (l:List aK) (hl:l.length≤9223372036854775807) (hx:∀ x∈l,x.fStack.length≤9223372036854775807):Ok (hJ l) Yes:=by
 unfold hJ
 refine cq (fun _=>j7) (fun _=>?_)
 refine mZ (Q:=nQ Yes Yes) (DX l.length (fun _=>True) hl trivial (fun i _ h2=>?_)) (fun _ _=>j7) (fun _ _=>j7)
 unfold p3
 refine cq (fun hi=>?_) (fun _=>dZ (show nQ Yes Yes (.inl ()) from trivial))
 refine bj (u9 (by omega)) (fun y hy=>?_)
 refine bj (arQ _ (hx y (fw hy))) (fun v _=>?_)
 refine wq (fun _=>dZ (show nQ Yes Yes (.inr false) from trivial)) (fun _=>?_)
 rw [u0 (n:=l.length) (by omega) hl]
 exact j8 ⟨by omega,rfl,trivial⟩
theorem aoQ:hY = some true:=rfl
theorem ayj:∀ {p q r:Pth},iZ p q = -1→iZ q (p++r) = -1→p <+: q
 | [],q,r,_,_=>List.nil_prefix
 | a :: p,[],r,h1,_=>by simp [iZ] at h1
 | a :: p,b :: q,r,h1,h2=>by
  rw [xZ] at h1
  rw [List.cons_append,xZ] at h2
  by_cases e:sLt a b = true
  ·obtain ⟨e1,e2⟩:=afj e
   rw [e1,if_neg (by simp),if_neg (Ne.symm e2)] at h2
   omega
  ·rw [if_neg e] at h1
   by_cases e2:a = b
   ·subst e2
    rw [if_pos rfl] at h1
    rw [if_neg e,if_pos rfl] at h2
    rw [List.cons_prefix_cons]
    exact ⟨rfl,ayj h1 h2⟩
   ·rw [if_neg e2] at h1; omega
theorem aLj {p:Pth} {a b:ByteArray} (h:iZ (p++[a]) (p++[b]) = -1):sLt a b = true:=by
 cases e:sLt a b with
 | true=>rfl
 | false =>
  by_cases e2:a = b
  ·subst e2; exact (iK h).elim
  ·have h3:sLt b a = true:=by rw [← K5 a b]; simp [e,e2]
   have:=KV h3 [] [] p
   rw [A3,this] at h; omega
theorem M5 {l:List ax} {p:Int} {s:ByteArray}:∀ {n:Nat},wW l p n = some s→∃ (k:Nat) (z:ax),k < n∧l[k]? = some z∧z.fParent = p∧z.fName = s
 | 0,h=>by simp [wW] at h
 | n + 1,h=>by
  unfold wW at h
  split at h
  ·rename_i z hz
   split at h
   ·rename_i e
    cases h
    exact ⟨n,z,by omega,hz,e,rfl⟩
   ·obtain ⟨k,z',h1,h2⟩:=M5 h
    exact ⟨k,z',by omega,h2⟩
  ·obtain ⟨k,z',h1,h2⟩:=M5 h
   exact ⟨k,z',by omega,h2⟩
section
variable {E all:List Ent} {g:List ax}
theorem afx (hs:sq all) {j k:Nat} {x y:Ent} (hjk:j < k) (hx:all[j]? = some x) (hy:all[k]? = some y):iZ x.fPath y.fPath = -1:=by
 obtain ⟨h1,rfl⟩:=bw.1 hx
 obtain ⟨h2,rfl⟩:=bw.1 hy
 exact List.pairwise_iff_getElem.1 hs j k h1 h2 hjk
theorem aAq (hs:sq all) {j k:Nat} {x y:Ent} (hx:all[j]? = some x) (hy:all[k]? = some y) (h:iZ x.fPath y.fPath = -1):j < k:=by
 rcases Nat.lt_trichotomy j k with e | e | e
 ·exact e
 ·subst e; rw [hx] at hy; cases hy; exact (iK h).elim
 ·exact (iK (tK h (afx hs e hy hx))).elim
theorem NodesE.at (h:NodesE all g) {i:Nat} {y:ax} (hy:g[i]? = some y):∃ x p,all[i]? = some x∧x.fPath = p++[y.fName]∧y.fSelf = x.fSelf∧y.fCount = x.fCount∧y.fTotal = F8 all x.fPath∧aSZ all p y.fParent:=by
 have hi:=(bw.1 hy).1
 rw [h.len] at hi
 obtain ⟨p,h1⟩:=h.nod i _ y (bk hi) hy
 exact ⟨_,p,bk hi,h1⟩
theorem NodesE.get (h:NodesE all g) {i:Nat} {x:Ent} (hx:all[i]? = some x):∃ y,g[i]? = some y:=⟨g[i]'(by rw [h.len]; exact (bw.1 hx).1),bk _⟩
theorem Pz (hs:sq all) (hN:NodesE all g) {j m:Nat} {x z:Ent} (hx:all[j]? = some x) (hz:all[m]? = some z):gZ g j m = true↔∃ a,z.fPath = x.fPath++[a]:=by
 obtain ⟨y,hy⟩:=hN.get hz
 obtain ⟨z',p,h1,h2,_,_,_,h3⟩:=hN.at hy
 rw [hz] at h1; cases h1
 unfold gZ
 rw [hy]
 simp only [vw]
 constructor
 ·intro h
  rcases h3 with ⟨_,e⟩ | ⟨_,k,u,k1,k2,k3⟩
  ·omega
  ·have:k = j:=by omega
   subst this
   rw [hx] at k1; cases k1
   exact ⟨y.fName,by rw [h2,k2]⟩
 ·rintro ⟨a,ha⟩
  have e:=h2.symm.trans ha
  have e2:=(List.append_inj' e rfl).1
  rcases h3 with ⟨e3,e4⟩ | ⟨e0,k,u,k1,k2,k3⟩
  ·rw [e3] at e2
   obtain ⟨y',hy'⟩:=hN.get hx
   obtain ⟨x',p',g1,g2,_⟩:=hN.at hy'
   rw [hx] at g1; cases g1
   rw [← e2] at g2; simp at g2
  ·rw [k3,P6 hs k1 hx (k2.trans e2)]
theorem aQW (hs:sq all) (hN:NodesE all g) {j:Nat} {x:Ent} (hx:all[j]? = some x):∀ (n:Nat) (k:Nat) (z:Ent),z.fPath.length≤n→all[k]? = some z→x.fPath <+: z.fPath→DescN g (j:Int) (k:Int):=by
 intro n
 induction n with
 | zero =>
  intro k z hl hz hp
  obtain ⟨y,hy⟩:=hN.get hz
  obtain ⟨z',p,h1,h2,_⟩:=hN.at hy
  rw [hz] at h1; cases h1
  rw [h2] at hl; simp at hl
 | succ n ih =>
  intro k z hl hz hp
  obtain ⟨y,hy⟩:=hN.get hz
  obtain ⟨z',p,h1,h2,_,_,_,h3⟩:=hN.at hy
  rw [hz] at h1; cases h1
  rw [h2] at hp
  rcases aVq.1 hp with hp | hp
  ·refine .up hy ?_
   rcases h3 with ⟨e,_⟩ | ⟨_,m,u,m1,m2,m3⟩
   ·obtain ⟨y',hy'⟩:=hN.get hx
    obtain ⟨x',p',g1,g2,_⟩:=hN.at hy'
    rw [hx] at g1; cases g1
    rw [e,g2] at hp
    simp at hp
   ·rw [m3]
    refine ih m u ?_ m1 (by rw [m2]; exact hp)
    rw [m2]; rw [h2,kw,List.length_singleton] at hl; omega
  ·have:k = j:=P6 hs hz hx (by rw [h2,hp])
   subst this; exact .self
theorem auK (hs:sq all) (hN:NodesE all g) (i:Nat) (y:ax) (hy:g[i]? = some y):NodeR g i y 0:=by
 obtain ⟨x,p,hx,h2,_,_,_,h3⟩:=hN.at hy
 refine .inr (.inr ⟨rfl,?_,?_⟩)
 ·rcases h3 with ⟨_,e⟩ | ⟨e0,k,u,k1,k2,k3⟩
  ·exact .inl e
  ·refine .inr ⟨by omega,?_⟩
   have hlt:k < i:=aAq hs k1 hx (by rw [k2,h2]; exact IK _ [] _)
   rw [k3,show ((i:Int) - 1) = ((i - 1:Nat):Int) by omega]
   obtain ⟨z,hz⟩ : ∃ z,all[i - 1]? = some z:=⟨all[i - 1]'(by have:=(bw.1 hx).1; omega),bk _⟩
   refine aQW hs hN k1 z.fPath.length (i - 1) z (gk _) hz ?_
   rcases Nat.lt_or_ge k (i - 1) with h | h
   ·have a1:=afx hs h k1 hz
    have a2:=afx hs (show i - 1 < i by omega) hz hx
    rw [h2,← k2] at a2
    exact ayj a1 a2
   ·have:k = i - 1:=by omega
    subst this
    rw [hz] at k1; cases k1
    exact List.prefix_refl _
 ·rintro ⟨s,h4,h5⟩
  obtain ⟨k,z,k1,k2,k3,k4⟩:=M5 h4
  obtain ⟨x',p',g1,g2,_,_,_,g3⟩:=hN.at k2
  have hpp:p' = p:=by
   rw [k3] at g3
   rcases h3 with ⟨e1,e2⟩ | ⟨e0,m,u,m1,m2,m3⟩ <;> rcases g3 with ⟨f1,f2⟩ | ⟨f0,m',u',n1,n2,n3⟩
   ·rw [e1,f1]
   ·omega
   ·omega
   ·have:m = m':=by omega
    subst this
    rw [m1] at n1; cases n1
    rw [← m2,n2]
  subst hpp
  have:=afx hs k1 g1 hx
  rw [g2,h2] at this
  rw [← k4,aLj this] at h5
  cases h5
theorem abj {all:List Ent} (hs:sq all) (f:Ent→Int):∀ E:List Ent,(∀ e∈E,∃ x∈all,x.fPath = e.fPath)→(all.map fun x=>(E.map fun e=>if x.fPath = e.fPath then f e else 0).sum).sum = (E.map f).sum
 | [],_=>by
  have:∀ l:List Ent,(l.map fun x=>(([]:List Ent).map fun e=>if x.fPath = e.fPath then f e else 0).sum).sum = 0:=by
   intro l
   induction l with
   | nil=>rfl
   | cons a l ih=>rw [nk,List.sum_cons,ih]; rfl
  exact this all
 | e :: E,h=>by
  have ih:=abj hs f E fun x hx=>h x (ik _ hx)
  have h1:=awV hs (f e) (h e lw)
  have add:∀ l:List Ent,(l.map fun x=>((e :: E).map fun e=>if x.fPath = e.fPath then f e else 0).sum).sum = (l.map fun x=>if x.fPath = e.fPath then f e else 0).sum + (l.map fun x=>(E.map fun e=>if x.fPath = e.fPath then f e else 0).sum).sum:=by
   intro l
   induction l with
   | nil=>rfl
   | cons a l ih =>
    simp only [nk,List.sum_cons] at ih ⊢
    rw [ih]; omega
  rw [add,h1,ih]
  rfl
theorem aEz (h:NodesE all g):g.map (·.fCount) = all.map (·.fCount):=by
 apply List.ext_getElem?
 intro j
 rw [ow,ow]
 by_cases hj:j < all.length
 ·obtain ⟨x,hx⟩ : ∃ x,all[j]? = some x:=⟨all[j]'hj,bk hj⟩
  obtain ⟨y,hy⟩:=h.get hx
  obtain ⟨p,_,_,e,_⟩:=h.nod j x y hx hy
  rw [hx,hy,jk,jk,e]
 ·have:=h.len
  rw [uw (l:=g) (by omega),uw (l:=all) (by omega)]
  rfl
theorem DocG.count (hE:BdE E) (h:DocG E all g):dV (Ux g) g.length = (E.map (·.fCount)).sum:=by
 rw [E7 (Ux g) (·.fCount) g (fun k y hy=>U8 hy) g.length (gk _),List.take_length,aEz h.nod]
 rw [← abj h.inv.srt (·.fCount) E fun e he=>(h.inv.key _).2 ⟨(hE.num e he).2.2,e,he,List.prefix_refl _⟩]
 congr 1
 exact List.map_congr_left fun x hx=>(h.inv.val x hx).2
theorem aOq (hs:sq all) (hN:NodesE all g) (hcl:∀ p a,(∃ x∈all,x.fPath = p++[a])→p ≠ []→∃ x∈all,x.fPath = p) {i:Nat} {x:Ent} (hx:all[i]? = some x) :
  F8 all x.fPath = x.fSelf + dV (fun m=>if gZ g i m = true then F8 all ((all[m]?.map (·.fPath)).getD []) else 0) g.length:=by
 have hlen:=hN.len
 have tF:∀ q,F8 all q = dV (fun k=>if q <+: ((all[k]?.map (·.fPath)).getD []) then ((all[k]?.map (·.fSelf)).getD 0) else 0) all.length:=fun q=>by
  rw [E7 _ (fun z:Ent=>if q <+: z.fPath then z.fSelf else 0) all (fun k y hy=>by rw [hy]; rfl) all.length (gk _),List.take_length]
  rfl
 have e1:dV (fun m=>if gZ g i m = true then F8 all ((all[m]?.map (·.fPath)).getD []) else 0) g.length = dV (fun m=>dV (fun k=>if gZ g i m = true then (if ((all[m]?.map (·.fPath)).getD []) <+: ((all[k]?.map (·.fPath)).getD []) then ((all[k]?.map (·.fSelf)).getD 0) else 0) else 0) all.length) all.length:=by
  rw [hlen]
  refine g7 fun m hm=>?_
  by_cases h:gZ g i m = true
  ·rw [if_pos h,tF]
   exact g7 fun k hk=>by rw [if_pos h]
  ·rw [if_neg h,g7 (g:=fun _=>0) fun k hk=>by rw [if_neg h],uW]
 rw [e1,acJ (fun m k=>if gZ g i m = true then (if ((all[m]?.map (·.fPath)).getD []) <+: ((all[k]?.map (·.fPath)).getD []) then ((all[k]?.map (·.fSelf)).getD 0) else 0) else 0) all.length all.length,tF]
 have e2:∀ k,k < all.length→(if x.fPath <+: ((all[k]?.map (·.fPath)).getD []) then ((all[k]?.map (·.fSelf)).getD 0) else 0) = (if k = i then x.fSelf else 0) + dV (fun m=>if gZ g i m = true then (if ((all[m]?.map (·.fPath)).getD []) <+: ((all[k]?.map (·.fPath)).getD []) then ((all[k]?.map (·.fSelf)).getD 0) else 0) else 0) all.length:=by
  intro k hk
  obtain ⟨z,hz⟩ : ∃ z,all[k]? = some z:=⟨all[k]'hk,bk hk⟩
  rw [hz]
  simp only [jk,Option.getD_some]
  by_cases hp:x.fPath <+: z.fPath
  ·rw [if_pos hp]
   by_cases e:k = i
   ·subst e
    rw [hx] at hz; cases hz
    rw [if_pos rfl,g7 (g:=fun _=>0) fun m hm=>?_,uW]
    ·omega
    ·obtain ⟨u,hu⟩ : ∃ u,all[m]? = some u:=⟨all[m]'hm,bk hm⟩
     rw [hu]
     simp only [jk,Option.getD_some]
     split
     ·rename_i hk'
      obtain ⟨a,ha⟩:=(Pz hs hN hx hu).1 hk'
      rw [if_neg]
      intro h
      have:=h.length_le
      rw [ha,kw,List.length_singleton] at this; omega
     ·rfl
   ·rw [if_neg e]
    obtain ⟨r,hr⟩:=hp
    cases r with
    | nil =>
     rw [List.append_nil] at hr
     exact absurd (P6 hs hz hx hr.symm) e
    | cons a r =>
     have hne:x.fPath ≠ []:=by
      obtain ⟨y',hy'⟩:=hN.get hx
      obtain ⟨x',p',g1,g2,_⟩:=hN.at hy'
      rw [hx] at g1; cases g1
      rw [g2]; simp
     have pre:∀ (r:Pth) (q:Pth),q ≠ []→(∃ u∈all,u.fPath = q++r)→∃ u∈all,u.fPath = q:=by
      intro r
      induction r with
      | nil=>intro q _ h; rwa [List.append_nil] at h
      | cons b r ih =>
       intro q hq h
       have:=ih (q++[b]) (by simp) (by rw [List.append_assoc]; exact h)
       exact hcl q b this hq
     obtain ⟨u,hu,hup⟩:=pre r (x.fPath++[a]) (by simp) ⟨z,fw hz,by rw [← hr,List.append_assoc]; rfl⟩
     obtain ⟨m,hm,rfl⟩:=List.mem_iff_getElem.1 hu
     have hum:=bk hm
     have hone:∀ m',m' < all.length→(if gZ g i m' = true then (if ((all[m']?.map (·.fPath)).getD []) <+: z.fPath then z.fSelf else 0) else 0) = if m' = m then z.fSelf else 0:=by
      intro m' hm'
      obtain ⟨v,hv⟩ : ∃ v,all[m']? = some v:=⟨all[m']'hm',bk hm'⟩
      rw [hv]
      simp only [jk,Option.getD_some]
      by_cases e3:m' = m
      ·subst e3
       rw [hum] at hv; cases hv
       rw [if_pos rfl,if_pos ((Pz hs hN hx hum).2 ⟨a,hup⟩),if_pos]
       rw [hup,← hr]; exact ⟨r,by simp⟩
      ·rw [if_neg e3]
       by_cases e4:gZ g i m' = true
       ·rw [if_pos e4]
        obtain ⟨c,hc⟩:=(Pz hs hN hx hv).1 e4
        rw [if_neg]
        intro h
        rw [hc] at h
        have:c = a:=U5 h (by rw [← hr]; exact ⟨r,by simp⟩)
        subst this
        exact e3 (P6 hs hv hum (hc.trans hup.symm))
       ·rw [if_neg e4]
     rw [g7 hone,JX,if_pos hm]; omega
  ·rw [if_neg hp]
   have hki:k ≠ i:=fun e=>by
    subst e; rw [hx] at hz; cases hz
    exact hp (List.prefix_refl _)
   rw [if_neg hki,g7 (g:=fun _=>0) fun m hm=>?_,uW]
   ·omega
   ·obtain ⟨u,hu⟩ : ∃ u,all[m]? = some u:=⟨all[m]'hm,bk hm⟩
    rw [hu]
    simp only [jk,Option.getD_some]
    split
    ·rename_i hk'
     obtain ⟨a,ha⟩:=(Pz hs hN hx hu).1 hk'
     rw [if_neg]
     intro h
     rw [ha] at h
     exact hp ((List.prefix_append _ _).trans h)
    ·rfl
 rw [g7 e2,I5,JX,if_pos (bw.1 hx).1]
theorem DocG.val (hE:SmlE E) (hD:DocG E all g) (hself:(E.map (·.fSelf)).sum≤100000000000000) (hcnt:(E.map (·.fCount)).sum≤20000) (hlen:all.length≤2000) (hnam:∀ e∈E,∀ s∈e.fPath,c6 s = some 0) (hz:∀ e∈E,e.fCount = 0→e.fSelf = 0) (hleaf:∀ q,qY E q→jZ E q = 0→∃ a,qY E (q++[a])):ValF g:=by
 have hs:=hD.inv.srt
 have hN:=hD.nod
 have hgl:=hN.len
 have hnode:∀ (k:Nat) z,k < g.length→g[k]? = some z→NodeR g k z 0:=fun k z _ hz=>auK hs hN k z hz
 have hgood:L4 g:=by
  refine ⟨fun k y hy=>?_,by rw [hD.self hE.bd]; exact hself,by rw [hD.count hE.bd]; exact hcnt⟩
  obtain ⟨x,p,hx,h2,h3,h4,_,_⟩:=hN.at hy
  have hxm:=fw hx
  obtain ⟨v1,v2⟩:=hD.inv.val x hxm
  obtain ⟨h5,e,he,h6⟩:=(hD.inv.key _).1 ⟨x,hxm,rfl⟩
  have s1:=pZ (fun e:Ent=>e.fSelf) (fun e=>x.fPath = e.fPath) E fun x hx=>(hE.bd.num x hx).1
  have s2:=pZ (fun e:Ent=>e.fCount) (fun e=>x.fPath = e.fPath) E fun x hx=>(hE.bd.num x hx).2.1
  refine ⟨hnam e he _ (h6.subset (by rw [h2]; simp)),?_,?_,?_,?_,fun h0=>?_⟩
  ·rw [h3,v1]; unfold gQ; omega
  ·rw [h3,v1]; unfold gQ; omega
  ·rw [h4,v2]; unfold jZ; omega
  ·rw [h4,v2]; unfold jZ; omega
  ·rw [h4,v2] at h0
   rw [h3,v1]
   have:∀ E':List Ent,(∀ e∈E',e∈E)→(E'.map fun e=>if x.fPath = e.fPath then e.fCount else 0).sum = 0→(E'.map fun e=>if x.fPath = e.fPath then e.fSelf else 0).sum = 0:=by
    intro E'
    induction E' with
    | nil=>intro _ _; rfl
    | cons e E' ih =>
     intro hm h
     have q1:=pZ (fun e:Ent=>e.fCount) (fun e=>x.fPath = e.fPath) E' fun z hz=>(hE.bd.num z (hm z (ik _ hz))).2.1
     have q2:=hE.bd.num e (hm e lw)
     simp only [nk,List.sum_cons] at h ⊢
     by_cases e1:x.fPath = e.fPath
     ·rw [if_pos e1] at h ⊢
      rw [ih (fun z hz=>hm z (ik _ hz)) (by omega),hz e (hm e lw) (by omega)]; rfl
     ·rw [if_neg e1] at h ⊢
      rw [ih (fun z hz=>hm z (ik _ hz)) (by omega)]; rfl
   exact this E (fun _ h=>h) h0
 have hu:UpN g g.length:=UpN.of hnode
 obtain ⟨⟨t,lf⟩,_,H⟩:=axW g (by omega) hgood hu
 refine ⟨by omega,hgood,hnode,(X8 hgood hnode H).1 ?_⟩
 have htot:∀ d i x,all.length - i≤d→all[i]? = some x→tg t i = F8 all x.fPath:=by
  intro d
  induction d with
  | zero=>intro i x h hx; have:=(bw.1 hx).1; omega
  | succ d ih =>
   intro i x h hx
   have hi:=(bw.1 hx).1
   obtain ⟨y,hy⟩:=hN.get hx
   obtain ⟨x',p,g1,_,g3,_⟩:=hN.at hy
   rw [hx] at g1; cases g1
   rw [H.sum i (by omega),aOq hs hN hD.inv.pre hx,if_pos (Nat.zero_le _),q5 hy,g3]
   congr 1
   unfold alV
   refine g7 fun m hm=>?_
   by_cases hk:gZ g i m = true
   ·have hlt:=aJx hu hk
    obtain ⟨u,hu'⟩ : ∃ u,all[m]? = some u:=⟨all[m]'(by omega),bk _⟩
    rw [if_pos ⟨Nat.zero_le _,hk⟩,if_pos hk,hu',ih m u (by omega) hu']
    rfl
   ·rw [if_neg fun h=>hk h.2,if_neg hk]
 intro i y hy
 obtain ⟨x,p,hx,h2,h3,h4,h5,_⟩:=hN.at hy
 refine ⟨by rw [h5,htot _ i x (gk _) hx],fun ⟨hl,hc⟩=>?_⟩
 have hi:=(bw.1 hx).1
 have hno:=(X3 hnode (i:=i) (by omega)).1 hl
 have hxm:=fw hx
 obtain ⟨a,ha⟩:=hleaf x.fPath ((hD.inv.key _).1 ⟨x,hxm,rfl⟩) (by rw [← (hD.inv.val x hxm).2,← h4]; exact hc)
 obtain ⟨u,hu',hup⟩:=(hD.inv.key _).2 ha
 obtain ⟨m,hm,rfl⟩:=List.mem_iff_getElem.1 hu'
 have hum:=bk hm
 have hlt:i < m:=aAq hs hx hum (by rw [hup]; exact IK _ [] _)
 have:=hno (m - (i + 1)) (by omega)
 rw [show i + 1 + (m - (i + 1)) = m by omega,(Pz hs hN hx hum).2 ⟨a,hup⟩] at this
 cases this
end
open Go.RM (Ar T4 yZ N5 ar0 zY upF TZ aaZ sx mergeF t8)
structure EntN (l:List ax) (El:List Ent):Prop where
 len:El.length = l.length
 nod:∀ (j:Nat) y e,l[j]? = some y→El[j]? = some e→PathN l (j:Int) e.fPath∧e.fSelf = y.fSelf∧e.fCount = y.fCount
section
variable {l:List ax} {El:List Ent}
theorem EntN.at (h:EntN l El) {j:Nat} {e:Ent} (he:El[j]? = some e):∃ y,l[j]? = some y∧PathN l (j:Int) e.fPath∧e.fSelf = y.fSelf∧e.fCount = y.fCount:=by
 have hj:=(bw.1 he).1
 rw [h.len] at hj
 exact ⟨_,bk hj,h.nod j _ e (bk hj) he⟩
theorem EntN.get (h:EntN l El) {j:Nat} (hj:j < l.length):∃ e,El[j]? = some e:=⟨El[j]'(by rw [h.len]; exact hj),bk _⟩
theorem PathN.ne {j:Nat} {p:Pth} (h:PathN l (j:Int) p):p ≠ []:=by
 generalize ha:(j:Int) = a at h
 cases h with
 | out h=>omega
 | up _ _=>simp
theorem EntN.uniq {El':List Ent} (h:EntN l El) (h':EntN l El'):El = El':=by
 apply List.ext_getElem?
 intro j
 by_cases hj:j < l.length
 ·obtain ⟨e,he⟩:=h.get hj
  obtain ⟨e',he'⟩:=h'.get hj
  obtain ⟨y,hy,a1,a2,a3⟩:=h.at he
  obtain ⟨b1,b2,b3⟩:=h'.nod j y e' hy he'
  rw [he,he']
  cases e with | mk p s c => cases e' with | mk p' s' c' =>
  simp only at a1 a2 a3 b1 b2 b3
  rw [a1.uni b1,a2,a3,b2,b3]
 ·have:=h.len; have:=h'.len
  rw [uw (by omega),uw (by omega)]
theorem EntN.srt (V:ValF l) (h:EntN l El):sq El:=by
 have key:∀ d (i:Nat) e e',El[i]? = some e→El[i + d + 1]? = some e'→iZ e.fPath e'.fPath = -1:=by
  intro d
  induction d with
  | zero =>
   intro i e e' he he'
   obtain ⟨y,hy,a1,_⟩:=h.at he
   obtain ⟨y',hy',b1,_⟩:=h.at he'
   exact V.incr (dj hy') a1 b1
  | succ d ih =>
   intro i e e' he he'
   have hlt:=(bw.1 he').1
   obtain ⟨u,hu⟩ : ∃ u,El[i + d + 1]? = some u:=⟨El[i + d + 1]'(by omega),bk _⟩
   obtain ⟨y,hy,a1,_⟩:=h.at hu
   obtain ⟨y',hy',b1,_⟩:=h.at he'
   exact tK (ih i e u he hu) (V.incr (i:=i + d + 1) (dj hy') a1 b1)
 unfold sq
 rw [List.pairwise_iff_getElem]
 intro i j hi hj hij
 obtain ⟨d,rfl⟩ : ∃ d,j = i + d + 1:=⟨j - i - 1,by omega⟩
 exact key d i _ _ (bk hi) (bk hj)
theorem EntN.pre (h:EntN l El):∀ p a,(∃ x∈El,x.fPath = p++[a])→p ≠ []→∃ x∈El,x.fPath = p:=by
 rintro p a ⟨x,hx,e⟩ hp
 obtain ⟨j,hj,rfl⟩:=List.mem_iff_getElem.1 hx
 obtain ⟨y,hy,a1,_⟩:=h.at (bk hj)
 obtain ⟨q,hq,e2⟩:=a1.inv rfl hy
 have e3:=List.append_inj' (e.symm.trans e2) rfl
 rw [← e3.1] at hq
 generalize hpar:y.fParent = par at hq
 cases hq with
 | out h=>exact absurd rfl hp
 | @up k z p' hz hz2 =>
  have hk:=dj hz
  obtain ⟨u,hu⟩:=h.get hk
  obtain ⟨z',hz',b1,_⟩:=h.at hu
  exact ⟨u,fw hu,b1.uni (.up hz hz2)⟩
theorem EntN.key (h:EntN l El) (q:Pth):(∃ x∈El,x.fPath = q)↔qY El q:=by
 constructor
 ·rintro ⟨x,hx,rfl⟩
  obtain ⟨j,hj,rfl⟩:=List.mem_iff_getElem.1 hx
  obtain ⟨y,hy,a1,_⟩:=h.at (bk hj)
  exact ⟨a1.ne,_,hx,List.prefix_refl _⟩
 ·rintro ⟨h1,x,hx,r,hr⟩
  have:∀ (r q:Pth),q ≠ []→(∃ u∈El,u.fPath = q++r)→∃ u∈El,u.fPath = q:=by
   intro r
   induction r with
   | nil=>intro q _ h; rwa [List.append_nil] at h
   | cons b r ih =>
    intro q hq h'
    exact h.pre q b (ih (q++[b]) (by simp) (by rw [List.append_assoc]; exact h')) hq
  exact this r q h1 ⟨x,hx,hr.symm⟩
theorem Px {El:List Ent} (hs:sq El) (f:Ent→Int) {x:Ent} (hx:x∈El):(El.map fun e=>if x.fPath = e.fPath then f e else 0).sum = f x:=by
 induction El with
 | nil=>simp at hx
 | cons a El ih =>
  unfold sq at hs
  rw [List.pairwise_cons] at hs
  simp only [nk,List.sum_cons]
  rcases iw.1 hx with rfl | hx
  ·rw [if_pos rfl]
   have:∀ l:List Ent,(∀ e∈l,x.fPath ≠ e.fPath)→(l.map fun e=>if x.fPath = e.fPath then f e else 0).sum = 0:=by
    intro l
    induction l with
    | nil=>intro _; rfl
    | cons b l ih2 =>
     intro h
     simp only [nk,List.sum_cons,if_neg (h b lw)]
     rw [ih2 fun x hx=>h x (ik _ hx)]; rfl
   rw [this El fun e he h=>by have:=hs.1 e he; rw [h] at this; exact iK this]
   omega
  ·rw [if_neg fun h=>by have:=hs.1 x hx; rw [h] at this; exact iK this,ih hs.2 hx]; omega
theorem EntN.inv (V:ValF l) (h:EntN l El):InvE El (qY El) (gQ El) (jZ El):=by
 refine ⟨h.srt V,h.key,fun x hx=>⟨(Px (h.srt V) (·.fSelf) hx).symm,(Px (h.srt V) (·.fCount) hx).symm⟩,fun q hq=>?_⟩
 have hne:∀ e∈El,q ≠ e.fPath:=fun e he e1=>hq ((h.key q).1 ⟨e,he,e1.symm⟩)
 have:∀ (f:Ent→Int) (l:List Ent),(∀ e∈l,q ≠ e.fPath)→(l.map fun e=>if q = e.fPath then f e else 0).sum = 0:=by
  intro f l
  induction l with
  | nil=>intro _; rfl
  | cons b l ih2 =>
   intro h
   simp only [nk,List.sum_cons,if_neg (h b lw)]
   rw [ih2 fun x hx=>h x (ik _ hx)]; rfl
 exact ⟨this (·.fSelf) El hne,this (·.fCount) El hne⟩
theorem akz (h:EntN l El):El.map (·.fSelf) = l.map (·.fSelf)∧El.map (·.fCount) = l.map (·.fCount):=by
 constructor <;>
 ·apply List.ext_getElem?
  intro j
  rw [ow,ow]
  by_cases hj:j < l.length
  ·obtain ⟨e,he⟩:=h.get hj
   obtain ⟨y,hy,_,a2,a3⟩:=h.at he
   rw [he,hy,jk,jk]
   first | rw [a2] | rw [a3]
  ·have:=h.len
   rw [uw (l:=El) (by omega),uw (l:=l) (by omega)]
   rfl
theorem EntN.sums (V:ValF l) (h:EntN l El):(El.map (·.fSelf)).sum = dV (qj l) l.length∧(El.map (·.fCount)).sum = dV (Ux l) l.length:=by
 rw [(akz h).1,(akz h).2,E7 (qj l) (·.fSelf) l (fun k y hy=>q5 hy) l.length (gk _),E7 (Ux l) (·.fCount) l (fun k y hy=>U8 hy) l.length (gk _),List.take_length]
 exact ⟨rfl,rfl⟩
theorem EntN.num (V:ValF l) (h:EntN l El) {e:Ent} (he:e∈El):0≤e.fSelf∧0≤e.fCount∧e.fPath ≠ []∧e.fPath.length≤l.length∧(∀ s∈e.fPath,c6 s = some 0)∧(e.fCount = 0→e.fSelf = 0)∧∀ (hn:∀ x∈l,okN x.fName),∀ s∈e.fPath,okN s:=by
 obtain ⟨j,hj,rfl⟩:=List.mem_iff_getElem.1 he
 obtain ⟨y,hy,a1,a2,a3⟩:=h.at (bk hj)
 have hn:=V.good.num j y hy
 obtain ⟨p,hp,hpl,_⟩:=V.up.path j y hy
 have hjl:=dj hy
 have names:∀ {i:Int} {p:Pth},PathN l i p→∀ s∈p,∃ x∈l,x.fName = s:=by
  intro i p hp
  induction hp with
  | out _=>intro s hs; simp at hs
  | @up k z q hz _ ih =>
   intro s hs
   rcases qw.1 hs with hs | hs
   ·exact ih s hs
   ·rw [dk.1 hs]; exact ⟨z,fw hz,rfl⟩
 refine ⟨by rw [a2]; exact hn.2.1,by rw [a3]; exact hn.2.2.2.1,a1.ne,by rw [a1.uni hp]; omega,fun s hs=>?_,fun h0=>by rw [a2]; rw [a3] at h0; exact hn.2.2.2.2.2 h0,fun hok s hs=>?_⟩
 ·obtain ⟨x,hx,rfl⟩:=names a1 s hs
  obtain ⟨k,hk,rfl⟩:=List.mem_iff_getElem.1 hx
  exact (V.good.num k _ (bk hk)).1
 ·obtain ⟨x,hx,rfl⟩:=names a1 s hs
  exact hok x hx
theorem aZZ (hu:UpN l l.length):∀ (f:Nat) {i:Int} {p:Pth},PathN l i p→-1≤i→i < l.length→i + 2≤f→∀ acc,upF (l.map n5) f i acc = some (acc++p.reverse)
 | 0,i,p,h,h0,hi,hf,acc=>by omega
 | f + 1,i,p,h,h0,hi,hf,acc=>by
  unfold upF
  cases h with
  | out h=>rw [if_pos h]; simp
  | @up k y q hy hq =>
   rw [if_neg (by omega)]
   have hk:(l.map n5)[(k:Int).toNat]? = some (n5 y):=by rw [Int.toNat_natCast,ow,hy]; rfl
   rw [hk]
   simp only [ck]
   have hlt:=hu k y (dj hy) hy
   show upF (l.map n5) f y.fParent (acc++[y.fName]) = _
   rw [aZZ hu f hq hlt.1 (by have:=dj hy; omega) (by omega) (acc++[y.fName])]
   simp
theorem aNJ (V:ValF l) (h:EntN l El) (ar:Ar):aaZ (l.map n5) ar = El.foldlM Nz ar:=by
 have hl:=V.len
 unfold aaZ
 rw [if_pos (by rw [jw]; omega),jw]
 have key:∀ n,n≤l.length→(List.range n).foldlM (TZ (l.map n5)) ar = (El.take n).foldlM Nz ar:=by
  intro n
  induction n with
  | zero=>intro _; rfl
  | succ n ih =>
   intro hn
   obtain ⟨e,he⟩:=h.get (show n < l.length by omega)
   obtain ⟨y,hy,a1,a2,a3⟩:=h.at he
   rw [List.range_succ,List.foldlM_append,ih (by omega),A1 he,List.foldlM_append]
   congr 1
   funext ar'
   show [n].foldlM (TZ (l.map n5)) ar' = [e].foldlM Nz ar'
   rw [List.foldlM_cons,List.foldlM_cons]
   congr 1
   unfold TZ
   rw [aZZ V.up 2001 a1 (by omega) (by omega) (by omega) []]
   simp only [ck,List.nil_append]
   have hk:(l.map n5)[n]? = some (n5 y):=by rw [ow,hy]; rfl
   rw [hk]
   simp only [ck]
   obtain ⟨p,hp,hpl,_⟩:=V.up.path n y hy
   have hpe:=a1.uni hp
   rw [if_pos ⟨by rw [ne_eq,List.reverse_eq_nil_iff]; exact a1.ne,by rw [List.length_reverse,hpe]; omega⟩,List.reverse_reverse]
   unfold Nz
   rw [a2,a3]
   rfl
 rw [key l.length (gk _),List.take_of_length_le (by rw [h.len]; omega)]
end
open Go.RM (Ar T4 yZ N5 ar0 zY upF TZ aaZ sx mergeF t8)
theorem aiX {A B:List Ent} {q:Pth}:qY (A++B) q↔qY A q∨qY B q:=by
 unfold qY
 constructor
 ·rintro ⟨h1,e,he,h2⟩
  rcases qw.1 he with he | he
  ·exact .inl ⟨h1,e,he,h2⟩
  ·exact .inr ⟨h1,e,he,h2⟩
 ·rintro (⟨h1,e,he,h2⟩ | ⟨h1,e,he,h2⟩)
  ·exact ⟨h1,e,List.mem_append_left _ he,h2⟩
  ·exact ⟨h1,e,List.mem_append_right _ he,h2⟩
theorem adx (A B:List Ent) (q:Pth):gQ (A++B) q = gQ A q + gQ B q:=by unfold gQ; rw [vk,List.sum_append]
theorem acj (A B:List Ent) (q:Pth):jZ (A++B) q = jZ A q + jZ B q:=by unfold jZ; rw [vk,List.sum_append]
theorem aTZ (A B:List Ent):szE (A++B) = szE A + szE B:=by unfold szE; rw [vk,List.sum_append]
theorem UZ {P:ByteArray→Prop} {E all:List Ent} {S C:Pth→Int} (h:InvE all (qY E) S C) (hn:∀ e∈E,∀ s∈e.fPath,P s) {l:List ax} (hN:NodesE all l):∀ y∈l,P y.fName:=by
 intro y hy
 obtain ⟨j,hj,rfl⟩:=List.mem_iff_getElem.1 hy
 obtain ⟨x,p,hx,hp,_⟩:=hN.at (bk hj)
 obtain ⟨_,e,he,h2⟩:=(h.key _).1 ⟨x,fw hx,hp⟩
 exact hn e he _ (h2.subset (by simp))
theorem aPz (l:List ax) (hl:l.length≤2000) (hn:∀ x∈l,c6 x.fName = some 0):Ok (k9 l) (fun r=>r = 0∨r = 2):=by
 unfold k9
 refine mZ (Q:=nQ Yes (fun r=>r = 2)) (rW (fun s:Int × Int × Int=>∃ n:Nat,s.2.2 = (n:Int)∧n≤l.length) (fun s=>((l.length:Int) - s.2.2).toNat) (fun s hs=>?_) ⟨0,rfl,Nat.zero_le _⟩ (by simp [gq]; omega)) (fun r _=>?_) (fun r hr=>a7 (.inr hr))
 ·obtain ⟨a,b,c⟩:=s
  obtain ⟨n,h1,h2⟩:=hs
  simp only at h1
  subst h1
  unfold l8
  dsimp only
  refine cq (fun hi=>?_) (fun hi=>dZ (show nQ Yes _ (.inl _) from trivial))
  refine bj (u9 (by omega)) (fun y hy=>?_)
  rw [hn y (fw hy)]
  simp only [ck,decide_true,Bool.not_true,cond_false]
  refine bj (Q:=Yes) ?_ (fun v _=>?_)
  ·refine cq (fun _=>j7) (fun _=>cq (fun _=>j7) (fun _=>cq (fun _=>j7) (fun _=>cq (fun _=>j7) (fun _=>cq (fun _=>j7) (fun _=>j7)))))
  refine e9 (fun _=>dZ (show nQ Yes (fun r=>r = 2) (.inr 2) from rfl)) (fun _=>?_)
  rw [u0 (n:=l.length) (by omega) (by omega)]
  exact j8 ⟨⟨n + 1,rfl,by omega⟩,by simp only; omega⟩
 ·obtain ⟨a,b⟩:=r
  dsimp only
  refine bj (Q:=Yes) (cq (fun _=>j7) (fun _=>j7)) (fun v _=>?_)
  exact e9 (fun _=>a7 (.inr rfl)) (fun _=>a7 (.inl rfl))
theorem aNq (l:List ax) (hl:l.length≤2000) (hn:∀ x∈l,c6 x.fName = some 0) (hok:∀ x∈l,okN x.fName) (hb : ¬ L4 l):eK l = some 2:=by
 obtain ⟨r,h1,h2⟩:=aPz l hl hn
 obtain ⟨r',h3,h4⟩:=aoJ l hl hok
 rw [h1] at h3; cases h3
 have hr:r = 2:=by
  rcases h2 with h | h
  ·exact absurd (h4.1 h) hb
  ·exact h
 subst hr
 unfold eK
 rw [h1]
 have : ¬ (2000 < (l.length:Int)):=by omega
 simp [this]
theorem acQ {E all:List Ent} {S C:Pth→Int} {l:List ax} (hI:InvE all (qY E) S C) (hN:NodesE all l) {q:Pth} (hq:qY E q) (hb:100000000000000 < S q∨20000 < C q) : ¬ L4 l:=by
 intro hg
 obtain ⟨x,hx,rfl⟩:=(hI.key q).2 hq
 obtain ⟨j,hj,rfl⟩:=List.mem_iff_getElem.1 hx
 obtain ⟨y,hy⟩:=hN.get (bk hj)
 obtain ⟨x',p,h1,_,h3,h4,_⟩:=hN.at hy
 rw [bk hj] at h1
 cases h1
 obtain ⟨v1,v2⟩:=hI.val _ hx
 have hn:=hg.num j y hy
 unfold adJ at hn
 rcases hb with hb | hb
 ·have:=hn.2.2.1; omega
 ·have:=hn.2.2.2.2.1; omega
section
variable {la lb:List ax} {Ea Eb:List Ent}
theorem aEZ (Va:ValF la) (Vb:ValF lb) (hna:∀ x∈la,okN x.fName) (hnb:∀ x∈lb,okN x.fName) (ha:EntN la Ea) (hb:EntN lb Eb) (hsz:szE Ea + szE Eb≤100000) (h1:la.length≤900) (h2:lb.length≤900):SmlE (Ea++Eb)∧((Ea++Eb).map (·.fSelf)).sum = dV (qj la) la.length + dV (qj lb) lb.length∧(∀ e∈Ea++Eb,∀ s∈e.fPath,c6 s = some 0):=by
 obtain ⟨a1,a2⟩:=ha.sums Va
 obtain ⟨b1,b2⟩:=hb.sums Vb
 have:=Va.good.self; have:=Va.good.cnt
 have:=Vb.good.self; have:=Vb.good.cnt
 have hs:((Ea++Eb).map (·.fSelf)).sum = dV (qj la) la.length + dV (qj lb) lb.length:=by rw [vk,List.sum_append,a1,b1]
 have hc:((Ea++Eb).map (·.fCount)).sum = dV (Ux la) la.length + dV (Ux lb) lb.length:=by rw [vk,List.sum_append,a2,b2]
 refine ⟨⟨⟨fun e he=>?_,by rw [aTZ]; exact hsz,by omega,by omega⟩,⟨Ea.map (·.fPath)++Eb.map (·.fPath),?_,fun q hq=>?_⟩,by omega,fun e he=>?_,fun e he=>?_⟩,hs,fun e he=>?_⟩
 ·rcases qw.1 he with he | he
  ·have:=ha.num Va he; exact ⟨this.1,this.2.1,this.2.2.1⟩
  ·have:=hb.num Vb he; exact ⟨this.1,this.2.1,this.2.2.1⟩
 ·rw [kw,jw,jw,ha.len,hb.len]; omega
 ·rcases aiX.1 hq with hq | hq
  ·obtain ⟨x,hx,rfl⟩:=(ha.key q).2 hq
   exact List.mem_append_left _ (qk.2 ⟨x,hx,rfl⟩)
  ·obtain ⟨x,hx,rfl⟩:=(hb.key q).2 hq
   exact List.mem_append_right _ (qk.2 ⟨x,hx,rfl⟩)
 ·rcases qw.1 he with he | he
  ·have:=(ha.num Va he).2.2.2.1; omega
  ·have:=(hb.num Vb he).2.2.2.1; omega
 ·rcases qw.1 he with he | he
  ·exact (ha.num Va he).2.2.2.2.2.2 hna
  ·exact (hb.num Vb he).2.2.2.2.2.2 hnb
 ·rcases qw.1 he with he | he
  ·exact (ha.num Va he).2.2.2.2.1
  ·exact (hb.num Vb he).2.2.2.2.1
theorem a0q (l:List ax):(l.map n5).map T2 = l:=by
 rw [List.map_map]
 conv=>rhs; rw [← List.map_id l]
 exact List.map_congr_left fun _ _=>rfl
theorem aRq (Va:ValF la) (Vb:ValF lb) (hna:∀ x∈la,okN x.fName) (hnb:∀ x∈lb,okN x.fName) (ha:EntN la Ea) (hb:EntN lb Eb) (hsz:szE Ea + szE Eb≤100000) (h1:la.length≤900) (h2:lb.length≤900) :
  ∃ all g c,DocG (Ea++Eb) all g∧eK g = some c∧(c = 0↔ValF g)∧yV la lb = some (if c = 0 then (g,0) else ([],c))∧kQ (Ea++Eb) = some (if c = 0 then (g,0) else ([],c)):=by
 obtain ⟨hS,_,hnam⟩:=aEZ Va Vb hna hnb ha hb hsz h1 h2
 obtain ⟨all,g,c,hD,hc,hV,hof⟩:=aUx hS
 refine ⟨all,g,c,hD,hc,hV,?_,hof⟩
 have hgl:all.length≤1800:=by
  have:=uK (l:=all.map (·.fPath)) (l':=Ea.map (·.fPath)++Eb.map (·.fPath)) (by
   have:=hD.inv.srt
   unfold sq at this
   unfold List.Nodup
   rw [List.pairwise_map]
   exact this.imp fun h e=>by rw [e] at h; exact iK h) fun q hq=>by
    obtain ⟨x,hx,rfl⟩:=qk.1 hq
    rcases aiX.1 ((hD.inv.key _).1 ⟨x,hx,rfl⟩) with hq | hq
    ·obtain ⟨u,hu,e⟩:=(ha.key _).2 hq
     exact List.mem_append_left _ (qk.2 ⟨u,hu,e⟩)
    ·obtain ⟨u,hu,e⟩:=(hb.key _).2 hq
     exact List.mem_append_right _ (qk.2 ⟨u,hu,e⟩)
  rw [jw,kw,jw,jw,ha.len,hb.len] at this
  omega
 have fin:∀ ar out w,(Ea++Eb).foldlM Nz ar0 = some ar→zY ar = true→yZ ar 1000 0 (-1) 0 = some (out,w)→out.length≤5000→∀ c',eK (out.map T2) = some c'→yV la lb = some (if c' = 0 then (out.map T2,0) else ([],c')):=by
  intro ar out w f1 f2 f3 f4 c' f5
  have hck:∀ l,ValF l→(∀ x∈l,okN x.fName)→TQ (l.map n5) = some 0:=fun l V hn=>by
   unfold TQ; rw [a0q]; exact (V.check hn).1
  rw [List.foldlM_append] at f1
  obtain ⟨ar1,g1,g2⟩:=ak.1 f1
  have hm:sx TQ [la.map n5,lb.map n5] ar0 = some (.inr ar):=by
   unfold sx
   rw [hck la Va hna]
   simp only [ck,if_pos]
   rw [aNJ Va ha,g1]
   simp only [ck]
   unfold sx
   rw [hck lb Vb hnb]
   simp only [ck,if_pos]
   rw [aNJ Vb hb,g2]
   rfl
  unfold yV mergeF
  rw [hm]
  simp only [ck,f2,cond_true]
  unfold t8
  rw [f3]
  simp only [ck]
  rw [decide_eq_true (by omega),cond_true]
  unfold TQ
  rw [f5]
  simp only [jk]
  by_cases e:c' = 0
  ·simp [e]
  ·simp [e]
 by_cases hcap:∀ q,gQ (Ea++Eb) q≤100000000000000∧jZ (Ea++Eb) q≤20000
 ·obtain ⟨ar,out,w,f1,f2,f3,f4,f5⟩:=avx hS hcap hD
  have:=fin ar out w f1 f2 f3 f4 c (by rw [f5]; exact hc)
  rw [f5] at this
  exact this
 ·obtain ⟨ar,out,w,allP,f1,f2,f3,f4,f5,f6⟩:=aHj hS hD
  obtain ⟨q,hq⟩ : ∃ q,¬ (gQ (Ea++Eb) q≤100000000000000∧jZ (Ea++Eb) q≤20000):=Classical.byContradiction fun h=>hcap fun q=>Classical.byContradiction fun hq=>h ⟨q,hq⟩
  have hk:qY (Ea++Eb) q:=Classical.byContradiction fun hk=>by
   obtain ⟨z1,z2⟩:=hD.inv.zero q hk
   rw [z1,z2] at hq
   exact hq (by omega)
  have b1:eK g = some 2:=aNq g (by rw [hD.nod.len]; omega) (UZ hD.inv hnam hD.nod) (UZ hD.inv hS.nam hD.nod) (acQ hD.inv hD.nod hk (by omega))
  have hpl:allP.length≤1800:=by
   have:=uK (l:=allP.map (·.fPath)) (l':=all.map (·.fPath)) (by
    have:=f5.srt
    unfold sq at this
    unfold List.Nodup
    rw [List.pairwise_map]
    exact this.imp fun h e=>by rw [e] at h; exact iK h) fun q hq=>by
     obtain ⟨x,hx,rfl⟩:=qk.1 hq
     obtain ⟨u,hu,e⟩:=(hD.inv.key _).2 ((f5.key _).1 ⟨x,hx,rfl⟩)
     exact qk.2 ⟨u,hu,e⟩
   rw [jw,jw] at this
   omega
  have b2:eK (out.map T2) = some 2:=aNq _ (by rw [f6.len]; omega) (UZ f5 hnam f6) (UZ f5 hS.nam f6) (acQ f5 f6 hk (by unfold T9 agZ; omega))
  rw [b1] at hc; cases hc
  have:=fin ar out w f1 f2 f3 f4 2 b2
  rw [this]
  simp
end
def RY (l:List aK):Prop:=(∀ y∈l,lz y = some true∧fY y.fStack = some 0)∧∀ (k:Nat) y z,l[k]? = some y→l[k + 1]? = some z→y.fAt≤z.fAt
theorem aeW (l:List aK) (hl:l.length≤9223372036854775807) (hx:∀ x∈l,x.fStack.length≤9223372036854775807∧∀ y∈x.fStack,okN y):Ok (gV l) (fun r=>r = 0↔RY l):=by
 unfold gV
 refine mZ (Q:=nQ (fun _=>∀ (k:Nat) y,k < l.length→l[k]? = some y→(lz y = some true∧fY y.fStack = some 0)∧∀ z,0 < k→l[k - 1]? = some z→z.fAt≤y.fAt) (fun r=>r ≠ 0∧¬ RY l)) (DX l.length (fun n=>∀ (k:Nat) y,k < n→l[k]? = some y→(lz y = some true∧fY y.fStack = some 0)∧∀ z,0 < k→l[k - 1]? = some z→z.fAt≤y.fAt) hl (fun k x h=>by omega) (fun i hI h2=>?_)) (fun _ hr=>a7 ⟨fun _=>⟨fun y hy=>?_,fun k y z hy hz=>?_⟩,fun _=>rfl⟩) (fun r hr=>a7 ⟨fun e=>absurd e hr.1,fun h=>absurd h hr.2⟩)
 ·unfold l9
  refine cq (fun hi=>?_) (fun hi=>dZ (show nQ _ _ (.inl ()) from fun k x hk=>hI k x (by omega)))
  have hil:i < l.length:=by omega
  refine bj (u9 hil) (fun y hy=>?_)
  have hym:=fw hy
  obtain ⟨b,hb,_⟩ : Ok (lz y) Yes:=W2 y
  rw [hb]
  simp only [ck]
  refine wq (fun e=>dZ (show nQ _ _ (.inr 2) from ⟨by omega,fun h=>?_⟩)) (fun e=>?_)
  ·have:=(h.1 y hym).1
   rw [hb,e] at this; cases this
  obtain ⟨f,hf,_⟩:=SX y.fStack (hx y hym).1 (hx y hym).2
  rw [hf]
  simp only [ck]
  refine qJ (fun hne=>dZ (show nQ _ _ (.inr f) from ⟨hne,fun h=>?_⟩)) (fun he=>?_)
  ·have:=(h.1 y hym).2
   rw [hf] at this; cases this; exact hne rfl
  refine bj (Q:=fun v=>v = false↔∀ z,0 < i→l[i - 1]? = some z→z.fAt≤y.fAt) ?_ (fun v hv=>?_)
  ·refine cq (fun h0=>?_) (fun h0=>a7 ⟨fun _ z hz=>by omega,fun _=>rfl⟩)
   rw [cJ (by omega),show ((i:Int) - 1) = ((i - 1:Nat):Int) by omega]
   refine bj (u9 (by omega)) (fun z hz=>a7 ⟨fun h u _ hu=>?_,fun h=>?_⟩)
   ·rw [hz] at hu; cases hu
    have:=of_decide_eq_false h
    omega
   ·have:=h z (by omega) hz
    exact decide_eq_false (by omega)
  refine e9 (fun e2=>dZ (show nQ _ _ (.inr 11) from ⟨by omega,fun h=>?_⟩)) (fun e2=>?_)
  ·have:v = false:=hv.2 fun z h0 hz=>h.2 (i - 1) z y hz (by rw [show i - 1 + 1 = i by omega]; exact hy)
   rw [this] at e2; cases e2
  rw [u0 (n:=l.length) hil hl]
  refine j8 ⟨hil,rfl,fun k x hk hkx=>?_⟩
  by_cases e3:k = i
  ·subst e3; rw [hy] at hkx; cases hkx
   exact ⟨⟨by rw [hb,e],by rw [hf,he]⟩,hv.1 e2⟩
  ·exact hI k x (by omega) hkx
 ·obtain ⟨k,hk,rfl⟩:=List.mem_iff_getElem.1 hy
  exact (hr k _ hk (bk hk)).1
 ·exact (hr (k + 1) z (bw.1 hz).1 hz).2 y (by omega) (by rw [show k + 1 - 1 = k by omega]; exact hy)
theorem aEq {a b:List aK} (h:RY (a++b)):RY a:=by
 refine ⟨fun y hy=>h.1 y (List.mem_append_left _ hy),fun k y z hy hz=>h.2 k y z ?_ ?_⟩
 ·rw [nw (bw.1 hy).1]; exact hy
 ·rw [nw (bw.1 hz).1]; exact hz
theorem asX {a b:List aK} (h:RY (a++b)):RY b:=by
 refine ⟨fun y hy=>h.1 y (List.mem_append_right _ hy),fun k y z hy hz=>h.2 (a.length + k) y z ?_ ?_⟩
 ·rw [uk (by omega),show a.length + k - a.length = k by omega]; exact hy
 ·rw [uk (by omega),show a.length + k + 1 - a.length = k + 1 by omega]; exact hz
theorem Yj {l:List aK} (hl:l.length≤20) (hg:∀ y∈l,Xj y) (hx:∀ x∈l,∀ y∈x.fStack,okN y) {all:List Ent} {g:List ax} (hD:DocG (oq l) all g):ValF g∧all.length≤660∧∀ x∈all,x.fPath.length≤32:=by
 obtain ⟨hS,hcap⟩:=O2 (n:=20) (by omega) hl hg hx
 have hE:∀ e∈oq l,1≤e.fSelf∧e.fSelf≤1000000000000∧e.fCount = 1∧e.fPath.length≤32∧∀ s∈e.fPath,c6 s = some 0:=fun e he=>by
  obtain ⟨y,hy,h1,rfl⟩:=aoK he
  obtain ⟨g1,g2,g3,g4⟩:=hg y hy
  exact ⟨g1,g2,rfl,g3,g4⟩
 have hlen:(oq l).length≤20:=Nat.le_trans (List.length_filterMap_le _ _) hl
 have hsz:=afV (E:=oq l) (m:=33) fun e he=>by have:=(hE e he).2.2.2.1; omega
 have hs:=M1 (fun e:Ent=>e.fSelf) 1000000000000 (by omega) (oq l) fun e he=>⟨by have:=(hE e he).1; omega,(hE e he).2.1⟩
 have hc:=M1 (fun e:Ent=>e.fCount) 1 (by omega) (oq l) fun e he=>by have:=(hE e he).2.2.1; omega
 have h3:(((oq l).length:Nat):Int) * 1000000000000≤20 * 1000000000000:=Int.mul_le_mul_of_nonneg_right (by omega) (by omega)
 have hal:all.length≤660:=by
  have:=uK (l:=all.map (·.fPath)) (l':=aJY (oq l)) (by
   have:=hD.inv.srt
   unfold sq at this
   unfold List.Nodup
   rw [List.pairwise_map]
   exact this.imp fun h e=>by rw [e] at h; exact iK h) fun q hq=>by
    obtain ⟨x,hx,rfl⟩:=qk.1 hq
    exact ahK ((hD.inv.key _).1 ⟨x,hx,rfl⟩)
  rw [jw] at this
  have:=ahY (oq l)
  omega
 refine ⟨hD.val hS (by omega) (by omega) (by omega) (fun e he=>(hE e he).2.2.2.2) (fun e he h0=>by have:=(hE e he).2.2.1; omega) (fun q ⟨hq1,e,he,hq2⟩ h0=>?_),hal,fun x hx=>?_⟩
 ·by_cases e1:q = e.fPath
  ·exfalso
   have h5:=Ij (fun e:Ent=>if q = e.fPath then e.fCount else 0) (l:=oq l) (x:=e) (fun y hy=>by
    have:=(hE y hy).2.2.1
    split <;> omega) he
   simp only [if_pos e1] at h5
   have:=(hE e he).2.2.1
   unfold jZ at h0
   omega
  ·obtain ⟨r,hr⟩:=hq2
   cases r with
   | nil=>rw [List.append_nil] at hr; exact absurd hr e1
   | cons a r=>exact ⟨a,by simp,e,he,r,by rw [← hr]; simp⟩
 ·obtain ⟨_,e,he,h6⟩:=(hD.inv.key _).1 ⟨x,hx,rfl⟩
  have:=h6.length_le
  have:=(hE e he).2.2.2.1
  omega
theorem DocG.ent {E all:List Ent} {g:List ax} (hD:DocG E all g):EntN g all:=by
 have hN:=hD.nod
 have hs:=hD.inv.srt
 have key:∀ (n j:Nat) (x:Ent),x.fPath.length≤n→all[j]? = some x→PathN g (j:Int) x.fPath:=by
  intro n
  induction n with
  | zero =>
   intro j x hl hx
   obtain ⟨y,hy⟩:=hN.get hx
   obtain ⟨x',p,h1,h2,_⟩:=hN.at hy
   rw [hx] at h1; cases h1
   rw [h2] at hl; simp at hl
  | succ n ih =>
   intro j x hl hx
   obtain ⟨y,hy⟩:=hN.get hx
   obtain ⟨x',p,h1,h2,_,_,_,h3⟩:=hN.at hy
   rw [hx] at h1; cases h1
   rw [h2]
   refine .up hy ?_
   rcases h3 with ⟨e,e2⟩ | ⟨_,k,u,k1,k2,k3⟩
   ·rw [e,e2]; exact .out (by omega)
   ·rw [k3,← k2]
    refine ih k u ?_ k1
    rw [k2]; rw [h2,kw,List.length_singleton] at hl; omega
 refine ⟨hN.len.symm,fun j y e hy he=>?_⟩
 obtain ⟨x,p,h1,h2,h3,h4,_⟩:=hN.at hy
 rw [he] at h1; cases h1
 exact ⟨key _ j e (gk _) he,h3.symm,h4.symm⟩
theorem DocG.same {E all:List Ent} {g:List ax} (hD:DocG E all g) (V:ValF g) (q:Pth):(qY all q↔qY E q)∧gQ all q = gQ E q∧jZ all q = jZ E q:=by
 have hE:=hD.ent
 have hk:qY all q↔qY E q:=(hE.key q).symm.trans (hD.inv.key q)
 refine ⟨hk,?_⟩
 by_cases h:qY E q
 ·obtain ⟨x,hx,rfl⟩:=(hD.inv.key q).2 h
  obtain ⟨v1,v2⟩:=hD.inv.val x hx
  have s1:=Px hD.inv.srt (·.fSelf) hx
  have s2:=Px hD.inv.srt (·.fCount) hx
  exact ⟨s1.trans v1,s2.trans v2⟩
 ·obtain ⟨z1,z2⟩:=hD.inv.zero q h
  obtain ⟨w1,w2⟩:=(hE.inv V).zero q fun h'=>h (hk.1 h')
  rw [z1,z2,w1,w2]; exact ⟨rfl,rfl⟩
theorem afZ {E E' all all':List Ent} {g g':List ax} (hD:DocG E all g) (hD':DocG E' all' g') (hk:∀ q,qY E q↔qY E' q) (hs:∀ q,gQ E q = gQ E' q) (hc:∀ q,jZ E q = jZ E' q):all = all'∧g = g':=by
 have e:all = all':=(hD.inv.congr hk hs hc).uniq hD'.inv
 subst e
 exact ⟨rfl,hD.nod.uniq hD.inv.srt hD'.nod⟩
theorem flameParts_v (la lb:List aK) (hza:la.length≤9223372036854775807) (hzb:lb.length≤9223372036854775807) (hxa:∀ x∈la,x.fStack.length≤9223372036854775807∧∀ y∈x.fStack,okN y) (hxb:∀ x∈lb,x.fStack.length≤9223372036854775807∧∀ y∈x.fStack,okN y):dq la lb = some true:=by
 have:Ok (dq la lb) (fun b=>b = true):=by
  unfold dq
  rw [aoQ]
  simp only [ck,Bool.not_true,cond_false]
  refine bj (Q:=fun v=>v = false→la.length≤10∧lb.length≤10) ?_ (fun v hv=>?_)
  ·refine bj (aoY la hza fun x h=>(hxa x h).1) (fun b _=>wq (fun _=>a7 (by simp)) (fun _=>?_))
   refine bj (aoY lb hzb fun x h=>(hxb x h).1) (fun b _=>wq (fun _=>a7 (by simp)) (fun _=>?_))
   refine cq (fun _=>a7 (by simp)) (fun h1=>a7 (fun e=>?_))
   have:=of_decide_eq_false e
   omega
  refine e9 (fun _=>a7 rfl) (fun e=>?_)
  obtain ⟨h10a,h10b⟩:=hv e
  rw [xK (by simp; omega) (by simp; omega)]
  simp only [cond_true]
  rw [xK (by simp; omega) (by simp; omega)]
  simp only [cond_true,List.nil_append]
  have hx:∀ x∈la++lb,x.fStack.length≤9223372036854775807∧∀ y∈x.fStack,okN y:=fun x hx=>(qw.1 hx).elim (hxa x) (hxb x)
  obtain ⟨r,r1,_,hr⟩:=Q0 (la++lb) (by rw [kw]; omega) hx
  rw [r1]
  simp only [ck]
  rcases hr with ⟨_,h2,h3⟩ | ⟨hck,hg,_,all,g,c,hD,hc,hV,rfl⟩
  ·simp only [h2,decide_false,Bool.not_false,cond_true,h3]
   exact a7 rfl
  ·obtain ⟨V,_,_⟩:=Yj (by rw [kw]; omega) hg (fun x h=>(hx x h).2) hD
   have hc0:c = 0:=hV.2 V
   subst hc0
   simp only [if_pos,decide_true,Bool.not_true,cond_false]
   obtain ⟨s,hs,hiff⟩:=aeW (la++lb) (by rw [kw]; omega) hx
   rw [hck] at hs; cases hs
   have hok:=hiff.1 rfl
   obtain ⟨sa,hsa,ia⟩:=aeW la hza hxa
   obtain ⟨sb,hsb,ib⟩:=aeW lb hzb hxb
   have ea:sa = 0:=ia.2 (aEq hok)
   have eb:sb = 0:=ib.2 (asX hok)
   subst ea; subst eb
   obtain ⟨ra,ra1,_,hra⟩:=Q0 la (by omega) hxa
   obtain ⟨rb,rb1,_,hrb⟩:=Q0 lb (by omega) hxb
   rcases hra with ⟨h1,h2,_⟩ | ⟨_,hga,_,allA,gA,cA,hDA,hcA,hVA,rfl⟩
   ·rw [hsa] at h1; exact absurd (Option.some.inj h1).symm h2
   rcases hrb with ⟨h1,h2,_⟩ | ⟨_,hgb,_,allB,gB,cB,hDB,hcB,hVB,rfl⟩
   ·rw [hsb] at h1; exact absurd (Option.some.inj h1).symm h2
   obtain ⟨VA,lA,pA⟩:=Yj (by omega) hga (fun x h=>(hxa x h).2) hDA
   obtain ⟨VB,lB,pB⟩:=Yj (by omega) hgb (fun x h=>(hxb x h).2) hDB
   have eA:cA = 0:=hVA.2 VA
   have eB:cB = 0:=hVB.2 VB
   subst eA; subst eB
   rw [ra1,rb1]
   simp only [if_pos,ck,decide_true,cond_true]
   have hsA:=(O2 (n:=20) (by omega) (by omega) hga fun x h=>(hxa x h).2).1
   have hsB:=(O2 (n:=20) (by omega) (by omega) hgb fun x h=>(hxb x h).2).1
   have zA:=afV (E:=allA) (m:=33) fun e he=>by have:=pA e he; omega
   have zB:=afV (E:=allB) (m:=33) fun e he=>by have:=pB e he; omega
   obtain ⟨all8,g8,c8,hD8,hc8,hV8,hm,_⟩:=aRq VA VB (X6 hDA.inv hsA.nam hDA.nod) (X6 hDB.inv hsB.nam hDB.nod) hDA.ent hDB.ent (by omega) (by rw [hDA.nod.len]; omega) (by rw [hDB.nod.len]; omega)
   have hES:oq (la++lb) = oq la++oq lb:=by unfold oq; rw [List.filterMap_append]
   obtain ⟨_,rfl⟩:=afZ hD8 hD (fun q=>by rw [hES,aiX,aiX,(hDA.same VA q).1,(hDB.same VB q).1]) (fun q=>by rw [hES,adx,adx,(hDA.same VA q).2.1,(hDB.same VB q).2.1]) (fun q=>by rw [hES,acj,acj,(hDA.same VA q).2.2,(hDB.same VB q).2.2])
   rw [hc] at hc8; cases hc8
   rw [hm]
   simp only [if_pos,ck,decide_true,cond_true]
   rw [apq g8 (by have:=hD.nod.len; have:=hD.len; omega)]
   simp only [ck]
   exact a7 rfl
 obtain ⟨r,h1,h2⟩:=this
 rw [h1,h2]
theorem sizS {l:List aK} (h:fK l):l.length≤9223372036854775807∧∀ x∈l,x.fStack.length≤9223372036854775807∧∀ y∈x.fStack,okN y:=by
 have e:reachBytes = 140737488351232:=by decide
 unfold fK okL at h
 rw [e] at h
 refine ⟨by omega,fun x hx=>?_⟩
 have h1:=(h.2 x hx).2.2.2
 unfold okL at h1
 rw [e] at h1
 refine ⟨by omega,fun y hy=>?_⟩
 have h2:ByteArray.size y≤reachBytes:=h1.2 y hy
 rw [e] at h2
 unfold okN; omega
end Go.VM
