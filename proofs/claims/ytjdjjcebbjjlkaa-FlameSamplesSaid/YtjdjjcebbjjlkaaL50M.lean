/- The law holds: plain mathematics on what the functions compute. -/
import Derived.Test.YtjdjjcebbjjlkaaL50B
namespace Go.VM
theorem e8 {α:Type} {xs:List α} {i:Nat} {y:α} (h:xs[i]? = some y):i < xs.length:=(bw.1 h).1
end Go.VM
namespace Go.VM
def Ok {α:Type} (x:Option α) (P:α→Prop):Prop:=∃ r,x = some r∧P r
def Yes {α:Type}:α→Prop:=fun _=>True
def p3 {α β:Type} (A:α→Prop) (B:β→Prop):α ⊕ β→Prop
 | .inl a=>A a
 | .inr b=>B b
theorem a8 {α:Type} {P:α→Prop} {r:α} (h:P r):Ok (some r) P:=⟨r,rfl,h⟩
theorem hJ {α β:Type} {A:α→Prop} {B:β→Prop} {a:α} (h:A a):Ok (some (.inl a)) (p3 A B):=⟨_,rfl,h⟩
theorem dQ {α β:Type} {A:α→Prop} {B:β→Prop} {b:β} (h:B b):Ok (some (.inr b)) (p3 A B):=⟨_,rfl,h⟩
theorem bX {α β:Type} {x:Option α} {f:α→Option β} {Q:α→Prop} {P:β→Prop} (hx:Ok x Q) (hf:∀ r,Q r→Ok (f r) P):Ok (x.bind f) P:=by
 obtain ⟨r,h1,h2⟩:=hx
 subst h1; exact hf r h2
theorem pY {α β γ:Type} {x:Option (α ⊕ γ)} {f:α ⊕ γ→Option β} {Q:α ⊕ γ→Prop} {P:β→Prop} (hx:Ok x Q) (hf:∀ r,Q (.inl r)→Ok (f (.inl r)) P) (hg:∀ r,Q (.inr r)→Ok (f (.inr r)) P):Ok (x.bind f) P :=
 bX hx (fun r => match r with | .inl a => hf a | .inr b => hg b)
theorem aFj {α β:Type} {x:Option α} {f:α→Option β} {P:β→Prop} (hx:Ok x Yes) (hf:∀ r,x = some r→Ok (f r) P):Ok (x.bind f) P:=by
 obtain ⟨r,h1,h2⟩:=hx
 subst h1; exact hf r rfl
theorem gJ {α:Type} {b:Bool} {x y:Option α} {P:α→Prop} (h1:b = true→Ok x P) (h2:b = false→Ok y P):Ok (cond b x y) P:=by
 cases b
 ·exact h2 rfl
 ·exact h1 rfl
theorem Ok.mono {α:Type} {x:Option α} {P Q:α→Prop} (h:Ok x P) (hq:∀ r,P r→Q r):Ok x Q:=by
 obtain ⟨r,h1,h2⟩:=h; exact ⟨r,h1,hq r h2⟩
theorem Ok.yes {α:Type} {x:Option α} {P:α→Prop} (h:Ok x P):Ok x Yes:=h.mono (fun _ _=>trivial)
theorem PJ {α:Type} {xs:List α} {i:Int} (h1:0≤i) (h2:i < xs.length):Ok (idx xs i) (fun y=>xs[i.toNat]? = some y):=by
 obtain ⟨n,rfl⟩:=Int.eq_ofNat_of_zero_le h1
 have h3:n < xs.length:=by omega
 rw [fJ]
 exact ⟨xs[n],by simp [h3],by simp [h3]⟩
theorem rj {S ρ:Type} {step:S→Option (S ⊕ ρ)} (Inv:S→Prop) (m:S→Nat) {Post:ρ→Prop}
  (h:∀ s,Inv s→Ok (step s) (p3 (fun s'=>Inv s'∧m s' < m s) Post)) {s:S} (hs:Inv s) (hm:m s < fK):Ok (loop step s) Post:=by
 refine azQ Inv m Post (fun s hs=>?_) hs hm
 obtain ⟨r,h1,h2⟩:=h s hs
 cases r with
 | inl a=>exact Or.inl ⟨a,h1,h2⟩
 | inr b=>exact Or.inr ⟨b,h1,h2⟩
theorem aUK {ρ:Type} {step:Int→Option (Int ⊕ ρ)} (n:Nat) {Post:ρ→Prop} (hn:n≤9223372036854775807)
  (h:∀ i:Int,0≤i→i≤n→Ok (step i) (p3 (fun a=>i < n∧a = i + 1) Post)):Ok (loop step 0) Post:=by
 refine rj (fun i:Int=>0≤i∧i≤(n:Int)) (fun i:Int=>((n:Int) - i).toNat) (fun i hi=>(h i hi.1 hi.2).mono ?_) ⟨by omega,by omega⟩ (by simp [fK]; omega)
 rintro (a | b) hr
 ·obtain ⟨h1,rfl⟩ : i < n∧a = i + 1:=hr
  exact ⟨⟨by omega,by omega⟩,by omega⟩
 ·exact hr
theorem rZ {α:Type} {r:α}:Ok (some r) Yes:=⟨r,rfl,trivial⟩
theorem M4 {α β:Type} {B:β→Prop} {a:α}:Ok (some (.inl a)) (p3 Yes B):=⟨_,rfl,trivial⟩
theorem MZ {α β:Type} {A:α→Prop} {b:β}:Ok (some (.inr b)) (p3 A Yes):=⟨_,rfl,trivial⟩
theorem Nz {ρ:Type} {i:Int} {n:Nat} {P:ρ→Prop} (h1:0≤i) (h2:i < (n:Int)) (h3:n≤9223372036854775807):Ok (some (.inl (w64 (i + 1)))) (p3 (fun a:Int=>i < (n:Int)∧a = i + 1) P) :=
 hJ ⟨h2,d7 (by omega)⟩
theorem cV {α:Type} {p:Prop} [Decidable p] {x y:Option α} {P:α→Prop} (h1:p→Ok x P) (h2 : ¬p→Ok y P):Ok (cond (decide p) x y) P :=
 gJ (fun h=>h1 (of_decide_eq_true h)) (fun h=>h2 (of_decide_eq_false h))
theorem xZ {α:Type} {p:Prop} [Decidable p] {x y:Option α} {P:α→Prop} (h1 : ¬p→Ok x P) (h2:p→Ok y P):Ok (cond (!decide p) x y) P:=by
 by_cases h:p
 ·simpa [h] using h2 h
 ·simpa [h] using h1 h
theorem H0 {α:Type} {b:Bool} {x y:Option α} {P:α→Prop} (h1:b = false→Ok x P) (h2:b = true→Ok y P):Ok (cond (!b) x y) P:=by
 cases b
 ·exact h1 rfl
 ·exact h2 rfl
theorem aSq {σ ρ:Type} {step:σ × Int→Option ((σ × Int) ⊕ ρ)} (n:Nat) (Inv:σ→Int→Prop) {Post:ρ→Prop} (hn:n≤9223372036854775807) {s0:σ} (h0:Inv s0 0)
  (h:∀ (s:σ) (i:Int),Inv s i→0≤i→i≤n→Ok (step (s,i)) (p3 (fun a=>i < n∧a.2 = i + 1∧Inv a.1 (i + 1)) Post)):Ok (loop step (s0,0)) Post:=by
 refine rj (fun s:σ × Int=>Inv s.1 s.2∧0≤s.2∧s.2≤(n:Int)) (fun s:σ × Int=>((n:Int) - s.2).toNat) (fun s hi=>(h s.1 s.2 hi.1 hi.2.1 hi.2.2).mono ?_) ⟨h0,by simp,by simp⟩ (by simp [fK]; omega)
 rintro (⟨a,j⟩ | b) hr
 ·obtain ⟨h1,h2,h3⟩ : s.2 < n∧j = s.2 + 1∧Inv a (s.2 + 1):=hr
  subst h2
  exact ⟨⟨h3,by simp; omega,by simp; omega⟩,by simp; omega⟩
 ·exact hr
theorem aPV {ρ:Type} {step:Int→Option (Int ⊕ ρ)} (n:Nat) (Inv:Int→Prop) {Post:ρ→Prop} (hn:n≤9223372036854775807) (h0:Inv 0)
  (h:∀ i:Int,Inv i→0≤i→i≤n→Ok (step i) (p3 (fun a=>i < n∧a = i + 1∧Inv (i + 1)) Post)):Ok (loop step 0) Post:=by
 refine rj (fun i:Int=>Inv i∧0≤i∧i≤(n:Int)) (fun i:Int=>((n:Int) - i).toNat) (fun i hi=>(h i hi.1 hi.2.1 hi.2.2).mono ?_) ⟨h0,by omega,by omega⟩ (by simp [fK]; omega)
 rintro (a | b) hr
 ·obtain ⟨h1,rfl,h3⟩ : i < n∧a = i + 1∧Inv (i + 1):=hr
  exact ⟨⟨h3,by omega,by omega⟩,by omega⟩
 ·exact hr
theorem BZ {b n:Nat} (h1:n * b≤140737488355328) (h2:n≤9223372036854775807):S1 b n = true:=by
 simp only [S1,dw]
 exact ⟨Nat.ble_eq_true_of_le h1,Nat.ble_eq_true_of_le h2⟩
theorem PZ (c:Int):Ok (l4 c) Yes:=by
 unfold l4 dz hY
 repeat' (first | (with_reducible first | exact rZ | exact MZ | exact M4 | refine xZ (fun _=>?_) fun _=>?_ | refine cV (fun _=>?_) fun _=>?_ | refine H0 (fun _=>?_) fun _=>?_ | refine gJ (fun _=>?_) fun _=>?_) | (with_reducible refine Nz ?_ ?_ ?_ <;> (first | assumption | omega | rw [d7] <;> omega)) | with_reducible refine bX (PJ (by (first | assumption | omega | rw [d7] <;> omega)) (by (first | assumption | omega | rw [d7] <;> omega))) (fun _ _=>?_) | (with_reducible refine bX (Q:=Yes) ?_ fun _ _=>?_) | dsimp only)
theorem GZ (s:ByteArray) (h:s.size≤9223372036854775807):Ok (ej s) Yes:=by
 unfold ej
 refine bX (Q:=Yes) ?_ (fun v _=>?_)
 ·repeat' (first | (with_reducible first | exact rZ | exact MZ | exact M4 | refine xZ (fun _=>?_) fun _=>?_ | refine cV (fun _=>?_) fun _=>?_ | refine H0 (fun _=>?_) fun _=>?_ | refine gJ (fun _=>?_) fun _=>?_) | (with_reducible refine Nz ?_ ?_ ?_ <;> (first | assumption | omega | rw [d7] <;> omega)) | with_reducible refine bX (PJ (by (first | assumption | omega | rw [d7] <;> omega)) (by (first | assumption | omega | rw [d7] <;> omega))) (fun _ _=>?_) | (with_reducible refine bX (Q:=Yes) ?_ fun _ _=>?_) | dsimp only)
 refine gJ (fun _=>a8 trivial) (fun _=>?_)
 have e:s.data.toList.length = s.size:=by rw [Array.length_toList]; rfl
 refine pY (Q:=Yes) (aUK s.size h fun i h1 h2=>?_) (fun _ _=>?_) (fun _ _=>?_)
 ·unfold kj
  repeat' (first | (with_reducible first | exact rZ | exact MZ | exact M4 | refine xZ (fun _=>?_) fun _=>?_ | refine cV (fun _=>?_) fun _=>?_ | refine H0 (fun _=>?_) fun _=>?_ | refine gJ (fun _=>?_) fun _=>?_) | (with_reducible refine Nz ?_ ?_ ?_ <;> (first | assumption | omega | rw [d7] <;> omega)) | with_reducible refine bX (PJ (by (first | assumption | omega | rw [d7] <;> omega)) (by (first | assumption | omega | rw [d7] <;> omega))) (fun _ _=>?_) | (with_reducible refine Ok.yes (PJ ?_ (by rw [e]; (first | assumption | omega | rw [d7] <;> omega))) <;> (first | assumption | omega | rw [d7] <;> omega)) | (with_reducible refine Ok.yes (PZ _) <;> (first | assumption | omega | rw [d7] <;> omega)) | (with_reducible refine bX (Q:=Yes) ?_ fun _ _=>?_) | dsimp only)
 ·repeat' (first | (with_reducible first | exact rZ | exact MZ | exact M4 | refine xZ (fun _=>?_) fun _=>?_ | refine cV (fun _=>?_) fun _=>?_ | refine H0 (fun _=>?_) fun _=>?_ | refine gJ (fun _=>?_) fun _=>?_) | (with_reducible refine Nz ?_ ?_ ?_ <;> (first | assumption | omega | rw [d7] <;> omega)) | with_reducible refine bX (PJ (by (first | assumption | omega | rw [d7] <;> omega)) (by (first | assumption | omega | rw [d7] <;> omega))) (fun _ _=>?_) | (with_reducible refine bX (Q:=Yes) ?_ fun _ _=>?_) | dsimp only)
 ·repeat' (first | (with_reducible first | exact rZ | exact MZ | exact M4 | refine xZ (fun _=>?_) fun _=>?_ | refine cV (fun _=>?_) fun _=>?_ | refine H0 (fun _=>?_) fun _=>?_ | refine gJ (fun _=>?_) fun _=>?_) | (with_reducible refine Nz ?_ ?_ ?_ <;> (first | assumption | omega | rw [d7] <;> omega)) | with_reducible refine bX (PJ (by (first | assumption | omega | rw [d7] <;> omega)) (by (first | assumption | omega | rw [d7] <;> omega))) (fun _ _=>?_) | (with_reducible refine bX (Q:=Yes) ?_ fun _ _=>?_) | dsimp only)
abbrev okN (s:ByteArray):Prop:=s.size≤9223372036854775807
theorem Yj {κ ν:Type} [DecidableEq κ] (k k':κ) (v:ν):∀ (m:List (κ × ν)),D7 k (ahY k' v m) = if k = k' then some v else D7 k m
 | []=>by simp [ahY,D7]
 | p :: r=>by
  simp only [ahY]
  by_cases e:k' = p.1
  ·subst e
   simp only [if_true,D7]
   by_cases e2:k = p.1 <;> simp [e2]
  ·rw [if_neg e]
   simp only [D7]
   rw [Yj k k' v r]
   by_cases e2:k = p.1
   ·subst e2
    rw [if_pos rfl,if_pos rfl,if_neg (fun h=>e h.symm)]
   ·rw [if_neg e2,if_neg e2]
theorem aCX {S ρ:Type} {step:S→Option (S ⊕ ρ)} {Q:ρ→Prop} (h:∀ s r,step s = some (.inr r)→Q r) {s:S} {r:ρ} (hr:loop step s = some r):Q r:=by
 have key:∀ n s,iter step n s = some r→Q r:=by
  intro n
  induction n with
  | zero=>intro s h; simp [iter] at h
  | succ n ih =>
   intro s hs
   rw [Pq] at hs
   cases e:step s with
   | none=>rw [e] at hs; simp at hs
   | some x =>
    rw [e] at hs
    cases x with
    | inl s'=>exact ih s' hs
    | inr r'=>simp only [cw] at hs; subst hs; exact h s _ e
 exact key _ s hr
theorem auV (y:UInt8):l4 (y.toNat:Int) = g7 (y.toNat:Int):=by
 have h:(List.range 256).all (fun n=>decide (l4 (n:Int) = g7 (n:Int))) = true:=by kernel_rfl
 exact of_decide_eq_true (List.all_eq_true.1 h y.toNat (List.mem_range.2 (UInt8.toNat_lt y)))
theorem atV (s:ByteArray):s = ⟨#[]⟩↔(s.size:Int) < 1:=by
 constructor
 ·intro h; subst h; decide
 ·intro h
  cases s with
  | mk a =>
   have:a.size = 0:=by
    have:(ByteArray.mk a).size = a.size:=rfl
    omega
   rw [Array.eq_empty_of_size_eq_zero this]
theorem aqq (s:ByteArray):ej s = gQ s:=by
 unfold ej gQ
 have h1:kj s = j0 s:=by
  funext i
  simp only [kj,j0,auV]
 have h2:decide (s = ⟨#[]⟩) = decide ((ByteArray.size s:Int) < 1):=decide_eq_decide.2 (atV s)
 rw [h1,h2] <;> rfl
theorem aLY {s:ByteArray} {r:Int} (h:ej s = some r):r = 0∨r = 3:=by
 unfold ej at h
 obtain ⟨v,_,h⟩:=bB h
 cases v with
 | true=>simp at h; exact .inr h.symm
 | false =>
  obtain ⟨q,hq,h⟩:=bB (show (loop (kj s) 0).bind _ = some r from h)
  have:=aCX (Q:=fun q:Unit ⊕ Int=>∀ x,q = .inr x→x = 3) (fun i r hr=>by
   unfold kj at hr
   by_cases hi:i < (ByteArray.size s:Int)
   ·simp only [hi,decide_true,cond_true] at hr
    obtain ⟨y,_,hr⟩:=bB hr
    obtain ⟨z,_,hr⟩:=bB hr
    cases z
    ·simp only [Bool.not_false,cond_true,cw,Sum.inr.injEq] at hr
     subst hr; intro x hx; cases hx; rfl
    ·simp at hr
   ·simp [hi] at hr; subst hr; intro x hx; cases hx) hq
  cases q with
  | inl _=>simp at h; exact .inl h.symm
  | inr x=>simp at h; subst h; exact .inr (this _ rfl)
theorem awW (l:List ByteArray):l3 l = gK l:=by
 unfold l3 gK
 have h1:mQ l = iZ l:=by
  funext i
  unfold mQ iZ
  cases idx l i with
  | none=>rfl
  | some y =>
   simp only [ck,← aqq]
   cases e:ej y with
   | none=>rfl
   | some r =>
    rcases aLY e with rfl | rfl <;> rfl
 rw [h1] <;> rfl
theorem Zj (l:List aW):iY l = i4 l:=by
 unfold iY i4
 have h1:oq l = jx l:=by
  funext i
  unfold oq jx
  cases e:idx l i with
  | none=>rfl
  | some y =>
   simp only [ck,← awW]
   rfl
 rw [h1] <;> rfl
theorem alq:∀ x y:List UInt8,(!(Op.bytesLess x y || decide (x = y))) = Op.bytesLess y x
 | [],[]=>by simp [Op.bytesLess]
 | [],b :: y=>by simp [Op.bytesLess]
 | a :: x,[]=>by simp [Op.bytesLess]
 | a :: x,b :: y=>by
  have ih:=alq x y
  simp only [Op.bytesLess,List.cons.injEq]
  by_cases h1:a < b
  ·have h2 : ¬ b < a:=UInt8.lt_asymm h1
   have h3 : ¬ a = b:=UInt8.ne_of_lt h1
   have h4 : ¬ b = a:=fun e=>h3 e.symm
   simp [h1,h2,h3,h4]
  ·by_cases h2:a = b
   ·subst h2
    simp [h1,← ih]
   ·have h3:b < a:=by
     rcases UInt8.lt_or_lt_of_ne h2 with h | h
     ·exact absurd h h1
     ·exact h
    have h4 : ¬ b = a:=fun e=>h2 e.symm
    simp [h1,h2,h3]
theorem azJ (a b:ByteArray):a.toList = b.toList↔a = b:=by
 constructor
 ·intro h
  rw [ByteArray.toList_eq,ByteArray.toList_eq] at h
  exact Go.WideShapes.bytes_inj h
 ·intro h; rw [h]
theorem M1 (a b:ByteArray):(!(sLt a b || decide (a = b))) = sLt b a:=by
 unfold sLt
 rw [← alq a.toList b.toList]
 simp only [azJ]
theorem aqJ {a b:ByteArray} (h:sLt a b = true):sLt b a = false∧a ≠ b:=by
 have h1:=M1 a b
 have h2:=M1 b a
 rw [h] at h1 h2
 simp at h1 h2
 exact ⟨h1,fun e=>h2.2 e.symm⟩
theorem Ez {σ ρ:Type} {step:σ × Int→Option ((σ × Int) ⊕ ρ)} (n:Nat) (Inv:σ→Nat→Prop) {Post:ρ→Prop} (hn:n≤9223372036854775807) {s0:σ} (h0:Inv s0 0)
  (h:∀ (s:σ) (i:Nat),Inv s i→i≤n→Ok (step (s,(i:Int))) (p3 (fun a=>i < n∧a.2 = ((i + 1:Nat):Int)∧Inv a.1 (i + 1)) Post)):Ok (loop step (s0,0)) Post:=by
 refine aSq n (fun s i=>Inv s i.toNat) hn h0 (fun s i hI h1 h2=>?_)
 obtain ⟨k,rfl⟩:=Int.eq_ofNat_of_zero_le h1
 refine (h s k hI (by omega)).mono ?_
 rintro (⟨a,b⟩ | b) hr
 ·obtain ⟨h3,h4,h5⟩ : k < n∧b = ((k + 1:Nat):Int)∧Inv a (k + 1):=hr
  refine ⟨by omega,by omega,?_⟩
  rw [show ((k:Int) + 1).toNat = k + 1 by omega]; exact h5
 ·exact hr
theorem EW {ρ:Type} {step:Int→Option (Int ⊕ ρ)} (n:Nat) (Inv:Nat→Prop) {Post:ρ→Prop} (hn:n≤9223372036854775807) (h0:Inv 0)
  (h:∀ i:Nat,Inv i→i≤n→Ok (step (i:Int)) (p3 (fun a=>i < n∧a = ((i + 1:Nat):Int)∧Inv (i + 1)) Post)):Ok (loop step 0) Post:=by
 refine aPV n (fun i=>Inv i.toNat) hn h0 (fun i hI h1 h2=>?_)
 obtain ⟨k,rfl⟩:=Int.eq_ofNat_of_zero_le h1
 refine (h k hI (by omega)).mono ?_
 rintro (b | b) hr
 ·obtain ⟨h3,h4,h5⟩ : k < n∧b = ((k + 1:Nat):Int)∧Inv (k + 1):=hr
  refine ⟨by omega,by omega,?_⟩
  rw [show ((k:Int) + 1).toNat = k + 1 by omega]; exact h5
 ·exact hr
theorem w5 {α:Type} {xs:List α} {i:Nat} (h:i < xs.length):Ok (idx xs (i:Int)) (fun y=>xs[i]? = some y):=by
 rw [fJ]; exact ⟨xs[i],by simp [h],by simp [h]⟩
theorem qx {i n:Nat} (h:i < n) (hn:n≤9223372036854775807):w64 ((i:Int) + 1) = ((i + 1:Nat):Int):=by rw [d7 (by omega)]; omega
def dW (f:Nat→Int):Nat→Int
 | 0=>0
 | n + 1=>dW f n + f n
theorem r8 {f g:Nat→Int}:∀ {n:Nat},(∀ k,k < n→f k = g k)→dW f n = dW g n
 | 0,_=>rfl
 | n + 1,h=>by simp only [dW]; rw [r8 fun k hk=>h k (by omega),h n (by omega)]
theorem Uj (f g:Nat→Int):∀ n,dW (fun k=>f k + g k) n = dW f n + dW g n
 | 0=>rfl
 | n + 1=>by simp only [dW,Uj f g n]; omega
theorem Jx:∀ n,dW (fun _=>0) n = 0
 | 0=>rfl
 | n + 1=>by simp only [dW,Jx n]; rfl
theorem Vq (j:Nat) (c:Int):∀ n,dW (fun i=>if i = j then c else 0) n = if j < n then c else 0
 | 0=>by simp [dW]
 | n + 1=>by
  simp only [dW,Vq j c n]
  by_cases h1:j < n
  ·have h2 : ¬ n = j:=by omega
   have h3:j < n + 1:=by omega
   simp [h1,h2,h3]
  ·by_cases h2:n = j
   ·subst h2; simp
   ·have h3 : ¬ j < n + 1:=by omega
    simp [h1,h2,h3]
theorem IW {f:Nat→Int} {c:Int}:∀ {n:Nat},(∀ k,k < n→0≤f k∧f k≤c)→0≤dW f n∧dW f n≤n * c
 | 0,_=>by simp [dW]
 | n + 1,h=>by
  obtain ⟨h1,h2⟩:=IW (f:=f) (c:=c) (n:=n) fun k hk=>h k (by omega)
  obtain ⟨h3,h4⟩:=h n (by omega)
  simp only [dW]
  refine ⟨by omega,?_⟩
  have:((n + 1:Nat):Int) * c = n * c + c:=by rw [Int.natCast_add,Int.add_mul]; simp
  omega
inductive DescN (l:List az) (j:Int):Int→Prop
 | self:DescN l j j
 | up {a:Nat} {y:az}:l[a]? = some y→DescN l j y.fParent→DescN l j (a:Int)
theorem DescN.inv {l:List az} {j a:Int} (h:DescN l j a):j = a∨∃ (k:Nat) (y:az),a = (k:Int)∧l[k]? = some y∧DescN l j y.fParent:=by
 cases h with
 | self=>exact .inl rfl
 | up hy h=>exact .inr ⟨_,_,rfl,hy,h⟩
theorem DescN.step {l:List az} {j:Int} {a:Nat} {y:az} (hy:l[a]? = some y) (hne:j ≠ a):DescN l j (a:Int)↔DescN l j y.fParent:=by
 constructor
 ·intro h
  rcases h.inv with e | ⟨k,z,e,hz,h⟩
  ·exact absurd e hne
  ·have:k = a:=by omega
   subst this
   rw [hy] at hz; cases hz
   exact h
 ·exact .up hy
def UpN (l:List az) (n:Nat):Prop:=∀ (j:Nat) y,j < n→l[j]? = some y→-1≤y.fParent∧y.fParent < (j:Int)
theorem DescN.le {l:List az} {n:Nat} (hu:UpN l n) {j a:Int} (h:DescN l j a):a < n→j≤a:=by
 induction h with
 | self=>intro _; omega
 | @up a y hy _ ih =>
  intro ha
  have:=hu a y (by omega) hy
  have:=ih (by omega)
  omega
theorem DescN.out {l:List az} {j a:Int} (h:DescN l j a) (ha:a < 0):j = a:=by
 rcases h.inv with e | ⟨k,z,e,_,_⟩
 ·exact e
 ·omega
def U0 (l:List az) (i:Nat) (y:az):Prop:=y.fParent = -1∨(0≤y.fParent∧DescN l y.fParent ((i:Int) - 1))
theorem aNx {l:List az} {i:Nat} (hi:i < l.length) (hl:l.length≤2000) (hu:UpN l i) (y:az):Ok (loop (uZ l y) ((i:Int) - 1)) (fun e=>y.fParent = e↔U0 l i y):=by
 refine rj (fun s:Int=>-1≤s∧s < i∧(0≤y.fParent→(DescN l y.fParent s↔DescN l y.fParent ((i:Int) - 1)))) (fun s:Int=>(s + 1).toNat) (fun s hs=>?_) ⟨by omega,by omega,fun _=>Iff.rfl⟩ (by simp [fK]; omega)
 obtain ⟨h1,h2,h3⟩:=hs
 unfold uZ
 refine bX (Q:=fun v=>v = true↔0≤s∧s ≠ y.fParent) ?_ (fun v hv=>?_)
 ·by_cases g1:0≤s <;> by_cases g2:s = y.fParent <;> simp [g1,g2,Ok]
 refine gJ (fun e=>?_) (fun e=>dQ ?_)
 ·obtain ⟨g1,g2⟩:=hv.1 e
  obtain ⟨k,rfl⟩:=Int.eq_ofNat_of_zero_le g1
  refine bX (w5 (by omega)) (fun z hz=>?_)
  have:=hu k z (by omega) hz
  exact hJ ⟨⟨by omega,by omega,fun h0=>(DescN.step hz (fun e=>g2 e.symm)).symm.trans (h3 h0)⟩,by omega⟩
 ·have hn : ¬ (0≤s∧s ≠ y.fParent):=fun h=>by have:=hv.2 h; rw [e] at this; simp at this
  by_cases g1:0≤s
  ·have g2:s = y.fParent:=Decidable.byContradiction fun h=>hn ⟨g1,h⟩
   subst g2
   exact ⟨fun _=>.inr ⟨g1,(h3 g1).1 .self⟩,fun _=>rfl⟩
  ·have e1:s = -1:=by omega
   subst e1
   constructor
   ·intro h; exact .inl h
   ·rintro (h | ⟨h0,hd⟩)
    ·exact h
    ·have:=((h3 h0).2 hd).out (by omega); exact this
theorem auY {l:List az} {i:Nat} (hi:i < l.length) (hl:l.length≤2000) (hu:UpN l i) (a:Int) (ha:0≤a):Ok (i7 l a ((i:Int) - 1)) (fun b=>b = true↔DescN l a ((i:Int) - 1)):=by
 unfold i7
 refine bX (Q:=fun e=>e = a↔DescN l a ((i:Int) - 1)) (rj (fun s:Int=>-1≤s∧s < i∧(DescN l a s↔DescN l a ((i:Int) - 1))) (fun s:Int=>(s + 1).toNat) (fun s hs=>?_) ⟨by omega,by omega,Iff.rfl⟩ (by simp [fK]; omega)) (fun e he=>a8 (by rw [uk]; exact he))
 obtain ⟨h1,h2,h3⟩:=hs
 unfold mJ
 refine bX (Q:=fun v=>v = true↔0≤s∧s ≠ a) ?_ (fun v hv=>?_)
 ·by_cases g1:0≤s <;> by_cases g2:s = a <;> simp [g1,g2,Ok]
 refine gJ (fun e=>?_) (fun e=>dQ ?_)
 ·obtain ⟨g1,g2⟩:=hv.1 e
  obtain ⟨k,rfl⟩:=Int.eq_ofNat_of_zero_le g1
  refine bX (w5 (by omega)) (fun z hz=>?_)
  have:=hu k z (by omega) hz
  exact hJ ⟨⟨by omega,by omega,(DescN.step hz (fun e=>g2 e.symm)).symm.trans h3⟩,by omega⟩
 ·have hn : ¬ (0≤s∧s ≠ a):=fun h=>by have:=hv.2 h; rw [e] at this; simp at this
  by_cases g1:0≤s
  ·have g2:s = a:=Decidable.byContradiction fun h=>hn ⟨g1,h⟩
   subst g2
   exact ⟨fun _=>h3.1 .self,fun _=>rfl⟩
  ·exact ⟨fun h=>by omega,fun hd=>by have:=(h3.2 hd).out (by omega); omega⟩
def xQ (l:List az) (p:Int):Nat→Option ByteArray
 | 0=>none
 | n + 1=>match l[n]? with
  | some z=>if z.fParent = p then some z.fName else xQ l p n
  | none=>xQ l p n
def alW (l:List az) (i:Nat) (y:az):Prop:=∃ s,xQ l y.fParent i = some s∧sLt s y.fName = false
def NodeR (l:List az) (i:Nat) (y:az) (c:Int):Prop:=(c = 10∧¬ U0 l i y)∨(c = 11∧U0 l i y∧alW l i y)∨(c = 0∧U0 l i y∧¬ alW l i y)
def FormsV (l:List az) (v:Int):Prop:=(v = 0∧∀ (i:Nat) y,l[i]? = some y→NodeR l i y 0)∨(v ≠ 0∧∃ (j:Nat) (y:az),l[j]? = some y∧(∀ (k:Nat) z,k < j→l[k]? = some z→NodeR l k z 0)∧NodeR l j y v)
theorem NodeR.det {l:List az} {i:Nat} {y:az} {c d:Int} (h:NodeR l i y c) (h':NodeR l i y d):c = d:=by
 rcases h with ⟨rfl,h1⟩ | ⟨rfl,h1,h2⟩ | ⟨rfl,h1,h2⟩ <;> rcases h' with ⟨rfl,g1⟩ | ⟨rfl,g1,g2⟩ | ⟨rfl,g1,g2⟩ <;> first | rfl | exact absurd h1 g1 | exact absurd g1 h1 | exact absurd h2 g2 | exact absurd g2 h2
theorem FormsV.det {l:List az} {v w:Int} (h:FormsV l v) (h':FormsV l w):v = w:=by
 rcases h with ⟨rfl,h1⟩ | ⟨h0,j,y,hy,h1,h2⟩ <;> rcases h' with ⟨rfl,g1⟩ | ⟨g0,k,z,hz,g1,g2⟩
 ·rfl
 ·exact (h1 k z hz).det g2
 ·exact h2.det (g1 j y hy)
 ·rcases Nat.lt_trichotomy j k with e | e | e
  ·exact absurd (h2.det (g1 j y e hy)) h0
  ·subst e; rw [hy] at hz; cases hz; exact h2.det g2
  ·exact absurd (g2.det (h1 k z e hz)) g0
theorem UpN.of {l:List az} {n:Nat} (h:∀ (k:Nat) z,k < n→l[k]? = some z→NodeR l k z 0):UpN l n:=by
 intro j
 induction j using Nat.strongRecOn with
 | _ j ih =>
  intro y hj hy
  have hu:UpN l j:=fun k z hk hz=>ih k hk z (by omega) hz
  have hp:U0 l j y:=by
   rcases h j y hj hy with ⟨e,_⟩ | ⟨e,_⟩ | ⟨_,h1,_⟩
   ·omega
   ·omega
   ·exact h1
  rcases hp with e | ⟨e,hd⟩
  ·omega
  ·have:=hd.le hu (by omega)
   omega
theorem aOq (l:List az) (hl:l.length≤2000):Ok (wK l) (FormsV l):=by
 unfold wK
 refine pY (Q:=p3 (fun _=>∀ (k:Nat) z,k < l.length→l[k]? = some z→NodeR l k z 0) (fun v=>v ≠ 0∧∃ (j:Nat) (y:az),l[j]? = some y∧(∀ (k:Nat) z,k < j→l[k]? = some z→NodeR l k z 0)∧NodeR l j y v)) (Ez l.length (fun (m:List (Int × ByteArray)) n=>(∀ p,D7 p m = xQ l p n)∧∀ (k:Nat) z,k < n→l[k]? = some z→NodeR l k z 0) (by omega) ⟨fun p=>rfl,fun k z hk=>by omega⟩ (fun m i hI h2=>?_)) (fun _ hq=>a8 (.inl ⟨rfl,fun i y hy=>hq i y (e8 hy) hy⟩)) (fun r hr=>a8 (.inr hr))
 obtain ⟨hm,hN⟩:=hI
 unfold Aj
 dsimp only
 refine cV (fun hi=>?_) (fun hi=>dQ (fun k z hk hz=>hN k z (by omega) hz))
 refine bX (w5 (by omega)) (fun y hy=>?_)
 rw [show w64 ((i:Int) - 1) = (i:Int) - 1 from d7 (by omega)]
 refine bX (aNx (by omega) hl (UpN.of hN) y) (fun e he=>?_)
 refine xZ (fun hne=>dQ ⟨by omega,i,y,hy,hN,.inl ⟨rfl,fun hp=>hne (he.2 hp)⟩⟩) (fun heq=>?_)
 have hp:=he.1 heq
 refine bX (Q:=fun v=>v = true↔alW l i y) ?_ (fun v hv=>?_)
 ·rw [hm]
  unfold alW
  cases hL:xQ l y.fParent i with
  | none=>exact a8 ⟨fun h=>by simp at h,fun ⟨s,h,_⟩=>by simp at h⟩
  | some s =>
   simp only [Option.isSome_some,cond_true,Option.getD_some]
   refine a8 ?_
   have ht:=M1 y.fName s
   constructor
   ·intro h
    refine ⟨s,rfl,?_⟩
    rw [← ht,h]; rfl
   ·rintro ⟨s',e,h⟩
    cases e
    rw [← ht] at h
    cases hb:(sLt y.fName s || decide (y.fName = s)) with
    | true=>rfl
    | false=>rw [hb] at h; simp at h
 refine gJ (fun e=>dQ ⟨by omega,i,y,hy,hN,.inr (.inl ⟨rfl,hp,hv.1 e⟩)⟩) (fun e=>?_)
 rw [qx (n:=l.length) (by omega) (by omega)]
 refine hJ ⟨by omega,rfl,fun p=>?_,fun k z hk hz=>?_⟩
 ·simp only
  rw [Yj]
  simp only [xQ,hy,hm]
  by_cases e:y.fParent = p
  ·simp [e]
  ·have : ¬ p = y.fParent:=fun h=>e h.symm
   simp [e,this]
 ·by_cases e2:k = i
  ·subst e2; rw [hy] at hz; cases hz
   exact .inr (.inr ⟨rfl,hp,fun h=>by rw [hv.2 h] at e; simp at e⟩)
  ·exact hN k z (by omega) hz
theorem aNX (l:List az) (hl:l.length≤2000):Ok (jq l) (FormsV l):=by
 unfold jq
 refine pY (Q:=p3 (fun _=>∀ (k:Nat) z,k < l.length→l[k]? = some z→NodeR l k z 0) (fun v=>v ≠ 0∧∃ (j:Nat) (y:az),l[j]? = some y∧(∀ (k:Nat) z,k < j→l[k]? = some z→NodeR l k z 0)∧NodeR l j y v)) (EW l.length (fun n=>∀ (k:Nat) z,k < n→l[k]? = some z→NodeR l k z 0) (by omega) (fun k z hk=>by omega) (fun i hN h2=>?_)) (fun _ hq=>a8 (.inl ⟨rfl,fun i y hy=>hq i y (e8 hy) hy⟩)) (fun r hr=>a8 (.inr hr))
 unfold m5
 refine cV (fun hi=>?_) (fun hi=>dQ (fun k z hk hz=>hN k z (by omega) hz))
 refine bX (w5 (by omega)) (fun y hy=>?_)
 have hu:=UpN.of hN
 rw [show w64 ((i:Int) - 1) = (i:Int) - 1 from d7 (by omega)]
 refine bX (Q:=fun v=>v = false↔U0 l i y) ?_ (fun v hv=>?_)
 ·refine cV (fun g=>a8 ?_) (fun g1=>?_)
  ·refine ⟨fun h=>by simp at h,fun h=>?_⟩
   rcases h with h | h <;> omega
  refine cV (fun g=>a8 ?_) (fun g2=>?_)
  ·refine ⟨fun h=>by simp at h,fun h=>?_⟩
   rcases h with h | ⟨h,hd⟩
   ·omega
   ·have:=hd.le hu (by omega); omega
  refine cV (fun g3=>?_) (fun g3=>a8 ⟨fun _=>.inl (by omega),fun _=>rfl⟩)
  refine bX (auY (by omega) hl hu y.fParent g3) (fun b hb=>a8 ?_)
  constructor
  ·intro h
   exact .inr ⟨g3,hb.1 (by simpa using h)⟩
  ·rintro (h | ⟨_,hd⟩)
   ·omega
   ·simpa using hb.2 hd
 refine gJ (fun e=>dQ ⟨by omega,i,y,hy,hN,.inl ⟨rfl,fun hp=>by rw [hv.2 hp] at e; simp at e⟩⟩) (fun e=>?_)
 have hp:=hv.1 e
 refine bX (Q:=fun e:Int=>-1≤e∧e < i∧((e = -1∧xQ l y.fParent i = none)∨∃ (k:Nat) (z:az),e = (k:Int)∧l[k]? = some z∧xQ l y.fParent i = some z.fName)) (rj (fun s:Int=>-1≤s∧s < i∧xQ l y.fParent i = xQ l y.fParent (s + 1).toNat) (fun s:Int=>(s + 1).toNat) (fun s hs=>?_) ⟨by omega,by omega,by rw [show ((i:Int) - 1 + 1).toNat = i by omega]⟩ (by simp [fK]; omega)) (fun q hq=>?_)
 ·obtain ⟨k1,k2,k3⟩:=hs
  unfold m4
  by_cases k0:0≤s
  ·obtain ⟨k,rfl⟩:=Int.eq_ofNat_of_zero_le k0
   simp only [k0,decide_true,cond_true]
   obtain ⟨z,hz⟩ : ∃ z,l[k]? = some z:=⟨l[k]'(by omega),bk (by omega)⟩
   rw [fJ,hz]
   simp only [ck]
   have hk3:xQ l y.fParent i = if z.fParent = y.fParent then some z.fName else xQ l y.fParent k:=by
    rw [k3,show ((k:Int) + 1).toNat = k + 1 by omega]
    simp only [xQ,hz]
   by_cases hq:z.fParent = y.fParent
   ·simp only [hq,decide_true,Bool.not_true,cond_false]
    exact dQ ⟨by omega,by omega,.inr ⟨k,z,rfl,hz,by rw [hk3,if_pos hq]⟩⟩
   ·simp only [hq,decide_false,Bool.not_false,cond_true]
    rw [show w64 ((k:Int) - 1) = (k:Int) - 1 from d7 (by omega)]
    exact hJ ⟨⟨by omega,by omega,by rw [hk3,if_neg hq]; congr 1; omega⟩,by omega⟩
  ·simp only [k0,decide_false,cond_false,ck]
   have:s = -1:=by omega
   subst this
   exact dQ ⟨by omega,by omega,.inl ⟨rfl,by rw [k3]; rfl⟩⟩
 obtain ⟨q1,q2,q3⟩:=hq
 refine bX (Q:=fun v=>v = true↔alW l i y) ?_ (fun v hv=>?_)
 ·unfold alW
  rcases q3 with ⟨rfl,hL⟩ | ⟨k,z,rfl,hz,hL⟩
  ·rw [hL]
   exact a8 ⟨fun h=>by simp at h,fun ⟨s,h,_⟩=>by simp at h⟩
  ·rw [hL]
   have k0:(0:Int)≤(k:Int):=by omega
   simp only [k0,decide_true,cond_true]
   rw [fJ,hz,fJ,hy]
   simp only [ck]
   refine a8 ⟨fun h=>⟨_,rfl,by simpa using h⟩,fun ⟨s,e,h⟩=>?_⟩
   cases e
   simp [h]
 refine gJ (fun e=>dQ ⟨by omega,i,y,hy,hN,.inr (.inl ⟨rfl,hp,hv.1 e⟩)⟩) (fun e=>?_)
 rw [qx (n:=l.length) (by omega) (by omega)]
 refine hJ ⟨by omega,rfl,fun k z hk hz=>?_⟩
 by_cases e2:k = i
 ·subst e2; rw [hy] at hz; cases hz
  exact .inr (.inr ⟨rfl,hp,fun h=>by rw [hv.2 h] at e; simp at e⟩)
 ·exact hN k z (by omega) hz
def n7 (l:List az) (k:Nat):Int := match l[k]? with | some y => y.fSelf | none => 0
def ayZ (l:List az) (k:Nat):Int := match l[k]? with | some y => y.fCount | none => 0
theorem rq {l:List az} {k:Nat} {y:az} (h:l[k]? = some y):n7 l k = y.fSelf:=by simp [n7,h]
theorem asY {l:List az} {k:Nat} {y:az} (h:l[k]? = some y):ayZ l k = y.fCount:=by simp [ayZ,h]
def agK (y:az):Prop:=ej y.fName = some 0∧0≤y.fSelf∧y.fSelf≤100000000000000∧0≤y.fCount∧y.fCount≤20000∧(y.fCount = 0→y.fSelf = 0)
structure S6 (l:List az):Prop where
 num:∀ (k:Nat) y,l[k]? = some y→agK y
 self:dW (n7 l) l.length≤100000000000000
 cnt:dW (ayZ l) l.length≤20000
theorem aCq (l:List az) (hl:l.length≤2000) (hn:∀ x∈l,okN x.fName):Ok (nV l) (fun r=>r = 0↔S6 l):=by
 unfold nV
 refine pY (Q:=p3 (fun e=>(∀ (k:Nat) y,l[k]? = some y→agK y)∧e.1 = dW (n7 l) l.length∧e.2 = dW (ayZ l) l.length) (fun r=>r ≠ 0∧¬ S6 l)) (rj (fun s:Int × Int × Int=>∃ n:Nat,s.2.2 = (n:Int)∧n≤l.length∧(∀ (k:Nat) y,k < n→l[k]? = some y→agK y)∧s.1 = dW (n7 l) n∧s.2.1 = dW (ayZ l) n) (fun s=>((l.length:Int) - s.2.2).toNat) (fun s hs=>?_) ⟨0,rfl,by omega,fun k y h=>by omega,rfl,rfl⟩ (by simp [fK]; omega)) (fun e he=>?_) (fun r hr=>a8 ⟨fun e=>absurd e hr.1,fun g=>absurd g hr.2⟩)
 ·obtain ⟨a,b,c⟩:=s
  obtain ⟨n,h1,h2,h3,h4,h5⟩:=hs
  simp only at h1 h4 h5
  subst h1
  unfold nK
  dsimp only
  have hb1:=IW (f:=n7 l) (c:=100000000000000) (n:=n) (fun k hk=>by
   obtain ⟨y,hy⟩ : ∃ y,l[k]? = some y:=⟨l[k]'(by omega),bk (by omega)⟩
   have:=h3 k y hk hy
   rw [rq hy]; exact ⟨this.2.1,this.2.2.1⟩)
  have hb2:=IW (f:=ayZ l) (c:=20000) (n:=n) (fun k hk=>by
   obtain ⟨y,hy⟩ : ∃ y,l[k]? = some y:=⟨l[k]'(by omega),bk (by omega)⟩
   have:=h3 k y hk hy
   rw [asY hy]; exact ⟨this.2.2.2.1,this.2.2.2.2.1⟩)
  refine cV (fun hi=>?_) (fun hi=>?_)
  ·refine bX (w5 (by omega)) (fun y hy=>?_)
   obtain ⟨r,hr,_⟩:=GZ y.fName (hn y (fw hy))
   rw [hr,ck]
   refine xZ (fun h0=>dQ ⟨h0,fun g=>?_⟩) (fun h0=>?_)
   ·have:=(g.num n y hy).1
    rw [hr] at this; exact h0 (Option.some.inj this)
   subst h0
   refine bX (Q:=fun v=>v = false↔agK y) ?_ (fun v hv=>?_)
   ·unfold agK
    by_cases g1:y.fSelf < 0 <;> by_cases g2:100000000000000 < y.fSelf <;> by_cases g3:y.fCount < 0 <;> by_cases g4:20000 < y.fCount <;> by_cases g5:y.fCount = 0 <;> by_cases g6:y.fSelf = 0 <;> simp [g1,g2,g3,g4,g5,g6,Ok,hr] <;> omega
   refine gJ (fun e=>dQ ⟨show (2:Int) ≠ 0 by omega,fun g=>by rw [hv.2 (g.num n y hy)] at e; simp at e⟩) (fun e=>?_)
   have hN:=hv.1 e
   obtain ⟨_,k1,k2,k3,k4,_⟩:=hN
   rw [d7 (by omega),d7 (by omega),d7 (by omega)]
   refine hJ ⟨⟨n + 1,by simp only; omega,by omega,fun k z hk hz=>?_,?_,?_⟩,by simp only; omega⟩
   ·by_cases e2:k = n
    ·subst e2; rw [hy] at hz; cases hz; exact hv.1 e
    ·exact h3 k z (by omega) hz
   ·simp only [dW,rq hy]; omega
   ·simp only [dW,asY hy]; omega
  ·have:n = l.length:=by omega
   subst this
   exact dQ ⟨fun k y hy=>h3 k y (e8 hy) hy,h4,h5⟩
 ·obtain ⟨e1,e2⟩:=e
  obtain ⟨h1,h2,h3⟩:=he
  simp only at h2 h3
  subst h2; subst h3
  dsimp only
  refine bX (Q:=fun v=>v = false↔S6 l) ?_ (fun v hv=>?_)
  ·refine cV (fun g=>a8 ⟨fun h=>by simp at h,fun h=>by have:=h.self; omega⟩) (fun g=>a8 ⟨fun h=>⟨h1,by omega,by have:=of_decide_eq_false h; omega⟩,fun h=>decide_eq_false (by have:=h.cnt; omega)⟩)
  refine gJ (fun e=>a8 ⟨fun h=>by omega,fun g=>by rw [hv.2 g] at e; simp at e⟩) (fun e=>a8 ⟨fun _=>hv.1 e,fun _=>rfl⟩)
theorem avV (l:List az):nV l = gV l:=by
 unfold nV gV
 have:nK l = iJ l:=by
  funext s
  obtain ⟨a,b,c⟩:=s
  unfold nK iJ
  simp only [← aqq]
 rw [this]
def j8 (l:List az) (j m:Nat):Bool := match l[m]? with | some z => decide (z.fParent = (j:Int)) | none => false
def aoY (l:List az) (g:Nat→Int) (n j:Nat):Int:=dW (fun m=>if n≤m∧j8 l j m = true then g m else 0) l.length
def tg (t:List Int) (j:Nat):Int:=(t[j]?).getD 0
def QZ (l:List az) (j:Nat):Prop:=∀ z,l[j + 1]? = some z→z.fParent ≠ (j:Int)
structure awJ (l:List az) (t:List Int) (lf:List Bool) (n:Nat):Prop where
 tl:t.length = l.length
 ll:lf.length = l.length
 sum:∀ j,j < l.length→tg t j = (if n≤j then n7 l j else 0) + aoY l (tg t) n j
 pos:∀ j,0≤tg t j
 pend:dW (tg t) n + dW (n7 l) n≤dW (n7 l) l.length
 bd:∀ j,tg t j≤100000000000000
 leaf:∀ j b,n≤j→lf[j]? = some b→(b = true↔QZ l j)
theorem VV (t:List Int) (i j:Nat) (v:Int) (hi:i < t.length):tg (t.set i v) j = if j = i then v else tg t j:=by
 unfold tg
 rw [uw]
 by_cases e:i = j
 ·subst e; simp [hi]
 ·have : ¬ j = i:=fun h=>e h.symm
  simp [e,this]
theorem aPJ {l:List az} (hu:UpN l l.length) {j m:Nat} (h:j8 l j m = true):j < m∧m < l.length:=by
 unfold j8 at h
 split at h
 ·rename_i z hz
  have:=hu m z (e8 hz) hz
  have h2:=of_decide_eq_true h
  exact ⟨by omega,e8 hz⟩
 ·simp at h
theorem arV {f:Nat→Int} (hf:∀ k,0≤f k):∀ {n j:Nat},j < n→f j≤dW f n
 | 0,j,h=>by omega
 | n + 1,j,h=>by
  simp only [dW]
  have h0:0≤dW f n:=by
   have:∀ n,0≤dW f n:=by
    intro n
    induction n with
    | zero=>simp [dW]
    | succ n ih=>have:=hf n; simp only [dW]; omega
   exact this n
  by_cases e:j = n
  ·subst e; omega
  ·have:=arV hf (n:=n) (j:=j) (by omega)
   have:=hf n
   omega
theorem awj {l:List az} (hl:l.length≤2000) (hg:S6 l) (hu:UpN l l.length) {t:List Int} {lf:List Bool} {a:Nat} {y:az} (hy:l[a]? = some y) (H:awJ l t lf (a + 1)) {b:Bool} (hb:b = true↔QZ l a)
  {t':List Int} (ht:t'.length = l.length) (h1:∀ j,tg t' j = if j = a then tg t a + y.fSelf else if (j:Int) = y.fParent then tg t j + (tg t a + y.fSelf) else tg t j):awJ l t' (lf.set a b) a:=by
 have hal:=e8 hy
 obtain ⟨_,s0,s1,_,_,_⟩:=hg.num a y hy
 have hp:=hu a y hal hy
 have hself:n7 l a = y.fSelf:=rq hy
 have hta:=H.pos a
 have hT:tg t a + y.fSelf≤100000000000000:=by
  have h2:=H.pend
  simp only [dW] at h2
  have h3:0≤dW (tg t) a:=by
   have:∀ n,0≤dW (tg t) n:=by
    intro n
    induction n with
    | zero=>simp [dW]
    | succ n ih=>have:=H.pos n; simp only [dW]; omega
   exact this a
  have h4:0≤dW (n7 l) a:=by
   refine (IW (c:=100000000000000) (fun k hk=>?_)).1
   obtain ⟨z,hz⟩ : ∃ z,l[k]? = some z:=⟨l[k]'(by omega),bk (by omega)⟩
   have:=hg.num k z hz
   rw [rq hz]; exact ⟨this.2.1,this.2.2.1⟩
  have:=hg.self
  omega
 have hk:∀ j,j < l.length→aoY l (tg t') a j = aoY l (tg t) (a + 1) j + if (j:Int) = y.fParent then tg t a + y.fSelf else 0:=by
  intro j hj
  unfold aoY
  have:∀ m,(if a≤m∧j8 l j m = true then tg t' m else 0) = (if a + 1≤m∧j8 l j m = true then tg t m else 0) + if m = a then (if (j:Int) = y.fParent then tg t a + y.fSelf else 0) else 0:=by
   intro m
   by_cases e:m = a
   ·subst e
    have n1 : ¬ m + 1≤m:=by omega
    have hkid:j8 l j m = decide (y.fParent = (j:Int)):=by unfold j8; rw [hy]
    rw [hkid,h1 m]
    by_cases e2:y.fParent = (j:Int)
    ·simp [n1,e2]
    ·have e3 : ¬ (j:Int) = y.fParent:=fun h=>e2 h.symm
     simp [n1,e2,e3]
   ·have n1:(a≤m)↔(a + 1≤m):=by omega
    simp only [n1,e,jw,Int.add_zero]
    by_cases c:a + 1≤m∧j8 l j m = true
    ·rw [if_pos c,if_pos c,h1 m,if_neg e]
     have : ¬ (m:Int) = y.fParent:=by omega
     rw [if_neg this]
    ·rw [if_neg c,if_neg c]
  rw [r8 (fun m _=>this m),Uj,Vq]
  simp [hal]
 refine ⟨ht,by simp [H.ll],fun j hj=>?_,fun j=>?_,?_,fun j=>?_,fun j c hj hc=>?_⟩
 ·rw [hk j hj,h1 j]
  have hs:=H.sum j hj
  by_cases e:j = a
  ·subst e
   have n1 : ¬ j + 1≤j:=by omega
   have n2 : ¬ (j:Int) = y.fParent:=by omega
   rw [if_neg n1] at hs
   simp only [n2,if_true,jw,gw,hself]
   omega
  ·rw [if_neg e]
   by_cases e2:(j:Int) = y.fParent
   ·have n1 : ¬ a≤j:=by omega
    have n2 : ¬ a + 1≤j:=by omega
    rw [if_neg n2] at hs
    simp only [e2,if_true,n1,jw]
    omega
   ·have n1:(a + 1≤j)↔(a≤j):=by omega
    simp only [n1] at hs
    simp only [e2,jw]
    omega
 ·rw [h1 j]
  have:=H.pos j
  split
  ·omega
  ·split <;> omega
 ·have h2:=H.pend
  simp only [dW,hself] at h2
  have:dW (tg t') a = dW (tg t) a + (if 0≤y.fParent then tg t a + y.fSelf else 0):=by
   by_cases e:0≤y.fParent
   ·obtain ⟨p,hpe⟩:=Int.eq_ofNat_of_zero_le e
    have key:∀ n,n≤a→dW (tg t') n = dW (tg t) n + if p < n then tg t a + y.fSelf else 0:=by
     intro n hn
     have hc:dW (tg t') n = dW (fun k=>tg t k + if k = p then tg t a + y.fSelf else 0) n:=r8 fun k hk=>by
      rw [h1 k,if_neg (by omega)]
      by_cases e2:k = p
      ·subst e2
       simp [hpe]
      ·have : ¬ (k:Int) = y.fParent:=by omega
       simp [this,e2]
     rw [hc,Uj,Vq]
    rw [key a (gw _),if_pos (by omega),if_pos e]
   ·rw [if_neg e]
    rw [r8 (g:=tg t) (fun k hk=>?_)]
    ·omega
    ·rw [h1 k,if_neg (by omega),if_neg (by omega)]
  rw [this]
  split <;> omega
 ·rw [h1 j]
  have hbd:=H.bd j
  split
  ·omega
  ·split
   ·rename_i e1 e2
    have h2:=H.pend
    simp only [dW,hself] at h2
    have h3:=arV H.pos (n:=a) (j:=j) (by omega)
    have h4:0≤dW (n7 l) a:=by
     refine (IW (c:=100000000000000) (fun k hk=>?_)).1
     obtain ⟨z,hz⟩ : ∃ z,l[k]? = some z:=⟨l[k]'(by omega),bk (by omega)⟩
     have:=hg.num k z hz
     rw [rq hz]; exact ⟨this.2.1,this.2.2.1⟩
    have:=hg.self
    omega
   ·exact hbd
 ·rw [uw] at hc
  by_cases e:a = j
  ·subst e
   simp [H.ll,hal] at hc
   subst hc
   exact hb
  ·rw [if_neg e] at hc
   exact H.leaf j c (by omega) hc
theorem abK {t:List Int} {i:Nat} (h:i < t.length):idx t (i:Int) = some (tg t i):=by
 rw [fJ,bk h]
 simp [tg,h]
theorem aJY (l:List az) (hl:l.length≤2000) (hg:S6 l) (hu:UpN l l.length) :
  Ok (loop (tV l) ((List.replicate (Int.toNat (List.length l:Int)) 0),(List.replicate (Int.toNat (List.length l:Int)) false),(w64 ((List.length l:Int) - 1)))) (fun e=>awJ l e.1 e.2 0):=by
 rw [show w64 ((l.length:Int) - 1) = (l.length:Int) - 1 from d7 (by omega)]
 have hself0:0≤dW (n7 l) l.length:=by
  refine (IW (c:=100000000000000) (fun k hk=>?_)).1
  obtain ⟨z,hz⟩ : ∃ z,l[k]? = some z:=⟨l[k]'(by omega),bk (by omega)⟩
  have:=hg.num k z hz
  rw [rq hz]; exact ⟨this.2.1,this.2.2.1⟩
 have tz:∀ j,tg (List.replicate (Int.toNat (List.length l:Int)) 0) j = 0:=by
  intro j
  unfold tg
  rw [List.getElem?_replicate]
  split <;> rfl
 refine rj (fun s:List Int × List Bool × Int=>-1≤s.2.2∧s.2.2 < l.length∧awJ l s.1 s.2.1 (s.2.2 + 1).toNat) (fun s=>(s.2.2 + 1).toNat) (fun s hs=>?_) ⟨by simp only; omega,by simp only; omega,?_⟩ (by simp [fK]; omega)
 ·obtain ⟨t,lf,i⟩:=s
  obtain ⟨h1,h2,H⟩:=hs
  simp only at h1 h2 H
  unfold tV
  dsimp only
  refine cV (fun h0=>?_) (fun h0=>dQ ?_)
  ·obtain ⟨a,rfl⟩:=Int.eq_ofNat_of_zero_le h0
   have ha:a < l.length:=by omega
   obtain ⟨y,hy⟩ : ∃ y,l[a]? = some y:=⟨l[a]'ha,bk ha⟩
   rw [show ((a:Int) + 1).toNat = a + 1 by omega] at H
   have hat:a < t.length:=by rw [H.tl]; exact ha
   have hal:a < lf.length:=by rw [H.ll]; exact ha
   obtain ⟨_,s0,s1,_,_,_⟩:=hg.num a y hy
   have hp:=hu a y ha hy
   have hpos:=H.pos a
   have hbd:=H.bd a
   have ey:idx l (a:Int) = some y:=by rw [fJ,hy]
   have ew:w64 (tg t a + y.fSelf) = tg t a + y.fSelf:=d7 (by omega)
   rw [abK hat,ey]
   simp only [ck,ew]
   obtain ⟨lb,hlb,hleaf⟩ : ∃ lb,((bif (decide ((w64 ((a:Int) + 1)) = (List.length l:Int))) then ((idx lf (a:Int)).bind fun y125=>some (List.set lf (Int.toNat (a:Int)) true)) else ((idx l (w64 ((a:Int) + 1))).bind fun y123=>((idx lf (a:Int)).bind fun y124=>some (List.set lf (Int.toNat (a:Int)) (!decide (y123.fParent = (a:Int)))))):Option (List Bool)) = some (lf.set a lb))∧(lb = true↔QZ l a):=by
    obtain ⟨c,hc⟩ : ∃ c,lf[a]? = some c:=⟨lf[a]'hal,bk hal⟩
    rw [qx (n:=l.length) ha (by omega)]
    by_cases e:a + 1 = l.length
    ·have:(((a + 1:Nat):Int) = (l.length:Int)):=by omega
     simp only [this,decide_true,cond_true,fJ,hc,ck]
     refine ⟨true,rfl,fun _ z hz=>?_,fun _=>rfl⟩
     have:=e8 hz
     omega
    ·have : ¬ (((a + 1:Nat):Int) = (l.length:Int)):=by omega
     obtain ⟨z,hz⟩ : ∃ z,l[a + 1]? = some z:=⟨l[a + 1]'(by omega),bk (by omega)⟩
     simp only [this,decide_false,cond_false,fJ,hz,hc,ck]
     refine ⟨_,rfl,fun h z' hz'=>?_,fun h=>?_⟩
     ·rw [hz] at hz'; cases hz'
      simpa using h
     ·simpa using h z hz
   rw [hlb]
   simp only [ck]
   rw [show (Int.toNat (a:Int)) = a from by omega]
   have hat':a < (t.set a (tg t a + y.fSelf)).length:=by rw [qk]; exact hat
   refine bX (Q:=fun e=>e.2 = lf.set a lb∧e.1.length = l.length∧∀ j,tg e.1 j = if j = a then tg t a + y.fSelf else if (j:Int) = y.fParent then tg t j + (tg t a + y.fSelf) else tg t j) ?_ (fun e he=>?_)
   ·refine cV (fun g=>?_) (fun g=>a8 ⟨rfl,by simp [H.tl],fun j=>?_⟩)
    ·obtain ⟨p,hpe⟩:=Int.eq_ofNat_of_zero_le g
     have hpa:p < a:=by omega
     have hpt:p < (t.set a (tg t a + y.fSelf)).length:=by rw [qk]; omega
     rw [hpe,abK hpt,abK hat',ck,ck,ck]
     rw [VV _ _ _ _ hat,VV _ _ _ _ hat,if_neg (by omega),if_pos rfl]
     have hpp:=H.pos p
     have hpb:=H.bd p
     rw [show w64 (tg t p + (tg t a + y.fSelf)) = tg t p + (tg t a + y.fSelf) from d7 (by omega),show Int.toNat (p:Int) = p from by omega]
     refine a8 ⟨rfl,by simp [H.tl],fun j=>?_⟩
     simp only
     rw [VV _ _ _ _ hpt,VV _ _ _ _ hat]
     by_cases e1:j = p
     ·subst e1
      have : ¬ j = a:=by omega
      simp [this]
     ·have : ¬ (j:Int) = (p:Int):=by omega
      simp [e1,this]
    ·simp only
     rw [VV _ _ _ _ hat]
     by_cases e1:j = a
     ·simp [e1]
     ·have : ¬ (j:Int) = y.fParent:=by omega
      simp [e1,this]
   ·obtain ⟨t',lf'⟩:=e
    obtain ⟨e1,e2,e3⟩:=he
    simp only at e1 e2 e3
    subst e1
    dsimp only
    rw [show w64 ((a:Int) - 1) = (a:Int) - 1 from d7 (by omega)]
    refine hJ ⟨⟨by simp only; omega,by simp only; omega,?_⟩,by simp only; omega⟩
    simp only
    rw [show ((a:Int) - 1 + 1).toNat = a by omega]
    exact awj hl hg hu hy H hleaf e2 e3
  ·have:i = -1:=by omega
   subst this
   exact H
 ·simp only
  rw [show ((l.length:Int) - 1 + 1).toNat = l.length by omega]
  refine ⟨by simp,by simp,fun j hj=>?_,fun j=>by rw [tz]; omega,?_,fun j=>by rw [tz]; omega,fun j b hj hb=>?_⟩
  ·rw [tz,if_neg (by omega)]
   unfold aoY
   rw [r8 (g:=fun _=>0) (fun m hm=>?_),Jx]
   ·rfl
   ·rw [if_neg (by omega)]
  ·rw [r8 (g:=fun _=>0) (fun m _=>tz m),Jx]; omega
  ·rw [List.getElem?_replicate] at hb
   split at hb
   ·omega
   ·simp at hb
def aGJ (l:List az) (t:List Int):Prop:=∀ (i:Nat) y,l[i]? = some y→y.fTotal = tg t i∧¬ (QZ l i∧y.fCount = 0)
theorem aHz {l:List az} (hl:l.length≤2000) {t:List Int} {lf:List Bool} (H:awJ l t lf 0):Ok (loop (tK l t lf) 0) (fun q=>(∃ u,q = .inl u∧aGJ l t)∨(q = .inr 10∧¬ aGJ l t)):=by
 refine EW l.length (fun n=>∀ (i:Nat) y,i < n→l[i]? = some y→y.fTotal = tg t i∧¬ (QZ l i∧y.fCount = 0)) (by omega) (fun i y h=>by omega) (fun i hI h2=>?_)
 unfold tK
 refine cV (fun hi=>?_) (fun hi=>dQ (.inl ⟨(),rfl,fun k y hy=>hI k y (by have:=e8 hy; omega) hy⟩))
 obtain ⟨y,hy⟩ : ∃ y,l[i]? = some y:=⟨l[i]'(by omega),bk (by omega)⟩
 have hal:i < lf.length:=by rw [H.ll]; omega
 obtain ⟨c,hc⟩ : ∃ c,lf[i]? = some c:=⟨lf[i]'hal,bk hal⟩
 have hleaf:=H.leaf i c (by omega) hc
 rw [fJ,hy,ck,fJ,hc,ck,abK (by rw [H.tl]; omega)]
 refine bX (Q:=fun v=>v = false↔(y.fTotal = tg t i∧¬ (QZ l i∧y.fCount = 0))) ?_ (fun v hv=>?_)
 ·cases c with
  | true =>
   have hL:=hleaf.1 rfl
   simp only [cond_true]
   by_cases g:y.fCount = 0
   ·simp only [g,decide_true,cond_true]
    exact a8 ⟨fun h=>by simp at h,fun h=>absurd ⟨hL,trivial⟩ h.2⟩
   ·simp only [g,decide_false,cond_false,ck]
    refine a8 ⟨fun h=>⟨by simpa using h,fun h=>h.2⟩,fun h=>by simpa using h.1⟩
  | false =>
   have hL : ¬ QZ l i:=fun h=>by have:=hleaf.2 h; simp at this
   simp only [cond_false,ck]
   exact a8 ⟨fun h=>⟨by simpa using h,fun h=>hL h.1⟩,fun h=>by simpa using h.1⟩
 refine gJ (fun e=>dQ (.inr ⟨rfl,fun hp=>by rw [hv.2 (hp i y hy)] at e; simp at e⟩)) (fun e=>?_)
 rw [qx (n:=l.length) (by omega) (by omega)]
 refine hJ ⟨by omega,rfl,fun k z hk hz=>?_⟩
 by_cases e2:k = i
 ·subst e2; rw [hy] at hz; cases hz; exact hv.1 e
 ·exact hI k z (by omega) hz
def awX (l:List az) (k:Nat):Int := match l[k]? with | some y => y.fTotal | none => 0
def JV (l:List az) (i:Nat):Nat→Int
 | 0=>n7 l i
 | d + 1=>if j8 l i (i + 1 + d) = true then w64 (JV l i d + awX l (i + 1 + d)) else JV l i d
def T3 (l:List az) (i d:Nat):Prop:=∀ e,e < d→j8 l i (i + 1 + e) = false
def Z4 (l:List az):Prop:=∀ (i:Nat) y,l[i]? = some y→JV l i (l.length - (i + 1)) = y.fTotal∧¬ (T3 l i (l.length - (i + 1))∧y.fCount = 0)
theorem aAX {l:List az} (hl:l.length≤2000):Ok (gY l) (fun r=>(r = 0∧Z4 l)∨(r = 10∧¬ Z4 l)):=by
 unfold gY
 refine pY (Q:=p3 (fun _=>Z4 l) (fun r=>r = 10∧¬ Z4 l)) (EW l.length (fun n=>∀ (i:Nat) y,i < n→l[i]? = some y→JV l i (l.length - (i + 1)) = y.fTotal∧¬ (T3 l i (l.length - (i + 1))∧y.fCount = 0)) (by omega) (fun i y h=>by omega) (fun i hI h2=>?_)) (fun _ hq=>a8 (.inl ⟨rfl,hq⟩)) (fun r hr=>a8 (.inr hr))
 unfold l5
 refine cV (fun hi=>?_) (fun hi=>dQ (fun k y hy=>hI k y (by have:=e8 hy; omega) hy))
 obtain ⟨y,hy⟩ : ∃ y,l[i]? = some y:=⟨l[i]'(by omega),bk (by omega)⟩
 rw [fJ,hy,ck,qx (n:=l.length) (by omega) (by omega)]
 refine bX (Q:=fun e=>e.1 = JV l i (l.length - (i + 1))∧(e.2 = true↔T3 l i (l.length - (i + 1)))) (rj (fun s:Int × Bool × Int=>∃ d:Nat,s.2.2 = ((i + 1 + d:Nat):Int)∧i + 1 + d≤l.length∧s.1 = JV l i d∧(s.2.1 = true↔T3 l i d)) (fun s=>((l.length:Int) - s.2.2).toNat) (fun s hs=>?_) ⟨0,rfl,by omega,by simp only [JV,rq hy],fun _ e h=>by omega,fun _=>rfl⟩ (by simp [fK]; omega)) (fun e he=>?_)
 ·obtain ⟨a,b,c⟩:=s
  obtain ⟨d,h1,h2,h3,h4⟩:=hs
  simp only at h1 h3 h4
  subst h1; subst h3
  unfold l2
  dsimp only
  refine cV (fun hj=>?_) (fun hj=>?_)
  ·obtain ⟨z,hz⟩ : ∃ z,l[i + 1 + d]? = some z:=⟨l[i + 1 + d]'(by omega),bk (by omega)⟩
   have hkid:j8 l i (i + 1 + d) = decide (z.fParent = (i:Int)):=by unfold j8; rw [hz]
   rw [fJ,hz]
   simp only [ck]
   rw [qx (n:=l.length) (by omega) (by omega)]
   by_cases g:z.fParent = (i:Int)
   ·simp only [g,decide_true,cond_true,ck]
    refine hJ ⟨⟨d + 1,by simp only; omega,by omega,?_,?_⟩,by simp only; omega⟩
    ·simp only [JV,hkid,g,decide_true,if_true,awX,hz]
    ·simp only
     exact ⟨fun h=>by simp at h,fun h=>by have:=h d (by omega); rw [hkid] at this; simp [g] at this⟩
   ·simp only [g,decide_false,cond_false,ck]
    refine hJ ⟨⟨d + 1,by simp only; omega,by omega,?_,?_⟩,by simp only; omega⟩
    ·simp only [JV,hkid,g,decide_false,iw,jw]
    ·simp only
     rw [h4]
     constructor
     ·intro h e he
      by_cases e2:e = d
      ·subst e2; rw [hkid]; simp [g]
      ·exact h e (by omega)
     ·intro h e he; exact h e (by omega)
  ·have:d = l.length - (i + 1):=by omega
   subst this
   exact dQ ⟨rfl,h4⟩
 ·obtain ⟨e1,e2⟩:=e
  obtain ⟨he1,he2⟩:=he
  simp only at he1 he2
  subst he1
  dsimp only
  refine bX (Q:=fun v=>v = false↔(JV l i (l.length - (i + 1)) = y.fTotal∧¬ (T3 l i (l.length - (i + 1))∧y.fCount = 0))) ?_ (fun v hv=>?_)
  ·cases e2 with
   | true =>
    have hL:=he2.1 rfl
    simp only [cond_true,ck]
    by_cases g:y.fCount = 0
    ·simp only [g,decide_true,cond_true]
     exact a8 ⟨fun h=>by simp at h,fun h=>absurd ⟨hL,trivial⟩ h.2⟩
    ·simp only [g,decide_false,cond_false]
     exact a8 ⟨fun h=>⟨by simpa using h,fun h=>h.2⟩,fun h=>by simpa using h.1⟩
   | false =>
    have hL : ¬ T3 l i (l.length - (i + 1)):=fun h=>by have:=he2.2 h; simp at this
    simp only [cond_false,ck]
    exact a8 ⟨fun h=>⟨by simpa using h,fun h=>hL h.1⟩,fun h=>by simpa using h.1⟩
  refine gJ (fun e=>dQ ⟨rfl,fun hp=>by rw [hv.2 (hp i y hy)] at e; simp at e⟩) (fun e=>?_)
  refine hJ ⟨by omega,rfl,fun k z hk hz=>?_⟩
  by_cases e2:k = i
  ·subst e2; rw [hy] at hz; cases hz; exact hv.1 e
  ·exact hI k z (by omega) hz
theorem adq {l:List az} (hN:∀ (k:Nat) z,k < l.length→l[k]? = some z→NodeR l k z 0) {i:Nat} (hi:i < l.length):QZ l i↔T3 l i (l.length - (i + 1)):=by
 have hu:UpN l l.length:=UpN.of hN
 have hkp:∀ m,j8 l i m = true↔∃ z,l[m]? = some z∧z.fParent = (i:Int):=by
  intro m
  unfold j8
  cases hz:l[m]? with
  | none=>simp
  | some z=>simp
 constructor
 ·intro h e he
  cases hk:j8 l i (i + 1 + e) with
  | false=>rfl
  | true =>
   exfalso
   have key:∀ d,(∀ e,e < d→j8 l i (i + 1 + e) = false)∨∃ e,e < d∧j8 l i (i + 1 + e) = true∧∀ f,f < e→j8 l i (i + 1 + f) = false:=by
    intro d
    induction d with
    | zero=>exact .inl fun e h=>by omega
    | succ d ih =>
     rcases ih with h1 | ⟨e,h1,h2,h3⟩
     ·cases hd:j8 l i (i + 1 + d) with
      | false =>
       refine .inl (fun e he=>?_)
       by_cases e2:e = d
       ·subst e2; exact hd
       ·exact h1 e (by omega)
      | true=>exact .inr ⟨d,by omega,hd,h1⟩
     ·exact .inr ⟨e,by omega,h2,h3⟩
   rcases key (e + 1) with h1 | ⟨f,h1,h2,h3⟩
   ·rw [h1 e (by omega)] at hk; simp at hk
   ·obtain ⟨z,hz,hp⟩:=(hkp _).1 h2
    have hlt:=e8 hz
    by_cases f0:f = 0
    ·subst f0
     exact h z (by simpa using hz) hp
    ·have hpar:U0 l (i + 1 + f) z:=by
      rcases hN _ z hlt hz with ⟨e,_⟩ | ⟨e,_⟩ | ⟨_,hp,_⟩
      ·omega
      ·omega
      ·exact hp
     rcases hpar with e | ⟨_,hd⟩
     ·omega
     ·rw [hp] at hd
      have up:∀ a:Int,DescN l (i:Int) a→a < (i + 1 + f:Nat)→(i:Int) < a→False:=by
       intro a hd
       induction hd with
       | self=>intro _ h; omega
       | @up k y hy hd' ih =>
        intro hlt2 hgt
        have hpy:=hu k y (by omega) hy
        by_cases e:y.fParent = (i:Int)
        ·have:=h3 (k - (i + 1)) (by omega)
         rw [show i + 1 + (k - (i + 1)) = k by omega] at this
         rw [(hkp k).2 ⟨y,hy,e⟩] at this; simp at this
        ·have hle:=hd'.le hu (by omega)
         exact ih (by omega) (by omega)
      exact up _ hd (by omega) (by omega)
 ·intro h z hz e
  have:=h 0 (by have:=e8 hz; omega)
  rw [(hkp _).2 ⟨z,by simpa using hz,e⟩] at this
  simp at this
theorem afV {l:List az} (hg:S6 l) (hN:∀ (k:Nat) z,k < l.length→l[k]? = some z→NodeR l k z 0) {t:List Int} {lf:List Bool} (H:awJ l t lf 0):aGJ l t↔Z4 l:=by
 have hu:UpN l l.length:=UpN.of hN
 have sum:∀ i,i < l.length→(∀ m,i < m→m < l.length→awX l m = tg t m)→JV l i (l.length - (i + 1)) = tg t i:=by
  intro i hi htot
  have h1:=H.sum i hi
  rw [if_pos (Nat.zero_le _)] at h1
  have hsi:0≤n7 l i:=by
   obtain ⟨z,hz⟩ : ∃ z,l[i]? = some z:=⟨l[i]'hi,bk hi⟩
   rw [rq hz]; exact (hg.num i z hz).2.1
  have hpart:∀ n,n≤l.length→i + 1≤n→JV l i (n - (i + 1)) = n7 l i + dW (fun m=>if 0≤m∧j8 l i m = true then tg t m else 0) n∧JV l i (n - (i + 1))≤tg t i:=by
   intro n
   induction n with
   | zero=>intro _ h; omega
   | succ n ih =>
    intro hn hin
    have hle:dW (fun m=>if 0≤m∧j8 l i m = true then tg t m else 0) (n + 1)≤aoY l (tg t) 0 i:=by
     unfold aoY
     have pos:∀ m,0≤(if 0≤m∧j8 l i m = true then tg t m else 0):=by
      intro m; have:=H.pos m; split <;> omega
     have:∀ d,dW (fun m=>if 0≤m∧j8 l i m = true then tg t m else 0) (n + 1)≤dW (fun m=>if 0≤m∧j8 l i m = true then tg t m else 0) (n + 1 + d):=by
      intro d
      induction d with
      | zero=>exact Int.le_refl _
      | succ d ih=>have:=pos (n + 1 + d); rw [← Nat.add_assoc]; simp only [dW] at ih ⊢; omega
     have:=this (l.length - (n + 1))
     rwa [show n + 1 + (l.length - (n + 1)) = l.length by omega] at this
    by_cases e:n = i
    ·subst e
     have z:dW (fun m=>if 0≤m∧j8 l n m = true then tg t m else 0) (n + 1) = 0:=by
      rw [r8 (g:=fun _=>0) (fun m hm=>?_),Jx]
      rw [if_neg]
      intro ⟨_,hk⟩
      have:=(aPJ hu hk).1
      omega
     rw [z] at hle ⊢
     rw [show n + 1 - (n + 1) = 0 by omega]
     simp only [JV]
     omega
    ·obtain ⟨i1,i2⟩:=ih (by omega) (by omega)
     rw [show n + 1 - (i + 1) = (n - (i + 1)) + 1 by omega]
     simp only [JV]
     rw [show i + 1 + (n - (i + 1)) = n by omega]
     have hpn:=H.pos n
     have hbn:=H.bd n
     have hpi:=H.bd i
     have hp0:0≤JV l i (n - (i + 1))∨True:=.inr trivial
     have ht:awX l n = tg t n:=htot n (by omega) (by omega)
     by_cases k:j8 l i n = true
     ·rw [if_pos k,ht]
      have e1:dW (fun m=>if 0≤m∧j8 l i m = true then tg t m else 0) (n + 1) = dW (fun m=>if 0≤m∧j8 l i m = true then tg t m else 0) n + tg t n:=by
       simp [dW,k]
      rw [e1] at hle ⊢
      have hnn:0≤dW (fun m=>if 0≤m∧j8 l i m = true then tg t m else 0) n:=by
       have:∀ n,0≤dW (fun m=>if 0≤m∧j8 l i m = true then tg t m else 0) n:=by
        intro n
        induction n with
        | zero=>simp [dW]
        | succ n ih =>
         have:=H.pos n
         simp only [dW]
         split <;> omega
       exact this n
      have hs:=H.pos i
      rw [d7 (by rw [i1]; omega),i1]
      omega
     ·rw [if_neg k]
      have e1:dW (fun m=>if 0≤m∧j8 l i m = true then tg t m else 0) (n + 1) = dW (fun m=>if 0≤m∧j8 l i m = true then tg t m else 0) n:=by
       simp [dW,k]
      rw [e1]
      exact ⟨i1,i2⟩
  have:=(hpart l.length (gw _) (by omega)).1
  rw [this,h1]
  rfl
 constructor
 ·intro hp i y hy
  have hi:=e8 hy
  obtain ⟨h1,h2⟩:=hp i y hy
  refine ⟨?_,fun h=>h2 ⟨(adq hN hi).2 h.1,h.2⟩⟩
  rw [h1]
  refine sum i hi fun m _ hm=>?_
  obtain ⟨z,hz⟩ : ∃ z,l[m]? = some z:=⟨l[m]'hm,bk hm⟩
  have:=(hp m z hz).1
  simp [awX,hz,this]
 ·intro hp
  have key:∀ d i y,l.length - i≤d→l[i]? = some y→y.fTotal = tg t i:=by
   intro d
   induction d with
   | zero=>intro i y h hy; have:=e8 hy; omega
   | succ d ih =>
    intro i y h hy
    have hi:=e8 hy
    rw [← (hp i y hy).1]
    refine sum i hi fun m him hm=>?_
    obtain ⟨z,hz⟩ : ∃ z,l[m]? = some z:=⟨l[m]'hm,bk hm⟩
    have:=ih m z (by omega) hz
    simp [awX,hz,this]
  intro i y hy
  exact ⟨key _ i y (gw _) hy,fun h=>(hp i y hy).2 ⟨(adq hN (e8 hy)).1 h.1,h.2⟩⟩
structure ValF (l:List az):Prop where
 len:l.length≤2000
 good:S6 l
 node:∀ (k:Nat) z,k < l.length→l[k]? = some z→NodeR l k z 0
 tot:Z4 l
theorem asq (l:List az) (hn:∀ x∈l,okN x.fName) (hl:l.length≤140737488351232):∃ r,j6 l = some r∧f7 l = some r∧(r = 0↔ValF l):=by
 unfold j6 f7
 by_cases h0:2000 < (l.length:Int)
 ·simp only [h0,decide_true,cond_true]
  exact ⟨7,rfl,rfl,fun h=>by omega,fun h=>by have:=h.len; omega⟩
 simp only [h0,decide_false,cond_false]
 have hl2:l.length≤2000:=by omega
 obtain ⟨r,hr,hg⟩:=aCq l hl2 hn
 rw [← avV,hr]
 simp only [ck]
 by_cases e:r = 0
 ·subst e
  have G:=hg.1 rfl
  simp only [decide_true,Bool.not_true,cond_false,cond_true]
  obtain ⟨v,hv,hf⟩:=aOq l hl2
  obtain ⟨v',hv',hf'⟩:=aNX l hl2
  have:=hf.det hf'
  subst this
  rw [hv,hv']
  simp only [ck]
  by_cases e2:v = 0
  ·subst e2
   have hN:∀ (k:Nat) z,k < l.length→l[k]? = some z→NodeR l k z 0:=by
    rcases hf with ⟨_,h⟩ | ⟨h,_⟩
    ·exact fun k z _ hz=>h k z hz
    ·exact absurd rfl h
   have hu:UpN l l.length:=UpN.of hN
   simp only [decide_true,Bool.not_true,cond_false,cond_true]
   have m1:mkB 8 (l.length:Int) = true:=by unfold mkB; exact decide_eq_true ⟨by omega,by omega,by omega⟩
   have m2:mkB 1 (l.length:Int) = true:=by unfold mkB; exact decide_eq_true ⟨by omega,by omega,by omega⟩
   rw [m1,m2]
   simp only [cond_true]
   obtain ⟨⟨t,lf⟩,ht,H⟩:=aJY l hl2 G hu
   rw [ht]
   simp only [ck]
   obtain ⟨q,hq,hP⟩:=aHz hl2 H
   obtain ⟨q',hq',hP'⟩:=aAX hl2 (l:=l)
   rw [hq,hq']
   simp only [ck]
   rcases hP with ⟨u,rfl,hp⟩ | ⟨rfl,hp⟩ <;> rcases hP' with ⟨rfl,hp'⟩ | ⟨rfl,hp'⟩
   ·exact ⟨0,rfl,rfl,fun _=>⟨hl2,G,hN,hp'⟩,fun _=>rfl⟩
   ·exact absurd ((afV G hN H).1 hp) hp'
   ·exact absurd ((afV G hN H).2 hp') hp
   ·exact ⟨10,rfl,rfl,fun h=>by omega,fun h=>absurd h.tot hp'⟩
  ·simp only [e2,decide_false,Bool.not_false,cond_true,cond_false,ck]
   refine ⟨v,rfl,rfl,fun h=>absurd h e2,fun h=>?_⟩
   exfalso
   rcases hf with ⟨h1,_⟩ | ⟨_,j,y,hy,_,hR⟩
   ·exact e2 h1
   ·exact e2 (hR.det (h.node j y (e8 hy) hy))
 ·simp only [e,decide_false,Bool.not_false,cond_true,cond_false,ck]
  exact ⟨r,rfl,rfl,fun h=>absurd h e,fun h=>absurd (hg.2 h.good) e⟩
inductive PathN (l:List az):Int→List ByteArray→Prop
 | out {i:Int}:i < 0→PathN l i []
 | up {i:Nat} {y:az} {p:List ByteArray}:l[i]? = some y→PathN l y.fParent p→PathN l (i:Int) (p++[y.fName])
theorem PathN.inv {l:List az} {a:Int} {k:Nat} {y:az} {p:List ByteArray} (h:PathN l a p) (ha:a = (k:Int)) (hy:l[k]? = some y):∃ q,PathN l y.fParent q∧p = q++[y.fName]:=by
 cases h with
 | out h=>omega
 | @up i z q hz hq =>
  have:i = k:=by omega
  subst this
  rw [hy] at hz; cases hz
  exact ⟨q,hq,rfl⟩
theorem ValF.up {l:List az} (h:ValF l):UpN l l.length:=UpN.of h.node
theorem ValF.check {l:List az} (h:ValF l) (hn:∀ x∈l,okN x.fName):j6 l = some 0∧f7 l = some 0:=by
 obtain ⟨r,h1,h2,h3⟩:=asq l hn (by have:=h.len; omega)
 rw [h3.2 h] at h1 h2
 exact ⟨h1,h2⟩
theorem U9:∀ {x y z:List UInt8},Op.bytesLess x y = true→Op.bytesLess y z = true→Op.bytesLess x z = true
 | [],y,z,h1,h2=>by
  cases z with
  | nil=>cases y <;> simp [Op.bytesLess] at h2
  | cons c z=>simp [Op.bytesLess]
 | a :: x,[],z,h1,h2=>by simp [Op.bytesLess] at h1
 | a :: x,b :: y,[],h1,h2=>by simp [Op.bytesLess] at h2
 | a :: x,b :: y,c :: z,h1,h2=>by
  simp only [Op.bytesLess,vk,dw,uk,beq_iff_eq] at h1 h2 ⊢
  rcases h1 with h1 | ⟨rfl,h1⟩ <;> rcases h2 with h2 | ⟨rfl,h2⟩
  ·exact .inl (UInt8.lt_trans h1 h2)
  ·exact .inl h1
  ·exact .inl h2
  ·exact .inr ⟨rfl,U9 h1 h2⟩
theorem X4 {a b c:ByteArray} (h1:sLt a b = true) (h2:sLt b c = true):sLt a c = true:=U9 h1 h2
theorem ValF.sib {l:List az} (h:ValF l):∀ (i:Nat) y,l[i]? = some y→∀ (j:Nat) z,j < i→l[j]? = some z→z.fParent = y.fParent→sLt z.fName y.fName = true:=by
 have last:∀ p n j z,j < n→n≤l.length→l[j]? = some z→z.fParent = p→∃ (k:Nat) (u:az),k < n∧j≤k∧l[k]? = some u∧u.fParent = p∧xQ l p n = some u.fName:=by
  intro p n
  induction n with
  | zero=>intro j z h; omega
  | succ n ih =>
   intro j z hj hn hz hp
   obtain ⟨v,hv⟩ : ∃ v,l[n]? = some v:=⟨l[n]'(by omega),bk (by omega)⟩
   by_cases e:v.fParent = p
   ·exact ⟨n,v,by omega,by omega,hv,e,by simp [xQ,hv,e]⟩
   ·have hjn:j < n:=by
     rcases Nat.lt_or_ge j n with h | h
     ·exact h
     ·have:j = n:=by omega
      subst this
      rw [hv] at hz; cases hz; exact absurd hp e
    obtain ⟨k,u,h1,h2,h3,h4,h5⟩:=ih j z hjn (by omega) hz hp
    exact ⟨k,u,by omega,h2,h3,h4,by simp [xQ,hv,e,h5]⟩
 intro i
 induction i using Nat.strongRecOn with
 | _ i ih =>
  intro y hy j z hj hz hp
  have hil:=e8 hy
  obtain ⟨k,u,h1,h2,h3,h4,h5⟩:=last y.fParent i j z hj (by omega) hz hp
  have hb : ¬ alW l i y:=by
   rcases h.node i y hil hy with ⟨e,_⟩ | ⟨e,_⟩ | ⟨_,_,hb⟩
   ·omega
   ·omega
   ·exact hb
  have hu:sLt u.fName y.fName = true:=by
   cases hs:sLt u.fName y.fName with
   | true=>rfl
   | false=>exact absurd ⟨_,h5,hs⟩ hb
  by_cases e:j = k
  ·subst e; rw [hz] at h3; cases h3; exact hu
  ·exact X4 (ih k h1 u h3 j z (by omega) hz (hp.trans h4.symm)) hu
theorem vq (a:ByteArray):sLt a a = false:=by
 cases h:sLt a a with
 | false=>rfl
 | true=>exact absurd rfl (aqJ h).2
theorem ValF.one {l:List az} (h:ValF l) {i j:Nat} {y z:az} (hy:l[i]? = some y) (hz:l[j]? = some z) (hp:y.fParent = z.fParent) (hn:y.fName = z.fName):i = j:=by
 rcases Nat.lt_trichotomy i j with e | e | e
 ·have:=h.sib j z hz i y e hy hp
  rw [hn,vq] at this; simp at this
 ·exact e
 ·have:=h.sib i y hy j z e hz hp.symm
  rw [hn,vq] at this; simp at this
theorem ValF.inj {l:List az} (h:ValF l) {p:List ByteArray}:∀ {i j:Int},-1≤i→-1≤j→PathN l i p→PathN l j p→i = j:=by
 intro i j hi hj h1
 induction h1 generalizing j with
 | @out i h0 =>
  intro h2
  generalize hp:([]:List ByteArray) = p at h2
  cases h2 with
  | out h=>omega
  | up _ _=>simp at hp
 | @up k y q hy hq ih =>
  intro h2
  generalize hp:q++[y.fName] = p at h2
  cases h2 with
  | out h=>simp at hp
  | @up m z r hz hr =>
   have e:=List.append_inj' hp rfl
   simp only [List.cons.injEq,and_true] at e
   obtain ⟨rfl,e2⟩:=e
   have u1:=h.up k y (e8 hy) hy
   have u2:=h.up m z (e8 hz) hz
   have:=ih (by omega) (by omega) hr
   rw [h.one hy hz this e2]
def jJ:List ByteArray→List ByteArray→Int
 | [],[]=>0
 | [],_ :: _=>-1
 | _ :: _,[]=>1
 | a :: p,b :: q=>if sLt a b = true then -1 else if a = b then jJ p q else 1
theorem C2 (a b:ByteArray) (p q:List ByteArray):jJ (a :: p) (b :: q) = if sLt a b = true then -1 else if a = b then jJ p q else 1:=rfl
theorem CY:∀ p,jJ p p = 0
 | []=>rfl
 | a :: p=>by simp [jJ,vq,CY p]
theorem vJ:∀ {p q:List ByteArray},jJ p q = 0→p = q
 | [],[],_=>rfl
 | [],_ :: _,h=>by simp [jJ] at h
 | _ :: _,[],h=>by simp [jJ] at h
 | a :: p,b :: q,h=>by
  unfold jJ at h
  split at h
  ·omega
  ·split at h
   ·rename_i e; rw [e,vJ h]
   ·omega
theorem agV (a:ByteArray) (r:List ByteArray):∀ p,jJ p (p++a :: r) = -1
 | []=>rfl
 | b :: p=>by simp [jJ,vq,agV a r p]
theorem Z2 {a b:ByteArray} (h:sLt a b = true) (r s:List ByteArray):∀ p,jJ (p++a :: r) (p++b :: s) = -1
 | []=>by simp [jJ,h]
 | c :: p=>by simp [jJ,vq,Z2 h r s p]
theorem PX (p q:List ByteArray) (hp:p.length≤1000000) (hq:q.length≤9000000):dj p q = some (jJ p q):=by
 have:Ok (dj p q) (fun r=>r = jJ p q):=by
  unfold dj
  refine pY (Q:=p3 (fun _=>jJ p q = if p.length < q.length then -1 else if q.length < p.length then 1 else 0) (fun r=>r = jJ p q)) (EW p.length (fun n=>n≤q.length∧jJ p q = jJ (p.drop n) (q.drop n)) (by omega) ⟨by omega,by simp⟩ (fun i hI h2=>?_)) (fun _ hr=>?_) (fun r hr=>a8 hr)
  ·obtain ⟨g1,g2⟩:=hI
   unfold k5
   by_cases k1:i < p.length
   ·by_cases k2:i < q.length
    ·have e1:((i:Int) < (p.length:Int)):=by omega
     have e2:((i:Int) < (q.length:Int)):=by omega
     rw [fJ,fJ,bk k1,bk k2]
     simp only [e1,e2,decide_true,cond_true,ck]
     rw [List.drop_eq_getElem_cons k1,List.drop_eq_getElem_cons k2] at g2
     rw [C2] at g2
     refine gJ (fun h=>dQ ?_) (fun h=>gJ (fun h'=>dQ ?_) (fun h'=>?_))
     ·show (-1:Int) = _
      rw [g2,if_pos h]
     ·show (1:Int) = _
      rw [g2,if_neg (by simp [h]),if_neg (by intro e; simp [e] at h')]
     ·rw [qx (n:=p.length) (by omega) (by omega)]
      refine hJ ⟨by omega,rfl,by omega,?_⟩
      rw [g2,if_neg (by simp [h]),if_pos (by simpa [h] using h')]
    ·have e2 : ¬ ((i:Int) < (q.length:Int)):=by omega
     have e1:((i:Int) < (p.length:Int)):=by omega
     simp only [e1,e2,decide_true,decide_false,cond_true,cond_false,ck]
     refine dQ (show p3 _ _ (.inl ()) from ?_)
     show jJ p q = _
     rw [g2,List.drop_eq_getElem_cons k1,List.drop_eq_nil_of_le (show q.length≤i by omega),if_neg (by omega),if_pos (by omega)]
     rfl
   ·have e1 : ¬ ((i:Int) < (p.length:Int)):=by omega
    simp only [e1,decide_false,cond_false,ck]
    refine dQ (show p3 _ _ (.inl ()) from ?_)
    show jJ p q = _
    rw [g2,List.drop_eq_nil_of_le (show p.length≤i by omega)]
    by_cases k2:i < q.length
    ·rw [List.drop_eq_getElem_cons k2,if_pos (by omega)]
     rfl
    ·rw [List.drop_eq_nil_of_le (show q.length≤i by omega),if_neg (by omega),if_neg (by omega)]
     rfl
  ·have hr:jJ p q = if p.length < q.length then -1 else if q.length < p.length then 1 else 0:=hr
   refine cV (fun h=>a8 ?_) (fun h=>cV (fun h'=>a8 ?_) (fun h'=>a8 ?_))
   ·rw [hr,if_pos (by omega)]
   ·rw [hr,if_neg (by omega),if_pos (by omega)]
   ·rw [hr,if_neg (by omega),if_neg (by omega)]
 obtain ⟨r,h1,h2⟩:=this
 rw [h1,h2]
theorem ValF.selfp {l:List az} (h:ValF l) (k:Nat):0≤n7 l k:=by
 unfold n7
 cases hy:l[k]? with
 | none=>simp
 | some y=>exact (h.good.num k y hy).2.1
theorem Y6 {f:Nat→Int} (hf:∀ k,0≤f k):∀ {n m:Nat},n≤m→dW f n≤dW f m:=by
 intro n m h
 induction m with
 | zero =>
  have:n = 0:=by omega
  subst this; omega
 | succ m ih =>
  rcases Nat.lt_or_ge n (m + 1) with g | g
  ·have:=ih (by omega)
   have:=hf m
   simp only [dW]; omega
  ·have:n = m + 1:=by omega
   subst this; omega
theorem aUx {l:List az} (h:ValF l) (hn:∀ x∈l,okN x.fName):yV l = some (dW (n7 l) l.length):=by
 have hl:=h.len
 have:Ok (yV l) (fun r=>r = dW (n7 l) l.length):=by
  unfold yV
  rw [(h.check hn).1]
  simp only [ck,decide_true,Bool.not_true,cond_false]
  refine bX (Q:=fun e=>e = dW (n7 l) l.length) (Ez l.length (fun (a:Int) n=>a = dW (n7 l) n) (by omega) rfl (fun s i hI h2=>?_)) (fun r hr=>a8 hr)
  unfold D1
  dsimp only
  refine cV (fun hi=>?_) (fun hi=>dQ ?_)
  ·refine bX (w5 (by omega)) (fun y hy=>?_)
   rw [qx (n:=l.length) (by omega) (by omega)]
   have e:s + y.fSelf = dW (n7 l) (i + 1):=by rw [hI]; simp only [dW,rq hy]
   have b1:=Y6 h.selfp (show i + 1≤l.length by omega)
   have b2:=Y6 h.selfp (show 0≤i + 1 by omega)
   have b3:=h.good.self
   simp only [dW] at b2
   rw [e,d7 (by simp only [dW] at b1 b2 ⊢; omega)]
   exact hJ ⟨by omega,rfl,rfl⟩
  ·have:i = l.length:=by omega
   rw [← this]; exact hI
 obtain ⟨r,h1,h2⟩:=this
 rw [h1,h2]
abbrev Ent:=aj
theorem C1:∀ p q:List ByteArray,jJ q p = - jJ p q
 | [],[]=>rfl
 | [],b :: q=>rfl
 | a :: p,[]=>rfl
 | a :: p,b :: q=>by
  rw [C2,C2]
  by_cases h:sLt a b = true
  ·obtain ⟨h1,h2⟩:=aqJ h
   rw [if_pos h,h1,if_neg (by simp),if_neg (Ne.symm h2)]; rfl
  ·rw [if_neg h]
   by_cases e:a = b
   ·subst e
    rw [if_neg h,if_pos rfl,if_pos rfl]; exact C1 p q
   ·have h3:sLt b a = true:=by rw [← M1 a b]; simp [h,e]
    rw [if_pos h3,if_neg e]
theorem C5:∀ p q:List ByteArray,jJ p q = -1∨jJ p q = 0∨jJ p q = 1
 | [],[]=>.inr (.inl rfl)
 | [],b :: q=>.inl rfl
 | a :: p,[]=>.inr (.inr rfl)
 | a :: p,b :: q=>by
  rw [C2]
  split
  ·exact .inl rfl
  ·split
   ·exact C5 p q
   ·exact .inr (.inr rfl)
theorem zZ:∀ {p q r:List ByteArray},jJ p q = -1→jJ q r = -1→jJ p r = -1
 | _,_,[],_,h2=>by
  rename_i p q h1
  cases q with
  | nil=>simp [jJ] at h2
  | cons b q=>simp [jJ] at h2
 | [],_,c :: r,_,_=>rfl
 | a :: p,[],c :: r,h1,_=>by simp [jJ] at h1
 | a :: p,b :: q,c :: r,h1,h2=>by
  rw [C2] at h1 h2 ⊢
  by_cases e1:sLt a b = true
  ·by_cases e2:sLt b c = true
   ·rw [if_pos (X4 e1 e2)]
   ·rw [if_neg e2] at h2
    by_cases e3:b = c
    ·subst e3; rw [if_pos e1]
    ·rw [if_neg e3] at h2; omega
  ·rw [if_neg e1] at h1
   by_cases e3:a = b
   ·subst e3
    rw [if_pos rfl] at h1
    by_cases e2:sLt a c = true
    ·rw [if_pos e2]
    ·rw [if_neg e2] at h2 ⊢
     by_cases e4:a = c
     ·rw [if_pos e4] at h2 ⊢; exact zZ h1 h2
     ·rw [if_neg e4] at h2; omega
   ·rw [if_neg e3] at h1; omega
theorem pX {p:List ByteArray} (h:jJ p p = -1):False:=by rw [CY] at h; omega
def E1 (l:List Ent):Prop:=l.Pairwise fun x y=>jJ x.fPath y.fPath = -1
def mZ:List Ent→Ent→List Ent
 | [],e=>[e]
 | x :: l,e=>if jJ x.fPath e.fPath = 0 then { fPath:=e.fPath,fSelf:=x.fSelf + e.fSelf,fCount:=x.fCount + e.fCount } :: l else if 0 < jJ x.fPath e.fPath then e :: x :: l else x :: mZ l e
theorem H6 (e:Ent):∀ {l:List Ent} {q:List ByteArray},(∃ x∈mZ l e,x.fPath = q)↔(∃ x∈l,x.fPath = q)∨q = e.fPath
 | [],q=>by simp [mZ,eq_comm]
 | x :: l,q=>by
  unfold mZ
  split
  ·rename_i h
   have:=vJ h
   simp only [List.mem_cons]
   constructor
   ·rintro ⟨y,rfl | hy,rfl⟩
    ·exact .inr rfl
    ·exact .inl ⟨y,.inr hy,rfl⟩
   ·rintro (⟨y,rfl | hy,rfl⟩ | rfl)
    ·exact ⟨_,.inl rfl,this.symm⟩
    ·exact ⟨y,.inr hy,rfl⟩
    ·exact ⟨_,.inl rfl,rfl⟩
  ·split
   ·simp only [List.mem_cons]
    constructor
    ·rintro ⟨y,rfl | hy,rfl⟩
     ·exact .inr rfl
     ·exact .inl ⟨y,hy,rfl⟩
    ·rintro (⟨y,hy,rfl⟩ | rfl)
     ·exact ⟨y,.inr hy,rfl⟩
     ·exact ⟨e,.inl rfl,rfl⟩
   ·have ih:=H6 e (l:=l) (q:=q)
    simp only [List.mem_cons]
    constructor
    ·rintro ⟨y,rfl | hy,rfl⟩
     ·exact .inl ⟨y,.inl rfl,rfl⟩
     ·rcases ih.1 ⟨y,hy,rfl⟩ with ⟨z,hz,h⟩ | h
      ·exact .inl ⟨z,.inr hz,h⟩
      ·exact .inr h
    ·rintro (⟨y,rfl | hy,rfl⟩ | h)
     ·exact ⟨y,.inl rfl,rfl⟩
     ·obtain ⟨z,hz,h⟩:=ih.2 (.inl ⟨y,hy,rfl⟩)
      exact ⟨z,.inr hz,h⟩
     ·obtain ⟨z,hz,h⟩:=ih.2 (.inr h)
      exact ⟨z,.inr hz,h⟩
theorem Zq {e:Ent}:∀ {l:List Ent},E1 l→E1 (mZ l e)
 | [],_=>List.pairwise_singleton _ _
 | x :: l,h=>by
  unfold E1 at h
  rw [List.pairwise_cons] at h
  obtain ⟨h1,h2⟩:=h
  unfold mZ
  split
  ·rename_i h0
   have:=vJ h0
   refine List.pairwise_cons.2 ⟨fun y hy=>?_,h2⟩
   rw [← show x.fPath = e.fPath from this]; exact h1 y hy
  ·rename_i h0
   split
   ·rename_i hp
    have hl:jJ e.fPath x.fPath = -1:=by
     rw [C1 x.fPath e.fPath]
     rcases C5 x.fPath e.fPath with h | h | h <;> omega
    refine List.pairwise_cons.2 ⟨fun y hy=>?_,List.pairwise_cons.2 ⟨h1,h2⟩⟩
    rcases List.mem_cons.1 hy with rfl | hy
    ·exact hl
    ·exact zZ hl (h1 y hy)
   ·rename_i hp
    have hl:jJ x.fPath e.fPath = -1:=by
     rcases C5 x.fPath e.fPath with h | h | h <;> omega
    refine List.pairwise_cons.2 ⟨fun y hy=>?_,Zq h2⟩
    rcases (H6 e (l := l) (q := y.fPath)).1 ⟨y,hy,rfl⟩ with ⟨z,hz,h⟩ | h
    ·rw [← h]; exact h1 z hz
    ·rw [h]; exact hl
theorem XY {e:Ent}:∀ {l:List Ent},E1 l→∀ x∈mZ l e,(x∈l∧x.fPath ≠ e.fPath)∨(x.fPath = e.fPath∧((∃ y∈l,y.fPath = e.fPath∧x.fSelf = y.fSelf + e.fSelf∧x.fCount = y.fCount + e.fCount)∨((∀ y∈l,y.fPath ≠ e.fPath)∧x = e)))
 | [],_,x,hx=>by
  rw [show mZ [] e = [e] from rfl,dk] at hx
  exact .inr ⟨by rw [hx],.inr ⟨fun y hy=>by simp at hy,hx⟩⟩
 | y :: l,h,x,hx=>by
  unfold E1 at h
  rw [List.pairwise_cons] at h
  obtain ⟨h1,h2⟩:=h
  unfold mZ at hx
  split at hx
  ·rename_i h0
   have h0:=vJ h0
   rcases List.mem_cons.1 hx with rfl | hx
   ·exact .inr ⟨rfl,.inl ⟨y,mw,h0,rfl,rfl⟩⟩
   ·refine .inl ⟨ik _ hx,fun e1=>?_⟩
    have:=h1 x hx
    rw [e1,h0] at this
    exact pX this
  ·rename_i h0
   split at hx
   ·rename_i hp
    have hl:jJ e.fPath y.fPath = -1:=by
     rw [C1 y.fPath e.fPath]
     rcases C5 y.fPath e.fPath with h | h | h <;> omega
    have hne:∀ z∈y :: l,z.fPath ≠ e.fPath:=by
     intro z hz e1
     rcases List.mem_cons.1 hz with rfl | hz
     ·rw [e1] at hl; exact pX hl
     ·have:=zZ hl (h1 z hz)
      rw [e1] at this; exact pX this
    rcases List.mem_cons.1 hx with rfl | hx
    ·exact .inr ⟨rfl,.inr ⟨hne,rfl⟩⟩
    ·exact .inl ⟨hx,hne x hx⟩
   ·rename_i hp
    have hye:y.fPath ≠ e.fPath:=fun e1=>h0 (by rw [e1]; exact CY _)
    rcases List.mem_cons.1 hx with rfl | hx
    ·exact .inl ⟨mw,hye⟩
    ·rcases XY h2 x hx with ⟨g1,g2⟩ | ⟨g1,⟨z,hz,g2⟩ | ⟨g2,g3⟩⟩
     ·exact .inl ⟨ik _ g1,g2⟩
     ·exact .inr ⟨g1,.inl ⟨z,ik _ hz,g2⟩⟩
     ·refine .inr ⟨g1,.inr ⟨fun z hz=>?_,g3⟩⟩
      rcases List.mem_cons.1 hz with rfl | hz
      ·exact hye
      ·exact g2 z hz
structure InvE (l:List Ent) (K:List ByteArray→Prop) (S C:List ByteArray→Int):Prop where
 srt:E1 l
 key:∀ q,(∃ x∈l,x.fPath = q)↔K q
 val:∀ x∈l,x.fSelf = S x.fPath∧x.fCount = C x.fPath
 zero:∀ q,¬ K q→S q = 0∧C q = 0
theorem InvE.put {l:List Ent} {K:List ByteArray→Prop} {S C:List ByteArray→Int} (h:InvE l K S C) (e:Ent):InvE (mZ l e) (fun q=>K q∨q = e.fPath) (fun q=>S q + if q = e.fPath then e.fSelf else 0) (fun q=>C q + if q = e.fPath then e.fCount else 0):=by
 refine ⟨Zq h.srt,fun q=>by rw [H6,h.key],fun x hx=>?_,fun q hq=>?_⟩
 ·rcases XY h.srt x hx with ⟨g1,g2⟩ | ⟨g1,⟨z,hz,g2,g3,g4⟩ | ⟨g2,rfl⟩⟩
  ·obtain ⟨v1,v2⟩:=h.val x g1
   rw [if_neg g2,if_neg g2]; omega
  ·obtain ⟨v1,v2⟩:=h.val z hz
   rw [if_pos g1,if_pos g1,g1,← g2,g3,g4]; omega
  ·obtain ⟨z1,z2⟩:=h.zero x.fPath fun hk=>by
    obtain ⟨y,hy,e⟩:=(h.key _).2 hk
    exact g2 y hy e
   rw [if_pos rfl,if_pos rfl]; omega
 ·have hq1 : ¬ K q:=fun h=>hq (.inl h)
  have hq2 : ¬ q = e.fPath:=fun h=>hq (.inr h)
  obtain ⟨z1,z2⟩:=h.zero q hq1
  simp only [if_neg hq2]; omega
theorem InvE.uniq:∀ {l l':List Ent} {K:List ByteArray→Prop} {S C:List ByteArray→Int},InvE l K S C→InvE l' K S C→l = l':=by
 have key:∀ {l l':List Ent},E1 l→E1 l'→(∀ q,(∃ x∈l,x.fPath = q)↔∃ x∈l',x.fPath = q)→l.map (·.fPath) = l'.map (·.fPath):=by
  intro l
  induction l with
  | nil =>
   intro l' _ _ h
   cases l' with
   | nil=>rfl
   | cons y l'=>obtain ⟨x,hx,_⟩:=(h y.fPath).2 ⟨y,mw,rfl⟩; simp at hx
  | cons x l ih =>
   intro l' h1 h2 h
   cases l' with
   | nil=>obtain ⟨y,hy,_⟩:=(h x.fPath).1 ⟨x,mw,rfl⟩; simp at hy
   | cons y l' =>
    unfold E1 at h1 h2
    rw [List.pairwise_cons] at h1 h2
    have hxy:x.fPath = y.fPath:=by
     obtain ⟨z,hz,e⟩:=(h x.fPath).1 ⟨x,mw,rfl⟩
     obtain ⟨u,hu,e'⟩:=(h y.fPath).2 ⟨y,mw,rfl⟩
     rcases List.mem_cons.1 hz with rfl | hz
     ·exact e.symm
     ·rcases List.mem_cons.1 hu with rfl | hu
      ·exact e'
      ·have g1:=h2.1 z hz
       have g2:=h1.1 u hu
       rw [e] at g1; rw [e'] at g2
       exact (pX (zZ g1 g2)).elim
    rw [lw,lw,hxy,ih h1.2 h2.2 fun q=>?_]
    constructor
    ·rintro ⟨z,hz,e⟩
     obtain ⟨u,hu,e'⟩:=(h q).1 ⟨z,ik _ hz,e⟩
     rcases List.mem_cons.1 hu with rfl | hu
     ·have g:=h1.1 z hz
      rw [e,← e',← hxy] at g
      exact (pX g).elim
     ·exact ⟨u,hu,e'⟩
    ·rintro ⟨z,hz,e⟩
     obtain ⟨u,hu,e'⟩:=(h q).2 ⟨z,ik _ hz,e⟩
     rcases List.mem_cons.1 hu with rfl | hu
     ·have g:=h2.1 z hz
      rw [e,← e',hxy] at g
      exact (pX g).elim
     ·exact ⟨u,hu,e'⟩
 intro l l' K S C h h'
 have hp:=key h.srt h'.srt fun q=>(h.key q).trans (h'.key q).symm
 apply List.ext_getElem?
 intro j
 have hj:=congrArg (fun m=>m[j]?) hp
 simp only [ow] at hj
 cases hx:l[j]? with
 | none=>rw [hx] at hj; cases hy:l'[j]? with
  | none=>rfl
  | some y=>rw [hy] at hj; simp at hj
 | some x=>rw [hx] at hj; cases hy:l'[j]? with
  | none=>rw [hy] at hj; simp at hj
  | some y =>
   rw [hy] at hj
   simp only [kw,cw] at hj
   obtain ⟨a1,a2⟩:=h.val x (fw hx)
   obtain ⟨b1,b2⟩:=h'.val y (fw hy)
   cases x with | mk xp xs xc => cases y with | mk yp ys yc =>
   simp only at hj a1 a2 b1 b2
   subst hj
   rw [a1,a2,b1,b2]
def aQV (e:Ent):Prop:=0≤e.fSelf∧e.fSelf≤4000000000000000000∧0≤e.fCount∧e.fCount≤4000000000000000000∧e.fPath.length≤1000000
theorem afj {p q:List ByteArray} (h:jJ q p = -1):jJ p q = 1:=by rw [C1 q p]; omega
theorem aOQ {l:List Ent} {e:Ent} (hs:E1 l) (hl:l.length≤100000) (hn:∀ x∈l,aQV x) (he:aQV e):fY l e = some (mZ l e):=by
 have:Ok (fY l e) (fun r=>r = mZ l e):=by
  unfold fY
  refine bX (Q:=fun r:List Ent × Bool=>((r.2 = false∧r.1.length≤l.length∧mZ l e = r.1++[e])∨(r.2 = true∧mZ l e = r.1))) (rj (fun s:List Ent × Bool × Int=>∃ n:Nat,s.2.2 = (n:Int)∧n≤l.length∧((s.2.1 = false∧s.1.length≤n∧mZ l e = s.1++mZ (l.drop n) e)∨(s.2.1 = true∧s.1.length≤n + 1∧mZ l e = s.1++l.drop n∧∀ x∈l.drop n,jJ x.fPath e.fPath = 1))) (fun s=>((l.length:Int) - s.2.2).toNat) (fun s hs'=>?_) ⟨0,rfl,Nat.zero_le _,.inl ⟨rfl,by simp,by simp⟩⟩ (by simp [fK]; omega)) (fun r hr=>?_)
  ·obtain ⟨acc,dn,i⟩:=s
   obtain ⟨n,h1,h2,h4⟩:=hs'
   simp only at h1 h4
   subst h1
   unfold oK
   dsimp only
   refine cV (fun hi=>?_) (fun hi=>dQ ?_)
   ·have hil:n < l.length:=by omega
    obtain ⟨y,hy⟩ : ∃ y,l[n]? = some y:=⟨l[n]'hil,bk hil⟩
    have hym:=fw hy
    obtain ⟨n1,n2,n3,n4,n5⟩:=hn y hym
    obtain ⟨e1,e2,e3,e4,e5⟩:=he
    have hdrop:l.drop n = y :: l.drop (n + 1):=by
     rw [List.drop_eq_getElem_cons hil]
     rw [bk hil] at hy
     cases hy; rfl
    have hlater:∀ x∈l.drop (n + 1),jJ y.fPath x.fPath = -1:=by
     have:=List.Pairwise.sublist (List.drop_sublist n l) hs
     rw [hdrop,List.pairwise_cons] at this
     exact this.1
    rw [hdrop] at h4
    rw [fJ,hy]
    simp only [ck]
    rw [PX _ _ n5 (by omega)]
    simp only [ck]
    refine bX (Q:=fun r:List Ent × Bool=>((r.2 = false∧r.1.length≤n + 1∧mZ l e = r.1++mZ (l.drop (n + 1)) e)∨(r.2 = true∧r.1.length≤n + 1 + 1∧mZ l e = r.1++l.drop (n + 1)∧∀ x∈l.drop (n + 1),jJ x.fPath e.fPath = 1))) ?_ (fun r hr=>?_)
    ·refine cV (fun hc=>?_) (fun hc=>?_)
     ·have hp:=vJ hc
      rcases h4 with ⟨rfl,h3,h4⟩ | ⟨rfl,h3,h4,h5⟩
      ·rw [d7 (by omega),d7 (by omega),BZ (by simp; omega) (by simp; omega)]
       simp only [cond_true]
       refine a8 (.inr ⟨rfl,by simp; omega,?_,fun x hx=>?_⟩)
       ·rw [h4]
        simp only [mZ,if_pos hc,List.append_assoc,List.singleton_append]
       ·have:=hlater x hx
        rw [hp] at this
        exact afj this
      ·have:=h5 y mw
       omega
     ·rcases h4 with ⟨rfl,h3,h4⟩ | ⟨rfl,h3,h4,h5⟩
      ·refine bX (Q:=fun v=>v = decide (0 < jJ y.fPath e.fPath)) (cV (fun h=>a8 (by simp [h])) (fun h=>a8 (by simp [h]))) (fun v hv=>?_)
       subst hv
       by_cases hp:0 < jJ y.fPath e.fPath
       ·have hl1:jJ e.fPath y.fPath = -1:=by
         rw [C1 y.fPath e.fPath]
         rcases C5 y.fPath e.fPath with h | h | h <;> omega
        simp only [hp,decide_true,cond_true]
        rw [BZ (by simp; omega) (by simp; omega)]
        simp only [cond_true,ck]
        rw [BZ (by simp; omega) (by simp; omega)]
        simp only [cond_true]
        refine a8 (.inr ⟨rfl,by simp; omega,?_,fun x hx=>afj (zZ hl1 (hlater x hx))⟩)
        rw [h4]
        simp only [mZ,if_neg hc,if_pos hp,List.append_assoc,List.singleton_append]
        rfl
       ·simp only [hp,decide_false,cond_false,ck]
        rw [BZ (by simp; omega) (by simp; omega)]
        simp only [cond_true]
        refine a8 (.inl ⟨rfl,by simp; omega,?_⟩)
        rw [h4]
        simp only [mZ,if_neg hc,if_neg hp,List.append_assoc,List.singleton_append]
      ·refine bX (Q:=fun v=>v = false) (cV (fun h=>a8 rfl) (fun h=>a8 rfl)) (fun v hv=>?_)
       subst hv
       simp only [cond_false,ck]
       rw [BZ (by simp; omega) (by simp; omega)]
       simp only [cond_true]
       refine a8 (.inr ⟨rfl,by simp; omega,?_,fun x hx=>h5 x (ik _ hx)⟩)
       rw [h4,List.append_assoc,List.singleton_append]
    ·obtain ⟨a,b⟩:=r
     dsimp only
     rw [qx (n:=l.length) hil (by omega)]
     exact hJ ⟨⟨n + 1,rfl,by omega,hr⟩,by simp only; omega⟩
   ·have hnl:n = l.length:=by omega
    subst hnl
    rw [List.drop_length] at h4
    rcases h4 with ⟨h5,h3,h4⟩ | ⟨h5,_,h4,_⟩
    ·exact .inl ⟨h5,h3,h4⟩
    ·exact .inr ⟨h5,by rw [h4]; simp⟩
  ·obtain ⟨a,b⟩:=r
   rcases hr with ⟨g1,g0,g2⟩ | ⟨g1,g2⟩ <;> simp only at g1 g2 <;> subst g1
   ·simp only at g0
    dsimp only
    simp only [Bool.not_false,cond_true]
    rw [BZ (by simp; omega) (by simp; omega)]
    exact a8 g2.symm
   ·dsimp only
    exact a8 g2.symm
 obtain ⟨r,h1,h2⟩:=this
 rw [h1,h2]
theorem InvE.congr {l:List Ent} {K K':List ByteArray→Prop} {S C S' C':List ByteArray→Int} (h:InvE l K S C) (hk:∀ q,K q↔K' q) (hs:∀ q,S q = S' q) (hc:∀ q,C q = C' q):InvE l K' S' C':=by
 refine ⟨h.srt,fun q=>(h.key q).trans (hk q),fun x hx=>?_,fun q hq=>?_⟩
 ·rw [← hs,← hc]; exact h.val x hx
 ·rw [← hs,← hc]; exact h.zero q fun h=>hq ((hk q).1 h)
def G1 (E:List Ent) (q:List ByteArray):Prop:=q ≠ []∧∃ e∈E,q <+: e.fPath
def kW (E:List Ent) (q:List ByteArray):Int:=(E.map fun e=>if q = e.fPath then e.fSelf else 0).sum
def q0 (E:List Ent) (q:List ByteArray):Int:=(E.map fun e=>if q = e.fPath then e.fCount else 0).sum
def szE (E:List Ent):Nat:=(E.map fun e=>e.fPath.length + 1).sum
structure BdE (E:List Ent):Prop where
 num:∀ e∈E,0≤e.fSelf∧0≤e.fCount∧e.fPath ≠ []
 sz:szE E≤100000
 self:(E.map (·.fSelf)).sum≤4000000000000000000
 cnt:(E.map (·.fCount)).sum≤4000000000000000000
theorem u9 {α:Type} (f:α→Int) (p:α→Prop) [DecidablePred p]:∀ l:List α,(∀ x∈l,0≤f x)→0≤(l.map fun x=>if p x then f x else 0).sum∧(l.map fun x=>if p x then f x else 0).sum≤(l.map f).sum
 | [],_=>⟨Int.le_refl _,Int.le_refl _⟩
 | x :: l,h=>by
  obtain ⟨h1,h2⟩:=u9 f p l fun y hy=>h y (ik _ hy)
  have h3:=h x mw
  simp only [lw,List.sum_cons]
  split <;> omega
theorem wz {α:Type} (f:α→Int):∀ (l:List α) (i:Nat),(∀ x∈l,0≤f x)→((l.take i).map f).sum≤(l.map f).sum
 | [],i,_=>by simp
 | x :: l,0,h=>by
  have h1:=h x mw
  have h2:=wz f l 0 fun y hy=>h y (ik _ hy)
  simp only [List.take_zero,List.map_nil,List.sum_nil,lw,List.sum_cons] at h2 ⊢
  omega
 | x :: l,i + 1,h=>by
  have h2:=wz f l i fun y hy=>h y (ik _ hy)
  simp only [List.take_succ_cons,lw,List.sum_cons]
  omega
theorem Q7 {α:Type} (f:α→Int) {l:List α} {x:α} (h:∀ y∈l,0≤f y) (hx:x∈l):f x≤(l.map f).sum:=by
 induction l with
 | nil=>simp at hx
 | cons a l ih =>
  simp only [lw,List.sum_cons]
  have h0:0≤(l.map f).sum:=by
   have:=wz f l 0 fun y hy=>h y (ik _ hy)
   simpa using this
  rcases List.mem_cons.1 hx with rfl | hx
  ·omega
  ·have:=ih (fun y hy=>h y (ik _ hy)) hx
   have:=h a mw
   omega
theorem abY:∀ {E:List Ent} {e:Ent},e∈E→e.fPath.length + 1≤szE E
 | [],_,h=>by simp at h
 | a :: E,e,h=>by
  unfold szE
  simp only [lw,List.sum_cons]
  rcases List.mem_cons.1 h with rfl | h
  ·omega
  ·have:=abY h; unfold szE at this; omega
theorem aAW (E:List Ent) (i:Nat):szE (E.take i)≤szE E:=by
 induction E generalizing i with
 | nil=>simp
 | cons a E ih =>
  cases i with
  | zero=>unfold szE; simp
  | succ i =>
   have:=ih i
   unfold szE at this ⊢
   simp only [List.take_succ_cons,lw,List.sum_cons]; omega
theorem BdE.one {E:List Ent} (h:BdE E) {e:Ent} (he:e∈E):aQV e:=by
 have h1:=h.num e he
 have h2:=Q7 (·.fSelf) (fun y hy=>(h.num y hy).1) he
 have h3:=Q7 (·.fCount) (fun y hy=>(h.num y hy).2.1) he
 have h4:=abY he
 have:=h.sz; have:=h.self; have:=h.cnt
 exact ⟨h1.1,by omega,h1.2.1,by omega,by omega⟩
theorem BdE.bd {E:List Ent} (h:BdE E) (i:Nat) (q:List ByteArray):0≤kW (E.take i) q∧kW (E.take i) q≤4000000000000000000∧0≤q0 (E.take i) q∧q0 (E.take i) q≤4000000000000000000:=by
 have hm:∀ x∈E.take i,x∈E:=fun x hx=>List.mem_of_mem_take hx
 have h1:=u9 (fun e:Ent=>e.fSelf) (fun e=>q = e.fPath) (E.take i) fun x hx=>(h.num x (hm x hx)).1
 have h2:=u9 (fun e:Ent=>e.fCount) (fun e=>q = e.fPath) (E.take i) fun x hx=>(h.num x (hm x hx)).2.1
 have h3:=wz (·.fSelf) E i fun x hx=>(h.num x hx).1
 have h4:=wz (·.fCount) E i fun x hx=>(h.num x hx).2.1
 have:=h.self; have:=h.cnt
 unfold kW q0
 omega
theorem PQ (e:Ent):∀ l:List Ent,(mZ l e).length≤l.length + 1
 | []=>by simp [mZ]
 | x :: l=>by
  have:=PQ e l
  unfold mZ
  split
  ·simp
  ·split
   ·simp
   ·simp only [List.length_cons]; omega
theorem TJ {l:List ByteArray} {n:Nat} (h:n≤l.length):EX l 0 (n:Int) = some (l.take n):=by
 unfold EX
 rw [if_pos ⟨by omega,by omega,by omega⟩]
 simp
theorem aDK {p q:List ByteArray}:(q ≠ []∧q <+: p)↔∃ m,1≤m∧m≤p.length∧q = p.take m:=by
 constructor
 ·rintro ⟨h1,h2⟩
  refine ⟨q.length,?_,h2.length_le,(List.prefix_iff_eq_take.1 h2)⟩
  have:=List.length_pos_iff.2 h1; omega
 ·rintro ⟨m,h1,h2,rfl⟩
  refine ⟨?_,List.take_prefix m p⟩
  intro h
  have:=congrArg List.length h
  simp only [List.length_take,List.length_nil] at this
  omega
theorem aSY {E:List Ent} (hE:BdE E) {i:Nat} {e:Ent} (he:E[i]? = some e) {l:List Ent} {K:List ByteArray→Prop} {S C:List ByteArray→Int} (hI:InvE l K S C) (hK:∀ q,K q→q.length≤1000000) (hb:∀ q,0≤S q∧S q≤4000000000000000000∧0≤C q∧C q≤4000000000000000000) (hl:l.length + e.fPath.length + 1≤100000) :
  Ok (loop (k6 E (i:Int)) (l,1)) (fun r=>InvE r (fun q=>K q∨(q ≠ []∧q <+: e.fPath)) S C∧r.length≤l.length + e.fPath.length):=by
 have hem:=fw he
 have hpl:e.fPath.length≤1000000:=(hE.one hem).2.2.2.2
 refine rj (fun s:List Ent × Int=>∃ n:Nat,s.2 = (n:Int)∧1≤n∧n≤e.fPath.length + 1∧s.1.length + 1≤l.length + n∧InvE s.1 (fun q=>K q∨∃ m,1≤m∧m < n∧q = e.fPath.take m) S C) (fun s=>((e.fPath.length:Int) + 1 - s.2).toNat) (fun s hs=>?_) ⟨1,rfl,gw _,by omega,by simp,hI.congr (fun q=>⟨.inl,fun h=>h.elim id fun ⟨m,h1,h2,_⟩=>by omega⟩) (fun _=>rfl) (fun _=>rfl)⟩ (by simp [fK]; omega)
 obtain ⟨a,c⟩:=s
 obtain ⟨n,h1,h2,h3,h4,h5⟩:=hs
 simp only at h1 h4 h5
 subst h1
 unfold k6
 dsimp only
 rw [fJ,he]
 simp only [ck]
 refine cV (fun hi=>?_) (fun hi=>dQ ⟨?_,by omega⟩)
 ·have hnl:n≤e.fPath.length:=by omega
  rw [TJ hnl]
  simp only [ck]
  rw [aOQ h5.srt (by omega) (fun x hx=>?_) ⟨by simp,by simp,by simp,by simp,by simp only [List.length_take]; omega⟩]
  ·simp only [ck]
   rw [qx (n:=10000000) (by omega) (by omega)]
   refine hJ ⟨⟨n + 1,rfl,by omega,by omega,?_,?_⟩,by simp only; omega⟩
   ·have:=PQ ({ fPath:=e.fPath.take n,fSelf:=0,fCount:=0 }:Ent) a
    simp only; omega
   ·refine (h5.put _).congr (fun q=>?_) (fun q=>by simp) (fun q=>by simp)
    constructor
    ·rintro ((h | ⟨m,g1,g2,g3⟩) | h)
     ·exact .inl h
     ·exact .inr ⟨m,g1,by omega,g3⟩
     ·exact .inr ⟨n,h2,by omega,h⟩
    ·rintro (h | ⟨m,g1,g2,g3⟩)
     ·exact .inl (.inl h)
     ·by_cases e1:m = n
      ·subst e1; exact .inr g3
      ·exact .inl (.inr ⟨m,g1,by omega,g3⟩)
  ·obtain ⟨v1,v2⟩:=h5.val x hx
   obtain ⟨b1,b2,b3,b4⟩:=hb x.fPath
   refine ⟨by omega,by omega,by omega,by omega,?_⟩
   rcases (h5.key x.fPath).1 ⟨x,hx,rfl⟩ with h | ⟨m,_,_,h⟩
   ·exact hK _ h
   ·rw [h,List.length_take]; omega
 ·refine h5.congr (fun q=>?_) (fun _=>rfl) (fun _=>rfl)
  rw [aDK]
  constructor
  ·rintro (h | ⟨m,g1,g2,g3⟩)
   ·exact .inl h
   ·exact .inr ⟨m,g1,by omega,g3⟩
  ·rintro (h | ⟨m,g1,g2,g3⟩)
   ·exact .inl h
   ·exact .inr ⟨m,g1,by omega,g3⟩
theorem yZ {α:Type} {l:List α} {i:Nat} {x:α} (h:l[i]? = some x):l.take (i + 1) = l.take i++[x]:=by
 rw [List.take_add_one,h]; rfl
theorem aUJ {E:List Ent} (hE:BdE E):Ok (loop (lq E) ([],0)) (fun r=>InvE r (G1 E) (kW E) (q0 E)∧r.length≤100000):=by
 have hEl:E.length≤100000:=by
  have:∀ E:List Ent,E.length≤szE E:=by
   intro E
   induction E with
   | nil=>simp
   | cons a E ih=>unfold szE at ih ⊢; simp only [lw,List.sum_cons,List.length_cons]; omega
  exact Nat.le_trans (this E) hE.sz
 refine Ez E.length (fun (l:List Ent) n=>InvE l (G1 (E.take n)) (kW (E.take n)) (q0 (E.take n))∧l.length≤szE (E.take n)) (by omega) ⟨⟨List.Pairwise.nil,fun q=>?_,fun x hx=>by simp at hx,fun q _=>⟨rfl,rfl⟩⟩,by simp⟩ (fun l i hI h2=>?_)
 ·constructor
  ·rintro ⟨x,hx,_⟩; simp at hx
  ·rintro ⟨_,e,he,_⟩; simp at he
 ·obtain ⟨hI,hl⟩:=hI
  unfold lq
  dsimp only
  refine cV (fun hi=>?_) (fun hi=>dQ ?_)
  ·have hil:i < E.length:=by omega
   obtain ⟨e,he⟩ : ∃ e,E[i]? = some e:=⟨E[i]'hil,bk hil⟩
   have hem:=fw he
   have hsn:=yZ he
   have hsz:szE (E.take (i + 1)) = szE (E.take i) + (e.fPath.length + 1):=by
    rw [hsn]; unfold szE; rw [List.map_append,List.sum_append]; simp
   have hst:=aAW E (i + 1)
   have hsz0:=hE.sz
   have hb:=hE.bd i
   have hK:∀ q,G1 (E.take i) q→q.length≤1000000:=fun q ⟨_,x,hx,hp⟩=>by
    have h1:=abY (List.mem_of_mem_take hx)
    have h2:=hp.length_le
    omega
   refine bX (aSY hE he hI hK hb (by omega)) (fun r hr=>?_)
   obtain ⟨hr1,hr2⟩:=hr
   rw [fJ,he]
   simp only [ck]
   rw [aOQ hr1.srt (by omega) (fun x hx=>?_) (hE.one hem)]
   ·simp only [ck]
    rw [qx (n:=E.length) hil (by omega)]
    have hpl:=PQ e r
    refine hJ ⟨hil,rfl,?_,by show (mZ r e).length≤_; omega⟩
    refine (hr1.put e).congr (fun q=>?_) (fun q=>?_) (fun q=>?_)
    ·rw [hsn]
     unfold G1
     constructor
     ·rintro ((⟨h1,x,hx,h2⟩ | ⟨h1,h2⟩) | rfl)
      ·exact ⟨h1,x,List.mem_append_left _ hx,h2⟩
      ·exact ⟨h1,e,List.mem_append_right _ (by simp),h2⟩
      ·exact ⟨(hE.num e hem).2.2,e,List.mem_append_right _ (by simp),List.prefix_refl _⟩
     ·rintro ⟨h1,x,hx,h2⟩
      rcases qw.1 hx with hx | hx
      ·exact .inl (.inl ⟨h1,x,hx,h2⟩)
      ·rw [dk.1 hx] at h2
       exact .inl (.inr ⟨h1,h2⟩)
    ·rw [hsn]; unfold kW; rw [List.map_append,List.sum_append]; simp
    ·rw [hsn]; unfold q0; rw [List.map_append,List.sum_append]; simp
   ·obtain ⟨v1,v2⟩:=hr1.val x hx
    obtain ⟨b1,b2,b3,b4⟩:=hb x.fPath
    refine ⟨by omega,by omega,by omega,by omega,?_⟩
    rcases (hr1.key x.fPath).1 ⟨x,hx,rfl⟩ with h | ⟨_,h⟩
    ·exact hK _ h
    ·have:=h.length_le
     have:=(hE.one hem).2.2.2.2
     omega
  ·have hil:i = E.length:=by omega
   subst hil
   rw [List.take_length] at hI hl
   exact ⟨hI,Nat.le_trans hl hE.sz⟩
def Qx (all:List Ent) (q:List ByteArray):Int:=(all.map fun x=>if q <+: x.fPath then x.fSelf else 0).sum
def aPQ (all:List Ent) (p:List ByteArray) (x:Int):Prop:=(p = []∧x = -1)∨(p ≠ []∧∃ (k:Nat) (z:Ent),all[k]? = some z∧z.fPath = p∧x = (k:Int))
structure NodesE (all:List Ent) (l:List az):Prop where
 len:l.length = all.length
 nod:∀ (j:Nat) x y,all[j]? = some x→l[j]? = some y→∃ p,x.fPath = p++[y.fName]∧y.fSelf = x.fSelf∧y.fCount = x.fCount∧y.fTotal = Qx all x.fPath∧aPQ all p y.fParent
theorem aKV {all:List Ent} (h:E1 all) {j k:Nat} {x y:Ent} (hx:all[j]? = some x) (hy:all[k]? = some y) (e:x.fPath = y.fPath):j = k:=by
 have key:∀ {j k:Nat} {x y:Ent},j < k→all[j]? = some x→all[k]? = some y→jJ x.fPath y.fPath = -1:=by
  intro j k x y hjk hx hy
  obtain ⟨h1,rfl⟩:=bw.1 hx
  obtain ⟨h2,rfl⟩:=bw.1 hy
  exact List.pairwise_iff_getElem.1 h j k h1 h2 hjk
 rcases Nat.lt_trichotomy j k with h1 | h1 | h1
 ·have:=key h1 hx hy; rw [e] at this; exact (pX this).elim
 ·exact h1
 ·have:=key h1 hy hx; rw [e] at this; exact (pX this).elim
theorem NodesE.uniq {all:List Ent} (hs:E1 all) {l l':List az} (h:NodesE all l) (h':NodesE all l'):l = l':=by
 apply List.ext_getElem?
 intro j
 by_cases hj:j < all.length
 ·obtain ⟨x,hx⟩ : ∃ x,all[j]? = some x:=⟨all[j]'hj,bk hj⟩
  obtain ⟨y,hy⟩ : ∃ y,l[j]? = some y:=⟨l[j]'(by rw [h.len]; exact hj),bk _⟩
  obtain ⟨z,hz⟩ : ∃ y,l'[j]? = some y:=⟨l'[j]'(by rw [h'.len]; exact hj),bk _⟩
  obtain ⟨p,a1,a2,a3,a4,a5⟩:=h.nod j x y hx hy
  obtain ⟨q,b1,b2,b3,b4,b5⟩:=h'.nod j x z hx hz
  have e:=a1.symm.trans b1
  have e2:=List.append_inj' e rfl
  simp only [List.cons.injEq,and_true] at e2
  obtain ⟨rfl,e3⟩:=e2
  have e4:y.fParent = z.fParent:=by
   rcases a5 with ⟨_,g1⟩ | ⟨g0,k,u,g1,g2,g3⟩ <;> rcases b5 with ⟨_,k1⟩ | ⟨k0,m,v,k1,k2,k3⟩
   ·rw [g1,k1]
   ·exact absurd ‹_› k0
   ·exact absurd ‹_› g0
   ·rw [g3,k3,aKV hs g1 k1 (g2.trans k2.symm)]
  rw [hy,hz]
  cases y with | mk y1 y2 y3 y4 y5 => cases z with | mk z1 z2 z3 z4 z5 =>
  simp only at a2 a3 a4 b2 b3 b4 e3 e4
  rw [e3,e4,a2,a3,a4,b2,b3,b4]
 ·rw [List.getElem?_eq_none (by rw [h.len]; omega),List.getElem?_eq_none (by rw [h'.len]; omega)]
theorem aDq {p q:List ByteArray} (hp:p.length≤1000000) (hq:q.length≤1000000):gW p q = some (decide (q <+: p)):=by
 unfold gW
 by_cases h:(q.length:Int)≤(p.length:Int)
 ·simp only [h,decide_true,cond_true]
  rw [TJ (by omega)]
  simp only [ck]
  rw [PX _ _ (by rw [List.length_take]; omega) (by omega)]
  simp only [ck]
  congr 1
  rw [decide_eq_decide]
  constructor
  ·intro h1
   have:=vJ h1
   rw [← this]; exact List.take_prefix _ _
  ·intro h1
   rw [← List.prefix_iff_eq_take.1 h1]
   exact CY _
 ·have : ¬ q <+: p:=fun h1=>h (by have:=h1.length_le; omega)
  simp only [h,decide_false,cond_false,ck,this]
structure SmallE (all:List Ent):Prop where
 len:all.length≤5000
 num:∀ x∈all,0≤x.fSelf∧x.fSelf≤1000000000000000∧x.fPath.length≤1000000∧x.fPath ≠ []
theorem TW {α:Type} (f:α→Int) (B:Int) (hB:0≤B):∀ l:List α,(∀ x∈l,0≤f x∧f x≤B)→0≤(l.map f).sum∧(l.map f).sum≤l.length * B
 | [],_=>by simp
 | x :: l,h=>by
  obtain ⟨h1,h2⟩:=TW f B hB l fun y hy=>h y (ik _ hy)
  have h3:=h x mw
  simp only [lw,List.sum_cons,List.length_cons]
  have:((l.length + 1:Nat):Int) * B = l.length * B + B:=by
   rw [show ((l.length + 1:Nat):Int) = (l.length:Int) + 1 by omega,Int.add_mul,Int.one_mul]
  rw [this]; omega
theorem SmallE.bd {all:List Ent} (h:SmallE all) (q:List ByteArray) (n:Nat):0≤Qx (all.take n) q∧Qx (all.take n) q≤5000000000000000000:=by
 unfold Qx
 have h1:=TW (fun x:Ent=>if q <+: x.fPath then x.fSelf else 0) 1000000000000000 (by omega) (all.take n) fun x hx=>by
  have:=h.num x (List.mem_of_mem_take hx)
  split <;> omega
 have h2:((all.take n).length:Int)≤5000:=by rw [List.length_take]; have:=h.len; omega
 have h3:((all.take n).length:Int) * 1000000000000000≤5000 * 1000000000000000:=Int.mul_le_mul_of_nonneg_right h2 (by omega)
 omega
theorem aTV {all:List Ent} (hs:E1 all) (hsm:SmallE all) (hcl:∀ p a,(∃ x∈all,x.fPath = p++[a])→p ≠ []→∃ x∈all,x.fPath = p) {j:Nat} {y:Ent} (hy:all[j]? = some y) {p:List ByteArray} {a:ByteArray} (hp:y.fPath = p++[a]) :
  Ok (loop (lj all y) ((-1),0,0)) (fun r=>aPQ all p r.1∧r.2 = Qx all y.fPath):=by
 have hym:=fw hy
 obtain ⟨y1,y2,y3,y4⟩:=hsm.num y hym
 have hpl:y.fPath.length = p.length + 1:=by rw [hp]; simp
 have hlen:=hsm.len
 refine rj (fun s:Int × Int × Int=>∃ n:Nat,s.2.2 = (n:Int)∧n≤all.length∧s.2.1 = Qx (all.take n) y.fPath∧((s.1 = -1∧(p = []∨∀ (k:Nat) z,k < n→all[k]? = some z→z.fPath ≠ p))∨(p ≠ []∧∃ (k:Nat) (z:Ent),k < n∧all[k]? = some z∧z.fPath = p∧s.1 = (k:Int)))) (fun s=>((all.length:Int) - s.2.2).toNat) (fun s hs'=>?_) ⟨0,rfl,Nat.zero_le _,rfl,.inl ⟨rfl,.inr fun k z hk=>by omega⟩⟩ (by simp [fK]; omega)
 obtain ⟨par,tot,i⟩:=s
 obtain ⟨n,h1,h2,h3,h4⟩:=hs'
 simp only at h1 h3 h4
 subst h1
 unfold lj
 dsimp only
 refine cV (fun hi=>?_) (fun hi=>dQ ?_)
 ·have hil:n < all.length:=by omega
  obtain ⟨x,hx⟩ : ∃ x,all[n]? = some x:=⟨all[n]'hil,bk hil⟩
  have hxm:=fw hx
  obtain ⟨x1,x2,x3,x4⟩:=hsm.num x hxm
  have hsn:Qx (all.take (n + 1)) y.fPath = Qx (all.take n) y.fPath + if y.fPath <+: x.fPath then x.fSelf else 0:=by
   rw [yZ hx]; unfold Qx; rw [List.map_append,List.sum_append]; simp
  have hb:=hsm.bd y.fPath (n + 1)
  rw [fJ,hx]
  simp only [ck]
  rw [aDq x3 y3]
  simp only [ck]
  refine bX (Q:=fun r:Int × Int=>r.2 = Qx (all.take (n + 1)) y.fPath∧((r.1 = -1∧(p = []∨∀ (k:Nat) z,k < n + 1→all[k]? = some z→z.fPath ≠ p))∨(p ≠ []∧∃ (k:Nat) (z:Ent),k < n + 1∧all[k]? = some z∧z.fPath = p∧r.1 = (k:Int)))) ?_ (fun r hr=>?_)
  ·refine bX (Q:=fun v=>v = Qx (all.take (n + 1)) y.fPath) ?_ (fun v hv=>?_)
   ·refine cV (fun h=>a8 ?_) (fun h=>a8 ?_)
    ·rw [hsn,if_pos h] at hb ⊢
     rw [h3,d7 (by omega)]
    ·rw [hsn,if_neg h,h3]; omega
   subst hv
   refine bX (Q:=fun v=>v = true↔(p ≠ []∧x.fPath = p)) ?_ (fun v hv=>?_)
   ·refine cV (fun h=>?_) (fun h=>a8 ?_)
    ·rw [hpl,d7 (by omega),show (((p.length + 1:Nat):Int) - 1) = ((p.length:Nat):Int) by omega,TJ (by omega)]
     simp only [ck]
     have htk:y.fPath.take p.length = p:=by rw [hp]; simp
     rw [htk,PX _ _ x3 (by omega)]
     simp only [ck]
     refine a8 ?_
     rw [uk]
     constructor
     ·intro h5
      refine ⟨fun h6=>?_,vJ h5⟩
      rw [h6] at hpl; simp only [List.length_nil] at hpl; omega
     ·rintro ⟨_,h5⟩
      rw [h5]; exact CY _
    ·refine ⟨fun h=>by simp at h,fun ⟨h5,_⟩=>?_⟩
     have:=List.length_pos_iff.2 h5
     omega
   refine gJ (fun e=>a8 ⟨rfl,?_⟩) (fun e=>a8 ⟨rfl,?_⟩)
   ·obtain ⟨g1,g2⟩:=hv.1 e
    exact .inr ⟨g1,n,x,by omega,hx,g2,rfl⟩
   ·have hne : ¬ (p ≠ []∧x.fPath = p):=fun h=>by rw [hv.2 h] at e; simp at e
    rcases h4 with ⟨g1,g2⟩ | ⟨g0,k,z,g1,g2⟩
    ·refine .inl ⟨g1,?_⟩
     rcases g2 with g2 | g2
     ·exact .inl g2
     ·by_cases h0:p = []
      ·exact .inl h0
      ·refine .inr fun k z hk hz h5=>?_
       by_cases e2:k = n
       ·subst e2; rw [hx] at hz; cases hz; exact hne ⟨h0,h5⟩
       ·exact g2 k z (by omega) hz h5
    ·exact .inr ⟨g0,k,z,by omega,g2⟩
  ·obtain ⟨a1,a2⟩:=r
   obtain ⟨r1,r2⟩:=hr
   dsimp only
   rw [qx (n:=all.length) hil (by omega)]
   exact hJ ⟨⟨n + 1,rfl,by omega,r1,r2⟩,by simp only; omega⟩
 ·have hnl:n = all.length:=by omega
  subst hnl
  rw [List.take_length] at h3
  refine ⟨?_,h3⟩
  rcases h4 with ⟨g1,g2⟩ | ⟨g0,k,z,_,g2,g3,g4⟩
  ·by_cases h0:p = []
   ·exact .inl ⟨h0,g1⟩
   ·obtain ⟨x,hx,e⟩:=hcl p a ⟨y,hym,hp⟩ h0
    obtain ⟨k,hk,rfl⟩:=List.mem_iff_getElem.1 hx
    rcases g2 with g2 | g2
    ·exact absurd g2 h0
    ·exact absurd e (g2 k _ hk (bk hk))
  ·exact .inr ⟨g0,k,z,g2,g3,g4⟩
theorem aUz {all:List Ent} (hs:E1 all) (hsm:SmallE all) (hcl:∀ p a,(∃ x∈all,x.fPath = p++[a])→p ≠ []→∃ x∈all,x.fPath = p) :
  Ok (loop (lW all) ([],0)) (fun l=>NodesE all l):=by
 have hlen:=hsm.len
 refine Ez all.length (fun (l:List az) n=>l.length = n∧∀ (j:Nat) x y,all[j]? = some x→l[j]? = some y→∃ p,x.fPath = p++[y.fName]∧y.fSelf = x.fSelf∧y.fCount = x.fCount∧y.fTotal = Qx all x.fPath∧aPQ all p y.fParent) (by omega) ⟨rfl,fun j x y _ h=>by simp at h⟩ (fun l i hI h2=>?_)
 obtain ⟨hl,hI⟩:=hI
 unfold lW
 dsimp only
 refine cV (fun hi=>?_) (fun hi=>dQ ⟨by omega,hI⟩)
 have hil:i < all.length:=by omega
 obtain ⟨y,hy⟩ : ∃ x,all[i]? = some x:=⟨all[i]'hil,bk hil⟩
 obtain ⟨y1,y2,y3,y4⟩:=hsm.num y (fw hy)
 obtain ⟨p,a,hp⟩ : ∃ p a,y.fPath = p++[a]:=⟨_,_,(List.dropLast_concat_getLast y4).symm⟩
 have hpl:y.fPath.length = p.length + 1:=by rw [hp]; simp
 rw [fJ,hy]
 simp only [ck]
 rw [hpl,d7 (by omega),show (((p.length + 1:Nat):Int) - 1) = ((p.length:Nat):Int) by omega,fJ]
 have hla:y.fPath[p.length]? = some a:=by rw [hp]; simp
 rw [hla]
 simp only [ck]
 refine bX (aTV hs hsm hcl hy hp) (fun r hr=>?_)
 obtain ⟨r1,r2⟩:=r
 obtain ⟨g1,g2⟩:=hr
 simp only at g1 g2
 dsimp only
 rw [BZ (by simp; omega) (by simp; omega)]
 simp only [cond_true]
 rw [qx (n:=all.length) hil (by omega)]
 refine hJ ⟨hil,rfl,by simp [hl],fun j x z hx hz=>?_⟩
 rcases Nat.lt_or_ge j l.length with h | h
 ·rw [jk h] at hz
  exact hI j x z hx hz
 ·rw [rk h] at hz
  have hj:j = i:=by
   have:=(bw.1 hz).1
   simp only [List.length_singleton] at this
   omega
  subst hj
  rw [hl,Nat.sub_self] at hz
  cases hz
  rw [hy] at hx; cases hx
  exact ⟨p,hp,rfl,rfl,g2,g1⟩
open Go.RM (TN Ar pZ J6 aaW A6 KQ E3 N5 QK ar0 DJ yY gq yW A2 sq E0 GV)
structure WFA (ar:Ar) (L:List (List ByteArray)):Prop where
 len:L.length = ar.length
 root:L[0]? = some []
 kid:∀ (i:Nat) t p,ar[i]? = some t→L[i]? = some p→∀ e∈t.kids.getD [],L[e.2]? = some (p++[e.1])
 nd:L.Nodup
 clo:∀ (k:Nat) p a,L[k]? = some (p++[a])→∃ (i:Nat) (t:TN),L[i]? = some p∧ar[i]? = some t∧(a,k)∈t.kids.getD []
 knd:∀ (i:Nat) t,ar[i]? = some t→((t.kids.getD []).map (·.1)).Nodup
def ValA (ar:Ar) (L:List (List ByteArray)) (S C:List ByteArray→Int):Prop:=∀ (i:Nat) t p,ar[i]? = some t→L[i]? = some p→t.self = S p∧t.count = C p
theorem anQ {α:Type} {L:List α} (h:L.Nodup) {i j:Nat} {x:α} (hi:L[i]? = some x) (hj:L[j]? = some x):i = j:=by
 obtain ⟨h1,e1⟩:=bw.1 hi
 obtain ⟨h2,e2⟩:=bw.1 hj
 exact (List.getElem_inj h).1 (e1.trans e2.symm)
theorem WFA.same {ar:Ar} {L:List (List ByteArray)} (h:WFA ar L) {i:Nat} {t:TN} (ht:ar[i]? = some t) {t':TN} (hk:t'.kids.getD [] = t.kids.getD []):WFA (ar.set i t') L:=by
 have bq:∀ (j:Nat) u,(ar.set i t')[j]? = some u→∃ u',ar[j]? = some u'∧u.kids.getD [] = u'.kids.getD []:=fun j u hu=>by
  rcases gq hu with ⟨rfl,rfl⟩ | ⟨_,hu⟩
  ·exact ⟨t,ht,hk⟩
  ·exact ⟨u,hu,rfl⟩
 refine ⟨by rw [qk]; exact h.len,h.root,fun j u p hu hp e he=>?_,h.nd,fun k p a hk'=>?_,fun j u hu=>?_⟩
 ·obtain ⟨u',h1,h2⟩:=bq j u hu
  rw [h2] at he; exact h.kid j u' p h1 hp e he
 ·obtain ⟨j,u,h1,h2,h3⟩:=h.clo k p a hk'
  by_cases e:i = j
  ·subst e
   rw [ht] at h2; cases h2
   exact ⟨i,t',h1,by rw [uw,if_pos rfl,if_pos (bw.1 ht).1],by rw [hk]; exact h3⟩
  ·exact ⟨j,u,h1,by rw [uw,if_neg e]; exact h2,h3⟩
 ·obtain ⟨u',h1,h2⟩:=bq j u hu
  rw [h2]; exact h.knd j u' h1
theorem ValA.set {ar:Ar} {L:List (List ByteArray)} {S C:List ByteArray→Int} (h:ValA ar L S C) {i:Nat} {t t':TN} (ht:ar[i]? = some t) (h1:t'.self = t.self) (h2:t'.count = t.count):ValA (ar.set i t') L S C:=fun j u p hu hp=>by
 rcases gq hu with ⟨rfl,rfl⟩ | ⟨_,hu⟩
 ·rw [h1,h2]; exact h i t p ht hp
 ·exact h j u p hu hp
theorem WFA.down {ar:Ar} {L:List (List ByteArray)} {S C:List ByteArray→Int} (h:WFA ar L) (hv:ValA ar L S C) (hz:∀ q,q ∉ L→S q = 0∧C q = 0) {i:Nat} {p:List ByteArray} (hp:L[i]? = some p) (s:ByteArray) :
  ∃ ar' k L',J6 (ar,i) s = some (ar',k)∧WFA ar' L'∧ValA ar' L' S C∧L'[k]? = some (p++[s])∧(∀ q,q∈L'↔q∈L∨q = p++[s]):=by
 obtain ⟨t,ht⟩ : ∃ t,ar[i]? = some t:=⟨ar[i]'(by rw [← h.len]; exact (bw.1 hp).1),bk _⟩
 have hin:=(bw.1 ht).1
 have hdn:J6 (ar,i) s = some (match pZ s (t.kids.getD []) with
  | some k=>(ar.set i { t with kids:=some (t.kids.getD []) },k)
  | none=>(ar.set i { t with kids:=some (t.kids.getD []++[(s,ar.length)]) }++[⟨0,0,none⟩],ar.length)):=by
  unfold J6
  simp only [ht,kw]
  cases pZ s (t.kids.getD []) <;> rfl
 cases hk:pZ s (t.kids.getD []) with
 | some k =>
  rw [hk] at hdn
  have hm:=DJ hk
  have hLk:=h.kid i t p ht hp _ hm
  refine ⟨_,_,L,hdn,h.same ht rfl,hv.set ht rfl rfl,hLk,fun q=>⟨.inl,fun hq=>hq.elim id fun e=>?_⟩⟩
  rw [e]; exact fw hLk
 | none =>
  rw [hk] at hdn
  have hnn:=yY hk
  have hnew:p++[s] ∉ L:=fun hm=>by
   obtain ⟨k,hk',e⟩:=List.mem_iff_getElem.1 hm
   obtain ⟨j,u,h1,h2,h3⟩:=h.clo k p s (by rw [bk hk',e])
   have:=anQ h.nd h1 hp
   subst this
   rw [ht] at h2; cases h2
   exact hnn _ h3 rfl
  have hlen:=h.len
  refine ⟨_,_,L++[p++[s]],hdn,⟨by simp [hlen],?_,fun j u r hu hr e he=>?_,?_,fun k r a hk'=>?_,fun j u hu=>?_⟩,fun j u r hu hr=>?_,by rw [rk (by omega),hlen,Nat.sub_self]; rfl,fun q=>by simp⟩
  ·rw [jk (bw.1 h.root).1]; exact h.root
  ·rcases yW hu with ⟨h1,hu⟩ | ⟨_,rfl⟩
   ·rw [qk] at h1
    rw [jk (by omega)] at hr
    have put:∀ k q,L[k]? = some q→(L++[p++[s]])[k]? = some q:=fun k q hq=>by rw [jk (bw.1 hq).1]; exact hq
    rcases gq hu with ⟨rfl,rfl⟩ | ⟨_,hu⟩
    ·rw [hp] at hr; cases hr
     rcases qw.1 (show e ∈ t.kids.getD [] ++ [(s,ar.length)] from he) with he | he
     ·exact put _ _ (h.kid i t p ht hp e he)
     ·rw [dk.1 he]
      show (L++[p++[s]])[ar.length]? = _
      rw [rk (by omega),hlen,Nat.sub_self]; rfl
    ·exact put _ _ (h.kid j u r hu hr e he)
   ·simp at he
  ·rw [List.nodup_append]
   exact ⟨h.nd,by simp,fun a ha c hc=>by rw [dk.1 hc]; intro e; exact hnew (e ▸ ha)⟩
  ·have grow:∀ (j:Nat) u,ar[j]? = some u→∃ u',(ar.set i { t with kids:=some (t.kids.getD []++[(s,ar.length)]) }++[⟨0,0,none⟩])[j]? = some u'∧∀ e∈u.kids.getD [],e∈u'.kids.getD []:=fun j u hu=>by
    have hj:=(bw.1 hu).1
    rw [jk (by rw [qk]; exact hj),uw]
    by_cases e:i = j
    ·subst e
     rw [ht] at hu; cases hu
     exact ⟨_,by rw [if_pos rfl,if_pos hin],fun e he=>List.mem_append_left _ he⟩
    ·rw [if_neg e]; exact ⟨u,hu,fun e he=>he⟩
   rcases yW hk' with ⟨h1,hk'⟩ | ⟨h1,e⟩
   ·obtain ⟨j,u,h1,h2,h3⟩:=h.clo k r a hk'
    obtain ⟨u',h4,h5⟩:=grow j u h2
    exact ⟨j,u',by rw [jk (bw.1 h1).1]; exact h1,h4,h5 _ h3⟩
   ·have e2:=List.append_inj' e rfl
    simp only [List.cons.injEq,and_true] at e2
    obtain ⟨rfl,rfl⟩:=e2
    refine ⟨i,_,by rw [jk (bw.1 hp).1]; exact hp,by rw [jk (by rw [qk]; exact hin),uw,if_pos rfl,if_pos hin],?_⟩
    show (a,k)∈t.kids.getD []++[(a,ar.length)]
    rw [h1,hlen]; simp
  ·rcases yW hu with ⟨h1,hu⟩ | ⟨_,rfl⟩
   ·rcases gq hu with ⟨rfl,rfl⟩ | ⟨_,hu⟩
    ·show ((t.kids.getD []++[(s,ar.length)]).map (·.1)).Nodup
     rw [List.map_append,List.nodup_append]
     refine ⟨h.knd i t ht,by simp,fun a ha c hc=>?_⟩
     simp only [lw,List.map_nil,dk] at hc
     obtain ⟨e,he,rfl⟩:=pw.1 ha
     rw [hc]; exact hnn e he
    ·exact h.knd j u hu
   ·simp
  ·rcases yW hu with ⟨h1,hu⟩ | ⟨h1,rfl⟩
   ·rw [qk] at h1
    rw [jk (by omega)] at hr
    rcases gq hu with ⟨rfl,rfl⟩ | ⟨_,hu⟩
    ·exact hv i t r ht hr
    ·exact hv j u r hu hr
   ·rw [qk] at h1
    subst h1
    rw [rk (by omega),hlen,Nat.sub_self] at hr
    cases hr
    obtain ⟨z1,z2⟩:=hz _ hnew
    exact ⟨z1.symm,z2.symm⟩
theorem WFA.downs {S C:List ByteArray→Int}:∀ (path:List ByteArray) {ar:Ar} {L:List (List ByteArray)} {i:Nat} {p:List ByteArray},WFA ar L→ValA ar L S C→(∀ q,q ∉ L→S q = 0∧C q = 0)→L[i]? = some p →
  ∃ ar' k L',path.foldlM J6 (ar,i) = some (ar',k)∧WFA ar' L'∧ValA ar' L' S C∧L'[k]? = some (p++path)∧(∀ q,q∈L'↔q∈L∨(p <+: q∧q ≠ p∧q <+: p++path))
 | [],ar,L,i,p,h,hv,hz,hp=>by
  refine ⟨ar,i,L,rfl,h,hv,by rw [List.append_nil]; exact hp,fun q=>⟨.inl,fun hq=>hq.elim id fun ⟨h1,h2,h3⟩=>?_⟩⟩
  rw [List.append_nil] at h3
  exact absurd (h3.eq_of_length (Nat.le_antisymm h3.length_le h1.length_le)) h2
 | s :: path,ar,L,i,p,h,hv,hz,hp=>by
  obtain ⟨ar1,k1,L1,g1,g2,g3,g4,g5⟩:=h.down hv hz hp s
  obtain ⟨ar2,k2,L2,f1,f2,f3,f4,f5⟩:=WFA.downs path g2 g3 (fun q hq=>hz q fun hm=>hq ((g5 q).2 (.inl hm))) g4
  refine ⟨ar2,k2,L2,by rw [List.foldlM_cons,g1]; exact f1,f2,f3,by rw [f4,List.append_assoc]; rfl,fun q=>?_⟩
  have e:p++[s]++path = p++s :: path:=by simp
  rw [f5,g5,e]
  constructor
  ·rintro ((h | rfl) | ⟨h1,h2,h3⟩)
   ·exact .inl h
   ·refine .inr ⟨List.prefix_append _ _,fun h=>?_,?_⟩
    ·have:=congrArg List.length h; rw [nw,List.length_singleton] at this; omega
    ·rw [← e]; exact List.prefix_append _ _
   ·refine .inr ⟨(List.prefix_append _ _).trans h1,fun h=>?_,h3⟩
    have:=h1.length_le
    rw [h,nw,List.length_singleton] at this; omega
  ·rintro (h | ⟨h1,h2,h3⟩)
   ·exact .inl (.inl h)
   ·obtain ⟨r,rfl⟩:=h1
    cases r with
    | nil=>simp at h2
    | cons a r =>
     have h4:=h3
     rw [List.prefix_append_right_inj] at h4
     have ha:a = s:=by
      obtain ⟨u,hu⟩:=h4
      simp only [List.cons_append,List.cons.injEq] at hu
      exact hu.1
     subst ha
     by_cases hr:r = []
     ·subst hr; exact .inl (.inr rfl)
     ·refine .inr ⟨?_,fun h=>?_,h3⟩
      ·exact ⟨r,by simp⟩
      ·have:=congrArg List.length h
       simp only [nw,List.length_cons,List.length_nil] at this
       have:=List.length_pos_iff.2 hr
       omega
open Go.RM (TN Ar pZ J6 aaW A6 KQ E3 N5 QK ar0 DJ yY gq yW A2 sq E0 GV leS Dj CW)
theorem adx:∀ x y:List UInt8,Op.bytesLess x y = true↔x < y
 | [],[]=>by simp [Op.bytesLess]
 | [],b :: y=>by simp [Op.bytesLess]
 | a :: x,[]=>by simp [Op.bytesLess]
 | a :: x,b :: y=>by
  rw [List.cons_lt_cons_iff,← adx x y]
  simp [Op.bytesLess]
theorem aLq {a b:ByteArray} (h:leS a b = true) (hne:a ≠ b):sLt a b = true:=by
 cases h1:sLt a b with
 | true=>rfl
 | false =>
  have h2:=M1 a b
  rw [h1] at h2
  simp only [hne,decide_false,Bool.or_self,Bool.not_false] at h2
  have h3:b.data.toList < a.data.toList:=by
   have h5:=h2.symm
   unfold sLt at h5
   rw [Go.Lib.toList_data,Go.Lib.toList_data] at h5
   exact (adx _ _).1 h5
  unfold leS at h
  have h4:=of_decide_eq_true h
  exact absurd h3 (List.not_lt.2 h4)
theorem avY {l:List (ByteArray × Nat)} (hn:(l.map (·.1)).Nodup):(A2 l).Pairwise fun a b=>sLt a.1 b.1 = true:=by
 have h1:(A2 l).Pairwise fun a b=>leS a.1 b.1 = true :=
  List.pairwise_mergeSort (le:=fun a b:ByteArray × Nat=>leS a.1 b.1) (fun a b c h1 h2=>CW _ _ _ h1 h2) (fun a b=>Dj _ _) l
 have h2:((A2 l).map (·.1)).Nodup:=((sq l).map (·.1)).nodup_iff.2 hn
 unfold List.Nodup at h2
 rw [List.pairwise_map] at h2
 exact (h1.and h2).imp fun ⟨a,b⟩=>aLq a b
theorem Dq {α:Type} [DecidableEq α]:∀ {l l':List α},l.Nodup→(∀ x∈l,x∈l')→l.length≤l'.length
 | [],_,_,_=>Nat.zero_le _
 | a :: l,l',hn,h=>by
  rw [List.nodup_cons] at hn
  have ha:=h a mw
  have:=Dq (l':=l'.erase a) hn.2 fun x hx=>(List.mem_erase_of_ne (fun e:x = a=>hn.1 (by rw [← e]; exact hx))).2 (h x (ik _ hx))
  rw [List.length_erase_of_mem ha] at this
  have:=List.length_pos_of_mem ha
  simp only [List.length_cons]; omega
abbrev Pth:=List ByteArray
def SrtP (l:List Pth):Prop:=l.Pairwise fun p q=>jJ p q = -1
theorem SrtP.nodup {l:List Pth} (h:SrtP l):l.Nodup:=List.Pairwise.imp (fun h e=>by subst e; exact pX h) h
def W0 (S:Pth→Int) (labs:List Pth) (q:Pth):Int:=(labs.map fun r=>if q <+: r then S r else 0).sum
theorem S2 (S:Pth→Int) (a c:List Pth) (q:Pth):W0 S (a++c) q = W0 S a q + W0 S c q:=by unfold W0; rw [List.map_append,List.sum_append]
theorem P6 (S:Pth→Int) (r:Pth) (a:List Pth) (q:Pth):W0 S (r :: a) q = (if q <+: r then S r else 0) + W0 S a q:=rfl
theorem IY (S:Pth→Int) {q:Pth}:∀ {a:List Pth},(∀ r∈a,¬ q <+: r)→W0 S a q = 0
 | [],_=>rfl
 | r :: a,h=>by
  rw [P6,if_neg (h r mw),IY S fun x hx=>h x (ik _ hx)]; rfl
theorem aeQ (S:Pth→Int) {q:Pth}:∀ {a:List Pth},(∀ r∈a,q <+: r)→W0 S a q = (a.map S).sum
 | [],_=>rfl
 | r :: a,h=>by
  rw [P6,if_pos (h r mw),aeQ S fun x hx=>h x (ik _ hx)]; rfl
structure Blk (S C:Pth→Int) (p:Pth) (parent len:Int) (out:List N5) (w:Int) (labs:List Pth):Prop where
 hlen:out.length = labs.length
 srt:SrtP labs
 nod:∀ (j:Nat) q y,labs[j]? = some q→out[j]? = some y→∃ r,q = r++[y.2.1]∧y.2.2.1 = S q∧y.2.2.2.1 = W0 S labs q∧y.2.2.2.2 = C q∧((r = p∧y.1 = parent)∨(r ≠ p∧∃ k:Nat,labs[k]? = some r∧y.1 = len + k))
 tot:w = (labs.map S).sum
theorem aaX {p:Pth} {a b:ByteArray} {q:Pth} (h1:p++[a] <+: q) (h2:p++[b] <+: q):a = b:=by
 obtain ⟨u,hu⟩:=h1
 obtain ⟨v,hv⟩:=h2
 rw [List.append_assoc] at hu hv
 have:=List.append_cancel_left (hu.trans hv.symm)
 simp only [List.singleton_append,List.cons.injEq] at this
 exact this.1
theorem aaz {p:Pth} {a:ByteArray} {q:Pth} (h:p++[a] <+: q):q ≠ p:=fun e=>by
 have:=h.length_le
 rw [e,nw,List.length_singleton] at this; omega
section
variable {ar:Ar} {L:List Pth} {S C:Pth→Int}
theorem WFA.pre (h:WFA ar L):∀ (r:Pth) {p:Pth},p++r∈L→p∈L:=by
 intro r
 induction r with
 | nil=>intro p hp; rwa [List.append_nil] at hp
 | cons a r ih =>
  intro p hp
  have:p++[a]∈L:=ih (p:=p++[a]) (by rw [List.append_assoc]; exact hp)
  obtain ⟨k,hk,e⟩:=List.mem_iff_getElem.1 this
  obtain ⟨i,t,h1,_⟩:=h.clo k p a (by rw [bk hk,e])
  exact fw h1
theorem aOj (hS:∀ q,0≤S q∧S q≤100000000000001) (hL:L.length≤5001) {labs:List Pth} (hn:labs.Nodup) (hs:∀ q∈labs,q∈L):0≤(labs.map S).sum∧(labs.map S).sum≤600000000000000000:=by
 have h1:=TW S 100000000000001 (by omega) labs fun x _=>hS x
 have h2:=Dq hn hs
 have h3:((labs.length:Nat):Int) * 100000000000001≤5001 * 100000000000001:=Int.mul_le_mul_of_nonneg_right (by omega) (by omega)
 omega
theorem Blk.kid (hS:∀ q,0≤S q∧S q≤100000000000001) (hL:L.length≤5001) {p:Pth} {parent len:Int} {Kd:List ByteArray} {out:List N5} {w:Int} {labs:List Pth} (hB:Blk S C p parent len out w labs) (hk:∀ q,q∈labs↔q∈L∧∃ a∈Kd,p++[a] <+: q) {e:ByteArray} (hlt:∀ a∈Kd,sLt a e = true) (heL:p++[e]∈L) {out1:List N5} {w1:Int} {labs1:List Pth} (hB1:Blk S C (p++[e]) (len + out.length) (len + out.length + 1) out1 w1 labs1) (hk1:∀ q,q∈labs1↔q∈L∧p++[e] <+: q∧q ≠ p++[e]) :
  Blk S C p parent len (out++(parent,e,S (p++[e]),IntKind.i64.wrap (S (p++[e]) + w1),C (p++[e])) :: out1) (IntKind.i64.wrap (w + IntKind.i64.wrap (S (p++[e]) + w1))) (labs++(p++[e]) :: labs1)∧∀ q,q∈labs++(p++[e]) :: labs1↔q∈L∧∃ a∈Kd++[e],p++[a] <+: q:=by
 have hkey:∀ q,q∈labs++(p++[e]) :: labs1↔q∈L∧∃ a∈Kd++[e],p++[a] <+: q:=by
  intro q
  rw [qw,List.mem_cons,hk,hk1]
  constructor
  ·rintro (⟨h1,a,h2,h3⟩ | rfl | ⟨h1,h2,_⟩)
   ·exact ⟨h1,a,List.mem_append_left _ h2,h3⟩
   ·exact ⟨heL,e,by simp,List.prefix_refl _⟩
   ·exact ⟨h1,e,by simp,h2⟩
  ·rintro ⟨h1,a,h2,h3⟩
   rcases qw.1 h2 with h2 | h2
   ·exact .inl ⟨h1,a,h2,h3⟩
   ·rw [dk.1 h2] at h3
    by_cases e1:q = p++[e]
    ·exact .inr (.inl e1)
    ·exact .inr (.inr ⟨h1,h3,e1⟩)
 have hne:∀ a∈Kd,a ≠ e:=fun a ha h=>by have:=hlt a ha; rw [h,vq] at this; cases this
 have old:∀ x∈labs,∃ a∈Kd,p++[a] <+: x:=fun x hx=>((hk x).1 hx).2
 have new:∀ y∈(p++[e]) :: labs1,p++[e] <+: y:=fun y hy=>by
  rcases List.mem_cons.1 hy with rfl | hy
  ·exact List.prefix_refl _
  ·exact ((hk1 y).1 hy).2.1
 have hsrt:SrtP (labs++(p++[e]) :: labs1):=by
  unfold SrtP
  rw [List.pairwise_append,List.pairwise_cons]
  refine ⟨hB.srt,⟨fun y hy=>?_,hB1.srt⟩,fun x hx y hy=>?_⟩
  ·obtain ⟨_,h2,h3⟩:=(hk1 y).1 hy
   obtain ⟨r,rfl⟩:=h2
   cases r with
   | nil=>simp at h3
   | cons b r=>exact agV b r _
  ·obtain ⟨a,ha,r,rfl⟩:=old x hx
   obtain ⟨s,rfl⟩:=new y hy
   rw [List.append_assoc,List.append_assoc]
   exact Z2 (hlt a ha) r s p
 have hnd:=hsrt.nodup
 have hsum:=aOj hS hL hnd fun q hq=>((hkey q).1 hq).1
 have hsum1:=aOj hS hL (List.nodup_append.1 hnd).2.1 fun q hq=>((hkey q).1 (List.mem_append_right _ hq)).1
 rw [List.map_append,List.sum_append] at hsum
 rw [lw,List.sum_cons] at hsum hsum1
 rw [← hB.tot,← hB1.tot] at hsum
 rw [← hB1.tot] at hsum1
 have e1:IntKind.i64.wrap (S (p++[e]) + w1) = S (p++[e]) + w1:=Go.RM.wr (by omega) (by omega)
 have e2:IntKind.i64.wrap (w + (S (p++[e]) + w1)) = w + (S (p++[e]) + w1):=Go.RM.wr (by omega) (by omega)
 rw [e1,e2]
 have hol:=hB.hlen
 have hol1:=hB1.hlen
 refine ⟨⟨by simp [hol,hol1],hsrt,fun j q y hq hy=>?_,?_⟩,hkey⟩
 ·rcases Nat.lt_trichotomy j labs.length with hj | hj | hj
  ·rw [jk hj] at hq
   rw [jk (by omega)] at hy
   obtain ⟨r,h1,h2,h3,h4,h5⟩:=hB.nod j q y hq hy
   obtain ⟨a,ha,hpa⟩:=old q (fw hq)
   refine ⟨r,h1,h2,?_,h4,h5.imp id fun ⟨g0,k,g1,g2⟩=>⟨g0,k,?_,g2⟩⟩
   ·rw [S2,IY S (a:=(p++[e]) :: labs1) fun y hy hqy=>hne a ha (aaX (hpa.trans hqy) (new y hy)),h3]; omega
   ·rw [jk (bw.1 g1).1]; exact g1
  ·subst hj
   rw [rk (gw _),Nat.sub_self] at hq
   rw [rk (by omega),show labs.length - out.length = 0 by omega] at hy
   cases hq; cases hy
   refine ⟨p,rfl,rfl,?_,rfl,.inl ⟨rfl,rfl⟩⟩
   rw [S2,IY S (a:=labs) fun x hx hqx=>by
    obtain ⟨a,ha,hpa⟩:=old x hx
    exact hne a ha (aaX hpa hqx),aeQ S (a:=(p++[e]) :: labs1) new,lw,List.sum_cons,← hB1.tot]
   show S (p++[e]) + w1 = _
   omega
  ·obtain ⟨m,rfl⟩ : ∃ m,j = labs.length + 1 + m:=⟨j - labs.length - 1,by omega⟩
   rw [rk (by omega),show labs.length + 1 + m - labs.length = m + 1 by omega,List.getElem?_cons_succ] at hq
   rw [rk (by omega),show labs.length + 1 + m - out.length = m + 1 by omega,List.getElem?_cons_succ] at hy
   obtain ⟨r,h1,h2,h3,h4,h5⟩:=hB1.nod m q y hq hy
   obtain ⟨_,hpq,hqn⟩:=(hk1 q).1 (fw hq)
   refine ⟨r,h1,h2,?_,h4,.inr ?_⟩
   ·rw [S2,IY S (a:=labs) fun x hx hqx=>by
     obtain ⟨a,ha,hpa⟩:=old x hx
     exact hne a ha (aaX hpa (hpq.trans hqx)),P6,if_neg fun h=>hqn (h.eq_of_length (Nat.le_antisymm h.length_le hpq.length_le)),h3]
    omega
   ·rcases h5 with ⟨g1,g2⟩ | ⟨g1,k,g2,g3⟩
    ·refine ⟨by rw [g1]; exact aaz (List.prefix_refl _),labs.length,?_,by rw [g2,hol]⟩
     rw [rk (gw _),Nat.sub_self,g1]; rfl
    ·have hpr:=((hk1 r).1 (fw g2)).2.1
     refine ⟨aaz hpr,labs.length + 1 + k,?_,by rw [g3,hol]; omega⟩
     rw [rk (by omega),show labs.length + 1 + k - labs.length = k + 1 by omega,List.getElem?_cons_succ]
     exact g2
 ·rw [List.map_append,List.sum_append,lw,List.sum_cons,← hB.tot,← hB1.tot]
theorem aRx (hW:WFA ar L) (hV:ValA ar L S C) (hS:∀ q,0≤S q∧S q≤100000000000001) (hL:L.length≤5001):∀ (f i:Nat) (p:Pth) (parent len:Int),L[i]? = some p→(∀ q∈L,p <+: q→q.length < p.length + f) →
  ∃ out w labs,A6 ar f i parent len = some (out,w)∧Blk S C p parent len out w labs∧∀ q,q∈labs↔q∈L∧p <+: q∧q ≠ p:=by
 intro f
 induction f with
 | zero =>
  intro i p parent len hp hf
  have:=hf p (fw hp) (List.prefix_refl _)
  omega
 | succ f ih =>
  intro i p parent len hp hf
  obtain ⟨t,ht⟩ : ∃ t,ar[i]? = some t:=⟨ar[i]'(by rw [← hW.len]; exact (bw.1 hp).1),bk _⟩
  have hkid:=hW.kid i t p ht hp
  have hsrt:=avY (hW.knd i t ht)
  have hmem:∀ e,e∈A2 (t.kids.getD [])↔e∈t.kids.getD []:=fun e=>(sq _).mem_iff
  rw [E3,ht]
  simp only [ck]
  have fold:∀ (R Kd:List (ByteArray × Nat)) (out:List N5) (w:Int) (labs:List Pth),Kd++R = A2 (t.kids.getD [])→Blk S C p parent len out w labs→(∀ q,q∈labs↔q∈L∧∃ a∈Kd.map (·.1),p++[a] <+: q) →
    ∃ out' w' labs',R.foldlM (KQ ar f parent len) (out,w) = some (out',w')∧Blk S C p parent len out' w' labs'∧∀ q,q∈labs'↔q∈L∧∃ a∈(Kd++R).map (·.1),p++[a] <+: q:=by
   intro R
   induction R with
   | nil =>
    intro Kd out w labs _ hB hk
    exact ⟨out,w,labs,rfl,hB,by rw [List.append_nil]; exact hk⟩
   | cons e R ihR =>
    intro Kd out w labs hKR hB hk
    have heK:e∈t.kids.getD []:=(hmem e).1 (by rw [← hKR]; simp)
    have hLe:=hkid e heK
    obtain ⟨kn,hkn⟩ : ∃ kn,ar[e.2]? = some kn:=⟨ar[e.2]'(by rw [← hW.len]; exact (bw.1 hLe).1),bk _⟩
    obtain ⟨v1,v2⟩:=hV e.2 kn _ hkn hLe
    obtain ⟨out1,w1,labs1,g1,g2,g3⟩:=ih e.2 (p++[e.1]) (len + out.length) (len + out.length + 1) hLe fun q hq hpq=>by
     have:=hf q hq ((List.prefix_append _ _).trans hpq)
     rw [nw,List.length_singleton]; omega
    have hlt:∀ a∈Kd.map (·.1),sLt a e.1 = true:=fun a ha=>by
     obtain ⟨d,hd,rfl⟩:=pw.1 ha
     rw [← hKR,List.pairwise_append] at hsrt
     exact hsrt.2.2 d hd e mw
    obtain ⟨k1,k2⟩:=Blk.kid hS hL hB hk hlt (fw hLe) g2 g3
    obtain ⟨out',w',labs',f1,f2,f3⟩:=ihR (Kd++[e]) _ _ _ (by rw [← hKR]; simp) k1 (by rw [List.map_append]; exact k2)
    refine ⟨out',w',labs',?_,f2,by rw [show Kd++e :: R = Kd++[e]++R by simp]; exact f3⟩
    rw [List.foldlM_cons]
    have hst:KQ ar f parent len (out,w) e = some (out++(parent,e.1,S (p++[e.1]),IntKind.i64.wrap (S (p++[e.1]) + w1),C (p++[e.1])) :: out1,IntKind.i64.wrap (w + IntKind.i64.wrap (S (p++[e.1]) + w1))):=by
     unfold KQ
     rw [hkn]
     simp only [ck]
     rw [g1]
     simp only [kw,v1,v2]
    rw [hst]
    exact f1
  obtain ⟨out,w,labs,f1,f2,f3⟩:=fold (A2 (t.kids.getD [])) [] [] 0 [] rfl ⟨rfl,List.Pairwise.nil,fun j q y h=>by simp at h,rfl⟩ (fun q=>⟨fun h=>by simp at h,fun ⟨_,a,h,_⟩=>by simp at h⟩)
  refine ⟨out,w,labs,f1,f2,fun q=>?_⟩
  rw [f3,List.nil_append]
  constructor
  ·rintro ⟨h1,a,ha,h2⟩
   exact ⟨h1,(List.prefix_append _ _).trans h2,aaz h2⟩
  ·rintro ⟨h1,⟨r,rfl⟩,h3⟩
   refine ⟨h1,?_⟩
   cases r with
   | nil=>simp at h3
   | cons a r =>
    have:p++[a]∈L:=hW.pre r (p:=p++[a]) (by rw [List.append_assoc]; exact h1)
    obtain ⟨k,hk,e⟩:=List.mem_iff_getElem.1 this
    obtain ⟨j,u,g1,g2,g3⟩:=hW.clo k p a (by rw [bk hk,e])
    have:=anQ hW.nd g1 hp
    subst this
    rw [ht] at g2; cases g2
    refine ⟨a,pw.2 ⟨(a,k),(hmem _).2 g3,rfl⟩,r,by simp⟩
end
open Go.RM (TN Ar pZ J6 aaW A6 N5 QK ar0 gq yW E0 GV)
def V8 (n:Int):Int:=min n 100000000000001
def aiW (n:Int):Int:=min n 20001
def W1 (ar:Ar) (e:Ent):Option Ar:=aaW ar e.fPath e.fSelf e.fCount
structure AInv (ar:Ar) (L:List Pth) (K:Pth→Prop) (S C:Pth→Int):Prop where
 wf:WFA ar L
 val:ValA ar L (fun q=>V8 (S q)) (fun q=>aiW (C q))
 key:∀ q,q∈L↔q = []∨K q
 zero:∀ q,¬ K q→S q = 0∧C q = 0
theorem AInv.add {ar:Ar} {L:List Pth} {K:Pth→Prop} {S C:Pth→Int} (h:AInv ar L K S C) (hK : ¬ K []) (hb:∀ q,0≤S q∧0≤C q) {e:Ent} (he:0≤e.fSelf∧e.fSelf≤4000000000000000000∧0≤e.fCount∧e.fCount≤4000000000000000000) (hp:e.fPath ≠ []) :
  ∃ ar' L',W1 ar e = some ar'∧AInv ar' L' (fun q=>K q∨(q ≠ []∧q <+: e.fPath)) (fun q=>S q + if q = e.fPath then e.fSelf else 0) (fun q=>C q + if q = e.fPath then e.fCount else 0):=by
 have hz:∀ q,q ∉ L→V8 (S q) = 0∧aiW (C q) = 0:=fun q hq=>by
  obtain ⟨z1,z2⟩:=h.zero q fun hk=>hq ((h.key q).2 (.inr hk))
  rw [z1,z2]; exact ⟨rfl,rfl⟩
 obtain ⟨ar1,k,L1,g1,g2,g3,g4,g5⟩:=WFA.downs e.fPath h.wf h.val hz h.wf.root
 rw [List.nil_append] at g4
 obtain ⟨t,ht⟩ : ∃ t,ar1[k]? = some t:=⟨ar1[k]'(by rw [← g2.len]; exact (bw.1 g4).1),bk _⟩
 obtain ⟨v1,v2⟩:=g3 k t _ ht g4
 simp only at v1 v2
 obtain ⟨b1,b2⟩:=hb e.fPath
 have w1:IntKind.i64.wrap (t.self + e.fSelf) = t.self + e.fSelf:=by
  rw [v1]; unfold V8; exact Go.RM.wr (by omega) (by omega)
 have w2:IntKind.i64.wrap (t.count + e.fCount) = t.count + e.fCount:=by
  rw [v2]; unfold aiW; exact Go.RM.wr (by omega) (by omega)
 refine ⟨_,L1,?_,g2.same ht (t':={ t with self:=min (IntKind.i64.wrap (t.self + e.fSelf)) (QK + 1),count:=min (IntKind.i64.wrap (t.count + e.fCount)) 20001 }) rfl,fun i u p hu hpu=>?_,fun q=>?_,fun q hq=>?_⟩
 ·unfold W1 aaW
  rw [g1]
  simp only [ck,ht,kw]
 ·rcases gq hu with ⟨rfl,rfl⟩ | ⟨hne,hu⟩
  ·rw [g4] at hpu; cases hpu
   show min (IntKind.i64.wrap (t.self + e.fSelf)) (QK + 1) = V8 (S e.fPath + if e.fPath = e.fPath then e.fSelf else 0)∧min (IntKind.i64.wrap (t.count + e.fCount)) 20001 = aiW (C e.fPath + if e.fPath = e.fPath then e.fCount else 0)
   rw [if_pos rfl,if_pos rfl,w1,w2,v1,v2]
   unfold V8 aiW QK
   omega
  ·have hpe:p ≠ e.fPath:=fun e1=>hne (by rw [e1] at hpu; exact (anQ g2.nd hpu g4).symm)
   obtain ⟨u1,u2⟩:=g3 i u p hu hpu
   simp only [if_neg hpe,Int.add_zero]
   exact ⟨u1,u2⟩
 ·rw [g5,h.key]
  constructor
  ·rintro ((h | h) | ⟨_,h2,h3⟩)
   ·exact .inl h
   ·exact .inr (.inl h)
   ·exact .inr (.inr ⟨h2,h3⟩)
  ·rintro (h | h | ⟨h2,h3⟩)
   ·exact .inl (.inl h)
   ·exact .inl (.inr h)
   ·exact .inr ⟨List.nil_prefix,h2,h3⟩
 ·have hq1 : ¬ K q:=fun h=>hq (.inl h)
  have hq2 : ¬ q = e.fPath:=fun e1=>hq (.inr ⟨by rw [e1]; exact hp,by rw [e1]; exact List.prefix_refl _⟩)
  obtain ⟨z1,z2⟩:=h.zero q hq1
  simp only [if_neg hq2,z1,z2]
  exact ⟨rfl,rfl⟩
theorem apx {E:List Ent} (hE:BdE E):∀ n,n≤E.length→∃ ar L,(E.take n).foldlM W1 ar0 = some ar∧AInv ar L (G1 (E.take n)) (kW (E.take n)) (q0 (E.take n)):=by
 intro n
 induction n with
 | zero =>
  intro _
  have h0:∀ (i:Nat) t,ar0[i]? = some t→i = 0∧t = ⟨0,0,none⟩:=fun i t ht=>by
   unfold ar0 at ht
   cases i with
   | zero=>cases ht; exact ⟨rfl,rfl⟩
   | succ i=>simp at ht
  have h1:∀ (i:Nat) p,[([]:Pth)][i]? = some p→i = 0∧p = []:=fun i p hp=>by
   cases i with
   | zero=>cases hp; exact ⟨rfl,rfl⟩
   | succ i=>simp at hp
  refine ⟨ar0,[[]],rfl,⟨⟨rfl,rfl,fun i t p ht _ e he=>?_,by simp,fun k p a hk=>?_,fun i t ht=>?_⟩,fun i t p ht hp=>?_,fun q=>?_,fun q _=>⟨rfl,rfl⟩⟩⟩
  ·rw [(h0 i t ht).2] at he; simp at he
  ·have:=(h1 k _ hk).2; simp at this
  ·rw [(h0 i t ht).2]; simp
  ·rw [(h0 i t ht).2]; exact ⟨rfl,rfl⟩
  ·simp [G1]
 | succ n ih =>
  intro hn
  obtain ⟨ar,L,h1,h2⟩:=ih (by omega)
  obtain ⟨e,he⟩ : ∃ e,E[n]? = some e:=⟨E[n]'(by omega),bk _⟩
  have hem:=fw he
  have hsn:=yZ he
  have hone:=hE.one hem
  obtain ⟨ar',L',g1,g2⟩:=h2.add (fun h=>h.1 rfl) (fun q=>⟨(hE.bd n q).1,(hE.bd n q).2.2.1⟩) ⟨hone.1,hone.2.1,hone.2.2.1,hone.2.2.2.1⟩ (hE.num e hem).2.2
  refine ⟨ar',L',?_,g2.wf,?_,fun q=>?_,fun q hq=>?_⟩
  ·rw [hsn,List.foldlM_append,h1]
   show ([e].foldlM W1 ar) = _
   rw [List.foldlM_cons,g1]; rfl
  ·have e1:kW (E.take (n + 1)) = fun q=>kW (E.take n) q + if q = e.fPath then e.fSelf else 0:=by
    funext q; rw [hsn]; unfold kW; rw [List.map_append,List.sum_append]; simp
   have e2:q0 (E.take (n + 1)) = fun q=>q0 (E.take n) q + if q = e.fPath then e.fCount else 0:=by
    funext q; rw [hsn]; unfold q0; rw [List.map_append,List.sum_append]; simp
   rw [e1,e2]; exact g2.val
  ·rw [g2.key,hsn]
   unfold G1
   constructor
   ·rintro (h | ⟨h1,x,hx,h2⟩ | ⟨h1,h2⟩)
    ·exact .inl h
    ·exact .inr ⟨h1,x,List.mem_append_left _ hx,h2⟩
    ·exact .inr ⟨h1,e,List.mem_append_right _ (by simp),h2⟩
   ·rintro (h | ⟨h1,x,hx,h2⟩)
    ·exact .inl h
    ·rcases qw.1 hx with hx | hx
     ·exact .inr (.inl ⟨h1,x,hx,h2⟩)
     ·rw [dk.1 hx] at h2
      exact .inr (.inr ⟨h1,h2⟩)
  ·have hz:=g2.zero q
   have hkk : ¬ (G1 (E.take n) q∨(q ≠ []∧q <+: e.fPath)):=fun h=>hq (by
    rw [hsn]
    rcases h with ⟨h1,x,hx,h2⟩ | ⟨h1,h2⟩
    ·exact ⟨h1,x,List.mem_append_left _ hx,h2⟩
    ·exact ⟨h1,e,List.mem_append_right _ (by simp),h2⟩)
   obtain ⟨z1,z2⟩:=hz hkk
   have s1:kW (E.take (n + 1)) q = kW (E.take n) q + if q = e.fPath then e.fSelf else 0:=by
    rw [hsn]; unfold kW; rw [List.map_append,List.sum_append]; simp
   have s2:q0 (E.take (n + 1)) q = q0 (E.take n) q + if q = e.fPath then e.fCount else 0:=by
    rw [hsn]; unfold q0; rw [List.map_append,List.sum_append]; simp
   rw [s1,s2]; exact ⟨z1,z2⟩
def aLZ (E:List Ent):List Pth:=(E.map fun e=>(List.range (e.fPath.length)).map fun m=>e.fPath.take (m + 1)).flatten
theorem aFV:∀ E:List Ent,(aLZ E).length≤szE E:=by
 intro E
 unfold aLZ
 induction E with
 | nil=>simp
 | cons a E ih =>
  unfold szE at ih ⊢
  simp only [lw,List.flatten_cons,nw,nk,List.length_range,List.sum_cons]
  omega
theorem aBz {E:List Ent} {q:Pth} (h:G1 E q):q∈aLZ E:=by
 obtain ⟨h3,e,he,h4⟩:=h
 obtain ⟨m,m1,m2,m3⟩:=aDK.1 ⟨h3,h4⟩
 refine List.mem_flatten.2 ⟨_,pw.2 ⟨e,he,rfl⟩,pw.2 ⟨m - 1,List.mem_range.2 (by omega),?_⟩⟩
 rw [m3,show m - 1 + 1 = m by omega]
structure SmlE (E:List Ent):Prop where
 bd:BdE E
 keys:∃ Ks:List Pth,Ks.length≤5000∧∀ q,G1 E q→q∈Ks
 self:(E.map (·.fSelf)).sum≤1000000000000000
 len:∀ e∈E,e.fPath.length≤900
 nam:∀ e∈E,∀ s∈e.fPath,okN s
theorem SmlE.S {E:List Ent} (h:SmlE E) (q:Pth):0≤kW E q∧kW E q≤1000000000000000∧0≤q0 E q:=by
 have h1:=u9 (fun e:Ent=>e.fSelf) (fun e=>q = e.fPath) E fun x hx=>(h.bd.num x hx).1
 have h2:=u9 (fun e:Ent=>e.fCount) (fun e=>q = e.fPath) E fun x hx=>(h.bd.num x hx).2.1
 have:=h.self
 unfold kW q0
 omega
theorem aEX {E:List Ent} {p:Pth} {a:ByteArray} (h:G1 E (p++[a])) (hp:p ≠ []):G1 E p:=by
 obtain ⟨_,e,he,h2⟩:=h
 exact ⟨hp,e,he,(List.prefix_append _ _).trans h2⟩
theorem InvE.pre {E all:List Ent} {S C:Pth→Int} (h:InvE all (G1 E) S C):∀ p a,(∃ x∈all,x.fPath = p++[a])→p ≠ []→∃ x∈all,x.fPath = p:=fun p a hx hp=>(h.key p).2 (aEX ((h.key _).1 hx) hp)
structure DocG (E:List Ent) (all:List Ent) (l:List az):Prop where
 inv:InvE all (G1 E) (kW E) (q0 E)
 nod:NodesE all l
 len:all.length≤5000
theorem aiQ {E all:List Ent} {S C:Pth→Int} (h:InvE all (G1 E) S C) (hn:∀ e∈E,∀ s∈e.fPath,okN s) {l:List az} (hN:NodesE all l):∀ y∈l,okN y.fName:=by
 intro y hy
 obtain ⟨j,hj,rfl⟩:=List.mem_iff_getElem.1 hy
 obtain ⟨x,hx⟩ : ∃ x,all[j]? = some x:=⟨all[j]'(by rw [← hN.len]; exact hj),bk _⟩
 obtain ⟨p,hp,_⟩:=hN.nod j x _ hx (bk hj)
 obtain ⟨_,e,he,h2⟩:=(h.key _).1 ⟨x,fw hx,hp⟩
 exact hn e he _ (h2.subset (by simp))
theorem aSZ {E:List Ent} (hE:SmlE E):∃ all l c,DocG E all l∧j6 l = some c∧(c = 0↔ValF l)∧k9 E = some (if c = 0 then (l,0) else ([],c)):=by
 obtain ⟨all,h1,hI,hl⟩:=aUJ hE.bd
 have hlen:all.length≤5000:=by
  obtain ⟨Ks,k1,k2⟩:=hE.keys
  have:=Dq (l:=all.map (·.fPath)) (l':=Ks) (by
   have:=hI.srt
   unfold E1 at this
   unfold List.Nodup
   rw [List.pairwise_map]
   exact this.imp fun h e=>by rw [e] at h; exact pX h) fun q hq=>by
    obtain ⟨x,hx,rfl⟩:=pw.1 hq
    exact k2 _ ((hI.key _).1 ⟨x,hx,rfl⟩)
  rw [nk] at this
  omega
 have hsm:SmallE all:=⟨hlen,fun x hx=>by
  obtain ⟨v1,v2⟩:=hI.val x hx
  have hs:=hE.S x.fPath
  obtain ⟨h3,e,he,h4⟩:=(hI.key _).1 ⟨x,hx,rfl⟩
  have:=h4.length_le
  have:=hE.len e he
  exact ⟨by omega,by omega,by omega,h3⟩⟩
 obtain ⟨l,h2,hN⟩:=aUz hI.srt hsm hI.pre
 obtain ⟨c,c1,c2,c3⟩:=asq l (aiQ hI hE.nam hN) (by rw [hN.len]; omega)
 refine ⟨all,l,c,⟨hI,hN,hlen⟩,c1,c3,?_⟩
 unfold k9
 rw [h1]
 simp only [ck]
 rw [h2]
 simp only [ck]
 rw [c2]
 simp only [ck]
 by_cases e:c = 0
 ·simp [e]
 ·simp [e]
theorem aRz {E:List Ent} (hE:SmlE E) {all:List Ent} {l:List az} (hD:DocG E all l):∃ ar out w allP,E.foldlM W1 ar0 = some ar∧GV ar = true∧A6 ar 1000 0 (-1) 0 = some (out,w)∧out.length≤5000∧InvE allP (G1 E) (fun q=>V8 (kW E q)) (fun q=>aiW (q0 E q))∧NodesE allP (out.map apz):=by
 obtain ⟨ar,L,h1,h2⟩:=apx hE.bd E.length (gw _)
 rw [List.take_length] at h1 h2
 have hL:L.length≤5001:=by
  have:=Dq (l':=[] :: all.map (·.fPath)) h2.wf.nd fun q hq=>by
   rcases (h2.key q).1 hq with rfl | hk
   ·exact mw
   ·obtain ⟨x,hx,rfl⟩:=(hD.inv.key q).2 hk
    exact ik _ (pw.2 ⟨x,hx,rfl⟩)
  rw [List.length_cons,nk] at this
  have:=hD.len
  omega
 have hS:∀ q,0≤V8 (kW E q)∧V8 (kW E q)≤100000000000001:=fun q=>by
  have:=hE.S q
  unfold V8; omega
 obtain ⟨out,w,labs,g1,g2,g3⟩:=aRx h2.wf h2.val hS hL 1000 0 [] (-1) 0 h2.wf.root fun q hq _=>by
  rcases (h2.key q).1 hq with rfl | ⟨_,e,he,h4⟩
  ·simp
  ·have:=h4.length_le
   have:=hE.len e he
   simp only [List.length_nil]; omega
 have hkey:∀ q,q∈labs↔G1 E q:=fun q=>by
  rw [g3,h2.key]
  constructor
  ·rintro ⟨h | h,_,h3⟩
   ·exact absurd h h3
   ·exact h
  ·exact fun h=>⟨.inr h,List.nil_prefix,h.1⟩
 have hll:labs.length≤5000:=by
  have:=Dq (l':=all.map (·.fPath)) g2.srt.nodup fun q hq=>by
   obtain ⟨x,hx,rfl⟩:=(hD.inv.key q).2 ((hkey q).1 hq)
   exact pw.2 ⟨x,hx,rfl⟩
  rw [nk] at this
  have:=hD.len
  omega
 refine ⟨ar,out,w,labs.map fun q=>{ fPath:=q,fSelf:=V8 (kW E q),fCount:=aiW (q0 E q) },h1,?_,g1,by rw [g2.hlen]; exact hll,⟨?_,fun q=>?_,fun x hx=>?_,fun q hq=>?_⟩,⟨by rw [nk,nk,g2.hlen],fun j x y hx hy=>?_⟩⟩
 ·unfold GV
  rw [List.all_eq_true]
  intro t ht
  obtain ⟨i,hi,rfl⟩:=List.mem_iff_getElem.1 ht
  exact decide_eq_true (h2.wf.knd i _ (bk hi))
 ·unfold E1
  rw [List.pairwise_map]
  exact g2.srt
 ·constructor
  ·rintro ⟨x,hx,rfl⟩
   obtain ⟨r,hr,rfl⟩:=pw.1 hx
   exact (hkey r).1 hr
  ·exact fun h=>⟨_,pw.2 ⟨q,(hkey q).2 h,rfl⟩,rfl⟩
 ·obtain ⟨r,_,rfl⟩:=pw.1 hx
  exact ⟨rfl,rfl⟩
 ·obtain ⟨z1,z2⟩:=hD.inv.zero q hq
  rw [z1,z2]; exact ⟨rfl,rfl⟩
 ·rw [ow] at hx hy
  obtain ⟨q,hq,rfl⟩:=aw.1 hx
  obtain ⟨n,hn,rfl⟩:=aw.1 hy
  obtain ⟨r,e1,e2,e3,e4,e5⟩:=g2.nod j q n hq hn
  refine ⟨r,e1,e2,e4,?_,?_⟩
  ·rw [show (apz n).fTotal = n.2.2.2.1 from rfl,e3]
   unfold Qx W0
   rw [List.map_map]
   rfl
  ·rcases e5 with ⟨rfl,e6⟩ | ⟨e0,k,e6,e7⟩
   ·exact .inl ⟨rfl,e6⟩
   ·exact .inr ⟨e0,k,_,by rw [ow,e6]; rfl,rfl,by rw [show (apz n).fParent = n.1 from rfl,e7]; omega⟩
theorem aIV {E:List Ent} (hE:SmlE E) (hc:∀ q,kW E q≤100000000000000∧q0 E q≤20000) {all:List Ent} {l:List az} (hD:DocG E all l):∃ ar out w,E.foldlM W1 ar0 = some ar∧GV ar = true∧A6 ar 1000 0 (-1) 0 = some (out,w)∧out.length≤5000∧out.map apz = l:=by
 obtain ⟨ar,out,w,allP,h1,h2,h3,h4,h5,h6⟩:=aRz hE hD
 have e:allP = all:=(h5.congr (fun _=>Iff.rfl) (fun q=>by have:=hc q; unfold V8; omega) (fun q=>by have:=hc q; unfold aiW; omega)).uniq hD.inv
 subst e
 exact ⟨ar,out,w,h1,h2,h3,h4,h6.uniq h5.srt hD.nod⟩
open Go.RM (Ar aaW A6 N5 ar0 GV F2 ofSamplesF G0)
theorem aHJ (l:List ByteArray) (hl:l.length≤9223372036854775807) (hx:∀ x∈l,okN x):Ok (l3 l) (fun r=>r = 0→l.length≤32∧∀ x∈l,ej x = some 0):=by
 unfold l3
 refine cV (fun _=>a8 (fun h=>by omega)) (fun h=>?_)
 refine pY (Q:=p3 (fun _=>∀ (k:Nat) x,k < l.length→l[k]? = some x→ej x = some 0) (fun r=>r ≠ 0)) (EW l.length (fun n=>∀ (k:Nat) x,k < n→l[k]? = some x→ej x = some 0) hl (fun k x h=>by omega) (fun i hI h2=>?_)) (fun _ hr=>a8 fun _=>⟨by omega,fun x hx=>?_⟩) (fun r hr=>a8 fun e=>absurd e hr)
 ·unfold mQ
  refine cV (fun hi=>?_) (fun hi=>dQ (show p3 _ _ (.inl ()) from fun k x hk=>hI k x (by omega)))
  refine bX (w5 (by omega)) (fun y hy=>?_)
  refine aFj (GZ y (hx y (fw hy))) (fun r hr=>?_)
  refine xZ (fun hne=>dQ (show p3 _ _ (.inr r) from hne)) (fun he=>?_)
  rw [qx (n:=l.length) (by omega) hl]
  refine hJ ⟨by omega,rfl,fun k x hk hkx=>?_⟩
  by_cases e:k = i
  ·subst e; rw [hy] at hkx; cases hkx; rw [hr,he]
  ·exact hI k x (by omega) hkx
 ·obtain ⟨k,hk,rfl⟩:=List.mem_iff_getElem.1 hx
  exact hr k _ hk (bk hk)
def Tx (y:aW):Prop:=1≤y.fWeight∧y.fWeight≤1000000000000∧y.fStack.length≤32∧∀ x∈y.fStack,ej x = some 0
theorem awZ (l:List aW) (hl:l.length≤9223372036854775807) (hx:∀ x∈l,x.fStack.length≤9223372036854775807∧∀ y∈x.fStack,okN y):Ok (iY l) (fun r=>r = 0→(∀ y∈l,Tx y)∧∀ (k:Nat) y z,l[k]? = some y→l[k + 1]? = some z→y.fAt≤z.fAt):=by
 have key:Ok (iY l) (fun r=>r = 0→∀ (k:Nat) y,k < l.length→l[k]? = some y→Tx y∧∀ z,0 < k→l[k - 1]? = some z→z.fAt≤y.fAt):=by
  unfold iY
  refine pY (Q:=p3 (fun _=>∀ (k:Nat) y,k < l.length→l[k]? = some y→Tx y∧∀ z,0 < k→l[k - 1]? = some z→z.fAt≤y.fAt) (fun r=>r ≠ 0)) (EW l.length (fun n=>∀ (k:Nat) y,k < n→l[k]? = some y→Tx y∧∀ z,0 < k→l[k - 1]? = some z→z.fAt≤y.fAt) hl (fun k x h=>by omega) (fun i hI h2=>?_)) (fun _ hr=>a8 fun _=>hr) (fun r hr=>a8 fun e=>absurd e hr)
  unfold oq
  refine cV (fun hi=>?_) (fun hi=>dQ (show p3 _ _ (.inl ()) from fun k x hk=>hI k x (by omega)))
  have hil:i < l.length:=by omega
  refine bX (w5 hil) (fun y hy=>?_)
  have hym:=fw hy
  refine bX (Q:=fun b=>b = true→1≤y.fWeight∧y.fWeight≤1000000000000) ?_ (fun b hb=>?_)
  ·unfold Bx
   refine bX (Q:=fun b=>b = true→1≤y.fWeight∧y.fWeight≤1000000000000) ?_ (fun b hb=>a8 hb)
   refine cV (fun _=>?_) (fun _=>a8 (fun h=>by simp at h))
   refine cV (fun _=>?_) (fun _=>a8 (fun h=>by simp at h))
   refine cV (fun _=>?_) (fun _=>a8 (fun h=>by simp at h))
   refine cV (fun _=>?_) (fun _=>a8 (fun h=>by simp at h))
   refine cV (fun h1=>?_) (fun _=>a8 (fun h=>by simp at h))
   exact a8 fun h2=>⟨h1,of_decide_eq_true h2⟩
  refine H0 (fun e=>dQ (show p3 _ _ (.inr 2) from by show (2:Int) ≠ 0; omega)) (fun e=>?_)
  obtain ⟨w1,w2⟩:=hb e
  refine bX (aHJ y.fStack (hx y hym).1 (hx y hym).2) (fun r hr=>?_)
  refine xZ (fun hne=>dQ (show p3 _ _ (.inr r) from hne)) (fun he=>?_)
  obtain ⟨f1,f2⟩:=hr he
  refine bX (Q:=fun v=>v = false→∀ z,0 < i→l[i - 1]? = some z→z.fAt≤y.fAt) ?_ (fun v hv=>?_)
  ·refine cV (fun h0=>?_) (fun h0=>a8 fun _ z hz=>by omega)
   rw [d7 (by omega),show ((i:Int) - 1) = ((i - 1:Nat):Int) by omega]
   refine bX (w5 (by omega)) (fun z hz=>a8 fun h u _ hu=>?_)
   rw [hz] at hu; cases hu
   have:=of_decide_eq_false h
   omega
  refine gJ (fun e2=>dQ (show p3 _ _ (.inr 11) from by show (11:Int) ≠ 0; omega)) (fun e2=>?_)
  rw [qx (n:=l.length) hil hl]
  refine hJ ⟨hil,rfl,fun k x hk hkx=>?_⟩
  by_cases e3:k = i
  ·subst e3; rw [hy] at hkx; cases hkx
   exact ⟨⟨w1,w2,f1,f2⟩,hv e2⟩
  ·exact hI k x (by omega) hkx
 refine key.mono fun r hr h0=>⟨fun y hy=>?_,fun k y z hy hz=>?_⟩
 ·obtain ⟨k,hk,rfl⟩:=List.mem_iff_getElem.1 hy
  exact (hr h0 k _ hk (bk hk)).1
 ·have:=(hr h0 (k + 1) z (bw.1 hz).1 hz).2 y (by omega) (by rw [show k + 1 - 1 = k by omega]; exact hy)
  exact this
def CV (y:aW):Option Ent:=if y.fStack = [] then none else some { fPath:=y.fStack,fSelf:=y.fWeight,fCount:=1 }
def p4 (l:List aW):List Ent:=l.filterMap CV
theorem aDZ {l:List aW} {e:Ent} (h:e∈p4 l):∃ y∈l,y.fStack ≠ []∧e = { fPath:=y.fStack,fSelf:=y.fWeight,fCount:=1 }:=by
 obtain ⟨y,hy,h⟩:=List.mem_filterMap.1 h
 unfold CV at h
 split at h
 ·cases h
 ·rename_i hne
  cases h; exact ⟨y,hy,hne,rfl⟩
theorem aPx {E:List Ent} {m:Nat} (h:∀ e∈E,e.fPath.length + 1≤m):szE E≤E.length * m:=by
 induction E with
 | nil=>simp [szE]
 | cons a E ih =>
  have h1:=h a mw
  have h2:=ih fun e he=>h e (ik _ he)
  unfold szE at h2 ⊢
  simp only [lw,List.sum_cons,List.length_cons,Nat.succ_mul]
  omega
theorem agY {l:List aW} {n:Nat} (hn:n≤40) (hl:l.length≤n) (hg:∀ y∈l,Tx y) (hx:∀ x∈l,∀ y∈x.fStack,okN y):SmlE (p4 l)∧∀ q,kW (p4 l) q≤100000000000000∧q0 (p4 l) q≤20000:=by
 have hlen:(p4 l).length≤n:=Nat.le_trans (List.length_filterMap_le _ _) hl
 have hE:∀ e∈p4 l,1≤e.fSelf∧e.fSelf≤1000000000000∧e.fCount = 1∧e.fPath.length≤32∧e.fPath ≠ []∧∀ s∈e.fPath,okN s:=fun e he=>by
  obtain ⟨y,hy,h1,rfl⟩:=aDZ he
  obtain ⟨g1,g2,g3,g4⟩:=hg y hy
  exact ⟨g1,g2,rfl,g3,h1,hx y hy⟩
 have hsz:=aPx (E:=p4 l) (m:=33) fun e he=>by have:=(hE e he).2.2.2.1; omega
 have hs:=TW (fun e:Ent=>e.fSelf) 1000000000000 (by omega) (p4 l) fun e he=>⟨by have:=(hE e he).1; omega,(hE e he).2.1⟩
 have hc:=TW (fun e:Ent=>e.fCount) 1 (by omega) (p4 l) fun e he=>by have:=(hE e he).2.2.1; omega
 have h3:(((p4 l).length:Nat):Int) * 1000000000000≤40 * 1000000000000:=Int.mul_le_mul_of_nonneg_right (by omega) (by omega)
 have hb:BdE (p4 l):=⟨fun e he=>by have:=hE e he; exact ⟨by omega,by omega,this.2.2.2.2.1⟩,by omega,by omega,by omega⟩
 refine ⟨⟨hb,⟨aLZ (p4 l),by have:=aFV (p4 l); omega,fun q hq=>aBz hq⟩,by omega,fun e he=>by have:=(hE e he).2.2.2.1; omega,fun e he=>(hE e he).2.2.2.2.2⟩,fun q=>?_⟩
 have h1:=u9 (fun e:Ent=>e.fSelf) (fun e=>q = e.fPath) (p4 l) fun x hx=>(hb.num x hx).1
 have h2:=u9 (fun e:Ent=>e.fCount) (fun e=>q = e.fPath) (p4 l) fun x hx=>(hb.num x hx).2.1
 unfold kW q0
 omega
theorem ZX:∀ (l:List aW) (ar:Ar),(∀ y∈l,y.fStack.length≤1000000)→(l.map VY).foldlM F2 ar = (p4 l).foldlM W1 ar
 | [],ar,_=>rfl
 | y :: l,ar,h=>by
  have ih:=fun ar=>ZX l ar fun z hz=>h z (ik _ hz)
  rw [lw,List.foldlM_cons]
  unfold p4 at ih ⊢
  by_cases e:y.fStack = []
  ·have h1:F2 ar (VY y) = some ar:=by unfold F2 VY; simp only [e,if_pos]
   rw [h1,List.filterMap_cons,show CV y = none by unfold CV; rw [if_pos e]]
   exact ih ar
  ·have h1:F2 ar (VY y) = W1 ar { fPath:=y.fStack,fSelf:=y.fWeight,fCount:=1 }:=by
    unfold F2 VY W1
    simp only [if_neg e,if_pos (h y mw)]
   rw [h1,List.filterMap_cons,show CV y = some { fPath:=y.fStack,fSelf:=y.fWeight,fCount:=1 } by unfold CV; rw [if_neg e]]
   rw [List.foldlM_cons]
   cases W1 ar { fPath:=y.fStack,fSelf:=y.fWeight,fCount:=1 } with
   | none=>rfl
   | some a=>exact ih a
theorem aQx (l:List aW) (hl:l.length≤40):loop (eZ l) ([],0) = some (p4 l):=by
 have:Ok (loop (eZ l) ([],0)) (fun r=>r = p4 l):=by
  refine Ez l.length (fun (a:List Ent) n=>a = p4 (l.take n)∧a.length≤n) (by omega) ⟨rfl,gw _⟩ (fun a i hI h2=>?_)
  obtain ⟨rfl,hal⟩:=hI
  unfold eZ
  dsimp only
  refine cV (fun hi=>?_) (fun hi=>dQ ?_)
  ·have hil:i < l.length:=by omega
   obtain ⟨y,hy⟩ : ∃ y,l[i]? = some y:=⟨l[i]'hil,bk hil⟩
   have hsn:p4 (l.take (i + 1)) = p4 (l.take i)++(CV y).toList:=by
    rw [yZ hy]; unfold p4; rw [List.filterMap_append]
    congr 1
   rw [fJ,hy]
   simp only [ck]
   refine bX (Q:=fun r=>r = p4 (l.take (i + 1))) ?_ (fun r hr=>?_)
   ·refine cV (fun h=>?_) (fun h=>a8 ?_)
    ·have hne:y.fStack ≠ []:=fun e=>by rw [e] at h; simp at h
     rw [BZ (by simp; omega) (by simp; omega)]
     simp only [cond_true]
     refine a8 ?_
     rw [hsn]; unfold CV; rw [if_neg hne]; rfl
    ·have hne:y.fStack = []:=by
      have:y.fStack.length = 0:=by omega
      exact ek this
     rw [hsn]; unfold CV; rw [if_pos hne]; simp
   ·rw [qx (n:=l.length) hil (by omega),hr]
    refine hJ ⟨hil,rfl,rfl,?_⟩
    show (p4 (l.take (i + 1))).length≤i + 1
    have:=List.length_filterMap_le CV (l.take (i + 1))
    rw [List.length_take] at this
    unfold p4; omega
  ·have:i = l.length:=by omega
   subst this
   rw [List.take_length]
 obtain ⟨r,h1,h2⟩:=this
 rw [h1,h2]
theorem axQ (l:List aW) (hl:l.length≤20) (hx:∀ x∈l,x.fStack.length≤9223372036854775807∧∀ y∈x.fStack,okN y) :
  ∃ r,oz l = some r∧d9 l = some r∧((iY l = some r.2∧r.2 ≠ 0∧r.1 = [])∨(iY l = some 0∧(∀ y∈l,Tx y)∧(∀ (k:Nat) y z,l[k]? = some y→l[k + 1]? = some z→y.fAt≤z.fAt)∧∃ all g c,DocG (p4 l) all g∧j6 g = some c∧(c = 0↔ValF g)∧r = if c = 0 then (g,0) else ([],c))):=by
 obtain ⟨e,he,hg⟩:=awZ l (by omega) hx
 by_cases e0:e = 0
 ·subst e0
  obtain ⟨hg,hsr⟩:=hg rfl
  obtain ⟨hS,hcap⟩:=agY (n:=20) (by omega) hl hg fun x hx'=>(hx x hx').2
  obtain ⟨all,g,c,hD,hc,hV,hof⟩:=aSZ hS
  obtain ⟨ar,out,w,h1,h2,h3,h4,h5⟩:=aIV hS hcap hD
  refine ⟨if c = 0 then (g,0) else ([],c),?_,?_,.inr ⟨he,hg,hsr,all,g,c,hD,hc,hV,rfl⟩⟩
  ·unfold oz ofSamplesF
   rw [he]
   simp only [ck,nk,decide_true,cond_true]
   rw [decide_eq_true (by omega),cond_true,ZX l ar0 fun y hy=>by have:=(hg y hy).2.2.1; omega,h1]
   simp only [ck,h2,cond_true]
   unfold G0
   rw [h3]
   simp only [ck]
   rw [decide_eq_true (by omega),cond_true]
   unfold aCj
   rw [h5,hc]
   simp only [kw]
   by_cases e:c = 0
   ·simp only [e,decide_true,cond_true,if_pos]; rw [h5]
   ·simp only [e,decide_false,cond_false,jw]; rfl
  ·unfold d9
   rw [← Zj,he]
   simp only [ck,decide_true,Bool.not_true,cond_false]
   rw [aQx l (by omega)]
   simp only [ck,hof]
 ·refine ⟨([],e),?_,?_,.inl ⟨he,e0,rfl⟩⟩
  ·unfold oz ofSamplesF
   rw [he]
   simp only [ck,nk]
   rw [decide_eq_true (by omega),cond_true,decide_eq_false e0]
   rfl
  ·unfold d9
   rw [← Zj,he]
   simp [e0]
theorem ayJ {α:Type} (f:Nat→Int) (h:α→Int) (l:List α) (hf:∀ (k:Nat) y,l[k]? = some y→f k = h y):∀ n,n≤l.length→dW f n = ((l.take n).map h).sum:=by
 intro n
 induction n with
 | zero=>intro _; rfl
 | succ n ih =>
  intro hn
  obtain ⟨y,hy⟩ : ∃ y,l[n]? = some y:=⟨l[n]'(by omega),bk _⟩
  rw [yZ hy,List.map_append,List.sum_append,← ih (by omega)]
  simp only [dW,hf n y hy,lw,List.map_nil,List.sum_cons,List.sum_nil,Int.add_zero]
theorem aMV {all:List Ent} (hs:E1 all) {q:Pth} (c:Int) (hq:∃ x∈all,x.fPath = q):(all.map fun x=>if x.fPath = q then c else 0).sum = c:=by
 induction all with
 | nil=>obtain ⟨x,hx,_⟩:=hq; simp at hx
 | cons a all ih =>
  unfold E1 at hs
  rw [List.pairwise_cons] at hs
  simp only [lw,List.sum_cons]
  by_cases e:a.fPath = q
  ·have h0:(all.map fun x=>if x.fPath = q then c else 0).sum = 0:=by
    have:∀ l:List Ent,(∀ x∈l,x.fPath ≠ q)→(l.map fun x=>if x.fPath = q then c else 0).sum = 0:=by
     intro l
     induction l with
     | nil=>intro _; rfl
     | cons b l ih2 =>
      intro h
      simp only [lw,List.sum_cons,if_neg (h b mw)]
      rw [ih2 fun x hx=>h x (ik _ hx)]; rfl
    refine this all fun x hx e2=>?_
    have:=hs.1 x hx
    rw [e,e2] at this; exact pX this
   rw [if_pos e,h0]; omega
  ·rw [if_neg e,ih hs.2 (by
    obtain ⟨x,hx,e2⟩:=hq
    rcases List.mem_cons.1 hx with rfl | hx
    ·exact absurd e2 e
    ·exact ⟨x,hx,e2⟩)]
   omega
theorem aiV {all:List Ent} (hs:E1 all):∀ E:List Ent,(∀ e∈E,∃ x∈all,x.fPath = e.fPath)→(all.map fun x=>kW E x.fPath).sum = (E.map (·.fSelf)).sum
 | [],_=>by
  have:∀ l:List Ent,(l.map fun x=>kW [] x.fPath).sum = 0:=by
   intro l
   induction l with
   | nil=>rfl
   | cons a l ih=>rw [lw,List.sum_cons,ih]; rfl
  exact this all
 | e :: E,h=>by
  have ih:=aiV hs E fun x hx=>h x (ik _ hx)
  have h1:=aMV hs e.fSelf (h e mw)
  have add:∀ l:List Ent,(l.map fun x=>kW (e :: E) x.fPath).sum = (l.map fun x=>if x.fPath = e.fPath then e.fSelf else 0).sum + (l.map fun x=>kW E x.fPath).sum:=by
   intro l
   induction l with
   | nil=>rfl
   | cons a l ih =>
    simp only [lw,List.sum_cons,ih]
    have:kW (e :: E) a.fPath = (if a.fPath = e.fPath then e.fSelf else 0) + kW E a.fPath:=rfl
    rw [this]; omega
  rw [add,h1,ih]
  rfl
theorem anZ {all:List Ent} {g:List az} (h:NodesE all g):g.map (·.fSelf) = all.map (·.fSelf):=by
 apply List.ext_getElem?
 intro j
 rw [ow,ow]
 by_cases hj:j < all.length
 ·obtain ⟨x,hx⟩ : ∃ x,all[j]? = some x:=⟨all[j]'hj,bk hj⟩
  obtain ⟨y,hy⟩ : ∃ y,g[j]? = some y:=⟨g[j]'(by rw [h.len]; exact hj),bk _⟩
  obtain ⟨p,_,e,_⟩:=h.nod j x y hx hy
  rw [hx,hy,kw,kw,e]
 ·have:=h.len
  rw [List.getElem?_eq_none (l:=g) (by omega),List.getElem?_eq_none (l:=all) (by omega)]
  rfl
theorem DocG.self {E all:List Ent} {g:List az} (hE:BdE E) (h:DocG E all g):dW (n7 g) g.length = (E.map (·.fSelf)).sum:=by
 rw [ayJ (n7 g) (·.fSelf) g (fun k y hy=>rq hy) g.length (gw _),List.take_length,anZ h.nod]
 rw [← aiV h.inv.srt E fun e he=>(h.inv.key _).2 ⟨(hE.num e he).2.2,e,he,List.prefix_refl _⟩]
 congr 1
 exact List.map_congr_left fun x hx=>(h.inv.val x hx).1
theorem afx (l:List az) (hl:l.length≤9223372036854775807):gX l l = some true:=by
 have:Ok (gX l l) (fun b=>b = true):=by
  unfold gX
  simp only [decide_true,Bool.not_true,cond_false]
  refine pY (Q:=p3 Yes (fun _=>False)) (EW l.length (fun _=>True) hl trivial (fun i _ h2=>?_)) (fun _ _=>a8 rfl) (fun r hr=>hr.elim)
  unfold nq
  refine cV (fun hi=>?_) (fun _=>dQ (show p3 Yes _ (.inl ()) from trivial))
  refine bX (w5 (by omega)) (fun y hy=>?_)
  rw [fJ,hy]
  simp only [ck,decide_true,Bool.and_self,bne_self_eq_false,cond_false]
  rw [qx (n:=l.length) (by omega) hl]
  exact hJ ⟨by omega,rfl,trivial⟩
 obtain ⟨r,h1,h2⟩:=this
 rw [h1,h2]
theorem aoK (e:yX) (h:e.fStack.length≤9223372036854775807):Ok (i5 e) Yes:=by
 unfold i5
 refine bX (Q:=Yes) (cV (fun _=>rZ) (fun _=>rZ)) (fun v _=>?_)
 refine gJ (fun _=>rZ) (fun _=>?_)
 refine pY (Q:=p3 Yes Yes) (EW e.fStack.length (fun _=>True) h trivial (fun i _ h2=>?_)) (fun _ _=>rZ) (fun _ _=>rZ)
 unfold mX
 refine cV (fun hi=>?_) (fun _=>dQ (show p3 Yes Yes (.inl ()) from trivial))
 refine bX (w5 (by omega)) (fun y hy=>?_)
 refine cV (fun _=>dQ (show p3 Yes Yes (.inr false) from trivial)) (fun _=>?_)
 rw [qx (n:=e.fStack.length) (by omega) h]
 exact hJ ⟨by omega,rfl,trivial⟩
theorem aAx (l:List aW) (hl:l.length≤9223372036854775807) (hx:∀ x∈l,x.fStack.length≤9223372036854775807):Ok (kQ l) Yes:=by
 unfold kQ
 refine cV (fun _=>rZ) (fun _=>?_)
 refine pY (Q:=p3 Yes Yes) (EW l.length (fun _=>True) hl trivial (fun i _ h2=>?_)) (fun _ _=>rZ) (fun _ _=>rZ)
 unfold o4
 refine cV (fun hi=>?_) (fun _=>dQ (show p3 Yes Yes (.inl ()) from trivial))
 refine bX (w5 (by omega)) (fun y hy=>?_)
 refine bX (aoK _ (hx y (fw hy))) (fun v _=>?_)
 refine H0 (fun _=>dQ (show p3 Yes Yes (.inr false) from trivial)) (fun _=>?_)
 rw [qx (n:=l.length) (by omega) hl]
 exact hJ ⟨by omega,rfl,trivial⟩
theorem aRJ (l:List aW) (hl:l.length≤40) (hg:∀ y∈l,Tx y):loop (cz l) (0,0) = some (((p4 l).map (·.fSelf)).sum):=by
 have:Ok (loop (cz l) (0,0)) (fun r=>r = ((p4 l).map (·.fSelf)).sum):=by
  refine Ez l.length (fun (a:Int) n=>a = ((p4 (l.take n)).map (·.fSelf)).sum∧0≤a∧a≤n * 1000000000000) (by omega) ⟨rfl,by omega,by omega⟩ (fun a i hI h2=>?_)
  obtain ⟨h1,h3,h4⟩:=hI
  unfold cz
  dsimp only
  refine cV (fun hi=>?_) (fun hi=>dQ ?_)
  ·have hil:i < l.length:=by omega
   obtain ⟨y,hy⟩ : ∃ y,l[i]? = some y:=⟨l[i]'hil,bk hil⟩
   obtain ⟨g1,g2,_,_⟩:=hg y (fw hy)
   have hsn:p4 (l.take (i + 1)) = p4 (l.take i)++(CV y).toList:=by
    rw [yZ hy]; unfold p4; rw [List.filterMap_append]
    congr 1
   have hm:((i + 1:Nat):Int) * 1000000000000 = i * 1000000000000 + 1000000000000:=by
    rw [show ((i + 1:Nat):Int) = (i:Int) + 1 by omega,Int.add_mul,Int.one_mul]
   have hib:(i:Int) * 1000000000000≤40 * 1000000000000:=Int.mul_le_mul_of_nonneg_right (by omega) (by omega)
   rw [fJ,hy]
   simp only [ck]
   refine bX (Q:=fun r=>r = ((p4 (l.take (i + 1))).map (·.fSelf)).sum∧0≤r∧r≤((i + 1:Nat):Int) * 1000000000000) ?_ (fun r hr=>?_)
   ·refine cV (fun h=>a8 ?_) (fun h=>a8 ?_)
    ·have hne:y.fStack ≠ []:=fun e=>by rw [e] at h; simp at h
     rw [d7 (by omega),hsn,List.map_append,List.sum_append,← h1,hm]
     unfold CV; rw [if_neg hne]
     simp only [Option.toList,lw,List.map_nil,List.sum_cons,List.sum_nil]
     omega
    ·have hne:y.fStack = []:=by
      have:y.fStack.length = 0:=by omega
      exact ek this
     rw [hsn,List.map_append,List.sum_append,← h1,hm]
     unfold CV; rw [if_pos hne]
     simp only [Option.toList,List.map_nil,List.sum_nil]
     omega
   ·rw [qx (n:=l.length) hil (by omega)]
    exact hJ ⟨hil,rfl,hr⟩
  ·have:i = l.length:=by omega
   subst this
   rw [List.take_length] at h1; exact h1
 obtain ⟨r,h1,h2⟩:=this
 rw [h1,h2]
theorem afX:lz = some true:=rfl
theorem VX (l:List aW) (hl:l.length≤9223372036854775807) (hx:∀ x∈l,x.fStack.length≤9223372036854775807∧∀ y∈x.fStack,okN y):bW l = some true:=by
 have:Ok (bW l) (fun b=>b = true):=by
  unfold bW
  rw [afX]
  simp only [ck,Bool.not_true,cond_false]
  refine bX (Q:=fun v=>v = false→l.length≤20) (bX (aAx l hl fun x h=>(hx x h).1) (fun b _=>H0 (fun _=>a8 (by simp)) (fun _=>a8 (fun e=>by have:=of_decide_eq_false e; omega)))) (fun v hv=>?_)
  refine gJ (fun _=>a8 rfl) (fun e=>?_)
  have h20:=hv e
  obtain ⟨r,r1,r2,hr⟩:=axQ l h20 hx
  rw [r1,r2]
  simp only [ck,decide_true,Bool.not_true,cond_false]
  have hrl:r.1.length≤9223372036854775807:=by
   rcases hr with ⟨_,_,h⟩ | ⟨_,_,_,all,g,c,hD,_,_,h⟩
   ·rw [h]; simp
   ·rw [h]; split
    ·have:=hD.nod.len; have:=hD.len; simp only; omega
    ·simp
  rw [afx r.1 hrl]
  simp only [ck,Bool.not_true,cond_false]
  rcases hr with ⟨h1,h2,h3⟩ | ⟨h1,hg,_,all,g,c,hD,hc,hV,rfl⟩
  ·
   have hs:Ok (loop (cz l) (0,0)) Yes:=by
    refine Ez l.length (fun _ _=>True) (Post:=Yes) hl trivial (fun s i _ h2=>?_)
    unfold cz
    dsimp only
    refine cV (fun hi=>?_) (fun _=>dQ trivial)
    obtain ⟨y,hy⟩ : ∃ y,l[i]? = some y:=⟨l[i]'(by omega),bk _⟩
    rw [fJ,hy]
    simp only [ck]
    refine bX (Q:=Yes) (cV (fun _=>rZ) (fun _=>rZ)) (fun v _=>?_)
    rw [qx (n:=l.length) (by omega) hl]
    exact hJ ⟨by omega,rfl,trivial⟩
   obtain ⟨s,hs,_⟩:=hs
   rw [hs]
   simp only [ck,h2,decide_false,Bool.not_false,cond_true]
   exact a8 rfl
  ·rw [aRJ l (by omega) hg]
   simp only [ck]
   by_cases e0:c = 0
   ·subst e0
    have V:=hV.1 rfl
    have hS:=(agY (n:=20) (by omega) h20 hg fun x h=>(hx x h).2).1
    have hn:=aiQ hD.inv hS.nam hD.nod
    simp only [if_pos,decide_true,Bool.not_true,cond_false]
    rw [aUx V hn,hD.self hS.bd]
    simp only [ck,decide_true,cond_true]
    rw [hc]
    exact a8 rfl
   ·rw [if_neg e0]
    simp only [e0,decide_false,Bool.not_false,cond_true]
    exact a8 rfl
 obtain ⟨r,h1,h2⟩:=this
 rw [h1,h2]
theorem aSX {l:List aW} (h:iz l):l.length≤9223372036854775807∧∀ x∈l,x.fStack.length≤9223372036854775807∧∀ y∈x.fStack,okN y:=by
 have e:reachBytes = 140737488351232:=by decide
 unfold iz okL at h
 rw [e] at h
 refine ⟨by omega,fun x hx=>?_⟩
 have h1:=(h.2 x hx).2.2.2
 unfold okL at h1
 rw [e] at h1
 refine ⟨by omega,fun y hy=>?_⟩
 have h2:ByteArray.size y≤reachBytes:=h1.2 y hy
 rw [e] at h2
 unfold okN; omega
theorem flameSamples_holds (l:List aW) (h:iz l):bW l = some true:=VX l (aSX h).1 (aSX h).2
end Go.VM
