/- The law holds: plain mathematics on what the functions compute. -/
import Derived.Test.YtinhkpcgdfppkaaL26B
namespace Go.VM
def firstL {α ρ : Type} (g : Nat → α → Option ρ) : List α → Nat → Option ρ
 | [], _ => none
 | y :: ys, i => match g i y with
  | some r => some r
  | none => firstL g ys (i + 1)
theorem forL_first {α ρ : Type} (g : Nat → α → Option ρ) (e : ρ) : ∀ (xs : List α) (i : Nat), forL (fun i y (_ : Unit) => match g i y with | some r => Sum.inr r | none => .inl ()) (fun _ => e) xs i () = (firstL g xs i).getD e
 | [], _ => rfl
 | y :: ys, i => by
  simp only [forL, firstL]
  cases g i y with
  | some r => rfl
  | none => exact forL_first g e ys (i + 1)
theorem loop_first {α ρ : Type} {step : Int → Option (Int ⊕ ρ)} (xs : List α) (g : Nat → α → Option ρ) (e : ρ) (hl : xs.length < manyRounds)
  (h1 : ∀ (i : Nat) y, xs[i]? = some y → step (i : Int) = some (match g i y with | some r => .inr r | none => .inl ((i : Int) + 1))) (h2 : step (xs.length : Int) = some (.inr e)) : loop step 0 = some ((firstL g xs 0).getD e) := by
 have := loop_for0 (σ := Unit) (step := step) xs (fun i _ => (i : Int)) (fun i y _ => match g i y with | some r => .inr r | none => .inl ()) (fun _ => e) hl
  (fun i y s hy => by
   rw [h1 i y hy]
   cases g i y <;> simp)
  (fun _ => h2) ()
 rw [show (0 : Int) = ((0 : Nat) : Int) from rfl, this, forL_first]
theorem lt_of_get {α : Type} {xs : List α} {i : Nat} {y : α} (h : xs[i]? = some y) : i < xs.length := (List.getElem?_eq_some_iff.1 h).1
theorem w64_nat {i : Nat} (h : i < 9223372036854775807) : w64 ((i : Int) + 1) = (i : Int) + 1 := w64_of (by omega)
end Go.VM
namespace Go.VM
def Ok {α : Type} (x : Option α) (P : α → Prop) : Prop := ∃ r, x = some r ∧ P r
def Yes {α : Type} : α → Prop := fun _ => True
def InlR {α β : Type} (A : α → Prop) (B : β → Prop) : α ⊕ β → Prop
 | .inl a => A a
 | .inr b => B b
theorem ok_some {α : Type} {P : α → Prop} {r : α} (h : P r) : Ok (some r) P := ⟨r, rfl, h⟩
theorem ok_inl {α β : Type} {A : α → Prop} {B : β → Prop} {a : α} (h : A a) : Ok (some (.inl a)) (InlR A B) := ⟨_, rfl, h⟩
theorem ok_inr {α β : Type} {A : α → Prop} {B : β → Prop} {b : β} (h : B b) : Ok (some (.inr b)) (InlR A B) := ⟨_, rfl, h⟩
theorem ok_bind {α β : Type} {x : Option α} {f : α → Option β} {Q : α → Prop} {P : β → Prop} (hx : Ok x Q) (hf : ∀ r, Q r → Ok (f r) P) : Ok (x.bind f) P := by
 obtain ⟨r, h1, h2⟩ := hx
 subst h1; exact hf r h2
theorem ok_bindS {α β γ : Type} {x : Option (α ⊕ γ)} {f : α ⊕ γ → Option β} {Q : α ⊕ γ → Prop} {P : β → Prop} (hx : Ok x Q) (hf : ∀ r, Q (.inl r) → Ok (f (.inl r)) P) (hg : ∀ r, Q (.inr r) → Ok (f (.inr r)) P) : Ok (x.bind f) P :=
 ok_bind hx (fun r => match r with | .inl a => hf a | .inr b => hg b)
theorem ok_cond {α : Type} {b : Bool} {x y : Option α} {P : α → Prop} (h1 : b = true → Ok x P) (h2 : b = false → Ok y P) : Ok (cond b x y) P := by
 cases b
 ·exact h2 rfl
 ·exact h1 rfl
theorem Ok.mono {α : Type} {x : Option α} {P Q : α → Prop} (h : Ok x P) (hq : ∀ r, P r → Q r) : Ok x Q := by
 obtain ⟨r, h1, h2⟩ := h; exact ⟨r, h1, hq r h2⟩
theorem Ok.yes {α : Type} {x : Option α} {P : α → Prop} (h : Ok x P) : Ok x Yes := h.mono (fun _ _ => trivial)
theorem ok_idx {α : Type} {xs : List α} {i : Int} (h1 : 0 ≤ i) (h2 : i < xs.length) : Ok (idx xs i) (fun y => xs[i.toNat]? = some y) := by
 obtain ⟨n, rfl⟩ := Int.eq_ofNat_of_zero_le h1
 have h3 : n < xs.length := by omega
 rw [idx_nat]
 exact ⟨xs[n], by simp [h3], by simp [h3]⟩
theorem ok_loop {S ρ : Type} {step : S → Option (S ⊕ ρ)} (Inv : S → Prop) (m : S → Nat) {Post : ρ → Prop}
  (h : ∀ s, Inv s → Ok (step s) (InlR (fun s' => Inv s' ∧ m s' < m s) Post)) {s : S} (hs : Inv s) (hm : m s < manyRounds) : Ok (loop step s) Post := by
 refine loop_inv Inv m Post (fun s hs => ?_) hs hm
 obtain ⟨r, h1, h2⟩ := h s hs
 cases r with
 | inl a => exact Or.inl ⟨a, h1, h2⟩
 | inr b => exact Or.inr ⟨b, h1, h2⟩
theorem ok_up {ρ : Type} {step : Int → Option (Int ⊕ ρ)} (n : Nat) {Post : ρ → Prop} (hn : n ≤ 9223372036854775807)
  (h : ∀ i : Int, 0 ≤ i → i ≤ n → Ok (step i) (InlR (fun a => i < n ∧ a = i + 1) Post)) : Ok (loop step 0) Post := by
 refine ok_loop (fun i : Int => 0 ≤ i ∧ i ≤ (n : Int)) (fun i : Int => ((n : Int) - i).toNat) (fun i hi => (h i hi.1 hi.2).mono ?_) ⟨by omega, by omega⟩ (by simp [manyRounds]; omega)
 rintro (a | b) hr
 ·obtain ⟨h1, rfl⟩ : i < n ∧ a = i + 1 := hr
  exact ⟨⟨by omega, by omega⟩, by omega⟩
 ·exact hr
theorem ok_yes {α : Type} {r : α} : Ok (some r) Yes := ⟨r, rfl, trivial⟩
theorem ok_inlY {α β : Type} {B : β → Prop} {a : α} : Ok (some (.inl a)) (InlR Yes B) := ⟨_, rfl, trivial⟩
theorem ok_inrY {α β : Type} {A : α → Prop} {b : β} : Ok (some (.inr b)) (InlR A Yes) := ⟨_, rfl, trivial⟩
theorem ok_next {ρ : Type} {i : Int} {n : Nat} {P : ρ → Prop} (h1 : 0 ≤ i) (h2 : i < (n : Int)) (h3 : n ≤ 9223372036854775807) : Ok (some (.inl (w64 (i + 1)))) (InlR (fun a : Int => i < (n : Int) ∧ a = i + 1) P) :=
 ok_inl ⟨h2, w64_of (by omega)⟩
theorem ok_ite {α : Type} {p : Prop} [Decidable p] {x y : Option α} {P : α → Prop} (h1 : p → Ok x P) (h2 : ¬p → Ok y P) : Ok (cond (decide p) x y) P :=
 ok_cond (fun h => h1 (of_decide_eq_true h)) (fun h => h2 (of_decide_eq_false h))
theorem ok_nite {α : Type} {p : Prop} [Decidable p] {x y : Option α} {P : α → Prop} (h1 : ¬p → Ok x P) (h2 : p → Ok y P) : Ok (cond (!decide p) x y) P := by
 by_cases h : p
 ·simpa [h] using h2 h
 ·simpa [h] using h1 h
theorem ok_not {α : Type} {b : Bool} {x y : Option α} {P : α → Prop} (h1 : b = false → Ok x P) (h2 : b = true → Ok y P) : Ok (cond (!b) x y) P := by
 cases b
 ·exact h1 rfl
 ·exact h2 rfl
abbrev Tot {α : Type} (x : Option α) : Prop := Ok x Yes
theorem ok_up2 {σ ρ : Type} {step : σ × Int → Option ((σ × Int) ⊕ ρ)} (n : Nat) (Inv : σ → Int → Prop) {Post : ρ → Prop} (hn : n ≤ 9223372036854775807) {s0 : σ} (h0 : Inv s0 0)
  (h : ∀ (s : σ) (i : Int), Inv s i → 0 ≤ i → i ≤ n → Ok (step (s, i)) (InlR (fun a => i < n ∧ a.2 = i + 1 ∧ Inv a.1 (i + 1)) Post)) : Ok (loop step (s0, 0)) Post := by
 refine ok_loop (fun s : σ × Int => Inv s.1 s.2 ∧ 0 ≤ s.2 ∧ s.2 ≤ (n : Int)) (fun s : σ × Int => ((n : Int) - s.2).toNat) (fun s hi => (h s.1 s.2 hi.1 hi.2.1 hi.2.2).mono ?_) ⟨h0, by simp, by simp⟩ (by simp [manyRounds]; omega)
 rintro (⟨a, j⟩ | b) hr
 ·obtain ⟨h1, h2, h3⟩ : s.2 < n ∧ j = s.2 + 1 ∧ Inv a (s.2 + 1) := hr
  subst h2
  exact ⟨⟨h3, by simp; omega, by simp; omega⟩, by simp; omega⟩
 ·exact hr
theorem ok_next2 {σ ρ : Type} {s : σ} {i : Int} {n : Nat} {Inv : σ → Int → Prop} {P : ρ → Prop} (hI : Inv s (i + 1)) (h1 : 0 ≤ i) (h2 : i < (n : Int)) (h3 : n ≤ 9223372036854775807) : Ok (some (.inl (s, w64 (i + 1)))) (InlR (fun a : σ × Int => i < (n : Int) ∧ a.2 = i + 1 ∧ Inv a.1 (i + 1)) P) :=
 ok_inl ⟨h2, w64_of (by omega), hI⟩
theorem ok_upI {ρ : Type} {step : Int → Option (Int ⊕ ρ)} (n : Nat) (Inv : Int → Prop) {Post : ρ → Prop} (hn : n ≤ 9223372036854775807) (h0 : Inv 0)
  (h : ∀ i : Int, Inv i → 0 ≤ i → i ≤ n → Ok (step i) (InlR (fun a => i < n ∧ a = i + 1 ∧ Inv (i + 1)) Post)) : Ok (loop step 0) Post := by
 refine ok_loop (fun i : Int => Inv i ∧ 0 ≤ i ∧ i ≤ (n : Int)) (fun i : Int => ((n : Int) - i).toNat) (fun i hi => (h i hi.1 hi.2.1 hi.2.2).mono ?_) ⟨h0, by omega, by omega⟩ (by simp [manyRounds]; omega)
 rintro (a | b) hr
 ·obtain ⟨h1, rfl, h3⟩ : i < n ∧ a = i + 1 ∧ Inv (i + 1) := hr
  exact ⟨⟨h3, by omega, by omega⟩, by omega⟩
 ·exact hr
theorem ok_nextI {ρ : Type} {i : Int} {n : Nat} {Inv : Int → Prop} {P : ρ → Prop} (hI : Inv (i + 1)) (h1 : 0 ≤ i) (h2 : i < (n : Int)) (h3 : n ≤ 9223372036854775807) : Ok (some (.inl (w64 (i + 1)))) (InlR (fun a : Int => i < (n : Int) ∧ a = i + 1 ∧ Inv (i + 1)) P) :=
 ok_inl ⟨h2, w64_of (by omega), hI⟩
theorem intern_letter_ok (c : Int) : Ok (intern_letter c) Yes := by
 unfold intern_letter strings_IndexByte internal_stringslite_IndexByte
 repeat' (first | (with_reducible first | exact ok_yes | exact ok_inrY | exact ok_inlY | refine ok_nite (fun _ => ?_) fun _ => ?_ | refine ok_ite (fun _ => ?_) fun _ => ?_ | refine ok_not (fun _ => ?_) fun _ => ?_ | refine ok_cond (fun _ => ?_) fun _ => ?_) | (with_reducible refine ok_next ?_ ?_ ?_ <;> (first | assumption | omega | rw [w64_of] <;> omega)) | with_reducible refine ok_bind (ok_idx (by (first | assumption | omega | rw [w64_of] <;> omega)) (by (first | assumption | omega | rw [w64_of] <;> omega))) (fun _ _ => ?_) | (with_reducible refine ok_bind (Q := Yes) ?_ fun _ _ => ?_) | dsimp only)
theorem intern_Name_ok (s : ByteArray) (h : s.size ≤ 9223372036854775807) : Ok (intern_Name s) Yes := by
 unfold intern_Name
 refine ok_bind (Q := Yes) ?_ (fun v _ => ?_)
 ·repeat' (first | (with_reducible first | exact ok_yes | exact ok_inrY | exact ok_inlY | refine ok_nite (fun _ => ?_) fun _ => ?_ | refine ok_ite (fun _ => ?_) fun _ => ?_ | refine ok_not (fun _ => ?_) fun _ => ?_ | refine ok_cond (fun _ => ?_) fun _ => ?_) | (with_reducible refine ok_next ?_ ?_ ?_ <;> (first | assumption | omega | rw [w64_of] <;> omega)) | with_reducible refine ok_bind (ok_idx (by (first | assumption | omega | rw [w64_of] <;> omega)) (by (first | assumption | omega | rw [w64_of] <;> omega))) (fun _ _ => ?_) | (with_reducible refine ok_bind (Q := Yes) ?_ fun _ _ => ?_) | dsimp only)
 refine ok_cond (fun _ => ok_some trivial) (fun _ => ?_)
 have e : s.data.toList.length = s.size := by rw [Array.length_toList]; rfl
 refine ok_bindS (Q := Yes) (ok_up s.size h fun i h1 h2 => ?_) (fun _ _ => ?_) (fun _ _ => ?_)
 ·unfold intern_Name_L1
  repeat' (first | (with_reducible first | exact ok_yes | exact ok_inrY | exact ok_inlY | refine ok_nite (fun _ => ?_) fun _ => ?_ | refine ok_ite (fun _ => ?_) fun _ => ?_ | refine ok_not (fun _ => ?_) fun _ => ?_ | refine ok_cond (fun _ => ?_) fun _ => ?_) | (with_reducible refine ok_next ?_ ?_ ?_ <;> (first | assumption | omega | rw [w64_of] <;> omega)) | with_reducible refine ok_bind (ok_idx (by (first | assumption | omega | rw [w64_of] <;> omega)) (by (first | assumption | omega | rw [w64_of] <;> omega))) (fun _ _ => ?_) | (with_reducible refine Ok.yes (ok_idx ?_ (by rw [e]; (first | assumption | omega | rw [w64_of] <;> omega))) <;> (first | assumption | omega | rw [w64_of] <;> omega)) | (with_reducible refine Ok.yes (intern_letter_ok _) <;> (first | assumption | omega | rw [w64_of] <;> omega)) | (with_reducible refine ok_bind (Q := Yes) ?_ fun _ _ => ?_) | dsimp only)
 ·repeat' (first | (with_reducible first | exact ok_yes | exact ok_inrY | exact ok_inlY | refine ok_nite (fun _ => ?_) fun _ => ?_ | refine ok_ite (fun _ => ?_) fun _ => ?_ | refine ok_not (fun _ => ?_) fun _ => ?_ | refine ok_cond (fun _ => ?_) fun _ => ?_) | (with_reducible refine ok_next ?_ ?_ ?_ <;> (first | assumption | omega | rw [w64_of] <;> omega)) | with_reducible refine ok_bind (ok_idx (by (first | assumption | omega | rw [w64_of] <;> omega)) (by (first | assumption | omega | rw [w64_of] <;> omega))) (fun _ _ => ?_) | (with_reducible refine ok_bind (Q := Yes) ?_ fun _ _ => ?_) | dsimp only)
 ·repeat' (first | (with_reducible first | exact ok_yes | exact ok_inrY | exact ok_inlY | refine ok_nite (fun _ => ?_) fun _ => ?_ | refine ok_ite (fun _ => ?_) fun _ => ?_ | refine ok_not (fun _ => ?_) fun _ => ?_ | refine ok_cond (fun _ => ?_) fun _ => ?_) | (with_reducible refine ok_next ?_ ?_ ?_ <;> (first | assumption | omega | rw [w64_of] <;> omega)) | with_reducible refine ok_bind (ok_idx (by (first | assumption | omega | rw [w64_of] <;> omega)) (by (first | assumption | omega | rw [w64_of] <;> omega))) (fun _ _ => ?_) | (with_reducible refine ok_bind (Q := Yes) ?_ fun _ _ => ?_) | dsimp only)
abbrev okN (s : ByteArray) : Prop := s.size ≤ 9223372036854775807
theorem spans_Valid_ok (s : api_Span) : Ok (spans_Valid s) Yes := by
 unfold spans_Valid
 repeat' (first | (with_reducible first | exact ok_yes | exact ok_inrY | exact ok_inlY | refine ok_nite (fun _ => ?_) fun _ => ?_ | refine ok_ite (fun _ => ?_) fun _ => ?_ | refine ok_not (fun _ => ?_) fun _ => ?_ | refine ok_cond (fun _ => ?_) fun _ => ?_) | (with_reducible refine ok_next ?_ ?_ ?_ <;> (first | assumption | omega | rw [w64_of] <;> omega)) | with_reducible refine ok_bind (ok_idx (by (first | assumption | omega | rw [w64_of] <;> omega)) (by (first | assumption | omega | rw [w64_of] <;> omega))) (fun _ _ => ?_) | (with_reducible refine ok_bind (Q := Yes) ?_ fun _ _ => ?_) | dsimp only)
theorem cmp_Compare_int_ok (a b : Int) : Ok (cmp_Compare_int a b) Yes := by
 unfold cmp_Compare_int cmp_isNaN_int
 repeat' (first | (with_reducible first | exact ok_yes | exact ok_inrY | exact ok_inlY | refine ok_nite (fun _ => ?_) fun _ => ?_ | refine ok_ite (fun _ => ?_) fun _ => ?_ | refine ok_not (fun _ => ?_) fun _ => ?_ | refine ok_cond (fun _ => ?_) fun _ => ?_) | (with_reducible refine ok_next ?_ ?_ ?_ <;> (first | assumption | omega | rw [w64_of] <;> omega)) | with_reducible refine ok_bind (ok_idx (by (first | assumption | omega | rw [w64_of] <;> omega)) (by (first | assumption | omega | rw [w64_of] <;> omega))) (fun _ _ => ?_) | (with_reducible refine ok_bind (Q := Yes) ?_ fun _ _ => ?_) | dsimp only)
theorem cmp_Or_int_ok (l : List Int) (h : l.length ≤ 9223372036854775807) : Ok (cmp_Or_int l) Yes := by
 unfold cmp_Or_int
 refine ok_bindS (Q := Yes) (ok_up l.length (by omega) fun i h1 h2 => ?_) (fun _ _ => ?_) (fun _ _ => ?_)
 ·unfold cmp_Or_int_L1
  repeat' (first | (with_reducible first | exact ok_yes | exact ok_inrY | exact ok_inlY | refine ok_nite (fun _ => ?_) fun _ => ?_ | refine ok_ite (fun _ => ?_) fun _ => ?_ | refine ok_not (fun _ => ?_) fun _ => ?_ | refine ok_cond (fun _ => ?_) fun _ => ?_) | (with_reducible refine ok_next ?_ ?_ ?_ <;> (first | assumption | omega | rw [w64_of] <;> omega)) | with_reducible refine ok_bind (ok_idx (by (first | assumption | omega | rw [w64_of] <;> omega)) (by (first | assumption | omega | rw [w64_of] <;> omega))) (fun _ _ => ?_) | (with_reducible refine ok_bind (Q := Yes) ?_ fun _ _ => ?_) | dsimp only)
 ·repeat' (first | (with_reducible first | exact ok_yes | exact ok_inrY | exact ok_inlY | refine ok_nite (fun _ => ?_) fun _ => ?_ | refine ok_ite (fun _ => ?_) fun _ => ?_ | refine ok_not (fun _ => ?_) fun _ => ?_ | refine ok_cond (fun _ => ?_) fun _ => ?_) | (with_reducible refine ok_next ?_ ?_ ?_ <;> (first | assumption | omega | rw [w64_of] <;> omega)) | with_reducible refine ok_bind (ok_idx (by (first | assumption | omega | rw [w64_of] <;> omega)) (by (first | assumption | omega | rw [w64_of] <;> omega))) (fun _ _ => ?_) | (with_reducible refine ok_bind (Q := Yes) ?_ fun _ _ => ?_) | dsimp only)
 ·repeat' (first | (with_reducible first | exact ok_yes | exact ok_inrY | exact ok_inlY | refine ok_nite (fun _ => ?_) fun _ => ?_ | refine ok_ite (fun _ => ?_) fun _ => ?_ | refine ok_not (fun _ => ?_) fun _ => ?_ | refine ok_cond (fun _ => ?_) fun _ => ?_) | (with_reducible refine ok_next ?_ ?_ ?_ <;> (first | assumption | omega | rw [w64_of] <;> omega)) | with_reducible refine ok_bind (ok_idx (by (first | assumption | omega | rw [w64_of] <;> omega)) (by (first | assumption | omega | rw [w64_of] <;> omega))) (fun _ _ => ?_) | (with_reducible refine ok_bind (Q := Yes) ?_ fun _ _ => ?_) | dsimp only)
theorem slice_compare_ok (a b : api_Slice) : Ok (slice_compare a b) Yes := by
 unfold slice_compare
 repeat' (first | (with_reducible first | exact ok_yes | exact ok_inrY | exact ok_inlY | refine ok_nite (fun _ => ?_) fun _ => ?_ | refine ok_ite (fun _ => ?_) fun _ => ?_ | refine ok_not (fun _ => ?_) fun _ => ?_ | refine ok_cond (fun _ => ?_) fun _ => ?_) | (with_reducible refine ok_next ?_ ?_ ?_ <;> (first | assumption | omega | rw [w64_of] <;> omega)) | with_reducible refine ok_bind (ok_idx (by (first | assumption | omega | rw [w64_of] <;> omega)) (by (first | assumption | omega | rw [w64_of] <;> omega))) (fun _ _ => ?_) | (with_reducible refine Ok.yes (cmp_Compare_int_ok _ _) <;> (first | assumption | omega | rw [w64_of] <;> omega)) | (with_reducible refine Ok.yes (cmp_Or_int_ok _ (Nat.le_of_ble_eq_true rfl)) <;> (first | assumption | omega | rw [w64_of] <;> omega)) | (with_reducible refine ok_bind (Q := Yes) ?_ fun _ _ => ?_) | dsimp only)
def Up (l : List api_Slice) (n : Int) : Prop := ∀ (j : Nat) y, (j : Int) < n → l[j]? = some y → -1 ≤ y.fParent ∧ y.fParent < (j : Int)
theorem slice_nested_ok (l : List api_Slice) (h : l.length ≤ 9223372036854775807) : Ok (slice_nested l) (fun b => b = true → Up l l.length) := by
 unfold slice_nested
 refine ok_bindS (Q := InlR (fun _ => Up l l.length) (fun b => b = false)) (ok_upI l.length (Up l) h (by intro j y hj; omega) (fun i hI h1 h2 => ?_)) (fun _ hq => ok_some (fun _ => hq)) (fun r hr => ok_some (fun e => ?_))
 ·unfold slice_nested_L1
  refine ok_ite (fun hi => ?_) (fun hi => ok_inr (by have : i = l.length := (by omega); subst this; exact hI))
  refine ok_bind (ok_idx h1 hi) (fun y hy => ?_)
  have no : InlR (fun _ : Unit => Up l l.length) (fun b => b = false) (.inr false) := rfl
  refine ok_bind (Q := fun v => v = false → -1 ≤ y.fParent ∧ y.fParent < i) ?_ (fun v hv => ?_)
  ·refine ok_ite (fun _ => ok_some (by simp)) (fun h3 => ok_some (fun h4 => ?_))
   have := of_decide_eq_false h4
   omega
  refine ok_cond (fun _ => ok_inr no) (fun h0 => ?_)
  have hp := hv h0
  have nx : Up l (i + 1) := by
   intro j z hj hz
   by_cases e : (j : Int) = i
   ·have : i.toNat = j := by omega
    rw [this] at hy
    rw [hy] at hz; cases hz
    omega
   ·exact hI j z (by omega) hz
  refine ok_ite (fun _ => ?_) (fun hne => ?_)
  ·refine ok_nite (fun _ => ok_inr no) (fun _ => ok_nextI nx h1 hi h)
  ·refine ok_bind (ok_idx (by omega) (by omega)) (fun z _ => ?_)
   refine ok_bind (Q := Yes) (by repeat' (first | (with_reducible first | exact ok_yes | exact ok_inrY | exact ok_inlY | refine ok_nite (fun _ => ?_) fun _ => ?_ | refine ok_ite (fun _ => ?_) fun _ => ?_ | refine ok_not (fun _ => ?_) fun _ => ?_ | refine ok_cond (fun _ => ?_) fun _ => ?_) | (with_reducible refine ok_next ?_ ?_ ?_ <;> (first | assumption | omega | rw [w64_of] <;> omega)) | with_reducible refine ok_bind (ok_idx (by (first | assumption | omega | rw [w64_of] <;> omega)) (by (first | assumption | omega | rw [w64_of] <;> omega))) (fun _ _ => ?_) | (with_reducible refine ok_bind (Q := Yes) ?_ fun _ _ => ?_) | dsimp only)) (fun v _ => ?_)
   refine ok_cond (fun _ => ok_inr no) (fun _ => ok_nextI nx h1 hi h)
 ·have : r = false := hr
  simp [this] at e
theorem slice_under_ok (l : List api_Slice) (h : l.length ≤ 9223372036854775807) (hu : Up l l.length) (a b : Int) (hb : b < l.length) : Tot (slice_under l a b) := by
 unfold slice_under
 refine ok_bindS (Q := Yes) (ok_loop (fun i : Int => i < l.length) (fun i : Int => (i + 1).toNat) (fun i hi => ?_) hb (by simp [manyRounds]; omega)) (fun _ _ => ok_yes) (fun _ _ => ok_yes)
 unfold slice_under_L1
 refine ok_ite (fun h0 => ?_) (fun _ => ok_inrY)
 refine ok_ite (fun _ => ok_inrY) (fun _ => ?_)
 refine ok_bind (ok_idx h0 hi) (fun y hy => ?_)
 have := hu i.toNat y (by omega) hy
 exact ok_inl ⟨by omega, by omega⟩
theorem slice_apart_ok (l : List api_Slice) (h : l.length ≤ 9223372036854775807) (hu : Up l l.length) : Tot (slice_apart l) := by
 unfold slice_apart
 refine ok_bindS (Q := Yes) (ok_up l.length h fun i h1 h2 => ?_) (fun _ _ => ok_yes) (fun _ _ => ok_yes)
 unfold slice_apart_L2
 refine ok_ite (fun hi => ?_) (fun _ => ok_inrY)
 refine ok_bind (ok_idx h1 hi) (fun y hy => ?_)
 refine ok_bindS (Q := InlR Yes (InlR (fun _ => False) Yes)) (ok_up2 l.length (fun _ _ => True) h trivial (fun a j _ h3 h4 => ?_)) (fun _ _ => ?_) (fun r hr => ?_)
 ·unfold slice_apart_L1
  dsimp only
  refine ok_ite (fun hj => ?_) (fun _ => ok_inr trivial)
  refine ok_bind (ok_idx h3 hj) (fun z hz => ?_)
  refine ok_bind (Q := Yes) (by repeat' (first | (with_reducible first | exact ok_yes | exact ok_inrY | exact ok_inlY | refine ok_nite (fun _ => ?_) fun _ => ?_ | refine ok_ite (fun _ => ?_) fun _ => ?_ | refine ok_not (fun _ => ?_) fun _ => ?_ | refine ok_cond (fun _ => ?_) fun _ => ?_) | (with_reducible refine ok_next ?_ ?_ ?_ <;> (first | assumption | omega | rw [w64_of] <;> omega)) | with_reducible refine ok_bind (ok_idx (by (first | assumption | omega | rw [w64_of] <;> omega)) (by (first | assumption | omega | rw [w64_of] <;> omega))) (fun _ _ => ?_) | (with_reducible refine ok_bind (Q := Yes) ?_ fun _ _ => ?_) | dsimp only)) (fun v _ => ?_)
  refine ok_bind (Q := Yes) (by repeat' (first | (with_reducible first | exact ok_yes | exact ok_inrY | exact ok_inlY | refine ok_nite (fun _ => ?_) fun _ => ?_ | refine ok_ite (fun _ => ?_) fun _ => ?_ | refine ok_not (fun _ => ?_) fun _ => ?_ | refine ok_cond (fun _ => ?_) fun _ => ?_) | (with_reducible refine ok_next ?_ ?_ ?_ <;> (first | assumption | omega | rw [w64_of] <;> omega)) | with_reducible refine ok_bind (ok_idx (by (first | assumption | omega | rw [w64_of] <;> omega)) (by (first | assumption | omega | rw [w64_of] <;> omega))) (fun _ _ => ?_) | (with_reducible refine Ok.yes (slice_under_ok l h hu _ _ hi) <;> (first | assumption | omega | rw [w64_of] <;> omega)) | (with_reducible refine ok_bind (Q := Yes) ?_ fun _ _ => ?_) | dsimp only)) (fun v _ => ?_)
  refine ok_cond (fun _ => ok_inr trivial) (fun _ => ok_next2 (Inv := fun _ _ => True) trivial h3 hj h)
 ·dsimp only
  repeat' (first | (with_reducible first | exact ok_yes | exact ok_inrY | exact ok_inlY | refine ok_nite (fun _ => ?_) fun _ => ?_ | refine ok_ite (fun _ => ?_) fun _ => ?_ | refine ok_not (fun _ => ?_) fun _ => ?_ | refine ok_cond (fun _ => ?_) fun _ => ?_) | (with_reducible refine ok_next ?_ ?_ ?_ <;> (first | assumption | omega | rw [w64_of] <;> omega)) | with_reducible refine ok_bind (ok_idx (by (first | assumption | omega | rw [w64_of] <;> omega)) (by (first | assumption | omega | rw [w64_of] <;> omega))) (fun _ _ => ?_) | (with_reducible refine ok_bind (Q := Yes) ?_ fun _ _ => ?_) | dsimp only)
 ·rcases r with r | r
  ·exact (hr : False).elim
  ·exact ok_inrY
theorem slice_Check_ok (l : List api_Slice) (h : l.length ≤ 9223372036854775807) (hx : ∀ x ∈ l, okN x.fName) : Tot (slice_Check l) := by
 unfold slice_Check
 refine ok_bindS (Q := Yes) (ok_up l.length h fun i h1 h2 => ?_) (fun _ _ => ?_) (fun _ _ => ok_yes)
 ·unfold slice_Check_L1
  repeat' (first | (with_reducible first | exact ok_yes | exact ok_inrY | exact ok_inlY | refine ok_nite (fun _ => ?_) fun _ => ?_ | refine ok_ite (fun _ => ?_) fun _ => ?_ | refine ok_not (fun _ => ?_) fun _ => ?_ | refine ok_cond (fun _ => ?_) fun _ => ?_) | (with_reducible refine ok_next ?_ ?_ ?_ <;> (first | assumption | omega | rw [w64_of] <;> omega)) | with_reducible refine ok_bind (ok_idx (by (first | assumption | omega | rw [w64_of] <;> omega)) (by (first | assumption | omega | rw [w64_of] <;> omega))) (fun _ _ => ?_) | (with_reducible refine Ok.yes (slice_compare_ok _ _) <;> (first | assumption | omega | rw [w64_of] <;> omega)) | (with_reducible refine Ok.yes (spans_Valid_ok _) <;> (first | assumption | omega | rw [w64_of] <;> omega)) | (with_reducible refine Ok.yes (intern_Name_ok _ (hx _ (List.mem_of_getElem? (by assumption)))) <;> (first | assumption | omega | rw [w64_of] <;> omega)) | (with_reducible refine ok_bind (Q := Yes) ?_ fun _ _ => ?_) | dsimp only)
 ·dsimp only
  refine ok_bind (Q := Yes) ?_ (fun _ _ => by repeat' (first | (with_reducible first | exact ok_yes | exact ok_inrY | exact ok_inlY | refine ok_nite (fun _ => ?_) fun _ => ?_ | refine ok_ite (fun _ => ?_) fun _ => ?_ | refine ok_not (fun _ => ?_) fun _ => ?_ | refine ok_cond (fun _ => ?_) fun _ => ?_) | (with_reducible refine ok_next ?_ ?_ ?_ <;> (first | assumption | omega | rw [w64_of] <;> omega)) | with_reducible refine ok_bind (ok_idx (by (first | assumption | omega | rw [w64_of] <;> omega)) (by (first | assumption | omega | rw [w64_of] <;> omega))) (fun _ _ => ?_) | (with_reducible refine ok_bind (Q := Yes) ?_ fun _ _ => ?_) | dsimp only))
  refine ok_bind (slice_nested_ok l h) (fun b hb => ?_)
  refine ok_not (fun _ => ok_yes) (fun e => ?_)
  repeat' (first | (with_reducible first | exact ok_yes | exact ok_inrY | exact ok_inlY | refine ok_nite (fun _ => ?_) fun _ => ?_ | refine ok_ite (fun _ => ?_) fun _ => ?_ | refine ok_not (fun _ => ?_) fun _ => ?_ | refine ok_cond (fun _ => ?_) fun _ => ?_) | (with_reducible refine ok_next ?_ ?_ ?_ <;> (first | assumption | omega | rw [w64_of] <;> omega)) | with_reducible refine ok_bind (ok_idx (by (first | assumption | omega | rw [w64_of] <;> omega)) (by (first | assumption | omega | rw [w64_of] <;> omega))) (fun _ _ => ?_) | (with_reducible refine Ok.yes (slice_apart_ok l h (hb e)) <;> (first | assumption | omega | rw [w64_of] <;> omega)) | (with_reducible refine ok_bind (Q := Yes) ?_ fun _ _ => ?_) | dsimp only)
theorem loop_res {S ρ : Type} {step : S → Option (S ⊕ ρ)} {Q : ρ → Prop} (h : ∀ s r, step s = some (.inr r) → Q r) {s : S} {r : ρ} (hr : loop step s = some r) : Q r := by
 have key : ∀ n s, iter step n s = some r → Q r := by
  intro n
  induction n with
  | zero => intro s h; simp [iter] at h
  | succ n ih =>
   intro s hs
   rw [iter_succ] at hs
   cases e : step s with
   | none => rw [e] at hs; simp at hs
   | some x =>
    rw [e] at hs
    cases x with
    | inl s' => exact ih s' hs
    | inr r' => simp only [Option.some.injEq] at hs; subst hs; exact h s _ e
 exact key _ s hr
theorem letter_eq (y : UInt8) : intern_letter (y.toNat : Int) = tracebookref06_letter (y.toNat : Int) := by
 have h : (List.range 256).all (fun n => decide (intern_letter (n : Int) = tracebookref06_letter (n : Int))) = true := by kernel_rfl
 exact of_decide_eq_true (List.all_eq_true.1 h y.toNat (List.mem_range.2 (UInt8.toNat_lt y)))
theorem empty_iff (s : ByteArray) : s = ⟨#[]⟩ ↔ (s.size : Int) < 1 := by
 constructor
 ·intro h; subst h; decide
 ·intro h
  cases s with
  | mk a =>
   have : a.size = 0 := by
    have : (ByteArray.mk a).size = a.size := rfl
    omega
   rw [Array.eq_empty_of_size_eq_zero this]
theorem Name_eq (s : ByteArray) : intern_Name s = tracebookref06_Name s := by
 unfold intern_Name tracebookref06_Name
 have h1 : intern_Name_L1 s = tracebookref06_Name_L1 s := by
  funext i
  simp only [intern_Name_L1, tracebookref06_Name_L1, letter_eq]
 have h2 : decide (s = ⟨#[]⟩) = decide ((ByteArray.size s : Int) < 1) := decide_eq_decide.2 (empty_iff s)
 rw [h1, h2] <;> rfl
theorem Valid_eq (s : api_Span) : tracebookref04_Valid s = spans_Valid s := rfl
theorem cmpI_eq (a b : Int) : cmp_Compare_int a b = some (if a < b then -1 else if b < a then 1 else 0) := by
 unfold cmp_Compare_int cmp_isNaN_int
 by_cases h1 : a < b <;> by_cases h2 : b < a <;> simp [h1, h2]
def orI : List Int → Int
 | [] => 0
 | x :: r => if x = 0 then orI r else x
theorem orI_first : ∀ (l : List Int) (i : Nat), (match (firstL (fun _ y => if y = 0 then none else some (.inr y)) l i).getD (.inl ()) with | (.inl _ : Unit ⊕ Int) => 0 | .inr rv => rv) = orI l
 | [], _ => rfl
 | x :: r, i => by
  simp only [firstL, orI]
  by_cases h : x = 0
  ·simp only [h, if_true]; exact orI_first r (i + 1)
  ·simp [h]
theorem cmpOr_eq (l : List Int) (hl : l.length ≤ 9223372036854775807) : cmp_Or_int l = some (orI l) := by
 unfold cmp_Or_int
 rw [loop_first l (fun _ y => if y = 0 then none else some (.inr y)) (.inl ()) (by simp [manyRounds]; omega) (fun i y hy => ?_) (by simp [cmp_Or_int_L1])]
 ·rw [Option.bind_some, ← orI_first l 0]
  generalize (firstL _ l 0).getD (Sum.inl ()) = q
  cases q <;> rfl
 ·have hi := lt_of_get hy
  have h1 : (i : Int) < l.length := by omega
  simp only [cmp_Or_int_L1, h1, decide_true, cond_true, idx_nat, hy, Option.bind_some]
  by_cases h : y = 0 <;> simp [h, w64_nat (i := i) (by omega)]
theorem compare_eq (a b : api_Slice) : ∃ c, slice_compare a b = some c ∧ tracebookref26_Precedes b a = some (decide (0 < c)) := by
 refine ⟨orI [if a.fSpan.fFrom < b.fSpan.fFrom then -1 else if b.fSpan.fFrom < a.fSpan.fFrom then 1 else 0, if b.fSpan.fTo < a.fSpan.fTo then -1 else if a.fSpan.fTo < b.fSpan.fTo then 1 else 0, if a.fThread < b.fThread then -1 else if b.fThread < a.fThread then 1 else 0], ?_, ?_⟩
 ·unfold slice_compare
  simp only [cmpI_eq, Option.bind_some]
  rw [cmpOr_eq _ (Nat.le_of_ble_eq_true rfl), Option.bind_some]
 ·unfold tracebookref26_Precedes
  simp only [orI]
  by_cases h1 : a.fSpan.fFrom < b.fSpan.fFrom
  ·have h2 : ¬ b.fSpan.fFrom = a.fSpan.fFrom := by omega
   have h3 : ¬ b.fSpan.fFrom < a.fSpan.fFrom := by omega
   simp [h1, h2, h3]
  ·by_cases h2 : b.fSpan.fFrom < a.fSpan.fFrom
   ·have h3 : ¬ b.fSpan.fFrom = a.fSpan.fFrom := by omega
    simp [h1, h2, h3]
   ·have h3 : b.fSpan.fFrom = a.fSpan.fFrom := by omega
    simp only [h1, h2, h3, decide_true, Bool.not_true, cond_false, if_false, if_true]
    by_cases h4 : b.fSpan.fTo < a.fSpan.fTo
    ·have h5 : ¬ b.fSpan.fTo = a.fSpan.fTo := by omega
     have h6 : ¬ a.fSpan.fTo < b.fSpan.fTo := by omega
     simp [h4, h5, h6]
    ·by_cases h5 : a.fSpan.fTo < b.fSpan.fTo
     ·have h6 : ¬ b.fSpan.fTo = a.fSpan.fTo := by omega
      simp [h4, h5, h6]
     ·have h6 : b.fSpan.fTo = a.fSpan.fTo := by omega
      by_cases h7 : a.fThread < b.fThread
      ·have h8 : ¬ b.fThread < a.fThread := by omega
       simp [h6, h7, h8]
      ·by_cases h8 : b.fThread < a.fThread <;> simp [h6, h7, h8]
theorem nested_step (l : List api_Slice) : slice_nested_L1 l = tracebookref26_formed_L3 l := by
 funext i
 unfold slice_nested_L1 tracebookref26_formed_L3
 cases e : idx l i with
 | none => rfl
 | some y =>
  simp only [Option.bind_some]
  congr 1
  by_cases h1 : y.fParent < -1
  ·simp [h1]
  ·by_cases h2 : i ≤ y.fParent
   ·simp [h1, h2]
   ·simp only [h1, h2, decide_false, cond_false, Option.bind_some]
    by_cases h3 : y.fParent = -1
    ·rw [h3]
     by_cases h4 : y.fDepth = 0 <;> simp [h4]
    ·have h5 : 0 ≤ y.fParent := by omega
     simp only [h3, h5, decide_false, decide_true, cond_false, cond_true, Option.bind_some]
     cases idx l y.fParent with
     | none => rfl
     | some z =>
      simp only [Option.bind_some, tracebookref26_contains]
      by_cases g1 : z.fThread = y.fThread <;> by_cases g2 : y.fSpan.fFrom < z.fSpan.fFrom <;> by_cases g3 : z.fSpan.fTo < y.fSpan.fTo <;> by_cases g4 : y.fDepth = w64 (z.fDepth + 1) <;>
       simp [g1, g2, g3, g4, Int.not_lt.1, Int.not_le.2] <;> (first | (rw [show (decide (z.fSpan.fFrom ≤ y.fSpan.fFrom)) = false from decide_eq_false (by omega)]; rfl) | (rw [show (decide (z.fSpan.fFrom ≤ y.fSpan.fFrom)) = true from decide_eq_true (by omega)]; first | rfl | (rw [show (decide (y.fSpan.fTo ≤ z.fSpan.fTo)) = false from decide_eq_false (by omega)]; rfl) | (rw [show (decide (y.fSpan.fTo ≤ z.fSpan.fTo)) = true from decide_eq_true (by omega)]; rfl)) | skip)
inductive Desc (l : List api_Slice) (j : Int) : Int → Prop
 | self : Desc l j j
 | up {a : Int} {y : api_Slice} : 0 ≤ a → l[a.toNat]? = some y → Desc l j y.fParent → Desc l j a
theorem Desc.le {l : List api_Slice} (hu : Up l l.length) {j a : Int} (h : Desc l j a) : j ≤ a := by
 induction h with
 | self => omega
 | up h0 hy _ ih =>
  have := hu _ _ (by have := lt_of_get hy; omega) hy
  omega
theorem Desc.step {l : List api_Slice} {j a : Int} {y : api_Slice} (h0 : 0 ≤ a) (hy : l[a.toNat]? = some y) (hne : j ≠ a) : Desc l j a ↔ Desc l j y.fParent := by
 constructor
 ·intro h
  cases h with
  | self => exact absurd rfl hne
  | up _ hy' h => rw [hy] at hy'; cases hy'; exact h
 ·exact Desc.up h0 hy
theorem under_ok (l : List api_Slice) (h : l.length ≤ 9223372036854775807) (hu : Up l l.length) (j i : Int) (hj : 0 ≤ j) (hi : i < l.length) : Ok (slice_under l j i) (fun r => r = true ↔ Desc l j i) := by
 unfold slice_under
 refine ok_bindS (Q := InlR (fun _ => ¬ Desc l j i) (fun r => r = true ∧ Desc l j i)) (ok_loop (fun s : Int => s < l.length ∧ (Desc l j s ↔ Desc l j i)) (fun s : Int => (s + 1).toNat) (fun s hs => ?_) ⟨hi, Iff.rfl⟩ (by simp [manyRounds]; omega)) (fun _ hq => ok_some ⟨fun e => by simp at e, fun e => absurd e hq⟩) (fun r hr => ok_some ⟨fun _ => hr.2, fun _ => hr.1⟩)
 obtain ⟨h1, h2⟩ := hs
 unfold slice_under_L1
 refine ok_ite (fun h0 => ?_) (fun h0 => ok_inr (fun e => ?_))
 ·refine ok_ite (fun e => ok_inr ⟨rfl, h2.1 (e ▸ Desc.self)⟩) (fun hne => ?_)
  refine ok_bind (ok_idx h0 h1) (fun y hy => ?_)
  have := hu s.toNat y (by omega) hy
  exact ok_inl ⟨⟨by omega, (Desc.step h0 hy hne).symm.trans h2⟩, by omega⟩
 ·have := (h2.2 e).le hu; omega
theorem above_ok (l : List api_Slice) (h : l.length ≤ 9223372036854775807) (hu : Up l l.length) (j i : Int) (hj : 0 ≤ j) (hi : i < l.length) : Ok (tracebookref26_above l j i) (fun r => r = true ↔ Desc l j i) := by
 unfold tracebookref26_above
 refine ok_bind (Q := fun a => (Desc l j a ↔ Desc l j i) ∧ a ≤ j) (ok_loop (fun s : Int => s < l.length ∧ (Desc l j s ↔ Desc l j i)) (fun s : Int => (s + 1).toNat) (fun s hs => ?_) ⟨hi, Iff.rfl⟩ (by simp [manyRounds]; omega)) (fun a ha => ok_some ?_)
 ·obtain ⟨h1, h2⟩ := hs
  unfold tracebookref26_above_L1
  refine ok_bind (Q := fun v => (v = true ↔ 0 ≤ s ∧ j < s)) ?_ (fun v hv => ?_)
  ·by_cases g1 : 0 ≤ s <;> by_cases g2 : j < s <;> simp [g1, g2, Ok]
  ·refine ok_cond (fun e => ?_) (fun e => ok_inr ⟨h2, ?_⟩)
   ·obtain ⟨h0, hlt⟩ := hv.1 e
    refine ok_bind (ok_idx h0 h1) (fun y hy => ?_)
    have := hu s.toNat y (by omega) hy
    exact ok_inl ⟨⟨by omega, (Desc.step h0 hy (by omega)).symm.trans h2⟩, by omega⟩
   ·have : ¬ (0 ≤ s ∧ j < s) := fun hh => by have := hv.2 hh; simp [e] at this
    omega
 ·rw [← ha.1]
  constructor
  ·intro e
   rw [← of_decide_eq_true e]
   exact Desc.self
  ·intro hd
   have := hd.le hu
   exact decide_eq_true (by omega)
def sumTo (l : List api_Slice) (i s0 : Int) : Nat → Int
 | 0 => s0
 | n + 1 => match l[n]? with
  | some z => if z.fParent = i then w64 (sumTo l i s0 n - w64 (z.fSpan.fTo - z.fSpan.fFrom)) else sumTo l i s0 n
  | none => sumTo l i s0 n
def Bad (l : List api_Slice) (j i : Int) (z y : api_Slice) : Prop := z.fThread = y.fThread ∧ y.fSpan.fFrom < z.fSpan.fTo ∧ z.fSpan.fFrom < y.fSpan.fTo ∧ ¬ Desc l j i
def Apart (l : List api_Slice) : Prop := ∀ (i : Nat) y, l[i]? = some y → y.fSelf = sumTo l i (w64 (y.fSpan.fTo - y.fSpan.fFrom)) l.length ∧ ∀ (j : Nat) z, j < i → l[j]? = some z → ¬ Bad l j i z y
def Apart' (l : List api_Slice) : Prop := ∀ (i : Nat) y, l[i]? = some y → y.fSelf = sumTo l i (w64 (y.fSpan.fTo - y.fSpan.fFrom)) l.length ∧ ∀ (j : Nat) z, i < j → l[j]? = some z → ¬ Bad l i j y z
theorem apart_iff (l : List api_Slice) : Apart l ↔ Apart' l := by
 constructor
 ·intro h i y hy
  exact ⟨(h i y hy).1, fun j z hj hz => (h j z hz).2 i y hj hy⟩
 ·intro h i y hy
  exact ⟨(h i y hy).1, fun j z hj hz => (h j z hz).2 i y hj hy⟩
theorem sumTo_step {l : List api_Slice} {i s0 : Int} {n : Nat} {z : api_Slice} (hz : l[n]? = some z) : Ok (bif decide (z.fParent = i) then some (w64 (sumTo l i s0 n - w64 (z.fSpan.fTo - z.fSpan.fFrom))) else some (sumTo l i s0 n)) (fun v => v = sumTo l i s0 (n + 1)) := by
 refine ok_ite (fun e => ok_some ?_) (fun e => ok_some ?_) <;> simp [sumTo, hz, e]
theorem ok_up2N {σ ρ : Type} {step : σ × Int → Option ((σ × Int) ⊕ ρ)} (n : Nat) (Inv : σ → Nat → Prop) {Post : ρ → Prop} (hn : n ≤ 9223372036854775807) {s0 : σ} (h0 : Inv s0 0)
  (h : ∀ (s : σ) (i : Nat), Inv s i → i ≤ n → Ok (step (s, (i : Int))) (InlR (fun a => i < n ∧ a.2 = ((i + 1 : Nat) : Int) ∧ Inv a.1 (i + 1)) Post)) : Ok (loop step (s0, 0)) Post := by
 refine ok_up2 n (fun s i => Inv s i.toNat) hn h0 (fun s i hI h1 h2 => ?_)
 obtain ⟨k, rfl⟩ := Int.eq_ofNat_of_zero_le h1
 refine (h s k hI (by omega)).mono ?_
 rintro (⟨a, b⟩ | b) hr
 ·obtain ⟨h3, h4, h5⟩ : k < n ∧ b = ((k + 1 : Nat) : Int) ∧ Inv a (k + 1) := hr
  refine ⟨by omega, by omega, ?_⟩
  rw [show ((k : Int) + 1).toNat = k + 1 by omega]; exact h5
 ·exact hr
theorem ok_upN {ρ : Type} {step : Int → Option (Int ⊕ ρ)} (n : Nat) (Inv : Nat → Prop) {Post : ρ → Prop} (hn : n ≤ 9223372036854775807) (h0 : Inv 0)
  (h : ∀ i : Nat, Inv i → i ≤ n → Ok (step (i : Int)) (InlR (fun a => i < n ∧ a = ((i + 1 : Nat) : Int) ∧ Inv (i + 1)) Post)) : Ok (loop step 0) Post := by
 refine ok_upI n (fun i => Inv i.toNat) hn h0 (fun i hI h1 h2 => ?_)
 obtain ⟨k, rfl⟩ := Int.eq_ofNat_of_zero_le h1
 refine (h k hI (by omega)).mono ?_
 rintro (b | b) hr
 ·obtain ⟨h3, h4, h5⟩ : k < n ∧ b = ((k + 1 : Nat) : Int) ∧ Inv (k + 1) := hr
  refine ⟨by omega, by omega, ?_⟩
  rw [show ((k : Int) + 1).toNat = k + 1 by omega]; exact h5
 ·exact hr
theorem ok_ixN {α : Type} {xs : List α} {i : Nat} (h : i < xs.length) : Ok (idx xs (i : Int)) (fun y => xs[i]? = some y) := by
 rw [idx_nat]; exact ⟨xs[i], by simp [h], by simp [h]⟩
theorem w64_N {i n : Nat} (h : i < n) (hn : n ≤ 9223372036854775807) : w64 ((i : Int) + 1) = ((i + 1 : Nat) : Int) := by rw [w64_of (by omega)]; omega
theorem apart_ok (l : List api_Slice) (h : l.length ≤ 9223372036854775807) (hu : Up l l.length) : Ok (slice_apart l) (fun b => b = true ↔ Apart l) := by
 unfold slice_apart
 let A : Nat → Prop := fun n => ∀ (i : Nat) y, i < n → l[i]? = some y → y.fSelf = sumTo l i (w64 (y.fSpan.fTo - y.fSpan.fFrom)) l.length ∧ ∀ (j : Nat) z, j < i → l[j]? = some z → ¬ Bad l j i z y
 refine ok_bindS (Q := InlR (fun _ => Apart l) (fun b => b = false ∧ ¬ Apart l)) (ok_upN l.length A h (by intro i y hi; omega) (fun i hI h2 => ?_)) (fun _ hq => ok_some ⟨fun _ => hq, fun _ => rfl⟩) (fun r hr => ok_some ⟨fun e => by rw [hr.1] at e; simp at e, fun e => absurd e hr.2⟩)
 unfold slice_apart_L2
 refine ok_ite (fun hi => ?_) (fun hi => ok_inr (fun i' y hy => hI i' y (by have := lt_of_get hy; omega) hy))
 refine ok_bind (ok_ixN (by omega)) (fun y hy => ?_)
 refine ok_bindS (Q := InlR (fun e => e = sumTo l i (w64 (y.fSpan.fTo - y.fSpan.fFrom)) l.length ∧ ∀ (j : Nat) z, j < i → l[j]? = some z → ¬ Bad l j i z y) (InlR (fun _ => False) (fun r => r = .inr false ∧ ¬ Apart l))) (ok_up2N l.length (fun a n => a = sumTo l i (w64 (y.fSpan.fTo - y.fSpan.fFrom)) n ∧ ∀ (j : Nat) z, j < n → j < i → l[j]? = some z → ¬ Bad l j i z y) h ⟨rfl, by intro j z hj; omega⟩ (fun a j hJ h4 => ?_)) (fun e he => ?_) (fun r hr => ?_)
 ·unfold slice_apart_L1
  dsimp only
  refine ok_ite (fun hj => ?_) (fun hj => ok_inr ⟨?_, fun j' z hj' hz => hJ.2 j' z (by have := lt_of_get hz; omega) hj' hz⟩)
  ·refine ok_bind (ok_ixN (by omega)) (fun z hz => ?_)
   rw [hJ.1]
   refine ok_bind (sumTo_step hz) (fun v hv => ?_)
   refine ok_bind (Q := fun b => b = true ↔ (j < i ∧ Bad l j i z y)) ?_ (fun b hb => ?_)
   ·refine ok_ite (fun h5 => ?_) (fun h5 => ok_some ⟨fun e => by simp at e, fun e => absurd e.1 (by omega)⟩)
    refine ok_ite (fun h6 => ?_) (fun h6 => ok_some ⟨fun e => by simp at e, fun e => absurd e.2.1 h6⟩)
    refine ok_ite (fun h7 => ?_) (fun h7 => ok_some ⟨fun e => by simp at e, fun e => absurd e.2.2.1 h7⟩)
    refine ok_ite (fun h8 => ?_) (fun h8 => ok_some ⟨fun e => by simp at e, fun e => absurd e.2.2.2.1 h8⟩)
    refine ok_bind (under_ok l h hu j i (by omega) (by omega)) (fun r hr => ok_some ?_)
    constructor
    ·intro e
     refine ⟨by omega, h6, h7, h8, fun hd => ?_⟩
     rw [hr.2 hd] at e; simp at e
    ·intro e
     cases r with
     | false => rfl
     | true => exact absurd (hr.1 rfl) e.2.2.2.2
   ·refine ok_cond (fun e => ok_inr ⟨rfl, fun hA => ?_⟩) (fun e => ?_)
    ·obtain ⟨g1, g2⟩ := hb.1 e
     exact (hA i y hy).2 j z g1 hz g2
    ·rw [w64_N (n := l.length) (by omega) h]
     refine ok_inl ⟨by omega, rfl, hv, fun j' z' hj' hji hz' hbad => ?_⟩
     by_cases e2 : j' = j
     ·subst e2; rw [hz] at hz'; cases hz'
      rw [hb.2 ⟨hji, hbad⟩] at e; simp at e
     ·exact hJ.2 j' z' (by omega) hji hz' hbad
  ·rw [hJ.1, show j = l.length by omega]
 ·dsimp only
  refine ok_nite (fun hne => ok_inr ⟨rfl, fun hA => hne ((hA i y hy).1.trans he.1.symm)⟩) (fun heq => ?_)
  rw [w64_N (n := l.length) (by omega) h]
  refine ok_inl ⟨by omega, rfl, fun i' y' hi' hy' => ?_⟩
  by_cases e2 : i' = i
  ·subst e2; rw [hy] at hy'; cases hy'
   exact ⟨heq.trans he.1, he.2⟩
  ·exact hI i' y' (by omega) hy'
 ·rcases r with r | r
  ·exact (hr : False).elim
  ·obtain ⟨e1, e2⟩ : r = .inr false ∧ ¬ Apart l := hr
   subst e1
   exact ok_inr ⟨rfl, e2⟩
theorem formed_ok (l : List api_Slice) (h : l.length ≤ 9223372036854775807) (hu : Up l l.length) : Ok (loop (tracebookref26_formed_L2 l) 0) (fun q => (∃ u, q = .inl u ∧ Apart' l) ∨ (q = .inr false ∧ ¬ Apart' l)) := by
 let A : Nat → Prop := fun n => ∀ (i : Nat) y, i < n → l[i]? = some y → y.fSelf = sumTo l i (w64 (y.fSpan.fTo - y.fSpan.fFrom)) l.length ∧ ∀ (j : Nat) z, i < j → l[j]? = some z → ¬ Bad l i j y z
 refine ok_upN l.length A h (by intro i y hi; omega) (fun i hI h2 => ?_)
 unfold tracebookref26_formed_L2
 refine ok_ite (fun hi => ?_) (fun hi => ok_inr (.inl ⟨(), rfl, fun i' y hy => hI i' y (by have := lt_of_get hy; omega) hy⟩))
 obtain ⟨y, hiy, hy⟩ := ok_ixN (xs := l) (i := i) (by omega)
 simp only [hiy, Option.bind_some]
 refine ok_bindS (Q := InlR (fun e => e = sumTo l i (w64 (y.fSpan.fTo - y.fSpan.fFrom)) l.length ∧ ∀ (j : Nat) z, i < j → l[j]? = some z → ¬ Bad l i j y z) (InlR (fun _ => False) (fun r => r = .inr false ∧ ¬ Apart' l))) (ok_up2N l.length (fun a n => a = sumTo l i (w64 (y.fSpan.fTo - y.fSpan.fFrom)) n ∧ ∀ (j : Nat) z, j < n → i < j → l[j]? = some z → ¬ Bad l i j y z) h ⟨rfl, by intro j z hj; omega⟩ (fun a j hJ h4 => ?_)) (fun e he => ?_) (fun r hr => ?_)
 ·unfold tracebookref26_formed_L1
  dsimp only
  refine ok_ite (fun hj => ?_) (fun hj => ok_inr ⟨?_, fun j' z hj' hz => hJ.2 j' z (by have := lt_of_get hz; omega) hj' hz⟩)
  ·obtain ⟨z, hjz, hz⟩ := ok_ixN (xs := l) (i := j) (by omega)
   simp only [hjz, hiy, Option.bind_some]
   rw [hJ.1]
   refine ok_bind (sumTo_step hz) (fun v hv => ?_)
   refine ok_bind (Q := fun b => b = true ↔ (y.fSpan.fFrom < z.fSpan.fTo ∧ z.fSpan.fFrom < y.fSpan.fTo)) ?_ (fun v9 hv9 => ?_)
   ·by_cases g1 : y.fSpan.fFrom < z.fSpan.fTo <;> by_cases g2 : z.fSpan.fFrom < y.fSpan.fTo <;> simp [g1, g2, Ok]
   refine ok_bind (Q := fun b => b = true ↔ (i < j ∧ Bad l i j y z)) ?_ (fun b hb => ?_)
   ·refine ok_ite (fun h5 => ?_) (fun h5 => ok_some ⟨fun e => by simp at e, fun e => absurd e.1 (by omega)⟩)
    refine ok_ite (fun h6 => ?_) (fun h6 => ok_some ⟨fun e => by simp at e, fun e => absurd e.2.1 h6⟩)
    refine ok_cond (fun h7 => ?_) (fun h7 => ok_some ⟨fun e => by simp at e, fun e => ?_⟩)
    ·refine ok_bind (above_ok l h hu i j (by omega) (by omega)) (fun r hr => ok_some ?_)
     have h8 := hv9.1 h7
     constructor
     ·intro e
      refine ⟨by omega, h6, h8.2, h8.1, fun hd => ?_⟩
      rw [hr.2 hd] at e; simp at e
     ·intro e
      cases r with
      | false => rfl
      | true => exact absurd (hr.1 rfl) e.2.2.2.2
    ·have := hv9.2 ⟨e.2.2.2.1, e.2.2.1⟩
     rw [h7] at this; simp at this
   ·refine ok_cond (fun e => ok_inr ⟨rfl, fun hA => ?_⟩) (fun e => ?_)
    ·obtain ⟨g1, g2⟩ := hb.1 e
     exact (hA i y hy).2 j z g1 hz g2
    ·rw [w64_N (n := l.length) (by omega) h]
     refine ok_inl ⟨by omega, rfl, hv, fun j' z' hj' hji hz' hbad => ?_⟩
     by_cases e2 : j' = j
     ·subst e2; rw [hz] at hz'; cases hz'
      rw [hb.2 ⟨hji, hbad⟩] at e; simp at e
     ·exact hJ.2 j' z' (by omega) hji hz' hbad
  ·rw [hJ.1, show j = l.length by omega]
 ·dsimp only
  refine ok_nite (fun hne => ok_inr (.inr ⟨rfl, fun hA => hne ((hA i y hy).1.trans he.1.symm)⟩)) (fun heq => ?_)
  rw [w64_N (n := l.length) (by omega) h]
  refine ok_inl ⟨by omega, rfl, fun i' y' hi' hy' => ?_⟩
  by_cases e2 : i' = i
  ·subst e2; rw [hy] at hy'; cases hy'
   exact ⟨heq.trans he.1, he.2⟩
  ·exact hI i' y' (by omega) hy'
 ·rcases r with r | r
  ·exact (hr : False).elim
  ·obtain ⟨e1, e2⟩ : r = .inr false ∧ ¬ Apart' l := hr
   subst e1
   exact ok_inr (.inr ⟨rfl, e2⟩)
theorem nested_res {l : List api_Slice} {q : Unit ⊕ Bool} (h : loop (slice_nested_L1 l) 0 = some q) : ∀ x, q = .inr x → x = false := by
 refine loop_res (Q := fun q : Unit ⊕ Bool => ∀ x, q = .inr x → x = false) (fun i r hr => ?_) h
 unfold slice_nested_L1 at hr
 cases h1 : decide (i < (l.length : Int)) with
 | false => rw [h1] at hr; simp at hr; subst hr; intro x hx; cases hx
 | true =>
  rw [h1] at hr
  simp only [cond_true] at hr
  obtain ⟨y, _, hr⟩ := bB hr
  obtain ⟨v, _, hr⟩ := bB hr
  cases v
  ·simp only [cond_false] at hr
   cases h2 : decide (y.fParent = -1) with
   | true =>
    rw [h2] at hr
    simp only [cond_true] at hr
    cases h3 : decide (y.fDepth = 0) <;> simp [h3] at hr
    subst hr; intro x hx; cases hx; rfl
   | false =>
    rw [h2] at hr
    simp only [cond_false] at hr
    obtain ⟨z, _, hr⟩ := bB hr
    obtain ⟨w, _, hr⟩ := bB hr
    cases w <;> simp at hr
    subst hr; intro x hx; cases hx; rfl
  ·simp at hr; subst hr; intro x hx; cases hx; rfl
theorem slice_L1_eq (l : List api_Slice) : slice_Check_L1 l = tracebookref26_Check_L1 l := by
 funext i
 unfold slice_Check_L1 tracebookref26_Check_L1
 cases e : idx l i with
 | none => rfl
 | some y =>
  simp only [Option.bind_some, ← Name_eq, Valid_eq]
  congr 1
  congr 1
  funext v53
  congr 1
  congr 1
  funext r54
  congr 1
  have e4 : (bif decide (0 < i) then (idx l (w64 (i - 1))).bind fun y58 => (slice_compare y58 y).bind fun r59 => some (decide (0 < r59)) else some false) = (bif decide (0 < i) then (idx l (w64 (i - 1))).bind fun y68 => (tracebookref26_Precedes y y68).bind fun r69 => some r69 else some false) := by
   congr 1
   congr 1
   funext p
   obtain ⟨c, h1, h2⟩ := compare_eq p y
   rw [h1, h2]; rfl
  rw [e4]
theorem slice_eq (l : List api_Slice) (h : l.length ≤ 9223372036854775807) : slice_Check l = tracebookref26_Check l := by
 unfold slice_Check tracebookref26_Check
 rw [slice_L1_eq]
 congr 1
 funext q
 cases q with
 | inr x => rfl
 | inl u =>
  obtain ⟨b, hb, hUp⟩ := slice_nested_ok l h
  dsimp only
  rw [hb, Option.bind_some]
  unfold slice_nested at hb
  unfold tracebookref26_formed
  rw [← nested_step]
  obtain ⟨q, hq, hb⟩ := bB hb
  rw [hq, Option.bind_some]
  cases q with
  | inr x =>
   have := nested_res hq x rfl
   subst this
   simp at hb; subst hb
   rfl
  | inl u' =>
   simp at hb; subst hb
   have hu := hUp rfl
   obtain ⟨b1, h1, h2⟩ := apart_ok l h hu
   obtain ⟨q2, h3, h4⟩ := formed_ok l h hu
   simp only [h1, h3, Option.bind_some, Bool.not_true, cond_false]
   rcases h4 with ⟨u2, rfl, h5⟩ | ⟨rfl, h5⟩
   ·rw [h2.2 ((apart_iff l).2 h5)]; rfl
   ·cases b1
    ·rfl
    ·exact absurd ((apart_iff l).1 (h2.1 rfl)) h5
theorem siz26 {l : List api_Slice} (h : okr_L_api_Slice l) : l.length ≤ 140737488351232 ∧ ∀ x ∈ l, okN x.fName := by
 have e : reachBytes = 140737488351232 := by decide
 unfold okr_L_api_Slice okL at h
 rw [e] at h
 refine ⟨h.1, fun x hx => ?_⟩
 have := (h.2 x hx).2.2.2.1
 rw [e] at this
 unfold okN; omega
theorem lives26_eq : tracebooklaw26_lives = some true := rfl
theorem sliceChecks_holds (l : List api_Slice) (h : okr_L_api_Slice l) : tracebooklaw26_SliceChecks l = some true := by
 obtain ⟨h1, h2⟩ := siz26 h
 unfold tracebooklaw26_SliceChecks
 rw [lives26_eq, ← slice_eq l (by omega)]
 obtain ⟨r, hr, _⟩ := slice_Check_ok l (by omega) h2
 rw [hr]
 cases decide (40 < (l.length : Int)) <;> simp
def NestAt (l : List api_Slice) (i : Nat) (y : api_Slice) : Prop :=
 (y.fParent = -1 ∧ y.fDepth = 0) ∨ ∃ p z, y.fParent = ((p : Nat) : Int) ∧ p < i ∧ l[p]? = some z ∧ z.fThread = y.fThread ∧ z.fSpan.fFrom ≤ y.fSpan.fFrom ∧ y.fSpan.fTo ≤ z.fSpan.fTo ∧ y.fDepth = w64 (z.fDepth + 1)
def Nest (l : List api_Slice) : Prop := ∀ (i : Nat) y, l[i]? = some y → NestAt l i y
theorem Nest.up {l : List api_Slice} (h : Nest l) : Up l l.length := by
 intro j y hj hy
 rcases h j y hy with ⟨e, _⟩ | ⟨p, z, e, hp, _⟩ <;> omega
end Go.VM
