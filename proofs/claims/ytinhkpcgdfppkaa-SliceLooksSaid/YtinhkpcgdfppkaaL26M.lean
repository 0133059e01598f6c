/- The law holds: plain mathematics on what the functions compute. -/
import Derived.Test.YtinhkpcgdfppkaaL26B
namespace Go.VM
def firstL {α ρ : Type} (g : Nat → α → Option ρ) : List α → Nat → Option ρ
 | [], _ => none
 | y :: ys, i => match g i y with
  | some r => some r
  | none => firstL g ys (i + 1)
theorem forL_first {α ρ : Type} (g : Nat → α → Option ρ) (e : ρ) : ∀ (xs : List α) (i : Nat), forL (fun i y (_ : Unit) => match g i y with | some r => Sum.inr r | none => .inl ()) (fun _ => e) xs i () = (firstL g xs i).getD e
 | [], _ => rfl
 | y :: ys, i => by
  simp only [forL, firstL]
  cases g i y with
  | some r => rfl
  | none => exact forL_first g e ys (i + 1)
theorem loop_first {α ρ : Type} {step : Int → Option (Int ⊕ ρ)} (xs : List α) (g : Nat → α → Option ρ) (e : ρ) (hl : xs.length < manyRounds)
  (h1 : ∀ (i : Nat) y, xs[i]? = some y → step (i : Int) = some (match g i y with | some r => .inr r | none => .inl ((i : Int) + 1))) (h2 : step (xs.length : Int) = some (.inr e)) : loop step 0 = some ((firstL g xs 0).getD e) := by
 have := loop_for0 (σ := Unit) (step := step) xs (fun i _ => (i : Int)) (fun i y _ => match g i y with | some r => .inr r | none => .inl ()) (fun _ => e) hl
  (fun i y s hy => by
   rw [h1 i y hy]
   cases g i y <;> simp)
  (fun _ => h2) ()
 rw [show (0 : Int) = ((0 : Nat) : Int) from rfl, this, forL_first]
theorem lt_of_get {α : Type} {xs : List α} {i : Nat} {y : α} (h : xs[i]? = some y) : i < xs.length := (List.getElem?_eq_some_iff.1 h).1
theorem w64_nat {i : Nat} (h : i < 9223372036854775807) : w64 ((i : Int) + 1) = (i : Int) + 1 := w64_of (by omega)
end Go.VM
namespace Go.VM
def Ok {α : Type} (x : Option α) (P : α → Prop) : Prop := ∃ r, x = some r ∧ P r
def Yes {α : Type} : α → Prop := fun _ => True
def InlR {α β : Type} (A : α → Prop) (B : β → Prop) : α ⊕ β → Prop
 | .inl a => A a
 | .inr b => B b
theorem ok_some {α : Type} {P : α → Prop} {r : α} (h : P r) : Ok (some r) P := ⟨r, rfl, h⟩
theorem ok_inl {α β : Type} {A : α → Prop} {B : β → Prop} {a : α} (h : A a) : Ok (some (.inl a)) (InlR A B) := ⟨_, rfl, h⟩
theorem ok_inr {α β : Type} {A : α → Prop} {B : β → Prop} {b : β} (h : B b) : Ok (some (.inr b)) (InlR A B) := ⟨_, rfl, h⟩
theorem ok_bind {α β : Type} {x : Option α} {f : α → Option β} {Q : α → Prop} {P : β → Prop} (hx : Ok x Q) (hf : ∀ r, Q r → Ok (f r) P) : Ok (x.bind f) P := by
 obtain ⟨r, h1, h2⟩ := hx
 subst h1; exact hf r h2
theorem ok_bindS {α β γ : Type} {x : Option (α ⊕ γ)} {f : α ⊕ γ → Option β} {Q : α ⊕ γ → Prop} {P : β → Prop} (hx : Ok x Q) (hf : ∀ r, Q (.inl r) → Ok (f (.inl r)) P) (hg : ∀ r, Q (.inr r) → Ok (f (.inr r)) P) : Ok (x.bind f) P :=
 ok_bind hx (fun r => match r with | .inl a => hf a | .inr b => hg b)
theorem ok_cond {α : Type} {b : Bool} {x y : Option α} {P : α → Prop} (h1 : b = true → Ok x P) (h2 : b = false → Ok y P) : Ok (cond b x y) P := by
 cases b
 ·exact h2 rfl
 ·exact h1 rfl
theorem Ok.mono {α : Type} {x : Option α} {P Q : α → Prop} (h : Ok x P) (hq : ∀ r, P r → Q r) : Ok x Q := by
 obtain ⟨r, h1, h2⟩ := h; exact ⟨r, h1, hq r h2⟩
theorem Ok.yes {α : Type} {x : Option α} {P : α → Prop} (h : Ok x P) : Ok x Yes := h.mono (fun _ _ => trivial)
theorem ok_idx {α : Type} {xs : List α} {i : Int} (h1 : 0 ≤ i) (h2 : i < xs.length) : Ok (idx xs i) (fun y => xs[i.toNat]? = some y) := by
 obtain ⟨n, rfl⟩ := Int.eq_ofNat_of_zero_le h1
 have h3 : n < xs.length := by omega
 rw [idx_nat]
 exact ⟨xs[n], by simp [h3], by simp [h3]⟩
theorem ok_loop {S ρ : Type} {step : S → Option (S ⊕ ρ)} (Inv : S → Prop) (m : S → Nat) {Post : ρ → Prop}
  (h : ∀ s, Inv s → Ok (step s) (InlR (fun s' => Inv s' ∧ m s' < m s) Post)) {s : S} (hs : Inv s) (hm : m s < manyRounds) : Ok (loop step s) Post := by
 refine loop_inv Inv m Post (fun s hs => ?_) hs hm
 obtain ⟨r, h1, h2⟩ := h s hs
 cases r with
 | inl a => exact Or.inl ⟨a, h1, h2⟩
 | inr b => exact Or.inr ⟨b, h1, h2⟩
theorem ok_up {ρ : Type} {step : Int → Option (Int ⊕ ρ)} (n : Nat) {Post : ρ → Prop} (hn : n ≤ 9223372036854775807)
  (h : ∀ i : Int, 0 ≤ i → i ≤ n → Ok (step i) (InlR (fun a => i < n ∧ a = i + 1) Post)) : Ok (loop step 0) Post := by
 refine ok_loop (fun i : Int => 0 ≤ i ∧ i ≤ (n : Int)) (fun i : Int => ((n : Int) - i).toNat) (fun i hi => (h i hi.1 hi.2).mono ?_) ⟨by omega, by omega⟩ (by simp [manyRounds]; omega)
 rintro (a | b) hr
 ·obtain ⟨h1, rfl⟩ : i < n ∧ a = i + 1 := hr
  exact ⟨⟨by omega, by omega⟩, by omega⟩
 ·exact hr
theorem ok_yes {α : Type} {r : α} : Ok (some r) Yes := ⟨r, rfl, trivial⟩
theorem ok_inlY {α β : Type} {B : β → Prop} {a : α} : Ok (some (.inl a)) (InlR Yes B) := ⟨_, rfl, trivial⟩
theorem ok_inrY {α β : Type} {A : α → Prop} {b : β} : Ok (some (.inr b)) (InlR A Yes) := ⟨_, rfl, trivial⟩
theorem ok_next {ρ : Type} {i : Int} {n : Nat} {P : ρ → Prop} (h1 : 0 ≤ i) (h2 : i < (n : Int)) (h3 : n ≤ 9223372036854775807) : Ok (some (.inl (w64 (i + 1)))) (InlR (fun a : Int => i < (n : Int) ∧ a = i + 1) P) :=
 ok_inl ⟨h2, w64_of (by omega)⟩
theorem ok_ite {α : Type} {p : Prop} [Decidable p] {x y : Option α} {P : α → Prop} (h1 : p → Ok x P) (h2 : ¬p → Ok y P) : Ok (cond (decide p) x y) P :=
 ok_cond (fun h => h1 (of_decide_eq_true h)) (fun h => h2 (of_decide_eq_false h))
theorem ok_nite {α : Type} {p : Prop} [Decidable p] {x y : Option α} {P : α → Prop} (h1 : ¬p → Ok x P) (h2 : p → Ok y P) : Ok (cond (!decide p) x y) P := by
 by_cases h : p
 ·simpa [h] using h2 h
 ·simpa [h] using h1 h
theorem ok_not {α : Type} {b : Bool} {x y : Option α} {P : α → Prop} (h1 : b = false → Ok x P) (h2 : b = true → Ok y P) : Ok (cond (!b) x y) P := by
 cases b
 ·exact h1 rfl
 ·exact h2 rfl
abbrev Tot {α : Type} (x : Option α) : Prop := Ok x Yes
theorem ok_up2 {σ ρ : Type} {step : σ × Int → Option ((σ × Int) ⊕ ρ)} (n : Nat) (Inv : σ → Int → Prop) {Post : ρ → Prop} (hn : n ≤ 9223372036854775807) {s0 : σ} (h0 : Inv s0 0)
  (h : ∀ (s : σ) (i : Int), Inv s i → 0 ≤ i → i ≤ n → Ok (step (s, i)) (InlR (fun a => i < n ∧ a.2 = i + 1 ∧ Inv a.1 (i + 1)) Post)) : Ok (loop step (s0, 0)) Post := by
 refine ok_loop (fun s : σ × Int => Inv s.1 s.2 ∧ 0 ≤ s.2 ∧ s.2 ≤ (n : Int)) (fun s : σ × Int => ((n : Int) - s.2).toNat) (fun s hi => (h s.1 s.2 hi.1 hi.2.1 hi.2.2).mono ?_) ⟨h0, by simp, by simp⟩ (by simp [manyRounds]; omega)
 rintro (⟨a, j⟩ | b) hr
 ·obtain ⟨h1, h2, h3⟩ : s.2 < n ∧ j = s.2 + 1 ∧ Inv a (s.2 + 1) := hr
  subst h2
  exact ⟨⟨h3, by simp; omega, by simp; omega⟩, by simp; omega⟩
 ·exact hr
theorem ok_next2 {σ ρ : Type} {s : σ} {i : Int} {n : Nat} {Inv : σ → Int → Prop} {P : ρ → Prop} (hI : Inv s (i + 1)) (h1 : 0 ≤ i) (h2 : i < (n : Int)) (h3 : n ≤ 9223372036854775807) : Ok (some (.inl (s, w64 (i + 1)))) (InlR (fun a : σ × Int => i < (n : Int) ∧ a.2 = i + 1 ∧ Inv a.1 (i + 1)) P) :=
 ok_inl ⟨h2, w64_of (by omega), hI⟩
theorem ok_upI {ρ : Type} {step : Int → Option (Int ⊕ ρ)} (n : Nat) (Inv : Int → Prop) {Post : ρ → Prop} (hn : n ≤ 9223372036854775807) (h0 : Inv 0)
  (h : ∀ i : Int, Inv i → 0 ≤ i → i ≤ n → Ok (step i) (InlR (fun a => i < n ∧ a = i + 1 ∧ Inv (i + 1)) Post)) : Ok (loop step 0) Post := by
 refine ok_loop (fun i : Int => Inv i ∧ 0 ≤ i ∧ i ≤ (n : Int)) (fun i : Int => ((n : Int) - i).toNat) (fun i hi => (h i hi.1 hi.2.1 hi.2.2).mono ?_) ⟨h0, by omega, by omega⟩ (by simp [manyRounds]; omega)
 rintro (a | b) hr
 ·obtain ⟨h1, rfl, h3⟩ : i < n ∧ a = i + 1 ∧ Inv (i + 1) := hr
  exact ⟨⟨h3, by omega, by omega⟩, by omega⟩
 ·exact hr
theorem ok_nextI {ρ : Type} {i : Int} {n : Nat} {Inv : Int → Prop} {P : ρ → Prop} (hI : Inv (i + 1)) (h1 : 0 ≤ i) (h2 : i < (n : Int)) (h3 : n ≤ 9223372036854775807) : Ok (some (.inl (w64 (i + 1)))) (InlR (fun a : Int => i < (n : Int) ∧ a = i + 1 ∧ Inv (i + 1)) P) :=
 ok_inl ⟨h2, w64_of (by omega), hI⟩
theorem room_ok {b n : Nat} (h1 : n * b ≤ 140737488355328) (h2 : n ≤ 9223372036854775807) : room b n = true := by
 simp only [room, Bool.and_eq_true]
 exact ⟨Nat.ble_eq_true_of_le h1, Nat.ble_eq_true_of_le h2⟩
theorem spans_Valid_eq (s : api_Span) : spans_Valid s = some (decide (0 ≤ s.fFrom ∧ s.fFrom < s.fTo ∧ s.fTo ≤ 1000000000000)) := by
 unfold spans_Valid
 by_cases h1 : 0 ≤ s.fFrom <;> by_cases h2 : s.fFrom < s.fTo <;> by_cases h3 : s.fTo ≤ 1000000000000 <;> simp [h1, h2, h3]
theorem intern_letter_ok (c : Int) : Ok (intern_letter c) Yes := by
 unfold intern_letter strings_IndexByte internal_stringslite_IndexByte
 repeat' (first | (with_reducible first | exact ok_yes | exact ok_inrY | exact ok_inlY | refine ok_nite (fun _ => ?_) fun _ => ?_ | refine ok_ite (fun _ => ?_) fun _ => ?_ | refine ok_not (fun _ => ?_) fun _ => ?_ | refine ok_cond (fun _ => ?_) fun _ => ?_) | (with_reducible refine ok_next ?_ ?_ ?_ <;> (first | assumption | omega | rw [w64_of] <;> omega)) | with_reducible refine ok_bind (ok_idx (by (first | assumption | omega | rw [w64_of] <;> omega)) (by (first | assumption | omega | rw [w64_of] <;> omega))) (fun _ _ => ?_) | (with_reducible refine ok_bind (Q := Yes) ?_ fun _ _ => ?_) | dsimp only)
theorem intern_Name_ok (s : ByteArray) (h : s.size ≤ 9223372036854775807) : Ok (intern_Name s) Yes := by
 unfold intern_Name
 refine ok_bind (Q := Yes) ?_ (fun v _ => ?_)
 ·repeat' (first | (with_reducible first | exact ok_yes | exact ok_inrY | exact ok_inlY | refine ok_nite (fun _ => ?_) fun _ => ?_ | refine ok_ite (fun _ => ?_) fun _ => ?_ | refine ok_not (fun _ => ?_) fun _ => ?_ | refine ok_cond (fun _ => ?_) fun _ => ?_) | (with_reducible refine ok_next ?_ ?_ ?_ <;> (first | assumption | omega | rw [w64_of] <;> omega)) | with_reducible refine ok_bind (ok_idx (by (first | assumption | omega | rw [w64_of] <;> omega)) (by (first | assumption | omega | rw [w64_of] <;> omega))) (fun _ _ => ?_) | (with_reducible refine ok_bind (Q := Yes) ?_ fun _ _ => ?_) | dsimp only)
 refine ok_cond (fun _ => ok_some trivial) (fun _ => ?_)
 have e : s.data.toList.length = s.size := by rw [Array.length_toList]; rfl
 refine ok_bindS (Q := Yes) (ok_up s.size h fun i h1 h2 => ?_) (fun _ _ => ?_) (fun _ _ => ?_)
 ·unfold intern_Name_L1
  repeat' (first | (with_reducible first | exact ok_yes | exact ok_inrY | exact ok_inlY | refine ok_nite (fun _ => ?_) fun _ => ?_ | refine ok_ite (fun _ => ?_) fun _ => ?_ | refine ok_not (fun _ => ?_) fun _ => ?_ | refine ok_cond (fun _ => ?_) fun _ => ?_) | (with_reducible refine ok_next ?_ ?_ ?_ <;> (first | assumption | omega | rw [w64_of] <;> omega)) | with_reducible refine ok_bind (ok_idx (by (first | assumption | omega | rw [w64_of] <;> omega)) (by (first | assumption | omega | rw [w64_of] <;> omega))) (fun _ _ => ?_) | (with_reducible refine Ok.yes (ok_idx ?_ (by rw [e]; (first | assumption | omega | rw [w64_of] <;> omega))) <;> (first | assumption | omega | rw [w64_of] <;> omega)) | (with_reducible refine Ok.yes (intern_letter_ok _) <;> (first | assumption | omega | rw [w64_of] <;> omega)) | (with_reducible refine ok_bind (Q := Yes) ?_ fun _ _ => ?_) | dsimp only)
 ·repeat' (first | (with_reducible first | exact ok_yes | exact ok_inrY | exact ok_inlY | refine ok_nite (fun _ => ?_) fun _ => ?_ | refine ok_ite (fun _ => ?_) fun _ => ?_ | refine ok_not (fun _ => ?_) fun _ => ?_ | refine ok_cond (fun _ => ?_) fun _ => ?_) | (with_reducible refine ok_next ?_ ?_ ?_ <;> (first | assumption | omega | rw [w64_of] <;> omega)) | with_reducible refine ok_bind (ok_idx (by (first | assumption | omega | rw [w64_of] <;> omega)) (by (first | assumption | omega | rw [w64_of] <;> omega))) (fun _ _ => ?_) | (with_reducible refine ok_bind (Q := Yes) ?_ fun _ _ => ?_) | dsimp only)
 ·repeat' (first | (with_reducible first | exact ok_yes | exact ok_inrY | exact ok_inlY | refine ok_nite (fun _ => ?_) fun _ => ?_ | refine ok_ite (fun _ => ?_) fun _ => ?_ | refine ok_not (fun _ => ?_) fun _ => ?_ | refine ok_cond (fun _ => ?_) fun _ => ?_) | (with_reducible refine ok_next ?_ ?_ ?_ <;> (first | assumption | omega | rw [w64_of] <;> omega)) | with_reducible refine ok_bind (ok_idx (by (first | assumption | omega | rw [w64_of] <;> omega)) (by (first | assumption | omega | rw [w64_of] <;> omega))) (fun _ _ => ?_) | (with_reducible refine ok_bind (Q := Yes) ?_ fun _ _ => ?_) | dsimp only)
abbrev okN (s : ByteArray) : Prop := s.size ≤ 9223372036854775807
theorem spans_Valid_ok (s : api_Span) : Ok (spans_Valid s) Yes := by
 unfold spans_Valid
 repeat' (first | (with_reducible first | exact ok_yes | exact ok_inrY | exact ok_inlY | refine ok_nite (fun _ => ?_) fun _ => ?_ | refine ok_ite (fun _ => ?_) fun _ => ?_ | refine ok_not (fun _ => ?_) fun _ => ?_ | refine ok_cond (fun _ => ?_) fun _ => ?_) | (with_reducible refine ok_next ?_ ?_ ?_ <;> (first | assumption | omega | rw [w64_of] <;> omega)) | with_reducible refine ok_bind (ok_idx (by (first | assumption | omega | rw [w64_of] <;> omega)) (by (first | assumption | omega | rw [w64_of] <;> omega))) (fun _ _ => ?_) | (with_reducible refine ok_bind (Q := Yes) ?_ fun _ _ => ?_) | dsimp only)
theorem cmp_Compare_int_ok (a b : Int) : Ok (cmp_Compare_int a b) Yes := by
 unfold cmp_Compare_int cmp_isNaN_int
 repeat' (first | (with_reducible first | exact ok_yes | exact ok_inrY | exact ok_inlY | refine ok_nite (fun _ => ?_) fun _ => ?_ | refine ok_ite (fun _ => ?_) fun _ => ?_ | refine ok_not (fun _ => ?_) fun _ => ?_ | refine ok_cond (fun _ => ?_) fun _ => ?_) | (with_reducible refine ok_next ?_ ?_ ?_ <;> (first | assumption | omega | rw [w64_of] <;> omega)) | with_reducible refine ok_bind (ok_idx (by (first | assumption | omega | rw [w64_of] <;> omega)) (by (first | assumption | omega | rw [w64_of] <;> omega))) (fun _ _ => ?_) | (with_reducible refine ok_bind (Q := Yes) ?_ fun _ _ => ?_) | dsimp only)
theorem cmp_Or_int_ok (l : List Int) (h : l.length ≤ 9223372036854775807) : Ok (cmp_Or_int l) Yes := by
 unfold cmp_Or_int
 refine ok_bindS (Q := Yes) (ok_up l.length (by omega) fun i h1 h2 => ?_) (fun _ _ => ?_) (fun _ _ => ?_)
 ·unfold cmp_Or_int_L1
  repeat' (first | (with_reducible first | exact ok_yes | exact ok_inrY | exact ok_inlY | refine ok_nite (fun _ => ?_) fun _ => ?_ | refine ok_ite (fun _ => ?_) fun _ => ?_ | refine ok_not (fun _ => ?_) fun _ => ?_ | refine ok_cond (fun _ => ?_) fun _ => ?_) | (with_reducible refine ok_next ?_ ?_ ?_ <;> (first | assumption | omega | rw [w64_of] <;> omega)) | with_reducible refine ok_bind (ok_idx (by (first | assumption | omega | rw [w64_of] <;> omega)) (by (first | assumption | omega | rw [w64_of] <;> omega))) (fun _ _ => ?_) | (with_reducible refine ok_bind (Q := Yes) ?_ fun _ _ => ?_) | dsimp only)
 ·repeat' (first | (with_reducible first | exact ok_yes | exact ok_inrY | exact ok_inlY | refine ok_nite (fun _ => ?_) fun _ => ?_ | refine ok_ite (fun _ => ?_) fun _ => ?_ | refine ok_not (fun _ => ?_) fun _ => ?_ | refine ok_cond (fun _ => ?_) fun _ => ?_) | (with_reducible refine ok_next ?_ ?_ ?_ <;> (first | assumption | omega | rw [w64_of] <;> omega)) | with_reducible refine ok_bind (ok_idx (by (first | assumption | omega | rw [w64_of] <;> omega)) (by (first | assumption | omega | rw [w64_of] <;> omega))) (fun _ _ => ?_) | (with_reducible refine ok_bind (Q := Yes) ?_ fun _ _ => ?_) | dsimp only)
 ·repeat' (first | (with_reducible first | exact ok_yes | exact ok_inrY | exact ok_inlY | refine ok_nite (fun _ => ?_) fun _ => ?_ | refine ok_ite (fun _ => ?_) fun _ => ?_ | refine ok_not (fun _ => ?_) fun _ => ?_ | refine ok_cond (fun _ => ?_) fun _ => ?_) | (with_reducible refine ok_next ?_ ?_ ?_ <;> (first | assumption | omega | rw [w64_of] <;> omega)) | with_reducible refine ok_bind (ok_idx (by (first | assumption | omega | rw [w64_of] <;> omega)) (by (first | assumption | omega | rw [w64_of] <;> omega))) (fun _ _ => ?_) | (with_reducible refine ok_bind (Q := Yes) ?_ fun _ _ => ?_) | dsimp only)
theorem slice_compare_ok (a b : api_Slice) : Ok (slice_compare a b) Yes := by
 unfold slice_compare
 repeat' (first | (with_reducible first | exact ok_yes | exact ok_inrY | exact ok_inlY | refine ok_nite (fun _ => ?_) fun _ => ?_ | refine ok_ite (fun _ => ?_) fun _ => ?_ | refine ok_not (fun _ => ?_) fun _ => ?_ | refine ok_cond (fun _ => ?_) fun _ => ?_) | (with_reducible refine ok_next ?_ ?_ ?_ <;> (first | assumption | omega | rw [w64_of] <;> omega)) | with_reducible refine ok_bind (ok_idx (by (first | assumption | omega | rw [w64_of] <;> omega)) (by (first | assumption | omega | rw [w64_of] <;> omega))) (fun _ _ => ?_) | (with_reducible refine Ok.yes (cmp_Compare_int_ok _ _) <;> (first | assumption | omega | rw [w64_of] <;> omega)) | (with_reducible refine Ok.yes (cmp_Or_int_ok _ (Nat.le_of_ble_eq_true rfl)) <;> (first | assumption | omega | rw [w64_of] <;> omega)) | (with_reducible refine ok_bind (Q := Yes) ?_ fun _ _ => ?_) | dsimp only)
def Up (l : List api_Slice) (n : Int) : Prop := ∀ (j : Nat) y, (j : Int) < n → l[j]? = some y → -1 ≤ y.fParent ∧ y.fParent < (j : Int)
theorem slice_nested_ok (l : List api_Slice) (h : l.length ≤ 9223372036854775807) : Ok (slice_nested l) (fun b => b = true → Up l l.length) := by
 unfold slice_nested
 refine ok_bindS (Q := InlR (fun _ => Up l l.length) (fun b => b = false)) (ok_upI l.length (Up l) h (by intro j y hj; omega) (fun i hI h1 h2 => ?_)) (fun _ hq => ok_some (fun _ => hq)) (fun r hr => ok_some (fun e => ?_))
 ·unfold slice_nested_L1
  refine ok_ite (fun hi => ?_) (fun hi => ok_inr (by have : i = l.length := (by omega); subst this; exact hI))
  refine ok_bind (ok_idx h1 hi) (fun y hy => ?_)
  have no : InlR (fun _ : Unit => Up l l.length) (fun b => b = false) (.inr false) := rfl
  refine ok_bind (Q := fun v => v = false → -1 ≤ y.fParent ∧ y.fParent < i) ?_ (fun v hv => ?_)
  ·refine ok_ite (fun _ => ok_some (by simp)) (fun h3 => ok_some (fun h4 => ?_))
   have := of_decide_eq_false h4
   omega
  refine ok_cond (fun _ => ok_inr no) (fun h0 => ?_)
  have hp := hv h0
  have nx : Up l (i + 1) := by
   intro j z hj hz
   by_cases e : (j : Int) = i
   ·have : i.toNat = j := by omega
    rw [this] at hy
    rw [hy] at hz; cases hz
    omega
   ·exact hI j z (by omega) hz
  refine ok_ite (fun _ => ?_) (fun hne => ?_)
  ·refine ok_nite (fun _ => ok_inr no) (fun _ => ok_nextI nx h1 hi h)
  ·refine ok_bind (ok_idx (by omega) (by omega)) (fun z _ => ?_)
   refine ok_bind (Q := Yes) (by repeat' (first | (with_reducible first | exact ok_yes | exact ok_inrY | exact ok_inlY | refine ok_nite (fun _ => ?_) fun _ => ?_ | refine ok_ite (fun _ => ?_) fun _ => ?_ | refine ok_not (fun _ => ?_) fun _ => ?_ | refine ok_cond (fun _ => ?_) fun _ => ?_) | (with_reducible refine ok_next ?_ ?_ ?_ <;> (first | assumption | omega | rw [w64_of] <;> omega)) | with_reducible refine ok_bind (ok_idx (by (first | assumption | omega | rw [w64_of] <;> omega)) (by (first | assumption | omega | rw [w64_of] <;> omega))) (fun _ _ => ?_) | (with_reducible refine ok_bind (Q := Yes) ?_ fun _ _ => ?_) | dsimp only)) (fun v _ => ?_)
   refine ok_cond (fun _ => ok_inr no) (fun _ => ok_nextI nx h1 hi h)
 ·have : r = false := hr
  simp [this] at e
theorem slice_under_ok (l : List api_Slice) (h : l.length ≤ 9223372036854775807) (hu : Up l l.length) (a b : Int) (hb : b < l.length) : Tot (slice_under l a b) := by
 unfold slice_under
 refine ok_bindS (Q := Yes) (ok_loop (fun i : Int => i < l.length) (fun i : Int => (i + 1).toNat) (fun i hi => ?_) hb (by simp [manyRounds]; omega)) (fun _ _ => ok_yes) (fun _ _ => ok_yes)
 unfold slice_under_L1
 refine ok_ite (fun h0 => ?_) (fun _ => ok_inrY)
 refine ok_ite (fun _ => ok_inrY) (fun _ => ?_)
 refine ok_bind (ok_idx h0 hi) (fun y hy => ?_)
 have := hu i.toNat y (by omega) hy
 exact ok_inl ⟨by omega, by omega⟩
theorem slice_apart_ok (l : List api_Slice) (h : l.length ≤ 9223372036854775807) (hu : Up l l.length) : Tot (slice_apart l) := by
 unfold slice_apart
 refine ok_bindS (Q := Yes) (ok_up l.length h fun i h1 h2 => ?_) (fun _ _ => ok_yes) (fun _ _ => ok_yes)
 unfold slice_apart_L2
 refine ok_ite (fun hi => ?_) (fun _ => ok_inrY)
 refine ok_bind (ok_idx h1 hi) (fun y hy => ?_)
 refine ok_bindS (Q := InlR Yes (InlR (fun _ => False) Yes)) (ok_up2 l.length (fun _ _ => True) h trivial (fun a j _ h3 h4 => ?_)) (fun _ _ => ?_) (fun r hr => ?_)
 ·unfold slice_apart_L1
  dsimp only
  refine ok_ite (fun hj => ?_) (fun _ => ok_inr trivial)
  refine ok_bind (ok_idx h3 hj) (fun z hz => ?_)
  refine ok_bind (Q := Yes) (by repeat' (first | (with_reducible first | exact ok_yes | exact ok_inrY | exact ok_inlY | refine ok_nite (fun _ => ?_) fun _ => ?_ | refine ok_ite (fun _ => ?_) fun _ => ?_ | refine ok_not (fun _ => ?_) fun _ => ?_ | refine ok_cond (fun _ => ?_) fun _ => ?_) | (with_reducible refine ok_next ?_ ?_ ?_ <;> (first | assumption | omega | rw [w64_of] <;> omega)) | with_reducible refine ok_bind (ok_idx (by (first | assumption | omega | rw [w64_of] <;> omega)) (by (first | assumption | omega | rw [w64_of] <;> omega))) (fun _ _ => ?_) | (with_reducible refine ok_bind (Q := Yes) ?_ fun _ _ => ?_) | dsimp only)) (fun v _ => ?_)
  refine ok_bind (Q := Yes) (by repeat' (first | (with_reducible first | exact ok_yes | exact ok_inrY | exact ok_inlY | refine ok_nite (fun _ => ?_) fun _ => ?_ | refine ok_ite (fun _ => ?_) fun _ => ?_ | refine ok_not (fun _ => ?_) fun _ => ?_ | refine ok_cond (fun _ => ?_) fun _ => ?_) | (with_reducible refine ok_next ?_ ?_ ?_ <;> (first | assumption | omega | rw [w64_of] <;> omega)) | with_reducible refine ok_bind (ok_idx (by (first | assumption | omega | rw [w64_of] <;> omega)) (by (first | assumption | omega | rw [w64_of] <;> omega))) (fun _ _ => ?_) | (with_reducible refine Ok.yes (slice_under_ok l h hu _ _ hi) <;> (first | assumption | omega | rw [w64_of] <;> omega)) | (with_reducible refine ok_bind (Q := Yes) ?_ fun _ _ => ?_) | dsimp only)) (fun v _ => ?_)
  refine ok_cond (fun _ => ok_inr trivial) (fun _ => ok_next2 (Inv := fun _ _ => True) trivial h3 hj h)
 ·dsimp only
  repeat' (first | (with_reducible first | exact ok_yes | exact ok_inrY | exact ok_inlY | refine ok_nite (fun _ => ?_) fun _ => ?_ | refine ok_ite (fun _ => ?_) fun _ => ?_ | refine ok_not (fun _ => ?_) fun _ => ?_ | refine ok_cond (fun _ => ?_) fun _ => ?_) | (with_reducible refine ok_next ?_ ?_ ?_ <;> (first | assumption | omega | rw [w64_of] <;> omega)) | with_reducible refine ok_bind (ok_idx (by (first | assumption | omega | rw [w64_of] <;> omega)) (by (first | assumption | omega | rw [w64_of] <;> omega))) (fun _ _ => ?_) | (with_reducible refine ok_bind (Q := Yes) ?_ fun _ _ => ?_) | dsimp only)
 ·rcases r with r | r
  ·exact (hr : False).elim
  ·exact ok_inrY
theorem spans_Valid_val (s : api_Span) : Ok (spans_Valid s) (fun b => b = true → 0 ≤ s.fFrom ∧ s.fFrom < s.fTo ∧ s.fTo ≤ 1000000000000) := by
 rw [spans_Valid_eq]
 exact ok_some (fun h => of_decide_eq_true h)
theorem loop_res {S ρ : Type} {step : S → Option (S ⊕ ρ)} {Q : ρ → Prop} (h : ∀ s r, step s = some (.inr r) → Q r) {s : S} {r : ρ} (hr : loop step s = some r) : Q r := by
 have key : ∀ n s, iter step n s = some r → Q r := by
  intro n
  induction n with
  | zero => intro s h; simp [iter] at h
  | succ n ih =>
   intro s hs
   rw [iter_succ] at hs
   cases e : step s with
   | none => rw [e] at hs; simp at hs
   | some x =>
    rw [e] at hs
    cases x with
    | inl s' => exact ih s' hs
    | inr r' => simp only [Option.some.injEq] at hs; subst hs; exact h s _ e
 exact key _ s hr
theorem letter_eq (y : UInt8) : intern_letter (y.toNat : Int) = tracebookref06_letter (y.toNat : Int) := by
 have h : (List.range 256).all (fun n => decide (intern_letter (n : Int) = tracebookref06_letter (n : Int))) = true := by kernel_rfl
 exact of_decide_eq_true (List.all_eq_true.1 h y.toNat (List.mem_range.2 (UInt8.toNat_lt y)))
theorem empty_iff (s : ByteArray) : s = ⟨#[]⟩ ↔ (s.size : Int) < 1 := by
 constructor
 ·intro h; subst h; decide
 ·intro h
  cases s with
  | mk a =>
   have : a.size = 0 := by
    have : (ByteArray.mk a).size = a.size := rfl
    omega
   rw [Array.eq_empty_of_size_eq_zero this]
theorem Name_eq (s : ByteArray) : intern_Name s = tracebookref06_Name s := by
 unfold intern_Name tracebookref06_Name
 have h1 : intern_Name_L1 s = tracebookref06_Name_L1 s := by
  funext i
  simp only [intern_Name_L1, tracebookref06_Name_L1, letter_eq]
 have h2 : decide (s = ⟨#[]⟩) = decide ((ByteArray.size s : Int) < 1) := decide_eq_decide.2 (empty_iff s)
 rw [h1, h2] <;> rfl
theorem Valid_eq (s : api_Span) : tracebookref04_Valid s = spans_Valid s := rfl
theorem cmpI_eq (a b : Int) : cmp_Compare_int a b = some (if a < b then -1 else if b < a then 1 else 0) := by
 unfold cmp_Compare_int cmp_isNaN_int
 by_cases h1 : a < b <;> by_cases h2 : b < a <;> simp [h1, h2]
def orI : List Int → Int
 | [] => 0
 | x :: r => if x = 0 then orI r else x
theorem orI_first : ∀ (l : List Int) (i : Nat), (match (firstL (fun _ y => if y = 0 then none else some (.inr y)) l i).getD (.inl ()) with | (.inl _ : Unit ⊕ Int) => 0 | .inr rv => rv) = orI l
 | [], _ => rfl
 | x :: r, i => by
  simp only [firstL, orI]
  by_cases h : x = 0
  ·simp only [h, if_true]; exact orI_first r (i + 1)
  ·simp [h]
theorem cmpOr_eq (l : List Int) (hl : l.length ≤ 9223372036854775807) : cmp_Or_int l = some (orI l) := by
 unfold cmp_Or_int
 rw [loop_first l (fun _ y => if y = 0 then none else some (.inr y)) (.inl ()) (by simp [manyRounds]; omega) (fun i y hy => ?_) (by simp [cmp_Or_int_L1])]
 ·rw [Option.bind_some, ← orI_first l 0]
  generalize (firstL _ l 0).getD (Sum.inl ()) = q
  cases q <;> rfl
 ·have hi := lt_of_get hy
  have h1 : (i : Int) < l.length := by omega
  simp only [cmp_Or_int_L1, h1, decide_true, cond_true, idx_nat, hy, Option.bind_some]
  by_cases h : y = 0 <;> simp [h, w64_nat (i := i) (by omega)]
theorem compare_eq (a b : api_Slice) : ∃ c, slice_compare a b = some c ∧ tracebookref26_Precedes b a = some (decide (0 < c)) := by
 refine ⟨orI [if a.fSpan.fFrom < b.fSpan.fFrom then -1 else if b.fSpan.fFrom < a.fSpan.fFrom then 1 else 0, if b.fSpan.fTo < a.fSpan.fTo then -1 else if a.fSpan.fTo < b.fSpan.fTo then 1 else 0, if a.fThread < b.fThread then -1 else if b.fThread < a.fThread then 1 else 0], ?_, ?_⟩
 ·unfold slice_compare
  simp only [cmpI_eq, Option.bind_some]
  rw [cmpOr_eq _ (Nat.le_of_ble_eq_true rfl), Option.bind_some]
 ·unfold tracebookref26_Precedes
  simp only [orI]
  by_cases h1 : a.fSpan.fFrom < b.fSpan.fFrom
  ·have h2 : ¬ b.fSpan.fFrom = a.fSpan.fFrom := by omega
   have h3 : ¬ b.fSpan.fFrom < a.fSpan.fFrom := by omega
   simp [h1, h2, h3]
  ·by_cases h2 : b.fSpan.fFrom < a.fSpan.fFrom
   ·have h3 : ¬ b.fSpan.fFrom = a.fSpan.fFrom := by omega
    simp [h1, h2, h3]
   ·have h3 : b.fSpan.fFrom = a.fSpan.fFrom := by omega
    simp only [h1, h2, h3, decide_true, Bool.not_true, cond_false, if_false, if_true]
    by_cases h4 : b.fSpan.fTo < a.fSpan.fTo
    ·have h5 : ¬ b.fSpan.fTo = a.fSpan.fTo := by omega
     have h6 : ¬ a.fSpan.fTo < b.fSpan.fTo := by omega
     simp [h4, h5, h6]
    ·by_cases h5 : a.fSpan.fTo < b.fSpan.fTo
     ·have h6 : ¬ b.fSpan.fTo = a.fSpan.fTo := by omega
      simp [h4, h5, h6]
     ·have h6 : b.fSpan.fTo = a.fSpan.fTo := by omega
      by_cases h7 : a.fThread < b.fThread
      ·have h8 : ¬ b.fThread < a.fThread := by omega
       simp [h6, h7, h8]
      ·by_cases h8 : b.fThread < a.fThread <;> simp [h6, h7, h8]
theorem nested_step (l : List api_Slice) : slice_nested_L1 l = tracebookref26_formed_L3 l := by
 funext i
 unfold slice_nested_L1 tracebookref26_formed_L3
 cases e : idx l i with
 | none => rfl
 | some y =>
  simp only [Option.bind_some]
  congr 1
  by_cases h1 : y.fParent < -1
  ·simp [h1]
  ·by_cases h2 : i ≤ y.fParent
   ·simp [h1, h2]
   ·simp only [h1, h2, decide_false, cond_false, Option.bind_some]
    by_cases h3 : y.fParent = -1
    ·rw [h3]
     by_cases h4 : y.fDepth = 0 <;> simp [h4]
    ·have h5 : 0 ≤ y.fParent := by omega
     simp only [h3, h5, decide_false, decide_true, cond_false, cond_true, Option.bind_some]
     cases idx l y.fParent with
     | none => rfl
     | some z =>
      simp only [Option.bind_some, tracebookref26_contains]
      by_cases g1 : z.fThread = y.fThread <;> by_cases g2 : y.fSpan.fFrom < z.fSpan.fFrom <;> by_cases g3 : z.fSpan.fTo < y.fSpan.fTo <;> by_cases g4 : y.fDepth = w64 (z.fDepth + 1) <;>
       simp [g1, g2, g3, g4, Int.not_lt.1, Int.not_le.2] <;> (first | (rw [show (decide (z.fSpan.fFrom ≤ y.fSpan.fFrom)) = false from decide_eq_false (by omega)]; rfl) | (rw [show (decide (z.fSpan.fFrom ≤ y.fSpan.fFrom)) = true from decide_eq_true (by omega)]; first | rfl | (rw [show (decide (y.fSpan.fTo ≤ z.fSpan.fTo)) = false from decide_eq_false (by omega)]; rfl) | (rw [show (decide (y.fSpan.fTo ≤ z.fSpan.fTo)) = true from decide_eq_true (by omega)]; rfl)) | skip)
inductive Desc (l : List api_Slice) (j : Int) : Int → Prop
 | self : Desc l j j
 | up {a : Int} {y : api_Slice} : 0 ≤ a → l[a.toNat]? = some y → Desc l j y.fParent → Desc l j a
theorem Desc.le {l : List api_Slice} (hu : Up l l.length) {j a : Int} (h : Desc l j a) : j ≤ a := by
 induction h with
 | self => omega
 | up h0 hy _ ih =>
  have := hu _ _ (by have := lt_of_get hy; omega) hy
  omega
theorem Desc.step {l : List api_Slice} {j a : Int} {y : api_Slice} (h0 : 0 ≤ a) (hy : l[a.toNat]? = some y) (hne : j ≠ a) : Desc l j a ↔ Desc l j y.fParent := by
 constructor
 ·intro h
  cases h with
  | self => exact absurd rfl hne
  | up _ hy' h => rw [hy] at hy'; cases hy'; exact h
 ·exact Desc.up h0 hy
theorem under_ok (l : List api_Slice) (h : l.length ≤ 9223372036854775807) (hu : Up l l.length) (j i : Int) (hj : 0 ≤ j) (hi : i < l.length) : Ok (slice_under l j i) (fun r => r = true ↔ Desc l j i) := by
 unfold slice_under
 refine ok_bindS (Q := InlR (fun _ => ¬ Desc l j i) (fun r => r = true ∧ Desc l j i)) (ok_loop (fun s : Int => s < l.length ∧ (Desc l j s ↔ Desc l j i)) (fun s : Int => (s + 1).toNat) (fun s hs => ?_) ⟨hi, Iff.rfl⟩ (by simp [manyRounds]; omega)) (fun _ hq => ok_some ⟨fun e => by simp at e, fun e => absurd e hq⟩) (fun r hr => ok_some ⟨fun _ => hr.2, fun _ => hr.1⟩)
 obtain ⟨h1, h2⟩ := hs
 unfold slice_under_L1
 refine ok_ite (fun h0 => ?_) (fun h0 => ok_inr (fun e => ?_))
 ·refine ok_ite (fun e => ok_inr ⟨rfl, h2.1 (e ▸ Desc.self)⟩) (fun hne => ?_)
  refine ok_bind (ok_idx h0 h1) (fun y hy => ?_)
  have := hu s.toNat y (by omega) hy
  exact ok_inl ⟨⟨by omega, (Desc.step h0 hy hne).symm.trans h2⟩, by omega⟩
 ·have := (h2.2 e).le hu; omega
theorem above_ok (l : List api_Slice) (h : l.length ≤ 9223372036854775807) (hu : Up l l.length) (j i : Int) (hj : 0 ≤ j) (hi : i < l.length) : Ok (tracebookref26_above l j i) (fun r => r = true ↔ Desc l j i) := by
 unfold tracebookref26_above
 refine ok_bind (Q := fun a => (Desc l j a ↔ Desc l j i) ∧ a ≤ j) (ok_loop (fun s : Int => s < l.length ∧ (Desc l j s ↔ Desc l j i)) (fun s : Int => (s + 1).toNat) (fun s hs => ?_) ⟨hi, Iff.rfl⟩ (by simp [manyRounds]; omega)) (fun a ha => ok_some ?_)
 ·obtain ⟨h1, h2⟩ := hs
  unfold tracebookref26_above_L1
  refine ok_bind (Q := fun v => (v = true ↔ 0 ≤ s ∧ j < s)) ?_ (fun v hv => ?_)
  ·by_cases g1 : 0 ≤ s <;> by_cases g2 : j < s <;> simp [g1, g2, Ok]
  ·refine ok_cond (fun e => ?_) (fun e => ok_inr ⟨h2, ?_⟩)
   ·obtain ⟨h0, hlt⟩ := hv.1 e
    refine ok_bind (ok_idx h0 h1) (fun y hy => ?_)
    have := hu s.toNat y (by omega) hy
    exact ok_inl ⟨⟨by omega, (Desc.step h0 hy (by omega)).symm.trans h2⟩, by omega⟩
   ·have : ¬ (0 ≤ s ∧ j < s) := fun hh => by have := hv.2 hh; simp [e] at this
    omega
 ·rw [← ha.1]
  constructor
  ·intro e
   rw [← of_decide_eq_true e]
   exact Desc.self
  ·intro hd
   have := hd.le hu
   exact decide_eq_true (by omega)
def sumTo (l : List api_Slice) (i s0 : Int) : Nat → Int
 | 0 => s0
 | n + 1 => match l[n]? with
  | some z => if z.fParent = i then w64 (sumTo l i s0 n - w64 (z.fSpan.fTo - z.fSpan.fFrom)) else sumTo l i s0 n
  | none => sumTo l i s0 n
def Bad (l : List api_Slice) (j i : Int) (z y : api_Slice) : Prop := z.fThread = y.fThread ∧ y.fSpan.fFrom < z.fSpan.fTo ∧ z.fSpan.fFrom < y.fSpan.fTo ∧ ¬ Desc l j i
def Apart (l : List api_Slice) : Prop := ∀ (i : Nat) y, l[i]? = some y → y.fSelf = sumTo l i (w64 (y.fSpan.fTo - y.fSpan.fFrom)) l.length ∧ ∀ (j : Nat) z, j < i → l[j]? = some z → ¬ Bad l j i z y
def Apart' (l : List api_Slice) : Prop := ∀ (i : Nat) y, l[i]? = some y → y.fSelf = sumTo l i (w64 (y.fSpan.fTo - y.fSpan.fFrom)) l.length ∧ ∀ (j : Nat) z, i < j → l[j]? = some z → ¬ Bad l i j y z
theorem apart_iff (l : List api_Slice) : Apart l ↔ Apart' l := by
 constructor
 ·intro h i y hy
  exact ⟨(h i y hy).1, fun j z hj hz => (h j z hz).2 i y hj hy⟩
 ·intro h i y hy
  exact ⟨(h i y hy).1, fun j z hj hz => (h j z hz).2 i y hj hy⟩
theorem sumTo_step {l : List api_Slice} {i s0 : Int} {n : Nat} {z : api_Slice} (hz : l[n]? = some z) : Ok (bif decide (z.fParent = i) then some (w64 (sumTo l i s0 n - w64 (z.fSpan.fTo - z.fSpan.fFrom))) else some (sumTo l i s0 n)) (fun v => v = sumTo l i s0 (n + 1)) := by
 refine ok_ite (fun e => ok_some ?_) (fun e => ok_some ?_) <;> simp [sumTo, hz, e]
theorem ok_up2N {σ ρ : Type} {step : σ × Int → Option ((σ × Int) ⊕ ρ)} (n : Nat) (Inv : σ → Nat → Prop) {Post : ρ → Prop} (hn : n ≤ 9223372036854775807) {s0 : σ} (h0 : Inv s0 0)
  (h : ∀ (s : σ) (i : Nat), Inv s i → i ≤ n → Ok (step (s, (i : Int))) (InlR (fun a => i < n ∧ a.2 = ((i + 1 : Nat) : Int) ∧ Inv a.1 (i + 1)) Post)) : Ok (loop step (s0, 0)) Post := by
 refine ok_up2 n (fun s i => Inv s i.toNat) hn h0 (fun s i hI h1 h2 => ?_)
 obtain ⟨k, rfl⟩ := Int.eq_ofNat_of_zero_le h1
 refine (h s k hI (by omega)).mono ?_
 rintro (⟨a, b⟩ | b) hr
 ·obtain ⟨h3, h4, h5⟩ : k < n ∧ b = ((k + 1 : Nat) : Int) ∧ Inv a (k + 1) := hr
  refine ⟨by omega, by omega, ?_⟩
  rw [show ((k : Int) + 1).toNat = k + 1 by omega]; exact h5
 ·exact hr
theorem ok_upN {ρ : Type} {step : Int → Option (Int ⊕ ρ)} (n : Nat) (Inv : Nat → Prop) {Post : ρ → Prop} (hn : n ≤ 9223372036854775807) (h0 : Inv 0)
  (h : ∀ i : Nat, Inv i → i ≤ n → Ok (step (i : Int)) (InlR (fun a => i < n ∧ a = ((i + 1 : Nat) : Int) ∧ Inv (i + 1)) Post)) : Ok (loop step 0) Post := by
 refine ok_upI n (fun i => Inv i.toNat) hn h0 (fun i hI h1 h2 => ?_)
 obtain ⟨k, rfl⟩ := Int.eq_ofNat_of_zero_le h1
 refine (h k hI (by omega)).mono ?_
 rintro (b | b) hr
 ·obtain ⟨h3, h4, h5⟩ : k < n ∧ b = ((k + 1 : Nat) : Int) ∧ Inv (k + 1) := hr
  refine ⟨by omega, by omega, ?_⟩
  rw [show ((k : Int) + 1).toNat = k + 1 by omega]; exact h5
 ·exact hr
theorem ok_ixN {α : Type} {xs : List α} {i : Nat} (h : i < xs.length) : Ok (idx xs (i : Int)) (fun y => xs[i]? = some y) := by
 rw [idx_nat]; exact ⟨xs[i], by simp [h], by simp [h]⟩
theorem w64_N {i n : Nat} (h : i < n) (hn : n ≤ 9223372036854775807) : w64 ((i : Int) + 1) = ((i + 1 : Nat) : Int) := by rw [w64_of (by omega)]; omega
theorem apart_ok (l : List api_Slice) (h : l.length ≤ 9223372036854775807) (hu : Up l l.length) : Ok (slice_apart l) (fun b => b = true ↔ Apart l) := by
 unfold slice_apart
 let A : Nat → Prop := fun n => ∀ (i : Nat) y, i < n → l[i]? = some y → y.fSelf = sumTo l i (w64 (y.fSpan.fTo - y.fSpan.fFrom)) l.length ∧ ∀ (j : Nat) z, j < i → l[j]? = some z → ¬ Bad l j i z y
 refine ok_bindS (Q := InlR (fun _ => Apart l) (fun b => b = false ∧ ¬ Apart l)) (ok_upN l.length A h (by intro i y hi; omega) (fun i hI h2 => ?_)) (fun _ hq => ok_some ⟨fun _ => hq, fun _ => rfl⟩) (fun r hr => ok_some ⟨fun e => by rw [hr.1] at e; simp at e, fun e => absurd e hr.2⟩)
 unfold slice_apart_L2
 refine ok_ite (fun hi => ?_) (fun hi => ok_inr (fun i' y hy => hI i' y (by have := lt_of_get hy; omega) hy))
 refine ok_bind (ok_ixN (by omega)) (fun y hy => ?_)
 refine ok_bindS (Q := InlR (fun e => e = sumTo l i (w64 (y.fSpan.fTo - y.fSpan.fFrom)) l.length ∧ ∀ (j : Nat) z, j < i → l[j]? = some z → ¬ Bad l j i z y) (InlR (fun _ => False) (fun r => r = .inr false ∧ ¬ Apart l))) (ok_up2N l.length (fun a n => a = sumTo l i (w64 (y.fSpan.fTo - y.fSpan.fFrom)) n ∧ ∀ (j : Nat) z, j < n → j < i → l[j]? = some z → ¬ Bad l j i z y) h ⟨rfl, by intro j z hj; omega⟩ (fun a j hJ h4 => ?_)) (fun e he => ?_) (fun r hr => ?_)
 ·unfold slice_apart_L1
  dsimp only
  refine ok_ite (fun hj => ?_) (fun hj => ok_inr ⟨?_, fun j' z hj' hz => hJ.2 j' z (by have := lt_of_get hz; omega) hj' hz⟩)
  ·refine ok_bind (ok_ixN (by omega)) (fun z hz => ?_)
   rw [hJ.1]
   refine ok_bind (sumTo_step hz) (fun v hv => ?_)
   refine ok_bind (Q := fun b => b = true ↔ (j < i ∧ Bad l j i z y)) ?_ (fun b hb => ?_)
   ·refine ok_ite (fun h5 => ?_) (fun h5 => ok_some ⟨fun e => by simp at e, fun e => absurd e.1 (by omega)⟩)
    refine ok_ite (fun h6 => ?_) (fun h6 => ok_some ⟨fun e => by simp at e, fun e => absurd e.2.1 h6⟩)
    refine ok_ite (fun h7 => ?_) (fun h7 => ok_some ⟨fun e => by simp at e, fun e => absurd e.2.2.1 h7⟩)
    refine ok_ite (fun h8 => ?_) (fun h8 => ok_some ⟨fun e => by simp at e, fun e => absurd e.2.2.2.1 h8⟩)
    refine ok_bind (under_ok l h hu j i (by omega) (by omega)) (fun r hr => ok_some ?_)
    constructor
    ·intro e
     refine ⟨by omega, h6, h7, h8, fun hd => ?_⟩
     rw [hr.2 hd] at e; simp at e
    ·intro e
     cases r with
     | false => rfl
     | true => exact absurd (hr.1 rfl) e.2.2.2.2
   ·refine ok_cond (fun e => ok_inr ⟨rfl, fun hA => ?_⟩) (fun e => ?_)
    ·obtain ⟨g1, g2⟩ := hb.1 e
     exact (hA i y hy).2 j z g1 hz g2
    ·rw [w64_N (n := l.length) (by omega) h]
     refine ok_inl ⟨by omega, rfl, hv, fun j' z' hj' hji hz' hbad => ?_⟩
     by_cases e2 : j' = j
     ·subst e2; rw [hz] at hz'; cases hz'
      rw [hb.2 ⟨hji, hbad⟩] at e; simp at e
     ·exact hJ.2 j' z' (by omega) hji hz' hbad
  ·rw [hJ.1, show j = l.length by omega]
 ·dsimp only
  refine ok_nite (fun hne => ok_inr ⟨rfl, fun hA => hne ((hA i y hy).1.trans he.1.symm)⟩) (fun heq => ?_)
  rw [w64_N (n := l.length) (by omega) h]
  refine ok_inl ⟨by omega, rfl, fun i' y' hi' hy' => ?_⟩
  by_cases e2 : i' = i
  ·subst e2; rw [hy] at hy'; cases hy'
   exact ⟨heq.trans he.1, he.2⟩
  ·exact hI i' y' (by omega) hy'
 ·rcases r with r | r
  ·exact (hr : False).elim
  ·obtain ⟨e1, e2⟩ : r = .inr false ∧ ¬ Apart l := hr
   subst e1
   exact ok_inr ⟨rfl, e2⟩
theorem formed_ok (l : List api_Slice) (h : l.length ≤ 9223372036854775807) (hu : Up l l.length) : Ok (loop (tracebookref26_formed_L2 l) 0) (fun q => (∃ u, q = .inl u ∧ Apart' l) ∨ (q = .inr false ∧ ¬ Apart' l)) := by
 let A : Nat → Prop := fun n => ∀ (i : Nat) y, i < n → l[i]? = some y → y.fSelf = sumTo l i (w64 (y.fSpan.fTo - y.fSpan.fFrom)) l.length ∧ ∀ (j : Nat) z, i < j → l[j]? = some z → ¬ Bad l i j y z
 refine ok_upN l.length A h (by intro i y hi; omega) (fun i hI h2 => ?_)
 unfold tracebookref26_formed_L2
 refine ok_ite (fun hi => ?_) (fun hi => ok_inr (.inl ⟨(), rfl, fun i' y hy => hI i' y (by have := lt_of_get hy; omega) hy⟩))
 obtain ⟨y, hiy, hy⟩ := ok_ixN (xs := l) (i := i) (by omega)
 simp only [hiy, Option.bind_some]
 refine ok_bindS (Q := InlR (fun e => e = sumTo l i (w64 (y.fSpan.fTo - y.fSpan.fFrom)) l.length ∧ ∀ (j : Nat) z, i < j → l[j]? = some z → ¬ Bad l i j y z) (InlR (fun _ => False) (fun r => r = .inr false ∧ ¬ Apart' l))) (ok_up2N l.length (fun a n => a = sumTo l i (w64 (y.fSpan.fTo - y.fSpan.fFrom)) n ∧ ∀ (j : Nat) z, j < n → i < j → l[j]? = some z → ¬ Bad l i j y z) h ⟨rfl, by intro j z hj; omega⟩ (fun a j hJ h4 => ?_)) (fun e he => ?_) (fun r hr => ?_)
 ·unfold tracebookref26_formed_L1
  dsimp only
  refine ok_ite (fun hj => ?_) (fun hj => ok_inr ⟨?_, fun j' z hj' hz => hJ.2 j' z (by have := lt_of_get hz; omega) hj' hz⟩)
  ·obtain ⟨z, hjz, hz⟩ := ok_ixN (xs := l) (i := j) (by omega)
   simp only [hjz, hiy, Option.bind_some]
   rw [hJ.1]
   refine ok_bind (sumTo_step hz) (fun v hv => ?_)
   refine ok_bind (Q := fun b => b = true ↔ (y.fSpan.fFrom < z.fSpan.fTo ∧ z.fSpan.fFrom < y.fSpan.fTo)) ?_ (fun v9 hv9 => ?_)
   ·by_cases g1 : y.fSpan.fFrom < z.fSpan.fTo <;> by_cases g2 : z.fSpan.fFrom < y.fSpan.fTo <;> simp [g1, g2, Ok]
   refine ok_bind (Q := fun b => b = true ↔ (i < j ∧ Bad l i j y z)) ?_ (fun b hb => ?_)
   ·refine ok_ite (fun h5 => ?_) (fun h5 => ok_some ⟨fun e => by simp at e, fun e => absurd e.1 (by omega)⟩)
    refine ok_ite (fun h6 => ?_) (fun h6 => ok_some ⟨fun e => by simp at e, fun e => absurd e.2.1 h6⟩)
    refine ok_cond (fun h7 => ?_) (fun h7 => ok_some ⟨fun e => by simp at e, fun e => ?_⟩)
    ·refine ok_bind (above_ok l h hu i j (by omega) (by omega)) (fun r hr => ok_some ?_)
     have h8 := hv9.1 h7
     constructor
     ·intro e
      refine ⟨by omega, h6, h8.2, h8.1, fun hd => ?_⟩
      rw [hr.2 hd] at e; simp at e
     ·intro e
      cases r with
      | false => rfl
      | true => exact absurd (hr.1 rfl) e.2.2.2.2
    ·have := hv9.2 ⟨e.2.2.2.1, e.2.2.1⟩
     rw [h7] at this; simp at this
   ·refine ok_cond (fun e => ok_inr ⟨rfl, fun hA => ?_⟩) (fun e => ?_)
    ·obtain ⟨g1, g2⟩ := hb.1 e
     exact (hA i y hy).2 j z g1 hz g2
    ·rw [w64_N (n := l.length) (by omega) h]
     refine ok_inl ⟨by omega, rfl, hv, fun j' z' hj' hji hz' hbad => ?_⟩
     by_cases e2 : j' = j
     ·subst e2; rw [hz] at hz'; cases hz'
      rw [hb.2 ⟨hji, hbad⟩] at e; simp at e
     ·exact hJ.2 j' z' (by omega) hji hz' hbad
  ·rw [hJ.1, show j = l.length by omega]
 ·dsimp only
  refine ok_nite (fun hne => ok_inr (.inr ⟨rfl, fun hA => hne ((hA i y hy).1.trans he.1.symm)⟩)) (fun heq => ?_)
  rw [w64_N (n := l.length) (by omega) h]
  refine ok_inl ⟨by omega, rfl, fun i' y' hi' hy' => ?_⟩
  by_cases e2 : i' = i
  ·subst e2; rw [hy] at hy'; cases hy'
   exact ⟨heq.trans he.1, he.2⟩
  ·exact hI i' y' (by omega) hy'
 ·rcases r with r | r
  ·exact (hr : False).elim
  ·obtain ⟨e1, e2⟩ : r = .inr false ∧ ¬ Apart' l := hr
   subst e1
   exact ok_inr (.inr ⟨rfl, e2⟩)
theorem nested_res {l : List api_Slice} {q : Unit ⊕ Bool} (h : loop (slice_nested_L1 l) 0 = some q) : ∀ x, q = .inr x → x = false := by
 refine loop_res (Q := fun q : Unit ⊕ Bool => ∀ x, q = .inr x → x = false) (fun i r hr => ?_) h
 unfold slice_nested_L1 at hr
 cases h1 : decide (i < (l.length : Int)) with
 | false => rw [h1] at hr; simp at hr; subst hr; intro x hx; cases hx
 | true =>
  rw [h1] at hr
  simp only [cond_true] at hr
  obtain ⟨y, _, hr⟩ := bB hr
  obtain ⟨v, _, hr⟩ := bB hr
  cases v
  ·simp only [cond_false] at hr
   cases h2 : decide (y.fParent = -1) with
   | true =>
    rw [h2] at hr
    simp only [cond_true] at hr
    cases h3 : decide (y.fDepth = 0) <;> simp [h3] at hr
    subst hr; intro x hx; cases hx; rfl
   | false =>
    rw [h2] at hr
    simp only [cond_false] at hr
    obtain ⟨z, _, hr⟩ := bB hr
    obtain ⟨w, _, hr⟩ := bB hr
    cases w <;> simp at hr
    subst hr; intro x hx; cases hx; rfl
  ·simp at hr; subst hr; intro x hx; cases hx; rfl
theorem slice_L1_eq (l : List api_Slice) : slice_Check_L1 l = tracebookref26_Check_L1 l := by
 funext i
 unfold slice_Check_L1 tracebookref26_Check_L1
 cases e : idx l i with
 | none => rfl
 | some y =>
  simp only [Option.bind_some, ← Name_eq, Valid_eq]
  congr 1
  congr 1
  funext v53
  congr 1
  congr 1
  funext r54
  congr 1
  have e4 : (bif decide (0 < i) then (idx l (w64 (i - 1))).bind fun y58 => (slice_compare y58 y).bind fun r59 => some (decide (0 < r59)) else some false) = (bif decide (0 < i) then (idx l (w64 (i - 1))).bind fun y68 => (tracebookref26_Precedes y y68).bind fun r69 => some r69 else some false) := by
   congr 1
   congr 1
   funext p
   obtain ⟨c, h1, h2⟩ := compare_eq p y
   rw [h1, h2]; rfl
  rw [e4]
theorem slice_eq (l : List api_Slice) (h : l.length ≤ 9223372036854775807) : slice_Check l = tracebookref26_Check l := by
 unfold slice_Check tracebookref26_Check
 rw [slice_L1_eq]
 congr 1
 funext q
 cases q with
 | inr x => rfl
 | inl u =>
  obtain ⟨b, hb, hUp⟩ := slice_nested_ok l h
  dsimp only
  rw [hb, Option.bind_some]
  unfold slice_nested at hb
  unfold tracebookref26_formed
  rw [← nested_step]
  obtain ⟨q, hq, hb⟩ := bB hb
  rw [hq, Option.bind_some]
  cases q with
  | inr x =>
   have := nested_res hq x rfl
   subst this
   simp at hb; subst hb
   rfl
  | inl u' =>
   simp at hb; subst hb
   have hu := hUp rfl
   obtain ⟨b1, h1, h2⟩ := apart_ok l h hu
   obtain ⟨q2, h3, h4⟩ := formed_ok l h hu
   simp only [h1, h3, Option.bind_some, Bool.not_true, cond_false]
   rcases h4 with ⟨u2, rfl, h5⟩ | ⟨rfl, h5⟩
   ·rw [h2.2 ((apart_iff l).2 h5)]; rfl
   ·cases b1
    ·rfl
    ·exact absurd ((apart_iff l).1 (h2.1 rfl)) h5
theorem ok_up2M {σ ρ : Type} {step : σ × Int → Option ((σ × Int) ⊕ ρ)} (n : Nat) (Inv : σ → Nat → Prop) {Post : ρ → Prop} (hn : n ≤ 9223372036854775807) {s0 : σ} (h0 : Inv s0 0)
  (h : ∀ (s : σ) (i : Nat), Inv s i → i ≤ n → Ok (step (s, (i : Int))) (InlR (fun a => i < n ∧ a.2 = ((i + 1 : Nat) : Int) ∧ Inv a.1 (i + 1)) Post)) : Ok (loop step (s0, 0)) Post := by
 refine ok_up2 n (fun s i => Inv s i.toNat) hn h0 (fun s i hI h1 h2 => ?_)
 obtain ⟨k, rfl⟩ := Int.eq_ofNat_of_zero_le h1
 refine (h s k hI (by omega)).mono ?_
 rintro (⟨a, b⟩ | b) hr
 ·obtain ⟨h3, h4, h5⟩ : k < n ∧ b = ((k + 1 : Nat) : Int) ∧ Inv a (k + 1) := hr
  refine ⟨by omega, by omega, ?_⟩
  rw [show ((k : Int) + 1).toNat = k + 1 by omega]; exact h5
 ·exact hr
theorem ok_upM {ρ : Type} {step : Int → Option (Int ⊕ ρ)} (n : Nat) (Inv : Nat → Prop) {Post : ρ → Prop} (hn : n ≤ 9223372036854775807) (h0 : Inv 0)
  (h : ∀ i : Nat, Inv i → i ≤ n → Ok (step (i : Int)) (InlR (fun a => i < n ∧ a = ((i + 1 : Nat) : Int) ∧ Inv (i + 1)) Post)) : Ok (loop step 0) Post := by
 refine ok_upI n (fun i => Inv i.toNat) hn h0 (fun i hI h1 h2 => ?_)
 obtain ⟨k, rfl⟩ := Int.eq_ofNat_of_zero_le h1
 refine (h k hI (by omega)).mono ?_
 rintro (b | b) hr
 ·obtain ⟨h3, h4, h5⟩ : k < n ∧ b = ((k + 1 : Nat) : Int) ∧ Inv (k + 1) := hr
  refine ⟨by omega, by omega, ?_⟩
  rw [show ((k : Int) + 1).toNat = k + 1 by omega]; exact h5
 ·exact hr
theorem ok_ixM {α : Type} {xs : List α} {i : Nat} (h : i < xs.length) : Ok (idx xs (i : Int)) (fun y => xs[i]? = some y) := by
 rw [idx_nat]; exact ⟨xs[i], by simp [h], by simp [h]⟩
theorem w64_M {i n : Nat} (h : i < n) (hn : n ≤ 9223372036854775807) : w64 ((i : Int) + 1) = ((i + 1 : Nat) : Int) := by rw [w64_of (by omega)]; omega
def SpV (l : List api_Slice) : Prop := ∀ s ∈ l, 0 ≤ s.fSpan.fFrom ∧ s.fSpan.fFrom < s.fSpan.fTo ∧ s.fSpan.fTo ≤ 1000000000000
theorem slice_Check_v (l : List api_Slice) (h : l.length ≤ 9223372036854775807) (hx : ∀ x ∈ l, okN x.fName) : Ok (slice_Check l) (fun r => r = 0 → SpV l) := by
 unfold slice_Check
 refine ok_bindS (Q := InlR (fun _ => SpV l) (fun r => r ≠ 0)) (ok_upM l.length (fun n => ∀ (k : Nat) s, k < n → l[k]? = some s → 0 ≤ s.fSpan.fFrom ∧ s.fSpan.fFrom < s.fSpan.fTo ∧ s.fSpan.fTo ≤ 1000000000000) h (by intro k s hk; omega) (fun i hI h2 => ?_)) (fun _ hq => ?_) (fun r hr => ok_some (fun e => absurd e hr))
 ·unfold slice_Check_L1
  refine ok_ite (fun hi => ?_) (fun hi => ok_inr (fun s hs => ?_))
  ·refine ok_bind (ok_ixM (by omega)) (fun y hy => ?_)
   refine ok_bind (Q := fun v => v = false → 0 ≤ y.fSpan.fFrom ∧ y.fSpan.fFrom < y.fSpan.fTo ∧ y.fSpan.fTo ≤ 1000000000000) ?_ (fun v hv => ?_)
   ·refine ok_ite (fun _ => ok_some (by simp)) (fun _ => ?_)
    refine ok_ite (fun _ => ok_some (by simp)) (fun _ => ?_)
    refine ok_bind (spans_Valid_val y.fSpan) (fun b hb => ok_some (fun e => hb (by simpa using e)))
   refine ok_cond (fun _ => ok_inr (show (2 : Int) ≠ 0 by omega)) (fun e => ?_)
   refine ok_bind (intern_Name_ok _ (hx _ (List.mem_of_getElem? hy))) (fun r _ => ?_)
   refine ok_nite (fun h0 => ok_inr h0) (fun _ => ?_)
   refine ok_bind (Q := Yes) ?_ (fun v2 _ => ?_)
   ·refine ok_ite (fun h0 => ?_) (fun _ => ok_yes)
    rw [show w64 ((i : Int) - 1) = (i : Int) - 1 from w64_of (by omega)]
    refine ok_bind (ok_idx (by omega) (by omega)) (fun z _ => ?_)
    exact ok_bind (slice_compare_ok _ _) (fun _ _ => ok_yes)
   refine ok_cond (fun _ => ok_inr (show (11 : Int) ≠ 0 by omega)) (fun _ => ?_)
   rw [w64_M (n := l.length) (by omega) h]
   refine ok_inl ⟨by omega, rfl, fun k s hk hs => ?_⟩
   by_cases e2 : k = i
   ·subst e2; rw [hy] at hs; cases hs; exact hv e
   ·exact hI k s (by omega) hs
  ·obtain ⟨k, hk⟩ := List.getElem?_of_mem hs
   exact hI k s (by have := lt_of_get hk; omega) hk
 ·have hq' : SpV l := hq
  dsimp only
  refine ok_bind (Q := Yes) ?_ (fun v _ => ok_cond (fun _ => ok_some (fun e => by simp at e)) (fun _ => ok_some (fun _ => hq')))
  refine ok_bind (slice_nested_ok l h) (fun b hb => ?_)
  refine ok_not (fun _ => ok_yes) (fun e => ?_)
  exact ok_bind (slice_apart_ok l h (hb e)) (fun _ _ => ok_yes)
theorem siz26 {l : List api_Slice} (h : okr_L_api_Slice l) : l.length ≤ 140737488351232 ∧ ∀ x ∈ l, okN x.fName := by
 have e : reachBytes = 140737488351232 := by decide
 unfold okr_L_api_Slice okL at h
 rw [e] at h
 refine ⟨h.1, fun x hx => ?_⟩
 have := (h.2 x hx).2.2.2.1
 rw [e] at this
 unfold okN; omega
theorem lives26_eq : tracebooklaw26_lives = some true := rfl
theorem slices_ReverseS_eq (l : List ByteArray) (hl : l.length ≤ 9223372036854775807) : slices_Reverse_string_string_k1 l = some l.reverse := by
 have : Ok (slices_Reverse_string_string_k1 l) (fun r => r = l.reverse) := by
  unfold slices_Reverse_string_string_k1
  rw [show w64 ((l.length : Int) - 1) = (l.length : Int) - 1 from w64_of (by omega)]
  refine ok_loop (fun s : List ByteArray × Int × Int => 0 ≤ s.2.1 ∧ s.2.1 + s.2.2 = (l.length : Int) - 1 ∧ s.2.1 ≤ s.2.2 + 1 ∧ s.1.length = l.length ∧ ∀ k : Nat, k < l.length → s.1[k]? = if (k : Int) < s.2.1 ∨ s.2.2 < (k : Int) then l[l.length - 1 - k]? else l[k]?) (fun s => (s.2.2 + 1).toNat) (fun s hs => ?_) ⟨by simp, by simp, by simp, by simp, fun k hk => ?_⟩ (by simp [manyRounds]; omega)
  ·obtain ⟨c, i, j⟩ := s
   obtain ⟨h1, h2, h3, h4, h5⟩ := hs
   simp only at h1 h2 h3 h4 h5
   unfold slices_Reverse_string_string_k1_L1
   dsimp only
   refine ok_ite (fun hi => ?_) (fun hi => ok_inr ?_)
   ·refine ok_bind (ok_idx (by omega) (by omega)) (fun y hy => ?_)
    refine ok_bind (ok_idx (by omega) (by omega)) (fun z hz => ?_)
    refine ok_bind (Q := Yes) (ok_idx (by omega) (by omega)).yes (fun _ _ => ?_)
    refine ok_bind (Q := Yes) (ok_idx (by omega) (by simp; omega)).yes (fun _ _ => ?_)
    rw [show w64 (i + 1) = i + 1 from w64_of (by omega), show w64 (j - 1) = j - 1 from w64_of (by omega)]
    refine ok_inl ⟨⟨by simp; omega, by simp; omega, by simp; omega, by simp; omega, fun k hk => ?_⟩, by simp; omega⟩
    simp only [List.getElem?_set, List.length_set]
    have hy' := h5 j.toNat (by omega)
    have hz' := h5 i.toNat (by omega)
    rw [hy, if_neg (by omega)] at hy'
    rw [hz, if_neg (by omega)] at hz'
    by_cases e1 : j.toNat = k
    ·rw [if_pos e1, if_pos (by omega), if_pos (by omega), hz']
     congr 1; omega
    ·rw [if_neg e1]
     by_cases e2 : i.toNat = k
     ·rw [if_pos e2, if_pos (by omega), if_pos (by omega), hy']
      congr 1; omega
     ·rw [if_neg e2, h5 k hk]
      by_cases e3 : (k : Int) < i ∨ j < (k : Int)
      ·rw [if_pos e3, if_pos (by omega)]
      ·rw [if_neg e3, if_neg (by omega)]
   ·apply List.ext_getElem?
    intro k
    by_cases hk : k < l.length
    ·rw [h5 k hk, List.getElem?_reverse hk]
     split
     ·rfl
     ·congr 1; omega
    ·rw [List.getElem?_eq_none (by omega), List.getElem?_eq_none (by simp; omega)]
  ·simp only
   rw [if_neg (by omega)]
 obtain ⟨r, h1, h2⟩ := this
 rw [h1, h2]
def NestAt (l : List api_Slice) (i : Nat) (y : api_Slice) : Prop :=
 (y.fParent = -1 ∧ y.fDepth = 0) ∨ ∃ p z, y.fParent = ((p : Nat) : Int) ∧ p < i ∧ l[p]? = some z ∧ z.fThread = y.fThread ∧ z.fSpan.fFrom ≤ y.fSpan.fFrom ∧ y.fSpan.fTo ≤ z.fSpan.fTo ∧ y.fDepth = w64 (z.fDepth + 1)
def Nest (l : List api_Slice) : Prop := ∀ (i : Nat) y, l[i]? = some y → NestAt l i y
theorem nested_v (l : List api_Slice) (h : l.length ≤ 9223372036854775807) : Ok (slice_nested l) (fun b => b = true → Nest l) := by
 unfold slice_nested
 refine ok_bindS (Q := InlR (fun _ => Nest l) (fun b => b = false)) (ok_upM l.length (fun n => ∀ (k : Nat) y, k < n → l[k]? = some y → NestAt l k y) h (by intro k y hk; omega) (fun i hI h2 => ?_)) (fun _ hq => ok_some (fun _ => hq)) (fun r hr => ok_some (fun e => ?_))
 ·unfold slice_nested_L1
  refine ok_ite (fun hi => ?_) (fun hi => ok_inr (fun k y hy => hI k y (by have := lt_of_get hy; omega) hy))
  refine ok_bind (ok_ixM (by omega)) (fun y hy => ?_)
  have no : InlR (fun _ : Unit => Nest l) (fun b => b = false) (.inr false) := rfl
  have nx : NestAt l i y → Ok (some (.inl (w64 ((i : Int) + 1)))) (InlR (fun a => i < l.length ∧ a = ((i + 1 : Nat) : Int) ∧ ∀ (k : Nat) y, k < i + 1 → l[k]? = some y → NestAt l k y) (InlR (fun _ : Unit => Nest l) (fun b => b = false))) := by
   intro hn
   rw [w64_M (n := l.length) (by omega) h]
   refine ok_inl ⟨by omega, rfl, fun k z hk hz => ?_⟩
   by_cases e : k = i
   ·subst e; rw [hy] at hz; cases hz; exact hn
   ·exact hI k z (by omega) hz
  refine ok_bind (Q := fun v => v = false → -1 ≤ y.fParent ∧ y.fParent < i) ?_ (fun v hv => ?_)
  ·refine ok_ite (fun _ => ok_some (by simp)) (fun h3 => ok_some (fun h4 => ?_))
   have := of_decide_eq_false h4
   omega
  refine ok_cond (fun _ => ok_inr no) (fun h0 => ?_)
  have hp := hv h0
  refine ok_ite (fun e1 => ?_) (fun hne => ?_)
  ·refine ok_nite (fun _ => ok_inr no) (fun e2 => nx (.inl ⟨e1, e2⟩))
  ·obtain ⟨p, hpe⟩ := Int.eq_ofNat_of_zero_le (show 0 ≤ y.fParent by omega)
   rw [hpe]
   refine ok_bind (ok_ixM (by omega)) (fun z hz => ?_)
   refine ok_bind (Q := fun v => v = false → z.fThread = y.fThread ∧ z.fSpan.fFrom ≤ y.fSpan.fFrom ∧ y.fSpan.fTo ≤ z.fSpan.fTo ∧ y.fDepth = w64 (z.fDepth + 1)) ?_ (fun v hv => ?_)
   ·refine ok_nite (fun _ => ok_some (by simp)) (fun g1 => ?_)
    refine ok_ite (fun _ => ok_some (by simp)) (fun g2 => ?_)
    refine ok_ite (fun _ => ok_some (by simp)) (fun g3 => ok_some (fun g4 => ?_))
    exact ⟨g1, by omega, by omega, by simpa using g4⟩
   refine ok_cond (fun _ => ok_inr no) (fun e => nx (.inr ⟨p, z, hpe, by omega, hz, hv e⟩))
 ·have : r = false := hr
  simp [this] at e
structure Val (l : List api_Slice) : Prop where
 sp : SpV l
 th : ∀ s ∈ l, 0 ≤ s.fThread ∧ s.fThread ≤ 1000000000000000
 nest : Nest l
 apart : Apart l
theorem Nest.up {l : List api_Slice} (h : Nest l) : Up l l.length := by
 intro j y hj hy
 rcases h j y hy with ⟨e, _⟩ | ⟨p, z, e, hp, _⟩ <;> omega
theorem Check_val (l : List api_Slice) (h : l.length ≤ 9223372036854775807) (hx : ∀ x ∈ l, okN x.fName) : Ok (slice_Check l) (fun r => r = 0 → Val l) := by
 obtain ⟨r, hr, hsp⟩ := slice_Check_v l h hx
 refine ⟨r, hr, fun e => ?_⟩
 subst e
 have key : Ok (slice_Check l) (fun r => r = 0 → (∀ s ∈ l, 0 ≤ s.fThread ∧ s.fThread ≤ 1000000000000000) ∧ Nest l ∧ Apart l) := by
  unfold slice_Check
  refine ok_bindS (Q := InlR (fun _ => ∀ s ∈ l, 0 ≤ s.fThread ∧ s.fThread ≤ 1000000000000000) (fun r => r ≠ 0)) (ok_upM l.length (fun n => ∀ (k : Nat) s, k < n → l[k]? = some s → 0 ≤ s.fThread ∧ s.fThread ≤ 1000000000000000) h (by intro k s hk; omega) (fun i hI h2 => ?_)) (fun _ hq => ?_) (fun r hr => ok_some (fun e => absurd e hr))
  ·unfold slice_Check_L1
   refine ok_ite (fun hi => ?_) (fun hi => ok_inr (fun s hs => ?_))
   ·refine ok_bind (ok_ixM (by omega)) (fun y hy => ?_)
    refine ok_bind (Q := fun v => v = false → 0 ≤ y.fThread ∧ y.fThread ≤ 1000000000000000) ?_ (fun v hv => ?_)
    ·refine ok_ite (fun _ => ok_some (by simp)) (fun g1 => ?_)
     refine ok_ite (fun _ => ok_some (by simp)) (fun g2 => ?_)
     exact ok_bind (spans_Valid_ok y.fSpan) (fun b _ => ok_some (fun _ => ⟨by omega, by omega⟩))
    refine ok_cond (fun _ => ok_inr (show (2 : Int) ≠ 0 by omega)) (fun e => ?_)
    refine ok_bind (intern_Name_ok _ (hx _ (List.mem_of_getElem? hy))) (fun r _ => ?_)
    refine ok_nite (fun h0 => ok_inr h0) (fun _ => ?_)
    refine ok_bind (Q := Yes) ?_ (fun v2 _ => ?_)
    ·refine ok_ite (fun h0 => ?_) (fun _ => ok_yes)
     rw [show w64 ((i : Int) - 1) = (i : Int) - 1 from w64_of (by omega)]
     refine ok_bind (ok_idx (by omega) (by omega)) (fun z _ => ?_)
     exact ok_bind (slice_compare_ok _ _) (fun _ _ => ok_yes)
    refine ok_cond (fun _ => ok_inr (show (11 : Int) ≠ 0 by omega)) (fun _ => ?_)
    rw [w64_M (n := l.length) (by omega) h]
    refine ok_inl ⟨by omega, rfl, fun k s hk hs => ?_⟩
    by_cases e2 : k = i
    ·subst e2; rw [hy] at hs; cases hs; exact hv e
    ·exact hI k s (by omega) hs
   ·obtain ⟨k, hk⟩ := List.getElem?_of_mem hs
    exact hI k s (by have := lt_of_get hk; omega) hk
  ·have hq' : ∀ s ∈ l, 0 ≤ s.fThread ∧ s.fThread ≤ 1000000000000000 := hq
   dsimp only
   refine ok_bind (Q := fun v => v = false → Nest l ∧ Apart l) ?_ (fun v hv => ok_cond (fun _ => ok_some (fun e => by simp at e)) (fun e => ok_some (fun _ => ⟨hq', hv e⟩)))
   refine ok_bind (nested_v l h) (fun b hb => ?_)
   refine ok_not (fun _ => ok_some (by simp)) (fun e => ?_)
   refine ok_bind (apart_ok l h (hb e).up) (fun b2 hb2 => ok_some (fun e2 => ⟨hb e, hb2.1 (by simpa using e2)⟩))
 obtain ⟨r', hr', h3⟩ := key
 rw [hr] at hr'; cases hr'
 exact ⟨hsp rfl, (h3 rfl).1, (h3 rfl).2.1, (h3 rfl).2.2⟩
theorem Nest.depth {l : List api_Slice} (h : Nest l) (hl : l.length ≤ 1000) : ∀ (i : Nat) y, l[i]? = some y → 0 ≤ y.fDepth ∧ y.fDepth ≤ i := by
 intro i
 induction i using Nat.strongRecOn with
 | _ i ih =>
  intro y hy
  have := lt_of_get hy
  rcases h i y hy with ⟨_, e⟩ | ⟨p, z, e, hp, hz, _, _, _, hd⟩
  ·omega
  ·have h1 := ih p hp z hz
   rw [w64_of (by omega)] at hd
   omega
inductive PathR (l : List api_Slice) : Int → List ByteArray → Prop
 | out {i : Int} : i < 0 → PathR l i []
 | up {i : Nat} {y : api_Slice} {p : List ByteArray} : l[i]? = some y → PathR l y.fParent p → PathR l (i : Int) (p ++ [y.fName])
theorem PathR.inv {l : List api_Slice} {a : Int} {k : Nat} {y : api_Slice} {p : List ByteArray} (h : PathR l a p) (ha : a = (k : Int)) (hy : l[k]? = some y) : ∃ q, PathR l y.fParent q ∧ p = q ++ [y.fName] := by
 cases h with
 | out h => omega
 | @up i z q hz hq =>
  have : i = k := by omega
  subst this
  rw [hy] at hz; cases hz
  exact ⟨q, hq, rfl⟩
theorem PathR.uni {l : List api_Slice} {i : Int} {p : List ByteArray} (h1 : PathR l i p) : ∀ {q : List ByteArray}, PathR l i q → p = q := by
 induction h1 with
 | @out i h0 => intro q h2; cases h2 with
  | out _ => rfl
  | up => omega
 | @up k y p hy _ ih =>
  intro q h2
  obtain ⟨q', h3, rfl⟩ := h2.inv rfl hy
  rw [ih h3]
theorem Nest.path {l : List api_Slice} (h : Nest l) (hl : l.length ≤ 1000) : ∀ (i : Nat) y, l[i]? = some y → ∃ p, PathR l (i : Int) p ∧ (p.length : Int) = y.fDepth + 1 := by
 intro i
 induction i using Nat.strongRecOn with
 | _ i ih =>
  intro y hy
  rcases h i y hy with ⟨e0, e⟩ | ⟨p, z, e, hp, hz, _, _, _, hd⟩
  ·exact ⟨[] ++ [y.fName], .up hy (.out (by omega)), by simp [e]⟩
  ·obtain ⟨q, h1, h2⟩ := ih p hp z hz
   have h3 := h.depth hl p z hz
   have := lt_of_get hy
   rw [w64_of (by omega)] at hd
   refine ⟨q ++ [y.fName], .up hy (by rw [e]; exact h1), by simp; omega⟩
theorem path_val (l : List api_Slice) (h : Nest l) (hl : l.length ≤ 1000) {i : Int} (hi : i < l.length) {p : List ByteArray} (hp : PathR l i p) : slice_Path l i = some p := by
 unfold slice_Path
 by_cases h0 : i < 0
 ·cases hp with
  | out _ => simp [h0]
  | up => omega
 ·have h1 : ¬ (l.length : Int) ≤ i := by omega
  simp only [h0, h1, decide_false, cond_false, Option.bind_some]
  have : Ok (loop (slice_Path_L1 l) (i, [], 0)) (fun r => r = p.reverse) := by
   refine ok_loop (fun s : Int × List ByteArray × Int => s.1 < l.length ∧ -1 ≤ s.1 ∧ s.2.2 = s.2.1.length ∧ s.2.2 + s.1 ≤ l.length ∧ ∃ q, PathR l s.1 q ∧ p.reverse = s.2.1 ++ q.reverse) (fun s => (s.1 + 1).toNat) (fun s hs => ?_) ⟨hi, by simp only; omega, by simp, by simp only; omega, p, hp, by simp⟩ (by simp [manyRounds]; omega)
   obtain ⟨a, c, n⟩ := s
   obtain ⟨g1, g2, g3, g4, q, g5, g6⟩ := hs
   simp only at g1 g2 g3 g4 g5 g6
   unfold slice_Path_L1
   dsimp only
   refine ok_bind (Q := fun v => v = decide (0 ≤ a)) ?_ (fun v hv => ?_)
   ·refine ok_ite (fun k1 => ?_) (fun k1 => ok_some (by simp [k1]))
    refine ok_ite (fun k2 => ok_some ?_) (fun k2 => by omega)
    have : n ≤ l.length := by omega
    simp [k1, this]
   subst hv
   refine ok_ite (fun k1 => ?_) (fun k1 => ok_inr ?_)
   ·obtain ⟨k, rfl⟩ := Int.eq_ofNat_of_zero_le k1
    refine ok_bind (ok_ixM (by omega)) (fun y hy => ?_)
    rw [room_ok (by simp; omega) (by simp; omega)]
    simp only [cond_true]
    refine ok_bind (ok_ixM (by omega)) (fun y' hy' => ?_)
    rw [hy] at hy'; cases hy'
    rw [w64_of (by omega)]
    have hnext : -1 ≤ y.fParent ∧ y.fParent < k := by
     rcases h k y hy with ⟨e, _⟩ | ⟨p', z, e, hp', _⟩ <;> omega
    refine ok_inl ⟨⟨by simp only; omega, by simp only; omega, by simp only [List.length_append, List.length_cons, List.length_nil]; omega, by simp only; omega, ?_⟩, by simp only; omega⟩
    obtain ⟨q2, hq2, rfl⟩ := g5.inv rfl hy
    exact ⟨q2, hq2, by rw [g6]; simp⟩
   ·cases g5 with
    | out _ => simpa using g6.symm
    | up => omega
  obtain ⟨r, hr, e⟩ := this
  subst e
  have hlen : p.length ≤ 9223372036854775807 := by
   obtain ⟨k, rfl⟩ := Int.eq_ofNat_of_zero_le (show 0 ≤ i by omega)
   obtain ⟨y, hy⟩ : ∃ y, l[k]? = some y := ⟨l[k]'(by omega), List.getElem?_eq_getElem (by omega)⟩
   obtain ⟨p', h5, h6⟩ := h.path hl k y hy
   rw [hp.uni h5]
   have := h.depth hl k y hy
   omega
  rw [hr, Option.bind_some, slices_ReverseS_eq _ (by simpa using hlen)]
  simp
theorem ok_up2I {σ ρ : Type} {step : σ × Int → Option ((σ × Int) ⊕ ρ)} (n : Nat) (Inv : σ → Nat → Prop) {Post : ρ → Prop} (hn : n ≤ 9223372036854775807) {s0 : σ} (h0 : Inv s0 0)
  (h : ∀ (s : σ) (i : Nat), Inv s i → i ≤ n → Ok (step (s, (i : Int))) (InlR (fun a => i < n ∧ a.2 = ((i + 1 : Nat) : Int) ∧ Inv a.1 (i + 1)) Post)) : Ok (loop step (s0, 0)) Post := ok_up2M n Inv hn h0 h
def kidsN (l : List api_Slice) (i : Int) : Nat → List Int
 | 0 => []
 | n + 1 => kidsN l i n ++ (match l[n]? with | some y => if y.fParent = i then [(n : Int)] else [] | none => [])
theorem kidsN_len (l : List api_Slice) (i : Int) : ∀ n, (kidsN l i n).length ≤ n
 | 0 => Nat.le_refl 0
 | n + 1 => by
  have := kidsN_len l i n
  simp only [kidsN, List.length_append]
  split
  ·split <;> simp <;> omega
  ·simp; omega
theorem children_val (l : List api_Slice) (hl : l.length ≤ 1000) (i : Int) : slice_Children l i = some (if 0 ≤ i ∧ i < l.length then kidsN l i l.length else []) := by
 have : Ok (slice_Children l i) (fun r => r = (if 0 ≤ i ∧ i < l.length then kidsN l i l.length else [])) := by
  unfold slice_Children
  refine ok_bind (Q := fun r => r = (if 0 ≤ i ∧ i < l.length then kidsN l i l.length else [])) (ok_up2I l.length (fun (c : List Int) n => c = (if 0 ≤ i ∧ i < l.length then kidsN l i n else [])) (by omega) (by simp [kidsN]) (fun c n hI h2 => ?_)) (fun r hr => ok_some hr)
  unfold slice_Children_L1
  dsimp only
  subst hI
  refine ok_ite (fun hi => ?_) (fun hi => ok_inr (by have : n = l.length := (by omega); rw [this]))
  refine ok_bind (Q := fun c => c = (if 0 ≤ i ∧ i < l.length then kidsN l i (n + 1) else [])) ?_ (fun c hc => by rw [w64_M (n := l.length) (by omega) (by omega)]; exact ok_inl ⟨by omega, rfl, hc⟩)
  refine ok_bind (ok_ixM (by omega)) (fun y hy => ?_)
  have hlen := kidsN_len l i n
  by_cases k1 : 0 ≤ i
  ·by_cases k2 : i < l.length
   ·by_cases k3 : y.fParent = i
    ·have hroom : room 8 ((if 0 ≤ i ∧ i < ↑l.length then kidsN l i n else []).length + [(n : Int)].length) = true := by
      rw [if_pos ⟨k1, k2⟩]; exact room_ok (by simp; omega) (by simp; omega)
     rw [hroom]
     simp only [k1, k2, k3, decide_true, cond_true, Option.bind_some, and_self, if_true]
     exact ok_some (by simp [kidsN, hy, k3])
    ·simp only [k1, k2, k3, decide_true, decide_false, cond_true, cond_false, Option.bind_some, and_self, if_true]
     exact ok_some (by simp [kidsN, hy, k3])
   ·simp only [k1, k2, decide_true, decide_false, cond_true, cond_false, Option.bind_some, and_false, if_false]
    exact ok_some rfl
  ·simp only [k1, decide_false, cond_false, Option.bind_some, false_and, if_false]
   exact ok_some rfl
 obtain ⟨r, h1, h2⟩ := this
 rw [h1, h2]
theorem set_last {α : Type} (q : List α) (y z : α) : (q ++ [y]).set q.length z = q ++ [z] := by simp
theorem idx_last {α : Type} (q : List α) (y : α) : idx (q ++ [y]) (q.length : Int) = some y := by rw [idx_nat]; simp
def covT (t : Int) (s : api_Span) : Prop := s.fFrom ≤ t ∧ t < s.fTo
theorem valid_w {p : api_Span} (h0 : 0 ≤ p.fFrom) (h1 : p.fFrom < p.fTo) (h2 : p.fTo ≤ 1000000000000) : spans_Valid p = some true := by
 have : Ok (spans_Valid p) (fun r => r = true) := by
  unfold spans_Valid
  refine ok_bind (Q := fun v => v = true) ?_ (fun v hv => ok_some hv)
  exact ok_ite (fun _ => ok_ite (fun _ => ok_some (decide_eq_true h2)) (fun h => absurd h1 h)) (fun h => absurd h0 h)
 obtain ⟨r, g1, g2⟩ := this
 rw [g1, g2]
def ValS (p : api_Span) : Prop := 0 ≤ p.fFrom ∧ p.fFrom < p.fTo ∧ p.fTo ≤ 1000000000000
theorem lastQ {α : Type} (q : List α) (y : α) : (q ++ [y]).getLast? = some y := by simp
theorem Normal_nf (R : List api_Span) (hl : R.length ≤ 1000000) (hv : ∀ s ∈ R, ValS s) : Ok (spans_Normal R) (fun out => out.length ≤ 1000000 ∧ (∀ s ∈ out, ValS s) ∧ out.Pairwise (fun a b => a.fTo < b.fFrom) ∧ ∀ t, (∃ s ∈ out, covT t s) ↔ ∃ s ∈ R, covT t s) := by
 unfold spans_Normal
 refine ok_bind (Q := fun r => r = R) (ok_up2N R.length (fun (a : List api_Span) n => a = R.take n) (by omega) rfl (fun a i hI h2 => ?_)) (fun r hr => ?_)
 ·unfold spans_Normal_L2
  dsimp only
  refine ok_ite (fun hi => ?_) (fun hi => ok_inr (by rw [hI, show i = R.length by omega, List.take_length]))
  obtain ⟨y, hiy, hy⟩ := ok_ixN (xs := R) (i := i) (by omega)
  have hlt := lt_of_get hy
  have hy' : R[i] = y := by have := List.getElem?_eq_getElem hlt; rw [hy] at this; exact (Option.some.inj this).symm
  obtain ⟨v1, v2, v3⟩ := hv y (List.mem_of_getElem? hy)
  rw [hiy, Option.bind_some, valid_w v1 v2 v3, Option.bind_some]
  simp only [cond_true]
  have hal : a.length ≤ 1000000 := by rw [hI, List.length_take]; omega
  rw [room_ok (by simp; omega) (by simp; omega)]
  refine ok_inl ⟨by omega, w64_N (n := R.length) (by omega) (by omega), ?_⟩
  rw [List.take_succ_eq_append_getElem hlt, hy', hI]
 ·subst hr
  unfold slices_SortFunc_api_Span_api_Span_k1
  have hc : r.length < 4611686018427387904 := by omega
  simp only [hc, decide_true, cond_true, Option.bind_some]
  have hp := sortBy_perm (fun x : api_Span => x.fFrom) r
  have hso := sortBy_sorted (fun x : api_Span => x.fFrom) r
  generalize sortBy (fun x : api_Span => x.fFrom) r = S at *
  have hSl : S.length = r.length := hp.length_eq
  have hSv : ∀ s ∈ S, ValS s := fun s hs => hv s (hp.mem_iff.1 hs)
  refine ok_bind (Q := fun out => out.length ≤ 1000000 ∧ (∀ s ∈ out, ValS s) ∧ out.Pairwise (fun a b => a.fTo < b.fFrom) ∧ ∀ t, (∃ s ∈ out, covT t s) ↔ ∃ s ∈ S, covT t s) ?_ (fun out ho => ok_some ⟨ho.1, ho.2.1, ho.2.2.1, fun t => (ho.2.2.2 t).trans ⟨fun ⟨s, h1, h2⟩ => ⟨s, hp.mem_iff.1 h1, h2⟩, fun ⟨s, h1, h2⟩ => ⟨s, hp.mem_iff.2 h1, h2⟩⟩⟩)
  refine ok_up2N S.length (fun (a : List api_Span) n => a.length ≤ n ∧ (∀ s ∈ a, ValS s) ∧ a.Pairwise (fun a b => a.fTo < b.fFrom) ∧ (∀ t, (∃ s ∈ a, covT t s) ↔ ∃ s ∈ S.take n, covT t s) ∧ ∀ y, a.getLast? = some y → ∀ (j : Nat) z, n ≤ j → S[j]? = some z → y.fFrom ≤ z.fFrom) (by omega) ⟨by simp, by simp, List.Pairwise.nil, fun t => by simp, by simp⟩ (fun a i hI h2 => ?_)
  unfold spans_Normal_L1
  dsimp only
  obtain ⟨a1, a2, aw, a3, a4⟩ := hI
  refine ok_ite (fun hi => ?_) (fun hi => ok_inr ⟨by omega, a2, aw, by rw [show i = S.length by omega, List.take_length] at a3; exact a3⟩)
  obtain ⟨y, hiy, hy⟩ := ok_ixN (xs := S) (i := i) (by omega)
  have hlt := lt_of_get hy
  have hy' : S[i] = y := by have := List.getElem?_eq_getElem hlt; rw [hy] at this; exact (Option.some.inj this).symm
  have hyv := hSv y (List.mem_of_getElem? hy)
  have hnx : ∀ (j : Nat) z, i + 1 ≤ j → S[j]? = some z → y.fFrom ≤ z.fFrom := fun j z hj hz => hso i j y z (by omega) hy hz
  rw [hiy, Option.bind_some]
  refine ok_bind (Q := fun b => b.length ≤ i + 1 ∧ (∀ s ∈ b, ValS s) ∧ b.Pairwise (fun a b => a.fTo < b.fFrom) ∧ (∀ t, (∃ s ∈ b, covT t s) ↔ ((∃ s ∈ a, covT t s) ∨ covT t y)) ∧ ∀ x, b.getLast? = some x → x.fFrom ≤ y.fFrom) ?_ (fun b hb => ok_inl ⟨by omega, w64_N (n := S.length) (by omega) (by omega), hb.1, hb.2.1, hb.2.2.1, fun t => ?_, fun x hx j z hj hz => ?_⟩)
  ·rcases List.eq_nil_or_concat a with ha | ⟨q, x, ha⟩
   ·subst ha
    have h0 : ¬ ((0 : Int) < (([] : List api_Span).length : Int)) := by simp
    simp only [h0, decide_false, cond_false, Option.bind_some]
    rw [room_ok (by simp) (by simp)]
    refine ok_some ⟨by simp, by simpa using hyv, by simp, fun t => by simp, fun x hx => ?_⟩
    simp at hx; subst hx; exact Int.le_refl _
   ·rw [List.concat_eq_append] at ha
    subst ha
    have hql : q.length ≤ 1000000 := by simp at a1; omega
    have e : (((q ++ [x]).length : Nat) : Int) - 1 = (q.length : Int) := by simp
    have h0 : (0 : Int) < ((q ++ [x]).length : Int) := by rw [List.length_append, List.length_singleton]; omega
    rw [w64_of (n := (((q ++ [x]).length : Nat) : Int) - 1) (by omega), e, idx_last]
    simp only [h0, decide_true, cond_true, Option.bind_some]
    have hxv := a2 x (by simp)
    have hxy := a4 x (lastQ q x) i y (Nat.le_refl _) hy
    refine ok_ite (fun hc => ?_) (fun hc => ?_)
    ·rw [show ((q.length : Int)).toNat = q.length from rfl, set_last]
     obtain ⟨y1, y2, y3⟩ := hyv
     obtain ⟨x1, x2, x3⟩ := hxv
     refine ok_some ⟨by simp at a1 ⊢; omega, fun s hs => ?_, ?_, fun t => ?_, fun z hz => ?_⟩
     ·rcases List.mem_append.1 hs with hs | hs
      ·exact a2 s (List.mem_append_left _ hs)
      ·simp at hs; subst hs
       exact ⟨x1, by show x.fFrom < max x.fTo y.fTo; omega, by show max x.fTo y.fTo ≤ _; omega⟩
     ·rw [List.pairwise_append] at aw ⊢
      exact ⟨aw.1, by simp, fun u hu v hv => by simp at hv; subst hv; exact aw.2.2 u hu x (by simp)⟩
     ·have key : covT t { fFrom := x.fFrom, fTo := max x.fTo y.fTo } ↔ (covT t x ∨ covT t y) := by
       simp only [covT]; omega
      constructor
      ·rintro ⟨s, hs, ht⟩
       rcases List.mem_append.1 hs with hs | hs
       ·exact .inl ⟨s, List.mem_append_left _ hs, ht⟩
       ·simp at hs; subst hs
        rcases key.1 ht with h | h
        ·exact .inl ⟨x, by simp, h⟩
        ·exact .inr h
      ·rintro (⟨s, hs, ht⟩ | ht)
       ·rcases List.mem_append.1 hs with hs | hs
        ·exact ⟨s, List.mem_append_left _ hs, ht⟩
        ·simp at hs; subst hs
         exact ⟨_, by simp, key.2 (.inl ht)⟩
       ·exact ⟨_, by simp, key.2 (.inr ht)⟩
     ·rw [lastQ] at hz; cases hz; exact hxy
    ·rw [room_ok (by simp; omega) (by simp; omega)]
     refine ok_some ⟨by simp at a1 ⊢; omega, fun s hs => ?_, ?_, fun t => ?_, fun z hz => ?_⟩
     ·rcases List.mem_append.1 hs with hs | hs
      ·exact a2 s hs
      ·simp at hs; subst hs; exact hyv
     ·rw [List.pairwise_append]
      refine ⟨aw, by simp, fun u hu v hv => ?_⟩
      simp at hv; subst hv
      rcases List.mem_append.1 hu with hu | hu
      ·have h1 := (List.pairwise_append.1 aw).2.2 u hu x (by simp)
       obtain ⟨_, x2, _⟩ := hxv
       omega
      ·simp at hu; subst hu; omega
     ·constructor
      ·rintro ⟨s, hs, ht⟩
       rcases List.mem_append.1 hs with hs | hs
       ·exact .inl ⟨s, hs, ht⟩
       ·simp at hs; subst hs; exact .inr ht
      ·rintro (⟨s, hs, ht⟩ | ht)
       ·exact ⟨s, List.mem_append_left _ hs, ht⟩
       ·exact ⟨y, by simp, ht⟩
     ·rw [lastQ] at hz; cases hz; exact Int.le_refl _
  ·rw [hb.2.2.2.1 t, a3 t, List.take_succ_eq_append_getElem hlt, hy']
   constructor
   ·rintro (⟨s, hs, ht⟩ | ht)
    ·exact ⟨s, List.mem_append_left _ hs, ht⟩
    ·exact ⟨y, by simp, ht⟩
   ·rintro ⟨s, hs, ht⟩
    rcases List.mem_append.1 hs with hs | hs
    ·exact .inl ⟨s, hs, ht⟩
    ·simp at hs; subst hs; exact .inr ht
  ·have := hb.2.2.2.2 x hx
   have := hnx j z hj hz
   omega
def spansTh (l : List api_Slice) (th : Int) : Nat → List api_Span
 | 0 => []
 | n + 1 => spansTh l th n ++ (match l[n]? with | some y => if y.fThread = th then [y.fSpan] else [] | none => [])
theorem spansTh_len (l : List api_Slice) (th : Int) : ∀ n, (spansTh l th n).length ≤ n
 | 0 => Nat.le_refl 0
 | n + 1 => by
  have := spansTh_len l th n
  simp only [spansTh, List.length_append]
  split
  ·split <;> simp <;> omega
  ·simp; omega
theorem spansTh_mem {l : List api_Slice} {th : Int} : ∀ {n : Nat} {s : api_Span}, s ∈ spansTh l th n ↔ ∃ k y, k < n ∧ l[k]? = some y ∧ y.fThread = th ∧ s = y.fSpan
 | 0, s => by simp [spansTh]
 | n + 1, s => by
  simp only [spansTh, List.mem_append]
  rw [spansTh_mem (n := n)]
  constructor
  ·rintro (⟨k, y, h1, h2⟩ | h)
   ·exact ⟨k, y, by omega, h2⟩
   ·cases hy : l[n]? with
    | none => rw [hy] at h; simp at h
    | some y =>
     rw [hy] at h
     by_cases e : y.fThread = th
     ·simp [e] at h; exact ⟨n, y, by omega, hy, e, h⟩
     ·simp [e] at h
  ·rintro ⟨k, y, h1, h2, h3, h4⟩
   by_cases e : k = n
   ·subst e; right; rw [h2]; simp [h3, h4]
   ·exact .inl ⟨k, y, by omega, h2, h3, h4⟩
structure NormS (N : List api_Span) : Prop where
 val : ∀ s ∈ N, ValS s
 pair : N.Pairwise (fun a b => a.fTo < b.fFrom)
theorem norm_uniq : ∀ {N M : List api_Span}, NormS N → NormS M → (∀ t, (∃ s ∈ N, covT t s) ↔ ∃ s ∈ M, covT t s) → N = M
 | [], [], _, _, _ => rfl
 | [], b :: M, _, hM, h => by
  have hb := hM.val b List.mem_cons_self
  obtain ⟨s, hs, _⟩ := (h b.fFrom).2 ⟨b, List.mem_cons_self, Int.le_refl _, hb.2.1⟩
  simp at hs
 | a :: N, [], hN, _, h => by
  have ha := hN.val a List.mem_cons_self
  obtain ⟨s, hs, _⟩ := (h a.fFrom).1 ⟨a, List.mem_cons_self, Int.le_refl _, ha.2.1⟩
  simp at hs
 | a :: N, b :: M, hN, hM, h => by
  have ha := hN.val a List.mem_cons_self
  have hb := hM.val b List.mem_cons_self
  have pN := List.pairwise_cons.1 hN.pair
  have pM := List.pairwise_cons.1 hM.pair
  have first : ∀ {c : api_Span} {K : List api_Span}, (∀ s ∈ K, c.fTo < s.fFrom) → ValS c → ∀ t, (∃ s ∈ c :: K, covT t s) → c.fFrom ≤ t := by
   rintro c K hK hc t ⟨s, hs, h1, h2⟩
   rcases List.mem_cons.1 hs with rfl | hs
   ·exact h1
   ·have := hK s hs
    have := hc.2.1
    omega
  have e1 : a.fFrom = b.fFrom := by
   have h1 := first pM.1 hb a.fFrom ((h a.fFrom).1 ⟨a, List.mem_cons_self, Int.le_refl _, ha.2.1⟩)
   have h2 := first pN.1 ha b.fFrom ((h b.fFrom).2 ⟨b, List.mem_cons_self, Int.le_refl _, hb.2.1⟩)
   omega
  have past : ∀ {c : api_Span} {K : List api_Span}, (∀ s ∈ K, c.fTo < s.fFrom) → ¬ ∃ s ∈ c :: K, covT c.fTo s := by
   rintro c K hK ⟨s, hs, h1, h2⟩
   rcases List.mem_cons.1 hs with rfl | hs
   ·omega
   ·have := hK s hs; omega
  have e2 : a.fTo = b.fTo := by
   rcases Int.lt_trichotomy a.fTo b.fTo with g | g | g
   ·exact absurd ((h a.fTo).2 ⟨b, List.mem_cons_self, by have := ha.2.1; omega, g⟩) (past pN.1)
   ·exact g
   ·exact absurd ((h b.fTo).1 ⟨a, List.mem_cons_self, by have := hb.2.1; omega, g⟩) (past pM.1)
  have eab : a = b := by
   cases a; cases b
   simp only at e1 e2
   rw [e1, e2]
  subst eab
  have tail : ∀ {K L : List api_Span}, (∀ s ∈ K, a.fTo < s.fFrom) → (∀ s ∈ L, a.fTo < s.fFrom) → (∀ t, (∃ s ∈ a :: K, covT t s) → ∃ s ∈ a :: L, covT t s) → ∀ t, (∃ s ∈ K, covT t s) → ∃ s ∈ L, covT t s := by
   rintro K L hK _ hh t ⟨s, hs, hc⟩
   obtain ⟨s', hs', hc'⟩ := hh t ⟨s, List.mem_cons_of_mem _ hs, hc⟩
   rcases List.mem_cons.1 hs' with rfl | hs'
   ·have := hK s hs
    have := hc.1
    have := hc'.2
    omega
   ·exact ⟨s', hs', hc'⟩
  rw [norm_uniq ⟨fun s hs => hN.val s (List.mem_cons_of_mem _ hs), pN.2⟩ ⟨fun s hs => hM.val s (List.mem_cons_of_mem _ hs), pM.2⟩ fun t => ⟨tail pN.1 pM.1 (fun t => (h t).1) t, tail pM.1 pN.1 (fun t => (h t).2) t⟩]
theorem take_get {α : Type} {l : List α} {i : Nat} {y : α} (h : l[i]? = some y) : l.take (i + 1) = l.take i ++ [y] := by
 have hlt := lt_of_get h
 have hy : l[i] = y := by have := List.getElem?_eq_getElem hlt; rw [h] at this; exact (Option.some.inj this).symm
 rw [List.take_succ_eq_append_getElem hlt, hy]
theorem mem_take {α : Type} {l : List α} {i : Nat} {x : α} (h : x ∈ l.take i) : ∃ j, j < i ∧ l[j]? = some x := by
 obtain ⟨j, hj⟩ := List.getElem?_of_mem h
 have hlt := lt_of_get hj
 rw [List.length_take] at hlt
 rw [List.getElem?_take] at hj
 split at hj
 ·exact ⟨j, by omega, hj⟩
 ·simp at hj
theorem put_ok (l : List Int) (n : Int) (hl : l.length ≤ 10000) (hs : l.Pairwise (· < ·)) : Ok (tracebookref04_put_k2 l n) (fun r => r.length ≤ l.length + 1 ∧ r.Pairwise (· < ·) ∧ ∀ x, x ∈ r ↔ x = n ∨ x ∈ l) := by
 have hlt : ∀ (i j : Nat) x y, i < j → l[i]? = some x → l[j]? = some y → x < y := by
  intro i j x y hij hx hy
  have h1 := lt_of_get hx
  have h2 := lt_of_get hy
  have := List.pairwise_iff_getElem.1 hs i j h1 h2 hij
  rw [List.getElem?_eq_getElem h1] at hx
  rw [List.getElem?_eq_getElem h2] at hy
  cases hx; cases hy; exact this
 unfold tracebookref04_put_k2
 refine ok_bind (Q := fun e : List Int × Bool => e.1.length ≤ l.length + 1 ∧ (e.2 = false → e.1 = l ∧ ∀ x ∈ l, x < n) ∧ (e.2 = true → e.1.Pairwise (· < ·) ∧ ∀ x, x ∈ e.1 ↔ x = n ∨ x ∈ l)) (ok_loop (fun s : List Int × Bool × Int => ∃ k : Nat, s.2.2 = (k : Int) ∧ k ≤ l.length ∧ s.1.length ≤ k + 1 ∧ (s.2.1 = false → s.1 = l.take k ∧ ∀ x ∈ l.take k, x < n) ∧ (s.2.1 = true → s.1.Pairwise (· < ·) ∧ (∀ x, x ∈ s.1 ↔ x = n ∨ x ∈ l.take k) ∧ ∃ j y, j < k ∧ l[j]? = some y ∧ n ≤ y)) (fun s => ((l.length : Int) - s.2.2).toNat) (fun s hI => ?_) ⟨0, rfl, by omega, by simp, fun _ => ⟨by simp, by simp⟩, fun h => by simp at h⟩ (by simp [manyRounds]; omega)) (fun e he => ?_)
 ·obtain ⟨c, d, i⟩ := s
  obtain ⟨k, rfl, h1, h2, h3, h4⟩ := hI
  simp only at h2 h3 h4
  unfold tracebookref04_put_k2_L1
  dsimp only
  refine ok_ite (fun hi => ?_) (fun hi => ok_inr ?_)
  ·have hk : k < l.length := by omega
   obtain ⟨y, hy⟩ : ∃ y, l[k]? = some y := ⟨l[k], List.getElem?_eq_getElem hk⟩
   have hbef : ∀ x ∈ l.take k, x < y := fun x hx => by
    obtain ⟨j, hj, hjx⟩ := mem_take hx
    exact hlt j k x y hj hjx hy
   have hsk : (l.take k).Pairwise (· < ·) := hs.sublist (List.take_sublist _ _)
   have etk := take_get hy
   have step : ∀ (c' : List Int) (d' : Bool), c'.length ≤ k + 2 → (d' = false → c' = l.take (k + 1) ∧ ∀ x ∈ l.take (k + 1), x < n) → (d' = true → c'.Pairwise (· < ·) ∧ (∀ x, x ∈ c' ↔ x = n ∨ x ∈ l.take (k + 1)) ∧ ∃ j y, j < k + 1 ∧ l[j]? = some y ∧ n ≤ y) →
     Ok (some (.inl (c', d', w64 ((k : Int) + 1))) : Option ((List Int × Bool × Int) ⊕ (List Int × Bool))) (InlR (fun a => (∃ k' : Nat, a.2.2 = (k' : Int) ∧ k' ≤ l.length ∧ a.1.length ≤ k' + 1 ∧ (a.2.1 = false → a.1 = l.take k' ∧ ∀ x ∈ l.take k', x < n) ∧ (a.2.1 = true → a.1.Pairwise (· < ·) ∧ (∀ x, x ∈ a.1 ↔ x = n ∨ x ∈ l.take k') ∧ ∃ j y, j < k' ∧ l[j]? = some y ∧ n ≤ y)) ∧ ((l.length : Int) - a.2.2).toNat < ((l.length : Int) - (c, d, (k : Int)).2.2).toNat) (fun e : List Int × Bool => e.1.length ≤ l.length + 1 ∧ (e.2 = false → e.1 = l ∧ ∀ x ∈ l, x < n) ∧ (e.2 = true → e.1.Pairwise (· < ·) ∧ ∀ x, x ∈ e.1 ↔ x = n ∨ x ∈ l))) := by
    intro c' d' g1 g2 g3
    rw [w64_M (n := l.length) hk (by omega)]
    exact ok_inl ⟨⟨k + 1, rfl, hk, by simp only; omega, g2, g3⟩, by simp only; omega⟩
   have ei : idx l (k : Int) = some y := by rw [idx_nat, hy]
   simp only [ei, Option.bind_some]
   cases d with
   | false =>
    obtain ⟨rfl, hall⟩ := h3 rfl
    have hroom : room 8 ((l.take k).length + [n].length) = true := room_ok (by simp; omega) (by simp; omega)
    have hroom2 : room 8 ((l.take k ++ [n]).length + [y].length) = true := room_ok (by simp; omega) (by simp; omega)
    have hroom3 : room 8 ((l.take k).length + [y].length) = true := room_ok (by simp; omega) (by simp; omega)
    simp only [Bool.not_false, cond_true, Option.bind_some]
    by_cases e1 : n ≤ y
    ·simp only [e1, decide_true, cond_true, hroom, Option.bind_some]
     by_cases e2 : y = n
     ·subst e2
      simp only [decide_true, Bool.not_true, cond_false, Option.bind_some]
      refine step _ _ (by simp; omega) (fun h => by simp at h) (fun _ => ⟨?_, fun x => ?_, k, y, by omega, hy, e1⟩)
      ·rw [List.pairwise_append]
       exact ⟨hsk, by simp, fun a ha b hb => by simp at hb; subst hb; exact hall a ha⟩
      ·rw [etk]; simp [or_comm]
     ·simp only [e2, decide_false, Bool.not_false, cond_true, hroom2, Option.bind_some]
      refine step _ _ (by simp; omega) (fun h => by simp at h) (fun _ => ⟨?_, fun x => ?_, k, y, by omega, hy, e1⟩)
      ·rw [List.pairwise_append, List.pairwise_append]
       refine ⟨⟨hsk, by simp, fun a ha b hb => by simp at hb; subst hb; exact hall a ha⟩, by simp, fun a ha b hb => ?_⟩
       simp at hb; subst hb
       rcases List.mem_append.1 ha with ha | ha
       ·exact hbef a ha
       ·simp at ha; subst ha; omega
      ·rw [etk]
       simp only [List.mem_append, List.mem_cons, List.not_mem_nil, or_false]
       constructor
       ·rintro ((h | h) | h)
        ·exact .inr (.inl h)
        ·exact .inl h
        ·exact .inr (.inr h)
       ·rintro (h | h | h)
        ·exact .inl (.inr h)
        ·exact .inl (.inl h)
        ·exact .inr h
    ·have e2 : ¬ (y = n) := by omega
     simp only [e1, e2, decide_false, Bool.not_false, cond_true, cond_false, hroom3, Option.bind_some]
     refine step _ _ (by simp; omega) (fun _ => ⟨etk.symm, fun x hx => ?_⟩) (fun h => by simp at h)
     rw [etk] at hx
     rcases List.mem_append.1 hx with hx | hx
     ·exact hall x hx
     ·simp at hx; subst hx; omega
   | true =>
    obtain ⟨g1, g2, j, z, hj, hz, hnz⟩ := h4 rfl
    have hzy := hlt j k z y hj hz hy
    have e2 : ¬ (y = n) := by omega
    have hroom : room 8 (c.length + [y].length) = true := room_ok (by simp; omega) (by simp; omega)
    simp only [Bool.not_true, cond_false, Option.bind_some, e2, decide_false, Bool.not_false, cond_true, hroom]
    refine step _ _ (by simp; omega) (fun h => by simp at h) (fun _ => ⟨?_, fun x => ?_, j, z, by omega, hz, hnz⟩)
    ·rw [List.pairwise_append]
     refine ⟨g1, by simp, fun a ha b hb => ?_⟩
     simp at hb; subst hb
     rcases (g2 a).1 ha with rfl | ha
     ·omega
     ·exact hbef a ha
    ·rw [etk]
     simp only [List.mem_append, List.mem_cons, List.not_mem_nil, or_false]
     rw [g2 x]
     exact or_assoc
  ·have e : k = l.length := by omega
   subst e
   simp only [List.take_length] at h3 h4
   exact ⟨h2, h3, fun h => ⟨(h4 h).1, (h4 h).2.1⟩⟩
 ·obtain ⟨c, d⟩ := e
  obtain ⟨h1, h2, h3⟩ := he
  simp only at h1 h2 h3
  dsimp only
  cases d with
  | false =>
   obtain ⟨rfl, hall⟩ := h2 rfl
   have hroom : room 8 (c.length + [n].length) = true := room_ok (by simp; omega) (by simp; omega)
   simp only [Bool.not_false, cond_true, hroom, Option.bind_some]
   refine ok_some ⟨by simp, ?_, fun x => by simp [or_comm]⟩
   rw [List.pairwise_append]
   exact ⟨hs, by simp, fun a ha b hb => by simp at hb; subst hb; exact hall a ha⟩
  | true =>
   simp only [Bool.not_true, cond_false, Option.bind_some]
   exact ok_some ⟨h1, h3 rfl⟩
theorem valid04 : tracebookref04_Valid = spans_Valid := rfl
theorem ends_ok (R : List api_Span) (hl : R.length ≤ 1000) (hv : ∀ s ∈ R, ValS s) : Ok (tracebookref04_ends R []) (fun r => r.length ≤ 2 * R.length ∧ r.Pairwise (· < ·) ∧ ∀ x, x ∈ r ↔ ∃ s ∈ R, x = s.fFrom ∨ x = s.fTo) := by
 unfold tracebookref04_ends
 rw [room_ok (by simp; omega) (by simp; omega), room_ok (by simp; omega) (by simp; omega)]
 simp only [cond_true]
 refine ok_bind (Q := fun r => r.length ≤ 2 * R.length ∧ r.Pairwise (· < ·) ∧ ∀ x, x ∈ r ↔ ∃ s ∈ R, x = s.fFrom ∨ x = s.fTo) (ok_up2M R.length (fun (a : List Int) n => a.length ≤ 2 * n ∧ a.Pairwise (· < ·) ∧ ∀ x, x ∈ a ↔ ∃ s ∈ R.take n, x = s.fFrom ∨ x = s.fTo) (by omega) ⟨by simp, by simp, fun x => by simp⟩ (fun a i hI h2 => ?_)) (fun r hr => ok_some hr)
 obtain ⟨g1, g2, g3⟩ := hI
 unfold tracebookref04_ends_L1
 dsimp only
 simp only [List.nil_append, List.append_nil]
 refine ok_ite (fun hi => ?_) (fun hi => ok_inr ?_)
 ·have hil : i < R.length := by omega
  obtain ⟨y, hy⟩ : ∃ y, R[i]? = some y := ⟨R[i], List.getElem?_eq_getElem hil⟩
  have ei : idx R (i : Int) = some y := by rw [idx_nat, hy]
  obtain ⟨v1, v2, v3⟩ := hv y (List.mem_of_getElem? hy)
  simp only [ei, Option.bind_some, valid04, valid_w v1 v2 v3, cond_true]
  refine ok_bind (Q := fun b => b.length ≤ 2 * (i + 1) ∧ b.Pairwise (· < ·) ∧ ∀ x, x ∈ b ↔ ∃ s ∈ R.take (i + 1), x = s.fFrom ∨ x = s.fTo) ?_ (fun b hb => by rw [w64_M (n := R.length) hil (by omega)]; exact ok_inl ⟨hil, rfl, hb⟩)
  refine ok_bind (put_ok a y.fFrom (by omega) g2) (fun b hb => ?_)
  obtain ⟨b1, b2, b3⟩ := hb
  refine ok_bind (put_ok b y.fTo (by omega) b2) (fun c hc => ok_some ?_)
  obtain ⟨c1, c2, c3⟩ := hc
  refine ⟨by omega, c2, fun x => ?_⟩
  rw [c3, b3, g3, take_get hy]
  constructor
  ·rintro (h | h | ⟨s, hs, h⟩)
   ·exact ⟨y, by simp, .inr h⟩
   ·exact ⟨y, by simp, .inl h⟩
   ·exact ⟨s, List.mem_append_left _ hs, h⟩
  ·rintro ⟨s, hs, h⟩
   rcases List.mem_append.1 hs with hs | hs
   ·exact .inr (.inr ⟨s, hs, h⟩)
   ·simp at hs; subst hs
    rcases h with h | h
    ·exact .inr (.inl h)
    ·exact .inl h
 ·have : i = R.length := by omega
  subst this
  rw [List.take_length] at g3
  exact ⟨g1, g2, g3⟩
theorem covers04 (R : List api_Span) (t : Int) (hl : R.length ≤ 1000) (hv : ∀ s ∈ R, ValS s) : Ok (tracebookref04_Covers R t) (fun b => b = true ↔ ∃ s ∈ R, covT t s) := by
 unfold tracebookref04_Covers
 refine ok_bindS (Q := InlR (fun _ => ¬ ∃ s ∈ R, covT t s) (fun r => r = true ∧ ∃ s ∈ R, covT t s)) (ok_upM R.length (fun n => ¬ ∃ s ∈ R.take n, covT t s) (by omega) (by simp) (fun i hI h2 => ?_)) (fun _ hr => ok_some ⟨fun h => by simp at h, fun h => absurd h hr⟩) (fun r hr => ok_some ⟨fun _ => hr.2, fun _ => hr.1⟩)
 unfold tracebookref04_Covers_L1
 refine ok_ite (fun hi => ?_) (fun hi => ok_inr (show InlR _ _ (.inl ()) from ?_))
 ·have hil : i < R.length := by omega
  obtain ⟨y, hy⟩ : ∃ y, R[i]? = some y := ⟨R[i], List.getElem?_eq_getElem hil⟩
  have ei : idx R (i : Int) = some y := by rw [idx_nat, hy]
  have hym := List.mem_of_getElem? hy
  obtain ⟨v1, v2, v3⟩ := hv y hym
  simp only [ei, Option.bind_some, valid04, valid_w v1 v2 v3, cond_true]
  refine ok_bind (Q := fun v => v = true ↔ covT t y) ?_ (fun v hv => ok_cond (fun e => ok_inr (show InlR _ _ (.inr true) from ⟨rfl, y, hym, hv.1 e⟩)) (fun e => ?_))
  ·refine ok_ite (fun g1 => ok_some ?_) (fun g1 => ok_some ⟨fun h => by simp at h, fun h => absurd h.1 g1⟩)
   rw [decide_eq_true_eq]
   exact ⟨fun h => ⟨g1, h⟩, fun h => h.2⟩
  ·rw [w64_M (n := R.length) hil (by omega)]
   refine ok_inl ⟨hil, rfl, ?_⟩
   rw [take_get hy]
   rintro ⟨s, hs, hc⟩
   rcases List.mem_append.1 hs with hs | hs
   ·exact hI ⟨s, hs, hc⟩
   ·simp at hs; subst hs
    rw [hv.2 hc] at e; simp at e
 ·have : i = R.length := by omega
  subst this
  rw [List.take_length] at hI
  exact hI
theorem holds04 (R : List api_Span) (t : Int) (hl : R.length ≤ 1000) (hv : ∀ s ∈ R, ValS s) : Ok (tracebookref04_holds R [] 1 t) (fun b => b = true ↔ ∃ s ∈ R, covT t s) := by
 unfold tracebookref04_holds
 refine ok_bind (covers04 R t hl hv) (fun b hb => ?_)
 refine ok_bind (covers04 [] t (by simp) (by simp)) (fun c hc => ?_)
 have hc : c = false := by
  cases c with
  | false => rfl
  | true => have := hc.1 rfl; simp at this
 subst hc
 cases b with
 | true => exact ok_some hb
 | false => exact ok_some hb
theorem Normal04_nf (R : List api_Span) (hl : R.length ≤ 1000) (hv : ∀ s ∈ R, ValS s) : Ok (tracebookref04_Normal R) (fun out => NormS out ∧ ∀ t, (∃ s ∈ out, covT t s) ↔ ∃ s ∈ R, covT t s) := by
 unfold tracebookref04_Normal
 refine ok_bind (Q := fun out => NormS out ∧ ∀ t, (∃ s ∈ out, covT t s) ↔ ∃ s ∈ R, covT t s) ?_ (fun r hr => ok_some hr)
 unfold tracebookref04_combine
 refine ok_bind (ends_ok R hl hv) (fun cut hcut => ?_)
 obtain ⟨cl, cs, cm⟩ := hcut
 have hlt : ∀ (i j : Nat) x y, i < j → cut[i]? = some x → cut[j]? = some y → x < y := by
  intro i j x y hij hx hy
  have h1 := lt_of_get hx
  have h2 := lt_of_get hy
  have := List.pairwise_iff_getElem.1 cs i j h1 h2 hij
  rw [List.getElem?_eq_getElem h1] at hx
  rw [List.getElem?_eq_getElem h2] at hy
  cases hx; cases hy; exact this
 have hrange : ∀ x ∈ cut, 0 ≤ x ∧ x ≤ 1000000000000 := fun x hx => by
  obtain ⟨s, hs, h⟩ := (cm x).1 hx
  obtain ⟨v1, v2, v3⟩ := hv s hs
  rcases h with rfl | rfl <;> omega
 have hle : ∀ (i j : Nat) x y, i ≤ j → cut[i]? = some x → cut[j]? = some y → x ≤ y := by
  intro i j x y hij hx hy
  rcases Nat.lt_or_ge i j with h | h
  ·exact Int.le_of_lt (hlt i j x y h hx hy)
  ·have : i = j := by omega
   subst this
   rw [hx] at hy; cases hy; exact Int.le_refl _
 refine ok_bind (Q := fun out => NormS out ∧ ∀ t, (∃ s ∈ out, covT t s) ↔ ∃ s ∈ R, covT t s) (ok_loop (fun s : List api_Span × Int => ∃ n : Nat, s.2 = (n : Int) ∧ (n = 0 ∨ n < cut.length) ∧ s.1.length ≤ n ∧ NormS s.1 ∧ (∀ x ∈ s.1, ∃ c, cut[n]? = some c ∧ x.fTo ≤ c) ∧ ∀ t, (∀ c, cut[n]? = some c → t < c) → ((∃ x ∈ s.1, covT t x) ↔ ∃ x ∈ R, covT t x)) (fun s => ((cut.length : Int) - s.2).toNat) (fun s hI => ?_) ⟨0, rfl, .inl rfl, by simp, ⟨by simp, by simp⟩, by simp, fun t ht => ⟨fun h => by simp at h, ?_⟩⟩ (by simp [manyRounds]; omega)) (fun r hr => ok_some hr)
 ·obtain ⟨out, i⟩ := s
  obtain ⟨n, rfl, h1, h2, h3, h4, h5⟩ := hI
  simp only at h2 h3 h4 h5
  unfold tracebookref04_combine_L1
  dsimp only
  have hn : n ≤ 2000 := by omega
  have ew : w64 ((n : Int) + 1) = ((n + 1 : Nat) : Int) := by rw [w64_of (by omega)]; omega
  rw [ew]
  refine ok_ite (fun hi => ?_) (fun hi => ok_inr ⟨h3, fun t => ?_⟩)
  ·have hi1 : n + 1 < cut.length := by omega
   obtain ⟨c, hc⟩ : ∃ c, cut[n]? = some c := ⟨cut[n], List.getElem?_eq_getElem (by omega)⟩
   obtain ⟨d, hd⟩ : ∃ d, cut[n + 1]? = some d := ⟨cut[n + 1], List.getElem?_eq_getElem hi1⟩
   have hcd := hlt n (n + 1) c d (by omega) hc hd
   have hcm := hrange c (List.mem_of_getElem? hc)
   have hdm := hrange d (List.mem_of_getElem? hd)
   have eic : idx cut (n : Int) = some c := by rw [idx_nat, hc]
   have eid : idx cut ((n + 1 : Nat) : Int) = some d := by rw [idx_nat, hd]
   have gap : ∀ x ∈ cut, (x < d → x ≤ c) ∧ (c < x → d ≤ x) := fun x hx => by
    obtain ⟨j, hj⟩ := List.getElem?_of_mem hx
    constructor
    ·intro h
     rcases Nat.lt_or_ge n j with g | g
     ·have := hle (n + 1) j d x (by omega) hd hj; omega
     ·exact hle j n x c g hj hc
    ·intro h
     rcases Nat.lt_or_ge n j with g | g
     ·exact hle (n + 1) j d x (by omega) hd hj
     ·have := hle j n x c g hj hc; omega
   have same : ∀ t, c ≤ t → t < d → ((∃ s ∈ R, covT t s) ↔ ∃ s ∈ R, covT c s) := by
    intro t g1 g2
    constructor
    ·rintro ⟨s, hs, k1, k2⟩
     have := (gap s.fFrom ((cm _).2 ⟨s, hs, .inl rfl⟩)).1 (by omega)
     exact ⟨s, hs, this, by omega⟩
    ·rintro ⟨s, hs, k1, k2⟩
     have := (gap s.fTo ((cm _).2 ⟨s, hs, .inr rfl⟩)).2 k2
     exact ⟨s, hs, by omega, by omega⟩
   have h4' : ∀ x ∈ out, x.fTo ≤ c := fun x hx => by
    obtain ⟨c', e, h⟩ := h4 x hx
    rw [hc] at e; cases e; exact h
   have h5' : ∀ t, t < c → ((∃ x ∈ out, covT t x) ↔ ∃ x ∈ R, covT t x) := fun t ht => h5 t (fun c' e => by rw [hc] at e; cases e; exact ht)
   simp only [eic, eid, Option.bind_some]
   have fin : ∀ out', out'.length ≤ n + 1 → NormS out' → (∀ x ∈ out', x.fTo ≤ d) → (∀ t, t < d → ((∃ x ∈ out', covT t x) ↔ ∃ x ∈ R, covT t x)) →
     Ok (some (.inl (out', ((n + 1 : Nat) : Int))) : Option ((List api_Span × Int) ⊕ List api_Span)) (InlR (fun a => (∃ n : Nat, a.2 = (n : Int) ∧ (n = 0 ∨ n < cut.length) ∧ a.1.length ≤ n ∧ NormS a.1 ∧ (∀ x ∈ a.1, ∃ c, cut[n]? = some c ∧ x.fTo ≤ c) ∧ ∀ t, (∀ c, cut[n]? = some c → t < c) → ((∃ x ∈ a.1, covT t x) ↔ ∃ x ∈ R, covT t x)) ∧ ((cut.length : Int) - a.2).toNat < ((cut.length : Int) - (out, (n : Int)).2).toNat) (fun out => NormS out ∧ ∀ t, (∃ s ∈ out, covT t s) ↔ ∃ s ∈ R, covT t s)) := by
    intro out' g1 g2 g3 g4
    exact ok_inl ⟨⟨n + 1, rfl, .inr hi1, g1, g2, fun x hx => ⟨d, hd, g3 x hx⟩, fun t ht => g4 t (ht d hd)⟩, by simp only; omega⟩
   refine ok_bind (Q := fun v => v.length ≤ n + 1 ∧ NormS v ∧ (∀ x ∈ v, x.fTo ≤ d) ∧ ∀ t, t < d → ((∃ x ∈ v, covT t x) ↔ ∃ x ∈ R, covT t x)) ?_ (fun v hv => fin v hv.1 hv.2.1 hv.2.2.1 hv.2.2.2)
   refine ok_bind (holds04 R c hl hv) (fun b hb => ?_)
   cases b with
   | false =>
    simp only [Bool.not_false, cond_true]
    have hno : ¬ ∃ s ∈ R, covT c s := fun h => by have := hb.2 h; simp at this
    refine ok_some ⟨by omega, h3, fun x hx => by have := h4' x hx; omega, fun t ht => ?_⟩
    rcases Int.lt_or_le t c with g | g
    ·exact h5' t g
    ·rw [same t g ht]
     refine ⟨fun ⟨x, hx, hcx⟩ => ?_, fun h => absurd h hno⟩
     have := h4' x hx
     have := hcx.2
     omega
   | true =>
    have hyes := hb.1 rfl
    simp only [Bool.not_true, cond_false]
    have own : (∀ x ∈ out, x.fTo < c) → Ok (bif room 16 (List.length out + List.length [({ fFrom := c, fTo := d } : api_Span)]) then some (out ++ [({ fFrom := c, fTo := d } : api_Span)]) else none) (fun v => v.length ≤ n + 1 ∧ NormS v ∧ (∀ x ∈ v, x.fTo ≤ d) ∧ ∀ t, t < d → ((∃ x ∈ v, covT t x) ↔ ∃ x ∈ R, covT t x)) := by
     intro hlt'
     rw [room_ok (by simp; omega) (by simp; omega)]
     refine ok_some ⟨by simp; omega, ⟨fun x hx => ?_, ?_⟩, fun x hx => ?_, fun t ht => ?_⟩
     ·rcases List.mem_append.1 hx with hx | hx
      ·exact h3.val x hx
      ·simp at hx; subst hx; exact ⟨hcm.1, hcd, hdm.2⟩
     ·rw [List.pairwise_append]
      exact ⟨h3.pair, by simp, fun a ha b hb => by simp at hb; subst hb; exact hlt' a ha⟩
     ·rcases List.mem_append.1 hx with hx | hx
      ·have := h4' x hx; omega
      ·simp at hx; subst hx; exact Int.le_refl _
     ·rcases Int.lt_or_le t c with g | g
      ·rw [← h5' t g]
       constructor
       ·rintro ⟨x, hx, hcx⟩
        rcases List.mem_append.1 hx with hx | hx
        ·exact ⟨x, hx, hcx⟩
        ·simp at hx; subst hx
         have := hcx.1; simp only at this; omega
       ·rintro ⟨x, hx, hcx⟩
        exact ⟨x, List.mem_append_left _ hx, hcx⟩
      ·rw [same t g ht]
       exact ⟨fun _ => hyes, fun _ => ⟨{ fFrom := c, fTo := d }, by simp, g, ht⟩⟩
    rcases List.eq_nil_or_concat out with ha | ⟨q, x, ha⟩
    ·subst ha
     have e0 : ¬ ((0 : Int) ≤ w64 (((([] : List api_Span).length : Nat) : Int) - 1)) := by
      rw [w64_of (by simp)]; simp
     simp only [e0, decide_false, cond_false, Option.bind_some]
     exact own (by simp)
    ·rw [List.concat_eq_append] at ha
     subst ha
     have hql : q.length ≤ 2000 := by simp at h2; omega
     have e : w64 ((((q ++ [x]).length : Nat) : Int) - 1) = (q.length : Int) := by rw [w64_of (by simp; omega)]; simp
     have e0 : ((0 : Int) ≤ (q.length : Int)) := by omega
     rw [e]
     simp only [e0, decide_true, cond_true, idx_last, Option.bind_some]
     obtain ⟨x1, x2, x3⟩ := h3.val x (by simp)
     have hxc := h4' x (by simp)
     have pp := List.pairwise_append.1 h3.pair
     by_cases ex : x.fTo = c
     ·simp only [ex, decide_true, cond_true]
      rw [show ((q.length : Int)).toNat = q.length from rfl, set_last]
      refine ok_some ⟨by simp at h2 ⊢; omega, ⟨fun s hs => ?_, ?_⟩, fun s hs => ?_, fun t ht => ?_⟩
      ·rcases List.mem_append.1 hs with hs | hs
       ·exact h3.val s (List.mem_append_left _ hs)
       ·simp at hs; subst hs
        exact ⟨x1, by show x.fFrom < d; omega, hdm.2⟩
      ·rw [List.pairwise_append]
       exact ⟨pp.1, by simp, fun a ha b hb => by simp at hb; subst hb; exact pp.2.2 a ha x (by simp)⟩
      ·rcases List.mem_append.1 hs with hs | hs
       ·have := h4' s (List.mem_append_left _ hs); omega
       ·simp at hs; subst hs; exact Int.le_refl _
      ·rcases Int.lt_or_le t c with g | g
       ·rw [← h5' t g]
        constructor
        ·rintro ⟨s, hs, hcs⟩
         rcases List.mem_append.1 hs with hs | hs
         ·exact ⟨s, List.mem_append_left _ hs, hcs⟩
         ·simp at hs; subst hs
          exact ⟨x, by simp, hcs.1, by omega⟩
        ·rintro ⟨s, hs, hcs⟩
         rcases List.mem_append.1 hs with hs | hs
         ·exact ⟨s, List.mem_append_left _ hs, hcs⟩
         ·simp at hs; subst hs
          exact ⟨_, List.mem_append_right _ (List.mem_singleton.2 rfl), hcs.1, ht⟩
       ·rw [same t g ht]
        exact ⟨fun _ => hyes, fun _ => ⟨_, List.mem_append_right _ (List.mem_singleton.2 rfl), by show x.fFrom ≤ t; omega, ht⟩⟩
     ·simp only [ex, decide_false, cond_false]
      refine own (fun s hs => ?_)
      rcases List.mem_append.1 hs with hs | hs
      ·have := pp.2.2 s hs x (by simp); omega
      ·simp at hs; subst hs; omega
  ·rcases h1 with rfl | h1
   ·cases hc0 : cut[0]? with
    | none => exact h5 t (fun c e => by rw [hc0] at e; simp at e)
    | some c =>
     have : cut.length = 1 := by have := lt_of_get hc0; omega
     rcases Int.lt_or_le t c with g | g
     ·exact h5 t (fun c' e => by rw [hc0] at e; cases e; exact g)
     ·constructor
      ·rintro ⟨x, hx, hcx⟩
       obtain ⟨c', e, h⟩ := h4 x hx
       rw [hc0] at e; cases e
       have := hcx.2; omega
      ·rintro ⟨x, hx, hcx⟩
       obtain ⟨j, hj⟩ := List.getElem?_of_mem ((cm x.fTo).2 ⟨x, hx, .inr rfl⟩)
       have := hle j 0 _ _ (by have := lt_of_get hj; omega) hj hc0
       have := hcx.2; omega
   ·obtain ⟨c, hc⟩ : ∃ c, cut[n]? = some c := ⟨cut[n], List.getElem?_eq_getElem h1⟩
    rcases Int.lt_or_le t c with g | g
    ·exact h5 t (fun c' e => by rw [hc] at e; cases e; exact g)
    ·constructor
     ·rintro ⟨x, hx, hcx⟩
      obtain ⟨c', e, h⟩ := h4 x hx
      rw [hc] at e; cases e
      have := hcx.2; omega
     ·rintro ⟨x, hx, hcx⟩
      obtain ⟨j, hj⟩ := List.getElem?_of_mem ((cm x.fTo).2 ⟨x, hx, .inr rfl⟩)
      have := hle j n _ _ (by have := lt_of_get hj; omega) hj hc
      have := hcx.2; omega
 ·rintro ⟨s, hs, hcs⟩
  obtain ⟨j, hj⟩ := List.getElem?_of_mem ((cm s.fFrom).2 ⟨s, hs, .inl rfl⟩)
  cases hc0 : cut[0]? with
  | none =>
   have := lt_of_get hj
   have := List.getElem?_eq_none_iff.1 hc0
   omega
  | some c =>
   have h1 := ht c hc0
   have h2 := hle 0 j _ _ (by omega) hc0 hj
   have := hcs.1
   omega
theorem busy26 (l : List api_Slice) (hl : l.length ≤ 1000) (hs : SpV l) (th : Int) : Ok (slice_Busy l th) (fun out => NormS out ∧ ∀ t, (∃ s ∈ out, covT t s) ↔ ∃ s ∈ spansTh l th l.length, covT t s) := by
 unfold slice_Busy
 refine ok_bind (Q := fun r => r = spansTh l th l.length) (ok_up2M l.length (fun (a : List api_Span) n => a = spansTh l th n) (by omega) rfl (fun a i hI h2 => ?_)) (fun r hr => ?_)
 ·subst hI
  unfold slice_Busy_L1
  dsimp only
  refine ok_ite (fun hi => ?_) (fun hi => ok_inr (by rw [show i = l.length by omega]))
  refine ok_bind (Q := fun a => a = spansTh l th (i + 1)) ?_ (fun a ha => by rw [w64_M (n := l.length) (by omega) (by omega)]; exact ok_inl ⟨by omega, rfl, ha⟩)
  refine ok_bind (ok_ixM (by omega)) (fun y hy => ?_)
  have hlen := spansTh_len l th i
  refine ok_ite (fun e => ?_) (fun e => ok_some (by simp [spansTh, hy, e]))
  rw [room_ok (by simp; omega) (by simp; omega)]
  exact ok_some (by simp [spansTh, hy, e])
 ·subst hr
  have hlen := spansTh_len l th l.length
  refine ok_bind (Normal_nf _ (by omega) (fun s hs' => ?_)) (fun out ho => ok_some ⟨⟨ho.2.1, ho.2.2.1⟩, ho.2.2.2⟩)
  obtain ⟨k, y, _, hy, _, rfl⟩ := spansTh_mem.1 hs'
  exact hs y (List.mem_of_getElem? hy)
theorem refbusy26 (l : List api_Slice) (hl : l.length ≤ 1000) (hs : SpV l) (th : Int) : Ok (tracebookref26_Busy l th) (fun out => NormS out ∧ ∀ t, (∃ s ∈ out, covT t s) ↔ ∃ s ∈ spansTh l th l.length, covT t s) := by
 unfold tracebookref26_Busy
 refine ok_bind (Q := fun r => r = spansTh l th l.length) (ok_up2M l.length (fun (a : List api_Span) n => a = spansTh l th n) (by omega) rfl (fun a i hI h2 => ?_)) (fun r hr => ?_)
 ·subst hI
  unfold tracebookref26_Busy_L1
  dsimp only
  refine ok_ite (fun hi => ?_) (fun hi => ok_inr (by rw [show i = l.length by omega]))
  refine ok_bind (Q := fun a => a = spansTh l th (i + 1)) ?_ (fun a ha => by rw [w64_M (n := l.length) (by omega) (by omega)]; exact ok_inl ⟨by omega, rfl, ha⟩)
  refine ok_bind (ok_ixM (by omega)) (fun y hy => ?_)
  have hlen := spansTh_len l th i
  refine ok_ite (fun e => ?_) (fun e => ok_some (by simp [spansTh, hy, e]))
  have ei : idx l (i : Int) = some y := by rw [idx_nat, hy]
  rw [ei, Option.bind_some, room_ok (by simp; omega) (by simp; omega)]
  exact ok_some (by simp [spansTh, hy, e])
 ·subst hr
  have hlen := spansTh_len l th l.length
  refine ok_bind (Normal04_nf _ (by omega) (fun s hs' => ?_)) (fun out ho => ok_some ho)
  obtain ⟨k, y, _, hy, _, rfl⟩ := spansTh_mem.1 hs'
  exact hs y (List.mem_of_getElem? hy)
theorem at_eq (l : List api_Slice) (th t : Int) : slice_At_L1 l th t = tracebookref26_At_L1 l th t := by
 funext s
 obtain ⟨b, i⟩ := s
 unfold slice_At_L1 tracebookref26_At_L1
 dsimp only
 cases hi : idx l i with
 | none => simp
 | some y => simp
theorem at_ok' (l : List api_Slice) (hl : l.length ≤ 1000) (th t : Int) : Ok (slice_At l th t) Yes := by
 unfold slice_At
 refine ok_bind (Q := Yes) (ok_up2M l.length (fun (b : Int) n => -1 ≤ b ∧ b < n) (by omega) ⟨by omega, by omega⟩ (fun b i hI h2 => ?_)) (fun r hr => ok_yes)
 unfold slice_At_L1
 dsimp only
 refine ok_ite (fun hi => ?_) (fun hi => ok_inr trivial)
 refine ok_bind (Q := fun b => -1 ≤ b ∧ b < ((i + 1 : Nat) : Int)) ?_ (fun b hb => by rw [w64_M (n := l.length) (by omega) (by omega)]; exact ok_inl ⟨by omega, rfl, hb⟩)
 refine ok_bind (ok_ixM (by omega)) (fun y hy => ?_)
 refine ok_bind (Q := Yes) ?_ (fun v hv => ok_cond (fun e => ok_some ⟨by omega, by omega⟩) (fun e => ok_some ⟨hI.1, by omega⟩))
 refine ok_ite (fun g1 => ?_) (fun g1 => ok_yes)
 refine ok_ite (fun g2 => ?_) (fun g2 => ok_yes)
 refine ok_ite (fun g3 => ?_) (fun g3 => ok_yes)
 refine ok_ite (fun g4 => ok_yes) (fun g4 => ?_)
 obtain ⟨k, rfl⟩ := Int.eq_ofNat_of_zero_le (show 0 ≤ b by omega)
 exact ok_bind (ok_ixM (by omega)) (fun z _ => ok_yes)
theorem kids_none {l : List api_Slice} {i : Int} : ∀ n, (∀ k y, k < n → l[k]? = some y → y.fParent ≠ i) → kidsN l i n = []
 | 0, _ => rfl
 | n + 1, h => by
  simp only [kidsN, kids_none n (fun k y hk => h k y (by omega))]
  cases hy : l[n]? with
  | none => simp
  | some y => simp [h n y (by omega) hy]
theorem refchildren_val (l : List api_Slice) (hl : l.length ≤ 1000) (hu : Up l l.length) (i : Int) : tracebookref26_Children l i = some (if 0 ≤ i ∧ i < l.length then kidsN l i l.length else []) := by
 have : Ok (tracebookref26_Children l i) (fun r => r = (if 0 ≤ i ∧ i < l.length then kidsN l i l.length else [])) := by
  unfold tracebookref26_Children
  refine ok_bind (Q := fun r => r = (if 0 ≤ i ∧ i < l.length then kidsN l i l.length else [])) (ok_up2I l.length (fun (c : List Int) n => c = (if 0 ≤ i then kidsN l i n else [])) (by omega) (by simp [kidsN]) (fun c n hI h2 => ?_)) (fun r hr => ok_some hr)
  unfold tracebookref26_Children_L1
  dsimp only
  subst hI
  have last : (0 ≤ i → n = l.length) → (if 0 ≤ i then kidsN l i n else []) = (if 0 ≤ i ∧ i < l.length then kidsN l i l.length else []) := by
   intro hn
   by_cases k1 : 0 ≤ i
   ·rw [hn k1]
    by_cases k2 : i < l.length
    ·rw [if_pos k1, if_pos ⟨k1, k2⟩]
    ·rw [if_pos k1, if_neg (fun h => k2 h.2)]
     exact kids_none _ (fun k y hk hy e => by
      have := hu k y (by omega) hy
      omega)
   ·rw [if_neg k1, if_neg (fun h => k1 h.1)]
  refine ok_bind (Q := fun v => v = true ↔ n < l.length ∧ 0 ≤ i) ?_ (fun v hv => ?_)
  ·by_cases k1 : (n : Int) < (l.length : Int)
   ·simp only [k1, decide_true, cond_true]
    exact ok_some (by rw [decide_eq_true_eq]; omega)
   ·simp only [k1, decide_false, cond_false]
    exact ok_some (by simp; omega)
  refine ok_cond (fun e => ?_) (fun e => ok_inr (last (fun h => ?_)))
  ·obtain ⟨hn, k1⟩ := hv.1 e
   refine ok_bind (Q := fun c => c = (if 0 ≤ i then kidsN l i (n + 1) else [])) ?_ (fun c hc => by rw [w64_M (n := l.length) hn (by omega)]; exact ok_inl ⟨hn, rfl, hc⟩)
   refine ok_bind (ok_ixM hn) (fun y hy => ?_)
   have hlen := kidsN_len l i n
   rw [if_pos k1, if_pos k1]
   refine ok_ite (fun k3 => ?_) (fun k3 => ok_some (by simp [kidsN, hy, k3]))
   rw [room_ok (by simp; omega) (by simp; omega)]
   exact ok_some (by simp [kidsN, hy, k3])
  ·apply Nat.le_antisymm h2
   rcases Nat.lt_or_ge n l.length with g | g
   ·have := hv.2 ⟨g, h⟩; rw [e] at this; simp at this
   ·exact g
 obtain ⟨r, h1, h2⟩ := this
 rw [h1, h2]
theorem refpath_n {l : List api_Slice} (hu : Up l l.length) {i : Int} {p : List ByteArray} (h : PathR l i p) : ∀ n, p.length < n → tracebookref26_Path_n n l i = some p := by
 induction h with
 | @out i h0 =>
  intro n hn
  obtain ⟨m, rfl⟩ : ∃ m, n = m + 1 := ⟨n - 1, by omega⟩
  simp [tracebookref26_Path_n, h0]
 | @up i y p hy hp ih =>
  intro n hn
  rw [List.length_append, List.length_singleton] at hn
  obtain ⟨m, rfl⟩ : ∃ m, n = m + 1 := ⟨n - 1, by omega⟩
  have hlt := lt_of_get hy
  unfold tracebookref26_Path_n
  have : ¬ ((i : Int) < 0 ∨ (l.length : Int) ≤ (i : Int)) := by omega
  rw [if_neg this, show ((i : Int)).toNat = i from rfl, hy]
  simp only [ih m (by omega), Option.map_some]
theorem paths26 (l : List api_Slice) (hV : Val l) (hl : l.length ≤ 900) (i : Int) : ∃ p : List ByteArray, p.length ≤ 1000 ∧ slice_Path l i = some p ∧ tracebookref26_Path l i = some p := by
 by_cases h0 : i < 0 ∨ (l.length : Int) ≤ i
 ·refine ⟨[], by simp, ?_, ?_⟩
  ·unfold slice_Path
   by_cases e : i < 0
   ·simp [e]
   ·have : (l.length : Int) ≤ i := by omega
    simp [e, this]
  ·unfold tracebookref26_Path
   rw [show (1000 : Nat) = 999 + 1 from rfl]
   unfold tracebookref26_Path_n
   rw [if_pos h0]
 ·obtain ⟨k, rfl⟩ := Int.eq_ofNat_of_zero_le (show 0 ≤ i by omega)
  have hk : k < l.length := by omega
  obtain ⟨y, hy⟩ : ∃ y, l[k]? = some y := ⟨l[k], List.getElem?_eq_getElem hk⟩
  obtain ⟨p, hp, hlen⟩ := hV.nest.path (by omega) k y hy
  have hd := hV.nest.depth (by omega) k y hy
  exact ⟨p, by omega, path_val l hV.nest (by omega) (by omega) hp, refpath_n hV.nest.up hp 1000 (by omega)⟩
theorem same_l3 (p : List ByteArray) (hl : p.length ≤ 9223372036854775807) : loop (tracebooklaw26_SliceLooks_L3 p p) 0 = some (.inl ()) := by
 have : Ok (loop (tracebooklaw26_SliceLooks_L3 p p) 0) (fun r => r = .inl ()) := by
  refine ok_upM p.length (fun _ => True) hl trivial (fun i _ h2 => ?_)
  unfold tracebooklaw26_SliceLooks_L3
  refine ok_ite (fun hi => ?_) (fun _ => ok_inr rfl)
  obtain ⟨y, hy⟩ : ∃ y, p[i]? = some y := ⟨p[i]'(by omega), List.getElem?_eq_getElem (by omega)⟩
  have ei : idx p (i : Int) = some y := by rw [idx_nat, hy]
  rw [w64_M (n := p.length) (by omega) hl]
  simp only [ei, Option.bind_some, decide_true, Bool.not_true, cond_false]
  exact ok_inl ⟨by omega, rfl, trivial⟩
 obtain ⟨r, h1, h2⟩ := this
 rw [h1, h2]
theorem same_l2 (p : List Int) (hl : p.length ≤ 9223372036854775807) : loop (tracebooklaw26_SliceLooks_L2 p p) 0 = some (.inl ()) := by
 have : Ok (loop (tracebooklaw26_SliceLooks_L2 p p) 0) (fun r => r = .inl ()) := by
  refine ok_upM p.length (fun _ => True) hl trivial (fun i _ h2 => ?_)
  unfold tracebooklaw26_SliceLooks_L2
  refine ok_ite (fun hi => ?_) (fun _ => ok_inr rfl)
  obtain ⟨y, hy⟩ : ∃ y, p[i]? = some y := ⟨p[i]'(by omega), List.getElem?_eq_getElem (by omega)⟩
  have ei : idx p (i : Int) = some y := by rw [idx_nat, hy]
  rw [w64_M (n := p.length) (by omega) hl]
  simp only [ei, Option.bind_some, decide_true, Bool.not_true, cond_false]
  exact ok_inl ⟨by omega, rfl, trivial⟩
 obtain ⟨r, h1, h2⟩ := this
 rw [h1, h2]
theorem same_l1 (p : List api_Span) (hl : p.length ≤ 9223372036854775807) : loop (tracebooklaw26_SliceLooks_L1 p p) 0 = some (.inl ()) := by
 have : Ok (loop (tracebooklaw26_SliceLooks_L1 p p) 0) (fun r => r = .inl ()) := by
  refine ok_upM p.length (fun _ => True) hl trivial (fun i _ h2 => ?_)
  unfold tracebooklaw26_SliceLooks_L1
  refine ok_ite (fun hi => ?_) (fun _ => ok_inr rfl)
  obtain ⟨y, hy⟩ : ∃ y, p[i]? = some y := ⟨p[i]'(by omega), List.getElem?_eq_getElem (by omega)⟩
  have ei : idx p (i : Int) = some y := by rw [idx_nat, hy]
  rw [w64_M (n := p.length) (by omega) hl]
  simp only [ei, Option.bind_some, decide_true, Bool.and_true, Bool.and_self, bne_self_eq_false, cond_false]
  exact ok_inl ⟨by omega, rfl, trivial⟩
 obtain ⟨r, h1, h2⟩ := this
 rw [h1, h2]
theorem norm_len {N : List api_Span} (h : NormS N) : (N.length : Int) ≤ 1000000000000 := by
 have key : ∀ (N : List api_Span) (b : Int), (∀ s ∈ N, ValS s) → N.Pairwise (fun a b => a.fTo < b.fFrom) → (∀ s ∈ N, b ≤ s.fFrom) → 0 ≤ b → b ≤ 1000000000000 → (N.length : Int) ≤ 1000000000000 - b := by
  intro N
  induction N with
  | nil => intro b _ _ _ _ h; simp; omega
  | cons a N ih =>
   intro b hv hp hb h0 h1
   have ha := hv a List.mem_cons_self
   have pp := List.pairwise_cons.1 hp
   have := ih (a.fTo) (fun s hs => hv s (List.mem_cons_of_mem _ hs)) pp.2 (fun s hs => by have := pp.1 s hs; omega) (by have := ha.1; have := ha.2.1; omega) ha.2.2
   have hba := hb a List.mem_cons_self
   have := ha.2.1
   rw [List.length_cons]; omega
 have := key N 0 h.val h.pair (fun s hs => (h.val s hs).1) (by omega) (by omega)
 omega
theorem sliceLooks_holds (l : List api_Slice) (i th t : Int) (h : okr_L_api_Slice l) : tracebooklaw26_SliceLooks l i th t = some true := by
 obtain ⟨hz, hn⟩ := siz26 h
 have : Ok (tracebooklaw26_SliceLooks l i th t) (fun b => b = true) := by
  unfold tracebooklaw26_SliceLooks
  rw [lives26_eq, ← slice_eq l (by omega)]
  refine ok_bind (Q := fun v => v = false → l.length ≤ 40 ∧ Val l) ?_ (fun v hv => ?_)
  ·refine ok_ite (fun _ => ok_some (by simp)) (fun h1 => ?_)
   refine ok_bind (Check_val l (by omega) hn) (fun r hr => ok_some (fun e => ?_))
   exact ⟨by omega, hr (by simpa using e)⟩
  refine ok_cond (fun _ => ok_some rfl) (fun e => ?_)
  obtain ⟨h40, hV⟩ := hv e
  obtain ⟨p, hpl, hp1, hp2⟩ := paths26 l hV (by omega) i
  obtain ⟨b, hb, bN, bC⟩ := busy26 l (by omega) hV.sp th
  obtain ⟨b', hb', bN', bC'⟩ := refbusy26 l (by omega) hV.sp th
  have eb : b = b' := norm_uniq bN bN' (fun t => (bC t).trans (bC' t).symm)
  subst eb
  obtain ⟨a, ha, _⟩ := at_ok' l (by omega) th t
  have ha' : tracebookref26_At l th t = some a := by
   rw [← ha]; unfold tracebookref26_At slice_At
   rw [at_eq]
  have hkl : (if 0 ≤ i ∧ i < l.length then kidsN l i l.length else []).length ≤ 1000 := by
   split
   ·have := kidsN_len l i l.length; omega
   ·simp
  have hnl := norm_len bN
  rw [hp1, hp2, children_val l (by omega) i, refchildren_val l (by omega) hV.nest.up i, hb, hb', ha, ha']
  simp only [Option.bind_some, decide_true, Bool.not_true, cond_false]
  rw [same_l3 p (by omega), same_l2 _ (by omega), same_l1 b (by omega)]
  exact ok_some rfl
 obtain ⟨r, h1, h2⟩ := this
 rw [h1, h2]
end Go.VM
