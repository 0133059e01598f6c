/- The law holds: plain mathematics on what the functions compute. -/
import Derived.Test.YtinhkpcgdfppkaaL26B
namespace Go.VM
def firstL {α ρ : Type} (g : Nat → α → Option ρ) : List α → Nat → Option ρ
 | [], _ => none
 | y :: ys, i => match g i y with
  | some r => some r
  | none => firstL g ys (i + 1)
theorem forL_first {α ρ : Type} (g : Nat → α → Option ρ) (e : ρ) : ∀ (xs : List α) (i : Nat), forL (fun i y (_ : Unit) => match g i y with | some r => Sum.inr r | none => .inl ()) (fun _ => e) xs i () = (firstL g xs i).getD e
 | [], _ => rfl
 | y :: ys, i => by
  simp only [forL, firstL]
  cases g i y with
  | some r => rfl
  | none => exact forL_first g e ys (i + 1)
theorem loop_first {α ρ : Type} {step : Int → Option (Int ⊕ ρ)} (xs : List α) (g : Nat → α → Option ρ) (e : ρ) (hl : xs.length < manyRounds)
  (h1 : ∀ (i : Nat) y, xs[i]? = some y → step (i : Int) = some (match g i y with | some r => .inr r | none => .inl ((i : Int) + 1))) (h2 : step (xs.length : Int) = some (.inr e)) : loop step 0 = some ((firstL g xs 0).getD e) := by
 have := loop_for0 (σ := Unit) (step := step) xs (fun i _ => (i : Int)) (fun i y _ => match g i y with | some r => .inr r | none => .inl ()) (fun _ => e) hl
  (fun i y s hy => by
   rw [h1 i y hy]
   cases g i y <;> simp)
  (fun _ => h2) ()
 rw [show (0 : Int) = ((0 : Nat) : Int) from rfl, this, forL_first]
theorem lt_of_get {α : Type} {xs : List α} {i : Nat} {y : α} (h : xs[i]? = some y) : i < xs.length := (List.getElem?_eq_some_iff.1 h).1
theorem w64_nat {i : Nat} (h : i < 9223372036854775807) : w64 ((i : Int) + 1) = (i : Int) + 1 := w64_of (by omega)
end Go.VM
namespace Go.VM
def Ok {α : Type} (x : Option α) (P : α → Prop) : Prop := ∃ r, x = some r ∧ P r
def Yes {α : Type} : α → Prop := fun _ => True
def InlR {α β : Type} (A : α → Prop) (B : β → Prop) : α ⊕ β → Prop
 | .inl a => A a
 | .inr b => B b
theorem ok_some {α : Type} {P : α → Prop} {r : α} (h : P r) : Ok (some r) P := ⟨r, rfl, h⟩
theorem ok_inl {α β : Type} {A : α → Prop} {B : β → Prop} {a : α} (h : A a) : Ok (some (.inl a)) (InlR A B) := ⟨_, rfl, h⟩
theorem ok_inr {α β : Type} {A : α → Prop} {B : β → Prop} {b : β} (h : B b) : Ok (some (.inr b)) (InlR A B) := ⟨_, rfl, h⟩
theorem ok_bind {α β : Type} {x : Option α} {f : α → Option β} {Q : α → Prop} {P : β → Prop} (hx : Ok x Q) (hf : ∀ r, Q r → Ok (f r) P) : Ok (x.bind f) P := by
 obtain ⟨r, h1, h2⟩ := hx
 subst h1; exact hf r h2
theorem ok_bindS {α β γ : Type} {x : Option (α ⊕ γ)} {f : α ⊕ γ → Option β} {Q : α ⊕ γ → Prop} {P : β → Prop} (hx : Ok x Q) (hf : ∀ r, Q (.inl r) → Ok (f (.inl r)) P) (hg : ∀ r, Q (.inr r) → Ok (f (.inr r)) P) : Ok (x.bind f) P :=
 ok_bind hx (fun r => match r with | .inl a => hf a | .inr b => hg b)
theorem ok_cond {α : Type} {b : Bool} {x y : Option α} {P : α → Prop} (h1 : b = true → Ok x P) (h2 : b = false → Ok y P) : Ok (cond b x y) P := by
 cases b
 ·exact h2 rfl
 ·exact h1 rfl
theorem Ok.mono {α : Type} {x : Option α} {P Q : α → Prop} (h : Ok x P) (hq : ∀ r, P r → Q r) : Ok x Q := by
 obtain ⟨r, h1, h2⟩ := h; exact ⟨r, h1, hq r h2⟩
theorem Ok.yes {α : Type} {x : Option α} {P : α → Prop} (h : Ok x P) : Ok x Yes := h.mono (fun _ _ => trivial)
theorem ok_idx {α : Type} {xs : List α} {i : Int} (h1 : 0 ≤ i) (h2 : i < xs.length) : Ok (idx xs i) (fun y => xs[i.toNat]? = some y) := by
 obtain ⟨n, rfl⟩ := Int.eq_ofNat_of_zero_le h1
 have h3 : n < xs.length := by omega
 rw [idx_nat]
 exact ⟨xs[n], by simp [h3], by simp [h3]⟩
theorem ok_loop {S ρ : Type} {step : S → Option (S ⊕ ρ)} (Inv : S → Prop) (m : S → Nat) {Post : ρ → Prop}
  (h : ∀ s, Inv s → Ok (step s) (InlR (fun s' => Inv s' ∧ m s' < m s) Post)) {s : S} (hs : Inv s) (hm : m s < manyRounds) : Ok (loop step s) Post := by
 refine loop_inv Inv m Post (fun s hs => ?_) hs hm
 obtain ⟨r, h1, h2⟩ := h s hs
 cases r with
 | inl a => exact Or.inl ⟨a, h1, h2⟩
 | inr b => exact Or.inr ⟨b, h1, h2⟩
theorem ok_up {ρ : Type} {step : Int → Option (Int ⊕ ρ)} (n : Nat) {Post : ρ → Prop} (hn : n ≤ 9223372036854775807)
  (h : ∀ i : Int, 0 ≤ i → i ≤ n → Ok (step i) (InlR (fun a => i < n ∧ a = i + 1) Post)) : Ok (loop step 0) Post := by
 refine ok_loop (fun i : Int => 0 ≤ i ∧ i ≤ (n : Int)) (fun i : Int => ((n : Int) - i).toNat) (fun i hi => (h i hi.1 hi.2).mono ?_) ⟨by omega, by omega⟩ (by simp [manyRounds]; omega)
 rintro (a | b) hr
 ·obtain ⟨h1, rfl⟩ : i < n ∧ a = i + 1 := hr
  exact ⟨⟨by omega, by omega⟩, by omega⟩
 ·exact hr
theorem ok_yes {α : Type} {r : α} : Ok (some r) Yes := ⟨r, rfl, trivial⟩
theorem ok_inlY {α β : Type} {B : β → Prop} {a : α} : Ok (some (.inl a)) (InlR Yes B) := ⟨_, rfl, trivial⟩
theorem ok_inrY {α β : Type} {A : α → Prop} {b : β} : Ok (some (.inr b)) (InlR A Yes) := ⟨_, rfl, trivial⟩
theorem ok_next {ρ : Type} {i : Int} {n : Nat} {P : ρ → Prop} (h1 : 0 ≤ i) (h2 : i < (n : Int)) (h3 : n ≤ 9223372036854775807) : Ok (some (.inl (w64 (i + 1)))) (InlR (fun a : Int => i < (n : Int) ∧ a = i + 1) P) :=
 ok_inl ⟨h2, w64_of (by omega)⟩
theorem ok_ite {α : Type} {p : Prop} [Decidable p] {x y : Option α} {P : α → Prop} (h1 : p → Ok x P) (h2 : ¬p → Ok y P) : Ok (cond (decide p) x y) P :=
 ok_cond (fun h => h1 (of_decide_eq_true h)) (fun h => h2 (of_decide_eq_false h))
theorem ok_nite {α : Type} {p : Prop} [Decidable p] {x y : Option α} {P : α → Prop} (h1 : ¬p → Ok x P) (h2 : p → Ok y P) : Ok (cond (!decide p) x y) P := by
 by_cases h : p
 ·simpa [h] using h2 h
 ·simpa [h] using h1 h
theorem ok_not {α : Type} {b : Bool} {x y : Option α} {P : α → Prop} (h1 : b = false → Ok x P) (h2 : b = true → Ok y P) : Ok (cond (!b) x y) P := by
 cases b
 ·exact h1 rfl
 ·exact h2 rfl
abbrev Tot {α : Type} (x : Option α) : Prop := Ok x Yes
theorem ok_up2 {σ ρ : Type} {step : σ × Int → Option ((σ × Int) ⊕ ρ)} (n : Nat) (Inv : σ → Int → Prop) {Post : ρ → Prop} (hn : n ≤ 9223372036854775807) {s0 : σ} (h0 : Inv s0 0)
  (h : ∀ (s : σ) (i : Int), Inv s i → 0 ≤ i → i ≤ n → Ok (step (s, i)) (InlR (fun a => i < n ∧ a.2 = i + 1 ∧ Inv a.1 (i + 1)) Post)) : Ok (loop step (s0, 0)) Post := by
 refine ok_loop (fun s : σ × Int => Inv s.1 s.2 ∧ 0 ≤ s.2 ∧ s.2 ≤ (n : Int)) (fun s : σ × Int => ((n : Int) - s.2).toNat) (fun s hi => (h s.1 s.2 hi.1 hi.2.1 hi.2.2).mono ?_) ⟨h0, by simp, by simp⟩ (by simp [manyRounds]; omega)
 rintro (⟨a, j⟩ | b) hr
 ·obtain ⟨h1, h2, h3⟩ : s.2 < n ∧ j = s.2 + 1 ∧ Inv a (s.2 + 1) := hr
  subst h2
  exact ⟨⟨h3, by simp; omega, by simp; omega⟩, by simp; omega⟩
 ·exact hr
theorem ok_next2 {σ ρ : Type} {s : σ} {i : Int} {n : Nat} {Inv : σ → Int → Prop} {P : ρ → Prop} (hI : Inv s (i + 1)) (h1 : 0 ≤ i) (h2 : i < (n : Int)) (h3 : n ≤ 9223372036854775807) : Ok (some (.inl (s, w64 (i + 1)))) (InlR (fun a : σ × Int => i < (n : Int) ∧ a.2 = i + 1 ∧ Inv a.1 (i + 1)) P) :=
 ok_inl ⟨h2, w64_of (by omega), hI⟩
theorem ok_upI {ρ : Type} {step : Int → Option (Int ⊕ ρ)} (n : Nat) (Inv : Int → Prop) {Post : ρ → Prop} (hn : n ≤ 9223372036854775807) (h0 : Inv 0)
  (h : ∀ i : Int, Inv i → 0 ≤ i → i ≤ n → Ok (step i) (InlR (fun a => i < n ∧ a = i + 1 ∧ Inv (i + 1)) Post)) : Ok (loop step 0) Post := by
 refine ok_loop (fun i : Int => Inv i ∧ 0 ≤ i ∧ i ≤ (n : Int)) (fun i : Int => ((n : Int) - i).toNat) (fun i hi => (h i hi.1 hi.2.1 hi.2.2).mono ?_) ⟨h0, by omega, by omega⟩ (by simp [manyRounds]; omega)
 rintro (a | b) hr
 ·obtain ⟨h1, rfl, h3⟩ : i < n ∧ a = i + 1 ∧ Inv (i + 1) := hr
  exact ⟨⟨h3, by omega, by omega⟩, by omega⟩
 ·exact hr
theorem ok_nextI {ρ : Type} {i : Int} {n : Nat} {Inv : Int → Prop} {P : ρ → Prop} (hI : Inv (i + 1)) (h1 : 0 ≤ i) (h2 : i < (n : Int)) (h3 : n ≤ 9223372036854775807) : Ok (some (.inl (w64 (i + 1)))) (InlR (fun a : Int => i < (n : Int) ∧ a = i + 1 ∧ Inv (i + 1)) P) :=
 ok_inl ⟨h2, w64_of (by omega), hI⟩
theorem room_ok {b n : Nat} (h1 : n * b ≤ 140737488355328) (h2 : n ≤ 9223372036854775807) : room b n = true := by
 simp only [room, Bool.and_eq_true]
 exact ⟨Nat.ble_eq_true_of_le h1, Nat.ble_eq_true_of_le h2⟩
theorem spans_Valid_eq (s : api_Span) : spans_Valid s = some (decide (0 ≤ s.fFrom ∧ s.fFrom < s.fTo ∧ s.fTo ≤ 1000000000000)) := by
 unfold spans_Valid
 by_cases h1 : 0 ≤ s.fFrom <;> by_cases h2 : s.fFrom < s.fTo <;> by_cases h3 : s.fTo ≤ 1000000000000 <;> simp [h1, h2, h3]
theorem intern_letter_ok (c : Int) : Ok (intern_letter c) Yes := by
 unfold intern_letter strings_IndexByte internal_stringslite_IndexByte
 repeat' (first | (with_reducible first | exact ok_yes | exact ok_inrY | exact ok_inlY | refine ok_nite (fun _ => ?_) fun _ => ?_ | refine ok_ite (fun _ => ?_) fun _ => ?_ | refine ok_not (fun _ => ?_) fun _ => ?_ | refine ok_cond (fun _ => ?_) fun _ => ?_) | (with_reducible refine ok_next ?_ ?_ ?_ <;> (first | assumption | omega | rw [w64_of] <;> omega)) | with_reducible refine ok_bind (ok_idx (by (first | assumption | omega | rw [w64_of] <;> omega)) (by (first | assumption | omega | rw [w64_of] <;> omega))) (fun _ _ => ?_) | (with_reducible refine ok_bind (Q := Yes) ?_ fun _ _ => ?_) | dsimp only)
theorem intern_Name_ok (s : ByteArray) (h : s.size ≤ 9223372036854775807) : Ok (intern_Name s) Yes := by
 unfold intern_Name
 refine ok_bind (Q := Yes) ?_ (fun v _ => ?_)
 ·repeat' (first | (with_reducible first | exact ok_yes | exact ok_inrY | exact ok_inlY | refine ok_nite (fun _ => ?_) fun _ => ?_ | refine ok_ite (fun _ => ?_) fun _ => ?_ | refine ok_not (fun _ => ?_) fun _ => ?_ | refine ok_cond (fun _ => ?_) fun _ => ?_) | (with_reducible refine ok_next ?_ ?_ ?_ <;> (first | assumption | omega | rw [w64_of] <;> omega)) | with_reducible refine ok_bind (ok_idx (by (first | assumption | omega | rw [w64_of] <;> omega)) (by (first | assumption | omega | rw [w64_of] <;> omega))) (fun _ _ => ?_) | (with_reducible refine ok_bind (Q := Yes) ?_ fun _ _ => ?_) | dsimp only)
 refine ok_cond (fun _ => ok_some trivial) (fun _ => ?_)
 have e : s.data.toList.length = s.size := by rw [Array.length_toList]; rfl
 refine ok_bindS (Q := Yes) (ok_up s.size h fun i h1 h2 => ?_) (fun _ _ => ?_) (fun _ _ => ?_)
 ·unfold intern_Name_L1
  repeat' (first | (with_reducible first | exact ok_yes | exact ok_inrY | exact ok_inlY | refine ok_nite (fun _ => ?_) fun _ => ?_ | refine ok_ite (fun _ => ?_) fun _ => ?_ | refine ok_not (fun _ => ?_) fun _ => ?_ | refine ok_cond (fun _ => ?_) fun _ => ?_) | (with_reducible refine ok_next ?_ ?_ ?_ <;> (first | assumption | omega | rw [w64_of] <;> omega)) | with_reducible refine ok_bind (ok_idx (by (first | assumption | omega | rw [w64_of] <;> omega)) (by (first | assumption | omega | rw [w64_of] <;> omega))) (fun _ _ => ?_) | (with_reducible refine Ok.yes (ok_idx ?_ (by rw [e]; (first | assumption | omega | rw [w64_of] <;> omega))) <;> (first | assumption | omega | rw [w64_of] <;> omega)) | (with_reducible refine Ok.yes (intern_letter_ok _) <;> (first | assumption | omega | rw [w64_of] <;> omega)) | (with_reducible refine ok_bind (Q := Yes) ?_ fun _ _ => ?_) | dsimp only)
 ·repeat' (first | (with_reducible first | exact ok_yes | exact ok_inrY | exact ok_inlY | refine ok_nite (fun _ => ?_) fun _ => ?_ | refine ok_ite (fun _ => ?_) fun _ => ?_ | refine ok_not (fun _ => ?_) fun _ => ?_ | refine ok_cond (fun _ => ?_) fun _ => ?_) | (with_reducible refine ok_next ?_ ?_ ?_ <;> (first | assumption | omega | rw [w64_of] <;> omega)) | with_reducible refine ok_bind (ok_idx (by (first | assumption | omega | rw [w64_of] <;> omega)) (by (first | assumption | omega | rw [w64_of] <;> omega))) (fun _ _ => ?_) | (with_reducible refine ok_bind (Q := Yes) ?_ fun _ _ => ?_) | dsimp only)
 ·repeat' (first | (with_reducible first | exact ok_yes | exact ok_inrY | exact ok_inlY | refine ok_nite (fun _ => ?_) fun _ => ?_ | refine ok_ite (fun _ => ?_) fun _ => ?_ | refine ok_not (fun _ => ?_) fun _ => ?_ | refine ok_cond (fun _ => ?_) fun _ => ?_) | (with_reducible refine ok_next ?_ ?_ ?_ <;> (first | assumption | omega | rw [w64_of] <;> omega)) | with_reducible refine ok_bind (ok_idx (by (first | assumption | omega | rw [w64_of] <;> omega)) (by (first | assumption | omega | rw [w64_of] <;> omega))) (fun _ _ => ?_) | (with_reducible refine ok_bind (Q := Yes) ?_ fun _ _ => ?_) | dsimp only)
abbrev okN (s : ByteArray) : Prop := s.size ≤ 9223372036854775807
theorem spans_Valid_ok (s : api_Span) : Ok (spans_Valid s) Yes := by
 unfold spans_Valid
 repeat' (first | (with_reducible first | exact ok_yes | exact ok_inrY | exact ok_inlY | refine ok_nite (fun _ => ?_) fun _ => ?_ | refine ok_ite (fun _ => ?_) fun _ => ?_ | refine ok_not (fun _ => ?_) fun _ => ?_ | refine ok_cond (fun _ => ?_) fun _ => ?_) | (with_reducible refine ok_next ?_ ?_ ?_ <;> (first | assumption | omega | rw [w64_of] <;> omega)) | with_reducible refine ok_bind (ok_idx (by (first | assumption | omega | rw [w64_of] <;> omega)) (by (first | assumption | omega | rw [w64_of] <;> omega))) (fun _ _ => ?_) | (with_reducible refine ok_bind (Q := Yes) ?_ fun _ _ => ?_) | dsimp only)
theorem cmp_Compare_int_ok (a b : Int) : Ok (cmp_Compare_int a b) Yes := by
 unfold cmp_Compare_int cmp_isNaN_int
 repeat' (first | (with_reducible first | exact ok_yes | exact ok_inrY | exact ok_inlY | refine ok_nite (fun _ => ?_) fun _ => ?_ | refine ok_ite (fun _ => ?_) fun _ => ?_ | refine ok_not (fun _ => ?_) fun _ => ?_ | refine ok_cond (fun _ => ?_) fun _ => ?_) | (with_reducible refine ok_next ?_ ?_ ?_ <;> (first | assumption | omega | rw [w64_of] <;> omega)) | with_reducible refine ok_bind (ok_idx (by (first | assumption | omega | rw [w64_of] <;> omega)) (by (first | assumption | omega | rw [w64_of] <;> omega))) (fun _ _ => ?_) | (with_reducible refine ok_bind (Q := Yes) ?_ fun _ _ => ?_) | dsimp only)
theorem cmp_Or_int_ok (l : List Int) (h : l.length ≤ 9223372036854775807) : Ok (cmp_Or_int l) Yes := by
 unfold cmp_Or_int
 refine ok_bindS (Q := Yes) (ok_up l.length (by omega) fun i h1 h2 => ?_) (fun _ _ => ?_) (fun _ _ => ?_)
 ·unfold cmp_Or_int_L1
  repeat' (first | (with_reducible first | exact ok_yes | exact ok_inrY | exact ok_inlY | refine ok_nite (fun _ => ?_) fun _ => ?_ | refine ok_ite (fun _ => ?_) fun _ => ?_ | refine ok_not (fun _ => ?_) fun _ => ?_ | refine ok_cond (fun _ => ?_) fun _ => ?_) | (with_reducible refine ok_next ?_ ?_ ?_ <;> (first | assumption | omega | rw [w64_of] <;> omega)) | with_reducible refine ok_bind (ok_idx (by (first | assumption | omega | rw [w64_of] <;> omega)) (by (first | assumption | omega | rw [w64_of] <;> omega))) (fun _ _ => ?_) | (with_reducible refine ok_bind (Q := Yes) ?_ fun _ _ => ?_) | dsimp only)
 ·repeat' (first | (with_reducible first | exact ok_yes | exact ok_inrY | exact ok_inlY | refine ok_nite (fun _ => ?_) fun _ => ?_ | refine ok_ite (fun _ => ?_) fun _ => ?_ | refine ok_not (fun _ => ?_) fun _ => ?_ | refine ok_cond (fun _ => ?_) fun _ => ?_) | (with_reducible refine ok_next ?_ ?_ ?_ <;> (first | assumption | omega | rw [w64_of] <;> omega)) | with_reducible refine ok_bind (ok_idx (by (first | assumption | omega | rw [w64_of] <;> omega)) (by (first | assumption | omega | rw [w64_of] <;> omega))) (fun _ _ => ?_) | (with_reducible refine ok_bind (Q := Yes) ?_ fun _ _ => ?_) | dsimp only)
 ·repeat' (first | (with_reducible first | exact ok_yes | exact ok_inrY | exact ok_inlY | refine ok_nite (fun _ => ?_) fun _ => ?_ | refine ok_ite (fun _ => ?_) fun _ => ?_ | refine ok_not (fun _ => ?_) fun _ => ?_ | refine ok_cond (fun _ => ?_) fun _ => ?_) | (with_reducible refine ok_next ?_ ?_ ?_ <;> (first | assumption | omega | rw [w64_of] <;> omega)) | with_reducible refine ok_bind (ok_idx (by (first | assumption | omega | rw [w64_of] <;> omega)) (by (first | assumption | omega | rw [w64_of] <;> omega))) (fun _ _ => ?_) | (with_reducible refine ok_bind (Q := Yes) ?_ fun _ _ => ?_) | dsimp only)
theorem slice_compare_ok (a b : api_Slice) : Ok (slice_compare a b) Yes := by
 unfold slice_compare
 repeat' (first | (with_reducible first | exact ok_yes | exact ok_inrY | exact ok_inlY | refine ok_nite (fun _ => ?_) fun _ => ?_ | refine ok_ite (fun _ => ?_) fun _ => ?_ | refine ok_not (fun _ => ?_) fun _ => ?_ | refine ok_cond (fun _ => ?_) fun _ => ?_) | (with_reducible refine ok_next ?_ ?_ ?_ <;> (first | assumption | omega | rw [w64_of] <;> omega)) | with_reducible refine ok_bind (ok_idx (by (first | assumption | omega | rw [w64_of] <;> omega)) (by (first | assumption | omega | rw [w64_of] <;> omega))) (fun _ _ => ?_) | (with_reducible refine Ok.yes (cmp_Compare_int_ok _ _) <;> (first | assumption | omega | rw [w64_of] <;> omega)) | (with_reducible refine Ok.yes (cmp_Or_int_ok _ (Nat.le_of_ble_eq_true rfl)) <;> (first | assumption | omega | rw [w64_of] <;> omega)) | (with_reducible refine ok_bind (Q := Yes) ?_ fun _ _ => ?_) | dsimp only)
def Up (l : List api_Slice) (n : Int) : Prop := ∀ (j : Nat) y, (j : Int) < n → l[j]? = some y → -1 ≤ y.fParent ∧ y.fParent < (j : Int)
theorem slice_nested_ok (l : List api_Slice) (h : l.length ≤ 9223372036854775807) : Ok (slice_nested l) (fun b => b = true → Up l l.length) := by
 unfold slice_nested
 refine ok_bindS (Q := InlR (fun _ => Up l l.length) (fun b => b = false)) (ok_upI l.length (Up l) h (by intro j y hj; omega) (fun i hI h1 h2 => ?_)) (fun _ hq => ok_some (fun _ => hq)) (fun r hr => ok_some (fun e => ?_))
 ·unfold slice_nested_L1
  refine ok_ite (fun hi => ?_) (fun hi => ok_inr (by have : i = l.length := (by omega); subst this; exact hI))
  refine ok_bind (ok_idx h1 hi) (fun y hy => ?_)
  have no : InlR (fun _ : Unit => Up l l.length) (fun b => b = false) (.inr false) := rfl
  refine ok_bind (Q := fun v => v = false → -1 ≤ y.fParent ∧ y.fParent < i) ?_ (fun v hv => ?_)
  ·refine ok_ite (fun _ => ok_some (by simp)) (fun h3 => ok_some (fun h4 => ?_))
   have := of_decide_eq_false h4
   omega
  refine ok_cond (fun _ => ok_inr no) (fun h0 => ?_)
  have hp := hv h0
  have nx : Up l (i + 1) := by
   intro j z hj hz
   by_cases e : (j : Int) = i
   ·have : i.toNat = j := by omega
    rw [this] at hy
    rw [hy] at hz; cases hz
    omega
   ·exact hI j z (by omega) hz
  refine ok_ite (fun _ => ?_) (fun hne => ?_)
  ·refine ok_nite (fun _ => ok_inr no) (fun _ => ok_nextI nx h1 hi h)
  ·refine ok_bind (ok_idx (by omega) (by omega)) (fun z _ => ?_)
   refine ok_bind (Q := Yes) (by repeat' (first | (with_reducible first | exact ok_yes | exact ok_inrY | exact ok_inlY | refine ok_nite (fun _ => ?_) fun _ => ?_ | refine ok_ite (fun _ => ?_) fun _ => ?_ | refine ok_not (fun _ => ?_) fun _ => ?_ | refine ok_cond (fun _ => ?_) fun _ => ?_) | (with_reducible refine ok_next ?_ ?_ ?_ <;> (first | assumption | omega | rw [w64_of] <;> omega)) | with_reducible refine ok_bind (ok_idx (by (first | assumption | omega | rw [w64_of] <;> omega)) (by (first | assumption | omega | rw [w64_of] <;> omega))) (fun _ _ => ?_) | (with_reducible refine ok_bind (Q := Yes) ?_ fun _ _ => ?_) | dsimp only)) (fun v _ => ?_)
   refine ok_cond (fun _ => ok_inr no) (fun _ => ok_nextI nx h1 hi h)
 ·have : r = false := hr
  simp [this] at e
theorem slice_under_ok (l : List api_Slice) (h : l.length ≤ 9223372036854775807) (hu : Up l l.length) (a b : Int) (hb : b < l.length) : Tot (slice_under l a b) := by
 unfold slice_under
 refine ok_bindS (Q := Yes) (ok_loop (fun i : Int => i < l.length) (fun i : Int => (i + 1).toNat) (fun i hi => ?_) hb (by simp [manyRounds]; omega)) (fun _ _ => ok_yes) (fun _ _ => ok_yes)
 unfold slice_under_L1
 refine ok_ite (fun h0 => ?_) (fun _ => ok_inrY)
 refine ok_ite (fun _ => ok_inrY) (fun _ => ?_)
 refine ok_bind (ok_idx h0 hi) (fun y hy => ?_)
 have := hu i.toNat y (by omega) hy
 exact ok_inl ⟨by omega, by omega⟩
theorem slice_apart_ok (l : List api_Slice) (h : l.length ≤ 9223372036854775807) (hu : Up l l.length) : Tot (slice_apart l) := by
 unfold slice_apart
 refine ok_bindS (Q := Yes) (ok_up l.length h fun i h1 h2 => ?_) (fun _ _ => ok_yes) (fun _ _ => ok_yes)
 unfold slice_apart_L2
 refine ok_ite (fun hi => ?_) (fun _ => ok_inrY)
 refine ok_bind (ok_idx h1 hi) (fun y hy => ?_)
 refine ok_bindS (Q := InlR Yes (InlR (fun _ => False) Yes)) (ok_up2 l.length (fun _ _ => True) h trivial (fun a j _ h3 h4 => ?_)) (fun _ _ => ?_) (fun r hr => ?_)
 ·unfold slice_apart_L1
  dsimp only
  refine ok_ite (fun hj => ?_) (fun _ => ok_inr trivial)
  refine ok_bind (ok_idx h3 hj) (fun z hz => ?_)
  refine ok_bind (Q := Yes) (by repeat' (first | (with_reducible first | exact ok_yes | exact ok_inrY | exact ok_inlY | refine ok_nite (fun _ => ?_) fun _ => ?_ | refine ok_ite (fun _ => ?_) fun _ => ?_ | refine ok_not (fun _ => ?_) fun _ => ?_ | refine ok_cond (fun _ => ?_) fun _ => ?_) | (with_reducible refine ok_next ?_ ?_ ?_ <;> (first | assumption | omega | rw [w64_of] <;> omega)) | with_reducible refine ok_bind (ok_idx (by (first | assumption | omega | rw [w64_of] <;> omega)) (by (first | assumption | omega | rw [w64_of] <;> omega))) (fun _ _ => ?_) | (with_reducible refine ok_bind (Q := Yes) ?_ fun _ _ => ?_) | dsimp only)) (fun v _ => ?_)
  refine ok_bind (Q := Yes) (by repeat' (first | (with_reducible first | exact ok_yes | exact ok_inrY | exact ok_inlY | refine ok_nite (fun _ => ?_) fun _ => ?_ | refine ok_ite (fun _ => ?_) fun _ => ?_ | refine ok_not (fun _ => ?_) fun _ => ?_ | refine ok_cond (fun _ => ?_) fun _ => ?_) | (with_reducible refine ok_next ?_ ?_ ?_ <;> (first | assumption | omega | rw [w64_of] <;> omega)) | with_reducible refine ok_bind (ok_idx (by (first | assumption | omega | rw [w64_of] <;> omega)) (by (first | assumption | omega | rw [w64_of] <;> omega))) (fun _ _ => ?_) | (with_reducible refine Ok.yes (slice_under_ok l h hu _ _ hi) <;> (first | assumption | omega | rw [w64_of] <;> omega)) | (with_reducible refine ok_bind (Q := Yes) ?_ fun _ _ => ?_) | dsimp only)) (fun v _ => ?_)
  refine ok_cond (fun _ => ok_inr trivial) (fun _ => ok_next2 (Inv := fun _ _ => True) trivial h3 hj h)
 ·dsimp only
  repeat' (first | (with_reducible first | exact ok_yes | exact ok_inrY | exact ok_inlY | refine ok_nite (fun _ => ?_) fun _ => ?_ | refine ok_ite (fun _ => ?_) fun _ => ?_ | refine ok_not (fun _ => ?_) fun _ => ?_ | refine ok_cond (fun _ => ?_) fun _ => ?_) | (with_reducible refine ok_next ?_ ?_ ?_ <;> (first | assumption | omega | rw [w64_of] <;> omega)) | with_reducible refine ok_bind (ok_idx (by (first | assumption | omega | rw [w64_of] <;> omega)) (by (first | assumption | omega | rw [w64_of] <;> omega))) (fun _ _ => ?_) | (with_reducible refine ok_bind (Q := Yes) ?_ fun _ _ => ?_) | dsimp only)
 ·rcases r with r | r
  ·exact (hr : False).elim
  ·exact ok_inrY
theorem spans_Valid_val (s : api_Span) : Ok (spans_Valid s) (fun b => b = true → 0 ≤ s.fFrom ∧ s.fFrom < s.fTo ∧ s.fTo ≤ 1000000000000) := by
 rw [spans_Valid_eq]
 exact ok_some (fun h => of_decide_eq_true h)
theorem loop_res {S ρ : Type} {step : S → Option (S ⊕ ρ)} {Q : ρ → Prop} (h : ∀ s r, step s = some (.inr r) → Q r) {s : S} {r : ρ} (hr : loop step s = some r) : Q r := by
 have key : ∀ n s, iter step n s = some r → Q r := by
  intro n
  induction n with
  | zero => intro s h; simp [iter] at h
  | succ n ih =>
   intro s hs
   rw [iter_succ] at hs
   cases e : step s with
   | none => rw [e] at hs; simp at hs
   | some x =>
    rw [e] at hs
    cases x with
    | inl s' => exact ih s' hs
    | inr r' => simp only [Option.some.injEq] at hs; subst hs; exact h s _ e
 exact key _ s hr
theorem letter_eq (y : UInt8) : intern_letter (y.toNat : Int) = tracebookref06_letter (y.toNat : Int) := by
 have h : (List.range 256).all (fun n => decide (intern_letter (n : Int) = tracebookref06_letter (n : Int))) = true := by kernel_rfl
 exact of_decide_eq_true (List.all_eq_true.1 h y.toNat (List.mem_range.2 (UInt8.toNat_lt y)))
theorem empty_iff (s : ByteArray) : s = ⟨#[]⟩ ↔ (s.size : Int) < 1 := by
 constructor
 ·intro h; subst h; decide
 ·intro h
  cases s with
  | mk a =>
   have : a.size = 0 := by
    have : (ByteArray.mk a).size = a.size := rfl
    omega
   rw [Array.eq_empty_of_size_eq_zero this]
theorem Name_eq (s : ByteArray) : intern_Name s = tracebookref06_Name s := by
 unfold intern_Name tracebookref06_Name
 have h1 : intern_Name_L1 s = tracebookref06_Name_L1 s := by
  funext i
  simp only [intern_Name_L1, tracebookref06_Name_L1, letter_eq]
 have h2 : decide (s = ⟨#[]⟩) = decide ((ByteArray.size s : Int) < 1) := decide_eq_decide.2 (empty_iff s)
 rw [h1, h2] <;> rfl
theorem Valid_eq (s : api_Span) : tracebookref04_Valid s = spans_Valid s := rfl
theorem cmpI_eq (a b : Int) : cmp_Compare_int a b = some (if a < b then -1 else if b < a then 1 else 0) := by
 unfold cmp_Compare_int cmp_isNaN_int
 by_cases h1 : a < b <;> by_cases h2 : b < a <;> simp [h1, h2]
def orI : List Int → Int
 | [] => 0
 | x :: r => if x = 0 then orI r else x
theorem orI_first : ∀ (l : List Int) (i : Nat), (match (firstL (fun _ y => if y = 0 then none else some (.inr y)) l i).getD (.inl ()) with | (.inl _ : Unit ⊕ Int) => 0 | .inr rv => rv) = orI l
 | [], _ => rfl
 | x :: r, i => by
  simp only [firstL, orI]
  by_cases h : x = 0
  ·simp only [h, if_true]; exact orI_first r (i + 1)
  ·simp [h]
theorem cmpOr_eq (l : List Int) (hl : l.length ≤ 9223372036854775807) : cmp_Or_int l = some (orI l) := by
 unfold cmp_Or_int
 rw [loop_first l (fun _ y => if y = 0 then none else some (.inr y)) (.inl ()) (by simp [manyRounds]; omega) (fun i y hy => ?_) (by simp [cmp_Or_int_L1])]
 ·rw [Option.bind_some, ← orI_first l 0]
  generalize (firstL _ l 0).getD (Sum.inl ()) = q
  cases q <;> rfl
 ·have hi := lt_of_get hy
  have h1 : (i : Int) < l.length := by omega
  simp only [cmp_Or_int_L1, h1, decide_true, cond_true, idx_nat, hy, Option.bind_some]
  by_cases h : y = 0 <;> simp [h, w64_nat (i := i) (by omega)]
theorem compare_eq (a b : api_Slice) : ∃ c, slice_compare a b = some c ∧ tracebookref26_Precedes b a = some (decide (0 < c)) := by
 refine ⟨orI [if a.fSpan.fFrom < b.fSpan.fFrom then -1 else if b.fSpan.fFrom < a.fSpan.fFrom then 1 else 0, if b.fSpan.fTo < a.fSpan.fTo then -1 else if a.fSpan.fTo < b.fSpan.fTo then 1 else 0, if a.fThread < b.fThread then -1 else if b.fThread < a.fThread then 1 else 0], ?_, ?_⟩
 ·unfold slice_compare
  simp only [cmpI_eq, Option.bind_some]
  rw [cmpOr_eq _ (Nat.le_of_ble_eq_true rfl), Option.bind_some]
 ·unfold tracebookref26_Precedes
  simp only [orI]
  by_cases h1 : a.fSpan.fFrom < b.fSpan.fFrom
  ·have h2 : ¬ b.fSpan.fFrom = a.fSpan.fFrom := by omega
   have h3 : ¬ b.fSpan.fFrom < a.fSpan.fFrom := by omega
   simp [h1, h2, h3]
  ·by_cases h2 : b.fSpan.fFrom < a.fSpan.fFrom
   ·have h3 : ¬ b.fSpan.fFrom = a.fSpan.fFrom := by omega
    simp [h1, h2, h3]
   ·have h3 : b.fSpan.fFrom = a.fSpan.fFrom := by omega
    simp only [h1, h2, h3, decide_true, Bool.not_true, cond_false, if_false, if_true]
    by_cases h4 : b.fSpan.fTo < a.fSpan.fTo
    ·have h5 : ¬ b.fSpan.fTo = a.fSpan.fTo := by omega
     have h6 : ¬ a.fSpan.fTo < b.fSpan.fTo := by omega
     simp [h4, h5, h6]
    ·by_cases h5 : a.fSpan.fTo < b.fSpan.fTo
     ·have h6 : ¬ b.fSpan.fTo = a.fSpan.fTo := by omega
      simp [h4, h5, h6]
     ·have h6 : b.fSpan.fTo = a.fSpan.fTo := by omega
      by_cases h7 : a.fThread < b.fThread
      ·have h8 : ¬ b.fThread < a.fThread := by omega
       simp [h6, h7, h8]
      ·by_cases h8 : b.fThread < a.fThread <;> simp [h6, h7, h8]
theorem nested_step (l : List api_Slice) : slice_nested_L1 l = tracebookref26_formed_L3 l := by
 funext i
 unfold slice_nested_L1 tracebookref26_formed_L3
 cases e : idx l i with
 | none => rfl
 | some y =>
  simp only [Option.bind_some]
  congr 1
  by_cases h1 : y.fParent < -1
  ·simp [h1]
  ·by_cases h2 : i ≤ y.fParent
   ·simp [h1, h2]
   ·simp only [h1, h2, decide_false, cond_false, Option.bind_some]
    by_cases h3 : y.fParent = -1
    ·rw [h3]
     by_cases h4 : y.fDepth = 0 <;> simp [h4]
    ·have h5 : 0 ≤ y.fParent := by omega
     simp only [h3, h5, decide_false, decide_true, cond_false, cond_true, Option.bind_some]
     cases idx l y.fParent with
     | none => rfl
     | some z =>
      simp only [Option.bind_some, tracebookref26_contains]
      by_cases g1 : z.fThread = y.fThread <;> by_cases g2 : y.fSpan.fFrom < z.fSpan.fFrom <;> by_cases g3 : z.fSpan.fTo < y.fSpan.fTo <;> by_cases g4 : y.fDepth = w64 (z.fDepth + 1) <;>
       simp [g1, g2, g3, g4, Int.not_lt.1, Int.not_le.2] <;> (first | (rw [show (decide (z.fSpan.fFrom ≤ y.fSpan.fFrom)) = false from decide_eq_false (by omega)]; rfl) | (rw [show (decide (z.fSpan.fFrom ≤ y.fSpan.fFrom)) = true from decide_eq_true (by omega)]; first | rfl | (rw [show (decide (y.fSpan.fTo ≤ z.fSpan.fTo)) = false from decide_eq_false (by omega)]; rfl) | (rw [show (decide (y.fSpan.fTo ≤ z.fSpan.fTo)) = true from decide_eq_true (by omega)]; rfl)) | skip)
inductive Desc (l : List api_Slice) (j : Int) : Int → Prop
 | self : Desc l j j
 | up {a : Int} {y : api_Slice} : 0 ≤ a → l[a.toNat]? = some y → Desc l j y.fParent → Desc l j a
theorem Desc.le {l : List api_Slice} (hu : Up l l.length) {j a : Int} (h : Desc l j a) : j ≤ a := by
 induction h with
 | self => omega
 | up h0 hy _ ih =>
  have := hu _ _ (by have := lt_of_get hy; omega) hy
  omega
theorem Desc.step {l : List api_Slice} {j a : Int} {y : api_Slice} (h0 : 0 ≤ a) (hy : l[a.toNat]? = some y) (hne : j ≠ a) : Desc l j a ↔ Desc l j y.fParent := by
 constructor
 ·intro h
  cases h with
  | self => exact absurd rfl hne
  | up _ hy' h => rw [hy] at hy'; cases hy'; exact h
 ·exact Desc.up h0 hy
theorem under_ok (l : List api_Slice) (h : l.length ≤ 9223372036854775807) (hu : Up l l.length) (j i : Int) (hj : 0 ≤ j) (hi : i < l.length) : Ok (slice_under l j i) (fun r => r = true ↔ Desc l j i) := by
 unfold slice_under
 refine ok_bindS (Q := InlR (fun _ => ¬ Desc l j i) (fun r => r = true ∧ Desc l j i)) (ok_loop (fun s : Int => s < l.length ∧ (Desc l j s ↔ Desc l j i)) (fun s : Int => (s + 1).toNat) (fun s hs => ?_) ⟨hi, Iff.rfl⟩ (by simp [manyRounds]; omega)) (fun _ hq => ok_some ⟨fun e => by simp at e, fun e => absurd e hq⟩) (fun r hr => ok_some ⟨fun _ => hr.2, fun _ => hr.1⟩)
 obtain ⟨h1, h2⟩ := hs
 unfold slice_under_L1
 refine ok_ite (fun h0 => ?_) (fun h0 => ok_inr (fun e => ?_))
 ·refine ok_ite (fun e => ok_inr ⟨rfl, h2.1 (e ▸ Desc.self)⟩) (fun hne => ?_)
  refine ok_bind (ok_idx h0 h1) (fun y hy => ?_)
  have := hu s.toNat y (by omega) hy
  exact ok_inl ⟨⟨by omega, (Desc.step h0 hy hne).symm.trans h2⟩, by omega⟩
 ·have := (h2.2 e).le hu; omega
theorem above_ok (l : List api_Slice) (h : l.length ≤ 9223372036854775807) (hu : Up l l.length) (j i : Int) (hj : 0 ≤ j) (hi : i < l.length) : Ok (tracebookref26_above l j i) (fun r => r = true ↔ Desc l j i) := by
 unfold tracebookref26_above
 refine ok_bind (Q := fun a => (Desc l j a ↔ Desc l j i) ∧ a ≤ j) (ok_loop (fun s : Int => s < l.length ∧ (Desc l j s ↔ Desc l j i)) (fun s : Int => (s + 1).toNat) (fun s hs => ?_) ⟨hi, Iff.rfl⟩ (by simp [manyRounds]; omega)) (fun a ha => ok_some ?_)
 ·obtain ⟨h1, h2⟩ := hs
  unfold tracebookref26_above_L1
  refine ok_bind (Q := fun v => (v = true ↔ 0 ≤ s ∧ j < s)) ?_ (fun v hv => ?_)
  ·by_cases g1 : 0 ≤ s <;> by_cases g2 : j < s <;> simp [g1, g2, Ok]
  ·refine ok_cond (fun e => ?_) (fun e => ok_inr ⟨h2, ?_⟩)
   ·obtain ⟨h0, hlt⟩ := hv.1 e
    refine ok_bind (ok_idx h0 h1) (fun y hy => ?_)
    have := hu s.toNat y (by omega) hy
    exact ok_inl ⟨⟨by omega, (Desc.step h0 hy (by omega)).symm.trans h2⟩, by omega⟩
   ·have : ¬ (0 ≤ s ∧ j < s) := fun hh => by have := hv.2 hh; simp [e] at this
    omega
 ·rw [← ha.1]
  constructor
  ·intro e
   rw [← of_decide_eq_true e]
   exact Desc.self
  ·intro hd
   have := hd.le hu
   exact decide_eq_true (by omega)
def sumTo (l : List api_Slice) (i s0 : Int) : Nat → Int
 | 0 => s0
 | n + 1 => match l[n]? with
  | some z => if z.fParent = i then w64 (sumTo l i s0 n - w64 (z.fSpan.fTo - z.fSpan.fFrom)) else sumTo l i s0 n
  | none => sumTo l i s0 n
def Bad (l : List api_Slice) (j i : Int) (z y : api_Slice) : Prop := z.fThread = y.fThread ∧ y.fSpan.fFrom < z.fSpan.fTo ∧ z.fSpan.fFrom < y.fSpan.fTo ∧ ¬ Desc l j i
def Apart (l : List api_Slice) : Prop := ∀ (i : Nat) y, l[i]? = some y → y.fSelf = sumTo l i (w64 (y.fSpan.fTo - y.fSpan.fFrom)) l.length ∧ ∀ (j : Nat) z, j < i → l[j]? = some z → ¬ Bad l j i z y
def Apart' (l : List api_Slice) : Prop := ∀ (i : Nat) y, l[i]? = some y → y.fSelf = sumTo l i (w64 (y.fSpan.fTo - y.fSpan.fFrom)) l.length ∧ ∀ (j : Nat) z, i < j → l[j]? = some z → ¬ Bad l i j y z
theorem apart_iff (l : List api_Slice) : Apart l ↔ Apart' l := by
 constructor
 ·intro h i y hy
  exact ⟨(h i y hy).1, fun j z hj hz => (h j z hz).2 i y hj hy⟩
 ·intro h i y hy
  exact ⟨(h i y hy).1, fun j z hj hz => (h j z hz).2 i y hj hy⟩
theorem sumTo_step {l : List api_Slice} {i s0 : Int} {n : Nat} {z : api_Slice} (hz : l[n]? = some z) : Ok (bif decide (z.fParent = i) then some (w64 (sumTo l i s0 n - w64 (z.fSpan.fTo - z.fSpan.fFrom))) else some (sumTo l i s0 n)) (fun v => v = sumTo l i s0 (n + 1)) := by
 refine ok_ite (fun e => ok_some ?_) (fun e => ok_some ?_) <;> simp [sumTo, hz, e]
theorem ok_up2N {σ ρ : Type} {step : σ × Int → Option ((σ × Int) ⊕ ρ)} (n : Nat) (Inv : σ → Nat → Prop) {Post : ρ → Prop} (hn : n ≤ 9223372036854775807) {s0 : σ} (h0 : Inv s0 0)
  (h : ∀ (s : σ) (i : Nat), Inv s i → i ≤ n → Ok (step (s, (i : Int))) (InlR (fun a => i < n ∧ a.2 = ((i + 1 : Nat) : Int) ∧ Inv a.1 (i + 1)) Post)) : Ok (loop step (s0, 0)) Post := by
 refine ok_up2 n (fun s i => Inv s i.toNat) hn h0 (fun s i hI h1 h2 => ?_)
 obtain ⟨k, rfl⟩ := Int.eq_ofNat_of_zero_le h1
 refine (h s k hI (by omega)).mono ?_
 rintro (⟨a, b⟩ | b) hr
 ·obtain ⟨h3, h4, h5⟩ : k < n ∧ b = ((k + 1 : Nat) : Int) ∧ Inv a (k + 1) := hr
  refine ⟨by omega, by omega, ?_⟩
  rw [show ((k : Int) + 1).toNat = k + 1 by omega]; exact h5
 ·exact hr
theorem ok_upN {ρ : Type} {step : Int → Option (Int ⊕ ρ)} (n : Nat) (Inv : Nat → Prop) {Post : ρ → Prop} (hn : n ≤ 9223372036854775807) (h0 : Inv 0)
  (h : ∀ i : Nat, Inv i → i ≤ n → Ok (step (i : Int)) (InlR (fun a => i < n ∧ a = ((i + 1 : Nat) : Int) ∧ Inv (i + 1)) Post)) : Ok (loop step 0) Post := by
 refine ok_upI n (fun i => Inv i.toNat) hn h0 (fun i hI h1 h2 => ?_)
 obtain ⟨k, rfl⟩ := Int.eq_ofNat_of_zero_le h1
 refine (h k hI (by omega)).mono ?_
 rintro (b | b) hr
 ·obtain ⟨h3, h4, h5⟩ : k < n ∧ b = ((k + 1 : Nat) : Int) ∧ Inv (k + 1) := hr
  refine ⟨by omega, by omega, ?_⟩
  rw [show ((k : Int) + 1).toNat = k + 1 by omega]; exact h5
 ·exact hr
theorem ok_ixN {α : Type} {xs : List α} {i : Nat} (h : i < xs.length) : Ok (idx xs (i : Int)) (fun y => xs[i]? = some y) := by
 rw [idx_nat]; exact ⟨xs[i], by simp [h], by simp [h]⟩
theorem w64_N {i n : Nat} (h : i < n) (hn : n ≤ 9223372036854775807) : w64 ((i : Int) + 1) = ((i + 1 : Nat) : Int) := by rw [w64_of (by omega)]; omega
theorem apart_ok (l : List api_Slice) (h : l.length ≤ 9223372036854775807) (hu : Up l l.length) : Ok (slice_apart l) (fun b => b = true ↔ Apart l) := by
 unfold slice_apart
 let A : Nat → Prop := fun n => ∀ (i : Nat) y, i < n → l[i]? = some y → y.fSelf = sumTo l i (w64 (y.fSpan.fTo - y.fSpan.fFrom)) l.length ∧ ∀ (j : Nat) z, j < i → l[j]? = some z → ¬ Bad l j i z y
 refine ok_bindS (Q := InlR (fun _ => Apart l) (fun b => b = false ∧ ¬ Apart l)) (ok_upN l.length A h (by intro i y hi; omega) (fun i hI h2 => ?_)) (fun _ hq => ok_some ⟨fun _ => hq, fun _ => rfl⟩) (fun r hr => ok_some ⟨fun e => by rw [hr.1] at e; simp at e, fun e => absurd e hr.2⟩)
 unfold slice_apart_L2
 refine ok_ite (fun hi => ?_) (fun hi => ok_inr (fun i' y hy => hI i' y (by have := lt_of_get hy; omega) hy))
 refine ok_bind (ok_ixN (by omega)) (fun y hy => ?_)
 refine ok_bindS (Q := InlR (fun e => e = sumTo l i (w64 (y.fSpan.fTo - y.fSpan.fFrom)) l.length ∧ ∀ (j : Nat) z, j < i → l[j]? = some z → ¬ Bad l j i z y) (InlR (fun _ => False) (fun r => r = .inr false ∧ ¬ Apart l))) (ok_up2N l.length (fun a n => a = sumTo l i (w64 (y.fSpan.fTo - y.fSpan.fFrom)) n ∧ ∀ (j : Nat) z, j < n → j < i → l[j]? = some z → ¬ Bad l j i z y) h ⟨rfl, by intro j z hj; omega⟩ (fun a j hJ h4 => ?_)) (fun e he => ?_) (fun r hr => ?_)
 ·unfold slice_apart_L1
  dsimp only
  refine ok_ite (fun hj => ?_) (fun hj => ok_inr ⟨?_, fun j' z hj' hz => hJ.2 j' z (by have := lt_of_get hz; omega) hj' hz⟩)
  ·refine ok_bind (ok_ixN (by omega)) (fun z hz => ?_)
   rw [hJ.1]
   refine ok_bind (sumTo_step hz) (fun v hv => ?_)
   refine ok_bind (Q := fun b => b = true ↔ (j < i ∧ Bad l j i z y)) ?_ (fun b hb => ?_)
   ·refine ok_ite (fun h5 => ?_) (fun h5 => ok_some ⟨fun e => by simp at e, fun e => absurd e.1 (by omega)⟩)
    refine ok_ite (fun h6 => ?_) (fun h6 => ok_some ⟨fun e => by simp at e, fun e => absurd e.2.1 h6⟩)
    refine ok_ite (fun h7 => ?_) (fun h7 => ok_some ⟨fun e => by simp at e, fun e => absurd e.2.2.1 h7⟩)
    refine ok_ite (fun h8 => ?_) (fun h8 => ok_some ⟨fun e => by simp at e, fun e => absurd e.2.2.2.1 h8⟩)
    refine ok_bind (under_ok l h hu j i (by omega) (by omega)) (fun r hr => ok_some ?_)
    constructor
    ·intro e
     refine ⟨by omega, h6, h7, h8, fun hd => ?_⟩
     rw [hr.2 hd] at e; simp at e
    ·intro e
     cases r with
     | false => rfl
     | true => exact absurd (hr.1 rfl) e.2.2.2.2
   ·refine ok_cond (fun e => ok_inr ⟨rfl, fun hA => ?_⟩) (fun e => ?_)
    ·obtain ⟨g1, g2⟩ := hb.1 e
     exact (hA i y hy).2 j z g1 hz g2
    ·rw [w64_N (n := l.length) (by omega) h]
     refine ok_inl ⟨by omega, rfl, hv, fun j' z' hj' hji hz' hbad => ?_⟩
     by_cases e2 : j' = j
     ·subst e2; rw [hz] at hz'; cases hz'
      rw [hb.2 ⟨hji, hbad⟩] at e; simp at e
     ·exact hJ.2 j' z' (by omega) hji hz' hbad
  ·rw [hJ.1, show j = l.length by omega]
 ·dsimp only
  refine ok_nite (fun hne => ok_inr ⟨rfl, fun hA => hne ((hA i y hy).1.trans he.1.symm)⟩) (fun heq => ?_)
  rw [w64_N (n := l.length) (by omega) h]
  refine ok_inl ⟨by omega, rfl, fun i' y' hi' hy' => ?_⟩
  by_cases e2 : i' = i
  ·subst e2; rw [hy] at hy'; cases hy'
   exact ⟨heq.trans he.1, he.2⟩
  ·exact hI i' y' (by omega) hy'
 ·rcases r with r | r
  ·exact (hr : False).elim
  ·obtain ⟨e1, e2⟩ : r = .inr false ∧ ¬ Apart l := hr
   subst e1
   exact ok_inr ⟨rfl, e2⟩
theorem formed_ok (l : List api_Slice) (h : l.length ≤ 9223372036854775807) (hu : Up l l.length) : Ok (loop (tracebookref26_formed_L2 l) 0) (fun q => (∃ u, q = .inl u ∧ Apart' l) ∨ (q = .inr false ∧ ¬ Apart' l)) := by
 let A : Nat → Prop := fun n => ∀ (i : Nat) y, i < n → l[i]? = some y → y.fSelf = sumTo l i (w64 (y.fSpan.fTo - y.fSpan.fFrom)) l.length ∧ ∀ (j : Nat) z, i < j → l[j]? = some z → ¬ Bad l i j y z
 refine ok_upN l.length A h (by intro i y hi; omega) (fun i hI h2 => ?_)
 unfold tracebookref26_formed_L2
 refine ok_ite (fun hi => ?_) (fun hi => ok_inr (.inl ⟨(), rfl, fun i' y hy => hI i' y (by have := lt_of_get hy; omega) hy⟩))
 obtain ⟨y, hiy, hy⟩ := ok_ixN (xs := l) (i := i) (by omega)
 simp only [hiy, Option.bind_some]
 refine ok_bindS (Q := InlR (fun e => e = sumTo l i (w64 (y.fSpan.fTo - y.fSpan.fFrom)) l.length ∧ ∀ (j : Nat) z, i < j → l[j]? = some z → ¬ Bad l i j y z) (InlR (fun _ => False) (fun r => r = .inr false ∧ ¬ Apart' l))) (ok_up2N l.length (fun a n => a = sumTo l i (w64 (y.fSpan.fTo - y.fSpan.fFrom)) n ∧ ∀ (j : Nat) z, j < n → i < j → l[j]? = some z → ¬ Bad l i j y z) h ⟨rfl, by intro j z hj; omega⟩ (fun a j hJ h4 => ?_)) (fun e he => ?_) (fun r hr => ?_)
 ·unfold tracebookref26_formed_L1
  dsimp only
  refine ok_ite (fun hj => ?_) (fun hj => ok_inr ⟨?_, fun j' z hj' hz => hJ.2 j' z (by have := lt_of_get hz; omega) hj' hz⟩)
  ·obtain ⟨z, hjz, hz⟩ := ok_ixN (xs := l) (i := j) (by omega)
   simp only [hjz, hiy, Option.bind_some]
   rw [hJ.1]
   refine ok_bind (sumTo_step hz) (fun v hv => ?_)
   refine ok_bind (Q := fun b => b = true ↔ (y.fSpan.fFrom < z.fSpan.fTo ∧ z.fSpan.fFrom < y.fSpan.fTo)) ?_ (fun v9 hv9 => ?_)
   ·by_cases g1 : y.fSpan.fFrom < z.fSpan.fTo <;> by_cases g2 : z.fSpan.fFrom < y.fSpan.fTo <;> simp [g1, g2, Ok]
   refine ok_bind (Q := fun b => b = true ↔ (i < j ∧ Bad l i j y z)) ?_ (fun b hb => ?_)
   ·refine ok_ite (fun h5 => ?_) (fun h5 => ok_some ⟨fun e => by simp at e, fun e => absurd e.1 (by omega)⟩)
    refine ok_ite (fun h6 => ?_) (fun h6 => ok_some ⟨fun e => by simp at e, fun e => absurd e.2.1 h6⟩)
    refine ok_cond (fun h7 => ?_) (fun h7 => ok_some ⟨fun e => by simp at e, fun e => ?_⟩)
    ·refine ok_bind (above_ok l h hu i j (by omega) (by omega)) (fun r hr => ok_some ?_)
     have h8 := hv9.1 h7
     constructor
     ·intro e
      refine ⟨by omega, h6, h8.2, h8.1, fun hd => ?_⟩
      rw [hr.2 hd] at e; simp at e
     ·intro e
      cases r with
      | false => rfl
      | true => exact absurd (hr.1 rfl) e.2.2.2.2
    ·have := hv9.2 ⟨e.2.2.2.1, e.2.2.1⟩
     rw [h7] at this; simp at this
   ·refine ok_cond (fun e => ok_inr ⟨rfl, fun hA => ?_⟩) (fun e => ?_)
    ·obtain ⟨g1, g2⟩ := hb.1 e
     exact (hA i y hy).2 j z g1 hz g2
    ·rw [w64_N (n := l.length) (by omega) h]
     refine ok_inl ⟨by omega, rfl, hv, fun j' z' hj' hji hz' hbad => ?_⟩
     by_cases e2 : j' = j
     ·subst e2; rw [hz] at hz'; cases hz'
      rw [hb.2 ⟨hji, hbad⟩] at e; simp at e
     ·exact hJ.2 j' z' (by omega) hji hz' hbad
  ·rw [hJ.1, show j = l.length by omega]
 ·dsimp only
  refine ok_nite (fun hne => ok_inr (.inr ⟨rfl, fun hA => hne ((hA i y hy).1.trans he.1.symm)⟩)) (fun heq => ?_)
  rw [w64_N (n := l.length) (by omega) h]
  refine ok_inl ⟨by omega, rfl, fun i' y' hi' hy' => ?_⟩
  by_cases e2 : i' = i
  ·subst e2; rw [hy] at hy'; cases hy'
   exact ⟨heq.trans he.1, he.2⟩
  ·exact hI i' y' (by omega) hy'
 ·rcases r with r | r
  ·exact (hr : False).elim
  ·obtain ⟨e1, e2⟩ : r = .inr false ∧ ¬ Apart' l := hr
   subst e1
   exact ok_inr (.inr ⟨rfl, e2⟩)
theorem nested_res {l : List api_Slice} {q : Unit ⊕ Bool} (h : loop (slice_nested_L1 l) 0 = some q) : ∀ x, q = .inr x → x = false := by
 refine loop_res (Q := fun q : Unit ⊕ Bool => ∀ x, q = .inr x → x = false) (fun i r hr => ?_) h
 unfold slice_nested_L1 at hr
 cases h1 : decide (i < (l.length : Int)) with
 | false => rw [h1] at hr; simp at hr; subst hr; intro x hx; cases hx
 | true =>
  rw [h1] at hr
  simp only [cond_true] at hr
  obtain ⟨y, _, hr⟩ := bB hr
  obtain ⟨v, _, hr⟩ := bB hr
  cases v
  ·simp only [cond_false] at hr
   cases h2 : decide (y.fParent = -1) with
   | true =>
    rw [h2] at hr
    simp only [cond_true] at hr
    cases h3 : decide (y.fDepth = 0) <;> simp [h3] at hr
    subst hr; intro x hx; cases hx; rfl
   | false =>
    rw [h2] at hr
    simp only [cond_false] at hr
    obtain ⟨z, _, hr⟩ := bB hr
    obtain ⟨w, _, hr⟩ := bB hr
    cases w <;> simp at hr
    subst hr; intro x hx; cases hx; rfl
  ·simp at hr; subst hr; intro x hx; cases hx; rfl
theorem slice_L1_eq (l : List api_Slice) : slice_Check_L1 l = tracebookref26_Check_L1 l := by
 funext i
 unfold slice_Check_L1 tracebookref26_Check_L1
 cases e : idx l i with
 | none => rfl
 | some y =>
  simp only [Option.bind_some, ← Name_eq, Valid_eq]
  congr 1
  congr 1
  funext v53
  congr 1
  congr 1
  funext r54
  congr 1
  have e4 : (bif decide (0 < i) then (idx l (w64 (i - 1))).bind fun y58 => (slice_compare y58 y).bind fun r59 => some (decide (0 < r59)) else some false) = (bif decide (0 < i) then (idx l (w64 (i - 1))).bind fun y68 => (tracebookref26_Precedes y y68).bind fun r69 => some r69 else some false) := by
   congr 1
   congr 1
   funext p
   obtain ⟨c, h1, h2⟩ := compare_eq p y
   rw [h1, h2]; rfl
  rw [e4]
theorem slice_eq (l : List api_Slice) (h : l.length ≤ 9223372036854775807) : slice_Check l = tracebookref26_Check l := by
 unfold slice_Check tracebookref26_Check
 rw [slice_L1_eq]
 congr 1
 funext q
 cases q with
 | inr x => rfl
 | inl u =>
  obtain ⟨b, hb, hUp⟩ := slice_nested_ok l h
  dsimp only
  rw [hb, Option.bind_some]
  unfold slice_nested at hb
  unfold tracebookref26_formed
  rw [← nested_step]
  obtain ⟨q, hq, hb⟩ := bB hb
  rw [hq, Option.bind_some]
  cases q with
  | inr x =>
   have := nested_res hq x rfl
   subst this
   simp at hb; subst hb
   rfl
  | inl u' =>
   simp at hb; subst hb
   have hu := hUp rfl
   obtain ⟨b1, h1, h2⟩ := apart_ok l h hu
   obtain ⟨q2, h3, h4⟩ := formed_ok l h hu
   simp only [h1, h3, Option.bind_some, Bool.not_true, cond_false]
   rcases h4 with ⟨u2, rfl, h5⟩ | ⟨rfl, h5⟩
   ·rw [h2.2 ((apart_iff l).2 h5)]; rfl
   ·cases b1
    ·rfl
    ·exact absurd ((apart_iff l).1 (h2.1 rfl)) h5
theorem ok_up2M {σ ρ : Type} {step : σ × Int → Option ((σ × Int) ⊕ ρ)} (n : Nat) (Inv : σ → Nat → Prop) {Post : ρ → Prop} (hn : n ≤ 9223372036854775807) {s0 : σ} (h0 : Inv s0 0)
  (h : ∀ (s : σ) (i : Nat), Inv s i → i ≤ n → Ok (step (s, (i : Int))) (InlR (fun a => i < n ∧ a.2 = ((i + 1 : Nat) : Int) ∧ Inv a.1 (i + 1)) Post)) : Ok (loop step (s0, 0)) Post := by
 refine ok_up2 n (fun s i => Inv s i.toNat) hn h0 (fun s i hI h1 h2 => ?_)
 obtain ⟨k, rfl⟩ := Int.eq_ofNat_of_zero_le h1
 refine (h s k hI (by omega)).mono ?_
 rintro (⟨a, b⟩ | b) hr
 ·obtain ⟨h3, h4, h5⟩ : k < n ∧ b = ((k + 1 : Nat) : Int) ∧ Inv a (k + 1) := hr
  refine ⟨by omega, by omega, ?_⟩
  rw [show ((k : Int) + 1).toNat = k + 1 by omega]; exact h5
 ·exact hr
theorem ok_upM {ρ : Type} {step : Int → Option (Int ⊕ ρ)} (n : Nat) (Inv : Nat → Prop) {Post : ρ → Prop} (hn : n ≤ 9223372036854775807) (h0 : Inv 0)
  (h : ∀ i : Nat, Inv i → i ≤ n → Ok (step (i : Int)) (InlR (fun a => i < n ∧ a = ((i + 1 : Nat) : Int) ∧ Inv (i + 1)) Post)) : Ok (loop step 0) Post := by
 refine ok_upI n (fun i => Inv i.toNat) hn h0 (fun i hI h1 h2 => ?_)
 obtain ⟨k, rfl⟩ := Int.eq_ofNat_of_zero_le h1
 refine (h k hI (by omega)).mono ?_
 rintro (b | b) hr
 ·obtain ⟨h3, h4, h5⟩ : k < n ∧ b = ((k + 1 : Nat) : Int) ∧ Inv (k + 1) := hr
  refine ⟨by omega, by omega, ?_⟩
  rw [show ((k : Int) + 1).toNat = k + 1 by omega]; exact h5
 ·exact hr
theorem ok_ixM {α : Type} {xs : List α} {i : Nat} (h : i < xs.length) : Ok (idx xs (i : Int)) (fun y => xs[i]? = some y) := by
 rw [idx_nat]; exact ⟨xs[i], by simp [h], by simp [h]⟩
theorem w64_M {i n : Nat} (h : i < n) (hn : n ≤ 9223372036854775807) : w64 ((i : Int) + 1) = ((i + 1 : Nat) : Int) := by rw [w64_of (by omega)]; omega
def SpV (l : List api_Slice) : Prop := ∀ s ∈ l, 0 ≤ s.fSpan.fFrom ∧ s.fSpan.fFrom < s.fSpan.fTo ∧ s.fSpan.fTo ≤ 1000000000000
theorem slice_Check_v (l : List api_Slice) (h : l.length ≤ 9223372036854775807) (hx : ∀ x ∈ l, okN x.fName) : Ok (slice_Check l) (fun r => r = 0 → SpV l) := by
 unfold slice_Check
 refine ok_bindS (Q := InlR (fun _ => SpV l) (fun r => r ≠ 0)) (ok_upM l.length (fun n => ∀ (k : Nat) s, k < n → l[k]? = some s → 0 ≤ s.fSpan.fFrom ∧ s.fSpan.fFrom < s.fSpan.fTo ∧ s.fSpan.fTo ≤ 1000000000000) h (by intro k s hk; omega) (fun i hI h2 => ?_)) (fun _ hq => ?_) (fun r hr => ok_some (fun e => absurd e hr))
 ·unfold slice_Check_L1
  refine ok_ite (fun hi => ?_) (fun hi => ok_inr (fun s hs => ?_))
  ·refine ok_bind (ok_ixM (by omega)) (fun y hy => ?_)
   refine ok_bind (Q := fun v => v = false → 0 ≤ y.fSpan.fFrom ∧ y.fSpan.fFrom < y.fSpan.fTo ∧ y.fSpan.fTo ≤ 1000000000000) ?_ (fun v hv => ?_)
   ·refine ok_ite (fun _ => ok_some (by simp)) (fun _ => ?_)
    refine ok_ite (fun _ => ok_some (by simp)) (fun _ => ?_)
    refine ok_bind (spans_Valid_val y.fSpan) (fun b hb => ok_some (fun e => hb (by simpa using e)))
   refine ok_cond (fun _ => ok_inr (show (2 : Int) ≠ 0 by omega)) (fun e => ?_)
   refine ok_bind (intern_Name_ok _ (hx _ (List.mem_of_getElem? hy))) (fun r _ => ?_)
   refine ok_nite (fun h0 => ok_inr h0) (fun _ => ?_)
   refine ok_bind (Q := Yes) ?_ (fun v2 _ => ?_)
   ·refine ok_ite (fun h0 => ?_) (fun _ => ok_yes)
    rw [show w64 ((i : Int) - 1) = (i : Int) - 1 from w64_of (by omega)]
    refine ok_bind (ok_idx (by omega) (by omega)) (fun z _ => ?_)
    exact ok_bind (slice_compare_ok _ _) (fun _ _ => ok_yes)
   refine ok_cond (fun _ => ok_inr (show (11 : Int) ≠ 0 by omega)) (fun _ => ?_)
   rw [w64_M (n := l.length) (by omega) h]
   refine ok_inl ⟨by omega, rfl, fun k s hk hs => ?_⟩
   by_cases e2 : k = i
   ·subst e2; rw [hy] at hs; cases hs; exact hv e
   ·exact hI k s (by omega) hs
  ·obtain ⟨k, hk⟩ := List.getElem?_of_mem hs
   exact hI k s (by have := lt_of_get hk; omega) hk
 ·have hq' : SpV l := hq
  dsimp only
  refine ok_bind (Q := Yes) ?_ (fun v _ => ok_cond (fun _ => ok_some (fun e => by simp at e)) (fun _ => ok_some (fun _ => hq')))
  refine ok_bind (slice_nested_ok l h) (fun b hb => ?_)
  refine ok_not (fun _ => ok_yes) (fun e => ?_)
  exact ok_bind (slice_apart_ok l h (hb e)) (fun _ _ => ok_yes)
theorem siz26 {l : List api_Slice} (h : okr_L_api_Slice l) : l.length ≤ 140737488351232 ∧ ∀ x ∈ l, okN x.fName := by
 have e : reachBytes = 140737488351232 := by decide
 unfold okr_L_api_Slice okL at h
 rw [e] at h
 refine ⟨h.1, fun x hx => ?_⟩
 have := (h.2 x hx).2.2.2.1
 rw [e] at this
 unfold okN; omega
theorem lives26_eq : tracebooklaw26_lives = some true := rfl
def NestAt (l : List api_Slice) (i : Nat) (y : api_Slice) : Prop :=
 (y.fParent = -1 ∧ y.fDepth = 0) ∨ ∃ p z, y.fParent = ((p : Nat) : Int) ∧ p < i ∧ l[p]? = some z ∧ z.fThread = y.fThread ∧ z.fSpan.fFrom ≤ y.fSpan.fFrom ∧ y.fSpan.fTo ≤ z.fSpan.fTo ∧ y.fDepth = w64 (z.fDepth + 1)
def Nest (l : List api_Slice) : Prop := ∀ (i : Nat) y, l[i]? = some y → NestAt l i y
theorem nested_v (l : List api_Slice) (h : l.length ≤ 9223372036854775807) : Ok (slice_nested l) (fun b => b = true → Nest l) := by
 unfold slice_nested
 refine ok_bindS (Q := InlR (fun _ => Nest l) (fun b => b = false)) (ok_upM l.length (fun n => ∀ (k : Nat) y, k < n → l[k]? = some y → NestAt l k y) h (by intro k y hk; omega) (fun i hI h2 => ?_)) (fun _ hq => ok_some (fun _ => hq)) (fun r hr => ok_some (fun e => ?_))
 ·unfold slice_nested_L1
  refine ok_ite (fun hi => ?_) (fun hi => ok_inr (fun k y hy => hI k y (by have := lt_of_get hy; omega) hy))
  refine ok_bind (ok_ixM (by omega)) (fun y hy => ?_)
  have no : InlR (fun _ : Unit => Nest l) (fun b => b = false) (.inr false) := rfl
  have nx : NestAt l i y → Ok (some (.inl (w64 ((i : Int) + 1)))) (InlR (fun a => i < l.length ∧ a = ((i + 1 : Nat) : Int) ∧ ∀ (k : Nat) y, k < i + 1 → l[k]? = some y → NestAt l k y) (InlR (fun _ : Unit => Nest l) (fun b => b = false))) := by
   intro hn
   rw [w64_M (n := l.length) (by omega) h]
   refine ok_inl ⟨by omega, rfl, fun k z hk hz => ?_⟩
   by_cases e : k = i
   ·subst e; rw [hy] at hz; cases hz; exact hn
   ·exact hI k z (by omega) hz
  refine ok_bind (Q := fun v => v = false → -1 ≤ y.fParent ∧ y.fParent < i) ?_ (fun v hv => ?_)
  ·refine ok_ite (fun _ => ok_some (by simp)) (fun h3 => ok_some (fun h4 => ?_))
   have := of_decide_eq_false h4
   omega
  refine ok_cond (fun _ => ok_inr no) (fun h0 => ?_)
  have hp := hv h0
  refine ok_ite (fun e1 => ?_) (fun hne => ?_)
  ·refine ok_nite (fun _ => ok_inr no) (fun e2 => nx (.inl ⟨e1, e2⟩))
  ·obtain ⟨p, hpe⟩ := Int.eq_ofNat_of_zero_le (show 0 ≤ y.fParent by omega)
   rw [hpe]
   refine ok_bind (ok_ixM (by omega)) (fun z hz => ?_)
   refine ok_bind (Q := fun v => v = false → z.fThread = y.fThread ∧ z.fSpan.fFrom ≤ y.fSpan.fFrom ∧ y.fSpan.fTo ≤ z.fSpan.fTo ∧ y.fDepth = w64 (z.fDepth + 1)) ?_ (fun v hv => ?_)
   ·refine ok_nite (fun _ => ok_some (by simp)) (fun g1 => ?_)
    refine ok_ite (fun _ => ok_some (by simp)) (fun g2 => ?_)
    refine ok_ite (fun _ => ok_some (by simp)) (fun g3 => ok_some (fun g4 => ?_))
    exact ⟨g1, by omega, by omega, by simpa using g4⟩
   refine ok_cond (fun _ => ok_inr no) (fun e => nx (.inr ⟨p, z, hpe, by omega, hz, hv e⟩))
 ·have : r = false := hr
  simp [this] at e
structure Val (l : List api_Slice) : Prop where
 sp : SpV l
 th : ∀ s ∈ l, 0 ≤ s.fThread ∧ s.fThread ≤ 1000000000000000
 nest : Nest l
 apart : Apart l
theorem Nest.up {l : List api_Slice} (h : Nest l) : Up l l.length := by
 intro j y hj hy
 rcases h j y hy with ⟨e, _⟩ | ⟨p, z, e, hp, _⟩ <;> omega
theorem Check_val (l : List api_Slice) (h : l.length ≤ 9223372036854775807) (hx : ∀ x ∈ l, okN x.fName) : Ok (slice_Check l) (fun r => r = 0 → Val l) := by
 obtain ⟨r, hr, hsp⟩ := slice_Check_v l h hx
 refine ⟨r, hr, fun e => ?_⟩
 subst e
 have key : Ok (slice_Check l) (fun r => r = 0 → (∀ s ∈ l, 0 ≤ s.fThread ∧ s.fThread ≤ 1000000000000000) ∧ Nest l ∧ Apart l) := by
  unfold slice_Check
  refine ok_bindS (Q := InlR (fun _ => ∀ s ∈ l, 0 ≤ s.fThread ∧ s.fThread ≤ 1000000000000000) (fun r => r ≠ 0)) (ok_upM l.length (fun n => ∀ (k : Nat) s, k < n → l[k]? = some s → 0 ≤ s.fThread ∧ s.fThread ≤ 1000000000000000) h (by intro k s hk; omega) (fun i hI h2 => ?_)) (fun _ hq => ?_) (fun r hr => ok_some (fun e => absurd e hr))
  ·unfold slice_Check_L1
   refine ok_ite (fun hi => ?_) (fun hi => ok_inr (fun s hs => ?_))
   ·refine ok_bind (ok_ixM (by omega)) (fun y hy => ?_)
    refine ok_bind (Q := fun v => v = false → 0 ≤ y.fThread ∧ y.fThread ≤ 1000000000000000) ?_ (fun v hv => ?_)
    ·refine ok_ite (fun _ => ok_some (by simp)) (fun g1 => ?_)
     refine ok_ite (fun _ => ok_some (by simp)) (fun g2 => ?_)
     exact ok_bind (spans_Valid_ok y.fSpan) (fun b _ => ok_some (fun _ => ⟨by omega, by omega⟩))
    refine ok_cond (fun _ => ok_inr (show (2 : Int) ≠ 0 by omega)) (fun e => ?_)
    refine ok_bind (intern_Name_ok _ (hx _ (List.mem_of_getElem? hy))) (fun r _ => ?_)
    refine ok_nite (fun h0 => ok_inr h0) (fun _ => ?_)
    refine ok_bind (Q := Yes) ?_ (fun v2 _ => ?_)
    ·refine ok_ite (fun h0 => ?_) (fun _ => ok_yes)
     rw [show w64 ((i : Int) - 1) = (i : Int) - 1 from w64_of (by omega)]
     refine ok_bind (ok_idx (by omega) (by omega)) (fun z _ => ?_)
     exact ok_bind (slice_compare_ok _ _) (fun _ _ => ok_yes)
    refine ok_cond (fun _ => ok_inr (show (11 : Int) ≠ 0 by omega)) (fun _ => ?_)
    rw [w64_M (n := l.length) (by omega) h]
    refine ok_inl ⟨by omega, rfl, fun k s hk hs => ?_⟩
    by_cases e2 : k = i
    ·subst e2; rw [hy] at hs; cases hs; exact hv e
    ·exact hI k s (by omega) hs
   ·obtain ⟨k, hk⟩ := List.getElem?_of_mem hs
    exact hI k s (by have := lt_of_get hk; omega) hk
  ·have hq' : ∀ s ∈ l, 0 ≤ s.fThread ∧ s.fThread ≤ 1000000000000000 := hq
   dsimp only
   refine ok_bind (Q := fun v => v = false → Nest l ∧ Apart l) ?_ (fun v hv => ok_cond (fun _ => ok_some (fun e => by simp at e)) (fun e => ok_some (fun _ => ⟨hq', hv e⟩)))
   refine ok_bind (nested_v l h) (fun b hb => ?_)
   refine ok_not (fun _ => ok_some (by simp)) (fun e => ?_)
   refine ok_bind (apart_ok l h (hb e).up) (fun b2 hb2 => ok_some (fun e2 => ⟨hb e, hb2.1 (by simpa using e2)⟩))
 obtain ⟨r', hr', h3⟩ := key
 rw [hr] at hr'; cases hr'
 exact ⟨hsp rfl, (h3 rfl).1, (h3 rfl).2.1, (h3 rfl).2.2⟩
theorem set_last {α : Type} (q : List α) (y z : α) : (q ++ [y]).set q.length z = q ++ [z] := by simp
theorem idx_last {α : Type} (q : List α) (y : α) : idx (q ++ [y]) (q.length : Int) = some y := by rw [idx_nat]; simp
def covT (t : Int) (s : api_Span) : Prop := s.fFrom ≤ t ∧ t < s.fTo
theorem valid_w {p : api_Span} (h0 : 0 ≤ p.fFrom) (h1 : p.fFrom < p.fTo) (h2 : p.fTo ≤ 1000000000000) : spans_Valid p = some true := by
 have : Ok (spans_Valid p) (fun r => r = true) := by
  unfold spans_Valid
  refine ok_bind (Q := fun v => v = true) ?_ (fun v hv => ok_some hv)
  exact ok_ite (fun _ => ok_ite (fun _ => ok_some (decide_eq_true h2)) (fun h => absurd h1 h)) (fun h => absurd h0 h)
 obtain ⟨r, g1, g2⟩ := this
 rw [g1, g2]
def ValS (p : api_Span) : Prop := 0 ≤ p.fFrom ∧ p.fFrom < p.fTo ∧ p.fTo ≤ 1000000000000
theorem lastQ {α : Type} (q : List α) (y : α) : (q ++ [y]).getLast? = some y := by simp
theorem Covers_p (R : List api_Span) (t : Int) (hl : R.length ≤ 9223372036854775807) (hv : ∀ s ∈ R, ValS s) : Ok (spans_Covers R t) (fun b => b = true ↔ ∃ s ∈ R, covT t s) := by
 unfold spans_Covers slices_ContainsFunc_api_Span_api_Span_k1
 refine ok_bind (ok_bind (Q := fun r => 0 ≤ r ↔ ∃ s ∈ R, covT t s) ?_ (fun r hr => ok_some (by rw [decide_eq_true_eq]; exact hr))) (fun b hb => ok_some hb)
 unfold slices_IndexFunc_api_Span_api_Span_k1
 refine ok_bindS (Q := InlR (fun _ => ¬ ∃ s ∈ R, covT t s) (fun r => 0 ≤ r ∧ ∃ s ∈ R, covT t s)) (ok_upN R.length (fun n => ∀ (k : Nat) s, k < n → R[k]? = some s → ¬ covT t s) hl (fun k s h => by omega) (fun i hI h2 => ?_)) (fun _ h => ok_some ⟨fun e => by omega, fun e => absurd e h⟩) (fun r hr => ok_some ⟨fun _ => hr.2, fun _ => hr.1⟩)
 unfold slices_IndexFunc_api_Span_api_Span_k1_L1
 refine ok_ite (fun hi => ?_) (fun hi => ok_inr (fun ⟨s, hs, ht⟩ => ?_))
 ·obtain ⟨y, hiy, hy⟩ := ok_ixN (xs := R) (i := i) (by omega)
  obtain ⟨v1, v2, v3⟩ := hv y (List.mem_of_getElem? hy)
  rw [hiy, Option.bind_some]
  refine ok_bind (Q := fun v => v = true ↔ covT t y) ?_ (fun v hv => ?_)
  ·unfold spans_Covers_1_k1
   rw [valid_w v1 v2 v3]
   simp only [Option.bind_some, cond_true]
   refine ok_bind (Q := fun v => v = true ↔ covT t y) ?_ (fun v hv => ok_some hv)
   refine ok_ite (fun h3 => ok_some ?_) (fun h3 => ok_some ⟨fun e => by simp at e, fun e => absurd e.1 h3⟩)
   rw [decide_eq_true_eq]
   exact ⟨fun e => ⟨h3, e⟩, fun e => e.2⟩
  refine ok_cond (fun h => ok_inr ⟨by omega, y, List.mem_of_getElem? hy, hv.1 h⟩) (fun h => ok_inl ⟨by omega, w64_N (n := R.length) (by omega) hl, fun k z hk hz => ?_⟩)
  by_cases e2 : k = i
  ·subst e2; rw [hy] at hz; cases hz
   exact fun hc => by rw [hv.2 hc] at h; simp at h
  ·exact hI k z (by omega) hz
 ·obtain ⟨k, hk⟩ := List.getElem?_of_mem hs
  exact hI k s (by have := lt_of_get hk; omega) hk ht
def sumF (f : Nat → Int) : Nat → Int
 | 0 => 0
 | n + 1 => sumF f n + f n
theorem sumF_congr {f g : Nat → Int} : ∀ {n : Nat}, (∀ k, k < n → f k = g k) → sumF f n = sumF g n
 | 0, _ => rfl
 | n + 1, h => by simp only [sumF]; rw [sumF_congr fun k hk => h k (by omega), h n (by omega)]
theorem sumF_add (f g : Nat → Int) : ∀ n, sumF (fun k => f k + g k) n = sumF f n + sumF g n
 | 0 => rfl
 | n + 1 => by simp only [sumF, sumF_add f g n]; omega
theorem sumF_sub (f g : Nat → Int) : ∀ n, sumF (fun k => f k - g k) n = sumF f n - sumF g n
 | 0 => rfl
 | n + 1 => by simp only [sumF, sumF_sub f g n]; omega
theorem sumF_zero : ∀ n, sumF (fun _ => 0) n = 0
 | 0 => rfl
 | n + 1 => by simp only [sumF, sumF_zero n]; rfl
theorem sumF_swap (g : Nat → Nat → Int) (m : Nat) : ∀ n, sumF (fun i => sumF (fun k => g i k) m) n = sumF (fun k => sumF (fun i => g i k) n) m
 | 0 => by simp only [sumF, sumF_zero]
 | n + 1 => by
  simp only [sumF]
  rw [sumF_swap g m n, ← sumF_add]
theorem sumF_one (j : Nat) (c : Int) : ∀ n, sumF (fun i => if i = j then c else 0) n = if j < n then c else 0
 | 0 => by simp [sumF]
 | n + 1 => by
  simp only [sumF, sumF_one j c n]
  by_cases h1 : j < n
  ·have h2 : ¬ n = j := by omega
   have h3 : j < n + 1 := by omega
   simp [h1, h2, h3]
  ·by_cases h2 : n = j
   ·subst h2; simp
   ·have h3 : ¬ j < n + 1 := by omega
    simp [h1, h2, h3]
theorem sumF_bd {f : Nat → Int} {c : Int} : ∀ {n : Nat}, (∀ k, k < n → 0 ≤ f k ∧ f k ≤ c) → 0 ≤ sumF f n ∧ sumF f n ≤ n * c
 | 0, _ => by simp [sumF]
 | n + 1, h => by
  obtain ⟨h1, h2⟩ := sumF_bd (f := f) (c := c) (n := n) fun k hk => h k (by omega)
  obtain ⟨h3, h4⟩ := h n (by omega)
  simp only [sumF]
  refine ⟨by omega, ?_⟩
  have : ((n + 1 : Nat) : Int) * c = n * c + c := by rw [Int.natCast_add, Int.add_mul]; simp
  omega
def mu (p : Nat → Bool) : Nat → Nat
 | 0 => 0
 | n + 1 => mu p n + (bif p n then 1 else 0)
theorem mu_congr {p q : Nat → Bool} : ∀ {n : Nat}, (∀ t, t < n → p t = q t) → mu p n = mu q n
 | 0, _ => rfl
 | n + 1, h => by simp only [mu]; rw [mu_congr fun k hk => h k (by omega), h n (by omega)]
theorem mu_le {p q : Nat → Bool} : ∀ {n : Nat}, (∀ t, t < n → p t = true → q t = true) → mu p n ≤ mu q n
 | 0, _ => Nat.le_refl _
 | n + 1, h => by
  have h1 := mu_le (n := n) fun k hk => h k (by omega)
  have h2 := h n (by omega)
  simp only [mu]
  cases hp : p n with
  | false => simp; omega
  | true => rw [h2 hp]; simp; omega
theorem mu_or {p q : Nat → Bool} : ∀ {n : Nat}, (∀ t, t < n → ¬ (p t = true ∧ q t = true)) → mu (fun t => p t || q t) n = mu p n + mu q n
 | 0, _ => rfl
 | n + 1, h => by
  have h1 := mu_or (n := n) fun k hk => h k (by omega)
  have h2 := h n (by omega)
  simp only [mu, h1]
  cases hp : p n <;> cases hq : q n <;> simp [hp, hq] at h2 ⊢ <;> omega
theorem mu_iv (a b : Nat) (hab : a ≤ b) : ∀ n, mu (fun t => decide (a ≤ t) && decide (t < b)) n = min b n - min a n
 | 0 => by simp [mu]
 | n + 1 => by
  simp only [mu, mu_iv a b hab n]
  by_cases h1 : a ≤ n <;> by_cases h2 : n < b <;> simp [h1, h2] <;> omega
theorem mu_false : ∀ n, mu (fun _ => false) n = 0
 | 0 => rfl
 | n + 1 => by simp only [mu, mu_false n]; rfl
theorem sumF_mu (P : Nat → Bool) (A B : Nat → Int) (N : Nat) : ∀ n, (∀ k, k < n → P k = true → 0 ≤ A k ∧ A k ≤ B k ∧ B k ≤ N) →
  (∀ j k, j < k → k < n → P j = true → P k = true → ∀ t : Int, ¬ ((A j ≤ t ∧ t < B j) ∧ (A k ≤ t ∧ t < B k))) →
  sumF (fun k => bif P k then B k - A k else 0) n = (mu (fun t => (List.range n).any fun k => P k && (decide (A k ≤ (t : Int)) && decide ((t : Int) < B k))) N : Nat)
 | 0, _, _ => by simp [sumF, mu_false]
 | n + 1, hv, hd => by
  have ih := sumF_mu P A B N n (fun k hk => hv k (by omega)) (fun j k hj hk => hd j k hj (by omega))
  simp only [sumF, ih]
  have e1 : ∀ t : Nat, ((List.range (n + 1)).any fun k => P k && (decide (A k ≤ (t : Int)) && decide ((t : Int) < B k))) = (((List.range n).any fun k => P k && (decide (A k ≤ (t : Int)) && decide ((t : Int) < B k))) || (P n && (decide (A n ≤ (t : Int)) && decide ((t : Int) < B n)))) := by
   intro t
   rw [List.range_succ, List.any_append]
   simp only [List.any_cons, List.any_nil, Bool.or_false]
  rw [mu_congr (q := fun t => ((List.range n).any fun k => P k && (decide (A k ≤ (t : Int)) && decide ((t : Int) < B k))) || (P n && (decide (A n ≤ (t : Int)) && decide ((t : Int) < B n)))) (fun t _ => e1 t)]
  rw [mu_or (fun t _ => ?_)]
  ·cases hp : P n with
   | false => simp [mu_false]
   | true =>
    obtain ⟨a0, ab, bn⟩ := hv n (by omega) hp
    have e2 : mu (fun t : Nat => true && (decide (A n ≤ (t : Int)) && decide ((t : Int) < B n))) N = mu (fun t => decide ((A n).toNat ≤ t) && decide (t < (B n).toNat)) N := by
     refine mu_congr fun t _ => ?_
     have h1 : (A n ≤ (t : Int)) ↔ (A n).toNat ≤ t := by omega
     have h2 : ((t : Int) < B n) ↔ t < (B n).toNat := by omega
     rw [Bool.true_and, decide_eq_decide.2 h1, decide_eq_decide.2 h2]
    rw [e2, mu_iv _ _ (by omega)]
    simp only [cond_true]
    omega
  ·rintro ⟨h1, h2⟩
   rw [List.any_eq_true] at h1
   obtain ⟨j, hj, h1⟩ := h1
   simp only [Bool.and_eq_true, decide_eq_true_eq] at h1 h2
   exact hd j n (List.mem_range.1 hj) (by omega) h1.1 h2.1 t ⟨h1.2, h2.2⟩
theorem Normal_nf (R : List api_Span) (hl : R.length ≤ 1000000) (hv : ∀ s ∈ R, ValS s) : Ok (spans_Normal R) (fun out => out.length ≤ 1000000 ∧ (∀ s ∈ out, ValS s) ∧ out.Pairwise (fun a b => a.fTo < b.fFrom) ∧ ∀ t, (∃ s ∈ out, covT t s) ↔ ∃ s ∈ R, covT t s) := by
 unfold spans_Normal
 refine ok_bind (Q := fun r => r = R) (ok_up2N R.length (fun (a : List api_Span) n => a = R.take n) (by omega) rfl (fun a i hI h2 => ?_)) (fun r hr => ?_)
 ·unfold spans_Normal_L2
  dsimp only
  refine ok_ite (fun hi => ?_) (fun hi => ok_inr (by rw [hI, show i = R.length by omega, List.take_length]))
  obtain ⟨y, hiy, hy⟩ := ok_ixN (xs := R) (i := i) (by omega)
  have hlt := lt_of_get hy
  have hy' : R[i] = y := by have := List.getElem?_eq_getElem hlt; rw [hy] at this; exact (Option.some.inj this).symm
  obtain ⟨v1, v2, v3⟩ := hv y (List.mem_of_getElem? hy)
  rw [hiy, Option.bind_some, valid_w v1 v2 v3, Option.bind_some]
  simp only [cond_true]
  have hal : a.length ≤ 1000000 := by rw [hI, List.length_take]; omega
  rw [room_ok (by simp; omega) (by simp; omega)]
  refine ok_inl ⟨by omega, w64_N (n := R.length) (by omega) (by omega), ?_⟩
  rw [List.take_succ_eq_append_getElem hlt, hy', hI]
 ·subst hr
  unfold slices_SortFunc_api_Span_api_Span_k1
  have hc : r.length < 4611686018427387904 := by omega
  simp only [hc, decide_true, cond_true, Option.bind_some]
  have hp := sortBy_perm (fun x : api_Span => x.fFrom) r
  have hso := sortBy_sorted (fun x : api_Span => x.fFrom) r
  generalize sortBy (fun x : api_Span => x.fFrom) r = S at *
  have hSl : S.length = r.length := hp.length_eq
  have hSv : ∀ s ∈ S, ValS s := fun s hs => hv s (hp.mem_iff.1 hs)
  refine ok_bind (Q := fun out => out.length ≤ 1000000 ∧ (∀ s ∈ out, ValS s) ∧ out.Pairwise (fun a b => a.fTo < b.fFrom) ∧ ∀ t, (∃ s ∈ out, covT t s) ↔ ∃ s ∈ S, covT t s) ?_ (fun out ho => ok_some ⟨ho.1, ho.2.1, ho.2.2.1, fun t => (ho.2.2.2 t).trans ⟨fun ⟨s, h1, h2⟩ => ⟨s, hp.mem_iff.1 h1, h2⟩, fun ⟨s, h1, h2⟩ => ⟨s, hp.mem_iff.2 h1, h2⟩⟩⟩)
  refine ok_up2N S.length (fun (a : List api_Span) n => a.length ≤ n ∧ (∀ s ∈ a, ValS s) ∧ a.Pairwise (fun a b => a.fTo < b.fFrom) ∧ (∀ t, (∃ s ∈ a, covT t s) ↔ ∃ s ∈ S.take n, covT t s) ∧ ∀ y, a.getLast? = some y → ∀ (j : Nat) z, n ≤ j → S[j]? = some z → y.fFrom ≤ z.fFrom) (by omega) ⟨by simp, by simp, List.Pairwise.nil, fun t => by simp, by simp⟩ (fun a i hI h2 => ?_)
  unfold spans_Normal_L1
  dsimp only
  obtain ⟨a1, a2, aw, a3, a4⟩ := hI
  refine ok_ite (fun hi => ?_) (fun hi => ok_inr ⟨by omega, a2, aw, by rw [show i = S.length by omega, List.take_length] at a3; exact a3⟩)
  obtain ⟨y, hiy, hy⟩ := ok_ixN (xs := S) (i := i) (by omega)
  have hlt := lt_of_get hy
  have hy' : S[i] = y := by have := List.getElem?_eq_getElem hlt; rw [hy] at this; exact (Option.some.inj this).symm
  have hyv := hSv y (List.mem_of_getElem? hy)
  have hnx : ∀ (j : Nat) z, i + 1 ≤ j → S[j]? = some z → y.fFrom ≤ z.fFrom := fun j z hj hz => hso i j y z (by omega) hy hz
  rw [hiy, Option.bind_some]
  refine ok_bind (Q := fun b => b.length ≤ i + 1 ∧ (∀ s ∈ b, ValS s) ∧ b.Pairwise (fun a b => a.fTo < b.fFrom) ∧ (∀ t, (∃ s ∈ b, covT t s) ↔ ((∃ s ∈ a, covT t s) ∨ covT t y)) ∧ ∀ x, b.getLast? = some x → x.fFrom ≤ y.fFrom) ?_ (fun b hb => ok_inl ⟨by omega, w64_N (n := S.length) (by omega) (by omega), hb.1, hb.2.1, hb.2.2.1, fun t => ?_, fun x hx j z hj hz => ?_⟩)
  ·rcases List.eq_nil_or_concat a with ha | ⟨q, x, ha⟩
   ·subst ha
    have h0 : ¬ ((0 : Int) < (([] : List api_Span).length : Int)) := by simp
    simp only [h0, decide_false, cond_false, Option.bind_some]
    rw [room_ok (by simp) (by simp)]
    refine ok_some ⟨by simp, by simpa using hyv, by simp, fun t => by simp, fun x hx => ?_⟩
    simp at hx; subst hx; exact Int.le_refl _
   ·rw [List.concat_eq_append] at ha
    subst ha
    have hql : q.length ≤ 1000000 := by simp at a1; omega
    have e : (((q ++ [x]).length : Nat) : Int) - 1 = (q.length : Int) := by simp
    have h0 : (0 : Int) < ((q ++ [x]).length : Int) := by rw [List.length_append, List.length_singleton]; omega
    rw [w64_of (n := (((q ++ [x]).length : Nat) : Int) - 1) (by omega), e, idx_last]
    simp only [h0, decide_true, cond_true, Option.bind_some]
    have hxv := a2 x (by simp)
    have hxy := a4 x (lastQ q x) i y (Nat.le_refl _) hy
    refine ok_ite (fun hc => ?_) (fun hc => ?_)
    ·rw [show ((q.length : Int)).toNat = q.length from rfl, set_last]
     obtain ⟨y1, y2, y3⟩ := hyv
     obtain ⟨x1, x2, x3⟩ := hxv
     refine ok_some ⟨by simp at a1 ⊢; omega, fun s hs => ?_, ?_, fun t => ?_, fun z hz => ?_⟩
     ·rcases List.mem_append.1 hs with hs | hs
      ·exact a2 s (List.mem_append_left _ hs)
      ·simp at hs; subst hs
       exact ⟨x1, by show x.fFrom < max x.fTo y.fTo; omega, by show max x.fTo y.fTo ≤ _; omega⟩
     ·rw [List.pairwise_append] at aw ⊢
      exact ⟨aw.1, by simp, fun u hu v hv => by simp at hv; subst hv; exact aw.2.2 u hu x (by simp)⟩
     ·have key : covT t { fFrom := x.fFrom, fTo := max x.fTo y.fTo } ↔ (covT t x ∨ covT t y) := by
       simp only [covT]; omega
      constructor
      ·rintro ⟨s, hs, ht⟩
       rcases List.mem_append.1 hs with hs | hs
       ·exact .inl ⟨s, List.mem_append_left _ hs, ht⟩
       ·simp at hs; subst hs
        rcases key.1 ht with h | h
        ·exact .inl ⟨x, by simp, h⟩
        ·exact .inr h
      ·rintro (⟨s, hs, ht⟩ | ht)
       ·rcases List.mem_append.1 hs with hs | hs
        ·exact ⟨s, List.mem_append_left _ hs, ht⟩
        ·simp at hs; subst hs
         exact ⟨_, by simp, key.2 (.inl ht)⟩
       ·exact ⟨_, by simp, key.2 (.inr ht)⟩
     ·rw [lastQ] at hz; cases hz; exact hxy
    ·rw [room_ok (by simp; omega) (by simp; omega)]
     refine ok_some ⟨by simp at a1 ⊢; omega, fun s hs => ?_, ?_, fun t => ?_, fun z hz => ?_⟩
     ·rcases List.mem_append.1 hs with hs | hs
      ·exact a2 s hs
      ·simp at hs; subst hs; exact hyv
     ·rw [List.pairwise_append]
      refine ⟨aw, by simp, fun u hu v hv => ?_⟩
      simp at hv; subst hv
      rcases List.mem_append.1 hu with hu | hu
      ·have h1 := (List.pairwise_append.1 aw).2.2 u hu x (by simp)
       obtain ⟨_, x2, _⟩ := hxv
       omega
      ·simp at hu; subst hu; omega
     ·constructor
      ·rintro ⟨s, hs, ht⟩
       rcases List.mem_append.1 hs with hs | hs
       ·exact .inl ⟨s, hs, ht⟩
       ·simp at hs; subst hs; exact .inr ht
      ·rintro (⟨s, hs, ht⟩ | ht)
       ·exact ⟨s, List.mem_append_left _ hs, ht⟩
       ·exact ⟨y, by simp, ht⟩
     ·rw [lastQ] at hz; cases hz; exact Int.le_refl _
  ·rw [hb.2.2.2.1 t, a3 t, List.take_succ_eq_append_getElem hlt, hy']
   constructor
   ·rintro (⟨s, hs, ht⟩ | ht)
    ·exact ⟨s, List.mem_append_left _ hs, ht⟩
    ·exact ⟨y, by simp, ht⟩
   ·rintro ⟨s, hs, ht⟩
    rcases List.mem_append.1 hs with hs | hs
    ·exact .inl ⟨s, hs, ht⟩
    ·simp at hs; subst hs; exact .inr ht
  ·have := hb.2.2.2.2 x hx
   have := hnx j z hj hz
   omega
def fromL (R : List api_Span) (k : Nat) : Int := match R[k]? with | some s => s.fFrom | none => 0
def toL (R : List api_Span) (k : Nat) : Int := match R[k]? with | some s => s.fTo | none => 0
def covB (R : List api_Span) (t : Nat) : Bool := (List.range R.length).any fun k => true && (decide (fromL R k ≤ (t : Int)) && decide ((t : Int) < toL R k))
theorem covB_iff (R : List api_Span) (t : Nat) : covB R t = true ↔ ∃ s ∈ R, covT (t : Int) s := by
 unfold covB
 rw [List.any_eq_true]
 constructor
 ·rintro ⟨k, hk, h⟩
  have hk := List.mem_range.1 hk
  have e : R[k]? = some R[k] := List.getElem?_eq_getElem hk
  simp only [fromL, toL, e, Bool.true_and, Bool.and_eq_true, decide_eq_true_eq] at h
  exact ⟨R[k], List.getElem_mem hk, h⟩
 ·rintro ⟨s, hs, h⟩
  obtain ⟨k, hk⟩ := List.getElem?_of_mem hs
  refine ⟨k, List.mem_range.2 (lt_of_get hk), ?_⟩
  simp only [fromL, toL, hk, Bool.true_and, Bool.and_eq_true, decide_eq_true_eq]
  exact h
def lenS26 (R : List api_Span) (k : Nat) : Int := toL R k - fromL R k
theorem normal_mu (R : List api_Span) (hv : ∀ s ∈ R, ValS s) (hp : R.Pairwise (fun a b => a.fTo < b.fFrom)) : sumF (lenS26 R) R.length = (mu (covB R) 1000000000000 : Nat) := by
 have h := sumF_mu (fun _ => true) (fromL R) (toL R) 1000000000000 R.length (fun k hk _ => ?_) (fun j k hjk hk _ _ t => ?_)
 ·have e : covB R = fun t : Nat => (List.range R.length).any fun k => true && (decide (fromL R k ≤ (t : Int)) && decide ((t : Int) < toL R k)) := rfl
  rw [e, ← h]
  exact sumF_congr fun k _ => rfl
 ·have e : R[k]? = some R[k] := List.getElem?_eq_getElem hk
  have := hv R[k] (List.getElem_mem hk)
  unfold ValS at this
  simp only [fromL, toL, e]; omega
 ·have ej : R[j]? = some (R[j]'(by omega)) := List.getElem?_eq_getElem (by omega)
  have ek : R[k]? = some R[k] := List.getElem?_eq_getElem hk
  have := List.pairwise_iff_getElem.1 hp j k (by omega) hk hjk
  simp only [fromL, toL, ej, ek]
  omega
theorem length_ok (R : List api_Span) (hl : R.length ≤ 1000000) (hv : ∀ s ∈ R, ValS s) : Ok (spans_Length R) (fun n => ∃ N : List api_Span, (∀ t, (∃ s ∈ N, covT t s) ↔ ∃ s ∈ R, covT t s) ∧ n = (mu (covB N) 1000000000000 : Nat)) := by
 unfold spans_Length
 refine ok_bind (Normal_nf R hl hv) (fun N hN => ?_)
 obtain ⟨n1, n2, n3, n4⟩ := hN
 refine ok_bind (Q := fun n => n = sumF (lenS26 N) N.length) (ok_up2M N.length (fun (a : Int) k => a = sumF (lenS26 N) k) (by omega) rfl (fun a i hI h2 => ?_)) (fun n hn => ok_some ⟨N, n4, by rw [hn, normal_mu N n2 n3]⟩)
 subst hI
 unfold spans_Length_L1
 dsimp only
 refine ok_ite (fun hi => ?_) (fun hi => ok_inr (by rw [show i = N.length by omega]))
 have hlt : i < N.length := by omega
 have hb := sumF_bd (f := lenS26 N) (c := 1000000000000) (n := i) (fun k hk => by
  have e : N[k]? = some (N[k]'(by omega)) := List.getElem?_eq_getElem (by omega)
  have := n2 (N[k]'(by omega)) (List.getElem_mem (by omega))
  unfold ValS at this
  simp only [lenS26, fromL, toL, e]; omega)
 have e : N[i]? = some N[i] := List.getElem?_eq_getElem hlt
 have hv := n2 N[i] (List.getElem_mem hlt)
 unfold ValS at hv
 rw [idx_nat, e, Option.bind_some, w64_of (n := N[i].fTo - N[i].fFrom) (by omega), w64_M (n := N.length) hlt (by omega)]
 rw [w64_of (by omega)]
 refine ok_inl ⟨by omega, rfl, ?_⟩
 simp only [sumF, lenS26, fromL, toL, e]
def spansTh (l : List api_Slice) (th : Int) : Nat → List api_Span
 | 0 => []
 | n + 1 => spansTh l th n ++ (match l[n]? with | some y => if y.fThread = th then [y.fSpan] else [] | none => [])
theorem spansTh_len (l : List api_Slice) (th : Int) : ∀ n, (spansTh l th n).length ≤ n
 | 0 => Nat.le_refl 0
 | n + 1 => by
  have := spansTh_len l th n
  simp only [spansTh, List.length_append]
  split
  ·split <;> simp <;> omega
  ·simp; omega
theorem spansTh_mem {l : List api_Slice} {th : Int} : ∀ {n : Nat} {s : api_Span}, s ∈ spansTh l th n ↔ ∃ k y, k < n ∧ l[k]? = some y ∧ y.fThread = th ∧ s = y.fSpan
 | 0, s => by simp [spansTh]
 | n + 1, s => by
  simp only [spansTh, List.mem_append]
  rw [spansTh_mem (n := n)]
  constructor
  ·rintro (⟨k, y, h1, h2⟩ | h)
   ·exact ⟨k, y, by omega, h2⟩
   ·cases hy : l[n]? with
    | none => rw [hy] at h; simp at h
    | some y =>
     rw [hy] at h
     by_cases e : y.fThread = th
     ·simp [e] at h; exact ⟨n, y, by omega, hy, e, h⟩
     ·simp [e] at h
  ·rintro ⟨k, y, h1, h2, h3, h4⟩
   by_cases e : k = n
   ·subst e; right; rw [h2]; simp [h3, h4]
   ·exact .inl ⟨k, y, by omega, h2, h3, h4⟩
theorem busy_ok (l : List api_Slice) (hl : l.length ≤ 1000) (hs : SpV l) (th : Int) : Ok (slice_Busy l th) (fun out => out.length ≤ 1000000 ∧ (∀ s ∈ out, ValS s) ∧ ∀ t, (∃ s ∈ out, covT t s) ↔ ∃ s ∈ spansTh l th l.length, covT t s) := by
 unfold slice_Busy
 refine ok_bind (Q := fun r => r = spansTh l th l.length) (ok_up2M l.length (fun (a : List api_Span) n => a = spansTh l th n) (by omega) rfl (fun a i hI h2 => ?_)) (fun r hr => ?_)
 ·subst hI
  unfold slice_Busy_L1
  dsimp only
  refine ok_ite (fun hi => ?_) (fun hi => ok_inr (by rw [show i = l.length by omega]))
  refine ok_bind (Q := fun a => a = spansTh l th (i + 1)) ?_ (fun a ha => by rw [w64_M (n := l.length) (by omega) (by omega)]; exact ok_inl ⟨by omega, rfl, ha⟩)
  refine ok_bind (ok_ixM (by omega)) (fun y hy => ?_)
  have hlen := spansTh_len l th i
  refine ok_ite (fun e => ?_) (fun e => ok_some (by simp [spansTh, hy, e]))
  rw [room_ok (by simp; omega) (by simp; omega)]
  exact ok_some (by simp [spansTh, hy, e])
 ·subst hr
  have hlen := spansTh_len l th l.length
  refine ok_bind (Normal_nf _ (by omega) (fun s hs' => ?_)) (fun out ho => ok_some ⟨ho.1, ho.2.1, ho.2.2.2⟩)
  obtain ⟨k, y, _, hy, _, rfl⟩ := spansTh_mem.1 hs'
  exact hs y (List.mem_of_getElem? hy)
def frS (l : List api_Slice) (k : Nat) : Int := match l[k]? with | some y => y.fSpan.fFrom | none => 0
def toS (l : List api_Slice) (k : Nat) : Int := match l[k]? with | some y => y.fSpan.fTo | none => 0
def selfK (l : List api_Slice) (k : Nat) : Int := match l[k]? with | some y => y.fSelf | none => 0
def parB (l : List api_Slice) (i : Int) (k : Nat) : Bool := match l[k]? with | some y => decide (y.fParent = i) | none => false
def thB (l : List api_Slice) (th : Int) (k : Nat) : Bool := match l[k]? with | some y => decide (y.fThread = th) | none => false
def lenK (l : List api_Slice) (k : Nat) : Int := toS l k - frS l k
theorem lenK_eq {l : List api_Slice} {k : Nat} {y : api_Slice} (h : l[k]? = some y) : lenK l k = y.fSpan.fTo - y.fSpan.fFrom := by simp only [lenK, toS, frS, h]
theorem parB_iff {l : List api_Slice} {k : Nat} {y : api_Slice} (h : l[k]? = some y) (i : Int) : parB l i k = true ↔ y.fParent = i := by simp only [parB, h, decide_eq_true_eq]
theorem thB_iff {l : List api_Slice} {k : Nat} {y : api_Slice} (h : l[k]? = some y) (i : Int) : thB l i k = true ↔ y.fThread = i := by simp only [thB, h, decide_eq_true_eq]
theorem Val.lenb {l : List api_Slice} (h : Val l) {k : Nat} (hk : k < l.length) : 0 ≤ frS l k ∧ frS l k < toS l k ∧ toS l k ≤ 1000000000000 := by
 have e : l[k]? = some l[k] := List.getElem?_eq_getElem hk
 have := h.sp l[k] (List.getElem_mem hk)
 simp only [frS, toS, e]; exact this
theorem Val.sib {l : List api_Slice} (h : Val l) {j k : Nat} {z y : api_Slice} (hjk : j < k) (hj : l[j]? = some z) (hk : l[k]? = some y) (ht : z.fThread = y.fThread) (hp : z.fParent = y.fParent) (t : Int) : ¬ (covT t z.fSpan ∧ covT t y.fSpan) := by
 rintro ⟨⟨a1, a2⟩, ⟨b1, b2⟩⟩
 refine (h.apart k y hk).2 j z hjk hj ⟨ht, by omega, by omega, fun hd => ?_⟩
 have hu := h.nest.up
 generalize hc : (k : Int) = c at hd
 cases hd with
 | self => omega
 | @up _ y' h0 hy' hd' =>
  subst hc
  have : l[k]? = some y' := hy'
  rw [hk] at this; cases this
  have h1 := hd'.le hu
  have h2 := hu j z (by have := lt_of_get hj; omega) hj
  omega
theorem sumTo_v {l : List api_Slice} (h : Val l) (hl : l.length ≤ 1000) (i : Int) {s0 : Int} (h0 : 0 ≤ s0 ∧ s0 ≤ 1000000000000) : ∀ n, n ≤ l.length → sumTo l i s0 n = s0 - sumF (fun k => bif parB l i k then lenK l k else 0) n
 | 0, _ => by simp [sumTo, sumF]
 | n + 1, hn => by
  have ih := sumTo_v h hl i h0 n (by omega)
  have hb := sumF_bd (f := fun k => bif parB l i k then lenK l k else 0) (c := 1000000000000) (n := n) (fun k hk => by
   have := h.lenb (k := k) (by omega)
   show 0 ≤ (bif parB l i k then lenK l k else 0) ∧ (bif parB l i k then lenK l k else 0) ≤ 1000000000000
   unfold lenK
   cases parB l i k <;> simp only [cond_true, cond_false] <;> omega)
  have hy : l[n]? = some l[n] := List.getElem?_eq_getElem (by omega)
  have hv := h.sp l[n] (List.getElem_mem (by omega))
  simp only [sumTo, hy, sumF, ih]
  by_cases e : l[n].fParent = i
  ·rw [if_pos e, (parB_iff hy i).2 e, cond_true, lenK_eq hy, w64_of (n := l[n].fSpan.fTo - l[n].fSpan.fFrom) (by omega), w64_of (by omega)]
   omega
  ·have e' : parB l i n = false := by
    cases hb : parB l i n with
    | false => rfl
    | true => exact absurd ((parB_iff hy i).1 hb) e
   rw [if_neg e, e', cond_false]
   omega
def kidsSum (l : List api_Slice) (i : Int) : Int := sumF (fun k => bif parB l i k then lenK l k else 0) l.length
theorem Val.self {l : List api_Slice} (h : Val l) (hl : l.length ≤ 1000) {i : Nat} (hi : i < l.length) : selfK l i = lenK l i - kidsSum l (i : Int) := by
 have hy : l[i]? = some l[i] := List.getElem?_eq_getElem hi
 have hv := h.sp l[i] (List.getElem_mem hi)
 have e := (h.apart i l[i] hy).1
 have e2 : selfK l i = l[i].fSelf := by simp only [selfK, hy]
 rw [e2, e, w64_of (n := l[i].fSpan.fTo - l[i].fSpan.fFrom) (by omega), sumTo_v h hl _ (by omega) _ (Nat.le_refl _), lenK_eq hy]
 rfl
theorem Val.par {l : List api_Slice} (h : Val l) {k : Nat} {y : api_Slice} (hk : l[k]? = some y) {i : Nat} (hp : y.fParent = (i : Int)) : ∃ z, i < k ∧ l[i]? = some z ∧ z.fThread = y.fThread ∧ z.fSpan.fFrom ≤ y.fSpan.fFrom ∧ y.fSpan.fTo ≤ z.fSpan.fTo := by
 rcases h.nest k y hk with ⟨e, _⟩ | ⟨p, z, e, hpk, hz, h1, h2, h3, _⟩
 ·omega
 ·have : p = i := by omega
  subst this
  exact ⟨z, hpk, hz, h1, h2, h3⟩
def ivB (l : List api_Slice) (k : Nat) (t : Nat) : Bool := decide (frS l k ≤ (t : Int)) && decide ((t : Int) < toS l k)
theorem mu_len {l : List api_Slice} (h : Val l) {i : Nat} (hi : i < l.length) (N : Nat) (hN : 1000000000000 ≤ (N : Int)) : (mu (ivB l i) N : Int) = lenK l i := by
 have hv := h.lenb hi
 have e : mu (ivB l i) N = mu (fun t => decide ((frS l i).toNat ≤ t) && decide (t < (toS l i).toNat)) N := mu_congr (fun t _ => by
  unfold ivB
  have e1 : (frS l i ≤ (t : Int)) ↔ ((frS l i).toNat ≤ t) := by omega
  have e2 : ((t : Int) < toS l i) ↔ (t < (toS l i).toNat) := by omega
  rw [decide_eq_decide.2 e1, decide_eq_decide.2 e2])
 rw [e, mu_iv _ _ (by omega)]
 unfold lenK
 omega
theorem Val.fam {l : List api_Slice} (h : Val l) (P : Nat → Bool) (N : Nat) (hN : 1000000000000 ≤ (N : Int)) (hP : ∀ (j k : Nat) z y, j < k → l[j]? = some z → l[k]? = some y → P j = true → P k = true → z.fThread = y.fThread ∧ z.fParent = y.fParent) :
  sumF (fun k => bif P k then lenK l k else 0) l.length = (mu (fun t => (List.range l.length).any fun k => P k && ivB l k t) N : Nat) := by
 refine sumF_mu P (frS l) (toS l) N l.length (fun k hk _ => ?_) (fun j k hjk hk hPj hPk t ht => ?_)
 ·have := h.lenb hk; omega
 ·have ej : l[j]? = some (l[j]'(by omega)) := List.getElem?_eq_getElem (by omega)
  have ek : l[k]? = some l[k] := List.getElem?_eq_getElem hk
  obtain ⟨h1, h2⟩ := hP j k _ _ hjk ej ek hPj hPk
  simp only [frS, toS, ej, ek] at ht
  exact h.sib hjk ej ek h1 h2 t ht
theorem Val.self0 {l : List api_Slice} (h : Val l) (hl : l.length ≤ 1000) {i : Nat} (hi : i < l.length) (N : Nat) (hN : 1000000000000 ≤ (N : Int)) : 0 ≤ selfK l i ∧ selfK l i ≤ 1000000000000 := by
 rw [h.self hl hi]
 have e := h.fam (parB l (i : Int)) N hN (fun j k z y _ hz hy hj hk => by
  have p1 := (parB_iff hz _).1 hj
  have p2 := (parB_iff hy _).1 hk
  obtain ⟨u, _, hu, t1, _⟩ := h.par hz p1
  obtain ⟨u', _, hu', t2, _⟩ := h.par hy p2
  rw [hu] at hu'; cases hu'
  exact ⟨t1.symm.trans t2, p1.trans p2.symm⟩)
 have hm : mu (fun t => (List.range l.length).any fun k => parB l (i : Int) k && ivB l k t) N ≤ mu (ivB l i) N := mu_le (fun t _ ht => by
  obtain ⟨k, hk, hb⟩ := List.any_eq_true.1 ht
  have hk := List.mem_range.1 hk
  rw [Bool.and_eq_true] at hb
  have ek : l[k]? = some l[k] := List.getElem?_eq_getElem hk
  obtain ⟨z, _, hz, _, g1, g2⟩ := h.par ek ((parB_iff ek _).1 hb.1)
  have h2 := hb.2
  unfold ivB at h2 ⊢
  simp only [frS, toS, ek, hz, Bool.and_eq_true, decide_eq_true_eq] at h2 ⊢
  omega)
 have hlen := mu_len h hi N hN
 have hb := h.lenb hi
 have : kidsSum l (i : Int) = (mu (fun t => (List.range l.length).any fun k => parB l (i : Int) k && ivB l k t) N : Nat) := e
 rw [this]
 unfold lenK at *
 omega
theorem Val.total {l : List api_Slice} (h : Val l) (hl : l.length ≤ 1000) (th : Int) : sumF (fun k => bif thB l th k then selfK l k else 0) l.length = sumF (fun k => bif thB l th k && parB l (-1) k then lenK l k else 0) l.length := by
 have e1 : sumF (fun k => bif thB l th k then selfK l k else 0) l.length = sumF (fun i => (bif thB l th i then lenK l i else 0) - sumF (fun k => bif thB l th i && parB l (i : Int) k then lenK l k else 0) l.length) l.length := by
  refine sumF_congr (fun i hi => ?_)
  cases hb : thB l th i with
  | false => simp only [cond_false, Bool.false_and, sumF_zero]; rfl
  | true => simp only [cond_true, Bool.true_and]; exact h.self hl hi
 rw [e1, sumF_sub, sumF_swap (fun i k => bif thB l th i && parB l (i : Int) k then lenK l k else 0), ← sumF_sub]
 refine sumF_congr (fun k hk => ?_)
 have ek : l[k]? = some l[k] := List.getElem?_eq_getElem hk
 by_cases e : l[k].fParent = -1
 ·have hp : parB l (-1) k = true := (parB_iff ek _).2 e
  have hz : sumF (fun i : Nat => bif thB l th i && parB l (i : Int) k then lenK l k else 0) l.length = 0 := by
   refine (sumF_congr (g := fun _ => 0) (fun i _ => ?_)).trans (sumF_zero _)
   have : parB l (i : Int) k = false := by
    cases hb : parB l (i : Int) k with
    | false => rfl
    | true => have := (parB_iff ek _).1 hb; omega
   show (bif thB l th i && parB l (i : Int) k then lenK l k else 0) = 0
   rw [this, Bool.and_false, cond_false]
  rw [hz, hp, Bool.and_true]; omega
 ·have hp : parB l (-1) k = false := by
   cases hb : parB l (-1) k with
   | false => rfl
   | true => exact absurd ((parB_iff ek _).1 hb) e
  have hu := h.nest.up k l[k] (by omega) ek
  obtain ⟨p, hpe⟩ := Int.eq_ofNat_of_zero_le (show 0 ≤ l[k].fParent by omega)
  obtain ⟨z, hpk, hz, ht, _⟩ := h.par ek hpe
  have hs : sumF (fun i : Nat => bif thB l th i && parB l (i : Int) k then lenK l k else 0) l.length = sumF (fun i : Nat => if i = p then (bif thB l th k then lenK l k else 0) else 0) l.length := by
   refine sumF_congr (fun i hi => ?_)
   by_cases ei : i = p
   ·subst ei
    have h1 : parB l (i : Int) k = true := (parB_iff ek _).2 hpe
    have h2 : thB l th i = thB l th k := by simp only [thB, hz, ek, ht]
    rw [if_pos rfl, h1, Bool.and_true, h2]
   ·have h1 : parB l (i : Int) k = false := by
     cases hb : parB l (i : Int) k with
     | false => rfl
     | true => have := (parB_iff ek _).1 hb; omega
    rw [if_neg ei, h1, Bool.and_false, cond_false]
  rw [hs, sumF_one, if_pos (by omega), hp, Bool.and_false, cond_false]
  omega
theorem Val.root {l : List api_Slice} (h : Val l) (th t : Int) : ∀ (k : Nat) y, l[k]? = some y → y.fThread = th → covT t y.fSpan → ∃ (j : Nat) (z : api_Slice), l[j]? = some z ∧ z.fThread = th ∧ z.fParent = -1 ∧ covT t z.fSpan := by
 intro k
 induction k using Nat.strongRecOn with
 | _ k ih =>
  intro y hy ht hc
  have hu := h.nest.up k y (by have := lt_of_get hy; omega) hy
  by_cases e : y.fParent = -1
  ·exact ⟨k, y, hy, ht, e, hc⟩
  ·obtain ⟨p, hpe⟩ := Int.eq_ofNat_of_zero_le (show 0 ≤ y.fParent by omega)
   obtain ⟨z, hpk, hz, ht', h1, h2⟩ := h.par hy hpe
   exact ih p hpk z hz (ht'.trans ht) ⟨Int.le_trans h1 hc.1, Int.lt_of_lt_of_le hc.2 h2⟩
theorem covB_congr {N : List api_Span} {l : List api_Slice} (h : Val l) {th : Int} (hN : ∀ t, (∃ s ∈ N, covT t s) ↔ ∃ s ∈ spansTh l th l.length, covT t s) (t : Nat) : covB N t = (List.range l.length).any (fun k => (thB l th k && parB l (-1) k) && ivB l k t) := by
 rw [Bool.eq_iff_iff, covB_iff, hN]
 constructor
 ·rintro ⟨s, hs, hc⟩
  obtain ⟨k, y, hk, hy, ht, rfl⟩ := spansTh_mem.1 hs
  obtain ⟨j, z, hz, h1, h2, h3⟩ := h.root th t k y hy ht hc
  rw [List.any_eq_true]
  refine ⟨j, List.mem_range.2 (lt_of_get hz), ?_⟩
  rw [(thB_iff hz th).2 h1, (parB_iff hz _).2 h2]
  unfold ivB
  simp only [frS, toS, hz, Bool.and_self, Bool.true_and, Bool.and_eq_true, decide_eq_true_eq]
  exact h3
 ·intro ha
  obtain ⟨k, hk, hb⟩ := List.any_eq_true.1 ha
  have hk := List.mem_range.1 hk
  have ek : l[k]? = some l[k] := List.getElem?_eq_getElem hk
  simp only [Bool.and_eq_true] at hb
  have h2 := hb.2
  unfold ivB at h2
  simp only [frS, toS, ek, Bool.and_eq_true, decide_eq_true_eq] at h2
  exact ⟨_, spansTh_mem.2 ⟨k, l[k], hk, ek, (thB_iff ek th).1 hb.1.1, rfl⟩, h2⟩
def inK (th t : Int) (y : api_Slice) : Prop := y.fThread = th ∧ covT t y.fSpan
theorem at_ok (l : List api_Slice) (hl : l.length ≤ 1000) (th t : Int) : Ok (slice_At l th t) (fun r => (r = -1 ∧ ∀ (k : Nat) y, l[k]? = some y → ¬ inK th t y) ∨ ∃ (k : Nat) (y : api_Slice), r = (k : Int) ∧ l[k]? = some y ∧ inK th t y) := by
 unfold slice_At
 refine ok_bind (Q := fun r => (r = -1 ∧ ∀ (k : Nat) y, l[k]? = some y → ¬ inK th t y) ∨ ∃ (k : Nat) (y : api_Slice), r = (k : Int) ∧ l[k]? = some y ∧ inK th t y) (ok_up2M l.length (fun (b : Int) n => (b = -1 ∧ ∀ (k : Nat) y, k < n → l[k]? = some y → ¬ inK th t y) ∨ ∃ (k : Nat) (y : api_Slice), b = (k : Int) ∧ l[k]? = some y ∧ inK th t y) (by omega) (.inl ⟨rfl, fun k y h => by omega⟩) (fun b i hI h2 => ?_)) (fun r hr => ok_some hr)
 unfold slice_At_L1
 dsimp only
 refine ok_ite (fun hi => ?_) (fun hi => ok_inr ?_)
 ·refine ok_bind (Q := fun b => (b = -1 ∧ ∀ (k : Nat) y, k < i + 1 → l[k]? = some y → ¬ inK th t y) ∨ ∃ (k : Nat) (y : api_Slice), b = (k : Int) ∧ l[k]? = some y ∧ inK th t y) ?_ (fun b hb => by rw [w64_M (n := l.length) (by omega) (by omega)]; exact ok_inl ⟨by omega, rfl, hb⟩)
  refine ok_bind (ok_ixM (by omega)) (fun y hy => ?_)
  refine ok_bind (Q := fun v => (v = true → inK th t y) ∧ (v = false → b = -1 → ¬ inK th t y)) ?_ (fun v hv => ok_cond (fun e => ok_some (.inr ⟨i, y, rfl, hy, hv.1 e⟩)) (fun e => ok_some ?_))
  ·refine ok_ite (fun g1 => ?_) (fun g1 => ok_some ⟨by simp, fun _ _ h => g1 h.1⟩)
   refine ok_ite (fun g2 => ?_) (fun g2 => ok_some ⟨by simp, fun _ _ h => g2 h.2.1⟩)
   refine ok_ite (fun g3 => ?_) (fun g3 => ok_some ⟨by simp, fun _ _ h => g3 h.2.2⟩)
   refine ok_ite (fun g4 => ok_some ⟨fun _ => ⟨g1, g2, g3⟩, by simp⟩) (fun g4 => ?_)
   rcases hI with ⟨e, _⟩ | ⟨k, z, rfl, hz, _⟩
   ·omega
   ·rw [idx_nat, hz, Option.bind_some]
    exact ok_some ⟨fun _ => ⟨g1, g2, g3⟩, fun _ e => by omega⟩
  ·rcases hI with ⟨e1, hno⟩ | hI
   ·refine .inl ⟨e1, fun k z hk hz => ?_⟩
    by_cases e2 : k = i
    ·subst e2; rw [hy] at hz; cases hz; exact hv.2 e e1
    ·exact hno k z (by omega) hz
   ·exact .inr hI
 ·rcases hI with ⟨e1, hno⟩ | hI
  ·exact .inl ⟨e1, fun k y hy => hno k y (by have := lt_of_get hy; omega) hy⟩
  ·exact .inr hI
theorem law_sum {l : List api_Slice} (h : Val l) (hl : l.length ≤ 1000) (th : Int) (N : Nat) (hN : 1000000000000 ≤ (N : Int)) : Ok (loop (tracebooklaw26_SliceTimes_L1 l th) (0, 0)) (InlR (fun s => s = sumF (fun k => bif thB l th k then selfK l k else 0) l.length) (fun _ => False)) := by
 refine ok_up2M l.length (fun (a : Int) n => a = sumF (fun k => bif thB l th k then selfK l k else 0) n) (by omega) rfl (fun a i hI h2 => ?_)
 unfold tracebooklaw26_SliceTimes_L1
 dsimp only
 refine ok_ite (fun hi => ?_) (fun hi => ok_inr (show InlR _ _ (.inl _) from ?_))
 ·have hil : i < l.length := by omega
  have hy : l[i]? = some l[i] := List.getElem?_eq_getElem hil
  have es : selfK l i = l[i].fSelf := by simp only [selfK, hy]
  have hs0 := h.self0 hl hil N hN
  rw [es] at hs0
  rw [idx_nat, hy, Option.bind_some]
  refine ok_ite (fun e => by omega) (fun _ => ?_)
  rw [Option.bind_some]
  have hb := sumF_bd (f := fun k => bif thB l th k then selfK l k else 0) (c := 1000000000000) (n := i) (fun k hk => by
   have := h.self0 hl (i := k) (by omega) N hN
   show 0 ≤ (bif thB l th k then selfK l k else 0) ∧ (bif thB l th k then selfK l k else 0) ≤ 1000000000000
   cases thB l th k <;> simp only [cond_true, cond_false] <;> omega)
  refine ok_bind (Q := fun v => v = sumF (fun k => bif thB l th k then selfK l k else 0) (i + 1)) ?_ (fun v hv => by rw [w64_M (n := l.length) hil (by omega)]; exact ok_inl ⟨hil, rfl, hv⟩)
  refine ok_ite (fun e => ?_) (fun e => ok_some ?_)
  ·rw [Option.bind_some, w64_of (by omega)]
   refine ok_some ?_
   simp only [sumF, (thB_iff hy th).2 e, cond_true, es, hI]
  ·have : thB l th i = false := by
    cases hb : thB l th i with
    | false => rfl
    | true => exact absurd ((thB_iff hy th).1 hb) e
   simp only [sumF, this, cond_false, hI]; omega
 ·have : i = l.length := by omega
  subst this
  exact hI
theorem sliceTimes_holds (l : List api_Slice) (th t : Int) (h : okr_L_api_Slice l) : tracebooklaw26_SliceTimes l th t = some true := by
 obtain ⟨hz, hn⟩ := siz26 h
 obtain ⟨N, hN⟩ : ∃ N : Nat, N = 1000000000000 := ⟨_, rfl⟩
 have hN' : 1000000000000 ≤ (N : Int) := by omega
 have : Ok (tracebooklaw26_SliceTimes l th t) (fun b => b = true) := by
  unfold tracebooklaw26_SliceTimes
  rw [lives26_eq, ← slice_eq l (by omega)]
  refine ok_bind (Q := fun v => v = false → l.length ≤ 40 ∧ Val l) ?_ (fun v hv => ?_)
  ·refine ok_ite (fun _ => ok_some (by simp)) (fun h1 => ?_)
   refine ok_bind (Check_val l (by omega) hn) (fun r hr => ok_some (fun e => ?_))
   exact ⟨by omega, hr (by simpa using e)⟩
  refine ok_cond (fun _ => ok_some rfl) (fun e => ?_)
  obtain ⟨h40, hV⟩ := hv e
  refine ok_bind (busy_ok l (by omega) hV.sp th) (fun B hB => ?_)
  obtain ⟨b1, b2, b3⟩ := hB
  refine ok_bindS (Q := InlR (fun s => s = sumF (fun k => bif thB l th k then selfK l k else 0) l.length) (fun _ => False)) (law_sum hV (by omega) th N hN') (fun s hs => ?_) (fun r hr => hr.elim)
  have hs : s = sumF (fun k => bif thB l th k then selfK l k else 0) l.length := hs
  refine ok_bind (at_ok l (by omega) th t) (fun r hr => ?_)
  have hrr : -1 ≤ r ∧ r < l.length := by
   rcases hr with ⟨rfl, _⟩ | ⟨k, y, rfl, hy, _⟩
   ·omega
   ·have := lt_of_get hy; omega
  have hr0 : 0 ≤ r ↔ ∃ s ∈ B, covT t s := by
   rw [b3]
   constructor
   ·intro h0
    rcases hr with ⟨e, _⟩ | ⟨k, y, rfl, hy, h1, h2⟩
    ·omega
    ·exact ⟨y.fSpan, spansTh_mem.2 ⟨k, y, lt_of_get hy, hy, h1, rfl⟩, h2⟩
   ·rintro ⟨s, hs, hc⟩
    obtain ⟨k, y, hk, hy, ht, rfl⟩ := spansTh_mem.1 hs
    rcases hr with ⟨_, hno⟩ | ⟨k, y, rfl, _⟩
    ·exact absurd ⟨ht, hc⟩ (hno k y hy)
    ·omega
  obtain ⟨c, hc, hcv⟩ := Covers_p B t (by omega) b2
  refine ok_bind (Q := fun v => v = false) ?_ (fun v hv => ?_)
  ·have g1 : ¬ (r < -1) := by omega
   have g2 : ¬ ((l.length : Int) ≤ r) := by omega
   simp only [g1, g2, decide_false, cond_false, hc, Option.bind_some]
   have : decide (0 ≤ r) = c := by
    rw [Bool.eq_iff_iff, decide_eq_true_eq, hr0, hcv]
   rw [this]
   exact ok_some (by simp)
  rw [hv]
  simp only [cond_false]
  obtain ⟨n, hn', M, hM1, hM2⟩ := length_ok B b1 b2
  have en : s = n := by
   rw [hs, hV.total (by omega) th, hV.fam (fun k => thB l th k && parB l (-1) k) N hN' (fun j k z y _ hz hy hj hk => by
    rw [Bool.and_eq_true] at hj hk
    exact ⟨((thB_iff hz _).1 hj.1).trans ((thB_iff hy _).1 hk.1).symm, ((parB_iff hz _).1 hj.2).trans ((parB_iff hy _).1 hk.2).symm⟩), hM2, ← hN]
   rw [mu_congr (fun t _ => covB_congr hV (fun t => (hM1 t).trans (b3 t)) t)]
  rw [hn', Option.bind_some, en]
  simp only [decide_true, cond_true]
  refine ok_bind (Q := fun b => b = true) ?_ (fun v hv => ok_some hv)
  refine ok_ite (fun _ => ok_some rfl) (fun h0 => ?_)
  rcases hr with ⟨e, _⟩ | ⟨k, y, rfl, hy, h1, h2, h3⟩
  ·omega
  ·rw [idx_nat, hy]
   simp only [Option.bind_some, h1, h2, h3, decide_true, cond_true]
   exact ok_some rfl
 obtain ⟨r, h1, h2⟩ := this
 rw [h1, h2]
end Go.VM
