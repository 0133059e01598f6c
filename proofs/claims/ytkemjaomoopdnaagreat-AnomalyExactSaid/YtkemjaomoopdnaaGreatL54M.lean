/- The law holds: plain mathematics on what the functions compute. -/
import Derived.Test.YtkemjaomoopdnaaGreatL54B
namespace Go.VM
theorem lt_of_get {α : Type} {xs : List α} {i : Nat} {y : α} (h : xs[i]? = some y) : i < xs.length := (List.getElem?_eq_some_iff.1 h).1
end Go.VM
namespace Go.VM
def Ok {α : Type} (x : Option α) (P : α → Prop) : Prop := ∃ r, x = some r ∧ P r
def Yes {α : Type} : α → Prop := fun _ => True
def InlR {α β : Type} (A : α → Prop) (B : β → Prop) : α ⊕ β → Prop
 | .inl a => A a
 | .inr b => B b
theorem ok_some {α : Type} {P : α → Prop} {r : α} (h : P r) : Ok (some r) P := ⟨r, rfl, h⟩
theorem ok_inl {α β : Type} {A : α → Prop} {B : β → Prop} {a : α} (h : A a) : Ok (some (.inl a)) (InlR A B) := ⟨_, rfl, h⟩
theorem ok_inr {α β : Type} {A : α → Prop} {B : β → Prop} {b : β} (h : B b) : Ok (some (.inr b)) (InlR A B) := ⟨_, rfl, h⟩
theorem ok_bind {α β : Type} {x : Option α} {f : α → Option β} {Q : α → Prop} {P : β → Prop} (hx : Ok x Q) (hf : ∀ r, Q r → Ok (f r) P) : Ok (x.bind f) P := by
 obtain ⟨r, h1, h2⟩ := hx
 subst h1; exact hf r h2
theorem ok_bindS {α β γ : Type} {x : Option (α ⊕ γ)} {f : α ⊕ γ → Option β} {Q : α ⊕ γ → Prop} {P : β → Prop} (hx : Ok x Q) (hf : ∀ r, Q (.inl r) → Ok (f (.inl r)) P) (hg : ∀ r, Q (.inr r) → Ok (f (.inr r)) P) : Ok (x.bind f) P :=
 ok_bind hx (fun r => match r with | .inl a => hf a | .inr b => hg b)
theorem ok_bindE {α β : Type} {x : Option α} {f : α → Option β} {P : β → Prop} (hx : Ok x Yes) (hf : ∀ r, x = some r → Ok (f r) P) : Ok (x.bind f) P := by
 obtain ⟨r, h1, h2⟩ := hx
 subst h1; exact hf r rfl
theorem ok_cond {α : Type} {b : Bool} {x y : Option α} {P : α → Prop} (h1 : b = true → Ok x P) (h2 : b = false → Ok y P) : Ok (cond b x y) P := by
 cases b
 ·exact h2 rfl
 ·exact h1 rfl
theorem Ok.mono {α : Type} {x : Option α} {P Q : α → Prop} (h : Ok x P) (hq : ∀ r, P r → Q r) : Ok x Q := by
 obtain ⟨r, h1, h2⟩ := h; exact ⟨r, h1, hq r h2⟩
theorem Ok.yes {α : Type} {x : Option α} {P : α → Prop} (h : Ok x P) : Ok x Yes := h.mono (fun _ _ => trivial)
theorem Ok.of_eq {α : Type} {x : Option α} {P : α → Prop} {r : α} (h : Ok x P) (e : x = some r) : P r := by
 obtain ⟨r', h1, h2⟩ := h; rw [e] at h1; cases h1; exact h2
theorem ok_idx {α : Type} {xs : List α} {i : Int} (h1 : 0 ≤ i) (h2 : i < xs.length) : Ok (idx xs i) (fun y => xs[i.toNat]? = some y) := by
 obtain ⟨n, rfl⟩ := Int.eq_ofNat_of_zero_le h1
 have h3 : n < xs.length := by omega
 rw [idx_nat]
 exact ⟨xs[n], by simp [h3], by simp [h3]⟩
theorem ok_loop {S ρ : Type} {step : S → Option (S ⊕ ρ)} (Inv : S → Prop) (m : S → Nat) {Post : ρ → Prop}
  (h : ∀ s, Inv s → Ok (step s) (InlR (fun s' => Inv s' ∧ m s' < m s) Post)) {s : S} (hs : Inv s) (hm : m s < manyRounds) : Ok (loop step s) Post := by
 refine loop_inv Inv m Post (fun s hs => ?_) hs hm
 obtain ⟨r, h1, h2⟩ := h s hs
 cases r with
 | inl a => exact Or.inl ⟨a, h1, h2⟩
 | inr b => exact Or.inr ⟨b, h1, h2⟩
theorem ok_up {ρ : Type} {step : Int → Option (Int ⊕ ρ)} (n : Nat) {Post : ρ → Prop} (hn : n ≤ 9223372036854775807)
  (h : ∀ i : Int, 0 ≤ i → i ≤ n → Ok (step i) (InlR (fun a => i < n ∧ a = i + 1) Post)) : Ok (loop step 0) Post := by
 refine ok_loop (fun i : Int => 0 ≤ i ∧ i ≤ (n : Int)) (fun i : Int => ((n : Int) - i).toNat) (fun i hi => (h i hi.1 hi.2).mono ?_) ⟨by omega, by omega⟩ (by simp [manyRounds]; omega)
 rintro (a | b) hr
 ·obtain ⟨h1, rfl⟩ : i < n ∧ a = i + 1 := hr
  exact ⟨⟨by omega, by omega⟩, by omega⟩
 ·exact hr
theorem ok_yes {α : Type} {r : α} : Ok (some r) Yes := ⟨r, rfl, trivial⟩
theorem ok_inlY {α β : Type} {B : β → Prop} {a : α} : Ok (some (.inl a)) (InlR Yes B) := ⟨_, rfl, trivial⟩
theorem ok_inrY {α β : Type} {A : α → Prop} {b : β} : Ok (some (.inr b)) (InlR A Yes) := ⟨_, rfl, trivial⟩
theorem ok_next {ρ : Type} {i : Int} {n : Nat} {P : ρ → Prop} (h1 : 0 ≤ i) (h2 : i < (n : Int)) (h3 : n ≤ 9223372036854775807) : Ok (some (.inl (w64 (i + 1)))) (InlR (fun a : Int => i < (n : Int) ∧ a = i + 1) P) :=
 ok_inl ⟨h2, w64_of (by omega)⟩
theorem ok_ite {α : Type} {p : Prop} [Decidable p] {x y : Option α} {P : α → Prop} (h1 : p → Ok x P) (h2 : ¬p → Ok y P) : Ok (cond (decide p) x y) P :=
 ok_cond (fun h => h1 (of_decide_eq_true h)) (fun h => h2 (of_decide_eq_false h))
theorem ok_nite {α : Type} {p : Prop} [Decidable p] {x y : Option α} {P : α → Prop} (h1 : ¬p → Ok x P) (h2 : p → Ok y P) : Ok (cond (!decide p) x y) P := by
 by_cases h : p
 ·simpa [h] using h2 h
 ·simpa [h] using h1 h
theorem ok_not {α : Type} {b : Bool} {x y : Option α} {P : α → Prop} (h1 : b = false → Ok x P) (h2 : b = true → Ok y P) : Ok (cond (!b) x y) P := by
 cases b
 ·exact h1 rfl
 ·exact h2 rfl
abbrev Tot {α : Type} (x : Option α) : Prop := Ok x Yes
theorem ok_up2 {σ ρ : Type} {step : σ × Int → Option ((σ × Int) ⊕ ρ)} (n : Nat) (Inv : σ → Int → Prop) {Post : ρ → Prop} (hn : n ≤ 9223372036854775807) {s0 : σ} (h0 : Inv s0 0)
  (h : ∀ (s : σ) (i : Int), Inv s i → 0 ≤ i → i ≤ n → Ok (step (s, i)) (InlR (fun a => i < n ∧ a.2 = i + 1 ∧ Inv a.1 (i + 1)) Post)) : Ok (loop step (s0, 0)) Post := by
 refine ok_loop (fun s : σ × Int => Inv s.1 s.2 ∧ 0 ≤ s.2 ∧ s.2 ≤ (n : Int)) (fun s : σ × Int => ((n : Int) - s.2).toNat) (fun s hi => (h s.1 s.2 hi.1 hi.2.1 hi.2.2).mono ?_) ⟨h0, by simp, by simp⟩ (by simp [manyRounds]; omega)
 rintro (⟨a, j⟩ | b) hr
 ·obtain ⟨h1, h2, h3⟩ : s.2 < n ∧ j = s.2 + 1 ∧ Inv a (s.2 + 1) := hr
  subst h2
  exact ⟨⟨h3, by simp; omega, by simp; omega⟩, by simp; omega⟩
 ·exact hr
theorem ok_next2 {σ ρ : Type} {s : σ} {i : Int} {n : Nat} {Inv : σ → Int → Prop} {P : ρ → Prop} (hI : Inv s (i + 1)) (h1 : 0 ≤ i) (h2 : i < (n : Int)) (h3 : n ≤ 9223372036854775807) : Ok (some (.inl (s, w64 (i + 1)))) (InlR (fun a : σ × Int => i < (n : Int) ∧ a.2 = i + 1 ∧ Inv a.1 (i + 1)) P) :=
 ok_inl ⟨h2, w64_of (by omega), hI⟩
theorem ok_upI {ρ : Type} {step : Int → Option (Int ⊕ ρ)} (n : Nat) (Inv : Int → Prop) {Post : ρ → Prop} (hn : n ≤ 9223372036854775807) (h0 : Inv 0)
  (h : ∀ i : Int, Inv i → 0 ≤ i → i ≤ n → Ok (step i) (InlR (fun a => i < n ∧ a = i + 1 ∧ Inv (i + 1)) Post)) : Ok (loop step 0) Post := by
 refine ok_loop (fun i : Int => Inv i ∧ 0 ≤ i ∧ i ≤ (n : Int)) (fun i : Int => ((n : Int) - i).toNat) (fun i hi => (h i hi.1 hi.2.1 hi.2.2).mono ?_) ⟨h0, by omega, by omega⟩ (by simp [manyRounds]; omega)
 rintro (a | b) hr
 ·obtain ⟨h1, rfl, h3⟩ : i < n ∧ a = i + 1 ∧ Inv (i + 1) := hr
  exact ⟨⟨h3, by omega, by omega⟩, by omega⟩
 ·exact hr
theorem ok_nextI {ρ : Type} {i : Int} {n : Nat} {Inv : Int → Prop} {P : ρ → Prop} (hI : Inv (i + 1)) (h1 : 0 ≤ i) (h2 : i < (n : Int)) (h3 : n ≤ 9223372036854775807) : Ok (some (.inl (w64 (i + 1)))) (InlR (fun a : Int => i < (n : Int) ∧ a = i + 1 ∧ Inv (i + 1)) P) :=
 ok_inl ⟨h2, w64_of (by omega), hI⟩
theorem room_ok {b n : Nat} (h1 : n * b ≤ 140737488355328) (h2 : n ≤ 9223372036854775807) : room b n = true := by
 simp only [room, Bool.and_eq_true]
 exact ⟨Nat.ble_eq_true_of_le h1, Nat.ble_eq_true_of_le h2⟩
theorem spans_Valid_eq (s : api_Span) : spans_Valid s = some (decide (0 ≤ s.fFrom ∧ s.fFrom < s.fTo ∧ s.fTo ≤ 1000000000000)) := by
 unfold spans_Valid
 by_cases h1 : 0 ≤ s.fFrom <;> by_cases h2 : s.fFrom < s.fTo <;> by_cases h3 : s.fTo ≤ 1000000000000 <;> simp [h1, h2, h3]
theorem intern_letter_ok (c : Int) : Ok (intern_letter c) Yes := by
 unfold intern_letter strings_IndexByte internal_stringslite_IndexByte
 repeat' (first | (with_reducible first | exact ok_yes | exact ok_inrY | exact ok_inlY | refine ok_nite (fun _ => ?_) fun _ => ?_ | refine ok_ite (fun _ => ?_) fun _ => ?_ | refine ok_not (fun _ => ?_) fun _ => ?_ | refine ok_cond (fun _ => ?_) fun _ => ?_) | (with_reducible refine ok_next ?_ ?_ ?_ <;> (first | assumption | omega | rw [w64_of] <;> omega)) | with_reducible refine ok_bind (ok_idx (by (first | assumption | omega | rw [w64_of] <;> omega)) (by (first | assumption | omega | rw [w64_of] <;> omega))) (fun _ _ => ?_) | (with_reducible refine ok_bind (Q := Yes) ?_ fun _ _ => ?_) | dsimp only)
theorem intern_Name_ok (s : ByteArray) (h : s.size ≤ 9223372036854775807) : Ok (intern_Name s) Yes := by
 unfold intern_Name
 refine ok_bind (Q := Yes) ?_ (fun v _ => ?_)
 ·repeat' (first | (with_reducible first | exact ok_yes | exact ok_inrY | exact ok_inlY | refine ok_nite (fun _ => ?_) fun _ => ?_ | refine ok_ite (fun _ => ?_) fun _ => ?_ | refine ok_not (fun _ => ?_) fun _ => ?_ | refine ok_cond (fun _ => ?_) fun _ => ?_) | (with_reducible refine ok_next ?_ ?_ ?_ <;> (first | assumption | omega | rw [w64_of] <;> omega)) | with_reducible refine ok_bind (ok_idx (by (first | assumption | omega | rw [w64_of] <;> omega)) (by (first | assumption | omega | rw [w64_of] <;> omega))) (fun _ _ => ?_) | (with_reducible refine ok_bind (Q := Yes) ?_ fun _ _ => ?_) | dsimp only)
 refine ok_cond (fun _ => ok_some trivial) (fun _ => ?_)
 have e : s.data.toList.length = s.size := by rw [Array.length_toList]; rfl
 refine ok_bindS (Q := Yes) (ok_up s.size h fun i h1 h2 => ?_) (fun _ _ => ?_) (fun _ _ => ?_)
 ·unfold intern_Name_L1
  repeat' (first | (with_reducible first | exact ok_yes | exact ok_inrY | exact ok_inlY | refine ok_nite (fun _ => ?_) fun _ => ?_ | refine ok_ite (fun _ => ?_) fun _ => ?_ | refine ok_not (fun _ => ?_) fun _ => ?_ | refine ok_cond (fun _ => ?_) fun _ => ?_) | (with_reducible refine ok_next ?_ ?_ ?_ <;> (first | assumption | omega | rw [w64_of] <;> omega)) | with_reducible refine ok_bind (ok_idx (by (first | assumption | omega | rw [w64_of] <;> omega)) (by (first | assumption | omega | rw [w64_of] <;> omega))) (fun _ _ => ?_) | (with_reducible refine Ok.yes (ok_idx ?_ (by rw [e]; (first | assumption | omega | rw [w64_of] <;> omega))) <;> (first | assumption | omega | rw [w64_of] <;> omega)) | (with_reducible refine Ok.yes (intern_letter_ok _) <;> (first | assumption | omega | rw [w64_of] <;> omega)) | (with_reducible refine ok_bind (Q := Yes) ?_ fun _ _ => ?_) | dsimp only)
 ·repeat' (first | (with_reducible first | exact ok_yes | exact ok_inrY | exact ok_inlY | refine ok_nite (fun _ => ?_) fun _ => ?_ | refine ok_ite (fun _ => ?_) fun _ => ?_ | refine ok_not (fun _ => ?_) fun _ => ?_ | refine ok_cond (fun _ => ?_) fun _ => ?_) | (with_reducible refine ok_next ?_ ?_ ?_ <;> (first | assumption | omega | rw [w64_of] <;> omega)) | with_reducible refine ok_bind (ok_idx (by (first | assumption | omega | rw [w64_of] <;> omega)) (by (first | assumption | omega | rw [w64_of] <;> omega))) (fun _ _ => ?_) | (with_reducible refine ok_bind (Q := Yes) ?_ fun _ _ => ?_) | dsimp only)
 ·repeat' (first | (with_reducible first | exact ok_yes | exact ok_inrY | exact ok_inlY | refine ok_nite (fun _ => ?_) fun _ => ?_ | refine ok_ite (fun _ => ?_) fun _ => ?_ | refine ok_not (fun _ => ?_) fun _ => ?_ | refine ok_cond (fun _ => ?_) fun _ => ?_) | (with_reducible refine ok_next ?_ ?_ ?_ <;> (first | assumption | omega | rw [w64_of] <;> omega)) | with_reducible refine ok_bind (ok_idx (by (first | assumption | omega | rw [w64_of] <;> omega)) (by (first | assumption | omega | rw [w64_of] <;> omega))) (fun _ _ => ?_) | (with_reducible refine ok_bind (Q := Yes) ?_ fun _ _ => ?_) | dsimp only)
abbrev okN (s : ByteArray) : Prop := s.size ≤ 9223372036854775807
theorem producer_Thread_ok (t : api_Thread) (h : okN t.fName) : Ok (producer_Thread t) Yes := by
 unfold producer_Thread
 repeat' (first | (with_reducible first | exact ok_yes | exact ok_inrY | exact ok_inlY | refine ok_nite (fun _ => ?_) fun _ => ?_ | refine ok_ite (fun _ => ?_) fun _ => ?_ | refine ok_not (fun _ => ?_) fun _ => ?_ | refine ok_cond (fun _ => ?_) fun _ => ?_) | (with_reducible refine ok_next ?_ ?_ ?_ <;> (first | assumption | omega | rw [w64_of] <;> omega)) | with_reducible refine ok_bind (ok_idx (by (first | assumption | omega | rw [w64_of] <;> omega)) (by (first | assumption | omega | rw [w64_of] <;> omega))) (fun _ _ => ?_) | (with_reducible refine Ok.yes (intern_Name_ok _ h) <;> (first | assumption | omega | rw [w64_of] <;> omega)) | (with_reducible refine ok_bind (Q := Yes) ?_ fun _ _ => ?_) | dsimp only)
theorem spans_Valid_ok (s : api_Span) : Ok (spans_Valid s) Yes := by
 unfold spans_Valid
 repeat' (first | (with_reducible first | exact ok_yes | exact ok_inrY | exact ok_inlY | refine ok_nite (fun _ => ?_) fun _ => ?_ | refine ok_ite (fun _ => ?_) fun _ => ?_ | refine ok_not (fun _ => ?_) fun _ => ?_ | refine ok_cond (fun _ => ?_) fun _ => ?_) | (with_reducible refine ok_next ?_ ?_ ?_ <;> (first | assumption | omega | rw [w64_of] <;> omega)) | with_reducible refine ok_bind (ok_idx (by (first | assumption | omega | rw [w64_of] <;> omega)) (by (first | assumption | omega | rw [w64_of] <;> omega))) (fun _ _ => ?_) | (with_reducible refine ok_bind (Q := Yes) ?_ fun _ _ => ?_) | dsimp only)
theorem cmp_Compare_int_ok (a b : Int) : Ok (cmp_Compare_int a b) Yes := by
 unfold cmp_Compare_int cmp_isNaN_int
 repeat' (first | (with_reducible first | exact ok_yes | exact ok_inrY | exact ok_inlY | refine ok_nite (fun _ => ?_) fun _ => ?_ | refine ok_ite (fun _ => ?_) fun _ => ?_ | refine ok_not (fun _ => ?_) fun _ => ?_ | refine ok_cond (fun _ => ?_) fun _ => ?_) | (with_reducible refine ok_next ?_ ?_ ?_ <;> (first | assumption | omega | rw [w64_of] <;> omega)) | with_reducible refine ok_bind (ok_idx (by (first | assumption | omega | rw [w64_of] <;> omega)) (by (first | assumption | omega | rw [w64_of] <;> omega))) (fun _ _ => ?_) | (with_reducible refine ok_bind (Q := Yes) ?_ fun _ _ => ?_) | dsimp only)
theorem cmp_Or_int_ok (l : List Int) (h : l.length ≤ 9223372036854775807) : Ok (cmp_Or_int l) Yes := by
 unfold cmp_Or_int
 refine ok_bindS (Q := Yes) (ok_up l.length (by omega) fun i h1 h2 => ?_) (fun _ _ => ?_) (fun _ _ => ?_)
 ·unfold cmp_Or_int_L1
  repeat' (first | (with_reducible first | exact ok_yes | exact ok_inrY | exact ok_inlY | refine ok_nite (fun _ => ?_) fun _ => ?_ | refine ok_ite (fun _ => ?_) fun _ => ?_ | refine ok_not (fun _ => ?_) fun _ => ?_ | refine ok_cond (fun _ => ?_) fun _ => ?_) | (with_reducible refine ok_next ?_ ?_ ?_ <;> (first | assumption | omega | rw [w64_of] <;> omega)) | with_reducible refine ok_bind (ok_idx (by (first | assumption | omega | rw [w64_of] <;> omega)) (by (first | assumption | omega | rw [w64_of] <;> omega))) (fun _ _ => ?_) | (with_reducible refine ok_bind (Q := Yes) ?_ fun _ _ => ?_) | dsimp only)
 ·repeat' (first | (with_reducible first | exact ok_yes | exact ok_inrY | exact ok_inlY | refine ok_nite (fun _ => ?_) fun _ => ?_ | refine ok_ite (fun _ => ?_) fun _ => ?_ | refine ok_not (fun _ => ?_) fun _ => ?_ | refine ok_cond (fun _ => ?_) fun _ => ?_) | (with_reducible refine ok_next ?_ ?_ ?_ <;> (first | assumption | omega | rw [w64_of] <;> omega)) | with_reducible refine ok_bind (ok_idx (by (first | assumption | omega | rw [w64_of] <;> omega)) (by (first | assumption | omega | rw [w64_of] <;> omega))) (fun _ _ => ?_) | (with_reducible refine ok_bind (Q := Yes) ?_ fun _ _ => ?_) | dsimp only)
 ·repeat' (first | (with_reducible first | exact ok_yes | exact ok_inrY | exact ok_inlY | refine ok_nite (fun _ => ?_) fun _ => ?_ | refine ok_ite (fun _ => ?_) fun _ => ?_ | refine ok_not (fun _ => ?_) fun _ => ?_ | refine ok_cond (fun _ => ?_) fun _ => ?_) | (with_reducible refine ok_next ?_ ?_ ?_ <;> (first | assumption | omega | rw [w64_of] <;> omega)) | with_reducible refine ok_bind (ok_idx (by (first | assumption | omega | rw [w64_of] <;> omega)) (by (first | assumption | omega | rw [w64_of] <;> omega))) (fun _ _ => ?_) | (with_reducible refine ok_bind (Q := Yes) ?_ fun _ _ => ?_) | dsimp only)
theorem slice_compare_ok (a b : api_Slice) : Ok (slice_compare a b) Yes := by
 unfold slice_compare
 repeat' (first | (with_reducible first | exact ok_yes | exact ok_inrY | exact ok_inlY | refine ok_nite (fun _ => ?_) fun _ => ?_ | refine ok_ite (fun _ => ?_) fun _ => ?_ | refine ok_not (fun _ => ?_) fun _ => ?_ | refine ok_cond (fun _ => ?_) fun _ => ?_) | (with_reducible refine ok_next ?_ ?_ ?_ <;> (first | assumption | omega | rw [w64_of] <;> omega)) | with_reducible refine ok_bind (ok_idx (by (first | assumption | omega | rw [w64_of] <;> omega)) (by (first | assumption | omega | rw [w64_of] <;> omega))) (fun _ _ => ?_) | (with_reducible refine Ok.yes (cmp_Compare_int_ok _ _) <;> (first | assumption | omega | rw [w64_of] <;> omega)) | (with_reducible refine Ok.yes (cmp_Or_int_ok _ (Nat.le_of_ble_eq_true rfl)) <;> (first | assumption | omega | rw [w64_of] <;> omega)) | (with_reducible refine ok_bind (Q := Yes) ?_ fun _ _ => ?_) | dsimp only)
theorem intern_Frames_ok (l : List ByteArray) (h : l.length ≤ 9223372036854775807) (hx : ∀ x ∈ l, okN x) : Ok (intern_Frames l) Yes := by
 unfold intern_Frames
 refine ok_ite (fun _ => ok_yes) (fun _ => ?_)
 refine ok_bindS (Q := Yes) (ok_up l.length (by omega) fun i h1 h2 => ?_) (fun _ _ => ?_) (fun _ _ => ?_)
 ·unfold intern_Frames_L1
  repeat' (first | (with_reducible first | exact ok_yes | exact ok_inrY | exact ok_inlY | refine ok_nite (fun _ => ?_) fun _ => ?_ | refine ok_ite (fun _ => ?_) fun _ => ?_ | refine ok_not (fun _ => ?_) fun _ => ?_ | refine ok_cond (fun _ => ?_) fun _ => ?_) | (with_reducible refine ok_next ?_ ?_ ?_ <;> (first | assumption | omega | rw [w64_of] <;> omega)) | with_reducible refine ok_bind (ok_idx (by (first | assumption | omega | rw [w64_of] <;> omega)) (by (first | assumption | omega | rw [w64_of] <;> omega))) (fun _ _ => ?_) | (with_reducible refine Ok.yes (intern_Name_ok _ (hx _ (List.mem_of_getElem? (by assumption)))) <;> (first | assumption | omega | rw [w64_of] <;> omega)) | (with_reducible refine ok_bind (Q := Yes) ?_ fun _ _ => ?_) | dsimp only)
 ·repeat' (first | (with_reducible first | exact ok_yes | exact ok_inrY | exact ok_inlY | refine ok_nite (fun _ => ?_) fun _ => ?_ | refine ok_ite (fun _ => ?_) fun _ => ?_ | refine ok_not (fun _ => ?_) fun _ => ?_ | refine ok_cond (fun _ => ?_) fun _ => ?_) | (with_reducible refine ok_next ?_ ?_ ?_ <;> (first | assumption | omega | rw [w64_of] <;> omega)) | with_reducible refine ok_bind (ok_idx (by (first | assumption | omega | rw [w64_of] <;> omega)) (by (first | assumption | omega | rw [w64_of] <;> omega))) (fun _ _ => ?_) | (with_reducible refine Ok.yes (intern_Name_ok _ (hx _ (List.mem_of_getElem? (by assumption)))) <;> (first | assumption | omega | rw [w64_of] <;> omega)) | (with_reducible refine ok_bind (Q := Yes) ?_ fun _ _ => ?_) | dsimp only)
 ·repeat' (first | (with_reducible first | exact ok_yes | exact ok_inrY | exact ok_inlY | refine ok_nite (fun _ => ?_) fun _ => ?_ | refine ok_ite (fun _ => ?_) fun _ => ?_ | refine ok_not (fun _ => ?_) fun _ => ?_ | refine ok_cond (fun _ => ?_) fun _ => ?_) | (with_reducible refine ok_next ?_ ?_ ?_ <;> (first | assumption | omega | rw [w64_of] <;> omega)) | with_reducible refine ok_bind (ok_idx (by (first | assumption | omega | rw [w64_of] <;> omega)) (by (first | assumption | omega | rw [w64_of] <;> omega))) (fun _ _ => ?_) | (with_reducible refine Ok.yes (intern_Name_ok _ (hx _ (List.mem_of_getElem? (by assumption)))) <;> (first | assumption | omega | rw [w64_of] <;> omega)) | (with_reducible refine ok_bind (Q := Yes) ?_ fun _ _ => ?_) | dsimp only)
structure Siz (t : api_Trace) : Prop where
 th : t.fThreads.length ≤ 9223372036854775807
 sl : t.fSlices.length ≤ 9223372036854775807
 st : t.fStates.length ≤ 9223372036854775807
 fl : t.fFlows.length ≤ 9223372036854775807
 sa : t.fSamples.length ≤ 9223372036854775807
 sp : t.fSteps.length ≤ 9223372036854775807
 bl : t.fBlocks.length ≤ 9223372036854775807
 lo : t.fLost.length ≤ 9223372036854775807
 nTh : ∀ x ∈ t.fThreads, okN x.fName
 nSl : ∀ x ∈ t.fSlices, okN x.fName
 nSa : ∀ x ∈ t.fSamples, x.fStack.length ≤ 9223372036854775807 ∧ ∀ y ∈ x.fStack, okN y
 nSp : ∀ x ∈ t.fSteps, okN x.fName
 nBl : ∀ x ∈ t.fBlocks, x.fStack.length ≤ 9223372036854775807 ∧ ∀ y ∈ x.fStack, okN y
theorem trace_threads_ok (t : api_Trace) (hl : t.fThreads.length ≤ 9223372036854775807) (hn : ∀ x ∈ t.fThreads, okN x.fName) : Ok (trace_threads t) (InlR (fun r => r.2 ≠ 0) Yes) := by
 unfold trace_threads
 refine ok_ite (fun _ => ok_inl (by simp)) (fun _ => ?_)
 refine ok_bindS (Q := InlR Yes (InlR (fun r => r.2 ≠ 0) Yes)) (ok_up2 t.fThreads.length (fun _ _ => True) hl trivial (fun a i _ h1 h2 => ?_)) (fun _ _ => ?_) (fun r hr => ?_)
 ·unfold trace_threads_L1
  dsimp only
  refine ok_ite (fun h => ?_) (fun _ => ok_inr trivial)
  refine ok_bind (ok_idx h1 h) (fun y hy => ?_)
  refine ok_bind (producer_Thread_ok _ (hn _ (List.mem_of_getElem? hy))) (fun r _ => ?_)
  refine ok_nite (fun h0 => ok_inr h0) (fun _ => ?_)
  refine ok_cond (fun _ => ok_inr (by simp [InlR])) (fun _ => ?_)
  exact ok_next2 (Inv := fun _ _ => True) trivial h1 h hl
 ·exact ok_inr trivial
 ·exact ⟨_, rfl, hr⟩
theorem trace_tables_1_ok (a) : Tot (trace_tables_1 a) := ⟨_, rfl, trivial⟩
theorem trace_known_api_Slice_k1_ok (e : Int) (m) (l : List api_Slice) (h : l.length ≤ 9223372036854775807) : Tot (trace_known_api_Slice_k1 e m l) := by
 unfold trace_known_api_Slice_k1
 refine ok_nite (fun _ => ok_yes) (fun _ => ?_)
 refine ok_bindS (Q := Yes) (ok_up l.length (by omega) fun i h1 h2 => ?_) (fun _ _ => ?_) (fun _ _ => ?_)
 ·unfold trace_known_api_Slice_k1_L1
  repeat' (first | (with_reducible first | exact ok_yes | exact ok_inrY | exact ok_inlY | refine ok_nite (fun _ => ?_) fun _ => ?_ | refine ok_ite (fun _ => ?_) fun _ => ?_ | refine ok_not (fun _ => ?_) fun _ => ?_ | refine ok_cond (fun _ => ?_) fun _ => ?_) | (with_reducible refine ok_next ?_ ?_ ?_ <;> (first | assumption | omega | rw [w64_of] <;> omega)) | with_reducible refine ok_bind (ok_idx (by (first | assumption | omega | rw [w64_of] <;> omega)) (by (first | assumption | omega | rw [w64_of] <;> omega))) (fun _ _ => ?_) | (with_reducible refine Ok.yes (trace_tables_1_ok _) <;> (first | assumption | omega | rw [w64_of] <;> omega)) | (with_reducible refine ok_bind (Q := Yes) ?_ fun _ _ => ?_) | dsimp only)
 ·repeat' (first | (with_reducible first | exact ok_yes | exact ok_inrY | exact ok_inlY | refine ok_nite (fun _ => ?_) fun _ => ?_ | refine ok_ite (fun _ => ?_) fun _ => ?_ | refine ok_not (fun _ => ?_) fun _ => ?_ | refine ok_cond (fun _ => ?_) fun _ => ?_) | (with_reducible refine ok_next ?_ ?_ ?_ <;> (first | assumption | omega | rw [w64_of] <;> omega)) | with_reducible refine ok_bind (ok_idx (by (first | assumption | omega | rw [w64_of] <;> omega)) (by (first | assumption | omega | rw [w64_of] <;> omega))) (fun _ _ => ?_) | (with_reducible refine Ok.yes (trace_tables_1_ok _) <;> (first | assumption | omega | rw [w64_of] <;> omega)) | (with_reducible refine ok_bind (Q := Yes) ?_ fun _ _ => ?_) | dsimp only)
 ·repeat' (first | (with_reducible first | exact ok_yes | exact ok_inrY | exact ok_inlY | refine ok_nite (fun _ => ?_) fun _ => ?_ | refine ok_ite (fun _ => ?_) fun _ => ?_ | refine ok_not (fun _ => ?_) fun _ => ?_ | refine ok_cond (fun _ => ?_) fun _ => ?_) | (with_reducible refine ok_next ?_ ?_ ?_ <;> (first | assumption | omega | rw [w64_of] <;> omega)) | with_reducible refine ok_bind (ok_idx (by (first | assumption | omega | rw [w64_of] <;> omega)) (by (first | assumption | omega | rw [w64_of] <;> omega))) (fun _ _ => ?_) | (with_reducible refine Ok.yes (trace_tables_1_ok _) <;> (first | assumption | omega | rw [w64_of] <;> omega)) | (with_reducible refine ok_bind (Q := Yes) ?_ fun _ _ => ?_) | dsimp only)
theorem trace_tables_2_ok (a) : Tot (trace_tables_2 a) := ⟨_, rfl, trivial⟩
theorem trace_known_api_Flow_k1_ok (e : Int) (m) (l : List api_Flow) (h : l.length ≤ 9223372036854775807) : Tot (trace_known_api_Flow_k1 e m l) := by
 unfold trace_known_api_Flow_k1
 refine ok_nite (fun _ => ok_yes) (fun _ => ?_)
 refine ok_bindS (Q := Yes) (ok_up l.length (by omega) fun i h1 h2 => ?_) (fun _ _ => ?_) (fun _ _ => ?_)
 ·unfold trace_known_api_Flow_k1_L1
  repeat' (first | (with_reducible first | exact ok_yes | exact ok_inrY | exact ok_inlY | refine ok_nite (fun _ => ?_) fun _ => ?_ | refine ok_ite (fun _ => ?_) fun _ => ?_ | refine ok_not (fun _ => ?_) fun _ => ?_ | refine ok_cond (fun _ => ?_) fun _ => ?_) | (with_reducible refine ok_next ?_ ?_ ?_ <;> (first | assumption | omega | rw [w64_of] <;> omega)) | with_reducible refine ok_bind (ok_idx (by (first | assumption | omega | rw [w64_of] <;> omega)) (by (first | assumption | omega | rw [w64_of] <;> omega))) (fun _ _ => ?_) | (with_reducible refine Ok.yes (trace_tables_2_ok _) <;> (first | assumption | omega | rw [w64_of] <;> omega)) | (with_reducible refine ok_bind (Q := Yes) ?_ fun _ _ => ?_) | dsimp only)
 ·repeat' (first | (with_reducible first | exact ok_yes | exact ok_inrY | exact ok_inlY | refine ok_nite (fun _ => ?_) fun _ => ?_ | refine ok_ite (fun _ => ?_) fun _ => ?_ | refine ok_not (fun _ => ?_) fun _ => ?_ | refine ok_cond (fun _ => ?_) fun _ => ?_) | (with_reducible refine ok_next ?_ ?_ ?_ <;> (first | assumption | omega | rw [w64_of] <;> omega)) | with_reducible refine ok_bind (ok_idx (by (first | assumption | omega | rw [w64_of] <;> omega)) (by (first | assumption | omega | rw [w64_of] <;> omega))) (fun _ _ => ?_) | (with_reducible refine Ok.yes (trace_tables_2_ok _) <;> (first | assumption | omega | rw [w64_of] <;> omega)) | (with_reducible refine ok_bind (Q := Yes) ?_ fun _ _ => ?_) | dsimp only)
 ·repeat' (first | (with_reducible first | exact ok_yes | exact ok_inrY | exact ok_inlY | refine ok_nite (fun _ => ?_) fun _ => ?_ | refine ok_ite (fun _ => ?_) fun _ => ?_ | refine ok_not (fun _ => ?_) fun _ => ?_ | refine ok_cond (fun _ => ?_) fun _ => ?_) | (with_reducible refine ok_next ?_ ?_ ?_ <;> (first | assumption | omega | rw [w64_of] <;> omega)) | with_reducible refine ok_bind (ok_idx (by (first | assumption | omega | rw [w64_of] <;> omega)) (by (first | assumption | omega | rw [w64_of] <;> omega))) (fun _ _ => ?_) | (with_reducible refine Ok.yes (trace_tables_2_ok _) <;> (first | assumption | omega | rw [w64_of] <;> omega)) | (with_reducible refine ok_bind (Q := Yes) ?_ fun _ _ => ?_) | dsimp only)
theorem trace_tables_3_ok (a) : Tot (trace_tables_3 a) := ⟨_, rfl, trivial⟩
theorem trace_known_api_Flow_k2_ok (e : Int) (m) (l : List api_Flow) (h : l.length ≤ 9223372036854775807) : Tot (trace_known_api_Flow_k2 e m l) := by
 unfold trace_known_api_Flow_k2
 refine ok_nite (fun _ => ok_yes) (fun _ => ?_)
 refine ok_bindS (Q := Yes) (ok_up l.length (by omega) fun i h1 h2 => ?_) (fun _ _ => ?_) (fun _ _ => ?_)
 ·unfold trace_known_api_Flow_k2_L1
  repeat' (first | (with_reducible first | exact ok_yes | exact ok_inrY | exact ok_inlY | refine ok_nite (fun _ => ?_) fun _ => ?_ | refine ok_ite (fun _ => ?_) fun _ => ?_ | refine ok_not (fun _ => ?_) fun _ => ?_ | refine ok_cond (fun _ => ?_) fun _ => ?_) | (with_reducible refine ok_next ?_ ?_ ?_ <;> (first | assumption | omega | rw [w64_of] <;> omega)) | with_reducible refine ok_bind (ok_idx (by (first | assumption | omega | rw [w64_of] <;> omega)) (by (first | assumption | omega | rw [w64_of] <;> omega))) (fun _ _ => ?_) | (with_reducible refine Ok.yes (trace_tables_3_ok _) <;> (first | assumption | omega | rw [w64_of] <;> omega)) | (with_reducible refine ok_bind (Q := Yes) ?_ fun _ _ => ?_) | dsimp only)
 ·repeat' (first | (with_reducible first | exact ok_yes | exact ok_inrY | exact ok_inlY | refine ok_nite (fun _ => ?_) fun _ => ?_ | refine ok_ite (fun _ => ?_) fun _ => ?_ | refine ok_not (fun _ => ?_) fun _ => ?_ | refine ok_cond (fun _ => ?_) fun _ => ?_) | (with_reducible refine ok_next ?_ ?_ ?_ <;> (first | assumption | omega | rw [w64_of] <;> omega)) | with_reducible refine ok_bind (ok_idx (by (first | assumption | omega | rw [w64_of] <;> omega)) (by (first | assumption | omega | rw [w64_of] <;> omega))) (fun _ _ => ?_) | (with_reducible refine Ok.yes (trace_tables_3_ok _) <;> (first | assumption | omega | rw [w64_of] <;> omega)) | (with_reducible refine ok_bind (Q := Yes) ?_ fun _ _ => ?_) | dsimp only)
 ·repeat' (first | (with_reducible first | exact ok_yes | exact ok_inrY | exact ok_inlY | refine ok_nite (fun _ => ?_) fun _ => ?_ | refine ok_ite (fun _ => ?_) fun _ => ?_ | refine ok_not (fun _ => ?_) fun _ => ?_ | refine ok_cond (fun _ => ?_) fun _ => ?_) | (with_reducible refine ok_next ?_ ?_ ?_ <;> (first | assumption | omega | rw [w64_of] <;> omega)) | with_reducible refine ok_bind (ok_idx (by (first | assumption | omega | rw [w64_of] <;> omega)) (by (first | assumption | omega | rw [w64_of] <;> omega))) (fun _ _ => ?_) | (with_reducible refine Ok.yes (trace_tables_3_ok _) <;> (first | assumption | omega | rw [w64_of] <;> omega)) | (with_reducible refine ok_bind (Q := Yes) ?_ fun _ _ => ?_) | dsimp only)
theorem trace_tables_4_ok (a) : Tot (trace_tables_4 a) := ⟨_, rfl, trivial⟩
theorem trace_known_api_Sample_k1_ok (e : Int) (m) (l : List api_Sample) (h : l.length ≤ 9223372036854775807) : Tot (trace_known_api_Sample_k1 e m l) := by
 unfold trace_known_api_Sample_k1
 refine ok_nite (fun _ => ok_yes) (fun _ => ?_)
 refine ok_bindS (Q := Yes) (ok_up l.length (by omega) fun i h1 h2 => ?_) (fun _ _ => ?_) (fun _ _ => ?_)
 ·unfold trace_known_api_Sample_k1_L1
  repeat' (first | (with_reducible first | exact ok_yes | exact ok_inrY | exact ok_inlY | refine ok_nite (fun _ => ?_) fun _ => ?_ | refine ok_ite (fun _ => ?_) fun _ => ?_ | refine ok_not (fun _ => ?_) fun _ => ?_ | refine ok_cond (fun _ => ?_) fun _ => ?_) | (with_reducible refine ok_next ?_ ?_ ?_ <;> (first | assumption | omega | rw [w64_of] <;> omega)) | with_reducible refine ok_bind (ok_idx (by (first | assumption | omega | rw [w64_of] <;> omega)) (by (first | assumption | omega | rw [w64_of] <;> omega))) (fun _ _ => ?_) | (with_reducible refine Ok.yes (trace_tables_4_ok _) <;> (first | assumption | omega | rw [w64_of] <;> omega)) | (with_reducible refine ok_bind (Q := Yes) ?_ fun _ _ => ?_) | dsimp only)
 ·repeat' (first | (with_reducible first | exact ok_yes | exact ok_inrY | exact ok_inlY | refine ok_nite (fun _ => ?_) fun _ => ?_ | refine ok_ite (fun _ => ?_) fun _ => ?_ | refine ok_not (fun _ => ?_) fun _ => ?_ | refine ok_cond (fun _ => ?_) fun _ => ?_) | (with_reducible refine ok_next ?_ ?_ ?_ <;> (first | assumption | omega | rw [w64_of] <;> omega)) | with_reducible refine ok_bind (ok_idx (by (first | assumption | omega | rw [w64_of] <;> omega)) (by (first | assumption | omega | rw [w64_of] <;> omega))) (fun _ _ => ?_) | (with_reducible refine Ok.yes (trace_tables_4_ok _) <;> (first | assumption | omega | rw [w64_of] <;> omega)) | (with_reducible refine ok_bind (Q := Yes) ?_ fun _ _ => ?_) | dsimp only)
 ·repeat' (first | (with_reducible first | exact ok_yes | exact ok_inrY | exact ok_inlY | refine ok_nite (fun _ => ?_) fun _ => ?_ | refine ok_ite (fun _ => ?_) fun _ => ?_ | refine ok_not (fun _ => ?_) fun _ => ?_ | refine ok_cond (fun _ => ?_) fun _ => ?_) | (with_reducible refine ok_next ?_ ?_ ?_ <;> (first | assumption | omega | rw [w64_of] <;> omega)) | with_reducible refine ok_bind (ok_idx (by (first | assumption | omega | rw [w64_of] <;> omega)) (by (first | assumption | omega | rw [w64_of] <;> omega))) (fun _ _ => ?_) | (with_reducible refine Ok.yes (trace_tables_4_ok _) <;> (first | assumption | omega | rw [w64_of] <;> omega)) | (with_reducible refine ok_bind (Q := Yes) ?_ fun _ _ => ?_) | dsimp only)
theorem trace_tables_5_ok (a) : Tot (trace_tables_5 a) := ⟨_, rfl, trivial⟩
theorem trace_known_api_Block_k1_ok (e : Int) (m) (l : List api_Block) (h : l.length ≤ 9223372036854775807) : Tot (trace_known_api_Block_k1 e m l) := by
 unfold trace_known_api_Block_k1
 refine ok_nite (fun _ => ok_yes) (fun _ => ?_)
 refine ok_bindS (Q := Yes) (ok_up l.length (by omega) fun i h1 h2 => ?_) (fun _ _ => ?_) (fun _ _ => ?_)
 ·unfold trace_known_api_Block_k1_L1
  repeat' (first | (with_reducible first | exact ok_yes | exact ok_inrY | exact ok_inlY | refine ok_nite (fun _ => ?_) fun _ => ?_ | refine ok_ite (fun _ => ?_) fun _ => ?_ | refine ok_not (fun _ => ?_) fun _ => ?_ | refine ok_cond (fun _ => ?_) fun _ => ?_) | (with_reducible refine ok_next ?_ ?_ ?_ <;> (first | assumption | omega | rw [w64_of] <;> omega)) | with_reducible refine ok_bind (ok_idx (by (first | assumption | omega | rw [w64_of] <;> omega)) (by (first | assumption | omega | rw [w64_of] <;> omega))) (fun _ _ => ?_) | (with_reducible refine Ok.yes (trace_tables_5_ok _) <;> (first | assumption | omega | rw [w64_of] <;> omega)) | (with_reducible refine ok_bind (Q := Yes) ?_ fun _ _ => ?_) | dsimp only)
 ·repeat' (first | (with_reducible first | exact ok_yes | exact ok_inrY | exact ok_inlY | refine ok_nite (fun _ => ?_) fun _ => ?_ | refine ok_ite (fun _ => ?_) fun _ => ?_ | refine ok_not (fun _ => ?_) fun _ => ?_ | refine ok_cond (fun _ => ?_) fun _ => ?_) | (with_reducible refine ok_next ?_ ?_ ?_ <;> (first | assumption | omega | rw [w64_of] <;> omega)) | with_reducible refine ok_bind (ok_idx (by (first | assumption | omega | rw [w64_of] <;> omega)) (by (first | assumption | omega | rw [w64_of] <;> omega))) (fun _ _ => ?_) | (with_reducible refine Ok.yes (trace_tables_5_ok _) <;> (first | assumption | omega | rw [w64_of] <;> omega)) | (with_reducible refine ok_bind (Q := Yes) ?_ fun _ _ => ?_) | dsimp only)
 ·repeat' (first | (with_reducible first | exact ok_yes | exact ok_inrY | exact ok_inlY | refine ok_nite (fun _ => ?_) fun _ => ?_ | refine ok_ite (fun _ => ?_) fun _ => ?_ | refine ok_not (fun _ => ?_) fun _ => ?_ | refine ok_cond (fun _ => ?_) fun _ => ?_) | (with_reducible refine ok_next ?_ ?_ ?_ <;> (first | assumption | omega | rw [w64_of] <;> omega)) | with_reducible refine ok_bind (ok_idx (by (first | assumption | omega | rw [w64_of] <;> omega)) (by (first | assumption | omega | rw [w64_of] <;> omega))) (fun _ _ => ?_) | (with_reducible refine Ok.yes (trace_tables_5_ok _) <;> (first | assumption | omega | rw [w64_of] <;> omega)) | (with_reducible refine ok_bind (Q := Yes) ?_ fun _ _ => ?_) | dsimp only)
theorem trace_losses_k1_ok (m) (l : List api_Loss) (h : l.length ≤ 9223372036854775807) : Tot (trace_losses_k1 m l) := by
 unfold trace_losses_k1
 refine ok_bindS (Q := Yes) (ok_up l.length (by omega) fun i h1 h2 => ?_) (fun _ _ => ?_) (fun _ _ => ?_)
 ·unfold trace_losses_k1_L1
  repeat' (first | (with_reducible first | exact ok_yes | exact ok_inrY | exact ok_inlY | refine ok_nite (fun _ => ?_) fun _ => ?_ | refine ok_ite (fun _ => ?_) fun _ => ?_ | refine ok_not (fun _ => ?_) fun _ => ?_ | refine ok_cond (fun _ => ?_) fun _ => ?_) | (with_reducible refine ok_next ?_ ?_ ?_ <;> (first | assumption | omega | rw [w64_of] <;> omega)) | with_reducible refine ok_bind (ok_idx (by (first | assumption | omega | rw [w64_of] <;> omega)) (by (first | assumption | omega | rw [w64_of] <;> omega))) (fun _ _ => ?_) | (with_reducible refine Ok.yes (spans_Valid_ok _) <;> (first | assumption | omega | rw [w64_of] <;> omega)) | (with_reducible refine ok_bind (Q := Yes) ?_ fun _ _ => ?_) | dsimp only)
 ·repeat' (first | (with_reducible first | exact ok_yes | exact ok_inrY | exact ok_inlY | refine ok_nite (fun _ => ?_) fun _ => ?_ | refine ok_ite (fun _ => ?_) fun _ => ?_ | refine ok_not (fun _ => ?_) fun _ => ?_ | refine ok_cond (fun _ => ?_) fun _ => ?_) | (with_reducible refine ok_next ?_ ?_ ?_ <;> (first | assumption | omega | rw [w64_of] <;> omega)) | with_reducible refine ok_bind (ok_idx (by (first | assumption | omega | rw [w64_of] <;> omega)) (by (first | assumption | omega | rw [w64_of] <;> omega))) (fun _ _ => ?_) | (with_reducible refine Ok.yes (spans_Valid_ok _) <;> (first | assumption | omega | rw [w64_of] <;> omega)) | (with_reducible refine ok_bind (Q := Yes) ?_ fun _ _ => ?_) | dsimp only)
 ·repeat' (first | (with_reducible first | exact ok_yes | exact ok_inrY | exact ok_inlY | refine ok_nite (fun _ => ?_) fun _ => ?_ | refine ok_ite (fun _ => ?_) fun _ => ?_ | refine ok_not (fun _ => ?_) fun _ => ?_ | refine ok_cond (fun _ => ?_) fun _ => ?_) | (with_reducible refine ok_next ?_ ?_ ?_ <;> (first | assumption | omega | rw [w64_of] <;> omega)) | with_reducible refine ok_bind (ok_idx (by (first | assumption | omega | rw [w64_of] <;> omega)) (by (first | assumption | omega | rw [w64_of] <;> omega))) (fun _ _ => ?_) | (with_reducible refine Ok.yes (spans_Valid_ok _) <;> (first | assumption | omega | rw [w64_of] <;> omega)) | (with_reducible refine ok_bind (Q := Yes) ?_ fun _ _ => ?_) | dsimp only)
theorem flow_bad_ok (a b : Int) : Tot (flow_bad a b) := by
 unfold flow_bad
 repeat' (first | (with_reducible first | exact ok_yes | exact ok_inrY | exact ok_inlY | refine ok_nite (fun _ => ?_) fun _ => ?_ | refine ok_ite (fun _ => ?_) fun _ => ?_ | refine ok_not (fun _ => ?_) fun _ => ?_ | refine ok_cond (fun _ => ?_) fun _ => ?_) | (with_reducible refine ok_next ?_ ?_ ?_ <;> (first | assumption | omega | rw [w64_of] <;> omega)) | with_reducible refine ok_bind (ok_idx (by (first | assumption | omega | rw [w64_of] <;> omega)) (by (first | assumption | omega | rw [w64_of] <;> omega))) (fun _ _ => ?_) | (with_reducible refine ok_bind (Q := Yes) ?_ fun _ _ => ?_) | dsimp only)
theorem sample_good_ok (a) : Tot (sample_good a) := by
 unfold sample_good
 repeat' (first | (with_reducible first | exact ok_yes | exact ok_inrY | exact ok_inlY | refine ok_nite (fun _ => ?_) fun _ => ?_ | refine ok_ite (fun _ => ?_) fun _ => ?_ | refine ok_not (fun _ => ?_) fun _ => ?_ | refine ok_cond (fun _ => ?_) fun _ => ?_) | (with_reducible refine ok_next ?_ ?_ ?_ <;> (first | assumption | omega | rw [w64_of] <;> omega)) | with_reducible refine ok_bind (ok_idx (by (first | assumption | omega | rw [w64_of] <;> omega)) (by (first | assumption | omega | rw [w64_of] <;> omega))) (fun _ _ => ?_) | (with_reducible refine ok_bind (Q := Yes) ?_ fun _ _ => ?_) | dsimp only)
theorem num_In_ok (a) : Tot (num_In a) := by
 unfold num_In
 repeat' (first | (with_reducible first | exact ok_yes | exact ok_inrY | exact ok_inlY | refine ok_nite (fun _ => ?_) fun _ => ?_ | refine ok_ite (fun _ => ?_) fun _ => ?_ | refine ok_not (fun _ => ?_) fun _ => ?_ | refine ok_cond (fun _ => ?_) fun _ => ?_) | (with_reducible refine ok_next ?_ ?_ ?_ <;> (first | assumption | omega | rw [w64_of] <;> omega)) | with_reducible refine ok_bind (ok_idx (by (first | assumption | omega | rw [w64_of] <;> omega)) (by (first | assumption | omega | rw [w64_of] <;> omega))) (fun _ _ => ?_) | (with_reducible refine ok_bind (Q := Yes) ?_ fun _ _ => ?_) | dsimp only)
theorem cmp_Compare_string_ok (a b) : Tot (cmp_Compare_string a b) := by
 unfold cmp_Compare_string cmp_isNaN_string
 repeat' (first | (with_reducible first | exact ok_yes | exact ok_inrY | exact ok_inlY | refine ok_nite (fun _ => ?_) fun _ => ?_ | refine ok_ite (fun _ => ?_) fun _ => ?_ | refine ok_not (fun _ => ?_) fun _ => ?_ | refine ok_cond (fun _ => ?_) fun _ => ?_) | (with_reducible refine ok_next ?_ ?_ ?_ <;> (first | assumption | omega | rw [w64_of] <;> omega)) | with_reducible refine ok_bind (ok_idx (by (first | assumption | omega | rw [w64_of] <;> omega)) (by (first | assumption | omega | rw [w64_of] <;> omega))) (fun _ _ => ?_) | (with_reducible refine ok_bind (Q := Yes) ?_ fun _ _ => ?_) | dsimp only)
theorem counter_order_ok (a b) : Tot (counter_order a b) := by
 unfold counter_order
 repeat' (first | (with_reducible first | exact ok_yes | exact ok_inrY | exact ok_inlY | refine ok_nite (fun _ => ?_) fun _ => ?_ | refine ok_ite (fun _ => ?_) fun _ => ?_ | refine ok_not (fun _ => ?_) fun _ => ?_ | refine ok_cond (fun _ => ?_) fun _ => ?_) | (with_reducible refine ok_next ?_ ?_ ?_ <;> (first | assumption | omega | rw [w64_of] <;> omega)) | with_reducible refine ok_bind (ok_idx (by (first | assumption | omega | rw [w64_of] <;> omega)) (by (first | assumption | omega | rw [w64_of] <;> omega))) (fun _ _ => ?_) | (with_reducible refine Ok.yes (cmp_Compare_string_ok _ _) <;> (first | assumption | omega | rw [w64_of] <;> omega)) | (with_reducible refine Ok.yes (cmp_Compare_int_ok _ _) <;> (first | assumption | omega | rw [w64_of] <;> omega)) | (with_reducible refine Ok.yes (cmp_Or_int_ok _ (Nat.le_of_ble_eq_true rfl)) <;> (first | assumption | omega | rw [w64_of] <;> omega)) | (with_reducible refine ok_bind (Q := Yes) ?_ fun _ _ => ?_) | dsimp only)
theorem flow_Check_ok (l : List api_Flow) (h : l.length ≤ 9223372036854775807) : Tot (flow_Check l) := by
 unfold flow_Check
 refine ok_bindS (Q := Yes) (ok_up l.length (by omega) fun i h1 h2 => ?_) (fun _ _ => ?_) (fun _ _ => ?_)
 ·unfold flow_Check_L1
  repeat' (first | (with_reducible first | exact ok_yes | exact ok_inrY | exact ok_inlY | refine ok_nite (fun _ => ?_) fun _ => ?_ | refine ok_ite (fun _ => ?_) fun _ => ?_ | refine ok_not (fun _ => ?_) fun _ => ?_ | refine ok_cond (fun _ => ?_) fun _ => ?_) | (with_reducible refine ok_next ?_ ?_ ?_ <;> (first | assumption | omega | rw [w64_of] <;> omega)) | with_reducible refine ok_bind (ok_idx (by (first | assumption | omega | rw [w64_of] <;> omega)) (by (first | assumption | omega | rw [w64_of] <;> omega))) (fun _ _ => ?_) | (with_reducible refine Ok.yes (flow_bad_ok _ _) <;> (first | assumption | omega | rw [w64_of] <;> omega)) | (with_reducible refine ok_bind (Q := Yes) ?_ fun _ _ => ?_) | dsimp only)
 ·repeat' (first | (with_reducible first | exact ok_yes | exact ok_inrY | exact ok_inlY | refine ok_nite (fun _ => ?_) fun _ => ?_ | refine ok_ite (fun _ => ?_) fun _ => ?_ | refine ok_not (fun _ => ?_) fun _ => ?_ | refine ok_cond (fun _ => ?_) fun _ => ?_) | (with_reducible refine ok_next ?_ ?_ ?_ <;> (first | assumption | omega | rw [w64_of] <;> omega)) | with_reducible refine ok_bind (ok_idx (by (first | assumption | omega | rw [w64_of] <;> omega)) (by (first | assumption | omega | rw [w64_of] <;> omega))) (fun _ _ => ?_) | (with_reducible refine Ok.yes (flow_bad_ok _ _) <;> (first | assumption | omega | rw [w64_of] <;> omega)) | (with_reducible refine ok_bind (Q := Yes) ?_ fun _ _ => ?_) | dsimp only)
 ·repeat' (first | (with_reducible first | exact ok_yes | exact ok_inrY | exact ok_inlY | refine ok_nite (fun _ => ?_) fun _ => ?_ | refine ok_ite (fun _ => ?_) fun _ => ?_ | refine ok_not (fun _ => ?_) fun _ => ?_ | refine ok_cond (fun _ => ?_) fun _ => ?_) | (with_reducible refine ok_next ?_ ?_ ?_ <;> (first | assumption | omega | rw [w64_of] <;> omega)) | with_reducible refine ok_bind (ok_idx (by (first | assumption | omega | rw [w64_of] <;> omega)) (by (first | assumption | omega | rw [w64_of] <;> omega))) (fun _ _ => ?_) | (with_reducible refine Ok.yes (flow_bad_ok _ _) <;> (first | assumption | omega | rw [w64_of] <;> omega)) | (with_reducible refine ok_bind (Q := Yes) ?_ fun _ _ => ?_) | dsimp only)
theorem sample_Check_ok (l : List api_Sample) (h : l.length ≤ 9223372036854775807) (hx : ∀ x ∈ l, x.fStack.length ≤ 9223372036854775807 ∧ ∀ y ∈ x.fStack, okN y) : Tot (sample_Check l) := by
 unfold sample_Check
 refine ok_bindS (Q := Yes) (ok_up l.length (by omega) fun i h1 h2 => ?_) (fun _ _ => ?_) (fun _ _ => ?_)
 ·unfold sample_Check_L1
  repeat' (first | (with_reducible first | exact ok_yes | exact ok_inrY | exact ok_inlY | refine ok_nite (fun _ => ?_) fun _ => ?_ | refine ok_ite (fun _ => ?_) fun _ => ?_ | refine ok_not (fun _ => ?_) fun _ => ?_ | refine ok_cond (fun _ => ?_) fun _ => ?_) | (with_reducible refine ok_next ?_ ?_ ?_ <;> (first | assumption | omega | rw [w64_of] <;> omega)) | with_reducible refine ok_bind (ok_idx (by (first | assumption | omega | rw [w64_of] <;> omega)) (by (first | assumption | omega | rw [w64_of] <;> omega))) (fun _ _ => ?_) | (with_reducible refine Ok.yes (sample_good_ok _) <;> (first | assumption | omega | rw [w64_of] <;> omega)) | (with_reducible refine Ok.yes (intern_Frames_ok _ (hx _ (List.mem_of_getElem? (by assumption))).1 (hx _ (List.mem_of_getElem? (by assumption))).2) <;> (first | assumption | omega | rw [w64_of] <;> omega)) | (with_reducible refine ok_bind (Q := Yes) ?_ fun _ _ => ?_) | dsimp only)
 ·repeat' (first | (with_reducible first | exact ok_yes | exact ok_inrY | exact ok_inlY | refine ok_nite (fun _ => ?_) fun _ => ?_ | refine ok_ite (fun _ => ?_) fun _ => ?_ | refine ok_not (fun _ => ?_) fun _ => ?_ | refine ok_cond (fun _ => ?_) fun _ => ?_) | (with_reducible refine ok_next ?_ ?_ ?_ <;> (first | assumption | omega | rw [w64_of] <;> omega)) | with_reducible refine ok_bind (ok_idx (by (first | assumption | omega | rw [w64_of] <;> omega)) (by (first | assumption | omega | rw [w64_of] <;> omega))) (fun _ _ => ?_) | (with_reducible refine Ok.yes (sample_good_ok _) <;> (first | assumption | omega | rw [w64_of] <;> omega)) | (with_reducible refine Ok.yes (intern_Frames_ok _ (hx _ (List.mem_of_getElem? (by assumption))).1 (hx _ (List.mem_of_getElem? (by assumption))).2) <;> (first | assumption | omega | rw [w64_of] <;> omega)) | (with_reducible refine ok_bind (Q := Yes) ?_ fun _ _ => ?_) | dsimp only)
 ·repeat' (first | (with_reducible first | exact ok_yes | exact ok_inrY | exact ok_inlY | refine ok_nite (fun _ => ?_) fun _ => ?_ | refine ok_ite (fun _ => ?_) fun _ => ?_ | refine ok_not (fun _ => ?_) fun _ => ?_ | refine ok_cond (fun _ => ?_) fun _ => ?_) | (with_reducible refine ok_next ?_ ?_ ?_ <;> (first | assumption | omega | rw [w64_of] <;> omega)) | with_reducible refine ok_bind (ok_idx (by (first | assumption | omega | rw [w64_of] <;> omega)) (by (first | assumption | omega | rw [w64_of] <;> omega))) (fun _ _ => ?_) | (with_reducible refine Ok.yes (sample_good_ok _) <;> (first | assumption | omega | rw [w64_of] <;> omega)) | (with_reducible refine Ok.yes (intern_Frames_ok _ (hx _ (List.mem_of_getElem? (by assumption))).1 (hx _ (List.mem_of_getElem? (by assumption))).2) <;> (first | assumption | omega | rw [w64_of] <;> omega)) | (with_reducible refine ok_bind (Q := Yes) ?_ fun _ _ => ?_) | dsimp only)
theorem counter_Check_ok (l : List api_Step) (h : l.length ≤ 9223372036854775807) (hx : ∀ x ∈ l, okN x.fName) : Tot (counter_Check l) := by
 unfold counter_Check
 refine ok_bindS (Q := Yes) (ok_up l.length (by omega) fun i h1 h2 => ?_) (fun _ _ => ?_) (fun _ _ => ?_)
 ·unfold counter_Check_L1
  repeat' (first | (with_reducible first | exact ok_yes | exact ok_inrY | exact ok_inlY | refine ok_nite (fun _ => ?_) fun _ => ?_ | refine ok_ite (fun _ => ?_) fun _ => ?_ | refine ok_not (fun _ => ?_) fun _ => ?_ | refine ok_cond (fun _ => ?_) fun _ => ?_) | (with_reducible refine ok_next ?_ ?_ ?_ <;> (first | assumption | omega | rw [w64_of] <;> omega)) | with_reducible refine ok_bind (ok_idx (by (first | assumption | omega | rw [w64_of] <;> omega)) (by (first | assumption | omega | rw [w64_of] <;> omega))) (fun _ _ => ?_) | (with_reducible refine Ok.yes (num_In_ok _) <;> (first | assumption | omega | rw [w64_of] <;> omega)) | (with_reducible refine Ok.yes (counter_order_ok _ _) <;> (first | assumption | omega | rw [w64_of] <;> omega)) | (with_reducible refine Ok.yes (intern_Name_ok _ (hx _ (List.mem_of_getElem? (by assumption)))) <;> (first | assumption | omega | rw [w64_of] <;> omega)) | (with_reducible refine ok_bind (Q := Yes) ?_ fun _ _ => ?_) | dsimp only)
 ·repeat' (first | (with_reducible first | exact ok_yes | exact ok_inrY | exact ok_inlY | refine ok_nite (fun _ => ?_) fun _ => ?_ | refine ok_ite (fun _ => ?_) fun _ => ?_ | refine ok_not (fun _ => ?_) fun _ => ?_ | refine ok_cond (fun _ => ?_) fun _ => ?_) | (with_reducible refine ok_next ?_ ?_ ?_ <;> (first | assumption | omega | rw [w64_of] <;> omega)) | with_reducible refine ok_bind (ok_idx (by (first | assumption | omega | rw [w64_of] <;> omega)) (by (first | assumption | omega | rw [w64_of] <;> omega))) (fun _ _ => ?_) | (with_reducible refine Ok.yes (num_In_ok _) <;> (first | assumption | omega | rw [w64_of] <;> omega)) | (with_reducible refine Ok.yes (counter_order_ok _ _) <;> (first | assumption | omega | rw [w64_of] <;> omega)) | (with_reducible refine Ok.yes (intern_Name_ok _ (hx _ (List.mem_of_getElem? (by assumption)))) <;> (first | assumption | omega | rw [w64_of] <;> omega)) | (with_reducible refine ok_bind (Q := Yes) ?_ fun _ _ => ?_) | dsimp only)
 ·repeat' (first | (with_reducible first | exact ok_yes | exact ok_inrY | exact ok_inlY | refine ok_nite (fun _ => ?_) fun _ => ?_ | refine ok_ite (fun _ => ?_) fun _ => ?_ | refine ok_not (fun _ => ?_) fun _ => ?_ | refine ok_cond (fun _ => ?_) fun _ => ?_) | (with_reducible refine ok_next ?_ ?_ ?_ <;> (first | assumption | omega | rw [w64_of] <;> omega)) | with_reducible refine ok_bind (ok_idx (by (first | assumption | omega | rw [w64_of] <;> omega)) (by (first | assumption | omega | rw [w64_of] <;> omega))) (fun _ _ => ?_) | (with_reducible refine Ok.yes (num_In_ok _) <;> (first | assumption | omega | rw [w64_of] <;> omega)) | (with_reducible refine Ok.yes (counter_order_ok _ _) <;> (first | assumption | omega | rw [w64_of] <;> omega)) | (with_reducible refine Ok.yes (intern_Name_ok _ (hx _ (List.mem_of_getElem? (by assumption)))) <;> (first | assumption | omega | rw [w64_of] <;> omega)) | (with_reducible refine ok_bind (Q := Yes) ?_ fun _ _ => ?_) | dsimp only)
theorem trace_within_ok (a b) : Tot (trace_within a b) := by
 unfold trace_within
 repeat' (first | (with_reducible first | exact ok_yes | exact ok_inrY | exact ok_inlY | refine ok_nite (fun _ => ?_) fun _ => ?_ | refine ok_ite (fun _ => ?_) fun _ => ?_ | refine ok_not (fun _ => ?_) fun _ => ?_ | refine ok_cond (fun _ => ?_) fun _ => ?_) | (with_reducible refine ok_next ?_ ?_ ?_ <;> (first | assumption | omega | rw [w64_of] <;> omega)) | with_reducible refine ok_bind (ok_idx (by (first | assumption | omega | rw [w64_of] <;> omega)) (by (first | assumption | omega | rw [w64_of] <;> omega))) (fun _ _ => ?_) | (with_reducible refine ok_bind (Q := Yes) ?_ fun _ _ => ?_) | dsimp only)
theorem trace_inside_ok (a b) : Tot (trace_inside a b) := by
 unfold trace_inside
 repeat' (first | (with_reducible first | exact ok_yes | exact ok_inrY | exact ok_inlY | refine ok_nite (fun _ => ?_) fun _ => ?_ | refine ok_ite (fun _ => ?_) fun _ => ?_ | refine ok_not (fun _ => ?_) fun _ => ?_ | refine ok_cond (fun _ => ?_) fun _ => ?_) | (with_reducible refine ok_next ?_ ?_ ?_ <;> (first | assumption | omega | rw [w64_of] <;> omega)) | with_reducible refine ok_bind (ok_idx (by (first | assumption | omega | rw [w64_of] <;> omega)) (by (first | assumption | omega | rw [w64_of] <;> omega))) (fun _ _ => ?_) | (with_reducible refine ok_bind (Q := Yes) ?_ fun _ _ => ?_) | dsimp only)
theorem trace_outside_1_k1_ok (a b) : Tot (trace_outside_1_k1 a b) := by
 unfold trace_outside_1_k1
 repeat' (first | (with_reducible first | exact ok_yes | exact ok_inrY | exact ok_inlY | refine ok_nite (fun _ => ?_) fun _ => ?_ | refine ok_ite (fun _ => ?_) fun _ => ?_ | refine ok_not (fun _ => ?_) fun _ => ?_ | refine ok_cond (fun _ => ?_) fun _ => ?_) | (with_reducible refine ok_next ?_ ?_ ?_ <;> (first | assumption | omega | rw [w64_of] <;> omega)) | with_reducible refine ok_bind (ok_idx (by (first | assumption | omega | rw [w64_of] <;> omega)) (by (first | assumption | omega | rw [w64_of] <;> omega))) (fun _ _ => ?_) | (with_reducible refine Ok.yes (trace_within_ok _ _) <;> (first | assumption | omega | rw [w64_of] <;> omega)) | (with_reducible refine Ok.yes (trace_inside_ok _ _) <;> (first | assumption | omega | rw [w64_of] <;> omega)) | (with_reducible refine ok_bind (Q := Yes) ?_ fun _ _ => ?_) | dsimp only)
theorem slices_ContainsFunc_api_Slice_api_Slice_k1_ok (l : List api_Slice) (a) (h : l.length ≤ 9223372036854775807) : Tot (slices_ContainsFunc_api_Slice_api_Slice_k1 l a) := by
 unfold slices_ContainsFunc_api_Slice_api_Slice_k1
 refine ok_bind (Q := Yes) ?_ (fun _ _ => ok_yes)
 unfold slices_IndexFunc_api_Slice_api_Slice_k1
 refine ok_bindS (Q := Yes) (ok_up l.length (by omega) fun i h1 h2 => ?_) (fun _ _ => ?_) (fun _ _ => ?_)
 ·unfold slices_IndexFunc_api_Slice_api_Slice_k1_L1
  repeat' (first | (with_reducible first | exact ok_yes | exact ok_inrY | exact ok_inlY | refine ok_nite (fun _ => ?_) fun _ => ?_ | refine ok_ite (fun _ => ?_) fun _ => ?_ | refine ok_not (fun _ => ?_) fun _ => ?_ | refine ok_cond (fun _ => ?_) fun _ => ?_) | (with_reducible refine ok_next ?_ ?_ ?_ <;> (first | assumption | omega | rw [w64_of] <;> omega)) | with_reducible refine ok_bind (ok_idx (by (first | assumption | omega | rw [w64_of] <;> omega)) (by (first | assumption | omega | rw [w64_of] <;> omega))) (fun _ _ => ?_) | (with_reducible refine Ok.yes (trace_outside_1_k1_ok _ _) <;> (first | assumption | omega | rw [w64_of] <;> omega)) | (with_reducible refine ok_bind (Q := Yes) ?_ fun _ _ => ?_) | dsimp only)
 ·repeat' (first | (with_reducible first | exact ok_yes | exact ok_inrY | exact ok_inlY | refine ok_nite (fun _ => ?_) fun _ => ?_ | refine ok_ite (fun _ => ?_) fun _ => ?_ | refine ok_not (fun _ => ?_) fun _ => ?_ | refine ok_cond (fun _ => ?_) fun _ => ?_) | (with_reducible refine ok_next ?_ ?_ ?_ <;> (first | assumption | omega | rw [w64_of] <;> omega)) | with_reducible refine ok_bind (ok_idx (by (first | assumption | omega | rw [w64_of] <;> omega)) (by (first | assumption | omega | rw [w64_of] <;> omega))) (fun _ _ => ?_) | (with_reducible refine Ok.yes (trace_outside_1_k1_ok _ _) <;> (first | assumption | omega | rw [w64_of] <;> omega)) | (with_reducible refine ok_bind (Q := Yes) ?_ fun _ _ => ?_) | dsimp only)
 ·repeat' (first | (with_reducible first | exact ok_yes | exact ok_inrY | exact ok_inlY | refine ok_nite (fun _ => ?_) fun _ => ?_ | refine ok_ite (fun _ => ?_) fun _ => ?_ | refine ok_not (fun _ => ?_) fun _ => ?_ | refine ok_cond (fun _ => ?_) fun _ => ?_) | (with_reducible refine ok_next ?_ ?_ ?_ <;> (first | assumption | omega | rw [w64_of] <;> omega)) | with_reducible refine ok_bind (ok_idx (by (first | assumption | omega | rw [w64_of] <;> omega)) (by (first | assumption | omega | rw [w64_of] <;> omega))) (fun _ _ => ?_) | (with_reducible refine Ok.yes (trace_outside_1_k1_ok _ _) <;> (first | assumption | omega | rw [w64_of] <;> omega)) | (with_reducible refine ok_bind (Q := Yes) ?_ fun _ _ => ?_) | dsimp only)
theorem trace_outside_2_k1_ok (a b) : Tot (trace_outside_2_k1 a b) := by
 unfold trace_outside_2_k1
 repeat' (first | (with_reducible first | exact ok_yes | exact ok_inrY | exact ok_inlY | refine ok_nite (fun _ => ?_) fun _ => ?_ | refine ok_ite (fun _ => ?_) fun _ => ?_ | refine ok_not (fun _ => ?_) fun _ => ?_ | refine ok_cond (fun _ => ?_) fun _ => ?_) | (with_reducible refine ok_next ?_ ?_ ?_ <;> (first | assumption | omega | rw [w64_of] <;> omega)) | with_reducible refine ok_bind (ok_idx (by (first | assumption | omega | rw [w64_of] <;> omega)) (by (first | assumption | omega | rw [w64_of] <;> omega))) (fun _ _ => ?_) | (with_reducible refine Ok.yes (trace_within_ok _ _) <;> (first | assumption | omega | rw [w64_of] <;> omega)) | (with_reducible refine Ok.yes (trace_inside_ok _ _) <;> (first | assumption | omega | rw [w64_of] <;> omega)) | (with_reducible refine ok_bind (Q := Yes) ?_ fun _ _ => ?_) | dsimp only)
theorem slices_ContainsFunc_api_State_api_State_k1_ok (l : List api_State) (a) (h : l.length ≤ 9223372036854775807) : Tot (slices_ContainsFunc_api_State_api_State_k1 l a) := by
 unfold slices_ContainsFunc_api_State_api_State_k1
 refine ok_bind (Q := Yes) ?_ (fun _ _ => ok_yes)
 unfold slices_IndexFunc_api_State_api_State_k1
 refine ok_bindS (Q := Yes) (ok_up l.length (by omega) fun i h1 h2 => ?_) (fun _ _ => ?_) (fun _ _ => ?_)
 ·unfold slices_IndexFunc_api_State_api_State_k1_L1
  repeat' (first | (with_reducible first | exact ok_yes | exact ok_inrY | exact ok_inlY | refine ok_nite (fun _ => ?_) fun _ => ?_ | refine ok_ite (fun _ => ?_) fun _ => ?_ | refine ok_not (fun _ => ?_) fun _ => ?_ | refine ok_cond (fun _ => ?_) fun _ => ?_) | (with_reducible refine ok_next ?_ ?_ ?_ <;> (first | assumption | omega | rw [w64_of] <;> omega)) | with_reducible refine ok_bind (ok_idx (by (first | assumption | omega | rw [w64_of] <;> omega)) (by (first | assumption | omega | rw [w64_of] <;> omega))) (fun _ _ => ?_) | (with_reducible refine Ok.yes (trace_outside_2_k1_ok _ _) <;> (first | assumption | omega | rw [w64_of] <;> omega)) | (with_reducible refine ok_bind (Q := Yes) ?_ fun _ _ => ?_) | dsimp only)
 ·repeat' (first | (with_reducible first | exact ok_yes | exact ok_inrY | exact ok_inlY | refine ok_nite (fun _ => ?_) fun _ => ?_ | refine ok_ite (fun _ => ?_) fun _ => ?_ | refine ok_not (fun _ => ?_) fun _ => ?_ | refine ok_cond (fun _ => ?_) fun _ => ?_) | (with_reducible refine ok_next ?_ ?_ ?_ <;> (first | assumption | omega | rw [w64_of] <;> omega)) | with_reducible refine ok_bind (ok_idx (by (first | assumption | omega | rw [w64_of] <;> omega)) (by (first | assumption | omega | rw [w64_of] <;> omega))) (fun _ _ => ?_) | (with_reducible refine Ok.yes (trace_outside_2_k1_ok _ _) <;> (first | assumption | omega | rw [w64_of] <;> omega)) | (with_reducible refine ok_bind (Q := Yes) ?_ fun _ _ => ?_) | dsimp only)
 ·repeat' (first | (with_reducible first | exact ok_yes | exact ok_inrY | exact ok_inlY | refine ok_nite (fun _ => ?_) fun _ => ?_ | refine ok_ite (fun _ => ?_) fun _ => ?_ | refine ok_not (fun _ => ?_) fun _ => ?_ | refine ok_cond (fun _ => ?_) fun _ => ?_) | (with_reducible refine ok_next ?_ ?_ ?_ <;> (first | assumption | omega | rw [w64_of] <;> omega)) | with_reducible refine ok_bind (ok_idx (by (first | assumption | omega | rw [w64_of] <;> omega)) (by (first | assumption | omega | rw [w64_of] <;> omega))) (fun _ _ => ?_) | (with_reducible refine Ok.yes (trace_outside_2_k1_ok _ _) <;> (first | assumption | omega | rw [w64_of] <;> omega)) | (with_reducible refine ok_bind (Q := Yes) ?_ fun _ _ => ?_) | dsimp only)
theorem trace_outside_3_k1_ok (a b) : Tot (trace_outside_3_k1 a b) := by
 unfold trace_outside_3_k1
 repeat' (first | (with_reducible first | exact ok_yes | exact ok_inrY | exact ok_inlY | refine ok_nite (fun _ => ?_) fun _ => ?_ | refine ok_ite (fun _ => ?_) fun _ => ?_ | refine ok_not (fun _ => ?_) fun _ => ?_ | refine ok_cond (fun _ => ?_) fun _ => ?_) | (with_reducible refine ok_next ?_ ?_ ?_ <;> (first | assumption | omega | rw [w64_of] <;> omega)) | with_reducible refine ok_bind (ok_idx (by (first | assumption | omega | rw [w64_of] <;> omega)) (by (first | assumption | omega | rw [w64_of] <;> omega))) (fun _ _ => ?_) | (with_reducible refine Ok.yes (trace_within_ok _ _) <;> (first | assumption | omega | rw [w64_of] <;> omega)) | (with_reducible refine Ok.yes (trace_inside_ok _ _) <;> (first | assumption | omega | rw [w64_of] <;> omega)) | (with_reducible refine ok_bind (Q := Yes) ?_ fun _ _ => ?_) | dsimp only)
theorem slices_ContainsFunc_api_Block_api_Block_k1_ok (l : List api_Block) (a) (h : l.length ≤ 9223372036854775807) : Tot (slices_ContainsFunc_api_Block_api_Block_k1 l a) := by
 unfold slices_ContainsFunc_api_Block_api_Block_k1
 refine ok_bind (Q := Yes) ?_ (fun _ _ => ok_yes)
 unfold slices_IndexFunc_api_Block_api_Block_k1
 refine ok_bindS (Q := Yes) (ok_up l.length (by omega) fun i h1 h2 => ?_) (fun _ _ => ?_) (fun _ _ => ?_)
 ·unfold slices_IndexFunc_api_Block_api_Block_k1_L1
  repeat' (first | (with_reducible first | exact ok_yes | exact ok_inrY | exact ok_inlY | refine ok_nite (fun _ => ?_) fun _ => ?_ | refine ok_ite (fun _ => ?_) fun _ => ?_ | refine ok_not (fun _ => ?_) fun _ => ?_ | refine ok_cond (fun _ => ?_) fun _ => ?_) | (with_reducible refine ok_next ?_ ?_ ?_ <;> (first | assumption | omega | rw [w64_of] <;> omega)) | with_reducible refine ok_bind (ok_idx (by (first | assumption | omega | rw [w64_of] <;> omega)) (by (first | assumption | omega | rw [w64_of] <;> omega))) (fun _ _ => ?_) | (with_reducible refine Ok.yes (trace_outside_3_k1_ok _ _) <;> (first | assumption | omega | rw [w64_of] <;> omega)) | (with_reducible refine ok_bind (Q := Yes) ?_ fun _ _ => ?_) | dsimp only)
 ·repeat' (first | (with_reducible first | exact ok_yes | exact ok_inrY | exact ok_inlY | refine ok_nite (fun _ => ?_) fun _ => ?_ | refine ok_ite (fun _ => ?_) fun _ => ?_ | refine ok_not (fun _ => ?_) fun _ => ?_ | refine ok_cond (fun _ => ?_) fun _ => ?_) | (with_reducible refine ok_next ?_ ?_ ?_ <;> (first | assumption | omega | rw [w64_of] <;> omega)) | with_reducible refine ok_bind (ok_idx (by (first | assumption | omega | rw [w64_of] <;> omega)) (by (first | assumption | omega | rw [w64_of] <;> omega))) (fun _ _ => ?_) | (with_reducible refine Ok.yes (trace_outside_3_k1_ok _ _) <;> (first | assumption | omega | rw [w64_of] <;> omega)) | (with_reducible refine ok_bind (Q := Yes) ?_ fun _ _ => ?_) | dsimp only)
 ·repeat' (first | (with_reducible first | exact ok_yes | exact ok_inrY | exact ok_inlY | refine ok_nite (fun _ => ?_) fun _ => ?_ | refine ok_ite (fun _ => ?_) fun _ => ?_ | refine ok_not (fun _ => ?_) fun _ => ?_ | refine ok_cond (fun _ => ?_) fun _ => ?_) | (with_reducible refine ok_next ?_ ?_ ?_ <;> (first | assumption | omega | rw [w64_of] <;> omega)) | with_reducible refine ok_bind (ok_idx (by (first | assumption | omega | rw [w64_of] <;> omega)) (by (first | assumption | omega | rw [w64_of] <;> omega))) (fun _ _ => ?_) | (with_reducible refine Ok.yes (trace_outside_3_k1_ok _ _) <;> (first | assumption | omega | rw [w64_of] <;> omega)) | (with_reducible refine ok_bind (Q := Yes) ?_ fun _ _ => ?_) | dsimp only)
theorem trace_outside_4_k1_ok (a b) : Tot (trace_outside_4_k1 a b) := by
 unfold trace_outside_4_k1
 repeat' (first | (with_reducible first | exact ok_yes | exact ok_inrY | exact ok_inlY | refine ok_nite (fun _ => ?_) fun _ => ?_ | refine ok_ite (fun _ => ?_) fun _ => ?_ | refine ok_not (fun _ => ?_) fun _ => ?_ | refine ok_cond (fun _ => ?_) fun _ => ?_) | (with_reducible refine ok_next ?_ ?_ ?_ <;> (first | assumption | omega | rw [w64_of] <;> omega)) | with_reducible refine ok_bind (ok_idx (by (first | assumption | omega | rw [w64_of] <;> omega)) (by (first | assumption | omega | rw [w64_of] <;> omega))) (fun _ _ => ?_) | (with_reducible refine Ok.yes (trace_within_ok _ _) <;> (first | assumption | omega | rw [w64_of] <;> omega)) | (with_reducible refine Ok.yes (trace_inside_ok _ _) <;> (first | assumption | omega | rw [w64_of] <;> omega)) | (with_reducible refine ok_bind (Q := Yes) ?_ fun _ _ => ?_) | dsimp only)
theorem slices_ContainsFunc_api_Flow_api_Flow_k1_ok (l : List api_Flow) (a) (h : l.length ≤ 9223372036854775807) : Tot (slices_ContainsFunc_api_Flow_api_Flow_k1 l a) := by
 unfold slices_ContainsFunc_api_Flow_api_Flow_k1
 refine ok_bind (Q := Yes) ?_ (fun _ _ => ok_yes)
 unfold slices_IndexFunc_api_Flow_api_Flow_k1
 refine ok_bindS (Q := Yes) (ok_up l.length (by omega) fun i h1 h2 => ?_) (fun _ _ => ?_) (fun _ _ => ?_)
 ·unfold slices_IndexFunc_api_Flow_api_Flow_k1_L1
  repeat' (first | (with_reducible first | exact ok_yes | exact ok_inrY | exact ok_inlY | refine ok_nite (fun _ => ?_) fun _ => ?_ | refine ok_ite (fun _ => ?_) fun _ => ?_ | refine ok_not (fun _ => ?_) fun _ => ?_ | refine ok_cond (fun _ => ?_) fun _ => ?_) | (with_reducible refine ok_next ?_ ?_ ?_ <;> (first | assumption | omega | rw [w64_of] <;> omega)) | with_reducible refine ok_bind (ok_idx (by (first | assumption | omega | rw [w64_of] <;> omega)) (by (first | assumption | omega | rw [w64_of] <;> omega))) (fun _ _ => ?_) | (with_reducible refine Ok.yes (trace_outside_4_k1_ok _ _) <;> (first | assumption | omega | rw [w64_of] <;> omega)) | (with_reducible refine ok_bind (Q := Yes) ?_ fun _ _ => ?_) | dsimp only)
 ·repeat' (first | (with_reducible first | exact ok_yes | exact ok_inrY | exact ok_inlY | refine ok_nite (fun _ => ?_) fun _ => ?_ | refine ok_ite (fun _ => ?_) fun _ => ?_ | refine ok_not (fun _ => ?_) fun _ => ?_ | refine ok_cond (fun _ => ?_) fun _ => ?_) | (with_reducible refine ok_next ?_ ?_ ?_ <;> (first | assumption | omega | rw [w64_of] <;> omega)) | with_reducible refine ok_bind (ok_idx (by (first | assumption | omega | rw [w64_of] <;> omega)) (by (first | assumption | omega | rw [w64_of] <;> omega))) (fun _ _ => ?_) | (with_reducible refine Ok.yes (trace_outside_4_k1_ok _ _) <;> (first | assumption | omega | rw [w64_of] <;> omega)) | (with_reducible refine ok_bind (Q := Yes) ?_ fun _ _ => ?_) | dsimp only)
 ·repeat' (first | (with_reducible first | exact ok_yes | exact ok_inrY | exact ok_inlY | refine ok_nite (fun _ => ?_) fun _ => ?_ | refine ok_ite (fun _ => ?_) fun _ => ?_ | refine ok_not (fun _ => ?_) fun _ => ?_ | refine ok_cond (fun _ => ?_) fun _ => ?_) | (with_reducible refine ok_next ?_ ?_ ?_ <;> (first | assumption | omega | rw [w64_of] <;> omega)) | with_reducible refine ok_bind (ok_idx (by (first | assumption | omega | rw [w64_of] <;> omega)) (by (first | assumption | omega | rw [w64_of] <;> omega))) (fun _ _ => ?_) | (with_reducible refine Ok.yes (trace_outside_4_k1_ok _ _) <;> (first | assumption | omega | rw [w64_of] <;> omega)) | (with_reducible refine ok_bind (Q := Yes) ?_ fun _ _ => ?_) | dsimp only)
theorem trace_outside_5_k1_ok (a b) : Tot (trace_outside_5_k1 a b) := by
 unfold trace_outside_5_k1
 repeat' (first | (with_reducible first | exact ok_yes | exact ok_inrY | exact ok_inlY | refine ok_nite (fun _ => ?_) fun _ => ?_ | refine ok_ite (fun _ => ?_) fun _ => ?_ | refine ok_not (fun _ => ?_) fun _ => ?_ | refine ok_cond (fun _ => ?_) fun _ => ?_) | (with_reducible refine ok_next ?_ ?_ ?_ <;> (first | assumption | omega | rw [w64_of] <;> omega)) | with_reducible refine ok_bind (ok_idx (by (first | assumption | omega | rw [w64_of] <;> omega)) (by (first | assumption | omega | rw [w64_of] <;> omega))) (fun _ _ => ?_) | (with_reducible refine Ok.yes (trace_within_ok _ _) <;> (first | assumption | omega | rw [w64_of] <;> omega)) | (with_reducible refine Ok.yes (trace_inside_ok _ _) <;> (first | assumption | omega | rw [w64_of] <;> omega)) | (with_reducible refine ok_bind (Q := Yes) ?_ fun _ _ => ?_) | dsimp only)
theorem slices_ContainsFunc_api_Sample_api_Sample_k1_ok (l : List api_Sample) (a) (h : l.length ≤ 9223372036854775807) : Tot (slices_ContainsFunc_api_Sample_api_Sample_k1 l a) := by
 unfold slices_ContainsFunc_api_Sample_api_Sample_k1
 refine ok_bind (Q := Yes) ?_ (fun _ _ => ok_yes)
 unfold slices_IndexFunc_api_Sample_api_Sample_k1
 refine ok_bindS (Q := Yes) (ok_up l.length (by omega) fun i h1 h2 => ?_) (fun _ _ => ?_) (fun _ _ => ?_)
 ·unfold slices_IndexFunc_api_Sample_api_Sample_k1_L1
  repeat' (first | (with_reducible first | exact ok_yes | exact ok_inrY | exact ok_inlY | refine ok_nite (fun _ => ?_) fun _ => ?_ | refine ok_ite (fun _ => ?_) fun _ => ?_ | refine ok_not (fun _ => ?_) fun _ => ?_ | refine ok_cond (fun _ => ?_) fun _ => ?_) | (with_reducible refine ok_next ?_ ?_ ?_ <;> (first | assumption | omega | rw [w64_of] <;> omega)) | with_reducible refine ok_bind (ok_idx (by (first | assumption | omega | rw [w64_of] <;> omega)) (by (first | assumption | omega | rw [w64_of] <;> omega))) (fun _ _ => ?_) | (with_reducible refine Ok.yes (trace_outside_5_k1_ok _ _) <;> (first | assumption | omega | rw [w64_of] <;> omega)) | (with_reducible refine ok_bind (Q := Yes) ?_ fun _ _ => ?_) | dsimp only)
 ·repeat' (first | (with_reducible first | exact ok_yes | exact ok_inrY | exact ok_inlY | refine ok_nite (fun _ => ?_) fun _ => ?_ | refine ok_ite (fun _ => ?_) fun _ => ?_ | refine ok_not (fun _ => ?_) fun _ => ?_ | refine ok_cond (fun _ => ?_) fun _ => ?_) | (with_reducible refine ok_next ?_ ?_ ?_ <;> (first | assumption | omega | rw [w64_of] <;> omega)) | with_reducible refine ok_bind (ok_idx (by (first | assumption | omega | rw [w64_of] <;> omega)) (by (first | assumption | omega | rw [w64_of] <;> omega))) (fun _ _ => ?_) | (with_reducible refine Ok.yes (trace_outside_5_k1_ok _ _) <;> (first | assumption | omega | rw [w64_of] <;> omega)) | (with_reducible refine ok_bind (Q := Yes) ?_ fun _ _ => ?_) | dsimp only)
 ·repeat' (first | (with_reducible first | exact ok_yes | exact ok_inrY | exact ok_inlY | refine ok_nite (fun _ => ?_) fun _ => ?_ | refine ok_ite (fun _ => ?_) fun _ => ?_ | refine ok_not (fun _ => ?_) fun _ => ?_ | refine ok_cond (fun _ => ?_) fun _ => ?_) | (with_reducible refine ok_next ?_ ?_ ?_ <;> (first | assumption | omega | rw [w64_of] <;> omega)) | with_reducible refine ok_bind (ok_idx (by (first | assumption | omega | rw [w64_of] <;> omega)) (by (first | assumption | omega | rw [w64_of] <;> omega))) (fun _ _ => ?_) | (with_reducible refine Ok.yes (trace_outside_5_k1_ok _ _) <;> (first | assumption | omega | rw [w64_of] <;> omega)) | (with_reducible refine ok_bind (Q := Yes) ?_ fun _ _ => ?_) | dsimp only)
theorem trace_outside_6_k1_ok (a b) : Tot (trace_outside_6_k1 a b) := by
 unfold trace_outside_6_k1
 repeat' (first | (with_reducible first | exact ok_yes | exact ok_inrY | exact ok_inlY | refine ok_nite (fun _ => ?_) fun _ => ?_ | refine ok_ite (fun _ => ?_) fun _ => ?_ | refine ok_not (fun _ => ?_) fun _ => ?_ | refine ok_cond (fun _ => ?_) fun _ => ?_) | (with_reducible refine ok_next ?_ ?_ ?_ <;> (first | assumption | omega | rw [w64_of] <;> omega)) | with_reducible refine ok_bind (ok_idx (by (first | assumption | omega | rw [w64_of] <;> omega)) (by (first | assumption | omega | rw [w64_of] <;> omega))) (fun _ _ => ?_) | (with_reducible refine Ok.yes (trace_within_ok _ _) <;> (first | assumption | omega | rw [w64_of] <;> omega)) | (with_reducible refine Ok.yes (trace_inside_ok _ _) <;> (first | assumption | omega | rw [w64_of] <;> omega)) | (with_reducible refine ok_bind (Q := Yes) ?_ fun _ _ => ?_) | dsimp only)
theorem slices_ContainsFunc_api_Step_api_Step_k1_ok (l : List api_Step) (a) (h : l.length ≤ 9223372036854775807) : Tot (slices_ContainsFunc_api_Step_api_Step_k1 l a) := by
 unfold slices_ContainsFunc_api_Step_api_Step_k1
 refine ok_bind (Q := Yes) ?_ (fun _ _ => ok_yes)
 unfold slices_IndexFunc_api_Step_api_Step_k1
 refine ok_bindS (Q := Yes) (ok_up l.length (by omega) fun i h1 h2 => ?_) (fun _ _ => ?_) (fun _ _ => ?_)
 ·unfold slices_IndexFunc_api_Step_api_Step_k1_L1
  repeat' (first | (with_reducible first | exact ok_yes | exact ok_inrY | exact ok_inlY | refine ok_nite (fun _ => ?_) fun _ => ?_ | refine ok_ite (fun _ => ?_) fun _ => ?_ | refine ok_not (fun _ => ?_) fun _ => ?_ | refine ok_cond (fun _ => ?_) fun _ => ?_) | (with_reducible refine ok_next ?_ ?_ ?_ <;> (first | assumption | omega | rw [w64_of] <;> omega)) | with_reducible refine ok_bind (ok_idx (by (first | assumption | omega | rw [w64_of] <;> omega)) (by (first | assumption | omega | rw [w64_of] <;> omega))) (fun _ _ => ?_) | (with_reducible refine Ok.yes (trace_outside_6_k1_ok _ _) <;> (first | assumption | omega | rw [w64_of] <;> omega)) | (with_reducible refine ok_bind (Q := Yes) ?_ fun _ _ => ?_) | dsimp only)
 ·repeat' (first | (with_reducible first | exact ok_yes | exact ok_inrY | exact ok_inlY | refine ok_nite (fun _ => ?_) fun _ => ?_ | refine ok_ite (fun _ => ?_) fun _ => ?_ | refine ok_not (fun _ => ?_) fun _ => ?_ | refine ok_cond (fun _ => ?_) fun _ => ?_) | (with_reducible refine ok_next ?_ ?_ ?_ <;> (first | assumption | omega | rw [w64_of] <;> omega)) | with_reducible refine ok_bind (ok_idx (by (first | assumption | omega | rw [w64_of] <;> omega)) (by (first | assumption | omega | rw [w64_of] <;> omega))) (fun _ _ => ?_) | (with_reducible refine Ok.yes (trace_outside_6_k1_ok _ _) <;> (first | assumption | omega | rw [w64_of] <;> omega)) | (with_reducible refine ok_bind (Q := Yes) ?_ fun _ _ => ?_) | dsimp only)
 ·repeat' (first | (with_reducible first | exact ok_yes | exact ok_inrY | exact ok_inlY | refine ok_nite (fun _ => ?_) fun _ => ?_ | refine ok_ite (fun _ => ?_) fun _ => ?_ | refine ok_not (fun _ => ?_) fun _ => ?_ | refine ok_cond (fun _ => ?_) fun _ => ?_) | (with_reducible refine ok_next ?_ ?_ ?_ <;> (first | assumption | omega | rw [w64_of] <;> omega)) | with_reducible refine ok_bind (ok_idx (by (first | assumption | omega | rw [w64_of] <;> omega)) (by (first | assumption | omega | rw [w64_of] <;> omega))) (fun _ _ => ?_) | (with_reducible refine Ok.yes (trace_outside_6_k1_ok _ _) <;> (first | assumption | omega | rw [w64_of] <;> omega)) | (with_reducible refine ok_bind (Q := Yes) ?_ fun _ _ => ?_) | dsimp only)
theorem trace_outside_ok (t : api_Trace) (h : Siz t) : Tot (trace_outside t) := by
 unfold trace_outside
 repeat' (first | (with_reducible first | exact ok_yes | exact ok_inrY | exact ok_inlY | refine ok_nite (fun _ => ?_) fun _ => ?_ | refine ok_ite (fun _ => ?_) fun _ => ?_ | refine ok_not (fun _ => ?_) fun _ => ?_ | refine ok_cond (fun _ => ?_) fun _ => ?_) | (with_reducible refine ok_next ?_ ?_ ?_ <;> (first | assumption | omega | rw [w64_of] <;> omega)) | with_reducible refine ok_bind (ok_idx (by (first | assumption | omega | rw [w64_of] <;> omega)) (by (first | assumption | omega | rw [w64_of] <;> omega))) (fun _ _ => ?_) | (with_reducible refine Ok.yes (slices_ContainsFunc_api_Slice_api_Slice_k1_ok _ _ h.sl) <;> (first | assumption | omega | rw [w64_of] <;> omega)) | (with_reducible refine Ok.yes (slices_ContainsFunc_api_State_api_State_k1_ok _ _ h.st) <;> (first | assumption | omega | rw [w64_of] <;> omega)) | (with_reducible refine Ok.yes (slices_ContainsFunc_api_Block_api_Block_k1_ok _ _ h.bl) <;> (first | assumption | omega | rw [w64_of] <;> omega)) | (with_reducible refine Ok.yes (slices_ContainsFunc_api_Flow_api_Flow_k1_ok _ _ h.fl) <;> (first | assumption | omega | rw [w64_of] <;> omega)) | (with_reducible refine Ok.yes (slices_ContainsFunc_api_Sample_api_Sample_k1_ok _ _ h.sa) <;> (first | assumption | omega | rw [w64_of] <;> omega)) | (with_reducible refine Ok.yes (slices_ContainsFunc_api_Step_api_Step_k1_ok _ _ h.sp) <;> (first | assumption | omega | rw [w64_of] <;> omega)) | (with_reducible refine ok_bind (Q := Yes) ?_ fun _ _ => ?_) | dsimp only)
theorem slices_Index_int_int_ok (l : List Int) (a : Int) (h : l.length ≤ 9223372036854775807) : Tot (slices_Index_int_int l a) := by
 unfold slices_Index_int_int
 refine ok_bindS (Q := Yes) (ok_up l.length (by omega) fun i h1 h2 => ?_) (fun _ _ => ?_) (fun _ _ => ?_)
 ·unfold slices_Index_int_int_L1
  repeat' (first | (with_reducible first | exact ok_yes | exact ok_inrY | exact ok_inlY | refine ok_nite (fun _ => ?_) fun _ => ?_ | refine ok_ite (fun _ => ?_) fun _ => ?_ | refine ok_not (fun _ => ?_) fun _ => ?_ | refine ok_cond (fun _ => ?_) fun _ => ?_) | (with_reducible refine ok_next ?_ ?_ ?_ <;> (first | assumption | omega | rw [w64_of] <;> omega)) | with_reducible refine ok_bind (ok_idx (by (first | assumption | omega | rw [w64_of] <;> omega)) (by (first | assumption | omega | rw [w64_of] <;> omega))) (fun _ _ => ?_) | (with_reducible refine ok_bind (Q := Yes) ?_ fun _ _ => ?_) | dsimp only)
 ·repeat' (first | (with_reducible first | exact ok_yes | exact ok_inrY | exact ok_inlY | refine ok_nite (fun _ => ?_) fun _ => ?_ | refine ok_ite (fun _ => ?_) fun _ => ?_ | refine ok_not (fun _ => ?_) fun _ => ?_ | refine ok_cond (fun _ => ?_) fun _ => ?_) | (with_reducible refine ok_next ?_ ?_ ?_ <;> (first | assumption | omega | rw [w64_of] <;> omega)) | with_reducible refine ok_bind (ok_idx (by (first | assumption | omega | rw [w64_of] <;> omega)) (by (first | assumption | omega | rw [w64_of] <;> omega))) (fun _ _ => ?_) | (with_reducible refine ok_bind (Q := Yes) ?_ fun _ _ => ?_) | dsimp only)
 ·repeat' (first | (with_reducible first | exact ok_yes | exact ok_inrY | exact ok_inlY | refine ok_nite (fun _ => ?_) fun _ => ?_ | refine ok_ite (fun _ => ?_) fun _ => ?_ | refine ok_not (fun _ => ?_) fun _ => ?_ | refine ok_cond (fun _ => ?_) fun _ => ?_) | (with_reducible refine ok_next ?_ ?_ ?_ <;> (first | assumption | omega | rw [w64_of] <;> omega)) | with_reducible refine ok_bind (ok_idx (by (first | assumption | omega | rw [w64_of] <;> omega)) (by (first | assumption | omega | rw [w64_of] <;> omega))) (fun _ _ => ?_) | (with_reducible refine ok_bind (Q := Yes) ?_ fun _ _ => ?_) | dsimp only)
theorem slices_Contains_int_int_ok (l : List Int) (a : Int) (h : l.length ≤ 9223372036854775807) : Tot (slices_Contains_int_int l a) := by
 unfold slices_Contains_int_int
 repeat' (first | (with_reducible first | exact ok_yes | exact ok_inrY | exact ok_inlY | refine ok_nite (fun _ => ?_) fun _ => ?_ | refine ok_ite (fun _ => ?_) fun _ => ?_ | refine ok_not (fun _ => ?_) fun _ => ?_ | refine ok_cond (fun _ => ?_) fun _ => ?_) | (with_reducible refine ok_next ?_ ?_ ?_ <;> (first | assumption | omega | rw [w64_of] <;> omega)) | with_reducible refine ok_bind (ok_idx (by (first | assumption | omega | rw [w64_of] <;> omega)) (by (first | assumption | omega | rw [w64_of] <;> omega))) (fun _ _ => ?_) | (with_reducible refine Ok.yes (slices_Index_int_int_ok _ _ h) <;> (first | assumption | omega | rw [w64_of] <;> omega)) | (with_reducible refine ok_bind (Q := Yes) ?_ fun _ _ => ?_) | dsimp only)
theorem state_fields_ok (a) : Tot (state_fields a) := by
 unfold state_fields
 repeat' (first | (with_reducible first | exact ok_yes | exact ok_inrY | exact ok_inlY | refine ok_nite (fun _ => ?_) fun _ => ?_ | refine ok_ite (fun _ => ?_) fun _ => ?_ | refine ok_not (fun _ => ?_) fun _ => ?_ | refine ok_cond (fun _ => ?_) fun _ => ?_) | (with_reducible refine ok_next ?_ ?_ ?_ <;> (first | assumption | omega | rw [w64_of] <;> omega)) | with_reducible refine ok_bind (ok_idx (by (first | assumption | omega | rw [w64_of] <;> omega)) (by (first | assumption | omega | rw [w64_of] <;> omega))) (fun _ _ => ?_) | (with_reducible refine ok_bind (Q := Yes) ?_ fun _ _ => ?_) | dsimp only)
theorem state_same_ok (a b) : Tot (state_same a b) := by
 unfold state_same
 repeat' (first | (with_reducible first | exact ok_yes | exact ok_inrY | exact ok_inlY | refine ok_nite (fun _ => ?_) fun _ => ?_ | refine ok_ite (fun _ => ?_) fun _ => ?_ | refine ok_not (fun _ => ?_) fun _ => ?_ | refine ok_cond (fun _ => ?_) fun _ => ?_) | (with_reducible refine ok_next ?_ ?_ ?_ <;> (first | assumption | omega | rw [w64_of] <;> omega)) | with_reducible refine ok_bind (ok_idx (by (first | assumption | omega | rw [w64_of] <;> omega)) (by (first | assumption | omega | rw [w64_of] <;> omega))) (fun _ _ => ?_) | (with_reducible refine ok_bind (Q := Yes) ?_ fun _ _ => ?_) | dsimp only)
def Up (l : List api_Slice) (n : Int) : Prop := ∀ (j : Nat) y, (j : Int) < n → l[j]? = some y → -1 ≤ y.fParent ∧ y.fParent < (j : Int)
theorem slice_nested_ok (l : List api_Slice) (h : l.length ≤ 9223372036854775807) : Ok (slice_nested l) (fun b => b = true → Up l l.length) := by
 unfold slice_nested
 refine ok_bindS (Q := InlR (fun _ => Up l l.length) (fun b => b = false)) (ok_upI l.length (Up l) h (by intro j y hj; omega) (fun i hI h1 h2 => ?_)) (fun _ hq => ok_some (fun _ => hq)) (fun r hr => ok_some (fun e => ?_))
 ·unfold slice_nested_L1
  refine ok_ite (fun hi => ?_) (fun hi => ok_inr (by have : i = l.length := (by omega); subst this; exact hI))
  refine ok_bind (ok_idx h1 hi) (fun y hy => ?_)
  have no : InlR (fun _ : Unit => Up l l.length) (fun b => b = false) (.inr false) := rfl
  refine ok_bind (Q := fun v => v = false → -1 ≤ y.fParent ∧ y.fParent < i) ?_ (fun v hv => ?_)
  ·refine ok_ite (fun _ => ok_some (by simp)) (fun h3 => ok_some (fun h4 => ?_))
   have := of_decide_eq_false h4
   omega
  refine ok_cond (fun _ => ok_inr no) (fun h0 => ?_)
  have hp := hv h0
  have nx : Up l (i + 1) := by
   intro j z hj hz
   by_cases e : (j : Int) = i
   ·have : i.toNat = j := by omega
    rw [this] at hy
    rw [hy] at hz; cases hz
    omega
   ·exact hI j z (by omega) hz
  refine ok_ite (fun _ => ?_) (fun hne => ?_)
  ·refine ok_nite (fun _ => ok_inr no) (fun _ => ok_nextI nx h1 hi h)
  ·refine ok_bind (ok_idx (by omega) (by omega)) (fun z _ => ?_)
   refine ok_bind (Q := Yes) (by repeat' (first | (with_reducible first | exact ok_yes | exact ok_inrY | exact ok_inlY | refine ok_nite (fun _ => ?_) fun _ => ?_ | refine ok_ite (fun _ => ?_) fun _ => ?_ | refine ok_not (fun _ => ?_) fun _ => ?_ | refine ok_cond (fun _ => ?_) fun _ => ?_) | (with_reducible refine ok_next ?_ ?_ ?_ <;> (first | assumption | omega | rw [w64_of] <;> omega)) | with_reducible refine ok_bind (ok_idx (by (first | assumption | omega | rw [w64_of] <;> omega)) (by (first | assumption | omega | rw [w64_of] <;> omega))) (fun _ _ => ?_) | (with_reducible refine ok_bind (Q := Yes) ?_ fun _ _ => ?_) | dsimp only)) (fun v _ => ?_)
   refine ok_cond (fun _ => ok_inr no) (fun _ => ok_nextI nx h1 hi h)
 ·have : r = false := hr
  simp [this] at e
theorem slice_under_ok (l : List api_Slice) (h : l.length ≤ 9223372036854775807) (hu : Up l l.length) (a b : Int) (hb : b < l.length) : Tot (slice_under l a b) := by
 unfold slice_under
 refine ok_bindS (Q := Yes) (ok_loop (fun i : Int => i < l.length) (fun i : Int => (i + 1).toNat) (fun i hi => ?_) hb (by simp [manyRounds]; omega)) (fun _ _ => ok_yes) (fun _ _ => ok_yes)
 unfold slice_under_L1
 refine ok_ite (fun h0 => ?_) (fun _ => ok_inrY)
 refine ok_ite (fun _ => ok_inrY) (fun _ => ?_)
 refine ok_bind (ok_idx h0 hi) (fun y hy => ?_)
 have := hu i.toNat y (by omega) hy
 exact ok_inl ⟨by omega, by omega⟩
theorem slice_apart_ok (l : List api_Slice) (h : l.length ≤ 9223372036854775807) (hu : Up l l.length) : Tot (slice_apart l) := by
 unfold slice_apart
 refine ok_bindS (Q := Yes) (ok_up l.length h fun i h1 h2 => ?_) (fun _ _ => ok_yes) (fun _ _ => ok_yes)
 unfold slice_apart_L2
 refine ok_ite (fun hi => ?_) (fun _ => ok_inrY)
 refine ok_bind (ok_idx h1 hi) (fun y hy => ?_)
 refine ok_bindS (Q := InlR Yes (InlR (fun _ => False) Yes)) (ok_up2 l.length (fun _ _ => True) h trivial (fun a j _ h3 h4 => ?_)) (fun _ _ => ?_) (fun r hr => ?_)
 ·unfold slice_apart_L1
  dsimp only
  refine ok_ite (fun hj => ?_) (fun _ => ok_inr trivial)
  refine ok_bind (ok_idx h3 hj) (fun z hz => ?_)
  refine ok_bind (Q := Yes) (by repeat' (first | (with_reducible first | exact ok_yes | exact ok_inrY | exact ok_inlY | refine ok_nite (fun _ => ?_) fun _ => ?_ | refine ok_ite (fun _ => ?_) fun _ => ?_ | refine ok_not (fun _ => ?_) fun _ => ?_ | refine ok_cond (fun _ => ?_) fun _ => ?_) | (with_reducible refine ok_next ?_ ?_ ?_ <;> (first | assumption | omega | rw [w64_of] <;> omega)) | with_reducible refine ok_bind (ok_idx (by (first | assumption | omega | rw [w64_of] <;> omega)) (by (first | assumption | omega | rw [w64_of] <;> omega))) (fun _ _ => ?_) | (with_reducible refine ok_bind (Q := Yes) ?_ fun _ _ => ?_) | dsimp only)) (fun v _ => ?_)
  refine ok_bind (Q := Yes) (by repeat' (first | (with_reducible first | exact ok_yes | exact ok_inrY | exact ok_inlY | refine ok_nite (fun _ => ?_) fun _ => ?_ | refine ok_ite (fun _ => ?_) fun _ => ?_ | refine ok_not (fun _ => ?_) fun _ => ?_ | refine ok_cond (fun _ => ?_) fun _ => ?_) | (with_reducible refine ok_next ?_ ?_ ?_ <;> (first | assumption | omega | rw [w64_of] <;> omega)) | with_reducible refine ok_bind (ok_idx (by (first | assumption | omega | rw [w64_of] <;> omega)) (by (first | assumption | omega | rw [w64_of] <;> omega))) (fun _ _ => ?_) | (with_reducible refine Ok.yes (slice_under_ok l h hu _ _ hi) <;> (first | assumption | omega | rw [w64_of] <;> omega)) | (with_reducible refine ok_bind (Q := Yes) ?_ fun _ _ => ?_) | dsimp only)) (fun v _ => ?_)
  refine ok_cond (fun _ => ok_inr trivial) (fun _ => ok_next2 (Inv := fun _ _ => True) trivial h3 hj h)
 ·dsimp only
  repeat' (first | (with_reducible first | exact ok_yes | exact ok_inrY | exact ok_inlY | refine ok_nite (fun _ => ?_) fun _ => ?_ | refine ok_ite (fun _ => ?_) fun _ => ?_ | refine ok_not (fun _ => ?_) fun _ => ?_ | refine ok_cond (fun _ => ?_) fun _ => ?_) | (with_reducible refine ok_next ?_ ?_ ?_ <;> (first | assumption | omega | rw [w64_of] <;> omega)) | with_reducible refine ok_bind (ok_idx (by (first | assumption | omega | rw [w64_of] <;> omega)) (by (first | assumption | omega | rw [w64_of] <;> omega))) (fun _ _ => ?_) | (with_reducible refine ok_bind (Q := Yes) ?_ fun _ _ => ?_) | dsimp only)
 ·rcases r with r | r
  ·exact (hr : False).elim
  ·exact ok_inrY
theorem slice_Check_ok (l : List api_Slice) (h : l.length ≤ 9223372036854775807) (hx : ∀ x ∈ l, okN x.fName) : Tot (slice_Check l) := by
 unfold slice_Check
 refine ok_bindS (Q := Yes) (ok_up l.length h fun i h1 h2 => ?_) (fun _ _ => ?_) (fun _ _ => ok_yes)
 ·unfold slice_Check_L1
  repeat' (first | (with_reducible first | exact ok_yes | exact ok_inrY | exact ok_inlY | refine ok_nite (fun _ => ?_) fun _ => ?_ | refine ok_ite (fun _ => ?_) fun _ => ?_ | refine ok_not (fun _ => ?_) fun _ => ?_ | refine ok_cond (fun _ => ?_) fun _ => ?_) | (with_reducible refine ok_next ?_ ?_ ?_ <;> (first | assumption | omega | rw [w64_of] <;> omega)) | with_reducible refine ok_bind (ok_idx (by (first | assumption | omega | rw [w64_of] <;> omega)) (by (first | assumption | omega | rw [w64_of] <;> omega))) (fun _ _ => ?_) | (with_reducible refine Ok.yes (slice_compare_ok _ _) <;> (first | assumption | omega | rw [w64_of] <;> omega)) | (with_reducible refine Ok.yes (spans_Valid_ok _) <;> (first | assumption | omega | rw [w64_of] <;> omega)) | (with_reducible refine Ok.yes (intern_Name_ok _ (hx _ (List.mem_of_getElem? (by assumption)))) <;> (first | assumption | omega | rw [w64_of] <;> omega)) | (with_reducible refine ok_bind (Q := Yes) ?_ fun _ _ => ?_) | dsimp only)
 ·dsimp only
  refine ok_bind (Q := Yes) ?_ (fun _ _ => by repeat' (first | (with_reducible first | exact ok_yes | exact ok_inrY | exact ok_inlY | refine ok_nite (fun _ => ?_) fun _ => ?_ | refine ok_ite (fun _ => ?_) fun _ => ?_ | refine ok_not (fun _ => ?_) fun _ => ?_ | refine ok_cond (fun _ => ?_) fun _ => ?_) | (with_reducible refine ok_next ?_ ?_ ?_ <;> (first | assumption | omega | rw [w64_of] <;> omega)) | with_reducible refine ok_bind (ok_idx (by (first | assumption | omega | rw [w64_of] <;> omega)) (by (first | assumption | omega | rw [w64_of] <;> omega))) (fun _ _ => ?_) | (with_reducible refine ok_bind (Q := Yes) ?_ fun _ _ => ?_) | dsimp only))
  refine ok_bind (slice_nested_ok l h) (fun b hb => ?_)
  refine ok_not (fun _ => ok_yes) (fun e => ?_)
  repeat' (first | (with_reducible first | exact ok_yes | exact ok_inrY | exact ok_inlY | refine ok_nite (fun _ => ?_) fun _ => ?_ | refine ok_ite (fun _ => ?_) fun _ => ?_ | refine ok_not (fun _ => ?_) fun _ => ?_ | refine ok_cond (fun _ => ?_) fun _ => ?_) | (with_reducible refine ok_next ?_ ?_ ?_ <;> (first | assumption | omega | rw [w64_of] <;> omega)) | with_reducible refine ok_bind (ok_idx (by (first | assumption | omega | rw [w64_of] <;> omega)) (by (first | assumption | omega | rw [w64_of] <;> omega))) (fun _ _ => ?_) | (with_reducible refine Ok.yes (slice_apart_ok l h (hb e)) <;> (first | assumption | omega | rw [w64_of] <;> omega)) | (with_reducible refine ok_bind (Q := Yes) ?_ fun _ _ => ?_) | dsimp only)
theorem memory_Check_ok (l : List api_Block) (h : l.length ≤ 9223372036854775807) (hx : ∀ x ∈ l, x.fStack.length ≤ 9223372036854775807 ∧ ∀ y ∈ x.fStack, okN y) : Tot (memory_Check l) := by
 unfold memory_Check
 refine ok_bindS (Q := Yes) (ok_up l.length h fun i h1 h2 => ?_) (fun _ _ => ok_yes) (fun _ _ => ok_yes)
 unfold memory_Check_L2
 refine ok_ite (fun hi => ?_) (fun _ => ok_inrY)
 refine ok_bind (ok_idx h1 hi) (fun y hy => ?_)
 refine ok_bind (Q := Yes) (by repeat' (first | (with_reducible first | exact ok_yes | exact ok_inrY | exact ok_inlY | refine ok_nite (fun _ => ?_) fun _ => ?_ | refine ok_ite (fun _ => ?_) fun _ => ?_ | refine ok_not (fun _ => ?_) fun _ => ?_ | refine ok_cond (fun _ => ?_) fun _ => ?_) | (with_reducible refine ok_next ?_ ?_ ?_ <;> (first | assumption | omega | rw [w64_of] <;> omega)) | with_reducible refine ok_bind (ok_idx (by (first | assumption | omega | rw [w64_of] <;> omega)) (by (first | assumption | omega | rw [w64_of] <;> omega))) (fun _ _ => ?_) | (with_reducible refine Ok.yes (spans_Valid_ok _) <;> (first | assumption | omega | rw [w64_of] <;> omega)) | (with_reducible refine ok_bind (Q := Yes) ?_ fun _ _ => ?_) | dsimp only)) (fun v _ => ?_)
 refine ok_cond (fun _ => ok_inrY) (fun _ => ?_)
 refine ok_bind (Q := Yes) (intern_Frames_ok _ (hx _ (List.mem_of_getElem? hy)).1 (hx _ (List.mem_of_getElem? hy)).2) (fun v _ => ?_)
 refine ok_nite (fun _ => ok_inrY) (fun _ => ?_)
 refine ok_bind (Q := Yes) (by repeat' (first | (with_reducible first | exact ok_yes | exact ok_inrY | exact ok_inlY | refine ok_nite (fun _ => ?_) fun _ => ?_ | refine ok_ite (fun _ => ?_) fun _ => ?_ | refine ok_not (fun _ => ?_) fun _ => ?_ | refine ok_cond (fun _ => ?_) fun _ => ?_) | (with_reducible refine ok_next ?_ ?_ ?_ <;> (first | assumption | omega | rw [w64_of] <;> omega)) | with_reducible refine ok_bind (ok_idx (by (first | assumption | omega | rw [w64_of] <;> omega)) (by (first | assumption | omega | rw [w64_of] <;> omega))) (fun _ _ => ?_) | (with_reducible refine ok_bind (Q := Yes) ?_ fun _ _ => ?_) | dsimp only)) (fun v _ => ?_)
 refine ok_cond (fun _ => ok_inrY) (fun _ => ?_)
 refine ok_bind (Q := fun ys => ys.length ≤ 9223372036854775807) ?_ (fun ys hys => ?_)
 ·unfold slcPart
  rw [if_pos ⟨by omega, by omega, by omega⟩]
  exact ok_some (by simp; omega)
 refine ok_bindS (Q := InlR Yes (InlR (fun _ => False) Yes)) (ok_up ys.length hys fun j h3 h4 => ?_) (fun _ _ => ok_next h1 hi h) (fun r hr => ?_)
 ·unfold memory_Check_L1
  refine ok_ite (fun hj => ?_) (fun _ => ok_inr trivial)
  refine ok_bind (ok_idx h3 hj) (fun z hz => ?_)
  refine ok_bind (Q := Yes) (by repeat' (first | (with_reducible first | exact ok_yes | exact ok_inrY | exact ok_inlY | refine ok_nite (fun _ => ?_) fun _ => ?_ | refine ok_ite (fun _ => ?_) fun _ => ?_ | refine ok_not (fun _ => ?_) fun _ => ?_ | refine ok_cond (fun _ => ?_) fun _ => ?_) | (with_reducible refine ok_next ?_ ?_ ?_ <;> (first | assumption | omega | rw [w64_of] <;> omega)) | with_reducible refine ok_bind (ok_idx (by (first | assumption | omega | rw [w64_of] <;> omega)) (by (first | assumption | omega | rw [w64_of] <;> omega))) (fun _ _ => ?_) | (with_reducible refine ok_bind (Q := Yes) ?_ fun _ _ => ?_) | dsimp only)) (fun v _ => ?_)
  refine ok_cond (fun _ => ok_inr trivial) (fun _ => ok_next h3 hj hys)
 ·rcases r with r | r
  ·exact (hr : False).elim
  ·exact ok_inrY
theorem slices_Index_int_int_lt (l : List Int) (a : Int) (h : l.length ≤ 9223372036854775807) : Ok (slices_Index_int_int l a) (fun r => (0 ≤ r → l[r.toNat]? = some a) ∧ r < l.length) := by
 unfold slices_Index_int_int
 refine ok_bindS (Q := InlR Yes (fun r : Int => (0 ≤ r → l[r.toNat]? = some a) ∧ r < l.length)) (ok_up l.length h fun i h1 h2 => ?_) (fun _ _ => ok_some (And.intro (by omega) (by omega))) (fun _ hr => ?_)
 rotate_left
 ·exact ok_some hr
 unfold slices_Index_int_int_L1
 refine ok_ite (fun hi => ?_) (fun _ => ok_inr trivial)
 refine ok_bind (ok_idx h1 hi) (fun y hy => ?_)
 exact ok_ite (fun e => ok_inr ⟨fun _ => by rw [hy, e], hi⟩) (fun _ => ok_next h1 hi h)
theorem state_distinct_ok (l : List api_Thread) (h : l.length ≤ 1000000) : Ok (state_distinct l) (fun r => r.length ≤ l.length) := by
 unfold state_distinct
 refine ok_bind (Q := fun r => r.length ≤ l.length) (ok_up2 l.length (fun a i => (a.length : Int) ≤ i) (by omega) (by simp) (fun a i hI h1 h2 => ?_)) (fun r hr => ok_some hr)
 unfold state_distinct_L1
 dsimp only
 refine ok_ite (fun hi => ?_) (fun _ => ok_inr (by omega))
 refine ok_bind (Q := fun r : List Int => (r.length : Int) ≤ i + 1) ?_ (fun r hr => ok_next2 (Inv := fun (a : List Int) i => (a.length : Int) ≤ i) hr h1 hi (by omega))
 refine ok_bind (ok_idx h1 hi) (fun y hy => ?_)
 refine ok_bind (slices_Contains_int_int_ok a y.fId (by omega)) (fun v _ => ?_)
 refine ok_not (fun _ => ?_) (fun _ => ok_some (by omega))
 rw [room_ok (by simp; omega) (by simp; omega)]
 exact ok_some (by simp; omega)
def Disj (l : List api_State) (n : Int) : Prop := ∀ (j k : Nat) s s', j < k → (k : Int) < n → l[j]? = some s → l[k]? = some s' → s.fThread = s'.fThread → s.fSpan.fTo ≤ s'.fSpan.fFrom
def Vald (l : List api_State) (n : Int) : Prop := ∀ (j : Nat) s, (j : Int) < n → l[j]? = some s → 0 ≤ s.fSpan.fFrom ∧ s.fSpan.fFrom < s.fSpan.fTo ∧ s.fSpan.fTo ≤ 1000000000000
def Gd (l : List api_State) : Prop := Disj l l.length ∧ Vald l l.length
structure Tab (l : List api_State) (ix : List Int) (r i : Int) : Prop where
 le : ∀ (j : Nat) s, (j : Int) < i → l[j]? = some s → ∃ x, slices_Index_int_int ix s.fThread = some x ∧ x ≤ r
 last : ∀ s, 0 < i → l[(i - 1).toNat]? = some s → slices_Index_int_int ix s.fThread = some r
 pos : 0 ≤ r → 0 < i
 neg : i = 0 → r = -1
 rng : -1 ≤ r ∧ r < ix.length
 v : Vald l i
 d : Disj l i
theorem rows_next {l : List api_State} {ix : List Int} {r r' i : Int} {y : api_State} (hix : ix.length ≤ 9223372036854775807) (H : Tab l ix r i) (h1 : 0 ≤ i) (hy : l[i.toNat]? = some y) (hr : slices_Index_int_int ix y.fThread = some r') (h0 : 0 ≤ r') (hv : 0 ≤ y.fSpan.fFrom ∧ y.fSpan.fFrom < y.fSpan.fTo ∧ y.fSpan.fTo ≤ 1000000000000)
  (hs : r' = r → ∀ s, l[(i - 1).toNat]? = some s → y.fSpan.fFrom = s.fSpan.fTo) (hn : r' ≠ r → r' = r + 1) : Tab l ix r' (i + 1) := by
 have hle : r ≤ r' := by
  by_cases e : r' = r
  ·omega
  ·have := hn e; omega
 refine ⟨fun j s hj hs' => ?_, fun s _ hs' => ?_, fun _ => by omega, fun _ => by omega, ⟨by omega, ((slices_Index_int_int_lt ix _ hix).of_eq hr).2⟩, fun j s hj hs' => ?_, fun j k s s' hjk hk hj' hk' ht => ?_⟩
 ·by_cases e : (j : Int) = i
  ·have : i.toNat = j := by omega
   rw [this, hs'] at hy; cases hy
   exact ⟨r', hr, by omega⟩
  ·obtain ⟨x, h2, h3⟩ := H.le j s (by omega) hs'
   exact ⟨x, h2, by omega⟩
 ·rw [show i + 1 - 1 = i by omega, hy] at hs'; cases hs'
  exact hr
 ·by_cases e : (j : Int) = i
  ·have : i.toNat = j := by omega
   rw [this, hs'] at hy; cases hy
   exact hv
  ·exact H.v j s (by omega) hs'
 ·by_cases e : (k : Int) = i
  ·have : i.toNat = k := by omega
   rw [this, hk'] at hy; cases hy
   obtain ⟨x, h2, h3⟩ := H.le j s (by omega) hj'
   rw [ht, hr] at h2; cases h2
   by_cases e' : r' = r
   ·obtain ⟨u, hu⟩ : ∃ u, l[(i - 1).toNat]? = some u := by
     have := lt_of_get hk'
     exact ⟨_, List.getElem?_eq_getElem (by omega)⟩
    have h5 := hs e' u hu
    by_cases e2 : j = (i - 1).toNat
    ·subst e2; rw [hj'] at hu; cases hu; omega
    ·have hlu := H.last u (by omega) hu
     have hh : s.fThread = u.fThread → s.fSpan.fTo ≤ u.fSpan.fFrom := H.d j (i - 1).toNat s u (by omega) (by omega) hj' hu
     have hvu := H.v (i - 1).toNat u (by omega) hu
     have a1 := (slices_Index_int_int_lt ix _ hix).of_eq hlu |>.1 (by omega)
     have a2 := (slices_Index_int_int_lt ix _ hix).of_eq hr |>.1 h0
     rw [e', a1] at a2
     injection a2 with a2
     have := hh (by rw [ht, ← a2])
     omega
   ·have := hn e'; omega
  ·exact H.d j k s s' hjk (by omega) hj' hk' ht
theorem spans_Valid_val (s : api_Span) : Ok (spans_Valid s) (fun b => b = true → 0 ≤ s.fFrom ∧ s.fFrom < s.fTo ∧ s.fTo ≤ 1000000000000) := by
 rw [spans_Valid_eq]
 exact ok_some (fun h => of_decide_eq_true h)
theorem state_Check_ok (ths : List api_Thread) (l : List api_State) (ht : ths.length ≤ 1000000) (h : l.length ≤ 9223372036854775807) : Ok (state_Check ths l) (fun r => r = 0 → Gd l) := by
 unfold state_Check
 refine ok_bind (state_distinct_ok ths ht) (fun ix hix => ?_)
 have hix' : ix.length ≤ 9223372036854775807 := by omega
 refine ok_bindS (Q := InlR (fun _ => Gd l) (fun r => r ≠ 0)) (ok_up2 l.length (fun r i => Tab l ix r i) h ⟨by intro j s hj; omega, by intro s hj; omega, by omega, by simp, ⟨by omega, by omega⟩, by intro j s hj; omega, by intro j k s s' _ hj; omega⟩ (fun r i hI h1 h2 => ?_)) (fun r hd => ?_) (fun r hr => ?_)
 ·unfold state_Check_L2
  dsimp only
  have no : ∀ n : Int, n ≠ 0 → InlR (fun _ : Int => Gd l) (fun r => r ≠ 0) (.inr n) := fun n h => h
  refine ok_ite (fun hi => ?_) (fun hi => ok_inr (by have e : i = l.length := (by omega); have g1 := hI.d; have g2 := hI.v; rw [e] at g1 g2; exact ⟨g1, g2⟩))
  refine ok_bind (ok_idx h1 hi) (fun y hy => ?_)
  refine ok_bindE (slices_Index_int_int_ok ix y.fThread hix') (fun x hx => ?_)
  refine ok_ite (fun _ => ok_inr (no _ (by simp))) (fun h0 => ?_)
  refine ok_bind (spans_Valid_val y.fSpan) (fun v hv => ?_)
  refine ok_not (fun _ => ok_inr (no _ (by simp))) (fun ev => ?_)
  refine ok_bind (state_fields_ok y) (fun _ _ => ?_)
  refine ok_not (fun _ => ok_inr (no _ (by simp))) (fun _ => ?_)
  refine ok_bind (Q := fun v => v = false → x = r → ∀ s, l[(i - 1).toNat]? = some s → y.fSpan.fFrom = s.fSpan.fTo) ?_ (fun v1 hv1 => ?_)
  ·refine ok_ite (fun e => ?_) (fun e => ok_some (fun _ e' => absurd e' e))
   have hpos := hI.pos (by omega)
   rw [show w64 (i - 1) = i - 1 from w64_of (by omega)]
   refine ok_bind (ok_idx (by omega) (by omega)) (fun z hz => ?_)
   refine ok_nite (fun _ => ok_some (by simp)) (fun e2 => ?_)
   refine ok_bind (Q := Yes) ⟨z, hz ▸ by simp [idx, hz]; omega, trivial⟩ (fun w _ => ?_)
   refine (ok_bind (Q := Yes) (state_same_ok _ _) (fun b _ => ok_some (P := fun v => v = false → x = r → ∀ s, l[(i - 1).toNat]? = some s → y.fSpan.fFrom = s.fSpan.fTo) (fun _ _ s hs => ?_)))
   rw [hz] at hs; cases hs; exact e2
  refine ok_cond (fun _ => ok_inr (no _ (by simp))) (fun e1 => ?_)
  refine ok_bind (Q := fun v => v = false → x ≠ r → x = r + 1) ?_ (fun v2 hv2 => ?_)
  ·refine ok_nite (fun e => ?_) (fun e => ok_some (fun _ e' => absurd e e'))
   have hb := hI.rng
   rw [w64_of (n := r + 1) (by omega)]
   refine ok_nite (fun _ => ok_some (by simp)) (fun e3 => ok_some (fun _ _ => e3))
  refine ok_cond (fun _ => ok_inr (no _ (by simp))) (fun e2 => ?_)
  exact ok_next2 (Inv := fun r i => Tab l ix r i) (rows_next hix' hI h1 hy hx (by omega) (hv ev) (hv1 e1) (hv2 e2)) h1 hi h
 ·dsimp only
  refine ok_ite (fun _ => ok_some (fun _ => hd)) (fun hne => ?_)
  rw [show w64 ((l.length : Int) - 1) = (l.length : Int) - 1 from w64_of (by omega)]
  refine ok_bind (ok_idx (by omega) (by omega)) (fun y _ => ?_)
  refine ok_bindS (Q := Yes) (ok_up l.length h fun j h3 h4 => ?_) (fun _ _ => ?_) (fun r hr => ok_some (fun _ => hd))
  ·unfold state_Check_L1
   refine ok_ite (fun hj => ?_) (fun _ => ok_inrY)
   refine ok_bind (ok_idx h3 hj) (fun z hz => ?_)
   have e : w64 (j + 1) = j + 1 := w64_of (by omega)
   rw [e]
   refine ok_bind (Q := Yes) ?_ (fun v _ => ?_)
   ·refine ok_ite (fun _ => ok_yes) (fun hne => ?_)
    exact ok_bind (ok_idx (by omega) (by omega)) (fun _ _ => ok_yes)
   ·refine ok_bind (Q := Yes) (by repeat' (first | (with_reducible first | exact ok_yes | exact ok_inrY | exact ok_inlY | refine ok_nite (fun _ => ?_) fun _ => ?_ | refine ok_ite (fun _ => ?_) fun _ => ?_ | refine ok_not (fun _ => ?_) fun _ => ?_ | refine ok_cond (fun _ => ?_) fun _ => ?_) | (with_reducible refine ok_next ?_ ?_ ?_ <;> (first | assumption | omega | rw [w64_of] <;> omega)) | with_reducible refine ok_bind (ok_idx (by (first | assumption | omega | rw [w64_of] <;> omega)) (by (first | assumption | omega | rw [w64_of] <;> omega))) (fun _ _ => ?_) | (with_reducible refine ok_bind (Q := Yes) ?_ fun _ _ => ?_) | dsimp only)) (fun v _ => ?_)
    exact ok_cond (fun _ => ok_inrY) (fun _ => ok_inl ⟨hj, rfl⟩)
  ·exact ok_nite (fun _ => ok_some (fun _ => hd)) (fun _ => ok_some (fun _ => hd))
 ·exact ok_some (fun e => absurd e hr)
theorem trace_tables_ok (t : api_Trace) (h : Siz t) (ht : t.fThreads.length ≤ 1000000) : Ok (trace_tables t) (fun r => r = 0 → Gd t.fStates) := by
 unfold trace_tables
 refine ok_bindS (trace_threads_ok t h.th h.nTh) (fun r hr => ?_) (fun r _ => ?_)
 ·exact ok_nite (fun h0 => ok_some (fun e => absurd e h0)) (fun h0 => absurd h0 hr)
 ·dsimp only
  refine ok_nite (fun h0 => ok_some (fun e => absurd e h0)) (fun _ => ?_)
  refine ok_bind (slice_Check_ok _ h.sl h.nSl) (fun r4 _ => ?_)
  refine ok_bind (trace_known_api_Slice_k1_ok _ _ _ h.sl) (fun r5 _ => ?_)
  refine ok_nite (fun h0 => ok_some (fun e => absurd e h0)) (fun _ => ?_)
  refine ok_bind (state_Check_ok _ _ ht h.st) (fun r6 h6 => ?_)
  refine ok_nite (fun h0 => ok_some (fun e => absurd e h0)) (fun e6 => ?_)
  have hd := h6 e6
  refine ok_bind (flow_Check_ok _ h.fl) (fun r7 _ => ?_)
  refine ok_bind (trace_known_api_Flow_k1_ok _ _ _ h.fl) (fun r8 _ => ?_)
  refine ok_bind (trace_known_api_Flow_k2_ok _ _ _ h.fl) (fun r9 _ => ?_)
  refine ok_nite (fun h0 => ok_some (fun e => absurd e h0)) (fun _ => ?_)
  refine ok_bind (sample_Check_ok _ h.sa h.nSa) (fun r10 _ => ?_)
  refine ok_bind (trace_known_api_Sample_k1_ok _ _ _ h.sa) (fun r11 _ => ?_)
  refine ok_nite (fun h0 => ok_some (fun e => absurd e h0)) (fun _ => ?_)
  refine ok_bind (counter_Check_ok _ h.sp h.nSp) (fun r12 _ => ?_)
  refine ok_nite (fun h0 => ok_some (fun e => absurd e h0)) (fun _ => ?_)
  refine ok_bind (memory_Check_ok _ h.bl h.nBl) (fun r13 _ => ?_)
  refine ok_bind (trace_known_api_Block_k1_ok _ _ _ h.bl) (fun r14 _ => ?_)
  refine ok_nite (fun h0 => ok_some (fun e => absurd e h0)) (fun _ => ?_)
  refine ok_bind (trace_losses_k1_ok _ _ h.lo) (fun r15 _ => ?_)
  exact ok_some (fun _ => hd)
theorem trace_Check_ok (t : api_Trace) (h : Siz t) (ht : t.fThreads.length ≤ 1000000) : Ok (trace_Check t) (fun r => r = 0 → Gd t.fStates) := by
 unfold trace_Check
 refine ok_bind (trace_tables_ok t h ht) (fun r hr => ?_)
 refine ok_nite (fun h0 => ok_some (fun e => absurd e h0)) (fun e => ?_)
 have hd := hr e
 refine ok_bind (Q := Yes) (by repeat' (first | (with_reducible first | exact ok_yes | exact ok_inrY | exact ok_inlY | refine ok_nite (fun _ => ?_) fun _ => ?_ | refine ok_ite (fun _ => ?_) fun _ => ?_ | refine ok_not (fun _ => ?_) fun _ => ?_ | refine ok_cond (fun _ => ?_) fun _ => ?_) | (with_reducible refine ok_next ?_ ?_ ?_ <;> (first | assumption | omega | rw [w64_of] <;> omega)) | with_reducible refine ok_bind (ok_idx (by (first | assumption | omega | rw [w64_of] <;> omega)) (by (first | assumption | omega | rw [w64_of] <;> omega))) (fun _ _ => ?_) | (with_reducible refine ok_bind (Q := Yes) ?_ fun _ _ => ?_) | dsimp only)) (fun v _ => ?_)
 refine ok_cond (fun _ => ok_some (fun _ => hd)) (fun _ => ?_)
 refine ok_bind (trace_outside_ok t h) (fun v _ => ?_)
 exact ok_cond (fun _ => ok_some (fun _ => hd)) (fun _ => ok_some (fun _ => hd))
inductive Desc (l : List api_Slice) (j : Int) : Int → Prop
 | self : Desc l j j
 | up {a : Int} {y : api_Slice} : 0 ≤ a → l[a.toNat]? = some y → Desc l j y.fParent → Desc l j a
theorem Desc.le {l : List api_Slice} (hu : Up l l.length) {j a : Int} (h : Desc l j a) : j ≤ a := by
 induction h with
 | self => omega
 | up h0 hy _ ih =>
  have := hu _ _ (by have := lt_of_get hy; omega) hy
  omega
theorem ok_up2M {σ ρ : Type} {step : σ × Int → Option ((σ × Int) ⊕ ρ)} (n : Nat) (Inv : σ → Nat → Prop) {Post : ρ → Prop} (hn : n ≤ 9223372036854775807) {s0 : σ} (h0 : Inv s0 0)
  (h : ∀ (s : σ) (i : Nat), Inv s i → i ≤ n → Ok (step (s, (i : Int))) (InlR (fun a => i < n ∧ a.2 = ((i + 1 : Nat) : Int) ∧ Inv a.1 (i + 1)) Post)) : Ok (loop step (s0, 0)) Post := by
 refine ok_up2 n (fun s i => Inv s i.toNat) hn h0 (fun s i hI h1 h2 => ?_)
 obtain ⟨k, rfl⟩ := Int.eq_ofNat_of_zero_le h1
 refine (h s k hI (by omega)).mono ?_
 rintro (⟨a, b⟩ | b) hr
 ·obtain ⟨h3, h4, h5⟩ : k < n ∧ b = ((k + 1 : Nat) : Int) ∧ Inv a (k + 1) := hr
  refine ⟨by omega, by omega, ?_⟩
  rw [show ((k : Int) + 1).toNat = k + 1 by omega]; exact h5
 ·exact hr
theorem ok_upM {ρ : Type} {step : Int → Option (Int ⊕ ρ)} (n : Nat) (Inv : Nat → Prop) {Post : ρ → Prop} (hn : n ≤ 9223372036854775807) (h0 : Inv 0)
  (h : ∀ i : Nat, Inv i → i ≤ n → Ok (step (i : Int)) (InlR (fun a => i < n ∧ a = ((i + 1 : Nat) : Int) ∧ Inv (i + 1)) Post)) : Ok (loop step 0) Post := by
 refine ok_upI n (fun i => Inv i.toNat) hn h0 (fun i hI h1 h2 => ?_)
 obtain ⟨k, rfl⟩ := Int.eq_ofNat_of_zero_le h1
 refine (h k hI (by omega)).mono ?_
 rintro (b | b) hr
 ·obtain ⟨h3, h4, h5⟩ : k < n ∧ b = ((k + 1 : Nat) : Int) ∧ Inv (k + 1) := hr
  refine ⟨by omega, by omega, ?_⟩
  rw [show ((k : Int) + 1).toNat = k + 1 by omega]; exact h5
 ·exact hr
theorem ok_ixM {α : Type} {xs : List α} {i : Nat} (h : i < xs.length) : Ok (idx xs (i : Int)) (fun y => xs[i]? = some y) := by
 rw [idx_nat]; exact ⟨xs[i], by simp [h], by simp [h]⟩
theorem w64_M {i n : Nat} (h : i < n) (hn : n ≤ 9223372036854775807) : w64 ((i : Int) + 1) = ((i + 1 : Nat) : Int) := by rw [w64_of (by omega)]; omega
def SpV (l : List api_Slice) : Prop := ∀ s ∈ l, 0 ≤ s.fSpan.fFrom ∧ s.fSpan.fFrom < s.fSpan.fTo ∧ s.fSpan.fTo ≤ 1000000000000
theorem slice_Check_v (l : List api_Slice) (h : l.length ≤ 9223372036854775807) (hx : ∀ x ∈ l, okN x.fName) : Ok (slice_Check l) (fun r => r = 0 → SpV l) := by
 unfold slice_Check
 refine ok_bindS (Q := InlR (fun _ => SpV l) (fun r => r ≠ 0)) (ok_upM l.length (fun n => ∀ (k : Nat) s, k < n → l[k]? = some s → 0 ≤ s.fSpan.fFrom ∧ s.fSpan.fFrom < s.fSpan.fTo ∧ s.fSpan.fTo ≤ 1000000000000) h (by intro k s hk; omega) (fun i hI h2 => ?_)) (fun _ hq => ?_) (fun r hr => ok_some (fun e => absurd e hr))
 ·unfold slice_Check_L1
  refine ok_ite (fun hi => ?_) (fun hi => ok_inr (fun s hs => ?_))
  ·refine ok_bind (ok_ixM (by omega)) (fun y hy => ?_)
   refine ok_bind (Q := fun v => v = false → 0 ≤ y.fSpan.fFrom ∧ y.fSpan.fFrom < y.fSpan.fTo ∧ y.fSpan.fTo ≤ 1000000000000) ?_ (fun v hv => ?_)
   ·refine ok_ite (fun _ => ok_some (by simp)) (fun _ => ?_)
    refine ok_ite (fun _ => ok_some (by simp)) (fun _ => ?_)
    refine ok_bind (spans_Valid_val y.fSpan) (fun b hb => ok_some (fun e => hb (by simpa using e)))
   refine ok_cond (fun _ => ok_inr (show (2 : Int) ≠ 0 by omega)) (fun e => ?_)
   refine ok_bind (intern_Name_ok _ (hx _ (List.mem_of_getElem? hy))) (fun r _ => ?_)
   refine ok_nite (fun h0 => ok_inr h0) (fun _ => ?_)
   refine ok_bind (Q := Yes) ?_ (fun v2 _ => ?_)
   ·refine ok_ite (fun h0 => ?_) (fun _ => ok_yes)
    rw [show w64 ((i : Int) - 1) = (i : Int) - 1 from w64_of (by omega)]
    refine ok_bind (ok_idx (by omega) (by omega)) (fun z _ => ?_)
    exact ok_bind (slice_compare_ok _ _) (fun _ _ => ok_yes)
   refine ok_cond (fun _ => ok_inr (show (11 : Int) ≠ 0 by omega)) (fun _ => ?_)
   rw [w64_M (n := l.length) (by omega) h]
   refine ok_inl ⟨by omega, rfl, fun k s hk hs => ?_⟩
   by_cases e2 : k = i
   ·subst e2; rw [hy] at hs; cases hs; exact hv e
   ·exact hI k s (by omega) hs
  ·obtain ⟨k, hk⟩ := List.getElem?_of_mem hs
   exact hI k s (by have := lt_of_get hk; omega) hk
 ·have hq' : SpV l := hq
  dsimp only
  refine ok_bind (Q := Yes) ?_ (fun v _ => ok_cond (fun _ => ok_some (fun e => by simp at e)) (fun _ => ok_some (fun _ => hq')))
  refine ok_bind (slice_nested_ok l h) (fun b hb => ?_)
  refine ok_not (fun _ => ok_yes) (fun e => ?_)
  exact ok_bind (slice_apart_ok l h (hb e)) (fun _ _ => ok_yes)
theorem trace_Check_v (t : api_Trace) (hz : Siz t) (ht : t.fThreads.length ≤ 1000000) : Ok (trace_Check t) (fun r => r = 0 → SpV t.fSlices) := by
 unfold trace_Check
 refine ok_bind (Q := fun r => r = 0 → SpV t.fSlices) ?_ (fun r hr => ?_)
 ·unfold trace_tables
  refine ok_bindS (trace_threads_ok t hz.th hz.nTh) (fun r hr => ?_) (fun r _ => ?_)
  ·exact ok_nite (fun h0 => ok_some (fun e => absurd e h0)) (fun h0 => absurd h0 hr)
  ·dsimp only
   refine ok_nite (fun h0 => ok_some (fun e => absurd e h0)) (fun _ => ?_)
   refine ok_bind (slice_Check_v _ hz.sl hz.nSl) (fun r4 h4 => ?_)
   by_cases h40 : r4 = 0
   ·have hd := h4 h40
    refine ok_bind (trace_known_api_Slice_k1_ok _ _ _ hz.sl) (fun r5 _ => ?_)
    refine ok_nite (fun h0 => ok_some (fun e => absurd e h0)) (fun _ => ?_)
    refine ok_bind (state_Check_ok _ _ ht hz.st) (fun r6 h6 => ?_)
    refine ok_nite (fun h0 => ok_some (fun e => absurd e h0)) (fun e6 => ?_)
    refine ok_bind (flow_Check_ok _ hz.fl) (fun r7 _ => ?_)
    refine ok_bind (trace_known_api_Flow_k1_ok _ _ _ hz.fl) (fun r8 _ => ?_)
    refine ok_bind (trace_known_api_Flow_k2_ok _ _ _ hz.fl) (fun r9 _ => ?_)
    refine ok_nite (fun h0 => ok_some (fun e => absurd e h0)) (fun _ => ?_)
    refine ok_bind (sample_Check_ok _ hz.sa hz.nSa) (fun r10 _ => ?_)
    refine ok_bind (trace_known_api_Sample_k1_ok _ _ _ hz.sa) (fun r11 _ => ?_)
    refine ok_nite (fun h0 => ok_some (fun e => absurd e h0)) (fun _ => ?_)
    refine ok_bind (counter_Check_ok _ hz.sp hz.nSp) (fun r12 _ => ?_)
    refine ok_nite (fun h0 => ok_some (fun e => absurd e h0)) (fun _ => ?_)
    refine ok_bind (memory_Check_ok _ hz.bl hz.nBl) (fun r13 _ => ?_)
    refine ok_bind (trace_known_api_Block_k1_ok _ _ _ hz.bl) (fun r14 _ => ?_)
    refine ok_nite (fun h0 => ok_some (fun e => absurd e h0)) (fun _ => ?_)
    refine ok_bind (trace_losses_k1_ok _ _ hz.lo) (fun r15 _ => ?_)
    exact ok_some (fun _ => hd)
   ·have : Ok (trace_known_api_Slice_k1 r4 r.1 t.fSlices) (fun q => q = r4) := by
     unfold trace_known_api_Slice_k1
     exact ok_nite (fun _ => ok_some rfl) (fun e => absurd e h40)
    refine ok_bind this (fun r5 h5 => ?_)
    subst h5
    exact ok_nite (fun h0 => ok_some (fun e => absurd e h0)) (fun e => absurd e h40)
 ·refine ok_nite (fun h0 => ok_some (fun e => absurd e h0)) (fun e => ?_)
  have hd := hr e
  refine ok_bind (Q := Yes) (by repeat' (first | (with_reducible first | exact ok_yes | exact ok_inrY | exact ok_inlY | refine ok_nite (fun _ => ?_) fun _ => ?_ | refine ok_ite (fun _ => ?_) fun _ => ?_ | refine ok_not (fun _ => ?_) fun _ => ?_ | refine ok_cond (fun _ => ?_) fun _ => ?_) | (with_reducible refine ok_next ?_ ?_ ?_ <;> (first | assumption | omega | rw [w64_of] <;> omega)) | with_reducible refine ok_bind (ok_idx (by (first | assumption | omega | rw [w64_of] <;> omega)) (by (first | assumption | omega | rw [w64_of] <;> omega))) (fun _ _ => ?_) | (with_reducible refine ok_bind (Q := Yes) ?_ fun _ _ => ?_) | dsimp only)) (fun v _ => ?_)
  refine ok_cond (fun _ => ok_some (fun _ => hd)) (fun _ => ?_)
  refine ok_bind (trace_outside_ok t hz) (fun v _ => ?_)
  exact ok_cond (fun _ => ok_some (fun _ => hd)) (fun _ => ok_some (fun _ => hd))
def lenS (s : api_Slice) : Int := w64 (s.fSpan.fTo - s.fSpan.fFrom)
theorem lenS_v {l : List api_Slice} (h : SpV l) {s : api_Slice} (hs : s ∈ l) : 0 < lenS s ∧ lenS s ≤ 1000000000000 := by
 have := h s hs
 unfold lenS
 rw [w64_of (by omega)]
 omega
def isC (name : ByteArray) (s : api_Slice) : Bool := decide (s.fName = name) && !s.fOpen
def closedL (l : List api_Slice) (name : ByteArray) : List Int := (l.filter (isC name)).map lenS
theorem closedL_len (l : List api_Slice) (name : ByteArray) : (closedL l name).length ≤ l.length := by
 unfold closedL; simp only [List.length_map]; exact List.length_filter_le _ _
theorem closed_p (t : api_Trace) (name : ByteArray) (h : t.fSlices.length ≤ 60) : anomaly_closed t name = some (closedL t.fSlices name) := by
 have : Ok (anomaly_closed t name) (fun r => r = closedL t.fSlices name) := by
  unfold anomaly_closed
  refine ok_bind (Q := fun r => r = closedL t.fSlices name) (ok_up2M t.fSlices.length (fun a n => a = closedL (t.fSlices.take n) name) (by omega) (by simp [closedL]) (fun a i hI h2 => ?_)) (fun r hr => ok_some hr)
  unfold anomaly_closed_L1
  dsimp only
  subst hI
  have hl := closedL_len (t.fSlices.take i) name
  rw [List.length_take] at hl
  refine ok_ite (fun hi => ?_) (fun hi => ok_inr (by rw [List.take_of_length_le (by omega)]))
  obtain ⟨y, hiy, hy⟩ := ok_ixM (xs := t.fSlices) (i := i) (by omega)
  refine ok_bind (Q := fun r => r = closedL (t.fSlices.take (i + 1)) name) ?_ (fun r hr => ?_)
  ·rw [hiy, Option.bind_some]
   have e : closedL (t.fSlices.take (i + 1)) name = closedL (t.fSlices.take i) name ++ (if isC name y = true then [lenS y] else []) := by
    unfold closedL
    rw [List.take_add_one, hy]
    simp only [Option.toList_some, List.filter_append, List.map_append]
    by_cases hc : isC name y = true <;> simp [hc]
   rw [e]
   by_cases h1 : y.fName = name
   ·cases h2 : y.fOpen with
    | true => simp [h1, h2, isC, Ok]
    | false =>
     simp only [h1, h2, isC, anomaly_length, decide_true, cond_true, Bool.not_false, Option.bind_some, Bool.and_self, if_true]
     rw [room_ok (by simp; omega) (by simp; omega)]
     exact ok_some rfl
   ·simp [h1, isC, Ok]
  ·rw [w64_M (n := t.fSlices.length) (by omega) (by omega)]
   exact ok_inl ⟨by omega, rfl, hr⟩
 obtain ⟨r, h1, h2⟩ := this
 rw [h1, h2]
def qIx (n : Nat) : Int := max (((n : Int) + 1) / 2) 1 - 1
theorem q_all : (List.range 61).all (fun n => decide ((((math_bits_Mul64 (IntKind.wrap .u64 1) (IntKind.wrap .u64 (n : Int))).bind fun r4 => ((math_bits_Div64 r4.1 r4.2 (IntKind.wrap .u64 2)).bind fun r5 => (((bif (decide (0 < r5.2)) then some (IntKind.wrap .u64 (r5.1 + 1)) else some r5.1) : Option Int).bind fun v6 => some (IntKind.wrap .u64 ((max v6 1) - 1)))))) = some (qIx n))) = true := by kernel_rfl
def medS (l : List Int) : Int × Bool := match (sortI l)[(qIx l.length).toNat]? with
 | some x => (x, true)
 | none => (0, false)
theorem quantile_p (l : List Int) (h : l.length ≤ 60) : num_Quantile l 1 2 = some (medS l) := by
 unfold num_Quantile
 have hsl : (sortI l).length = l.length := (sortI_perm l).length_eq
 by_cases h0 : (l.length : Int) = 0
 ·have : l = [] := List.length_eq_zero_iff.1 (by omega)
  subst this
  rfl
 ·have hq := of_decide_eq_true (List.all_eq_true.1 q_all l.length (List.mem_range.2 (by omega)))
  have hs : sortB l = true := decide_eq_true (by omega)
  simp only [h0, decide_false, cond_false, Option.bind_some, slices_Values_int_int, slices_Sorted_int_k1, hs, cond_true, show decide ((2 : Int) < 1) = false from rfl, show decide ((1000000000000000 : Int) < 2) = false from rfl, show decide ((1 : Int) < 0) = false from rfl, show decide ((2 : Int) < 1) = false from rfl]
  generalize math_bits_Mul64 (IntKind.wrap .u64 1) (IntKind.wrap .u64 (l.length : Int)) = A at *
  cases A with
  | none => simp at hq
  | some r4 =>
   simp only [Option.bind_some] at hq ⊢
   generalize math_bits_Div64 r4.1 r4.2 (IntKind.wrap .u64 2) = B at *
   cases B with
   | none => simp at hq
   | some r5 =>
    simp only [Option.bind_some] at hq ⊢
    generalize (bif (decide (0 < r5.2)) then some (IntKind.wrap .u64 (r5.1 + 1)) else some r5.1 : Option Int) = C at *
    cases C with
    | none => simp at hq
    | some v6 =>
     simp only [Option.bind_some, Option.some.injEq] at hq ⊢
     rw [hq]
     have hr : 0 ≤ qIx l.length ∧ qIx l.length < l.length := by unfold qIx; omega
     obtain ⟨y, h3, h4⟩ := ok_idx (xs := sortI l) (i := qIx l.length) hr.1 (by omega)
     rw [h3]
     unfold medS
     rw [h4]
     rfl
def usu (t : api_Trace) (name : ByteArray) : Int × Bool := (anomaly_usual t name).getD (0, false)
structure Usu (t : api_Trace) (name : ByteArray) (r : Int × Bool) : Prop where
 rng : 0 ≤ r.1 ∧ r.1 < t.fSlices.length
 s : ∃ s, t.fSlices[r.1.toNat]? = some s ∧ isC name s = true ∧ medS (closedL t.fSlices name) = (lenS s, true)
theorem usual_ok (t : api_Trace) (name : ByteArray) (h : t.fSlices.length ≤ 60) : Ok (anomaly_usual t name) (fun r => r.2 = true → Usu t name r) := by
 unfold anomaly_usual
 have hcl := closedL_len t.fSlices name
 rw [closed_p t name h, Option.bind_some, quantile_p _ (by omega), Option.bind_some]
 generalize hm : medS (closedL t.fSlices name) = m
 refine ok_not (fun _ => ok_some (by simp)) (fun e => ?_)
 refine ok_bindS (Q := InlR Yes (fun r : Int × Bool => r.2 = true → Usu t name r)) (ok_upM t.fSlices.length (fun _ => True) (by omega) trivial (fun i _ h2 => ?_)) (fun _ _ => ok_some (by simp)) (fun r hr => ok_some hr)
 unfold anomaly_usual_L1
 refine ok_ite (fun hi => ?_) (fun _ => ok_inr trivial)
 obtain ⟨y, hiy, hy⟩ := ok_ixM (xs := t.fSlices) (i := i) (by omega)
 rw [hiy, Option.bind_some]
 refine ok_bind (Q := fun v => v = true → isC name y = true ∧ lenS y = m.1) ?_ (fun v hv => ?_)
 ·refine ok_ite (fun h1 => ?_) (fun _ => ok_some (by simp))
  refine ok_not (fun h3 => ?_) (fun _ => ok_some (by simp))
  simp only [anomaly_length, Option.bind_some]
  exact ok_some (fun h4 => ⟨by simp [isC, h1, h3], of_decide_eq_true h4⟩)
 refine ok_cond (fun e1 => ok_inr (fun _ => ⟨⟨by simp, by simp; omega⟩, y, by simpa using hy, (hv e1).1, ?_⟩)) (fun _ => ?_)
 ·rw [hm, (hv e1).2, ← e]
 ·rw [w64_M (n := t.fSlices.length) (by omega) (by omega)]
  exact ok_inl ⟨by omega, rfl, trivial⟩
theorem usual_p (t : api_Trace) (name : ByteArray) (h : t.fSlices.length ≤ 60) : anomaly_usual t name = some (usu t name) ∧ ((usu t name).2 = true → Usu t name (usu t name)) := by
 obtain ⟨r, h1, h2⟩ := usual_ok t name h
 unfold usu
 rw [h1]
 exact ⟨rfl, h2⟩
theorem revS_ok (l : List ByteArray) (hl : l.length ≤ 9223372036854775807) : Tot (slices_Reverse_string_string_k1 l) := by
 unfold slices_Reverse_string_string_k1
 rw [show w64 ((l.length : Int) - 1) = (l.length : Int) - 1 from w64_of (by omega)]
 refine ok_loop (fun s : List ByteArray × Int × Int => 0 ≤ s.2.1 ∧ s.2.1 + s.2.2 = (l.length : Int) - 1 ∧ s.1.length = l.length) (fun s => (s.2.2 + 1).toNat) (fun s hs => ?_) ⟨by simp, by simp, by simp⟩ (by simp [manyRounds]; omega)
 obtain ⟨c, i, j⟩ := s
 obtain ⟨h1, h2, h3⟩ := hs
 simp only at h1 h2 h3
 unfold slices_Reverse_string_string_k1_L1
 dsimp only
 refine ok_ite (fun hi => ?_) (fun _ => ok_inrY)
 refine ok_bind (ok_idx (by omega) (by omega)) (fun y _ => ?_)
 refine ok_bind (ok_idx (by omega) (by omega)) (fun z _ => ?_)
 refine ok_bind (Q := Yes) (ok_idx (by omega) (by omega)).yes (fun _ _ => ?_)
 refine ok_bind (Q := Yes) (ok_idx (by omega) (by simp; omega)).yes (fun _ _ => ?_)
 rw [show w64 (i + 1) = i + 1 from w64_of (by omega), show w64 (j - 1) = j - 1 from w64_of (by omega)]
 exact ok_inl ⟨⟨by simp; omega, by simp; omega, by simp [h3]⟩, by simp; omega⟩
theorem spath_ok (l : List api_Slice) (i : Int) (h : l.length ≤ 60) : Tot (slice_Path l i) := by
 unfold slice_Path
 refine ok_bind (Q := Yes) (by repeat' (first | (with_reducible first | exact ok_yes | exact ok_inrY | exact ok_inlY | refine ok_nite (fun _ => ?_) fun _ => ?_ | refine ok_ite (fun _ => ?_) fun _ => ?_ | refine ok_not (fun _ => ?_) fun _ => ?_ | refine ok_cond (fun _ => ?_) fun _ => ?_) | (with_reducible refine ok_next ?_ ?_ ?_ <;> (first | assumption | omega | rw [w64_of] <;> omega)) | with_reducible refine ok_bind (ok_idx (by (first | assumption | omega | rw [w64_of] <;> omega)) (by (first | assumption | omega | rw [w64_of] <;> omega))) (fun _ _ => ?_) | (with_reducible refine ok_bind (Q := Yes) ?_ fun _ _ => ?_) | dsimp only)) (fun v _ => ?_)
 refine ok_cond (fun _ => ok_yes) (fun _ => ?_)
 refine ok_bind (Q := fun r => r.length ≤ 62) (ok_loop (fun s : Int × List ByteArray × Int => 0 ≤ s.2.2 ∧ s.2.2 ≤ (l.length : Int) + 1 ∧ (s.2.1.length : Int) = s.2.2) (fun s => ((l.length : Int) + 1 - s.2.2).toNat) (fun s hs => ?_) ⟨by simp, by simp; omega, by simp⟩ (by simp [manyRounds]; omega)) (fun r hr => ?_)
 ·obtain ⟨a, o, n⟩ := s
  obtain ⟨h1, h2, h3⟩ := hs
  simp only at h1 h2 h3
  unfold slice_Path_L1
  dsimp only
  refine ok_bind (Q := fun v => v = true → 0 ≤ a ∧ a < (l.length : Int) ∧ n ≤ (l.length : Int)) ?_ (fun v hv => ?_)
  ·by_cases g1 : 0 ≤ a <;> by_cases g2 : a < (l.length : Int) <;> by_cases g3 : n ≤ (l.length : Int) <;> simp [g1, g2, g3, Ok]
  refine ok_cond (fun e => ?_) (fun _ => ok_inr (by (first | omega | (simp; omega))))
  obtain ⟨g1, g2, g3⟩ := hv e
  obtain ⟨y, hy, _⟩ := ok_idx g1 g2
  rw [hy, Option.bind_some, room_ok (by simp; omega) (by simp; omega), show w64 (n + 1) = n + 1 from w64_of (by omega)]
  exact ok_inl ⟨⟨by (first | omega | (simp; omega)), by (first | omega | (simp; omega)), by (first | omega | (simp; omega))⟩, by (first | omega | (simp; omega))⟩
 ·exact ok_bind (revS_ok r (by omega)) (fun _ _ => ok_yes)
theorem v64_of {n : Int} (h : 0 ≤ n ∧ n < 18446744073709551616) : IntKind.wrap .u64 n = n := by
 have e : (2 : Int) ^ (64 : Nat) = 18446744073709551616 := by decide
 simp only [IntKind.wrap, IntKind.bits, IntKind.signed, e, Bool.false_and, Bool.false_eq_true, if_false]
 omega
def W0 (x : Int) : tracebookref02_Wide := { fHi := 0, fLo := x }
theorem plus_p {x y : Int} (hx : 0 ≤ x) (hy : 0 ≤ y) (h : x + y < 18446744073709551616) : tracebookref02_plus (W0 x) (W0 y) = some (W0 (x + y)) := by
 unfold tracebookref02_plus W0
 simp only
 rw [v64_of (n := x + y) (by omega)]
 have : ¬ x + y < x := by omega
 simp only [this, decide_false, cond_false, Option.bind_some]
 rw [v64_of (n := 0 + 0) (by omega)]
 rfl
theorem minus_p {x y : Int} (hy : 0 ≤ y) (h : y ≤ x) (hx : x < 18446744073709551616) : tracebookref02_minus (W0 x) (W0 y) = some (W0 (x - y)) := by
 unfold tracebookref02_minus W0
 simp only
 have : ¬ x < y := by omega
 simp only [this, decide_false, cond_false, Option.bind_some]
 rw [v64_of (n := x - y) (by omega), v64_of (n := 0 - 0) (by omega)]
 rfl
theorem less_p (x y : Int) : tracebookref02_less (W0 x) (W0 y) = some (decide (x < y)) := by
 unfold tracebookref02_less W0
 simp
theorem pow_64 {j : Nat} (h : 64 ≤ j) {x : Nat} (hx : x < 18446744073709551616) : x / 2 ^ j = 0 := by
 refine Nat.div_eq_of_lt (Nat.lt_of_lt_of_le hx ?_)
 have : (2 : Nat) ^ 64 ≤ 2 ^ j := Nat.pow_le_pow_right (by decide) h
 exact Nat.le_trans (by decide) this
theorem shR_p (x : Nat) {j : Nat} (h : j < 64) : shR .u64 (x : Int) (j : Int) = ((x / 2 ^ j : Nat) : Int) := by
 unfold shR
 have e : min ((j : Int).toNat) (IntKind.bits .u64) = j := by simp [IntKind.bits]; omega
 rw [e, Int.fdiv_eq_ediv_of_nonneg _ (Int.pow_nonneg (by decide))]
 simp
theorem bit_p {x j : Nat} (hx : x < 18446744073709551616) (hj : j ≤ 127) : tracebookref02_bit (W0 x) (j : Int) = some ((x / 2 ^ j % 2 : Nat) : Int) := by
 have : Ok (tracebookref02_bit (W0 x) (j : Int)) (fun r => r = ((x / 2 ^ j % 2 : Nat) : Int)) := by
  unfold tracebookref02_bit
  refine ok_ite (fun h => ?_) (fun h => ?_)
  ·rw [w64_of (by omega), v64_of (n := (j : Int) - 64) (by omega)]
   refine ok_ite (fun _ => ok_some ?_) (fun h3 => by omega)
   rw [pow_64 (by omega) hx]
   have e : shR .u64 (W0 (x : Int)).fHi ((j : Int) - 64) = 0 := by unfold shR W0; simp
   rw [e]; rfl
  ·rw [v64_of (n := (j : Int)) (by omega)]
   refine ok_ite (fun _ => ok_some ?_) (fun h3 => by omega)
   have e : (W0 (x : Int)).fLo = (x : Int) := rfl
   rw [e, shR_p x (by omega), Int.tmod_eq_emod_of_nonneg (Int.natCast_nonneg _)]
   simp
 obtain ⟨r, h1, h2⟩ := this
 rw [h1, h2]
theorem half_up (x j : Nat) : x / 2 ^ j = 2 * (x / 2 ^ (j + 1)) + x / 2 ^ j % 2 := by
 have : x / 2 ^ (j + 1) = x / 2 ^ j / 2 := by rw [Nat.pow_succ, Nat.div_div_eq_div_mul]
 rw [this]; omega
theorem div_le' (x j : Nat) : x / 2 ^ j ≤ x := Nat.div_le_self _ _
theorem divide_p {x : Nat} (hx : x < 18446744073709551616) : tracebookref02_divide (W0 x) (W0 1) = some (W0 x, W0 0) := by
 have : Ok (tracebookref02_divide (W0 x) (W0 1)) (fun r => r = (W0 x, W0 0)) := by
  unfold tracebookref02_divide
  refine ok_bind (Q := fun r => r = (0, (x : Int), 0, 0)) ?_ (fun r hr => by subst hr; exact ok_some rfl)
  refine ok_loop (fun s : Int × Int × Int × Int × Int => ∃ n : Nat, n ≤ 128 ∧ s = (0, ((x / 2 ^ n : Nat) : Int), 0, 0, (n : Int) - 1)) (fun s => (s.2.2.2.2 + 1).toNat) (fun s H => ?_) ⟨128, by omega, by rw [pow_64 (by omega) hx]; rfl⟩ (by unfold manyRounds; decide)
  obtain ⟨n, hn, rfl⟩ := H
  unfold tracebookref02_divide_L1
  simp only
  refine ok_ite (fun h => ?_) (fun h => ok_inr (by rw [show n = 0 by omega]; simp))
  obtain ⟨m, rfl⟩ : ∃ m, n = m + 1 := ⟨n - 1, by omega⟩
  have hle := div_le' x (m + 1)
  have hup := half_up x m
  have hle2 := div_le' x m
  have e1 := plus_p (x := ((x / 2 ^ (m + 1) : Nat) : Int)) (y := ((x / 2 ^ (m + 1) : Nat) : Int)) (by omega) (by omega) (by omega)
  have e2 := plus_p (x := 0) (y := 0) (by omega) (by omega) (by omega)
  have hb : (((m + 1 : Nat) : Int) - 1) = (m : Int) := by omega
  rw [hb]
  have e3 := bit_p (x := x) (j := m) hx (by omega)
  have e4 := plus_p (x := 0 + 0) (y := ((x / 2 ^ m % 2 : Nat) : Int)) (by omega) (by omega) (by omega)
  unfold W0 at e1 e2 e3 e4
  simp only [W0]
  rw [e1, Option.bind_some, e2, Option.bind_some, e3, Option.bind_some, e4, Option.bind_some]
  have e5 := less_p (0 + 0 + ((x / 2 ^ m % 2 : Nat) : Int)) 1
  unfold W0 at e5
  rw [e5, Option.bind_some]
  have hw : w64 ((m : Int) - 1) = (m : Int) - 1 := w64_of (by omega)
  rw [hw]
  refine ok_bind (Q := fun v => v = (0, ((x / 2 ^ m : Nat) : Int), 0, 0)) ?_ (fun v hv => ?_)
  ·have h2 : x / 2 ^ m % 2 = 0 ∨ x / 2 ^ m % 2 = 1 := by omega
   rcases h2 with h2 | h2
   ·rw [h2]
    simp only [Int.ofNat_zero, show ((0 : Nat) : Int) = 0 by rfl, show (0 + 0 + (0 : Int) < 1) by decide, decide_true, Bool.not_true, cond_false]
    refine ok_some ?_
    rw [hup, h2]; simp; omega
   ·rw [h2]
    have e6 := minus_p (x := 0 + 0 + ((1 : Nat) : Int)) (y := 1) (by omega) (by omega) (by omega)
    unfold W0 at e6
    simp only [show ¬ (0 + 0 + ((1 : Nat) : Int) < 1) by decide, decide_false, Bool.not_false, cond_true]
    rw [e6, Option.bind_some]
    refine ok_some ?_
    rw [v64_of (by omega), hup, h2]
    simp; omega
  ·subst hv
   exact ok_inl ⟨⟨m, by omega, rfl⟩, by simp only; omega⟩
 obtain ⟨r, h1, h2⟩ := this
 rw [h1, h2]
theorem gcd_p {x : Nat} (hx : x < 18446744073709551616) : tracebookref02_gcd (W0 x) (W0 1) = some (W0 1) := by
 have : Ok (tracebookref02_gcd (W0 x) (W0 1)) (fun r => r = W0 1) := by
  unfold tracebookref02_gcd
  refine ok_bind (Q := fun r => r = (0, 1)) ?_ (fun r hr => by subst hr; exact ok_some rfl)
  refine ok_loop (fun s : Int × Int × Int × Int => s = (0, (x : Int), 0, 1) ∨ s = (0, 1, 0, 0)) (fun s => s.2.2.2.toNat) (fun s H => ?_) (.inl rfl) (by show (1 : Int).toNat < manyRounds; unfold manyRounds; decide)
  unfold tracebookref02_gcd_L1
  rcases H with rfl | rfl
  ·simp only
   have e := divide_p hx
   unfold W0 at e
   rw [e]
   exact ok_inl ⟨.inr rfl, by simp⟩
  ·exact ok_inr rfl
 obtain ⟨r, h1, h2⟩ := this
 rw [h1, h2]
theorem Times_p {x : Int} (h0 : 0 ≤ x) (hx : x < 18446744073709551616) : tracebookref02_Times x 1 = some (W0 x) := by
 have : Ok (tracebookref02_Times x 1) (fun r => r = W0 x) := by
  unfold tracebookref02_Times
  refine ok_bind (Q := fun r => r = (0, x)) ?_ (fun r hr => by subst hr; exact ok_some rfl)
  refine ok_loop (fun s : Int × Int × Int => ∃ n : Nat, n ≤ 64 ∧ s = (0, (if n = 0 then x else 0), (n : Int) - 1)) (fun s => (s.2.2 + 1).toNat) (fun s H => ?_) ⟨64, by omega, rfl⟩ (by unfold manyRounds; decide)
  obtain ⟨n, hn, rfl⟩ := H
  unfold tracebookref02_Times_L1
  simp only
  refine ok_ite (fun h => ?_) (fun h => ok_inr (by rw [if_pos (by omega)]))
  obtain ⟨m, rfl⟩ : ∃ m, n = m + 1 := ⟨n - 1, by omega⟩
  rw [if_neg (by omega)]
  have hb : (((m + 1 : Nat) : Int) - 1) = (m : Int) := by omega
  rw [hb]
  have e2 := plus_p (x := 0) (y := 0) (by omega) (by omega) (by omega)
  have e3 := bit_p (x := 1) (j := m) (by omega) (by omega)
  have e4 := plus_p (x := 0 + 0) (y := x) (by omega) h0 (by omega)
  unfold W0 at e2 e3 e4
  rw [e2, Option.bind_some, show ((1 : Int)) = ((1 : Nat) : Int) by rfl, e3, Option.bind_some]
  have hw : w64 ((m : Int) - 1) = (m : Int) - 1 := w64_of (by omega)
  rw [show (m : Int) - ((1 : Nat) : Int) = (m : Int) - 1 by rfl, hw]
  refine ok_bind (Q := fun v => v = (0, if m = 0 then x else 0)) ?_ (fun v hv => ?_)
  ·by_cases h2 : m = 0
   ·subst h2
    rw [if_pos rfl]
    simp only [show (((1 / 2 ^ 0 % 2 : Nat)) : Int) = ((1 : Nat) : Int) by rfl, decide_true, cond_true]
    rw [e4, Option.bind_some]
    exact ok_some (by simp)
   ·rw [if_neg h2]
    have : 1 / 2 ^ m = 0 := Nat.div_eq_of_lt (Nat.one_lt_two_pow h2)
    rw [this]
    exact ok_some rfl
  ·subst hv
   exact ok_inl ⟨⟨m, by omega, rfl⟩, by simp only; omega⟩
 obtain ⟨r, h1, h2⟩ := this
 rw [h1, h2]
theorem Size_p {n : Int} (h : -4611686018427387904 ≤ n ∧ n ≤ 4611686018427387904) : tracebookref02_Size n = some (n.natAbs : Int) := by
 have : Ok (tracebookref02_Size n) (fun r => r = (n.natAbs : Int)) := by
  unfold tracebookref02_Size
  refine ok_ite (fun g => ok_some ?_) (fun g => ok_some ?_)
  ·rw [w64_of (n := n + 1) (by omega), w64_of (n := 0 - (n + 1)) (by omega), v64_of (n := 0 - (n + 1)) (by omega), v64_of (by omega)]
   omega
  ·rw [v64_of (by omega)]; omega
 obtain ⟨r, h1, h2⟩ := this
 rw [h1, h2]
def sgv (m : Bool) (x : Int) : Int := if m = true then -x else x
theorem scaled_p {n : Int} (h : -4611686018427387904 ≤ n ∧ n ≤ 4611686018427387904) : tracebookref02_scaled n 1 = some { fMinus := decide (n < 0), fAbs := W0 n.natAbs } := by
 unfold tracebookref02_scaled
 rw [Size_p h, Option.bind_some, Size_p (n := 1) (by omega), Option.bind_some, show (((1 : Int).natAbs : Nat) : Int) = 1 by rfl, Times_p (by omega) (by omega), Option.bind_some]
theorem sum_p {m m' : Bool} {x y : Int} (hx : 0 ≤ x) (hy : 0 ≤ y) (h : x + y < 18446744073709551616) : Ok (tracebookref02_sum { fMinus := m, fAbs := W0 x } { fMinus := m', fAbs := W0 y }) (fun r => ∃ k z, r = { fMinus := k, fAbs := W0 z } ∧ 0 ≤ z ∧ z ≤ x + y ∧ sgv k z = sgv m x + sgv m' y) := by
 unfold tracebookref02_sum
 simp only
 by_cases e : m = m'
 ·subst e
  rw [plus_p hx hy h]
  simp only [decide_true, bne, Option.bind_some]
  exact ok_some ⟨m, x + y, rfl, by omega, by omega, by unfold sgv; split <;> omega⟩
 ·have e2 : m' = !m := by revert e; cases m <;> cases m' <;> simp
  subst e2
  simp only [e, decide_false, bne]
  rw [less_p, Option.bind_some]
  change Ok (bif decide (x < y) then _ else _) _
  refine ok_ite (fun g => ?_) (fun g => ?_)
  ·rw [minus_p hx (by omega) (by omega), Option.bind_some]
   exact ok_some ⟨!m, y - x, rfl, by omega, by omega, by unfold sgv; cases m <;> simp <;> omega⟩
  ·rw [minus_p hy (by omega) (by omega), Option.bind_some]
   exact ok_some ⟨m, x - y, rfl, by omega, by omega, by unfold sgv; cases m <;> simp <;> omega⟩
theorem made_p {m : Bool} {x : Int} (h0 : 0 ≤ x) (h : x ≤ 4611686018427387904) : tracebookref02_made { fMinus := m, fAbs := W0 x } (W0 1) = some ({ fN := sgv m x, fD := 1 }, true) := by
 obtain ⟨n, rfl⟩ := Int.eq_ofNat_of_zero_le h0
 unfold tracebookref02_made
 have d1 := divide_p (x := 1) (by omega)
 rw [show ((1 : Nat) : Int) = 1 by rfl] at d1
 rw [gcd_p (by omega), Option.bind_some, divide_p (by omega), Option.bind_some, d1, Option.bind_some]
 have c1 : ¬ (4611686018427387904 < (n : Int)) := by omega
 simp only [W0, decide_true, Bool.not_true, cond_false, c1, decide_false, Option.bind_some]
 have c2 : ¬ ((1000000000000000 : Int) < 1) := by omega
 simp only [c2, decide_false, Option.bind_some, cond_false]
 rw [w64_of (n := (n : Int)) (by omega), w64_of (n := 0 - (n : Int)) (by omega), w64_of (n := 1) (by omega)]
 cases m <;> simp [sgv]
theorem Valid_p {n : Int} (h : -4611686018427387904 ≤ n ∧ n ≤ 4611686018427387904) : tracebookref02_Valid { fN := n, fD := 1 } = some true := by
 unfold tracebookref02_Valid
 have c1 : ¬ ((1 : Int) < 1) := by omega
 have c2 : ¬ ((1000000000000000 : Int) < 1) := by omega
 have c3 : ¬ (n < -4611686018427387904) := by omega
 have c4 : ¬ (4611686018427387904 < n) := by omega
 simp only [c1, c2, c3, c4, decide_false, cond_false, Option.bind_some]
 rw [Size_p h, Option.bind_some, Size_p (n := 1) (by omega), Option.bind_some]
 have := gcd_p (x := n.natAbs) (by omega)
 unfold W0 at this
 rw [show (((1 : Int).natAbs : Nat) : Int) = 1 by rfl, this]
 rfl
theorem common_p (l : List api_Frac) (hl : l.length ≤ 20000) (h : ∀ f ∈ l, f.fD = 1 ∧ -4611686018427387904 ≤ f.fN ∧ f.fN ≤ 4611686018427387904) : tracebookref02_common l = some (1, true) := by
 have : Ok (tracebookref02_common l) (fun r => r = (1, true)) := by
  unfold tracebookref02_common
  refine ok_bindS (Q := InlR (fun r => r = 1) (fun _ => False)) (ok_up2M l.length (fun (a : Int) n => a = 1) (by omega) rfl (fun a i hI h2 => ?_)) (fun r hr => by subst hr; exact ok_some rfl) (fun r hr => hr.elim)
  unfold tracebookref02_common_L1
  dsimp only
  subst hI
  refine ok_ite (fun hi => ?_) (fun hi => ok_inr rfl)
  obtain ⟨y, hiy, hy⟩ := ok_ixM (xs := l) (i := i) (by omega)
  obtain ⟨y1, y2⟩ := h y (List.mem_of_getElem? hy)
  obtain ⟨yn, yd⟩ := y
  simp only at y1 y2
  subst y1
  have e1 := gcd_p (x := 1) (by omega)
  have e2 := Times_p (x := 1) (by omega) (by omega)
  unfold W0 at e1 e2
  simp only [hiy, Option.bind_some, Valid_p y2, Bool.not_true, cond_false, Size_p (n := 1) (by omega), show (((1 : Int).natAbs : Nat) : Int) = 1 by rfl]
  rw [show ((1 : Nat) : Int) = 1 by rfl] at e1
  rw [e1]
  simp only [Option.bind_some, show ((1 : Int) ≠ 0) by decide, ne_eq, not_false_eq_true, decide_true, cond_true, show Int.tdiv 1 1 = 1 by rfl]
  rw [v64_of (n := 1) (by omega), e2]
  simp only [Option.bind_some, decide_true, Bool.not_true, cond_false, show ¬ ((1000000000000000 : Int) < 1) by decide, decide_false]
  rw [w64_of (n := 1) (by omega), w64_M (n := l.length) (by omega) (by omega)]
  exact ok_inl ⟨by omega, rfl, rfl⟩
 obtain ⟨r, h1, h2⟩ := this
 rw [h1, h2]
def sumN (l : List api_Frac) : Int := (l.map (·.fN)).sum
def sumB (l : List api_Frac) : Int := (l.map (fun f => (f.fN.natAbs : Int))).sum
theorem sumN_snoc (l : List api_Frac) (f : api_Frac) : sumN (l ++ [f]) = sumN l + f.fN := by simp [sumN]
theorem sumB_snoc (l : List api_Frac) (f : api_Frac) : sumB (l ++ [f]) = sumB l + f.fN.natAbs := by simp [sumB]
theorem sumB_le (l : List api_Frac) (n : Int) (h : ∀ f ∈ l, (f.fN.natAbs : Int) ≤ n) : 0 ≤ sumB l ∧ sumB l ≤ n * l.length := by
 induction l with
 | nil => simp [sumB]
 | cons f l ih =>
  have h1 := ih (fun g hg => h g (List.mem_cons_of_mem _ hg))
  have h2 := h f (by simp)
  simp only [sumB, List.map_cons, List.sum_cons, List.length_cons] at h1 ⊢
  have : n * ((l.length + 1 : Nat) : Int) = n * l.length + n := by rw [Int.natCast_add, Int.mul_add]; simp
  omega
theorem Sum02_p (l : List api_Frac) (hl : l.length ≤ 1000) (h : ∀ f ∈ l, f.fD = 1 ∧ -4000000000000000 ≤ f.fN ∧ f.fN ≤ 4000000000000000) : tracebookref02_Sum l = some ({ fN := sumN l, fD := 1 }, true) := by
 have : Ok (tracebookref02_Sum l) (fun r => r = ({ fN := sumN l, fD := 1 }, true)) := by
  unfold tracebookref02_Sum
  refine ok_ite (fun g => by omega) (fun _ => ?_)
  rw [common_p l (by omega) (fun f hf => by have := h f hf; omega), Option.bind_some]
  simp only [Bool.not_true, cond_false]
  have hB : ∀ n, 0 ≤ sumB (l.take n) ∧ sumB (l.take n) ≤ 4000000000000000000 := by
   intro n
   have := sumB_le (l.take n) 4000000000000000 (fun f hf => by have := h f (List.mem_of_mem_take hf); omega)
   rw [List.length_take] at this
   omega
  refine ok_bind (Q := fun s => ∃ z, s = (s.1, 0, z) ∧ 0 ≤ z ∧ z ≤ 4000000000000000000 ∧ sgv s.1 z = sumN l) (ok_loop (fun s : Bool × Int × Int × Int => ∃ i : Nat, i ≤ l.length ∧ s.2.2.2 = (i : Int) ∧ s.2.1 = 0 ∧ 0 ≤ s.2.2.1 ∧ s.2.2.1 ≤ sumB (l.take i) ∧ sgv s.1 s.2.2.1 = sumN (l.take i)) (fun s => l.length - s.2.2.2.toNat) (fun s H => ?_) ⟨0, by omega, rfl, rfl, Int.le_refl _, by simp [sumB], by simp [sumN, sgv]⟩ (by unfold manyRounds; omega)) (fun s hs => ?_)
  ·obtain ⟨a, b, c, d⟩ := s
   obtain ⟨i, h1, h2, h3, h4, h5, h6⟩ := H
   simp only at h2 h3 h4 h5 h6
   subst h2 h3
   have hBi := hB i
   unfold tracebookref02_Sum_L1
   simp only
   refine ok_ite (fun hi => ?_) (fun hi => ok_inr ⟨c, rfl, h4, by omega, by rw [h6, show i = l.length by omega, List.take_length]⟩)
   obtain ⟨y, hiy, hy⟩ := ok_ixM (xs := l) (i := i) (by omega)
   have hlt := (List.getElem?_eq_some_iff.1 hy).1
   have hy' : l[i] = y := by have := List.getElem?_eq_getElem hlt; rw [hy] at this; exact (Option.some.inj this).symm
   obtain ⟨y1, y2⟩ := h y (List.mem_of_getElem? hy)
   have hB1 := hB (i + 1)
   have htk : l.take (i + 1) = l.take i ++ [y] := by rw [List.take_succ_eq_append_getElem hlt, hy']
   rw [htk, sumB_snoc] at hB1
   simp only [hiy, Option.bind_some, y1, show ((1 : Int) ≠ 0) by decide, ne_eq, not_false_eq_true, decide_true, cond_true, show Int.tdiv 1 1 = 1 by rfl]
   rw [w64_of (n := 1) (by omega), scaled_p (by omega), Option.bind_some]
   have hs := sum_p (m := a) (m' := decide (y.fN < 0)) (x := c) (y := (y.fN.natAbs : Int)) h4 (by omega) (by omega)
   unfold W0 at hs ⊢
   refine ok_bind hs (fun r hr => ?_)
   obtain ⟨k, z, rfl, z1, z2, z3⟩ := hr
   rw [w64_M (n := l.length) (by omega) (by omega)]
   refine ok_inl ⟨⟨i + 1, by omega, rfl, rfl, z1, by rw [htk, sumB_snoc]; simp only; omega, ?_⟩, by simp only; omega⟩
   simp only
   rw [z3, h6, htk, sumN_snoc]
   have : sgv (decide (y.fN < 0)) (y.fN.natAbs : Int) = y.fN := by
    unfold sgv
    by_cases g : y.fN < 0
    ·simp [g]; omega
    ·simp [g]; omega
   rw [this]
  ·obtain ⟨a, b, c⟩ := s
   obtain ⟨z, e, z1, z2, z3⟩ := hs
   simp only at e z3
   cases e
   simp only [Size_p (n := 1) (by omega), Option.bind_some, show (((1 : Int).natAbs : Nat) : Int) = 1 by rfl]
   have := made_p (m := a) z1 (by omega)
   unfold W0 at this
   rw [this, Option.bind_some, z3]
   exact ok_some rfl
 obtain ⟨r, h1, h2⟩ := this
 rw [h1, h2]
def StV (l : List api_State) : Prop := ∀ (j : Nat) s, l[j]? = some s → 0 ≤ s.fSpan.fFrom ∧ s.fSpan.fFrom < s.fSpan.fTo ∧ s.fSpan.fTo ≤ 1000000000000
theorem total_b (l : List api_State) (a b : Int) (p : api_Span) (hl : l.length ≤ 200) (hv : StV l) : Ok (state_Total l a b p) (fun r => 0 ≤ r ∧ r ≤ 200000000000000) := by
 unfold state_Total
 rw [spans_Valid_eq, Option.bind_some]
 refine ok_not (fun _ => ok_some (by simp)) (fun hp => ?_)
 have hp := of_decide_eq_true hp
 refine ok_bind (Q := fun r : Int => 0 ≤ r ∧ r ≤ 200000000000000) (ok_up2M (s0 := (0 : Int)) l.length (fun (x : Int) (i : Nat) => 0 ≤ x ∧ x ≤ (i : Int) * 1000000000000) (by omega) ⟨by omega, by omega⟩ (fun x i hI h2 => ?_)) (fun r hr => ok_some hr)
 unfold state_Total_L1
 dsimp only
 refine ok_ite (fun hi => ?_) (fun hi => ok_inr (show 0 ≤ x ∧ x ≤ 200000000000000 by omega))
 refine ok_bind (Q := fun r : Int => 0 ≤ r ∧ r ≤ ((i + 1 : Nat) : Int) * 1000000000000) ?_ (fun r hr => ?_)
 ·obtain ⟨y, hiy, hy⟩ := ok_ixM (xs := l) (i := i) (by omega)
  have := hv _ y hy
  rw [hiy, Option.bind_some]
  refine ok_bind (Q := Yes) (by repeat' (first | (with_reducible first | exact ok_yes | exact ok_inrY | exact ok_inlY | refine ok_nite (fun _ => ?_) fun _ => ?_ | refine ok_ite (fun _ => ?_) fun _ => ?_ | refine ok_not (fun _ => ?_) fun _ => ?_ | refine ok_cond (fun _ => ?_) fun _ => ?_) | (with_reducible refine ok_next ?_ ?_ ?_ <;> (first | assumption | omega | rw [w64_of] <;> omega)) | with_reducible refine ok_bind (ok_idx (by (first | assumption | omega | rw [w64_of] <;> omega)) (by (first | assumption | omega | rw [w64_of] <;> omega))) (fun _ _ => ?_) | (with_reducible refine ok_bind (Q := Yes) ?_ fun _ _ => ?_) | dsimp only)) (fun v _ => ok_cond (fun _ => ok_some ?_) (fun _ => ok_some (by omega)))
  rw [w64_of (n := min y.fSpan.fTo p.fTo - max y.fSpan.fFrom p.fFrom) (by omega), w64_of (by omega)]
  omega
 ·rw [w64_M (n := l.length) (by omega) (by omega)]
  exact ok_inl ⟨by omega, rfl, hr⟩
def Sml (l : List Int) (n : Int) : Prop := ∀ x ∈ l, -n ≤ x ∧ x ≤ n
theorem sum_le (l : List Int) (n : Int) (h : ∀ x ∈ l, 0 ≤ x ∧ x ≤ n) : 0 ≤ l.sum ∧ l.sum ≤ n * l.length := by
 induction l with
 | nil => simp
 | cons f l ih =>
  have h1 := ih (fun g hg => h g (List.mem_cons_of_mem _ hg))
  have h2 := h f (by simp)
  simp only [List.sum_cons, List.length_cons]
  have : n * ((l.length + 1 : Nat) : Int) = n * l.length + n := by rw [Int.natCast_add, Int.mul_add]; simp
  omega
theorem times_b (t : api_Trace) (s : api_Slice) (hl : t.fStates.length ≤ 200) (hv : StV t.fStates) (hs : 0 ≤ lenS s ∧ lenS s ≤ 1000000000000) : Ok (anomaly_times_k2 t s) (fun r => r.length = 6 ∧ r.sum = lenS s ∧ Sml r 1100000000000000) := by
 unfold anomaly_times_k2 anomaly_length
 rw [Option.bind_some, show mkB 8 6 = true from by rfl]
 simp only [cond_true]
 refine ok_bind (Q := fun r => r.2.length = 6 ∧ r.1 = lenS s - r.2.sum ∧ ∀ x ∈ r.2, 0 ≤ x ∧ x ≤ 200000000000000) (ok_loop (fun q : Int × List Int × Int => 0 ≤ q.2.2 ∧ q.2.2 ≤ 6 ∧ (q.2.1.length : Int) = q.2.2 ∧ q.1 = lenS s - q.2.1.sum ∧ ∀ x ∈ q.2.1, 0 ≤ x ∧ x ≤ 200000000000000) (fun s => (6 - s.2.2).toNat) (fun q hq => ?_) ⟨by simp, by simp, by simp, by simp [lenS], by simp⟩ (by simp [manyRounds])) (fun r hr => ?_)
 ·obtain ⟨a, l, i⟩ := q
  obtain ⟨h1, h2, h3, h4, h5⟩ := hq
  simp only at h1 h2 h3 h4 h5
  have hb := sum_le l _ h5
  unfold anomaly_times_k2_L1
  dsimp only
  refine ok_ite (fun hi => ?_) (fun _ => ok_inr ⟨by simp; omega, h4, h5⟩)
  refine ok_bind (total_b _ _ _ _ hl hv) (fun r hr => ?_)
  rw [room_ok (by simp; omega) (by simp; omega), show w64 (i + 1) = i + 1 from w64_of (by omega), show w64 (a - r) = a - r from w64_of (by omega)]
  exact ok_inl ⟨⟨by (first | omega | (simp; omega)), by (first | omega | (simp; omega)), by (first | omega | (simp; omega)), by simp only [List.sum_append, List.sum_cons, List.sum_nil]; omega, fun x hx => by
   rcases List.mem_append.1 hx with hx | hx
   ·exact h5 x hx
   ·simp at hx; subst hx; exact hr⟩, by (first | omega | (simp; omega))⟩
 ·obtain ⟨a, l⟩ := r
  obtain ⟨h1, h2, h3⟩ := hr
  simp only at h1 h2 h3
  match l, h1 with
  | [x0, x1, x2, x3, x4, x5], _ =>
   simp only [List.sum_cons, List.sum_nil] at h2
   have g0 := h3 x0 (by simp)
   have g1 := h3 x1 (by simp)
   have g2 := h3 x2 (by simp)
   have g3 := h3 x3 (by simp)
   have g4 := h3 x4 (by simp)
   have g5 := h3 x5 (by simp)
   have e : idx [x0, x1, x2, x3, x4, x5] 5 = some x5 := rfl
   simp only [e, Option.bind_some]
   rw [w64_of (n := x5 + a) (by omega)]
   refine ok_some ⟨rfl, ?_, ?_⟩
   ·simp only [Int.toNat, List.set, List.sum_cons, List.sum_nil]
    omega
   ·intro x hx
    simp at hx
    omega
theorem sum_take_succ (l : List Int) {k : Nat} {x : Int} (h : l[k]? = some x) : (l.take (k + 1)).sum = (l.take k).sum + x := by
 rw [List.take_add_one, h]; simp
structure POk (r : List api_Part) (e : Int) : Prop where
 len : r.length ≤ 6
 d : ∀ p ∈ r, p.fValue.fD = 1 ∧ -4000000000000000 ≤ p.fValue.fN ∧ p.fValue.fN ≤ 4000000000000000
 sum : sumN (r.map (·.fValue)) = e
theorem parts_b (t : api_Trace) (i u : Int) (h : t.fSlices.length ≤ 60) (hl : t.fStates.length ≤ 200) (hv : StV t.fStates) {si su : api_Slice} (hi : idx t.fSlices i = some si) (hu : idx t.fSlices u = some su) (li : 0 ≤ lenS si ∧ lenS si ≤ 1000000000000) (lu : 0 ≤ lenS su ∧ lenS su ≤ 1000000000000) : Ok (anomaly_parts_k2 t i u) (fun r => POk r (lenS si - lenS su)) := by
 unfold anomaly_parts_k2
 rw [hi, Option.bind_some]
 refine ok_bind (times_b t si hl hv li) (fun r2 h2 => ?_)
 rw [hu, Option.bind_some]
 refine ok_bind (times_b t su hl hv lu) (fun r4 h4 => ?_)
 obtain ⟨a1, a2, a3⟩ := h2
 obtain ⟨b1, b2, b3⟩ := h4
 unfold anomaly_causes
 rw [Option.bind_some]
 refine ok_bind (Q := fun r => POk r (lenS si - lenS su)) (ok_up2M 6 (fun a n => a.length ≤ n ∧ (∀ p ∈ a, p.fValue.fD = 1 ∧ -4000000000000000 ≤ p.fValue.fN ∧ p.fValue.fN ≤ 4000000000000000) ∧ sumN (a.map (·.fValue)) = (r2.take n).sum - (r4.take n).sum) (by omega) ⟨by simp, by simp, by simp [sumN]⟩ (fun a k hk hk2 => ?_)) (fun r hr => ok_some hr)
 obtain ⟨c1, c2, c3⟩ := hk
 unfold anomaly_parts_k2_L1
 dsimp only
 refine ok_ite (fun hk3 => ?_) (fun hk3 => ok_inr ⟨by simp at hk3; omega, c2, ?_⟩)
 ·have hk4 : k < 6 := by simp at hk3; omega
  refine ok_bind (Q := fun r => r.length ≤ k + 1 ∧ (∀ p ∈ r, p.fValue.fD = 1 ∧ -4000000000000000 ≤ p.fValue.fN ∧ p.fValue.fN ≤ 4000000000000000) ∧ sumN (r.map (·.fValue)) = (r2.take (k + 1)).sum - (r4.take (k + 1)).sum) ?_ (fun r hr => ?_)
  ·refine ok_bind (ok_ixM (by simp; omega)) (fun c _ => ?_)
   refine ok_bind (ok_ixM (xs := r2) (by omega)) (fun x hx => ?_)
   refine ok_bind (ok_ixM (xs := r4) (by omega)) (fun w hw => ?_)
   have hx2 := a3 x (List.mem_of_getElem? hx)
   have hw2 := b3 w (List.mem_of_getElem? hw)
   rw [sum_take_succ r2 hx, sum_take_succ r4 hw, w64_of (n := x - w) (by omega)]
   refine ok_nite (fun _ => ?_) (fun e => ok_some ⟨by omega, c2, by omega⟩)
   refine ok_bind (spath_ok t.fSlices i h) (fun q _ => ?_)
   rw [room_ok (by simp; omega) (by simp; omega)]
   refine ok_some ⟨by simp; omega, fun p hp => ?_, ?_⟩
   ·rcases List.mem_append.1 hp with hp | hp
    ·exact c2 p hp
    ·simp at hp; subst hp; exact ⟨rfl, by simp only; omega, by simp only; omega⟩
   ·rw [List.map_append, List.map_cons, List.map_nil, sumN_snoc, c3]; simp only; omega
  ·rw [w64_M (n := 6) (by omega) (by omega)]
   exact ok_inl ⟨by omega, rfl, hr⟩
 ·have : 6 ≤ k := by simp at hk3; omega
  rw [c3, List.take_of_length_le (by omega), List.take_of_length_le (by omega), a2, b2]
structure OutOk (t : api_Trace) (o : api_Outlier) : Prop where
 e : 0 < o.fExcess
 p : POk o.fParts o.fExcess
 s : 0 ≤ o.fSlice ∧ o.fSlice < t.fSlices.length
theorem Of_b (t : api_Trace) (k n : Int) (hz : Siz t) (ht : t.fThreads.length ≤ 1000000) (h : t.fSlices.length ≤ 60) (hl : t.fStates.length ≤ 200) : Ok (anomaly_Of t k n) (fun r => (r.2 ≠ 0 ∧ r.1 = []) ∨ (r.2 = 0 ∧ trace_Check t = some 0 ∧ SpV t.fSlices ∧ StV t.fStates ∧ r.1.length ≤ 60 ∧ ∀ o ∈ r.1, OutOk t o)) := by
 unfold anomaly_Of
 obtain ⟨r1, hr1, h1⟩ := trace_Check_v t hz ht
 obtain ⟨r1', hr1', h2⟩ := trace_Check_ok t hz ht
 rw [hr1] at hr1'
 cases hr1'
 rw [hr1, Option.bind_some]
 refine ok_nite (fun h0 => ok_some (.inl ⟨h0, rfl⟩)) (fun e0 => ?_)
 have hv := h1 e0
 have hst : StV t.fStates := fun j s hj => (h2 e0).2 j s (by have := lt_of_get hj; omega) hj
 refine ok_bind (Q := fun v => v = false → 1 ≤ n ∧ n ≤ k ∧ k ≤ 1000) ?_ (fun v hvv => ?_)
 ·by_cases g1 : n < 1 <;> by_cases g2 : k < n <;> by_cases g3 : 1000 < k <;> simp [g1, g2, g3, Ok] <;> omega
 refine ok_cond (fun _ => ok_some (.inl ⟨by simp, rfl⟩)) (fun e => ?_)
 obtain ⟨g1, g2, g3⟩ := hvv e
 refine ok_bind (Q := fun r => r.length ≤ 60 ∧ ∀ o ∈ r, OutOk t o) (ok_up2M t.fSlices.length (fun a i => a.length ≤ i ∧ ∀ o ∈ a, OutOk t o) (by omega) ⟨by simp, by simp⟩ (fun a i hI h2 => ?_)) (fun r hr => ok_some (.inr ⟨rfl, by rw [e0], hv, hst, hr.1, hr.2⟩))
 obtain ⟨hal, ha⟩ := hI
 unfold anomaly_Of_L1
 dsimp only
 refine ok_ite (fun hi => ?_) (fun hi => ok_inr ⟨by omega, ha⟩)
 obtain ⟨y, hiy, hy⟩ := ok_ixM (xs := t.fSlices) (i := i) (by omega)
 refine ok_bind (Q := fun b => b.length ≤ i + 1 ∧ ∀ o ∈ b, OutOk t o) ?_ (fun b hb => ?_)
 ·rw [hiy, Option.bind_some]
  have stay : Ok (some a) (fun b => b.length ≤ i + 1 ∧ ∀ o ∈ b, OutOk t o) := ok_some ⟨by omega, ha⟩
  refine ok_bind (Q := Yes) ?_ (fun v _ => ?_)
  ·cases y.fOpen with
   | true => exact ok_yes
   | false =>
    rw [closed_p t _ h]
    exact ok_yes
  refine ok_cond (fun _ => stay) (fun _ => ?_)
  obtain ⟨hu1, hu2⟩ := usual_p t y.fName h
  rw [hu1, Option.bind_some]
  refine ok_not (fun _ => stay) (fun e2 => ?_)
  have hU := hu2 e2
  obtain ⟨u, hu, huc, hum⟩ := hU.s
  have hui : idx t.fSlices (usu t y.fName).1 = some u := by
   unfold idx; rw [if_pos hU.rng.1]; exact hu
  have l1 := lenS_v hv (List.mem_of_getElem? hu)
  have l2 := lenS_v hv (List.mem_of_getElem? hy)
  rw [hui]
  simp only [Option.bind_some, anomaly_length]
  change Ok (bif decide (w64 (k * lenS u) < w64 (n * lenS y)) then _ else _) _
  have m1 : 0 ≤ k * lenS u ∧ k * lenS u ≤ 1000 * 1000000000000 := ⟨Int.mul_nonneg (by omega) (by omega), Int.mul_le_mul g3 l1.2 (by omega) (by omega)⟩
  have m2 : 0 ≤ n * lenS y ∧ n * lenS y ≤ 1000 * 1000000000000 := ⟨Int.mul_nonneg (by omega) (by omega), Int.mul_le_mul (by omega) l2.2 (by omega) (by omega)⟩
  rw [w64_of (n := k * lenS u) (by omega), w64_of (n := n * lenS y) (by omega)]
  refine ok_ite (fun g => ?_) (fun g => stay)
  have hgt : lenS u < lenS y := by
   have m3 : n * lenS u ≤ k * lenS u := Int.mul_le_mul_of_nonneg_right g2 (by omega)
   exact Int.lt_of_mul_lt_mul_left (Int.lt_of_le_of_lt m3 g) (by omega)
  refine ok_bind (parts_b t i (usu t y.fName).1 h hl hst hiy hui (by omega) (by omega)) (fun q hq => ?_)
  rw [room_ok (by simp; omega) (by simp; omega)]
  refine ok_some ⟨by simp; omega, fun o ho => ?_⟩
  rcases List.mem_append.1 ho with ho | ho
  ·exact ha o ho
  ·simp only [List.mem_cons, List.not_mem_nil, or_false] at ho
   subst ho
   have e : w64 (w64 (y.fSpan.fTo - y.fSpan.fFrom) - w64 (u.fSpan.fTo - u.fSpan.fFrom)) = lenS y - lenS u := by
    change w64 (lenS y - lenS u) = _
    exact w64_of (by omega)
   exact ⟨by simp only [e]; omega, by simp only [e]; exact hq, by simp only; omega, by simp only; omega⟩
 ·rw [w64_M (n := t.fSlices.length) (by omega) (by omega)]
  exact ok_inl ⟨by omega, rfl, hb⟩
theorem Times_b (t : api_Trace) (i : Nat) {s : api_Slice} (hs : t.fSlices[i]? = some s) (hc : trace_Check t = some 0) (hv : SpV t.fSlices) (hst : StV t.fStates) (hl : t.fStates.length ≤ 200) (h : t.fSlices.length ≤ 60) : Ok (anomaly_Times t i) (fun r => r.2 = 0 ∧ r.1.length = 6 ∧ r.1.sum = lenS s ∧ Sml r.1 1100000000000000) := by
 unfold anomaly_Times
 rw [hc, Option.bind_some]
 refine ok_nite (fun h0 => absurd rfl h0) (fun _ => ?_)
 have hi := lt_of_get hs
 have c1 : ¬ ((i : Int) < 0) := by omega
 have c2 : ¬ ((t.fSlices.length : Int) ≤ (i : Int)) := by omega
 have hix : idx t.fSlices (i : Int) = some s := by rw [idx_nat, hs]
 simp only [c1, c2, decide_false, cond_false, Option.bind_some, hix]
 have l2 := lenS_v hv (List.mem_of_getElem? hs)
 exact ok_bind (times_b t s hl hst (by omega)) (fun r hr => ok_some ⟨rfl, hr⟩)
theorem Sum53_b (l : List api_Part) {e : Int} (h : POk l e) : tracebookref53_Sum l = some ({ fN := e, fD := 1 }, true) := by
 have : Ok (tracebookref53_Sum l) (fun r => r = ({ fN := e, fD := 1 }, true)) := by
  unfold tracebookref53_Sum
  have hlen := h.len
  refine ok_bind (Q := fun r => r = l.map (·.fValue)) (ok_up2M l.length (fun a n => a = (l.take n).map (·.fValue)) (by omega) (by simp) (fun a i hI h2 => ?_)) (fun r hr => ?_)
  ·unfold tracebookref53_Sum_L1
   dsimp only
   refine ok_ite (fun hi => ?_) (fun hi => ok_inr (by rw [hI, List.take_of_length_le (by omega)]))
   obtain ⟨y, hiy, hy⟩ := ok_ixM (xs := l) (i := i) (by omega)
   have hal : a.length ≤ i := by rw [hI]; simp; omega
   rw [hiy, Option.bind_some, room_ok (by simp; omega) (by simp; omega), w64_M (n := l.length) (by omega) (by omega)]
   exact ok_inl ⟨by omega, rfl, by rw [hI, List.take_add_one, hy]; simp⟩
  ·subst hr
   rw [Sum02_p _ (by simp; omega) (fun f hf => by
    obtain ⟨p, hp, rfl⟩ := List.mem_map.1 hf
    exact h.d p hp), h.sum]
   exact ok_some rfl
 obtain ⟨r, h1, h2⟩ := this
 rw [h1, h2]
theorem awake54 : tracebooklaw54_awake = some true := by kernel_rfl
theorem siz_of {t : api_Trace} (h : okr_api_Trace t) : Siz t := by
 have e : reachBytes = 140737488351232 := by decide
 unfold okr_api_Trace okL okr_api_Thread okr_api_Slice okr_api_Sample okr_api_Step okr_api_Block okr_str okL at h
 rw [e] at h
 obtain ⟨_, _, h1, h2, h3, h4, h5, h6, h7, h8⟩ := h
 refine ⟨by omega, by omega, by omega, by omega, by omega, by omega, by omega, by omega, fun x hx => ?_, fun x hx => ?_, fun x hx => ?_, fun x hx => ?_, fun x hx => ?_⟩
 ·have := (h1.2 x hx).2.1; unfold okN; omega
 ·have := (h2.2 x hx).2.2.2.1; unfold okN; omega
 ·have := (h5.2 x hx).2.2.2; exact ⟨by omega, fun y hy => by have := this.2 y hy; unfold okN; omega⟩
 ·have := (h6.2 x hx).1; unfold okN; omega
 ·have := (h7.2 x hx).2.2.2.2.2.1; exact ⟨by omega, fun y hy => by have := this.2 y hy; unfold okN; omega⟩
theorem few54 (t : api_Trace) : Ok (tracebooklaw54_few t) (fun b => b = true → t.fThreads.length ≤ 1000000 ∧ t.fSlices.length ≤ 60 ∧ t.fStates.length ≤ 200) := by
 unfold tracebooklaw54_few
 refine ok_bind (Q := fun b => b = true → t.fThreads.length ≤ 1000000 ∧ t.fSlices.length ≤ 60 ∧ t.fStates.length ≤ 200) ?_ (fun b hb => ok_some hb)
 refine ok_ite (fun h => ?_) (fun _ => ok_some (by simp))
 refine ok_ite (fun h2 => ?_) (fun _ => ok_some (by simp))
 refine ok_ite (fun h3 => ?_) (fun _ => ok_some (by simp))
 have : t.fThreads.length ≤ 1000000 ∧ t.fSlices.length ≤ 60 ∧ t.fStates.length ≤ 200 := by omega
 refine Ok.mono (P := Yes) ?_ (fun _ _ _ => this)
 repeat' (first | (with_reducible first | exact ok_yes | exact ok_inrY | exact ok_inlY | refine ok_nite (fun _ => ?_) fun _ => ?_ | refine ok_ite (fun _ => ?_) fun _ => ?_ | refine ok_not (fun _ => ?_) fun _ => ?_ | refine ok_cond (fun _ => ?_) fun _ => ?_) | (with_reducible refine ok_next ?_ ?_ ?_ <;> (first | assumption | omega | rw [w64_of] <;> omega)) | with_reducible refine ok_bind (ok_idx (by (first | assumption | omega | rw [w64_of] <;> omega)) (by (first | assumption | omega | rw [w64_of] <;> omega))) (fun _ _ => ?_) | (with_reducible refine ok_bind (Q := Yes) ?_ fun _ _ => ?_) | dsimp only)
theorem sum_mem_le (l : List Int) (n : Int) (h : Sml l n) : -(n * l.length) ≤ l.sum ∧ l.sum ≤ n * l.length := by
 induction l with
 | nil => simp
 | cons f l ih =>
  have h1 := ih (fun g hg => h g (List.mem_cons_of_mem _ hg))
  have h2 := h f (by simp)
  simp only [List.sum_cons, List.length_cons]
  have : n * ((l.length + 1 : Nat) : Int) = n * l.length + n := by rw [Int.natCast_add, Int.mul_add]; simp
  omega
theorem sum54 (r : List Int × Int) (h : r.1.length = 6) (hs : Sml r.1 1100000000000000) : loop (tracebooklaw54_AnomalyExact_L1 r) (0, 0) = some r.1.sum := by
 have : Ok (loop (tracebooklaw54_AnomalyExact_L1 r) (0, 0)) (fun q => q = r.1.sum) := by
  refine ok_up2M 6 (fun a n => a = (r.1.take n).sum) (by omega) (by simp) (fun a i hI h2 => ?_)
  unfold tracebooklaw54_AnomalyExact_L1
  dsimp only
  refine ok_ite (fun hi => ?_) (fun hi => ok_inr (by rw [hI, List.take_of_length_le (by omega)]))
  obtain ⟨y, hiy, hy⟩ := ok_ixM (xs := r.1) (i := i) (by omega)
  have hy2 := hs y (List.mem_of_getElem? hy)
  have ht := sum_mem_le (r.1.take i) _ (fun x hx => hs x (List.mem_of_mem_take hx))
  rw [List.length_take] at ht
  rw [hiy, Option.bind_some, w64_M (n := 6) (by omega) (by omega), w64_of (n := a + y) (by omega)]
  exact ok_inl ⟨by omega, rfl, by rw [sum_take_succ r.1 hy, hI]⟩
 obtain ⟨q, h1, h2⟩ := this
 rw [h1, h2]
theorem anomalyExact_holds (t : api_Trace) (k n : Int) (h : okr_api_Trace t) : tracebooklaw54_AnomalyExact t k n = some true := by
 have hz := siz_of h
 have : Ok (tracebooklaw54_AnomalyExact t k n) (fun b => b = true) := by
  unfold tracebooklaw54_AnomalyExact
  refine ok_bind (few54 t) (fun b hb => ?_)
  have aw : Ok (tracebooklaw54_awake.bind fun r2 => some r2) (fun b => b = true) := by rw [awake54]; exact ok_some rfl
  refine ok_not (fun _ => aw) (fun e => ?_)
  obtain ⟨q1, q2, q3⟩ := hb e
  refine ok_bind (Of_b t k n hz q1 q2 q3) (fun r hr => ?_)
  refine ok_nite (fun h0 => ?_) (fun h0 => ?_)
  ·rcases hr with ⟨_, hr⟩ | ⟨hr, _⟩
   ·rw [hr]
    refine ok_bind (Q := fun b => b = true) ?_ (fun b hb => ok_some hb)
    exact ok_ite (fun _ => aw) (fun hne => absurd rfl hne)
   ·exact absurd hr h0
  ·rcases hr with ⟨hr, _⟩ | ⟨_, hc, hv, hst, hlen, ho⟩
   ·exact absurd h0 hr
   refine ok_bindS (Q := InlR Yes (fun _ => False)) (ok_upM r.1.length (fun _ => True) (by omega) trivial (fun i _ h2 => ?_)) (fun _ _ => ?_) (fun _ hq => hq.elim)
   ·unfold tracebooklaw54_AnomalyExact_L3
    refine ok_ite (fun hi => ?_) (fun _ => ok_inr trivial)
    obtain ⟨y, hiy, hy⟩ := ok_ixM (xs := r.1) (i := i) (by omega)
    have hO := ho y (List.mem_of_getElem? hy)
    rw [hiy, Option.bind_some, Sum53_b _ hO.p, Option.bind_some]
    have c1 : ¬ (y.fExcess ≤ 0) := by have := hO.e; omega
    have c2 : ¬ (y.fSlice < 0) := by have := hO.s; omega
    have c3 : ¬ ((t.fSlices.length : Int) ≤ y.fSlice) := by have := hO.s; omega
    simp only [c1, c2, c3, decide_true, decide_false, Bool.not_true, cond_false, Bool.and_self, bne_self_eq_false, Option.bind_some]
    rw [w64_M (n := r.1.length) (by omega) (by omega)]
    exact ok_inl ⟨by omega, rfl, trivial⟩
   ·refine ok_bindS (Q := InlR Yes (fun _ => False)) (ok_upM t.fSlices.length (fun _ => True) (by omega) trivial (fun i _ h2 => ?_)) (fun _ _ => aw) (fun _ hq => hq.elim)
    unfold tracebooklaw54_AnomalyExact_L2
    refine ok_ite (fun hi => ?_) (fun _ => ok_inr trivial)
    obtain ⟨y, hiy, hy⟩ := ok_ixM (xs := t.fSlices) (i := i) (by omega)
    rw [hiy, Option.bind_some]
    refine ok_bind (Times_b t i hy hc hv hst q3 q2) (fun m hm => ?_)
    obtain ⟨m1, m2, m3, m4⟩ := hm
    rw [sum54 m m2 m4, Option.bind_some]
    have e6 : ((m.1.length : Int) = 6) := by omega
    have es : m.1.sum = w64 (y.fSpan.fTo - y.fSpan.fFrom) := m3
    simp only [m1, e6, es, decide_true, Bool.not_true, cond_false, Option.bind_some]
    rw [w64_M (n := t.fSlices.length) (by omega) (by omega)]
    exact ok_inl ⟨by omega, rfl, trivial⟩
 obtain ⟨r, h1, h2⟩ := this
 rw [h1, h2]
end Go.VM
