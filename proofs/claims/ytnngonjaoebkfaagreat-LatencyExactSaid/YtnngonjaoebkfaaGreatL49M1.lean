/- The law holds: plain mathematics on what the functions compute. -/
import Derived.Test.YtnngonjaoebkfaaGreatL49B
namespace Go.VM
def firstL {α ρ : Type} (g : Nat → α → Option ρ) : List α → Nat → Option ρ
 | [], _ => none
 | y :: ys, i => match g i y with
  | some r => some r
  | none => firstL g ys (i + 1)
theorem firstL_find {α ρ : Type} (p : α → Bool) (f : α → ρ) : ∀ (xs : List α) (i : Nat), firstL (fun _ y => if p y = true then some (f y) else none) xs i = (xs.find? p).map f
 | [], _ => rfl
 | y :: ys, i => by
  simp only [firstL, List.find?_cons]
  cases h : p y with
  | true => simp
  | false => simp [firstL_find p f ys]
theorem firstL_none {α ρ : Type} {g : Nat → α → Option ρ} : ∀ {xs : List α} {i : Nat}, firstL g xs i = none ↔ ∀ j y, xs[j]? = some y → g (i + j) y = none
 | [], i => by simp [firstL]
 | y :: ys, i => by
  simp only [firstL]
  cases h : g i y with
  | some r =>
   simp only [reduceCtorEq, false_iff]
   intro hx
   have := hx 0 y rfl
   rw [Nat.add_zero, h] at this; simp at this
  | none =>
   rw [firstL_none (xs := ys) (i := i + 1)]
   constructor
   ·intro hx j y' hj
    cases j with
    | zero => simp at hj; subst hj; exact h
    | succ j => have := hx j y' (by simpa using hj); rwa [show i + 1 + j = i + (j + 1) from by omega] at this
   ·intro hx j y' hj
    have := hx (j + 1) y' (by simpa using hj)
    rwa [show i + (j + 1) = i + 1 + j from by omega] at this
theorem forL_first {α ρ : Type} (g : Nat → α → Option ρ) (e : ρ) : ∀ (xs : List α) (i : Nat), forL (fun i y (_ : Unit) => match g i y with | some r => Sum.inr r | none => .inl ()) (fun _ => e) xs i () = (firstL g xs i).getD e
 | [], _ => rfl
 | y :: ys, i => by
  simp only [forL, firstL]
  cases g i y with
  | some r => rfl
  | none => exact forL_first g e ys (i + 1)
theorem loop_first {α ρ : Type} {step : Int → Option (Int ⊕ ρ)} (xs : List α) (g : Nat → α → Option ρ) (e : ρ) (hl : xs.length < manyRounds)
  (h1 : ∀ (i : Nat) y, xs[i]? = some y → step (i : Int) = some (match g i y with | some r => .inr r | none => .inl ((i : Int) + 1))) (h2 : step (xs.length : Int) = some (.inr e)) : loop step 0 = some ((firstL g xs 0).getD e) := by
 have := loop_for0 (σ := Unit) (step := step) xs (fun i _ => (i : Int)) (fun i y _ => match g i y with | some r => .inr r | none => .inl ()) (fun _ => e) hl
  (fun i y s hy => by
   rw [h1 i y hy]
   cases g i y <;> simp)
  (fun _ => h2) ()
 rw [show (0 : Int) = ((0 : Nat) : Int) from rfl, this, forL_first]
theorem lt_of_get {α : Type} {xs : List α} {i : Nat} {y : α} (h : xs[i]? = some y) : i < xs.length := (List.getElem?_eq_some_iff.1 h).1
theorem w64_nat {i : Nat} (h : i < 9223372036854775807) : w64 ((i : Int) + 1) = (i : Int) + 1 := w64_of (by omega)
end Go.VM
namespace Go.VM
theorem spans_Valid_eq (s : api_Span) : spans_Valid s = some (decide (0 ≤ s.fFrom ∧ s.fFrom < s.fTo ∧ s.fTo ≤ 1000000000000)) := by
 unfold spans_Valid
 by_cases h1 : 0 ≤ s.fFrom <;> by_cases h2 : s.fFrom < s.fTo <;> by_cases h3 : s.fTo ≤ 1000000000000 <;> simp [h1, h2, h3]
def Ok {α : Type} (x : Option α) (P : α → Prop) : Prop := ∃ r, x = some r ∧ P r
def Yes {α : Type} : α → Prop := fun _ => True
def InlR {α β : Type} (A : α → Prop) (B : β → Prop) : α ⊕ β → Prop
 | .inl a => A a
 | .inr b => B b
theorem ok_some {α : Type} {P : α → Prop} {r : α} (h : P r) : Ok (some r) P := ⟨r, rfl, h⟩
theorem ok_inl {α β : Type} {A : α → Prop} {B : β → Prop} {a : α} (h : A a) : Ok (some (.inl a)) (InlR A B) := ⟨_, rfl, h⟩
theorem ok_inr {α β : Type} {A : α → Prop} {B : β → Prop} {b : β} (h : B b) : Ok (some (.inr b)) (InlR A B) := ⟨_, rfl, h⟩
theorem ok_bind {α β : Type} {x : Option α} {f : α → Option β} {Q : α → Prop} {P : β → Prop} (hx : Ok x Q) (hf : ∀ r, Q r → Ok (f r) P) : Ok (x.bind f) P := by
 obtain ⟨r, h1, h2⟩ := hx
 subst h1; exact hf r h2
theorem ok_bindS {α β γ : Type} {x : Option (α ⊕ γ)} {f : α ⊕ γ → Option β} {Q : α ⊕ γ → Prop} {P : β → Prop} (hx : Ok x Q) (hf : ∀ r, Q (.inl r) → Ok (f (.inl r)) P) (hg : ∀ r, Q (.inr r) → Ok (f (.inr r)) P) : Ok (x.bind f) P :=
 ok_bind hx (fun r => match r with | .inl a => hf a | .inr b => hg b)
theorem ok_bindE {α β : Type} {x : Option α} {f : α → Option β} {P : β → Prop} (hx : Ok x Yes) (hf : ∀ r, x = some r → Ok (f r) P) : Ok (x.bind f) P := by
 obtain ⟨r, h1, h2⟩ := hx
 subst h1; exact hf r rfl
theorem ok_cond {α : Type} {b : Bool} {x y : Option α} {P : α → Prop} (h1 : b = true → Ok x P) (h2 : b = false → Ok y P) : Ok (cond b x y) P := by
 cases b
 ·exact h2 rfl
 ·exact h1 rfl
theorem Ok.mono {α : Type} {x : Option α} {P Q : α → Prop} (h : Ok x P) (hq : ∀ r, P r → Q r) : Ok x Q := by
 obtain ⟨r, h1, h2⟩ := h; exact ⟨r, h1, hq r h2⟩
theorem Ok.yes {α : Type} {x : Option α} {P : α → Prop} (h : Ok x P) : Ok x Yes := h.mono (fun _ _ => trivial)
theorem Ok.of_eq {α : Type} {x : Option α} {P : α → Prop} {r : α} (h : Ok x P) (e : x = some r) : P r := by
 obtain ⟨r', h1, h2⟩ := h; rw [e] at h1; cases h1; exact h2
theorem ok_idx {α : Type} {xs : List α} {i : Int} (h1 : 0 ≤ i) (h2 : i < xs.length) : Ok (idx xs i) (fun y => xs[i.toNat]? = some y) := by
 obtain ⟨n, rfl⟩ := Int.eq_ofNat_of_zero_le h1
 have h3 : n < xs.length := by omega
 rw [idx_nat]
 exact ⟨xs[n], by simp [h3], by simp [h3]⟩
theorem ok_loop {S ρ : Type} {step : S → Option (S ⊕ ρ)} (Inv : S → Prop) (m : S → Nat) {Post : ρ → Prop}
  (h : ∀ s, Inv s → Ok (step s) (InlR (fun s' => Inv s' ∧ m s' < m s) Post)) {s : S} (hs : Inv s) (hm : m s < manyRounds) : Ok (loop step s) Post := by
 refine loop_inv Inv m Post (fun s hs => ?_) hs hm
 obtain ⟨r, h1, h2⟩ := h s hs
 cases r with
 | inl a => exact Or.inl ⟨a, h1, h2⟩
 | inr b => exact Or.inr ⟨b, h1, h2⟩
theorem ok_up {ρ : Type} {step : Int → Option (Int ⊕ ρ)} (n : Nat) {Post : ρ → Prop} (hn : n ≤ 9223372036854775807)
  (h : ∀ i : Int, 0 ≤ i → i ≤ n → Ok (step i) (InlR (fun a => i < n ∧ a = i + 1) Post)) : Ok (loop step 0) Post := by
 refine ok_loop (fun i : Int => 0 ≤ i ∧ i ≤ (n : Int)) (fun i : Int => ((n : Int) - i).toNat) (fun i hi => (h i hi.1 hi.2).mono ?_) ⟨by omega, by omega⟩ (by simp [manyRounds]; omega)
 rintro (a | b) hr
 ·obtain ⟨h1, rfl⟩ : i < n ∧ a = i + 1 := hr
  exact ⟨⟨by omega, by omega⟩, by omega⟩
 ·exact hr
theorem ok_yes {α : Type} {r : α} : Ok (some r) Yes := ⟨r, rfl, trivial⟩
theorem ok_inlY {α β : Type} {B : β → Prop} {a : α} : Ok (some (.inl a)) (InlR Yes B) := ⟨_, rfl, trivial⟩
theorem ok_inrY {α β : Type} {A : α → Prop} {b : β} : Ok (some (.inr b)) (InlR A Yes) := ⟨_, rfl, trivial⟩
theorem ok_next {ρ : Type} {i : Int} {n : Nat} {P : ρ → Prop} (h1 : 0 ≤ i) (h2 : i < (n : Int)) (h3 : n ≤ 9223372036854775807) : Ok (some (.inl (w64 (i + 1)))) (InlR (fun a : Int => i < (n : Int) ∧ a = i + 1) P) :=
 ok_inl ⟨h2, w64_of (by omega)⟩
theorem ok_ite {α : Type} {p : Prop} [Decidable p] {x y : Option α} {P : α → Prop} (h1 : p → Ok x P) (h2 : ¬p → Ok y P) : Ok (cond (decide p) x y) P :=
 ok_cond (fun h => h1 (of_decide_eq_true h)) (fun h => h2 (of_decide_eq_false h))
theorem ok_nite {α : Type} {p : Prop} [Decidable p] {x y : Option α} {P : α → Prop} (h1 : ¬p → Ok x P) (h2 : p → Ok y P) : Ok (cond (!decide p) x y) P := by
 by_cases h : p
 ·simpa [h] using h2 h
 ·simpa [h] using h1 h
theorem ok_not {α : Type} {b : Bool} {x y : Option α} {P : α → Prop} (h1 : b = false → Ok x P) (h2 : b = true → Ok y P) : Ok (cond (!b) x y) P := by
 cases b
 ·exact h1 rfl
 ·exact h2 rfl
abbrev Tot {α : Type} (x : Option α) : Prop := Ok x Yes
theorem ok_up2 {σ ρ : Type} {step : σ × Int → Option ((σ × Int) ⊕ ρ)} (n : Nat) (Inv : σ → Int → Prop) {Post : ρ → Prop} (hn : n ≤ 9223372036854775807) {s0 : σ} (h0 : Inv s0 0)
  (h : ∀ (s : σ) (i : Int), Inv s i → 0 ≤ i → i ≤ n → Ok (step (s, i)) (InlR (fun a => i < n ∧ a.2 = i + 1 ∧ Inv a.1 (i + 1)) Post)) : Ok (loop step (s0, 0)) Post := by
 refine ok_loop (fun s : σ × Int => Inv s.1 s.2 ∧ 0 ≤ s.2 ∧ s.2 ≤ (n : Int)) (fun s : σ × Int => ((n : Int) - s.2).toNat) (fun s hi => (h s.1 s.2 hi.1 hi.2.1 hi.2.2).mono ?_) ⟨h0, by simp, by simp⟩ (by simp [manyRounds]; omega)
 rintro (⟨a, j⟩ | b) hr
 ·obtain ⟨h1, h2, h3⟩ : s.2 < n ∧ j = s.2 + 1 ∧ Inv a (s.2 + 1) := hr
  subst h2
  exact ⟨⟨h3, by simp; omega, by simp; omega⟩, by simp; omega⟩
 ·exact hr
theorem ok_next2 {σ ρ : Type} {s : σ} {i : Int} {n : Nat} {Inv : σ → Int → Prop} {P : ρ → Prop} (hI : Inv s (i + 1)) (h1 : 0 ≤ i) (h2 : i < (n : Int)) (h3 : n ≤ 9223372036854775807) : Ok (some (.inl (s, w64 (i + 1)))) (InlR (fun a : σ × Int => i < (n : Int) ∧ a.2 = i + 1 ∧ Inv a.1 (i + 1)) P) :=
 ok_inl ⟨h2, w64_of (by omega), hI⟩
theorem ok_upI {ρ : Type} {step : Int → Option (Int ⊕ ρ)} (n : Nat) (Inv : Int → Prop) {Post : ρ → Prop} (hn : n ≤ 9223372036854775807) (h0 : Inv 0)
  (h : ∀ i : Int, Inv i → 0 ≤ i → i ≤ n → Ok (step i) (InlR (fun a => i < n ∧ a = i + 1 ∧ Inv (i + 1)) Post)) : Ok (loop step 0) Post := by
 refine ok_loop (fun i : Int => Inv i ∧ 0 ≤ i ∧ i ≤ (n : Int)) (fun i : Int => ((n : Int) - i).toNat) (fun i hi => (h i hi.1 hi.2.1 hi.2.2).mono ?_) ⟨h0, by omega, by omega⟩ (by simp [manyRounds]; omega)
 rintro (a | b) hr
 ·obtain ⟨h1, rfl, h3⟩ : i < n ∧ a = i + 1 ∧ Inv (i + 1) := hr
  exact ⟨⟨h3, by omega, by omega⟩, by omega⟩
 ·exact hr
theorem ok_nextI {ρ : Type} {i : Int} {n : Nat} {Inv : Int → Prop} {P : ρ → Prop} (hI : Inv (i + 1)) (h1 : 0 ≤ i) (h2 : i < (n : Int)) (h3 : n ≤ 9223372036854775807) : Ok (some (.inl (w64 (i + 1)))) (InlR (fun a : Int => i < (n : Int) ∧ a = i + 1 ∧ Inv (i + 1)) P) :=
 ok_inl ⟨h2, w64_of (by omega), hI⟩
theorem room_ok {b n : Nat} (h1 : n * b ≤ 140737488355328) (h2 : n ≤ 9223372036854775807) : room b n = true := by
 simp only [room, Bool.and_eq_true]
 exact ⟨Nat.ble_eq_true_of_le h1, Nat.ble_eq_true_of_le h2⟩
theorem intern_letter_ok (c : Int) : Ok (intern_letter c) Yes := by
 unfold intern_letter strings_IndexByte internal_stringslite_IndexByte
 repeat' (first | (with_reducible first | exact ok_yes | exact ok_inrY | exact ok_inlY | refine ok_nite (fun _ => ?_) fun _ => ?_ | refine ok_ite (fun _ => ?_) fun _ => ?_ | refine ok_not (fun _ => ?_) fun _ => ?_ | refine ok_cond (fun _ => ?_) fun _ => ?_) | (with_reducible refine ok_next ?_ ?_ ?_ <;> (first | assumption | omega | rw [w64_of] <;> omega)) | with_reducible refine ok_bind (ok_idx (by (first | assumption | omega | rw [w64_of] <;> omega)) (by (first | assumption | omega | rw [w64_of] <;> omega))) (fun _ _ => ?_) | (with_reducible refine ok_bind (Q := Yes) ?_ fun _ _ => ?_) | dsimp only)
theorem intern_Name_ok (s : ByteArray) (h : s.size ≤ 9223372036854775807) : Ok (intern_Name s) Yes := by
 unfold intern_Name
 refine ok_bind (Q := Yes) ?_ (fun v _ => ?_)
 ·repeat' (first | (with_reducible first | exact ok_yes | exact ok_inrY | exact ok_inlY | refine ok_nite (fun _ => ?_) fun _ => ?_ | refine ok_ite (fun _ => ?_) fun _ => ?_ | refine ok_not (fun _ => ?_) fun _ => ?_ | refine ok_cond (fun _ => ?_) fun _ => ?_) | (with_reducible refine ok_next ?_ ?_ ?_ <;> (first | assumption | omega | rw [w64_of] <;> omega)) | with_reducible refine ok_bind (ok_idx (by (first | assumption | omega | rw [w64_of] <;> omega)) (by (first | assumption | omega | rw [w64_of] <;> omega))) (fun _ _ => ?_) | (with_reducible refine ok_bind (Q := Yes) ?_ fun _ _ => ?_) | dsimp only)
 refine ok_cond (fun _ => ok_some trivial) (fun _ => ?_)
 have e : s.data.toList.length = s.size := by rw [Array.length_toList]; rfl
 refine ok_bindS (Q := Yes) (ok_up s.size h fun i h1 h2 => ?_) (fun _ _ => ?_) (fun _ _ => ?_)
 ·unfold intern_Name_L1
  repeat' (first | (with_reducible first | exact ok_yes | exact ok_inrY | exact ok_inlY | refine ok_nite (fun _ => ?_) fun _ => ?_ | refine ok_ite (fun _ => ?_) fun _ => ?_ | refine ok_not (fun _ => ?_) fun _ => ?_ | refine ok_cond (fun _ => ?_) fun _ => ?_) | (with_reducible refine ok_next ?_ ?_ ?_ <;> (first | assumption | omega | rw [w64_of] <;> omega)) | with_reducible refine ok_bind (ok_idx (by (first | assumption | omega | rw [w64_of] <;> omega)) (by (first | assumption | omega | rw [w64_of] <;> omega))) (fun _ _ => ?_) | (with_reducible refine Ok.yes (ok_idx ?_ (by rw [e]; (first | assumption | omega | rw [w64_of] <;> omega))) <;> (first | assumption | omega | rw [w64_of] <;> omega)) | (with_reducible refine Ok.yes (intern_letter_ok _) <;> (first | assumption | omega | rw [w64_of] <;> omega)) | (with_reducible refine ok_bind (Q := Yes) ?_ fun _ _ => ?_) | dsimp only)
 ·repeat' (first | (with_reducible first | exact ok_yes | exact ok_inrY | exact ok_inlY | refine ok_nite (fun _ => ?_) fun _ => ?_ | refine ok_ite (fun _ => ?_) fun _ => ?_ | refine ok_not (fun _ => ?_) fun _ => ?_ | refine ok_cond (fun _ => ?_) fun _ => ?_) | (with_reducible refine ok_next ?_ ?_ ?_ <;> (first | assumption | omega | rw [w64_of] <;> omega)) | with_reducible refine ok_bind (ok_idx (by (first | assumption | omega | rw [w64_of] <;> omega)) (by (first | assumption | omega | rw [w64_of] <;> omega))) (fun _ _ => ?_) | (with_reducible refine ok_bind (Q := Yes) ?_ fun _ _ => ?_) | dsimp only)
 ·repeat' (first | (with_reducible first | exact ok_yes | exact ok_inrY | exact ok_inlY | refine ok_nite (fun _ => ?_) fun _ => ?_ | refine ok_ite (fun _ => ?_) fun _ => ?_ | refine ok_not (fun _ => ?_) fun _ => ?_ | refine ok_cond (fun _ => ?_) fun _ => ?_) | (with_reducible refine ok_next ?_ ?_ ?_ <;> (first | assumption | omega | rw [w64_of] <;> omega)) | with_reducible refine ok_bind (ok_idx (by (first | assumption | omega | rw [w64_of] <;> omega)) (by (first | assumption | omega | rw [w64_of] <;> omega))) (fun _ _ => ?_) | (with_reducible refine ok_bind (Q := Yes) ?_ fun _ _ => ?_) | dsimp only)
abbrev okN (s : ByteArray) : Prop := s.size ≤ 9223372036854775807
theorem producer_Thread_ok (t : api_Thread) (h : okN t.fName) : Ok (producer_Thread t) Yes := by
 unfold producer_Thread
 repeat' (first | (with_reducible first | exact ok_yes | exact ok_inrY | exact ok_inlY | refine ok_nite (fun _ => ?_) fun _ => ?_ | refine ok_ite (fun _ => ?_) fun _ => ?_ | refine ok_not (fun _ => ?_) fun _ => ?_ | refine ok_cond (fun _ => ?_) fun _ => ?_) | (with_reducible refine ok_next ?_ ?_ ?_ <;> (first | assumption | omega | rw [w64_of] <;> omega)) | with_reducible refine ok_bind (ok_idx (by (first | assumption | omega | rw [w64_of] <;> omega)) (by (first | assumption | omega | rw [w64_of] <;> omega))) (fun _ _ => ?_) | (with_reducible refine Ok.yes (intern_Name_ok _ h) <;> (first | assumption | omega | rw [w64_of] <;> omega)) | (with_reducible refine ok_bind (Q := Yes) ?_ fun _ _ => ?_) | dsimp only)
theorem spans_Valid_ok (s : api_Span) : Ok (spans_Valid s) Yes := by
 unfold spans_Valid
 repeat' (first | (with_reducible first | exact ok_yes | exact ok_inrY | exact ok_inlY | refine ok_nite (fun _ => ?_) fun _ => ?_ | refine ok_ite (fun _ => ?_) fun _ => ?_ | refine ok_not (fun _ => ?_) fun _ => ?_ | refine ok_cond (fun _ => ?_) fun _ => ?_) | (with_reducible refine ok_next ?_ ?_ ?_ <;> (first | assumption | omega | rw [w64_of] <;> omega)) | with_reducible refine ok_bind (ok_idx (by (first | assumption | omega | rw [w64_of] <;> omega)) (by (first | assumption | omega | rw [w64_of] <;> omega))) (fun _ _ => ?_) | (with_reducible refine ok_bind (Q := Yes) ?_ fun _ _ => ?_) | dsimp only)
theorem cmp_Compare_int_ok (a b : Int) : Ok (cmp_Compare_int a b) Yes := by
 unfold cmp_Compare_int cmp_isNaN_int
 repeat' (first | (with_reducible first | exact ok_yes | exact ok_inrY | exact ok_inlY | refine ok_nite (fun _ => ?_) fun _ => ?_ | refine ok_ite (fun _ => ?_) fun _ => ?_ | refine ok_not (fun _ => ?_) fun _ => ?_ | refine ok_cond (fun _ => ?_) fun _ => ?_) | (with_reducible refine ok_next ?_ ?_ ?_ <;> (first | assumption | omega | rw [w64_of] <;> omega)) | with_reducible refine ok_bind (ok_idx (by (first | assumption | omega | rw [w64_of] <;> omega)) (by (first | assumption | omega | rw [w64_of] <;> omega))) (fun _ _ => ?_) | (with_reducible refine ok_bind (Q := Yes) ?_ fun _ _ => ?_) | dsimp only)
theorem cmp_Or_int_ok (l : List Int) (h : l.length ≤ 9223372036854775807) : Ok (cmp_Or_int l) Yes := by
 unfold cmp_Or_int
 refine ok_bindS (Q := Yes) (ok_up l.length (by omega) fun i h1 h2 => ?_) (fun _ _ => ?_) (fun _ _ => ?_)
 ·unfold cmp_Or_int_L1
  repeat' (first | (with_reducible first | exact ok_yes | exact ok_inrY | exact ok_inlY | refine ok_nite (fun _ => ?_) fun _ => ?_ | refine ok_ite (fun _ => ?_) fun _ => ?_ | refine ok_not (fun _ => ?_) fun _ => ?_ | refine ok_cond (fun _ => ?_) fun _ => ?_) | (with_reducible refine ok_next ?_ ?_ ?_ <;> (first | assumption | omega | rw [w64_of] <;> omega)) | with_reducible refine ok_bind (ok_idx (by (first | assumption | omega | rw [w64_of] <;> omega)) (by (first | assumption | omega | rw [w64_of] <;> omega))) (fun _ _ => ?_) | (with_reducible refine ok_bind (Q := Yes) ?_ fun _ _ => ?_) | dsimp only)
 ·repeat' (first | (with_reducible first | exact ok_yes | exact ok_inrY | exact ok_inlY | refine ok_nite (fun _ => ?_) fun _ => ?_ | refine ok_ite (fun _ => ?_) fun _ => ?_ | refine ok_not (fun _ => ?_) fun _ => ?_ | refine ok_cond (fun _ => ?_) fun _ => ?_) | (with_reducible refine ok_next ?_ ?_ ?_ <;> (first | assumption | omega | rw [w64_of] <;> omega)) | with_reducible refine ok_bind (ok_idx (by (first | assumption | omega | rw [w64_of] <;> omega)) (by (first | assumption | omega | rw [w64_of] <;> omega))) (fun _ _ => ?_) | (with_reducible refine ok_bind (Q := Yes) ?_ fun _ _ => ?_) | dsimp only)
 ·repeat' (first | (with_reducible first | exact ok_yes | exact ok_inrY | exact ok_inlY | refine ok_nite (fun _ => ?_) fun _ => ?_ | refine ok_ite (fun _ => ?_) fun _ => ?_ | refine ok_not (fun _ => ?_) fun _ => ?_ | refine ok_cond (fun _ => ?_) fun _ => ?_) | (with_reducible refine ok_next ?_ ?_ ?_ <;> (first | assumption | omega | rw [w64_of] <;> omega)) | with_reducible refine ok_bind (ok_idx (by (first | assumption | omega | rw [w64_of] <;> omega)) (by (first | assumption | omega | rw [w64_of] <;> omega))) (fun _ _ => ?_) | (with_reducible refine ok_bind (Q := Yes) ?_ fun _ _ => ?_) | dsimp only)
theorem slice_compare_ok (a b : api_Slice) : Ok (slice_compare a b) Yes := by
 unfold slice_compare
 repeat' (first | (with_reducible first | exact ok_yes | exact ok_inrY | exact ok_inlY | refine ok_nite (fun _ => ?_) fun _ => ?_ | refine ok_ite (fun _ => ?_) fun _ => ?_ | refine ok_not (fun _ => ?_) fun _ => ?_ | refine ok_cond (fun _ => ?_) fun _ => ?_) | (with_reducible refine ok_next ?_ ?_ ?_ <;> (first | assumption | omega | rw [w64_of] <;> omega)) | with_reducible refine ok_bind (ok_idx (by (first | assumption | omega | rw [w64_of] <;> omega)) (by (first | assumption | omega | rw [w64_of] <;> omega))) (fun _ _ => ?_) | (with_reducible refine Ok.yes (cmp_Compare_int_ok _ _) <;> (first | assumption | omega | rw [w64_of] <;> omega)) | (with_reducible refine Ok.yes (cmp_Or_int_ok _ (Nat.le_of_ble_eq_true rfl)) <;> (first | assumption | omega | rw [w64_of] <;> omega)) | (with_reducible refine ok_bind (Q := Yes) ?_ fun _ _ => ?_) | dsimp only)
theorem intern_Frames_ok (l : List ByteArray) (h : l.length ≤ 9223372036854775807) (hx : ∀ x ∈ l, okN x) : Ok (intern_Frames l) Yes := by
 unfold intern_Frames
 refine ok_ite (fun _ => ok_yes) (fun _ => ?_)
 refine ok_bindS (Q := Yes) (ok_up l.length (by omega) fun i h1 h2 => ?_) (fun _ _ => ?_) (fun _ _ => ?_)
 ·unfold intern_Frames_L1
  repeat' (first | (with_reducible first | exact ok_yes | exact ok_inrY | exact ok_inlY | refine ok_nite (fun _ => ?_) fun _ => ?_ | refine ok_ite (fun _ => ?_) fun _ => ?_ | refine ok_not (fun _ => ?_) fun _ => ?_ | refine ok_cond (fun _ => ?_) fun _ => ?_) | (with_reducible refine ok_next ?_ ?_ ?_ <;> (first | assumption | omega | rw [w64_of] <;> omega)) | with_reducible refine ok_bind (ok_idx (by (first | assumption | omega | rw [w64_of] <;> omega)) (by (first | assumption | omega | rw [w64_of] <;> omega))) (fun _ _ => ?_) | (with_reducible refine Ok.yes (intern_Name_ok _ (hx _ (List.mem_of_getElem? (by assumption)))) <;> (first | assumption | omega | rw [w64_of] <;> omega)) | (with_reducible refine ok_bind (Q := Yes) ?_ fun _ _ => ?_) | dsimp only)
 ·repeat' (first | (with_reducible first | exact ok_yes | exact ok_inrY | exact ok_inlY | refine ok_nite (fun _ => ?_) fun _ => ?_ | refine ok_ite (fun _ => ?_) fun _ => ?_ | refine ok_not (fun _ => ?_) fun _ => ?_ | refine ok_cond (fun _ => ?_) fun _ => ?_) | (with_reducible refine ok_next ?_ ?_ ?_ <;> (first | assumption | omega | rw [w64_of] <;> omega)) | with_reducible refine ok_bind (ok_idx (by (first | assumption | omega | rw [w64_of] <;> omega)) (by (first | assumption | omega | rw [w64_of] <;> omega))) (fun _ _ => ?_) | (with_reducible refine Ok.yes (intern_Name_ok _ (hx _ (List.mem_of_getElem? (by assumption)))) <;> (first | assumption | omega | rw [w64_of] <;> omega)) | (with_reducible refine ok_bind (Q := Yes) ?_ fun _ _ => ?_) | dsimp only)
 ·repeat' (first | (with_reducible first | exact ok_yes | exact ok_inrY | exact ok_inlY | refine ok_nite (fun _ => ?_) fun _ => ?_ | refine ok_ite (fun _ => ?_) fun _ => ?_ | refine ok_not (fun _ => ?_) fun _ => ?_ | refine ok_cond (fun _ => ?_) fun _ => ?_) | (with_reducible refine ok_next ?_ ?_ ?_ <;> (first | assumption | omega | rw [w64_of] <;> omega)) | with_reducible refine ok_bind (ok_idx (by (first | assumption | omega | rw [w64_of] <;> omega)) (by (first | assumption | omega | rw [w64_of] <;> omega))) (fun _ _ => ?_) | (with_reducible refine Ok.yes (intern_Name_ok _ (hx _ (List.mem_of_getElem? (by assumption)))) <;> (first | assumption | omega | rw [w64_of] <;> omega)) | (with_reducible refine ok_bind (Q := Yes) ?_ fun _ _ => ?_) | dsimp only)
structure Siz (t : api_Trace) : Prop where
 th : t.fThreads.length ≤ 9223372036854775807
 sl : t.fSlices.length ≤ 9223372036854775807
 st : t.fStates.length ≤ 9223372036854775807
 fl : t.fFlows.length ≤ 9223372036854775807
 sa : t.fSamples.length ≤ 9223372036854775807
 sp : t.fSteps.length ≤ 9223372036854775807
 bl : t.fBlocks.length ≤ 9223372036854775807
 lo : t.fLost.length ≤ 9223372036854775807
 nTh : ∀ x ∈ t.fThreads, okN x.fName
 nSl : ∀ x ∈ t.fSlices, okN x.fName
 nSa : ∀ x ∈ t.fSamples, x.fStack.length ≤ 9223372036854775807 ∧ ∀ y ∈ x.fStack, okN y
 nSp : ∀ x ∈ t.fSteps, okN x.fName
 nBl : ∀ x ∈ t.fBlocks, x.fStack.length ≤ 9223372036854775807 ∧ ∀ y ∈ x.fStack, okN y
theorem trace_threads_ok (t : api_Trace) (hl : t.fThreads.length ≤ 9223372036854775807) (hn : ∀ x ∈ t.fThreads, okN x.fName) : Ok (trace_threads t) (InlR (fun r => r.2 ≠ 0) Yes) := by
 unfold trace_threads
 refine ok_ite (fun _ => ok_inl (by simp)) (fun _ => ?_)
 refine ok_bindS (Q := InlR Yes (InlR (fun r => r.2 ≠ 0) Yes)) (ok_up2 t.fThreads.length (fun _ _ => True) hl trivial (fun a i _ h1 h2 => ?_)) (fun _ _ => ?_) (fun r hr => ?_)
 ·unfold trace_threads_L1
  dsimp only
  refine ok_ite (fun h => ?_) (fun _ => ok_inr trivial)
  refine ok_bind (ok_idx h1 h) (fun y hy => ?_)
  refine ok_bind (producer_Thread_ok _ (hn _ (List.mem_of_getElem? hy))) (fun r _ => ?_)
  refine ok_nite (fun h0 => ok_inr h0) (fun _ => ?_)
  refine ok_cond (fun _ => ok_inr (by simp [InlR])) (fun _ => ?_)
  exact ok_next2 (Inv := fun _ _ => True) trivial h1 h hl
 ·exact ok_inr trivial
 ·exact ⟨_, rfl, hr⟩
theorem trace_tables_1_ok (a) : Tot (trace_tables_1 a) := ⟨_, rfl, trivial⟩
theorem trace_known_api_Slice_k1_ok (e : Int) (m) (l : List api_Slice) (h : l.length ≤ 9223372036854775807) : Tot (trace_known_api_Slice_k1 e m l) := by
 unfold trace_known_api_Slice_k1
 refine ok_nite (fun _ => ok_yes) (fun _ => ?_)
 refine ok_bindS (Q := Yes) (ok_up l.length (by omega) fun i h1 h2 => ?_) (fun _ _ => ?_) (fun _ _ => ?_)
 ·unfold trace_known_api_Slice_k1_L1
  repeat' (first | (with_reducible first | exact ok_yes | exact ok_inrY | exact ok_inlY | refine ok_nite (fun _ => ?_) fun _ => ?_ | refine ok_ite (fun _ => ?_) fun _ => ?_ | refine ok_not (fun _ => ?_) fun _ => ?_ | refine ok_cond (fun _ => ?_) fun _ => ?_) | (with_reducible refine ok_next ?_ ?_ ?_ <;> (first | assumption | omega | rw [w64_of] <;> omega)) | with_reducible refine ok_bind (ok_idx (by (first | assumption | omega | rw [w64_of] <;> omega)) (by (first | assumption | omega | rw [w64_of] <;> omega))) (fun _ _ => ?_) | (with_reducible refine Ok.yes (trace_tables_1_ok _) <;> (first | assumption | omega | rw [w64_of] <;> omega)) | (with_reducible refine ok_bind (Q := Yes) ?_ fun _ _ => ?_) | dsimp only)
 ·repeat' (first | (with_reducible first | exact ok_yes | exact ok_inrY | exact ok_inlY | refine ok_nite (fun _ => ?_) fun _ => ?_ | refine ok_ite (fun _ => ?_) fun _ => ?_ | refine ok_not (fun _ => ?_) fun _ => ?_ | refine ok_cond (fun _ => ?_) fun _ => ?_) | (with_reducible refine ok_next ?_ ?_ ?_ <;> (first | assumption | omega | rw [w64_of] <;> omega)) | with_reducible refine ok_bind (ok_idx (by (first | assumption | omega | rw [w64_of] <;> omega)) (by (first | assumption | omega | rw [w64_of] <;> omega))) (fun _ _ => ?_) | (with_reducible refine Ok.yes (trace_tables_1_ok _) <;> (first | assumption | omega | rw [w64_of] <;> omega)) | (with_reducible refine ok_bind (Q := Yes) ?_ fun _ _ => ?_) | dsimp only)
 ·repeat' (first | (with_reducible first | exact ok_yes | exact ok_inrY | exact ok_inlY | refine ok_nite (fun _ => ?_) fun _ => ?_ | refine ok_ite (fun _ => ?_) fun _ => ?_ | refine ok_not (fun _ => ?_) fun _ => ?_ | refine ok_cond (fun _ => ?_) fun _ => ?_) | (with_reducible refine ok_next ?_ ?_ ?_ <;> (first | assumption | omega | rw [w64_of] <;> omega)) | with_reducible refine ok_bind (ok_idx (by (first | assumption | omega | rw [w64_of] <;> omega)) (by (first | assumption | omega | rw [w64_of] <;> omega))) (fun _ _ => ?_) | (with_reducible refine Ok.yes (trace_tables_1_ok _) <;> (first | assumption | omega | rw [w64_of] <;> omega)) | (with_reducible refine ok_bind (Q := Yes) ?_ fun _ _ => ?_) | dsimp only)
theorem trace_tables_2_ok (a) : Tot (trace_tables_2 a) := ⟨_, rfl, trivial⟩
theorem trace_known_api_Flow_k1_ok (e : Int) (m) (l : List api_Flow) (h : l.length ≤ 9223372036854775807) : Tot (trace_known_api_Flow_k1 e m l) := by
 unfold trace_known_api_Flow_k1
 refine ok_nite (fun _ => ok_yes) (fun _ => ?_)
 refine ok_bindS (Q := Yes) (ok_up l.length (by omega) fun i h1 h2 => ?_) (fun _ _ => ?_) (fun _ _ => ?_)
 ·unfold trace_known_api_Flow_k1_L1
  repeat' (first | (with_reducible first | exact ok_yes | exact ok_inrY | exact ok_inlY | refine ok_nite (fun _ => ?_) fun _ => ?_ | refine ok_ite (fun _ => ?_) fun _ => ?_ | refine ok_not (fun _ => ?_) fun _ => ?_ | refine ok_cond (fun _ => ?_) fun _ => ?_) | (with_reducible refine ok_next ?_ ?_ ?_ <;> (first | assumption | omega | rw [w64_of] <;> omega)) | with_reducible refine ok_bind (ok_idx (by (first | assumption | omega | rw [w64_of] <;> omega)) (by (first | assumption | omega | rw [w64_of] <;> omega))) (fun _ _ => ?_) | (with_reducible refine Ok.yes (trace_tables_2_ok _) <;> (first | assumption | omega | rw [w64_of] <;> omega)) | (with_reducible refine ok_bind (Q := Yes) ?_ fun _ _ => ?_) | dsimp only)
 ·repeat' (first | (with_reducible first | exact ok_yes | exact ok_inrY | exact ok_inlY | refine ok_nite (fun _ => ?_) fun _ => ?_ | refine ok_ite (fun _ => ?_) fun _ => ?_ | refine ok_not (fun _ => ?_) fun _ => ?_ | refine ok_cond (fun _ => ?_) fun _ => ?_) | (with_reducible refine ok_next ?_ ?_ ?_ <;> (first | assumption | omega | rw [w64_of] <;> omega)) | with_reducible refine ok_bind (ok_idx (by (first | assumption | omega | rw [w64_of] <;> omega)) (by (first | assumption | omega | rw [w64_of] <;> omega))) (fun _ _ => ?_) | (with_reducible refine Ok.yes (trace_tables_2_ok _) <;> (first | assumption | omega | rw [w64_of] <;> omega)) | (with_reducible refine ok_bind (Q := Yes) ?_ fun _ _ => ?_) | dsimp only)
 ·repeat' (first | (with_reducible first | exact ok_yes | exact ok_inrY | exact ok_inlY | refine ok_nite (fun _ => ?_) fun _ => ?_ | refine ok_ite (fun _ => ?_) fun _ => ?_ | refine ok_not (fun _ => ?_) fun _ => ?_ | refine ok_cond (fun _ => ?_) fun _ => ?_) | (with_reducible refine ok_next ?_ ?_ ?_ <;> (first | assumption | omega | rw [w64_of] <;> omega)) | with_reducible refine ok_bind (ok_idx (by (first | assumption | omega | rw [w64_of] <;> omega)) (by (first | assumption | omega | rw [w64_of] <;> omega))) (fun _ _ => ?_) | (with_reducible refine Ok.yes (trace_tables_2_ok _) <;> (first | assumption | omega | rw [w64_of] <;> omega)) | (with_reducible refine ok_bind (Q := Yes) ?_ fun _ _ => ?_) | dsimp only)
theorem trace_tables_3_ok (a) : Tot (trace_tables_3 a) := ⟨_, rfl, trivial⟩
theorem trace_known_api_Flow_k2_ok (e : Int) (m) (l : List api_Flow) (h : l.length ≤ 9223372036854775807) : Tot (trace_known_api_Flow_k2 e m l) := by
 unfold trace_known_api_Flow_k2
 refine ok_nite (fun _ => ok_yes) (fun _ => ?_)
 refine ok_bindS (Q := Yes) (ok_up l.length (by omega) fun i h1 h2 => ?_) (fun _ _ => ?_) (fun _ _ => ?_)
 ·unfold trace_known_api_Flow_k2_L1
  repeat' (first | (with_reducible first | exact ok_yes | exact ok_inrY | exact ok_inlY | refine ok_nite (fun _ => ?_) fun _ => ?_ | refine ok_ite (fun _ => ?_) fun _ => ?_ | refine ok_not (fun _ => ?_) fun _ => ?_ | refine ok_cond (fun _ => ?_) fun _ => ?_) | (with_reducible refine ok_next ?_ ?_ ?_ <;> (first | assumption | omega | rw [w64_of] <;> omega)) | with_reducible refine ok_bind (ok_idx (by (first | assumption | omega | rw [w64_of] <;> omega)) (by (first | assumption | omega | rw [w64_of] <;> omega))) (fun _ _ => ?_) | (with_reducible refine Ok.yes (trace_tables_3_ok _) <;> (first | assumption | omega | rw [w64_of] <;> omega)) | (with_reducible refine ok_bind (Q := Yes) ?_ fun _ _ => ?_) | dsimp only)
 ·repeat' (first | (with_reducible first | exact ok_yes | exact ok_inrY | exact ok_inlY | refine ok_nite (fun _ => ?_) fun _ => ?_ | refine ok_ite (fun _ => ?_) fun _ => ?_ | refine ok_not (fun _ => ?_) fun _ => ?_ | refine ok_cond (fun _ => ?_) fun _ => ?_) | (with_reducible refine ok_next ?_ ?_ ?_ <;> (first | assumption | omega | rw [w64_of] <;> omega)) | with_reducible refine ok_bind (ok_idx (by (first | assumption | omega | rw [w64_of] <;> omega)) (by (first | assumption | omega | rw [w64_of] <;> omega))) (fun _ _ => ?_) | (with_reducible refine Ok.yes (trace_tables_3_ok _) <;> (first | assumption | omega | rw [w64_of] <;> omega)) | (with_reducible refine ok_bind (Q := Yes) ?_ fun _ _ => ?_) | dsimp only)
 ·repeat' (first | (with_reducible first | exact ok_yes | exact ok_inrY | exact ok_inlY | refine ok_nite (fun _ => ?_) fun _ => ?_ | refine ok_ite (fun _ => ?_) fun _ => ?_ | refine ok_not (fun _ => ?_) fun _ => ?_ | refine ok_cond (fun _ => ?_) fun _ => ?_) | (with_reducible refine ok_next ?_ ?_ ?_ <;> (first | assumption | omega | rw [w64_of] <;> omega)) | with_reducible refine ok_bind (ok_idx (by (first | assumption | omega | rw [w64_of] <;> omega)) (by (first | assumption | omega | rw [w64_of] <;> omega))) (fun _ _ => ?_) | (with_reducible refine Ok.yes (trace_tables_3_ok _) <;> (first | assumption | omega | rw [w64_of] <;> omega)) | (with_reducible refine ok_bind (Q := Yes) ?_ fun _ _ => ?_) | dsimp only)
theorem trace_tables_4_ok (a) : Tot (trace_tables_4 a) := ⟨_, rfl, trivial⟩
theorem trace_known_api_Sample_k1_ok (e : Int) (m) (l : List api_Sample) (h : l.length ≤ 9223372036854775807) : Tot (trace_known_api_Sample_k1 e m l) := by
 unfold trace_known_api_Sample_k1
 refine ok_nite (fun _ => ok_yes) (fun _ => ?_)
 refine ok_bindS (Q := Yes) (ok_up l.length (by omega) fun i h1 h2 => ?_) (fun _ _ => ?_) (fun _ _ => ?_)
 ·unfold trace_known_api_Sample_k1_L1
  repeat' (first | (with_reducible first | exact ok_yes | exact ok_inrY | exact ok_inlY | refine ok_nite (fun _ => ?_) fun _ => ?_ | refine ok_ite (fun _ => ?_) fun _ => ?_ | refine ok_not (fun _ => ?_) fun _ => ?_ | refine ok_cond (fun _ => ?_) fun _ => ?_) | (with_reducible refine ok_next ?_ ?_ ?_ <;> (first | assumption | omega | rw [w64_of] <;> omega)) | with_reducible refine ok_bind (ok_idx (by (first | assumption | omega | rw [w64_of] <;> omega)) (by (first | assumption | omega | rw [w64_of] <;> omega))) (fun _ _ => ?_) | (with_reducible refine Ok.yes (trace_tables_4_ok _) <;> (first | assumption | omega | rw [w64_of] <;> omega)) | (with_reducible refine ok_bind (Q := Yes) ?_ fun _ _ => ?_) | dsimp only)
 ·repeat' (first | (with_reducible first | exact ok_yes | exact ok_inrY | exact ok_inlY | refine ok_nite (fun _ => ?_) fun _ => ?_ | refine ok_ite (fun _ => ?_) fun _ => ?_ | refine ok_not (fun _ => ?_) fun _ => ?_ | refine ok_cond (fun _ => ?_) fun _ => ?_) | (with_reducible refine ok_next ?_ ?_ ?_ <;> (first | assumption | omega | rw [w64_of] <;> omega)) | with_reducible refine ok_bind (ok_idx (by (first | assumption | omega | rw [w64_of] <;> omega)) (by (first | assumption | omega | rw [w64_of] <;> omega))) (fun _ _ => ?_) | (with_reducible refine Ok.yes (trace_tables_4_ok _) <;> (first | assumption | omega | rw [w64_of] <;> omega)) | (with_reducible refine ok_bind (Q := Yes) ?_ fun _ _ => ?_) | dsimp only)
 ·repeat' (first | (with_reducible first | exact ok_yes | exact ok_inrY | exact ok_inlY | refine ok_nite (fun _ => ?_) fun _ => ?_ | refine ok_ite (fun _ => ?_) fun _ => ?_ | refine ok_not (fun _ => ?_) fun _ => ?_ | refine ok_cond (fun _ => ?_) fun _ => ?_) | (with_reducible refine ok_next ?_ ?_ ?_ <;> (first | assumption | omega | rw [w64_of] <;> omega)) | with_reducible refine ok_bind (ok_idx (by (first | assumption | omega | rw [w64_of] <;> omega)) (by (first | assumption | omega | rw [w64_of] <;> omega))) (fun _ _ => ?_) | (with_reducible refine Ok.yes (trace_tables_4_ok _) <;> (first | assumption | omega | rw [w64_of] <;> omega)) | (with_reducible refine ok_bind (Q := Yes) ?_ fun _ _ => ?_) | dsimp only)
theorem trace_tables_5_ok (a) : Tot (trace_tables_5 a) := ⟨_, rfl, trivial⟩
theorem trace_known_api_Block_k1_ok (e : Int) (m) (l : List api_Block) (h : l.length ≤ 9223372036854775807) : Tot (trace_known_api_Block_k1 e m l) := by
 unfold trace_known_api_Block_k1
 refine ok_nite (fun _ => ok_yes) (fun _ => ?_)
 refine ok_bindS (Q := Yes) (ok_up l.length (by omega) fun i h1 h2 => ?_) (fun _ _ => ?_) (fun _ _ => ?_)
 ·unfold trace_known_api_Block_k1_L1
  repeat' (first | (with_reducible first | exact ok_yes | exact ok_inrY | exact ok_inlY | refine ok_nite (fun _ => ?_) fun _ => ?_ | refine ok_ite (fun _ => ?_) fun _ => ?_ | refine ok_not (fun _ => ?_) fun _ => ?_ | refine ok_cond (fun _ => ?_) fun _ => ?_) | (with_reducible refine ok_next ?_ ?_ ?_ <;> (first | assumption | omega | rw [w64_of] <;> omega)) | with_reducible refine ok_bind (ok_idx (by (first | assumption | omega | rw [w64_of] <;> omega)) (by (first | assumption | omega | rw [w64_of] <;> omega))) (fun _ _ => ?_) | (with_reducible refine Ok.yes (trace_tables_5_ok _) <;> (first | assumption | omega | rw [w64_of] <;> omega)) | (with_reducible refine ok_bind (Q := Yes) ?_ fun _ _ => ?_) | dsimp only)
 ·repeat' (first | (with_reducible first | exact ok_yes | exact ok_inrY | exact ok_inlY | refine ok_nite (fun _ => ?_) fun _ => ?_ | refine ok_ite (fun _ => ?_) fun _ => ?_ | refine ok_not (fun _ => ?_) fun _ => ?_ | refine ok_cond (fun _ => ?_) fun _ => ?_) | (with_reducible refine ok_next ?_ ?_ ?_ <;> (first | assumption | omega | rw [w64_of] <;> omega)) | with_reducible refine ok_bind (ok_idx (by (first | assumption | omega | rw [w64_of] <;> omega)) (by (first | assumption | omega | rw [w64_of] <;> omega))) (fun _ _ => ?_) | (with_reducible refine Ok.yes (trace_tables_5_ok _) <;> (first | assumption | omega | rw [w64_of] <;> omega)) | (with_reducible refine ok_bind (Q := Yes) ?_ fun _ _ => ?_) | dsimp only)
 ·repeat' (first | (with_reducible first | exact ok_yes | exact ok_inrY | exact ok_inlY | refine ok_nite (fun _ => ?_) fun _ => ?_ | refine ok_ite (fun _ => ?_) fun _ => ?_ | refine ok_not (fun _ => ?_) fun _ => ?_ | refine ok_cond (fun _ => ?_) fun _ => ?_) | (with_reducible refine ok_next ?_ ?_ ?_ <;> (first | assumption | omega | rw [w64_of] <;> omega)) | with_reducible refine ok_bind (ok_idx (by (first | assumption | omega | rw [w64_of] <;> omega)) (by (first | assumption | omega | rw [w64_of] <;> omega))) (fun _ _ => ?_) | (with_reducible refine Ok.yes (trace_tables_5_ok _) <;> (first | assumption | omega | rw [w64_of] <;> omega)) | (with_reducible refine ok_bind (Q := Yes) ?_ fun _ _ => ?_) | dsimp only)
theorem trace_losses_k1_ok (m) (l : List api_Loss) (h : l.length ≤ 9223372036854775807) : Tot (trace_losses_k1 m l) := by
 unfold trace_losses_k1
 refine ok_bindS (Q := Yes) (ok_up l.length (by omega) fun i h1 h2 => ?_) (fun _ _ => ?_) (fun _ _ => ?_)
 ·unfold trace_losses_k1_L1
  repeat' (first | (with_reducible first | exact ok_yes | exact ok_inrY | exact ok_inlY | refine ok_nite (fun _ => ?_) fun _ => ?_ | refine ok_ite (fun _ => ?_) fun _ => ?_ | refine ok_not (fun _ => ?_) fun _ => ?_ | refine ok_cond (fun _ => ?_) fun _ => ?_) | (with_reducible refine ok_next ?_ ?_ ?_ <;> (first | assumption | omega | rw [w64_of] <;> omega)) | with_reducible refine ok_bind (ok_idx (by (first | assumption | omega | rw [w64_of] <;> omega)) (by (first | assumption | omega | rw [w64_of] <;> omega))) (fun _ _ => ?_) | (with_reducible refine Ok.yes (spans_Valid_ok _) <;> (first | assumption | omega | rw [w64_of] <;> omega)) | (with_reducible refine ok_bind (Q := Yes) ?_ fun _ _ => ?_) | dsimp only)
 ·repeat' (first | (with_reducible first | exact ok_yes | exact ok_inrY | exact ok_inlY | refine ok_nite (fun _ => ?_) fun _ => ?_ | refine ok_ite (fun _ => ?_) fun _ => ?_ | refine ok_not (fun _ => ?_) fun _ => ?_ | refine ok_cond (fun _ => ?_) fun _ => ?_) | (with_reducible refine ok_next ?_ ?_ ?_ <;> (first | assumption | omega | rw [w64_of] <;> omega)) | with_reducible refine ok_bind (ok_idx (by (first | assumption | omega | rw [w64_of] <;> omega)) (by (first | assumption | omega | rw [w64_of] <;> omega))) (fun _ _ => ?_) | (with_reducible refine Ok.yes (spans_Valid_ok _) <;> (first | assumption | omega | rw [w64_of] <;> omega)) | (with_reducible refine ok_bind (Q := Yes) ?_ fun _ _ => ?_) | dsimp only)
 ·repeat' (first | (with_reducible first | exact ok_yes | exact ok_inrY | exact ok_inlY | refine ok_nite (fun _ => ?_) fun _ => ?_ | refine ok_ite (fun _ => ?_) fun _ => ?_ | refine ok_not (fun _ => ?_) fun _ => ?_ | refine ok_cond (fun _ => ?_) fun _ => ?_) | (with_reducible refine ok_next ?_ ?_ ?_ <;> (first | assumption | omega | rw [w64_of] <;> omega)) | with_reducible refine ok_bind (ok_idx (by (first | assumption | omega | rw [w64_of] <;> omega)) (by (first | assumption | omega | rw [w64_of] <;> omega))) (fun _ _ => ?_) | (with_reducible refine Ok.yes (spans_Valid_ok _) <;> (first | assumption | omega | rw [w64_of] <;> omega)) | (with_reducible refine ok_bind (Q := Yes) ?_ fun _ _ => ?_) | dsimp only)
theorem flow_bad_ok (a b : Int) : Tot (flow_bad a b) := by
 unfold flow_bad
 repeat' (first | (with_reducible first | exact ok_yes | exact ok_inrY | exact ok_inlY | refine ok_nite (fun _ => ?_) fun _ => ?_ | refine ok_ite (fun _ => ?_) fun _ => ?_ | refine ok_not (fun _ => ?_) fun _ => ?_ | refine ok_cond (fun _ => ?_) fun _ => ?_) | (with_reducible refine ok_next ?_ ?_ ?_ <;> (first | assumption | omega | rw [w64_of] <;> omega)) | with_reducible refine ok_bind (ok_idx (by (first | assumption | omega | rw [w64_of] <;> omega)) (by (first | assumption | omega | rw [w64_of] <;> omega))) (fun _ _ => ?_) | (with_reducible refine ok_bind (Q := Yes) ?_ fun _ _ => ?_) | dsimp only)
theorem sample_good_ok (a) : Tot (sample_good a) := by
 unfold sample_good
 repeat' (first | (with_reducible first | exact ok_yes | exact ok_inrY | exact ok_inlY | refine ok_nite (fun _ => ?_) fun _ => ?_ | refine ok_ite (fun _ => ?_) fun _ => ?_ | refine ok_not (fun _ => ?_) fun _ => ?_ | refine ok_cond (fun _ => ?_) fun _ => ?_) | (with_reducible refine ok_next ?_ ?_ ?_ <;> (first | assumption | omega | rw [w64_of] <;> omega)) | with_reducible refine ok_bind (ok_idx (by (first | assumption | omega | rw [w64_of] <;> omega)) (by (first | assumption | omega | rw [w64_of] <;> omega))) (fun _ _ => ?_) | (with_reducible refine ok_bind (Q := Yes) ?_ fun _ _ => ?_) | dsimp only)
theorem num_In_ok (a) : Tot (num_In a) := by
 unfold num_In
 repeat' (first | (with_reducible first | exact ok_yes | exact ok_inrY | exact ok_inlY | refine ok_nite (fun _ => ?_) fun _ => ?_ | refine ok_ite (fun _ => ?_) fun _ => ?_ | refine ok_not (fun _ => ?_) fun _ => ?_ | refine ok_cond (fun _ => ?_) fun _ => ?_) | (with_reducible refine ok_next ?_ ?_ ?_ <;> (first | assumption | omega | rw [w64_of] <;> omega)) | with_reducible refine ok_bind (ok_idx (by (first | assumption | omega | rw [w64_of] <;> omega)) (by (first | assumption | omega | rw [w64_of] <;> omega))) (fun _ _ => ?_) | (with_reducible refine ok_bind (Q := Yes) ?_ fun _ _ => ?_) | dsimp only)
theorem cmp_Compare_string_ok (a b) : Tot (cmp_Compare_string a b) := by
 unfold cmp_Compare_string cmp_isNaN_string
 repeat' (first | (with_reducible first | exact ok_yes | exact ok_inrY | exact ok_inlY | refine ok_nite (fun _ => ?_) fun _ => ?_ | refine ok_ite (fun _ => ?_) fun _ => ?_ | refine ok_not (fun _ => ?_) fun _ => ?_ | refine ok_cond (fun _ => ?_) fun _ => ?_) | (with_reducible refine ok_next ?_ ?_ ?_ <;> (first | assumption | omega | rw [w64_of] <;> omega)) | with_reducible refine ok_bind (ok_idx (by (first | assumption | omega | rw [w64_of] <;> omega)) (by (first | assumption | omega | rw [w64_of] <;> omega))) (fun _ _ => ?_) | (with_reducible refine ok_bind (Q := Yes) ?_ fun _ _ => ?_) | dsimp only)
theorem counter_order_ok (a b) : Tot (counter_order a b) := by
 unfold counter_order
 repeat' (first | (with_reducible first | exact ok_yes | exact ok_inrY | exact ok_inlY | refine ok_nite (fun _ => ?_) fun _ => ?_ | refine ok_ite (fun _ => ?_) fun _ => ?_ | refine ok_not (fun _ => ?_) fun _ => ?_ | refine ok_cond (fun _ => ?_) fun _ => ?_) | (with_reducible refine ok_next ?_ ?_ ?_ <;> (first | assumption | omega | rw [w64_of] <;> omega)) | with_reducible refine ok_bind (ok_idx (by (first | assumption | omega | rw [w64_of] <;> omega)) (by (first | assumption | omega | rw [w64_of] <;> omega))) (fun _ _ => ?_) | (with_reducible refine Ok.yes (cmp_Compare_string_ok _ _) <;> (first | assumption | omega | rw [w64_of] <;> omega)) | (with_reducible refine Ok.yes (cmp_Compare_int_ok _ _) <;> (first | assumption | omega | rw [w64_of] <;> omega)) | (with_reducible refine Ok.yes (cmp_Or_int_ok _ (Nat.le_of_ble_eq_true rfl)) <;> (first | assumption | omega | rw [w64_of] <;> omega)) | (with_reducible refine ok_bind (Q := Yes) ?_ fun _ _ => ?_) | dsimp only)
theorem flow_Check_ok (l : List api_Flow) (h : l.length ≤ 9223372036854775807) : Tot (flow_Check l) := by
 unfold flow_Check
 refine ok_bindS (Q := Yes) (ok_up l.length (by omega) fun i h1 h2 => ?_) (fun _ _ => ?_) (fun _ _ => ?_)
 ·unfold flow_Check_L1
  repeat' (first | (with_reducible first | exact ok_yes | exact ok_inrY | exact ok_inlY | refine ok_nite (fun _ => ?_) fun _ => ?_ | refine ok_ite (fun _ => ?_) fun _ => ?_ | refine ok_not (fun _ => ?_) fun _ => ?_ | refine ok_cond (fun _ => ?_) fun _ => ?_) | (with_reducible refine ok_next ?_ ?_ ?_ <;> (first | assumption | omega | rw [w64_of] <;> omega)) | with_reducible refine ok_bind (ok_idx (by (first | assumption | omega | rw [w64_of] <;> omega)) (by (first | assumption | omega | rw [w64_of] <;> omega))) (fun _ _ => ?_) | (with_reducible refine Ok.yes (flow_bad_ok _ _) <;> (first | assumption | omega | rw [w64_of] <;> omega)) | (with_reducible refine ok_bind (Q := Yes) ?_ fun _ _ => ?_) | dsimp only)
 ·repeat' (first | (with_reducible first | exact ok_yes | exact ok_inrY | exact ok_inlY | refine ok_nite (fun _ => ?_) fun _ => ?_ | refine ok_ite (fun _ => ?_) fun _ => ?_ | refine ok_not (fun _ => ?_) fun _ => ?_ | refine ok_cond (fun _ => ?_) fun _ => ?_) | (with_reducible refine ok_next ?_ ?_ ?_ <;> (first | assumption | omega | rw [w64_of] <;> omega)) | with_reducible refine ok_bind (ok_idx (by (first | assumption | omega | rw [w64_of] <;> omega)) (by (first | assumption | omega | rw [w64_of] <;> omega))) (fun _ _ => ?_) | (with_reducible refine Ok.yes (flow_bad_ok _ _) <;> (first | assumption | omega | rw [w64_of] <;> omega)) | (with_reducible refine ok_bind (Q := Yes) ?_ fun _ _ => ?_) | dsimp only)
 ·repeat' (first | (with_reducible first | exact ok_yes | exact ok_inrY | exact ok_inlY | refine ok_nite (fun _ => ?_) fun _ => ?_ | refine ok_ite (fun _ => ?_) fun _ => ?_ | refine ok_not (fun _ => ?_) fun _ => ?_ | refine ok_cond (fun _ => ?_) fun _ => ?_) | (with_reducible refine ok_next ?_ ?_ ?_ <;> (first | assumption | omega | rw [w64_of] <;> omega)) | with_reducible refine ok_bind (ok_idx (by (first | assumption | omega | rw [w64_of] <;> omega)) (by (first | assumption | omega | rw [w64_of] <;> omega))) (fun _ _ => ?_) | (with_reducible refine Ok.yes (flow_bad_ok _ _) <;> (first | assumption | omega | rw [w64_of] <;> omega)) | (with_reducible refine ok_bind (Q := Yes) ?_ fun _ _ => ?_) | dsimp only)
theorem sample_Check_ok (l : List api_Sample) (h : l.length ≤ 9223372036854775807) (hx : ∀ x ∈ l, x.fStack.length ≤ 9223372036854775807 ∧ ∀ y ∈ x.fStack, okN y) : Tot (sample_Check l) := by
 unfold sample_Check
 refine ok_bindS (Q := Yes) (ok_up l.length (by omega) fun i h1 h2 => ?_) (fun _ _ => ?_) (fun _ _ => ?_)
 ·unfold sample_Check_L1
  repeat' (first | (with_reducible first | exact ok_yes | exact ok_inrY | exact ok_inlY | refine ok_nite (fun _ => ?_) fun _ => ?_ | refine ok_ite (fun _ => ?_) fun _ => ?_ | refine ok_not (fun _ => ?_) fun _ => ?_ | refine ok_cond (fun _ => ?_) fun _ => ?_) | (with_reducible refine ok_next ?_ ?_ ?_ <;> (first | assumption | omega | rw [w64_of] <;> omega)) | with_reducible refine ok_bind (ok_idx (by (first | assumption | omega | rw [w64_of] <;> omega)) (by (first | assumption | omega | rw [w64_of] <;> omega))) (fun _ _ => ?_) | (with_reducible refine Ok.yes (sample_good_ok _) <;> (first | assumption | omega | rw [w64_of] <;> omega)) | (with_reducible refine Ok.yes (intern_Frames_ok _ (hx _ (List.mem_of_getElem? (by assumption))).1 (hx _ (List.mem_of_getElem? (by assumption))).2) <;> (first | assumption | omega | rw [w64_of] <;> omega)) | (with_reducible refine ok_bind (Q := Yes) ?_ fun _ _ => ?_) | dsimp only)
 ·repeat' (first | (with_reducible first | exact ok_yes | exact ok_inrY | exact ok_inlY | refine ok_nite (fun _ => ?_) fun _ => ?_ | refine ok_ite (fun _ => ?_) fun _ => ?_ | refine ok_not (fun _ => ?_) fun _ => ?_ | refine ok_cond (fun _ => ?_) fun _ => ?_) | (with_reducible refine ok_next ?_ ?_ ?_ <;> (first | assumption | omega | rw [w64_of] <;> omega)) | with_reducible refine ok_bind (ok_idx (by (first | assumption | omega | rw [w64_of] <;> omega)) (by (first | assumption | omega | rw [w64_of] <;> omega))) (fun _ _ => ?_) | (with_reducible refine Ok.yes (sample_good_ok _) <;> (first | assumption | omega | rw [w64_of] <;> omega)) | (with_reducible refine Ok.yes (intern_Frames_ok _ (hx _ (List.mem_of_getElem? (by assumption))).1 (hx _ (List.mem_of_getElem? (by assumption))).2) <;> (first | assumption | omega | rw [w64_of] <;> omega)) | (with_reducible refine ok_bind (Q := Yes) ?_ fun _ _ => ?_) | dsimp only)
 ·repeat' (first | (with_reducible first | exact ok_yes | exact ok_inrY | exact ok_inlY | refine ok_nite (fun _ => ?_) fun _ => ?_ | refine ok_ite (fun _ => ?_) fun _ => ?_ | refine ok_not (fun _ => ?_) fun _ => ?_ | refine ok_cond (fun _ => ?_) fun _ => ?_) | (with_reducible refine ok_next ?_ ?_ ?_ <;> (first | assumption | omega | rw [w64_of] <;> omega)) | with_reducible refine ok_bind (ok_idx (by (first | assumption | omega | rw [w64_of] <;> omega)) (by (first | assumption | omega | rw [w64_of] <;> omega))) (fun _ _ => ?_) | (with_reducible refine Ok.yes (sample_good_ok _) <;> (first | assumption | omega | rw [w64_of] <;> omega)) | (with_reducible refine Ok.yes (intern_Frames_ok _ (hx _ (List.mem_of_getElem? (by assumption))).1 (hx _ (List.mem_of_getElem? (by assumption))).2) <;> (first | assumption | omega | rw [w64_of] <;> omega)) | (with_reducible refine ok_bind (Q := Yes) ?_ fun _ _ => ?_) | dsimp only)
theorem counter_Check_ok (l : List api_Step) (h : l.length ≤ 9223372036854775807) (hx : ∀ x ∈ l, okN x.fName) : Tot (counter_Check l) := by
 unfold counter_Check
 refine ok_bindS (Q := Yes) (ok_up l.length (by omega) fun i h1 h2 => ?_) (fun _ _ => ?_) (fun _ _ => ?_)
 ·unfold counter_Check_L1
  repeat' (first | (with_reducible first | exact ok_yes | exact ok_inrY | exact ok_inlY | refine ok_nite (fun _ => ?_) fun _ => ?_ | refine ok_ite (fun _ => ?_) fun _ => ?_ | refine ok_not (fun _ => ?_) fun _ => ?_ | refine ok_cond (fun _ => ?_) fun _ => ?_) | (with_reducible refine ok_next ?_ ?_ ?_ <;> (first | assumption | omega | rw [w64_of] <;> omega)) | with_reducible refine ok_bind (ok_idx (by (first | assumption | omega | rw [w64_of] <;> omega)) (by (first | assumption | omega | rw [w64_of] <;> omega))) (fun _ _ => ?_) | (with_reducible refine Ok.yes (num_In_ok _) <;> (first | assumption | omega | rw [w64_of] <;> omega)) | (with_reducible refine Ok.yes (counter_order_ok _ _) <;> (first | assumption | omega | rw [w64_of] <;> omega)) | (with_reducible refine Ok.yes (intern_Name_ok _ (hx _ (List.mem_of_getElem? (by assumption)))) <;> (first | assumption | omega | rw [w64_of] <;> omega)) | (with_reducible refine ok_bind (Q := Yes) ?_ fun _ _ => ?_) | dsimp only)
 ·repeat' (first | (with_reducible first | exact ok_yes | exact ok_inrY | exact ok_inlY | refine ok_nite (fun _ => ?_) fun _ => ?_ | refine ok_ite (fun _ => ?_) fun _ => ?_ | refine ok_not (fun _ => ?_) fun _ => ?_ | refine ok_cond (fun _ => ?_) fun _ => ?_) | (with_reducible refine ok_next ?_ ?_ ?_ <;> (first | assumption | omega | rw [w64_of] <;> omega)) | with_reducible refine ok_bind (ok_idx (by (first | assumption | omega | rw [w64_of] <;> omega)) (by (first | assumption | omega | rw [w64_of] <;> omega))) (fun _ _ => ?_) | (with_reducible refine Ok.yes (num_In_ok _) <;> (first | assumption | omega | rw [w64_of] <;> omega)) | (with_reducible refine Ok.yes (counter_order_ok _ _) <;> (first | assumption | omega | rw [w64_of] <;> omega)) | (with_reducible refine Ok.yes (intern_Name_ok _ (hx _ (List.mem_of_getElem? (by assumption)))) <;> (first | assumption | omega | rw [w64_of] <;> omega)) | (with_reducible refine ok_bind (Q := Yes) ?_ fun _ _ => ?_) | dsimp only)
 ·repeat' (first | (with_reducible first | exact ok_yes | exact ok_inrY | exact ok_inlY | refine ok_nite (fun _ => ?_) fun _ => ?_ | refine ok_ite (fun _ => ?_) fun _ => ?_ | refine ok_not (fun _ => ?_) fun _ => ?_ | refine ok_cond (fun _ => ?_) fun _ => ?_) | (with_reducible refine ok_next ?_ ?_ ?_ <;> (first | assumption | omega | rw [w64_of] <;> omega)) | with_reducible refine ok_bind (ok_idx (by (first | assumption | omega | rw [w64_of] <;> omega)) (by (first | assumption | omega | rw [w64_of] <;> omega))) (fun _ _ => ?_) | (with_reducible refine Ok.yes (num_In_ok _) <;> (first | assumption | omega | rw [w64_of] <;> omega)) | (with_reducible refine Ok.yes (counter_order_ok _ _) <;> (first | assumption | omega | rw [w64_of] <;> omega)) | (with_reducible refine Ok.yes (intern_Name_ok _ (hx _ (List.mem_of_getElem? (by assumption)))) <;> (first | assumption | omega | rw [w64_of] <;> omega)) | (with_reducible refine ok_bind (Q := Yes) ?_ fun _ _ => ?_) | dsimp only)
theorem trace_within_ok (a b) : Tot (trace_within a b) := by
 unfold trace_within
 repeat' (first | (with_reducible first | exact ok_yes | exact ok_inrY | exact ok_inlY | refine ok_nite (fun _ => ?_) fun _ => ?_ | refine ok_ite (fun _ => ?_) fun _ => ?_ | refine ok_not (fun _ => ?_) fun _ => ?_ | refine ok_cond (fun _ => ?_) fun _ => ?_) | (with_reducible refine ok_next ?_ ?_ ?_ <;> (first | assumption | omega | rw [w64_of] <;> omega)) | with_reducible refine ok_bind (ok_idx (by (first | assumption | omega | rw [w64_of] <;> omega)) (by (first | assumption | omega | rw [w64_of] <;> omega))) (fun _ _ => ?_) | (with_reducible refine ok_bind (Q := Yes) ?_ fun _ _ => ?_) | dsimp only)
theorem trace_inside_ok (a b) : Tot (trace_inside a b) := by
 unfold trace_inside
 repeat' (first | (with_reducible first | exact ok_yes | exact ok_inrY | exact ok_inlY | refine ok_nite (fun _ => ?_) fun _ => ?_ | refine ok_ite (fun _ => ?_) fun _ => ?_ | refine ok_not (fun _ => ?_) fun _ => ?_ | refine ok_cond (fun _ => ?_) fun _ => ?_) | (with_reducible refine ok_next ?_ ?_ ?_ <;> (first | assumption | omega | rw [w64_of] <;> omega)) | with_reducible refine ok_bind (ok_idx (by (first | assumption | omega | rw [w64_of] <;> omega)) (by (first | assumption | omega | rw [w64_of] <;> omega))) (fun _ _ => ?_) | (with_reducible refine ok_bind (Q := Yes) ?_ fun _ _ => ?_) | dsimp only)
theorem trace_outside_1_k1_ok (a b) : Tot (trace_outside_1_k1 a b) := by
 unfold trace_outside_1_k1
 repeat' (first | (with_reducible first | exact ok_yes | exact ok_inrY | exact ok_inlY | refine ok_nite (fun _ => ?_) fun _ => ?_ | refine ok_ite (fun _ => ?_) fun _ => ?_ | refine ok_not (fun _ => ?_) fun _ => ?_ | refine ok_cond (fun _ => ?_) fun _ => ?_) | (with_reducible refine ok_next ?_ ?_ ?_ <;> (first | assumption | omega | rw [w64_of] <;> omega)) | with_reducible refine ok_bind (ok_idx (by (first | assumption | omega | rw [w64_of] <;> omega)) (by (first | assumption | omega | rw [w64_of] <;> omega))) (fun _ _ => ?_) | (with_reducible refine Ok.yes (trace_within_ok _ _) <;> (first | assumption | omega | rw [w64_of] <;> omega)) | (with_reducible refine Ok.yes (trace_inside_ok _ _) <;> (first | assumption | omega | rw [w64_of] <;> omega)) | (with_reducible refine ok_bind (Q := Yes) ?_ fun _ _ => ?_) | dsimp only)
theorem slices_ContainsFunc_api_Slice_api_Slice_k1_ok (l : List api_Slice) (a) (h : l.length ≤ 9223372036854775807) : Tot (slices_ContainsFunc_api_Slice_api_Slice_k1 l a) := by
 unfold slices_ContainsFunc_api_Slice_api_Slice_k1
 refine ok_bind (Q := Yes) ?_ (fun _ _ => ok_yes)
 unfold slices_IndexFunc_api_Slice_api_Slice_k1
 refine ok_bindS (Q := Yes) (ok_up l.length (by omega) fun i h1 h2 => ?_) (fun _ _ => ?_) (fun _ _ => ?_)
 ·unfold slices_IndexFunc_api_Slice_api_Slice_k1_L1
  repeat' (first | (with_reducible first | exact ok_yes | exact ok_inrY | exact ok_inlY | refine ok_nite (fun _ => ?_) fun _ => ?_ | refine ok_ite (fun _ => ?_) fun _ => ?_ | refine ok_not (fun _ => ?_) fun _ => ?_ | refine ok_cond (fun _ => ?_) fun _ => ?_) | (with_reducible refine ok_next ?_ ?_ ?_ <;> (first | assumption | omega | rw [w64_of] <;> omega)) | with_reducible refine ok_bind (ok_idx (by (first | assumption | omega | rw [w64_of] <;> omega)) (by (first | assumption | omega | rw [w64_of] <;> omega))) (fun _ _ => ?_) | (with_reducible refine Ok.yes (trace_outside_1_k1_ok _ _) <;> (first | assumption | omega | rw [w64_of] <;> omega)) | (with_reducible refine ok_bind (Q := Yes) ?_ fun _ _ => ?_) | dsimp only)
 ·repeat' (first | (with_reducible first | exact ok_yes | exact ok_inrY | exact ok_inlY | refine ok_nite (fun _ => ?_) fun _ => ?_ | refine ok_ite (fun _ => ?_) fun _ => ?_ | refine ok_not (fun _ => ?_) fun _ => ?_ | refine ok_cond (fun _ => ?_) fun _ => ?_) | (with_reducible refine ok_next ?_ ?_ ?_ <;> (first | assumption | omega | rw [w64_of] <;> omega)) | with_reducible refine ok_bind (ok_idx (by (first | assumption | omega | rw [w64_of] <;> omega)) (by (first | assumption | omega | rw [w64_of] <;> omega))) (fun _ _ => ?_) | (with_reducible refine Ok.yes (trace_outside_1_k1_ok _ _) <;> (first | assumption | omega | rw [w64_of] <;> omega)) | (with_reducible refine ok_bind (Q := Yes) ?_ fun _ _ => ?_) | dsimp only)
 ·repeat' (first | (with_reducible first | exact ok_yes | exact ok_inrY | exact ok_inlY | refine ok_nite (fun _ => ?_) fun _ => ?_ | refine ok_ite (fun _ => ?_) fun _ => ?_ | refine ok_not (fun _ => ?_) fun _ => ?_ | refine ok_cond (fun _ => ?_) fun _ => ?_) | (with_reducible refine ok_next ?_ ?_ ?_ <;> (first | assumption | omega | rw [w64_of] <;> omega)) | with_reducible refine ok_bind (ok_idx (by (first | assumption | omega | rw [w64_of] <;> omega)) (by (first | assumption | omega | rw [w64_of] <;> omega))) (fun _ _ => ?_) | (with_reducible refine Ok.yes (trace_outside_1_k1_ok _ _) <;> (first | assumption | omega | rw [w64_of] <;> omega)) | (with_reducible refine ok_bind (Q := Yes) ?_ fun _ _ => ?_) | dsimp only)
theorem trace_outside_2_k1_ok (a b) : Tot (trace_outside_2_k1 a b) := by
 unfold trace_outside_2_k1
 repeat' (first | (with_reducible first | exact ok_yes | exact ok_inrY | exact ok_inlY | refine ok_nite (fun _ => ?_) fun _ => ?_ | refine ok_ite (fun _ => ?_) fun _ => ?_ | refine ok_not (fun _ => ?_) fun _ => ?_ | refine ok_cond (fun _ => ?_) fun _ => ?_) | (with_reducible refine ok_next ?_ ?_ ?_ <;> (first | assumption | omega | rw [w64_of] <;> omega)) | with_reducible refine ok_bind (ok_idx (by (first | assumption | omega | rw [w64_of] <;> omega)) (by (first | assumption | omega | rw [w64_of] <;> omega))) (fun _ _ => ?_) | (with_reducible refine Ok.yes (trace_within_ok _ _) <;> (first | assumption | omega | rw [w64_of] <;> omega)) | (with_reducible refine Ok.yes (trace_inside_ok _ _) <;> (first | assumption | omega | rw [w64_of] <;> omega)) | (with_reducible refine ok_bind (Q := Yes) ?_ fun _ _ => ?_) | dsimp only)
theorem slices_ContainsFunc_api_State_api_State_k1_ok (l : List api_State) (a) (h : l.length ≤ 9223372036854775807) : Tot (slices_ContainsFunc_api_State_api_State_k1 l a) := by
 unfold slices_ContainsFunc_api_State_api_State_k1
 refine ok_bind (Q := Yes) ?_ (fun _ _ => ok_yes)
 unfold slices_IndexFunc_api_State_api_State_k1
 refine ok_bindS (Q := Yes) (ok_up l.length (by omega) fun i h1 h2 => ?_) (fun _ _ => ?_) (fun _ _ => ?_)
 ·unfold slices_IndexFunc_api_State_api_State_k1_L1
  repeat' (first | (with_reducible first | exact ok_yes | exact ok_inrY | exact ok_inlY | refine ok_nite (fun _ => ?_) fun _ => ?_ | refine ok_ite (fun _ => ?_) fun _ => ?_ | refine ok_not (fun _ => ?_) fun _ => ?_ | refine ok_cond (fun _ => ?_) fun _ => ?_) | (with_reducible refine ok_next ?_ ?_ ?_ <;> (first | assumption | omega | rw [w64_of] <;> omega)) | with_reducible refine ok_bind (ok_idx (by (first | assumption | omega | rw [w64_of] <;> omega)) (by (first | assumption | omega | rw [w64_of] <;> omega))) (fun _ _ => ?_) | (with_reducible refine Ok.yes (trace_outside_2_k1_ok _ _) <;> (first | assumption | omega | rw [w64_of] <;> omega)) | (with_reducible refine ok_bind (Q := Yes) ?_ fun _ _ => ?_) | dsimp only)
 ·repeat' (first | (with_reducible first | exact ok_yes | exact ok_inrY | exact ok_inlY | refine ok_nite (fun _ => ?_) fun _ => ?_ | refine ok_ite (fun _ => ?_) fun _ => ?_ | refine ok_not (fun _ => ?_) fun _ => ?_ | refine ok_cond (fun _ => ?_) fun _ => ?_) | (with_reducible refine ok_next ?_ ?_ ?_ <;> (first | assumption | omega | rw [w64_of] <;> omega)) | with_reducible refine ok_bind (ok_idx (by (first | assumption | omega | rw [w64_of] <;> omega)) (by (first | assumption | omega | rw [w64_of] <;> omega))) (fun _ _ => ?_) | (with_reducible refine Ok.yes (trace_outside_2_k1_ok _ _) <;> (first | assumption | omega | rw [w64_of] <;> omega)) | (with_reducible refine ok_bind (Q := Yes) ?_ fun _ _ => ?_) | dsimp only)
 ·repeat' (first | (with_reducible first | exact ok_yes | exact ok_inrY | exact ok_inlY | refine ok_nite (fun _ => ?_) fun _ => ?_ | refine ok_ite (fun _ => ?_) fun _ => ?_ | refine ok_not (fun _ => ?_) fun _ => ?_ | refine ok_cond (fun _ => ?_) fun _ => ?_) | (with_reducible refine ok_next ?_ ?_ ?_ <;> (first | assumption | omega | rw [w64_of] <;> omega)) | with_reducible refine ok_bind (ok_idx (by (first | assumption | omega | rw [w64_of] <;> omega)) (by (first | assumption | omega | rw [w64_of] <;> omega))) (fun _ _ => ?_) | (with_reducible refine Ok.yes (trace_outside_2_k1_ok _ _) <;> (first | assumption | omega | rw [w64_of] <;> omega)) | (with_reducible refine ok_bind (Q := Yes) ?_ fun _ _ => ?_) | dsimp only)
theorem trace_outside_3_k1_ok (a b) : Tot (trace_outside_3_k1 a b) := by
 unfold trace_outside_3_k1
 repeat' (first | (with_reducible first | exact ok_yes | exact ok_inrY | exact ok_inlY | refine ok_nite (fun _ => ?_) fun _ => ?_ | refine ok_ite (fun _ => ?_) fun _ => ?_ | refine ok_not (fun _ => ?_) fun _ => ?_ | refine ok_cond (fun _ => ?_) fun _ => ?_) | (with_reducible refine ok_next ?_ ?_ ?_ <;> (first | assumption | omega | rw [w64_of] <;> omega)) | with_reducible refine ok_bind (ok_idx (by (first | assumption | omega | rw [w64_of] <;> omega)) (by (first | assumption | omega | rw [w64_of] <;> omega))) (fun _ _ => ?_) | (with_reducible refine Ok.yes (trace_within_ok _ _) <;> (first | assumption | omega | rw [w64_of] <;> omega)) | (with_reducible refine Ok.yes (trace_inside_ok _ _) <;> (first | assumption | omega | rw [w64_of] <;> omega)) | (with_reducible refine ok_bind (Q := Yes) ?_ fun _ _ => ?_) | dsimp only)
theorem slices_ContainsFunc_api_Block_api_Block_k1_ok (l : List api_Block) (a) (h : l.length ≤ 9223372036854775807) : Tot (slices_ContainsFunc_api_Block_api_Block_k1 l a) := by
 unfold slices_ContainsFunc_api_Block_api_Block_k1
 refine ok_bind (Q := Yes) ?_ (fun _ _ => ok_yes)
 unfold slices_IndexFunc_api_Block_api_Block_k1
 refine ok_bindS (Q := Yes) (ok_up l.length (by omega) fun i h1 h2 => ?_) (fun _ _ => ?_) (fun _ _ => ?_)
 ·unfold slices_IndexFunc_api_Block_api_Block_k1_L1
  repeat' (first | (with_reducible first | exact ok_yes | exact ok_inrY | exact ok_inlY | refine ok_nite (fun _ => ?_) fun _ => ?_ | refine ok_ite (fun _ => ?_) fun _ => ?_ | refine ok_not (fun _ => ?_) fun _ => ?_ | refine ok_cond (fun _ => ?_) fun _ => ?_) | (with_reducible refine ok_next ?_ ?_ ?_ <;> (first | assumption | omega | rw [w64_of] <;> omega)) | with_reducible refine ok_bind (ok_idx (by (first | assumption | omega | rw [w64_of] <;> omega)) (by (first | assumption | omega | rw [w64_of] <;> omega))) (fun _ _ => ?_) | (with_reducible refine Ok.yes (trace_outside_3_k1_ok _ _) <;> (first | assumption | omega | rw [w64_of] <;> omega)) | (with_reducible refine ok_bind (Q := Yes) ?_ fun _ _ => ?_) | dsimp only)
 ·repeat' (first | (with_reducible first | exact ok_yes | exact ok_inrY | exact ok_inlY | refine ok_nite (fun _ => ?_) fun _ => ?_ | refine ok_ite (fun _ => ?_) fun _ => ?_ | refine ok_not (fun _ => ?_) fun _ => ?_ | refine ok_cond (fun _ => ?_) fun _ => ?_) | (with_reducible refine ok_next ?_ ?_ ?_ <;> (first | assumption | omega | rw [w64_of] <;> omega)) | with_reducible refine ok_bind (ok_idx (by (first | assumption | omega | rw [w64_of] <;> omega)) (by (first | assumption | omega | rw [w64_of] <;> omega))) (fun _ _ => ?_) | (with_reducible refine Ok.yes (trace_outside_3_k1_ok _ _) <;> (first | assumption | omega | rw [w64_of] <;> omega)) | (with_reducible refine ok_bind (Q := Yes) ?_ fun _ _ => ?_) | dsimp only)
 ·repeat' (first | (with_reducible first | exact ok_yes | exact ok_inrY | exact ok_inlY | refine ok_nite (fun _ => ?_) fun _ => ?_ | refine ok_ite (fun _ => ?_) fun _ => ?_ | refine ok_not (fun _ => ?_) fun _ => ?_ | refine ok_cond (fun _ => ?_) fun _ => ?_) | (with_reducible refine ok_next ?_ ?_ ?_ <;> (first | assumption | omega | rw [w64_of] <;> omega)) | with_reducible refine ok_bind (ok_idx (by (first | assumption | omega | rw [w64_of] <;> omega)) (by (first | assumption | omega | rw [w64_of] <;> omega))) (fun _ _ => ?_) | (with_reducible refine Ok.yes (trace_outside_3_k1_ok _ _) <;> (first | assumption | omega | rw [w64_of] <;> omega)) | (with_reducible refine ok_bind (Q := Yes) ?_ fun _ _ => ?_) | dsimp only)
theorem trace_outside_4_k1_ok (a b) : Tot (trace_outside_4_k1 a b) := by
 unfold trace_outside_4_k1
 repeat' (first | (with_reducible first | exact ok_yes | exact ok_inrY | exact ok_inlY | refine ok_nite (fun _ => ?_) fun _ => ?_ | refine ok_ite (fun _ => ?_) fun _ => ?_ | refine ok_not (fun _ => ?_) fun _ => ?_ | refine ok_cond (fun _ => ?_) fun _ => ?_) | (with_reducible refine ok_next ?_ ?_ ?_ <;> (first | assumption | omega | rw [w64_of] <;> omega)) | with_reducible refine ok_bind (ok_idx (by (first | assumption | omega | rw [w64_of] <;> omega)) (by (first | assumption | omega | rw [w64_of] <;> omega))) (fun _ _ => ?_) | (with_reducible refine Ok.yes (trace_within_ok _ _) <;> (first | assumption | omega | rw [w64_of] <;> omega)) | (with_reducible refine Ok.yes (trace_inside_ok _ _) <;> (first | assumption | omega | rw [w64_of] <;> omega)) | (with_reducible refine ok_bind (Q := Yes) ?_ fun _ _ => ?_) | dsimp only)
theorem slices_ContainsFunc_api_Flow_api_Flow_k1_ok (l : List api_Flow) (a) (h : l.length ≤ 9223372036854775807) : Tot (slices_ContainsFunc_api_Flow_api_Flow_k1 l a) := by
 unfold slices_ContainsFunc_api_Flow_api_Flow_k1
 refine ok_bind (Q := Yes) ?_ (fun _ _ => ok_yes)
 unfold slices_IndexFunc_api_Flow_api_Flow_k1
 refine ok_bindS (Q := Yes) (ok_up l.length (by omega) fun i h1 h2 => ?_) (fun _ _ => ?_) (fun _ _ => ?_)
 ·unfold slices_IndexFunc_api_Flow_api_Flow_k1_L1
  repeat' (first | (with_reducible first | exact ok_yes | exact ok_inrY | exact ok_inlY | refine ok_nite (fun _ => ?_) fun _ => ?_ | refine ok_ite (fun _ => ?_) fun _ => ?_ | refine ok_not (fun _ => ?_) fun _ => ?_ | refine ok_cond (fun _ => ?_) fun _ => ?_) | (with_reducible refine ok_next ?_ ?_ ?_ <;> (first | assumption | omega | rw [w64_of] <;> omega)) | with_reducible refine ok_bind (ok_idx (by (first | assumption | omega | rw [w64_of] <;> omega)) (by (first | assumption | omega | rw [w64_of] <;> omega))) (fun _ _ => ?_) | (with_reducible refine Ok.yes (trace_outside_4_k1_ok _ _) <;> (first | assumption | omega | rw [w64_of] <;> omega)) | (with_reducible refine ok_bind (Q := Yes) ?_ fun _ _ => ?_) | dsimp only)
 ·repeat' (first | (with_reducible first | exact ok_yes | exact ok_inrY | exact ok_inlY | refine ok_nite (fun _ => ?_) fun _ => ?_ | refine ok_ite (fun _ => ?_) fun _ => ?_ | refine ok_not (fun _ => ?_) fun _ => ?_ | refine ok_cond (fun _ => ?_) fun _ => ?_) | (with_reducible refine ok_next ?_ ?_ ?_ <;> (first | assumption | omega | rw [w64_of] <;> omega)) | with_reducible refine ok_bind (ok_idx (by (first | assumption | omega | rw [w64_of] <;> omega)) (by (first | assumption | omega | rw [w64_of] <;> omega))) (fun _ _ => ?_) | (with_reducible refine Ok.yes (trace_outside_4_k1_ok _ _) <;> (first | assumption | omega | rw [w64_of] <;> omega)) | (with_reducible refine ok_bind (Q := Yes) ?_ fun _ _ => ?_) | dsimp only)
 ·repeat' (first | (with_reducible first | exact ok_yes | exact ok_inrY | exact ok_inlY | refine ok_nite (fun _ => ?_) fun _ => ?_ | refine ok_ite (fun _ => ?_) fun _ => ?_ | refine ok_not (fun _ => ?_) fun _ => ?_ | refine ok_cond (fun _ => ?_) fun _ => ?_) | (with_reducible refine ok_next ?_ ?_ ?_ <;> (first | assumption | omega | rw [w64_of] <;> omega)) | with_reducible refine ok_bind (ok_idx (by (first | assumption | omega | rw [w64_of] <;> omega)) (by (first | assumption | omega | rw [w64_of] <;> omega))) (fun _ _ => ?_) | (with_reducible refine Ok.yes (trace_outside_4_k1_ok _ _) <;> (first | assumption | omega | rw [w64_of] <;> omega)) | (with_reducible refine ok_bind (Q := Yes) ?_ fun _ _ => ?_) | dsimp only)
theorem trace_outside_5_k1_ok (a b) : Tot (trace_outside_5_k1 a b) := by
 unfold trace_outside_5_k1
 repeat' (first | (with_reducible first | exact ok_yes | exact ok_inrY | exact ok_inlY | refine ok_nite (fun _ => ?_) fun _ => ?_ | refine ok_ite (fun _ => ?_) fun _ => ?_ | refine ok_not (fun _ => ?_) fun _ => ?_ | refine ok_cond (fun _ => ?_) fun _ => ?_) | (with_reducible refine ok_next ?_ ?_ ?_ <;> (first | assumption | omega | rw [w64_of] <;> omega)) | with_reducible refine ok_bind (ok_idx (by (first | assumption | omega | rw [w64_of] <;> omega)) (by (first | assumption | omega | rw [w64_of] <;> omega))) (fun _ _ => ?_) | (with_reducible refine Ok.yes (trace_within_ok _ _) <;> (first | assumption | omega | rw [w64_of] <;> omega)) | (with_reducible refine Ok.yes (trace_inside_ok _ _) <;> (first | assumption | omega | rw [w64_of] <;> omega)) | (with_reducible refine ok_bind (Q := Yes) ?_ fun _ _ => ?_) | dsimp only)
theorem slices_ContainsFunc_api_Sample_api_Sample_k1_ok (l : List api_Sample) (a) (h : l.length ≤ 9223372036854775807) : Tot (slices_ContainsFunc_api_Sample_api_Sample_k1 l a) := by
 unfold slices_ContainsFunc_api_Sample_api_Sample_k1
 refine ok_bind (Q := Yes) ?_ (fun _ _ => ok_yes)
 unfold slices_IndexFunc_api_Sample_api_Sample_k1
 refine ok_bindS (Q := Yes) (ok_up l.length (by omega) fun i h1 h2 => ?_) (fun _ _ => ?_) (fun _ _ => ?_)
 ·unfold slices_IndexFunc_api_Sample_api_Sample_k1_L1
  repeat' (first | (with_reducible first | exact ok_yes | exact ok_inrY | exact ok_inlY | refine ok_nite (fun _ => ?_) fun _ => ?_ | refine ok_ite (fun _ => ?_) fun _ => ?_ | refine ok_not (fun _ => ?_) fun _ => ?_ | refine ok_cond (fun _ => ?_) fun _ => ?_) | (with_reducible refine ok_next ?_ ?_ ?_ <;> (first | assumption | omega | rw [w64_of] <;> omega)) | with_reducible refine ok_bind (ok_idx (by (first | assumption | omega | rw [w64_of] <;> omega)) (by (first | assumption | omega | rw [w64_of] <;> omega))) (fun _ _ => ?_) | (with_reducible refine Ok.yes (trace_outside_5_k1_ok _ _) <;> (first | assumption | omega | rw [w64_of] <;> omega)) | (with_reducible refine ok_bind (Q := Yes) ?_ fun _ _ => ?_) | dsimp only)
 ·repeat' (first | (with_reducible first | exact ok_yes | exact ok_inrY | exact ok_inlY | refine ok_nite (fun _ => ?_) fun _ => ?_ | refine ok_ite (fun _ => ?_) fun _ => ?_ | refine ok_not (fun _ => ?_) fun _ => ?_ | refine ok_cond (fun _ => ?_) fun _ => ?_) | (with_reducible refine ok_next ?_ ?_ ?_ <;> (first | assumption | omega | rw [w64_of] <;> omega)) | with_reducible refine ok_bind (ok_idx (by (first | assumption | omega | rw [w64_of] <;> omega)) (by (first | assumption | omega | rw [w64_of] <;> omega))) (fun _ _ => ?_) | (with_reducible refine Ok.yes (trace_outside_5_k1_ok _ _) <;> (first | assumption | omega | rw [w64_of] <;> omega)) | (with_reducible refine ok_bind (Q := Yes) ?_ fun _ _ => ?_) | dsimp only)
 ·repeat' (first | (with_reducible first | exact ok_yes | exact ok_inrY | exact ok_inlY | refine ok_nite (fun _ => ?_) fun _ => ?_ | refine ok_ite (fun _ => ?_) fun _ => ?_ | refine ok_not (fun _ => ?_) fun _ => ?_ | refine ok_cond (fun _ => ?_) fun _ => ?_) | (with_reducible refine ok_next ?_ ?_ ?_ <;> (first | assumption | omega | rw [w64_of] <;> omega)) | with_reducible refine ok_bind (ok_idx (by (first | assumption | omega | rw [w64_of] <;> omega)) (by (first | assumption | omega | rw [w64_of] <;> omega))) (fun _ _ => ?_) | (with_reducible refine Ok.yes (trace_outside_5_k1_ok _ _) <;> (first | assumption | omega | rw [w64_of] <;> omega)) | (with_reducible refine ok_bind (Q := Yes) ?_ fun _ _ => ?_) | dsimp only)
theorem trace_outside_6_k1_ok (a b) : Tot (trace_outside_6_k1 a b) := by
 unfold trace_outside_6_k1
 repeat' (first | (with_reducible first | exact ok_yes | exact ok_inrY | exact ok_inlY | refine ok_nite (fun _ => ?_) fun _ => ?_ | refine ok_ite (fun _ => ?_) fun _ => ?_ | refine ok_not (fun _ => ?_) fun _ => ?_ | refine ok_cond (fun _ => ?_) fun _ => ?_) | (with_reducible refine ok_next ?_ ?_ ?_ <;> (first | assumption | omega | rw [w64_of] <;> omega)) | with_reducible refine ok_bind (ok_idx (by (first | assumption | omega | rw [w64_of] <;> omega)) (by (first | assumption | omega | rw [w64_of] <;> omega))) (fun _ _ => ?_) | (with_reducible refine Ok.yes (trace_within_ok _ _) <;> (first | assumption | omega | rw [w64_of] <;> omega)) | (with_reducible refine Ok.yes (trace_inside_ok _ _) <;> (first | assumption | omega | rw [w64_of] <;> omega)) | (with_reducible refine ok_bind (Q := Yes) ?_ fun _ _ => ?_) | dsimp only)
theorem slices_ContainsFunc_api_Step_api_Step_k1_ok (l : List api_Step) (a) (h : l.length ≤ 9223372036854775807) : Tot (slices_ContainsFunc_api_Step_api_Step_k1 l a) := by
 unfold slices_ContainsFunc_api_Step_api_Step_k1
 refine ok_bind (Q := Yes) ?_ (fun _ _ => ok_yes)
 unfold slices_IndexFunc_api_Step_api_Step_k1
 refine ok_bindS (Q := Yes) (ok_up l.length (by omega) fun i h1 h2 => ?_) (fun _ _ => ?_) (fun _ _ => ?_)
 ·unfold slices_IndexFunc_api_Step_api_Step_k1_L1
  repeat' (first | (with_reducible first | exact ok_yes | exact ok_inrY | exact ok_inlY | refine ok_nite (fun _ => ?_) fun _ => ?_ | refine ok_ite (fun _ => ?_) fun _ => ?_ | refine ok_not (fun _ => ?_) fun _ => ?_ | refine ok_cond (fun _ => ?_) fun _ => ?_) | (with_reducible refine ok_next ?_ ?_ ?_ <;> (first | assumption | omega | rw [w64_of] <;> omega)) | with_reducible refine ok_bind (ok_idx (by (first | assumption | omega | rw [w64_of] <;> omega)) (by (first | assumption | omega | rw [w64_of] <;> omega))) (fun _ _ => ?_) | (with_reducible refine Ok.yes (trace_outside_6_k1_ok _ _) <;> (first | assumption | omega | rw [w64_of] <;> omega)) | (with_reducible refine ok_bind (Q := Yes) ?_ fun _ _ => ?_) | dsimp only)
 ·repeat' (first | (with_reducible first | exact ok_yes | exact ok_inrY | exact ok_inlY | refine ok_nite (fun _ => ?_) fun _ => ?_ | refine ok_ite (fun _ => ?_) fun _ => ?_ | refine ok_not (fun _ => ?_) fun _ => ?_ | refine ok_cond (fun _ => ?_) fun _ => ?_) | (with_reducible refine ok_next ?_ ?_ ?_ <;> (first | assumption | omega | rw [w64_of] <;> omega)) | with_reducible refine ok_bind (ok_idx (by (first | assumption | omega | rw [w64_of] <;> omega)) (by (first | assumption | omega | rw [w64_of] <;> omega))) (fun _ _ => ?_) | (with_reducible refine Ok.yes (trace_outside_6_k1_ok _ _) <;> (first | assumption | omega | rw [w64_of] <;> omega)) | (with_reducible refine ok_bind (Q := Yes) ?_ fun _ _ => ?_) | dsimp only)
 ·repeat' (first | (with_reducible first | exact ok_yes | exact ok_inrY | exact ok_inlY | refine ok_nite (fun _ => ?_) fun _ => ?_ | refine ok_ite (fun _ => ?_) fun _ => ?_ | refine ok_not (fun _ => ?_) fun _ => ?_ | refine ok_cond (fun _ => ?_) fun _ => ?_) | (with_reducible refine ok_next ?_ ?_ ?_ <;> (first | assumption | omega | rw [w64_of] <;> omega)) | with_reducible refine ok_bind (ok_idx (by (first | assumption | omega | rw [w64_of] <;> omega)) (by (first | assumption | omega | rw [w64_of] <;> omega))) (fun _ _ => ?_) | (with_reducible refine Ok.yes (trace_outside_6_k1_ok _ _) <;> (first | assumption | omega | rw [w64_of] <;> omega)) | (with_reducible refine ok_bind (Q := Yes) ?_ fun _ _ => ?_) | dsimp only)
theorem trace_outside_ok (t : api_Trace) (h : Siz t) : Tot (trace_outside t) := by
 unfold trace_outside
 repeat' (first | (with_reducible first | exact ok_yes | exact ok_inrY | exact ok_inlY | refine ok_nite (fun _ => ?_) fun _ => ?_ | refine ok_ite (fun _ => ?_) fun _ => ?_ | refine ok_not (fun _ => ?_) fun _ => ?_ | refine ok_cond (fun _ => ?_) fun _ => ?_) | (with_reducible refine ok_next ?_ ?_ ?_ <;> (first | assumption | omega | rw [w64_of] <;> omega)) | with_reducible refine ok_bind (ok_idx (by (first | assumption | omega | rw [w64_of] <;> omega)) (by (first | assumption | omega | rw [w64_of] <;> omega))) (fun _ _ => ?_) | (with_reducible refine Ok.yes (slices_ContainsFunc_api_Slice_api_Slice_k1_ok _ _ h.sl) <;> (first | assumption | omega | rw [w64_of] <;> omega)) | (with_reducible refine Ok.yes (slices_ContainsFunc_api_State_api_State_k1_ok _ _ h.st) <;> (first | assumption | omega | rw [w64_of] <;> omega)) | (with_reducible refine Ok.yes (slices_ContainsFunc_api_Block_api_Block_k1_ok _ _ h.bl) <;> (first | assumption | omega | rw [w64_of] <;> omega)) | (with_reducible refine Ok.yes (slices_ContainsFunc_api_Flow_api_Flow_k1_ok _ _ h.fl) <;> (first | assumption | omega | rw [w64_of] <;> omega)) | (with_reducible refine Ok.yes (slices_ContainsFunc_api_Sample_api_Sample_k1_ok _ _ h.sa) <;> (first | assumption | omega | rw [w64_of] <;> omega)) | (with_reducible refine Ok.yes (slices_ContainsFunc_api_Step_api_Step_k1_ok _ _ h.sp) <;> (first | assumption | omega | rw [w64_of] <;> omega)) | (with_reducible refine ok_bind (Q := Yes) ?_ fun _ _ => ?_) | dsimp only)
theorem slices_Index_int_int_ok (l : List Int) (a : Int) (h : l.length ≤ 9223372036854775807) : Tot (slices_Index_int_int l a) := by
 unfold slices_Index_int_int
 refine ok_bindS (Q := Yes) (ok_up l.length (by omega) fun i h1 h2 => ?_) (fun _ _ => ?_) (fun _ _ => ?_)
 ·unfold slices_Index_int_int_L1
  repeat' (first | (with_reducible first | exact ok_yes | exact ok_inrY | exact ok_inlY | refine ok_nite (fun _ => ?_) fun _ => ?_ | refine ok_ite (fun _ => ?_) fun _ => ?_ | refine ok_not (fun _ => ?_) fun _ => ?_ | refine ok_cond (fun _ => ?_) fun _ => ?_) | (with_reducible refine ok_next ?_ ?_ ?_ <;> (first | assumption | omega | rw [w64_of] <;> omega)) | with_reducible refine ok_bind (ok_idx (by (first | assumption | omega | rw [w64_of] <;> omega)) (by (first | assumption | omega | rw [w64_of] <;> omega))) (fun _ _ => ?_) | (with_reducible refine ok_bind (Q := Yes) ?_ fun _ _ => ?_) | dsimp only)
 ·repeat' (first | (with_reducible first | exact ok_yes | exact ok_inrY | exact ok_inlY | refine ok_nite (fun _ => ?_) fun _ => ?_ | refine ok_ite (fun _ => ?_) fun _ => ?_ | refine ok_not (fun _ => ?_) fun _ => ?_ | refine ok_cond (fun _ => ?_) fun _ => ?_) | (with_reducible refine ok_next ?_ ?_ ?_ <;> (first | assumption | omega | rw [w64_of] <;> omega)) | with_reducible refine ok_bind (ok_idx (by (first | assumption | omega | rw [w64_of] <;> omega)) (by (first | assumption | omega | rw [w64_of] <;> omega))) (fun _ _ => ?_) | (with_reducible refine ok_bind (Q := Yes) ?_ fun _ _ => ?_) | dsimp only)
 ·repeat' (first | (with_reducible first | exact ok_yes | exact ok_inrY | exact ok_inlY | refine ok_nite (fun _ => ?_) fun _ => ?_ | refine ok_ite (fun _ => ?_) fun _ => ?_ | refine ok_not (fun _ => ?_) fun _ => ?_ | refine ok_cond (fun _ => ?_) fun _ => ?_) | (with_reducible refine ok_next ?_ ?_ ?_ <;> (first | assumption | omega | rw [w64_of] <;> omega)) | with_reducible refine ok_bind (ok_idx (by (first | assumption | omega | rw [w64_of] <;> omega)) (by (first | assumption | omega | rw [w64_of] <;> omega))) (fun _ _ => ?_) | (with_reducible refine ok_bind (Q := Yes) ?_ fun _ _ => ?_) | dsimp only)
theorem slices_Contains_int_int_ok (l : List Int) (a : Int) (h : l.length ≤ 9223372036854775807) : Tot (slices_Contains_int_int l a) := by
 unfold slices_Contains_int_int
 repeat' (first | (with_reducible first | exact ok_yes | exact ok_inrY | exact ok_inlY | refine ok_nite (fun _ => ?_) fun _ => ?_ | refine ok_ite (fun _ => ?_) fun _ => ?_ | refine ok_not (fun _ => ?_) fun _ => ?_ | refine ok_cond (fun _ => ?_) fun _ => ?_) | (with_reducible refine ok_next ?_ ?_ ?_ <;> (first | assumption | omega | rw [w64_of] <;> omega)) | with_reducible refine ok_bind (ok_idx (by (first | assumption | omega | rw [w64_of] <;> omega)) (by (first | assumption | omega | rw [w64_of] <;> omega))) (fun _ _ => ?_) | (with_reducible refine Ok.yes (slices_Index_int_int_ok _ _ h) <;> (first | assumption | omega | rw [w64_of] <;> omega)) | (with_reducible refine ok_bind (Q := Yes) ?_ fun _ _ => ?_) | dsimp only)
theorem state_fields_ok (a) : Tot (state_fields a) := by
 unfold state_fields
 repeat' (first | (with_reducible first | exact ok_yes | exact ok_inrY | exact ok_inlY | refine ok_nite (fun _ => ?_) fun _ => ?_ | refine ok_ite (fun _ => ?_) fun _ => ?_ | refine ok_not (fun _ => ?_) fun _ => ?_ | refine ok_cond (fun _ => ?_) fun _ => ?_) | (with_reducible refine ok_next ?_ ?_ ?_ <;> (first | assumption | omega | rw [w64_of] <;> omega)) | with_reducible refine ok_bind (ok_idx (by (first | assumption | omega | rw [w64_of] <;> omega)) (by (first | assumption | omega | rw [w64_of] <;> omega))) (fun _ _ => ?_) | (with_reducible refine ok_bind (Q := Yes) ?_ fun _ _ => ?_) | dsimp only)
theorem state_same_ok (a b) : Tot (state_same a b) := by
 unfold state_same
 repeat' (first | (with_reducible first | exact ok_yes | exact ok_inrY | exact ok_inlY | refine ok_nite (fun _ => ?_) fun _ => ?_ | refine ok_ite (fun _ => ?_) fun _ => ?_ | refine ok_not (fun _ => ?_) fun _ => ?_ | refine ok_cond (fun _ => ?_) fun _ => ?_) | (with_reducible refine ok_next ?_ ?_ ?_ <;> (first | assumption | omega | rw [w64_of] <;> omega)) | with_reducible refine ok_bind (ok_idx (by (first | assumption | omega | rw [w64_of] <;> omega)) (by (first | assumption | omega | rw [w64_of] <;> omega))) (fun _ _ => ?_) | (with_reducible refine ok_bind (Q := Yes) ?_ fun _ _ => ?_) | dsimp only)
def Up (l : List api_Slice) (n : Int) : Prop := ∀ (j : Nat) y, (j : Int) < n → l[j]? = some y → -1 ≤ y.fParent ∧ y.fParent < (j : Int)
theorem slice_nested_ok (l : List api_Slice) (h : l.length ≤ 9223372036854775807) : Ok (slice_nested l) (fun b => b = true → Up l l.length) := by
 unfold slice_nested
 refine ok_bindS (Q := InlR (fun _ => Up l l.length) (fun b => b = false)) (ok_upI l.length (Up l) h (by intro j y hj; omega) (fun i hI h1 h2 => ?_)) (fun _ hq => ok_some (fun _ => hq)) (fun r hr => ok_some (fun e => ?_))
 ·unfold slice_nested_L1
  refine ok_ite (fun hi => ?_) (fun hi => ok_inr (by have : i = l.length := (by omega); subst this; exact hI))
  refine ok_bind (ok_idx h1 hi) (fun y hy => ?_)
  have no : InlR (fun _ : Unit => Up l l.length) (fun b => b = false) (.inr false) := rfl
  refine ok_bind (Q := fun v => v = false → -1 ≤ y.fParent ∧ y.fParent < i) ?_ (fun v hv => ?_)
  ·refine ok_ite (fun _ => ok_some (by simp)) (fun h3 => ok_some (fun h4 => ?_))
   have := of_decide_eq_false h4
   omega
  refine ok_cond (fun _ => ok_inr no) (fun h0 => ?_)
  have hp := hv h0
  have nx : Up l (i + 1) := by
   intro j z hj hz
   by_cases e : (j : Int) = i
   ·have : i.toNat = j := by omega
    rw [this] at hy
    rw [hy] at hz; cases hz
    omega
   ·exact hI j z (by omega) hz
  refine ok_ite (fun _ => ?_) (fun hne => ?_)
  ·refine ok_nite (fun _ => ok_inr no) (fun _ => ok_nextI nx h1 hi h)
  ·refine ok_bind (ok_idx (by omega) (by omega)) (fun z _ => ?_)
   refine ok_bind (Q := Yes) (by repeat' (first | (with_reducible first | exact ok_yes | exact ok_inrY | exact ok_inlY | refine ok_nite (fun _ => ?_) fun _ => ?_ | refine ok_ite (fun _ => ?_) fun _ => ?_ | refine ok_not (fun _ => ?_) fun _ => ?_ | refine ok_cond (fun _ => ?_) fun _ => ?_) | (with_reducible refine ok_next ?_ ?_ ?_ <;> (first | assumption | omega | rw [w64_of] <;> omega)) | with_reducible refine ok_bind (ok_idx (by (first | assumption | omega | rw [w64_of] <;> omega)) (by (first | assumption | omega | rw [w64_of] <;> omega))) (fun _ _ => ?_) | (with_reducible refine ok_bind (Q := Yes) ?_ fun _ _ => ?_) | dsimp only)) (fun v _ => ?_)
   refine ok_cond (fun _ => ok_inr no) (fun _ => ok_nextI nx h1 hi h)
 ·have : r = false := hr
  simp [this] at e
theorem slice_under_ok (l : List api_Slice) (h : l.length ≤ 9223372036854775807) (hu : Up l l.length) (a b : Int) (hb : b < l.length) : Tot (slice_under l a b) := by
 unfold slice_under
 refine ok_bindS (Q := Yes) (ok_loop (fun i : Int => i < l.length) (fun i : Int => (i + 1).toNat) (fun i hi => ?_) hb (by simp [manyRounds]; omega)) (fun _ _ => ok_yes) (fun _ _ => ok_yes)
 unfold slice_under_L1
 refine ok_ite (fun h0 => ?_) (fun _ => ok_inrY)
 refine ok_ite (fun _ => ok_inrY) (fun _ => ?_)
 refine ok_bind (ok_idx h0 hi) (fun y hy => ?_)
 have := hu i.toNat y (by omega) hy
 exact ok_inl ⟨by omega, by omega⟩
theorem slice_apart_ok (l : List api_Slice) (h : l.length ≤ 9223372036854775807) (hu : Up l l.length) : Tot (slice_apart l) := by
 unfold slice_apart
 refine ok_bindS (Q := Yes) (ok_up l.length h fun i h1 h2 => ?_) (fun _ _ => ok_yes) (fun _ _ => ok_yes)
 unfold slice_apart_L2
 refine ok_ite (fun hi => ?_) (fun _ => ok_inrY)
 refine ok_bind (ok_idx h1 hi) (fun y hy => ?_)
 refine ok_bindS (Q := InlR Yes (InlR (fun _ => False) Yes)) (ok_up2 l.length (fun _ _ => True) h trivial (fun a j _ h3 h4 => ?_)) (fun _ _ => ?_) (fun r hr => ?_)
 ·unfold slice_apart_L1
  dsimp only
  refine ok_ite (fun hj => ?_) (fun _ => ok_inr trivial)
  refine ok_bind (ok_idx h3 hj) (fun z hz => ?_)
  refine ok_bind (Q := Yes) (by repeat' (first | (with_reducible first | exact ok_yes | exact ok_inrY | exact ok_inlY | refine ok_nite (fun _ => ?_) fun _ => ?_ | refine ok_ite (fun _ => ?_) fun _ => ?_ | refine ok_not (fun _ => ?_) fun _ => ?_ | refine ok_cond (fun _ => ?_) fun _ => ?_) | (with_reducible refine ok_next ?_ ?_ ?_ <;> (first | assumption | omega | rw [w64_of] <;> omega)) | with_reducible refine ok_bind (ok_idx (by (first | assumption | omega | rw [w64_of] <;> omega)) (by (first | assumption | omega | rw [w64_of] <;> omega))) (fun _ _ => ?_) | (with_reducible refine ok_bind (Q := Yes) ?_ fun _ _ => ?_) | dsimp only)) (fun v _ => ?_)
  refine ok_bind (Q := Yes) (by repeat' (first | (with_reducible first | exact ok_yes | exact ok_inrY | exact ok_inlY | refine ok_nite (fun _ => ?_) fun _ => ?_ | refine ok_ite (fun _ => ?_) fun _ => ?_ | refine ok_not (fun _ => ?_) fun _ => ?_ | refine ok_cond (fun _ => ?_) fun _ => ?_) | (with_reducible refine ok_next ?_ ?_ ?_ <;> (first | assumption | omega | rw [w64_of] <;> omega)) | with_reducible refine ok_bind (ok_idx (by (first | assumption | omega | rw [w64_of] <;> omega)) (by (first | assumption | omega | rw [w64_of] <;> omega))) (fun _ _ => ?_) | (with_reducible refine Ok.yes (slice_under_ok l h hu _ _ hi) <;> (first | assumption | omega | rw [w64_of] <;> omega)) | (with_reducible refine ok_bind (Q := Yes) ?_ fun _ _ => ?_) | dsimp only)) (fun v _ => ?_)
  refine ok_cond (fun _ => ok_inr trivial) (fun _ => ok_next2 (Inv := fun _ _ => True) trivial h3 hj h)
 ·dsimp only
  repeat' (first | (with_reducible first | exact ok_yes | exact ok_inrY | exact ok_inlY | refine ok_nite (fun _ => ?_) fun _ => ?_ | refine ok_ite (fun _ => ?_) fun _ => ?_ | refine ok_not (fun _ => ?_) fun _ => ?_ | refine ok_cond (fun _ => ?_) fun _ => ?_) | (with_reducible refine ok_next ?_ ?_ ?_ <;> (first | assumption | omega | rw [w64_of] <;> omega)) | with_reducible refine ok_bind (ok_idx (by (first | assumption | omega | rw [w64_of] <;> omega)) (by (first | assumption | omega | rw [w64_of] <;> omega))) (fun _ _ => ?_) | (with_reducible refine ok_bind (Q := Yes) ?_ fun _ _ => ?_) | dsimp only)
 ·rcases r with r | r
  ·exact (hr : False).elim
  ·exact ok_inrY
theorem slice_Check_ok (l : List api_Slice) (h : l.length ≤ 9223372036854775807) (hx : ∀ x ∈ l, okN x.fName) : Tot (slice_Check l) := by
 unfold slice_Check
 refine ok_bindS (Q := Yes) (ok_up l.length h fun i h1 h2 => ?_) (fun _ _ => ?_) (fun _ _ => ok_yes)
 ·unfold slice_Check_L1
  repeat' (first | (with_reducible first | exact ok_yes | exact ok_inrY | exact ok_inlY | refine ok_nite (fun _ => ?_) fun _ => ?_ | refine ok_ite (fun _ => ?_) fun _ => ?_ | refine ok_not (fun _ => ?_) fun _ => ?_ | refine ok_cond (fun _ => ?_) fun _ => ?_) | (with_reducible refine ok_next ?_ ?_ ?_ <;> (first | assumption | omega | rw [w64_of] <;> omega)) | with_reducible refine ok_bind (ok_idx (by (first | assumption | omega | rw [w64_of] <;> omega)) (by (first | assumption | omega | rw [w64_of] <;> omega))) (fun _ _ => ?_) | (with_reducible refine Ok.yes (slice_compare_ok _ _) <;> (first | assumption | omega | rw [w64_of] <;> omega)) | (with_reducible refine Ok.yes (spans_Valid_ok _) <;> (first | assumption | omega | rw [w64_of] <;> omega)) | (with_reducible refine Ok.yes (intern_Name_ok _ (hx _ (List.mem_of_getElem? (by assumption)))) <;> (first | assumption | omega | rw [w64_of] <;> omega)) | (with_reducible refine ok_bind (Q := Yes) ?_ fun _ _ => ?_) | dsimp only)
 ·dsimp only
  refine ok_bind (Q := Yes) ?_ (fun _ _ => by repeat' (first | (with_reducible first | exact ok_yes | exact ok_inrY | exact ok_inlY | refine ok_nite (fun _ => ?_) fun _ => ?_ | refine ok_ite (fun _ => ?_) fun _ => ?_ | refine ok_not (fun _ => ?_) fun _ => ?_ | refine ok_cond (fun _ => ?_) fun _ => ?_) | (with_reducible refine ok_next ?_ ?_ ?_ <;> (first | assumption | omega | rw [w64_of] <;> omega)) | with_reducible refine ok_bind (ok_idx (by (first | assumption | omega | rw [w64_of] <;> omega)) (by (first | assumption | omega | rw [w64_of] <;> omega))) (fun _ _ => ?_) | (with_reducible refine ok_bind (Q := Yes) ?_ fun _ _ => ?_) | dsimp only))
  refine ok_bind (slice_nested_ok l h) (fun b hb => ?_)
  refine ok_not (fun _ => ok_yes) (fun e => ?_)
  repeat' (first | (with_reducible first | exact ok_yes | exact ok_inrY | exact ok_inlY | refine ok_nite (fun _ => ?_) fun _ => ?_ | refine ok_ite (fun _ => ?_) fun _ => ?_ | refine ok_not (fun _ => ?_) fun _ => ?_ | refine ok_cond (fun _ => ?_) fun _ => ?_) | (with_reducible refine ok_next ?_ ?_ ?_ <;> (first | assumption | omega | rw [w64_of] <;> omega)) | with_reducible refine ok_bind (ok_idx (by (first | assumption | omega | rw [w64_of] <;> omega)) (by (first | assumption | omega | rw [w64_of] <;> omega))) (fun _ _ => ?_) | (with_reducible refine Ok.yes (slice_apart_ok l h (hb e)) <;> (first | assumption | omega | rw [w64_of] <;> omega)) | (with_reducible refine ok_bind (Q := Yes) ?_ fun _ _ => ?_) | dsimp only)
theorem memory_Check_ok (l : List api_Block) (h : l.length ≤ 9223372036854775807) (hx : ∀ x ∈ l, x.fStack.length ≤ 9223372036854775807 ∧ ∀ y ∈ x.fStack, okN y) : Tot (memory_Check l) := by
 unfold memory_Check
 refine ok_bindS (Q := Yes) (ok_up l.length h fun i h1 h2 => ?_) (fun _ _ => ok_yes) (fun _ _ => ok_yes)
 unfold memory_Check_L2
 refine ok_ite (fun hi => ?_) (fun _ => ok_inrY)
 refine ok_bind (ok_idx h1 hi) (fun y hy => ?_)
 refine ok_bind (Q := Yes) (by repeat' (first | (with_reducible first | exact ok_yes | exact ok_inrY | exact ok_inlY | refine ok_nite (fun _ => ?_) fun _ => ?_ | refine ok_ite (fun _ => ?_) fun _ => ?_ | refine ok_not (fun _ => ?_) fun _ => ?_ | refine ok_cond (fun _ => ?_) fun _ => ?_) | (with_reducible refine ok_next ?_ ?_ ?_ <;> (first | assumption | omega | rw [w64_of] <;> omega)) | with_reducible refine ok_bind (ok_idx (by (first | assumption | omega | rw [w64_of] <;> omega)) (by (first | assumption | omega | rw [w64_of] <;> omega))) (fun _ _ => ?_) | (with_reducible refine Ok.yes (spans_Valid_ok _) <;> (first | assumption | omega | rw [w64_of] <;> omega)) | (with_reducible refine ok_bind (Q := Yes) ?_ fun _ _ => ?_) | dsimp only)) (fun v _ => ?_)
 refine ok_cond (fun _ => ok_inrY) (fun _ => ?_)
 refine ok_bind (Q := Yes) (intern_Frames_ok _ (hx _ (List.mem_of_getElem? hy)).1 (hx _ (List.mem_of_getElem? hy)).2) (fun v _ => ?_)
 refine ok_nite (fun _ => ok_inrY) (fun _ => ?_)
 refine ok_bind (Q := Yes) (by repeat' (first | (with_reducible first | exact ok_yes | exact ok_inrY | exact ok_inlY | refine ok_nite (fun _ => ?_) fun _ => ?_ | refine ok_ite (fun _ => ?_) fun _ => ?_ | refine ok_not (fun _ => ?_) fun _ => ?_ | refine ok_cond (fun _ => ?_) fun _ => ?_) | (with_reducible refine ok_next ?_ ?_ ?_ <;> (first | assumption | omega | rw [w64_of] <;> omega)) | with_reducible refine ok_bind (ok_idx (by (first | assumption | omega | rw [w64_of] <;> omega)) (by (first | assumption | omega | rw [w64_of] <;> omega))) (fun _ _ => ?_) | (with_reducible refine ok_bind (Q := Yes) ?_ fun _ _ => ?_) | dsimp only)) (fun v _ => ?_)
 refine ok_cond (fun _ => ok_inrY) (fun _ => ?_)
 refine ok_bind (Q := fun ys => ys.length ≤ 9223372036854775807) ?_ (fun ys hys => ?_)
 ·unfold slcPart
  rw [if_pos ⟨by omega, by omega, by omega⟩]
  exact ok_some (by simp; omega)
 refine ok_bindS (Q := InlR Yes (InlR (fun _ => False) Yes)) (ok_up ys.length hys fun j h3 h4 => ?_) (fun _ _ => ok_next h1 hi h) (fun r hr => ?_)
 ·unfold memory_Check_L1
  refine ok_ite (fun hj => ?_) (fun _ => ok_inr trivial)
  refine ok_bind (ok_idx h3 hj) (fun z hz => ?_)
  refine ok_bind (Q := Yes) (by repeat' (first | (with_reducible first | exact ok_yes | exact ok_inrY | exact ok_inlY | refine ok_nite (fun _ => ?_) fun _ => ?_ | refine ok_ite (fun _ => ?_) fun _ => ?_ | refine ok_not (fun _ => ?_) fun _ => ?_ | refine ok_cond (fun _ => ?_) fun _ => ?_) | (with_reducible refine ok_next ?_ ?_ ?_ <;> (first | assumption | omega | rw [w64_of] <;> omega)) | with_reducible refine ok_bind (ok_idx (by (first | assumption | omega | rw [w64_of] <;> omega)) (by (first | assumption | omega | rw [w64_of] <;> omega))) (fun _ _ => ?_) | (with_reducible refine ok_bind (Q := Yes) ?_ fun _ _ => ?_) | dsimp only)) (fun v _ => ?_)
  refine ok_cond (fun _ => ok_inr trivial) (fun _ => ok_next h3 hj hys)
 ·rcases r with r | r
  ·exact (hr : False).elim
  ·exact ok_inrY
theorem slices_Index_int_int_lt (l : List Int) (a : Int) (h : l.length ≤ 9223372036854775807) : Ok (slices_Index_int_int l a) (fun r => (0 ≤ r → l[r.toNat]? = some a) ∧ r < l.length) := by
 unfold slices_Index_int_int
 refine ok_bindS (Q := InlR Yes (fun r : Int => (0 ≤ r → l[r.toNat]? = some a) ∧ r < l.length)) (ok_up l.length h fun i h1 h2 => ?_) (fun _ _ => ok_some (And.intro (by omega) (by omega))) (fun _ hr => ?_)
 rotate_left
 ·exact ok_some hr
 unfold slices_Index_int_int_L1
 refine ok_ite (fun hi => ?_) (fun _ => ok_inr trivial)
 refine ok_bind (ok_idx h1 hi) (fun y hy => ?_)
 exact ok_ite (fun e => ok_inr ⟨fun _ => by rw [hy, e], hi⟩) (fun _ => ok_next h1 hi h)
theorem state_distinct_ok (l : List api_Thread) (h : l.length ≤ 1000000) : Ok (state_distinct l) (fun r => r.length ≤ l.length) := by
 unfold state_distinct
 refine ok_bind (Q := fun r => r.length ≤ l.length) (ok_up2 l.length (fun a i => (a.length : Int) ≤ i) (by omega) (by simp) (fun a i hI h1 h2 => ?_)) (fun r hr => ok_some hr)
 unfold state_distinct_L1
 dsimp only
 refine ok_ite (fun hi => ?_) (fun _ => ok_inr (by omega))
 refine ok_bind (Q := fun r : List Int => (r.length : Int) ≤ i + 1) ?_ (fun r hr => ok_next2 (Inv := fun (a : List Int) i => (a.length : Int) ≤ i) hr h1 hi (by omega))
 refine ok_bind (ok_idx h1 hi) (fun y hy => ?_)
 refine ok_bind (slices_Contains_int_int_ok a y.fId (by omega)) (fun v _ => ?_)
 refine ok_not (fun _ => ?_) (fun _ => ok_some (by omega))
 rw [room_ok (by simp; omega) (by simp; omega)]
 exact ok_some (by simp; omega)
def Disj (l : List api_State) (n : Int) : Prop := ∀ (j k : Nat) s s', j < k → (k : Int) < n → l[j]? = some s → l[k]? = some s' → s.fThread = s'.fThread → s.fSpan.fTo ≤ s'.fSpan.fFrom
def Vald (l : List api_State) (n : Int) : Prop := ∀ (j : Nat) s, (j : Int) < n → l[j]? = some s → 0 ≤ s.fSpan.fFrom ∧ s.fSpan.fFrom < s.fSpan.fTo ∧ s.fSpan.fTo ≤ 1000000000000
def Gd (l : List api_State) : Prop := Disj l l.length ∧ Vald l l.length
structure Tab (l : List api_State) (ix : List Int) (r i : Int) : Prop where
 le : ∀ (j : Nat) s, (j : Int) < i → l[j]? = some s → ∃ x, slices_Index_int_int ix s.fThread = some x ∧ x ≤ r
 last : ∀ s, 0 < i → l[(i - 1).toNat]? = some s → slices_Index_int_int ix s.fThread = some r
 pos : 0 ≤ r → 0 < i
 neg : i = 0 → r = -1
 rng : -1 ≤ r ∧ r < ix.length
 v : Vald l i
 d : Disj l i
theorem rows_next {l : List api_State} {ix : List Int} {r r' i : Int} {y : api_State} (hix : ix.length ≤ 9223372036854775807) (H : Tab l ix r i) (h1 : 0 ≤ i) (hy : l[i.toNat]? = some y) (hr : slices_Index_int_int ix y.fThread = some r') (h0 : 0 ≤ r') (hv : 0 ≤ y.fSpan.fFrom ∧ y.fSpan.fFrom < y.fSpan.fTo ∧ y.fSpan.fTo ≤ 1000000000000)
  (hs : r' = r → ∀ s, l[(i - 1).toNat]? = some s → y.fSpan.fFrom = s.fSpan.fTo) (hn : r' ≠ r → r' = r + 1) : Tab l ix r' (i + 1) := by
 have hle : r ≤ r' := by
  by_cases e : r' = r
  ·omega
  ·have := hn e; omega
 refine ⟨fun j s hj hs' => ?_, fun s _ hs' => ?_, fun _ => by omega, fun _ => by omega, ⟨by omega, ((slices_Index_int_int_lt ix _ hix).of_eq hr).2⟩, fun j s hj hs' => ?_, fun j k s s' hjk hk hj' hk' ht => ?_⟩
 ·by_cases e : (j : Int) = i
  ·have : i.toNat = j := by omega
   rw [this, hs'] at hy; cases hy
   exact ⟨r', hr, by omega⟩
  ·obtain ⟨x, h2, h3⟩ := H.le j s (by omega) hs'
   exact ⟨x, h2, by omega⟩
 ·rw [show i + 1 - 1 = i by omega, hy] at hs'; cases hs'
  exact hr
 ·by_cases e : (j : Int) = i
  ·have : i.toNat = j := by omega
   rw [this, hs'] at hy; cases hy
   exact hv
  ·exact H.v j s (by omega) hs'
 ·by_cases e : (k : Int) = i
  ·have : i.toNat = k := by omega
   rw [this, hk'] at hy; cases hy
   obtain ⟨x, h2, h3⟩ := H.le j s (by omega) hj'
   rw [ht, hr] at h2; cases h2
   by_cases e' : r' = r
   ·obtain ⟨u, hu⟩ : ∃ u, l[(i - 1).toNat]? = some u := by
     have := lt_of_get hk'
     exact ⟨_, List.getElem?_eq_getElem (by omega)⟩
    have h5 := hs e' u hu
    by_cases e2 : j = (i - 1).toNat
    ·subst e2; rw [hj'] at hu; cases hu; omega
    ·have hlu := H.last u (by omega) hu
     have hh : s.fThread = u.fThread → s.fSpan.fTo ≤ u.fSpan.fFrom := H.d j (i - 1).toNat s u (by omega) (by omega) hj' hu
     have hvu := H.v (i - 1).toNat u (by omega) hu
     have a1 := (slices_Index_int_int_lt ix _ hix).of_eq hlu |>.1 (by omega)
     have a2 := (slices_Index_int_int_lt ix _ hix).of_eq hr |>.1 h0
     rw [e', a1] at a2
     injection a2 with a2
     have := hh (by rw [ht, ← a2])
     omega
   ·have := hn e'; omega
  ·exact H.d j k s s' hjk (by omega) hj' hk' ht
theorem spans_Valid_val (s : api_Span) : Ok (spans_Valid s) (fun b => b = true → 0 ≤ s.fFrom ∧ s.fFrom < s.fTo ∧ s.fTo ≤ 1000000000000) := by
 rw [spans_Valid_eq]
 exact ok_some (fun h => of_decide_eq_true h)
theorem state_Check_ok (ths : List api_Thread) (l : List api_State) (ht : ths.length ≤ 1000000) (h : l.length ≤ 9223372036854775807) : Ok (state_Check ths l) (fun r => r = 0 → Gd l) := by
 unfold state_Check
 refine ok_bind (state_distinct_ok ths ht) (fun ix hix => ?_)
 have hix' : ix.length ≤ 9223372036854775807 := by omega
 refine ok_bindS (Q := InlR (fun _ => Gd l) (fun r => r ≠ 0)) (ok_up2 l.length (fun r i => Tab l ix r i) h ⟨by intro j s hj; omega, by intro s hj; omega, by omega, by simp, ⟨by omega, by omega⟩, by intro j s hj; omega, by intro j k s s' _ hj; omega⟩ (fun r i hI h1 h2 => ?_)) (fun r hd => ?_) (fun r hr => ?_)
 ·unfold state_Check_L2
  dsimp only
  have no : ∀ n : Int, n ≠ 0 → InlR (fun _ : Int => Gd l) (fun r => r ≠ 0) (.inr n) := fun n h => h
  refine ok_ite (fun hi => ?_) (fun hi => ok_inr (by have e : i = l.length := (by omega); have g1 := hI.d; have g2 := hI.v; rw [e] at g1 g2; exact ⟨g1, g2⟩))
  refine ok_bind (ok_idx h1 hi) (fun y hy => ?_)
  refine ok_bindE (slices_Index_int_int_ok ix y.fThread hix') (fun x hx => ?_)
  refine ok_ite (fun _ => ok_inr (no _ (by simp))) (fun h0 => ?_)
  refine ok_bind (spans_Valid_val y.fSpan) (fun v hv => ?_)
  refine ok_not (fun _ => ok_inr (no _ (by simp))) (fun ev => ?_)
  refine ok_bind (state_fields_ok y) (fun _ _ => ?_)
  refine ok_not (fun _ => ok_inr (no _ (by simp))) (fun _ => ?_)
  refine ok_bind (Q := fun v => v = false → x = r → ∀ s, l[(i - 1).toNat]? = some s → y.fSpan.fFrom = s.fSpan.fTo) ?_ (fun v1 hv1 => ?_)
  ·refine ok_ite (fun e => ?_) (fun e => ok_some (fun _ e' => absurd e' e))
   have hpos := hI.pos (by omega)
   rw [show w64 (i - 1) = i - 1 from w64_of (by omega)]
   refine ok_bind (ok_idx (by omega) (by omega)) (fun z hz => ?_)
   refine ok_nite (fun _ => ok_some (by simp)) (fun e2 => ?_)
   refine ok_bind (Q := Yes) ⟨z, hz ▸ by simp [idx, hz]; omega, trivial⟩ (fun w _ => ?_)
   refine (ok_bind (Q := Yes) (state_same_ok _ _) (fun b _ => ok_some (P := fun v => v = false → x = r → ∀ s, l[(i - 1).toNat]? = some s → y.fSpan.fFrom = s.fSpan.fTo) (fun _ _ s hs => ?_)))
   rw [hz] at hs; cases hs; exact e2
  refine ok_cond (fun _ => ok_inr (no _ (by simp))) (fun e1 => ?_)
  refine ok_bind (Q := fun v => v = false → x ≠ r → x = r + 1) ?_ (fun v2 hv2 => ?_)
  ·refine ok_nite (fun e => ?_) (fun e => ok_some (fun _ e' => absurd e e'))
   have hb := hI.rng
   rw [w64_of (n := r + 1) (by omega)]
   refine ok_nite (fun _ => ok_some (by simp)) (fun e3 => ok_some (fun _ _ => e3))
  refine ok_cond (fun _ => ok_inr (no _ (by simp))) (fun e2 => ?_)
  exact ok_next2 (Inv := fun r i => Tab l ix r i) (rows_next hix' hI h1 hy hx (by omega) (hv ev) (hv1 e1) (hv2 e2)) h1 hi h
 ·dsimp only
  refine ok_ite (fun _ => ok_some (fun _ => hd)) (fun hne => ?_)
  rw [show w64 ((l.length : Int) - 1) = (l.length : Int) - 1 from w64_of (by omega)]
  refine ok_bind (ok_idx (by omega) (by omega)) (fun y _ => ?_)
  refine ok_bindS (Q := Yes) (ok_up l.length h fun j h3 h4 => ?_) (fun _ _ => ?_) (fun r hr => ok_some (fun _ => hd))
  ·unfold state_Check_L1
   refine ok_ite (fun hj => ?_) (fun _ => ok_inrY)
   refine ok_bind (ok_idx h3 hj) (fun z hz => ?_)
   have e : w64 (j + 1) = j + 1 := w64_of (by omega)
   rw [e]
   refine ok_bind (Q := Yes) ?_ (fun v _ => ?_)
   ·refine ok_ite (fun _ => ok_yes) (fun hne => ?_)
    exact ok_bind (ok_idx (by omega) (by omega)) (fun _ _ => ok_yes)
   ·refine ok_bind (Q := Yes) (by repeat' (first | (with_reducible first | exact ok_yes | exact ok_inrY | exact ok_inlY | refine ok_nite (fun _ => ?_) fun _ => ?_ | refine ok_ite (fun _ => ?_) fun _ => ?_ | refine ok_not (fun _ => ?_) fun _ => ?_ | refine ok_cond (fun _ => ?_) fun _ => ?_) | (with_reducible refine ok_next ?_ ?_ ?_ <;> (first | assumption | omega | rw [w64_of] <;> omega)) | with_reducible refine ok_bind (ok_idx (by (first | assumption | omega | rw [w64_of] <;> omega)) (by (first | assumption | omega | rw [w64_of] <;> omega))) (fun _ _ => ?_) | (with_reducible refine ok_bind (Q := Yes) ?_ fun _ _ => ?_) | dsimp only)) (fun v _ => ?_)
    exact ok_cond (fun _ => ok_inrY) (fun _ => ok_inl ⟨hj, rfl⟩)
  ·exact ok_nite (fun _ => ok_some (fun _ => hd)) (fun _ => ok_some (fun _ => hd))
 ·exact ok_some (fun e => absurd e hr)
theorem trace_tables_ok (t : api_Trace) (h : Siz t) (ht : t.fThreads.length ≤ 1000000) : Ok (trace_tables t) (fun r => r = 0 → Gd t.fStates) := by
 unfold trace_tables
 refine ok_bindS (trace_threads_ok t h.th h.nTh) (fun r hr => ?_) (fun r _ => ?_)
 ·exact ok_nite (fun h0 => ok_some (fun e => absurd e h0)) (fun h0 => absurd h0 hr)
 ·dsimp only
  refine ok_nite (fun h0 => ok_some (fun e => absurd e h0)) (fun _ => ?_)
  refine ok_bind (slice_Check_ok _ h.sl h.nSl) (fun r4 _ => ?_)
  refine ok_bind (trace_known_api_Slice_k1_ok _ _ _ h.sl) (fun r5 _ => ?_)
  refine ok_nite (fun h0 => ok_some (fun e => absurd e h0)) (fun _ => ?_)
  refine ok_bind (state_Check_ok _ _ ht h.st) (fun r6 h6 => ?_)
  refine ok_nite (fun h0 => ok_some (fun e => absurd e h0)) (fun e6 => ?_)
  have hd := h6 e6
  refine ok_bind (flow_Check_ok _ h.fl) (fun r7 _ => ?_)
  refine ok_bind (trace_known_api_Flow_k1_ok _ _ _ h.fl) (fun r8 _ => ?_)
  refine ok_bind (trace_known_api_Flow_k2_ok _ _ _ h.fl) (fun r9 _ => ?_)
  refine ok_nite (fun h0 => ok_some (fun e => absurd e h0)) (fun _ => ?_)
  refine ok_bind (sample_Check_ok _ h.sa h.nSa) (fun r10 _ => ?_)
  refine ok_bind (trace_known_api_Sample_k1_ok _ _ _ h.sa) (fun r11 _ => ?_)
  refine ok_nite (fun h0 => ok_some (fun e => absurd e h0)) (fun _ => ?_)
  refine ok_bind (counter_Check_ok _ h.sp h.nSp) (fun r12 _ => ?_)
  refine ok_nite (fun h0 => ok_some (fun e => absurd e h0)) (fun _ => ?_)
  refine ok_bind (memory_Check_ok _ h.bl h.nBl) (fun r13 _ => ?_)
  refine ok_bind (trace_known_api_Block_k1_ok _ _ _ h.bl) (fun r14 _ => ?_)
  refine ok_nite (fun h0 => ok_some (fun e => absurd e h0)) (fun _ => ?_)
  refine ok_bind (trace_losses_k1_ok _ _ h.lo) (fun r15 _ => ?_)
  exact ok_some (fun _ => hd)
theorem trace_Check_ok (t : api_Trace) (h : Siz t) (ht : t.fThreads.length ≤ 1000000) : Ok (trace_Check t) (fun r => r = 0 → Gd t.fStates) := by
 unfold trace_Check
 refine ok_bind (trace_tables_ok t h ht) (fun r hr => ?_)
 refine ok_nite (fun h0 => ok_some (fun e => absurd e h0)) (fun e => ?_)
 have hd := hr e
 refine ok_bind (Q := Yes) (by repeat' (first | (with_reducible first | exact ok_yes | exact ok_inrY | exact ok_inlY | refine ok_nite (fun _ => ?_) fun _ => ?_ | refine ok_ite (fun _ => ?_) fun _ => ?_ | refine ok_not (fun _ => ?_) fun _ => ?_ | refine ok_cond (fun _ => ?_) fun _ => ?_) | (with_reducible refine ok_next ?_ ?_ ?_ <;> (first | assumption | omega | rw [w64_of] <;> omega)) | with_reducible refine ok_bind (ok_idx (by (first | assumption | omega | rw [w64_of] <;> omega)) (by (first | assumption | omega | rw [w64_of] <;> omega))) (fun _ _ => ?_) | (with_reducible refine ok_bind (Q := Yes) ?_ fun _ _ => ?_) | dsimp only)) (fun v _ => ?_)
 refine ok_cond (fun _ => ok_some (fun _ => hd)) (fun _ => ?_)
 refine ok_bind (trace_outside_ok t h) (fun v _ => ?_)
 exact ok_cond (fun _ => ok_some (fun _ => hd)) (fun _ => ok_some (fun _ => hd))
theorem mget_mput {κ ν : Type} [DecidableEq κ] (k k' : κ) (v : ν) : ∀ (m : List (κ × ν)), mget k (mput k' v m) = if k = k' then some v else mget k m
 | [] => by simp [mput, mget]
 | p :: r => by
  simp only [mput]
  by_cases e : k' = p.1
  ·subst e
   simp only [if_true, mget]
   by_cases e2 : k = p.1 <;> simp [e2]
  ·rw [if_neg e]
   simp only [mget]
   rw [mget_mput k k' v r]
   by_cases e2 : k = p.1
   ·subst e2
    rw [if_pos rfl, if_pos rfl, if_neg (fun h => e h.symm)]
   ·rw [if_neg e2, if_neg e2]
theorem loop_res {S ρ : Type} {step : S → Option (S ⊕ ρ)} {Q : ρ → Prop} (h : ∀ s r, step s = some (.inr r) → Q r) {s : S} {r : ρ} (hr : loop step s = some r) : Q r := by
 have key : ∀ n s, iter step n s = some r → Q r := by
  intro n
  induction n with
  | zero => intro s h; simp [iter] at h
  | succ n ih =>
   intro s hs
   rw [iter_succ] at hs
   cases e : step s with
   | none => rw [e] at hs; simp at hs
   | some x =>
    rw [e] at hs
    cases x with
    | inl s' => exact ih s' hs
    | inr r' => simp only [Option.some.injEq] at hs; subst hs; exact h s _ e
 exact key _ s hr
theorem letter_eq (y : UInt8) : intern_letter (y.toNat : Int) = tracebookref06_letter (y.toNat : Int) := by
 have h : (List.range 256).all (fun n => decide (intern_letter (n : Int) = tracebookref06_letter (n : Int))) = true := by kernel_rfl
 exact of_decide_eq_true (List.all_eq_true.1 h y.toNat (List.mem_range.2 (UInt8.toNat_lt y)))
theorem empty_iff (s : ByteArray) : s = ⟨#[]⟩ ↔ (s.size : Int) < 1 := by
 constructor
 ·intro h; subst h; decide
 ·intro h
  cases s with
  | mk a =>
   have : a.size = 0 := by
    have : (ByteArray.mk a).size = a.size := rfl
    omega
   rw [Array.eq_empty_of_size_eq_zero this]
theorem Name_eq (s : ByteArray) : intern_Name s = tracebookref06_Name s := by
 unfold intern_Name tracebookref06_Name
 have h1 : intern_Name_L1 s = tracebookref06_Name_L1 s := by
  funext i
  simp only [intern_Name_L1, tracebookref06_Name_L1, letter_eq]
 have h2 : decide (s = ⟨#[]⟩) = decide ((ByteArray.size s : Int) < 1) := decide_eq_decide.2 (empty_iff s)
 rw [h1, h2] <;> rfl
theorem Name_03 {s : ByteArray} {r : Int} (h : intern_Name s = some r) : r = 0 ∨ r = 3 := by
 unfold intern_Name at h
 obtain ⟨v, _, h⟩ := bB h
 cases v with
 | true => simp at h; exact .inr h.symm
 | false =>
  obtain ⟨q, hq, h⟩ := bB (show (loop (intern_Name_L1 s) 0).bind _ = some r from h)
  have := loop_res (Q := fun q : Unit ⊕ Int => ∀ x, q = .inr x → x = 3) (fun i r hr => by
   unfold intern_Name_L1 at hr
   by_cases hi : i < (ByteArray.size s : Int)
   ·simp only [hi, decide_true, cond_true] at hr
    obtain ⟨y, _, hr⟩ := bB hr
    obtain ⟨z, _, hr⟩ := bB hr
    cases z
    ·simp only [Bool.not_false, cond_true, Option.some.injEq, Sum.inr.injEq] at hr
     subst hr; intro x hx; cases hx; rfl
    ·simp at hr
   ·simp [hi] at hr; subst hr; intro x hx; cases hx) hq
  cases q with
  | inl _ => simp at h; exact .inl h.symm
  | inr x => simp at h; subst h; exact .inr (this _ rfl)
theorem Thread_eq (t : api_Thread) : producer_Thread t = tracebookref10_Thread t := by
 unfold producer_Thread tracebookref10_Thread
 rw [Name_eq]
theorem Valid_eq (s : api_Span) : tracebookref04_Valid s = spans_Valid s := rfl
theorem Frames_eq (l : List ByteArray) : intern_Frames l = tracebookref06_Frames l := by
 unfold intern_Frames tracebookref06_Frames
 have h1 : intern_Frames_L1 l = tracebookref06_Frames_L1 l := by
  funext i
  unfold intern_Frames_L1 tracebookref06_Frames_L1
  cases idx l i with
  | none => rfl
  | some y =>
   simp only [Option.bind_some, ← Name_eq]
   cases e : intern_Name y with
   | none => rfl
   | some r =>
    rcases Name_03 e with rfl | rfl <;> rfl
 rw [h1] <;> rfl
theorem flow_bad_eq (a b : Int) : flow_bad a b = some (!decide (0 ≤ a ∧ a ≤ b)) := by
 unfold flow_bad
 by_cases h1 : a < 0 <;> by_cases h2 : b < a <;> simp [h1, h2] <;> omega
theorem natural_eq (a : Int) : tracebookref28_natural a = some (decide (0 ≤ a ∧ a ≤ 1000000000000000)) := by
 unfold tracebookref28_natural
 by_cases h1 : 0 ≤ a <;> by_cases h2 : a ≤ 1000000000000000 <;> simp [h1, h2]
theorem reading_eq (a : Int) : tracebookref28_reading a = some (decide (0 ≤ a ∧ a ≤ 1000000000000)) := by
 unfold tracebookref28_reading
 by_cases h1 : 0 ≤ a <;> by_cases h2 : a ≤ 1000000000000 <;> simp [h1, h2]
theorem flow_eq (l : List api_Flow) : flow_Check l = tracebookref28_Check l := by
 unfold flow_Check tracebookref28_Check
 have h1 : flow_Check_L1 l = tracebookref28_Check_L1 l := by
  funext i
  unfold flow_Check_L1 tracebookref28_Check_L1
  cases idx l i with
  | none => rfl
  | some y =>
   simp only [Option.bind_some, flow_bad_eq, natural_eq, reading_eq]
   generalize decide (0 ≤ y.fId ∧ y.fId ≤ 1000000000000000) = b1
   generalize decide (0 ≤ y.fFrom.fThread ∧ y.fFrom.fThread ≤ 1000000000000000) = b2
   generalize decide (0 ≤ y.fFrom.fSerial ∧ y.fFrom.fSerial ≤ 1000000000000000) = b3
   generalize decide (0 ≤ y.fTo.fThread ∧ y.fTo.fThread ≤ 1000000000000000) = b4
   generalize decide (0 ≤ y.fTo.fSerial ∧ y.fTo.fSerial ≤ 1000000000000000) = b5
   generalize decide (0 ≤ y.fSend ∧ y.fSend ≤ 1000000000000) = b6
   generalize decide (0 ≤ y.fRecv ∧ y.fRecv ≤ 1000000000000) = b7
   generalize decide (y.fRecv < y.fSend) = b8
   congr 1
   cases b1
   ·rfl
   cases b2
   ·rfl
   cases b3
   ·rfl
   cases b4
   ·rfl
   cases b5
   ·rfl
   cases b6
   ·rfl
   cases b7
   ·rfl
   cases b8 <;> rfl
 rw [h1] <;> rfl
theorem sample_eq (l : List api_Sample) : sample_Check l = tracebookref29_Check l := by
 unfold sample_Check tracebookref29_Check
 have h1 : sample_Check_L1 l = tracebookref29_Check_L1 l := by
  funext i
  unfold sample_Check_L1 tracebookref29_Check_L1
  cases e : idx l i with
  | none => rfl
  | some y =>
   simp only [Option.bind_some, ← Frames_eq]
   rfl
 rw [h1] <;> rfl
theorem less_tri : ∀ x y : List UInt8, (!(Op.bytesLess x y || decide (x = y))) = Op.bytesLess y x
 | [], [] => by simp [Op.bytesLess]
 | [], b :: y => by simp [Op.bytesLess]
 | a :: x, [] => by simp [Op.bytesLess]
 | a :: x, b :: y => by
  have ih := less_tri x y
  simp only [Op.bytesLess, List.cons.injEq]
  by_cases h1 : a < b
  ·have h2 : ¬ b < a := UInt8.lt_asymm h1
   have h3 : ¬ a = b := UInt8.ne_of_lt h1
   have h4 : ¬ b = a := fun e => h3 e.symm
   simp [h1, h2, h3, h4]
  ·by_cases h2 : a = b
   ·subst h2
    simp [h1, ← ih]
   ·have h3 : b < a := by
     rcases UInt8.lt_or_lt_of_ne h2 with h | h
     ·exact absurd h h1
     ·exact h
    have h4 : ¬ b = a := fun e => h2 e.symm
    simp [h1, h2, h3]
theorem bytes_eq (a b : ByteArray) : a.toList = b.toList ↔ a = b := by
 constructor
 ·intro h
  rw [ByteArray.toList_eq, ByteArray.toList_eq] at h
  exact Go.WideShapes.bytes_inj h
 ·intro h; rw [h]
theorem sLt_tri (a b : ByteArray) : (!(sLt a b || decide (a = b))) = sLt b a := by
 unfold sLt
 rw [← less_tri a.toList b.toList]
 simp only [bytes_eq]
theorem sLt_not {a b : ByteArray} (h : sLt a b = true) : sLt b a = false ∧ a ≠ b := by
 have h1 := sLt_tri a b
 have h2 := sLt_tri b a
 rw [h] at h1 h2
 simp at h1 h2
 exact ⟨h1, fun e => h2.2 e.symm⟩
theorem cmpS_eq (a b : ByteArray) : cmp_Compare_string a b = some (if sLt a b then -1 else if sLt b a then 1 else 0) := by
 unfold cmp_Compare_string cmp_isNaN_string
 simp only [decide_true, Bool.not_true, Option.bind_some, cond_false, sLt_tri]
 cases sLt a b <;> cases sLt b a <;> rfl
theorem cmpI_eq (a b : Int) : cmp_Compare_int a b = some (if a < b then -1 else if b < a then 1 else 0) := by
 unfold cmp_Compare_int cmp_isNaN_int
 by_cases h1 : a < b <;> by_cases h2 : b < a <;> simp [h1, h2]
def orI : List Int → Int
 | [] => 0
 | x :: r => if x = 0 then orI r else x
theorem orI_first : ∀ (l : List Int) (i : Nat), (match (firstL (fun _ y => if y = 0 then none else some (.inr y)) l i).getD (.inl ()) with | (.inl _ : Unit ⊕ Int) => 0 | .inr rv => rv) = orI l
 | [], _ => rfl
 | x :: r, i => by
  simp only [firstL, orI]
  by_cases h : x = 0
  ·simp only [h, if_true]; exact orI_first r (i + 1)
  ·simp [h]
theorem cmpOr_eq (l : List Int) (hl : l.length ≤ 9223372036854775807) : cmp_Or_int l = some (orI l) := by
 unfold cmp_Or_int
 rw [loop_first l (fun _ y => if y = 0 then none else some (.inr y)) (.inl ()) (by simp [manyRounds]; omega) (fun i y hy => ?_) (by simp [cmp_Or_int_L1])]
 ·rw [Option.bind_some, ← orI_first l 0]
  generalize (firstL _ l 0).getD (Sum.inl ()) = q
  cases q <;> rfl
 ·have hi := lt_of_get hy
  have h1 : (i : Int) < l.length := by omega
  simp only [cmp_Or_int_L1, h1, decide_true, cond_true, idx_nat, hy, Option.bind_some]
  by_cases h : y = 0 <;> simp [h, w64_nat (i := i) (by omega)]
theorem order_eq (p c : api_Step) : counter_order p c = some (if sLt p.fName c.fName then -1 else if sLt c.fName p.fName then 1 else if p.fAt < c.fAt then -1 else if c.fAt < p.fAt then 1 else 0) := by
 unfold counter_order
 simp only [cmpS_eq, cmpI_eq, Option.bind_some]
 rw [cmpOr_eq _ (Nat.le_of_ble_eq_true rfl), Option.bind_some]
 simp only [orI]
 cases sLt p.fName c.fName
 ·cases sLt c.fName p.fName
  ·by_cases h1 : p.fAt < c.fAt <;> by_cases h2 : c.fAt < p.fAt <;> simp [h1, h2]
  ·simp
 ·simp
theorem counter_eq (l : List api_Step) : counter_Check l = tracebookref30_Check l := by
 unfold counter_Check tracebookref30_Check
 have h1 : counter_Check_L1 l = tracebookref30_Check_L1 l := by
  funext i
  unfold counter_Check_L1 tracebookref30_Check_L1
  cases e : idx l i with
  | none => rfl
  | some y =>
   simp only [Option.bind_some, ← Name_eq]
   congr 1
   congr 1
   funext r60
   congr 1
   have hv : ∀ n : Int, num_In n = some (decide (-1000000000000000 ≤ n) && decide (n ≤ 1000000000000000)) := by
    intro n; unfold num_In; by_cases h1 : (-1000000000000000 : Int) ≤ n <;> by_cases h2 : n ≤ 1000000000000000 <;> simp [h1, h2]
   rw [hv]
   have e1 : decide (y.fValue < -1000000000000000) = !decide (-1000000000000000 ≤ y.fValue) := by
    by_cases h : (-1000000000000000 : Int) ≤ y.fValue <;> simp [h] <;> omega
   have e2 : decide (1000000000000000 < y.fValue) = !decide (y.fValue ≤ 1000000000000000) := by
    by_cases h : y.fValue ≤ 1000000000000000 <;> simp [h] <;> omega
   rw [e1, e2]
   have e3 : (bif decide (y.fAt < 0) then some true else bif decide (1000000000000 < y.fAt) then some true else (some (decide (-1000000000000000 ≤ y.fValue) && decide (y.fValue ≤ 1000000000000000))).bind fun r74 => some (!r74)) = (bif decide (y.fAt < 0) then some true else bif decide (1000000000000 < y.fAt) then some true else bif !decide (-1000000000000000 ≤ y.fValue) then some true else some (!decide (y.fValue ≤ 1000000000000000))) := by
    simp only [Option.bind_some]
    cases decide (-1000000000000000 ≤ y.fValue) <;> cases decide (y.fValue ≤ 1000000000000000) <;> rfl
   rw [e3]
   congr 1
   funext v61
   congr 1
   have e4 : (bif decide (0 < i) then (idx l (w64 (i - 1))).bind fun y65 => (counter_order y65 y).bind fun r66 => bif decide (0 ≤ r66) then some true else (idx l (w64 (i - 1))).bind fun y68 => bif decide (y68.fName = y.fName) then (idx l (w64 (i - 1))).bind fun y70 => some (decide (y70.fValue = y.fValue)) else some false else some false) = (bif decide (0 < i) then (idx l (w64 (i - 1))).bind fun y93 => bif sLt y.fName y93.fName then some true else (idx l (w64 (i - 1))).bind fun y96 => bif decide (y.fName = y96.fName) then (idx l (w64 (i - 1))).bind fun y99 => bif decide (y.fAt ≤ y99.fAt) then some true else (idx l (w64 (i - 1))).bind fun y102 => some (decide (y.fValue = y102.fValue)) else some false else some false) := by
    congr 1
    cases e5 : idx l (w64 (i - 1)) with
    | none => rfl
    | some p =>
     simp only [Option.bind_some, order_eq]
     cases s1 : sLt p.fName y.fName with
     | true =>
      obtain ⟨s2, s3⟩ := sLt_not s1
      have s4 : ¬ y.fName = p.fName := fun e => s3 e.symm
      simp [s2, s3, s4]
     | false =>
      cases s2 : sLt y.fName p.fName with
      | true => simp
      | false =>
       have s3 := sLt_tri p.fName y.fName
       rw [s1, s2] at s3
       simp at s3
       rw [s3]
       by_cases h1 : p.fAt < y.fAt
       ·have h2 : ¬ y.fAt ≤ p.fAt := by omega
        have h3 : (p.fValue = y.fValue) ↔ (y.fValue = p.fValue) := ⟨Eq.symm, Eq.symm⟩
        simp [h1, h2, h3]
       ·have h2 : y.fAt ≤ p.fAt := by omega
        by_cases h3 : y.fAt < p.fAt <;> simp [h1, h2, h3]
   rw [e4]
 rw [h1] <;> rfl
theorem loop_congr {S ρ : Type} {step step' : S → Option (S ⊕ ρ)} (Inv : S → Prop) (h : ∀ s, Inv s → step s = step' s) (hI : ∀ s s', Inv s → step s = some (.inl s') → Inv s') {s : S} (hs : Inv s) : loop step s = loop step' s := by
 have key : ∀ n s, Inv s → iter step n s = iter step' n s := by
  intro n
  induction n with
  | zero => intro s _; rfl
  | succ n ih =>
   intro s hs
   rw [iter_succ, iter_succ, ← h s hs]
   cases e : step s with
   | none => rfl
   | some x =>
    cases x with
    | inl s' => exact ih s' (hI s s' hs e)
    | inr r => rfl
 exact key _ s hs
theorem span_cond (s : api_Span) : (bif decide (s.fFrom < 0) then some true else bif decide (s.fTo ≤ s.fFrom) then some true else some (decide (1000000000000 < s.fTo))) = (spans_Valid s).bind fun r => some (!r) := by
 rw [spans_Valid_eq, Option.bind_some]
 by_cases h1 : s.fFrom < 0 <;> by_cases h2 : s.fTo ≤ s.fFrom <;> by_cases h3 : 1000000000000 < s.fTo <;> simp [h1, h2, h3] <;> omega
theorem mem_L1 (l : List api_Block) (i : Int) (y : api_Block) (ys : List api_Block) (h : slcPart l 0 i = some ys) (hl : l.length ≤ 9223372036854775807) : loop (memory_Check_L1 y ys) 0 = loop (tracebookref31_Check_L1 l i y) 0 := by
 unfold slcPart at h
 by_cases h0 : 0 ≤ (0 : Int) ∧ 0 ≤ i ∧ i ≤ (l.length : Int)
 ·rw [if_pos h0] at h
  injection h with h
  have hlen : (ys.length : Int) = i := by subst h; simp; omega
  refine loop_congr (fun j => 0 ≤ j) (fun j hj => ?_) (fun j j' hj hs => ?_) (show (0 : Int) ≤ 0 by omega)
  ·unfold memory_Check_L1 tracebookref31_Check_L1
   rw [hlen]
   by_cases hi : j < i
   ·have e : idx ys j = idx l j := by
     subst h
     obtain ⟨n, rfl⟩ := Int.eq_ofNat_of_zero_le hj
     simp only [idx_nat]
     simp [List.getElem?_take]
     omega
    rw [e]
    simp only [hi, decide_true, cond_true]
    cases idx l j with
    | none => rfl
    | some z =>
     simp only [Option.bind_some, tracebookref31_common]
     by_cases g1 : z.fId = y.fId <;> by_cases g2 : z.fSpan.fFrom < y.fSpan.fTo <;> by_cases g3 : y.fSpan.fFrom < z.fSpan.fTo <;> simp [g1, g2, g3]
   ·simp [hi]
  ·unfold memory_Check_L1 at hs
   by_cases hi : j < (ys.length : Int)
   ·simp only [hi, decide_true, cond_true] at hs
    obtain ⟨z, _, hs⟩ := bB hs
    obtain ⟨v, _, hs⟩ := bB hs
    cases v
    ·simp only [cond_false, Option.some.injEq, Sum.inl.injEq] at hs
     subst hs
     rw [w64_of (by omega)]; omega
    ·simp at hs
   ·simp [hi] at hs
 ·rw [if_neg h0] at h; simp at h
theorem loop_congr_up {ρ : Type} {step step' : Int → Option (Int ⊕ ρ)} (n : Nat) (h1 : ∀ i : Int, 0 ≤ i → i ≤ n → Ok (step i) (InlR (fun a => i < n ∧ a = i + 1) Yes)) (h2 : ∀ i : Int, 0 ≤ i → i ≤ n → step i = step' i) : loop step 0 = loop step' 0 := by
 refine loop_congr (fun i : Int => 0 ≤ i ∧ i ≤ n) (fun i hi => h2 i hi.1 hi.2) (fun i j hi hs => ?_) ⟨by omega, by omega⟩
 have := (h1 i hi.1 hi.2).of_eq hs
 obtain ⟨h3, h4⟩ : i < n ∧ j = i + 1 := this
 omega
theorem mem_L2_up (l : List api_Block) (h : l.length ≤ 9223372036854775807) (hx : ∀ x ∈ l, x.fStack.length ≤ 9223372036854775807 ∧ ∀ y ∈ x.fStack, okN y) (i : Int) (h1 : 0 ≤ i) (h2 : i ≤ l.length) : Ok (memory_Check_L2 l i) (InlR (fun a => i < l.length ∧ a = i + 1) Yes) := by
 unfold memory_Check_L2
 refine ok_ite (fun hi => ?_) (fun _ => ok_inrY)
 refine ok_bind (ok_idx h1 hi) (fun y hy => ?_)
 refine ok_bind (Q := Yes) (by repeat' (first | (with_reducible first | exact ok_yes | exact ok_inrY | exact ok_inlY | refine ok_nite (fun _ => ?_) fun _ => ?_ | refine ok_ite (fun _ => ?_) fun _ => ?_ | refine ok_not (fun _ => ?_) fun _ => ?_ | refine ok_cond (fun _ => ?_) fun _ => ?_) | (with_reducible refine ok_next ?_ ?_ ?_ <;> (first | assumption | omega | rw [w64_of] <;> omega)) | with_reducible refine ok_bind (ok_idx (by (first | assumption | omega | rw [w64_of] <;> omega)) (by (first | assumption | omega | rw [w64_of] <;> omega))) (fun _ _ => ?_) | (with_reducible refine Ok.yes (spans_Valid_ok _) <;> (first | assumption | omega | rw [w64_of] <;> omega)) | (with_reducible refine ok_bind (Q := Yes) ?_ fun _ _ => ?_) | dsimp only)) (fun v _ => ?_)
 refine ok_cond (fun _ => ok_inrY) (fun _ => ?_)
 refine ok_bind (Q := Yes) (intern_Frames_ok _ (hx _ (List.mem_of_getElem? hy)).1 (hx _ (List.mem_of_getElem? hy)).2) (fun v _ => ?_)
 refine ok_nite (fun _ => ok_inrY) (fun _ => ?_)
 refine ok_bind (Q := Yes) (by repeat' (first | (with_reducible first | exact ok_yes | exact ok_inrY | exact ok_inlY | refine ok_nite (fun _ => ?_) fun _ => ?_ | refine ok_ite (fun _ => ?_) fun _ => ?_ | refine ok_not (fun _ => ?_) fun _ => ?_ | refine ok_cond (fun _ => ?_) fun _ => ?_) | (with_reducible refine ok_next ?_ ?_ ?_ <;> (first | assumption | omega | rw [w64_of] <;> omega)) | with_reducible refine ok_bind (ok_idx (by (first | assumption | omega | rw [w64_of] <;> omega)) (by (first | assumption | omega | rw [w64_of] <;> omega))) (fun _ _ => ?_) | (with_reducible refine ok_bind (Q := Yes) ?_ fun _ _ => ?_) | dsimp only)) (fun v _ => ?_)
 refine ok_cond (fun _ => ok_inrY) (fun _ => ?_)
 refine ok_bind (Q := fun ys => ys.length ≤ 9223372036854775807) ?_ (fun ys hys => ?_)
 ·unfold slcPart
  rw [if_pos ⟨by omega, by omega, by omega⟩]
  exact ok_some (by simp; omega)
 refine ok_bindS (Q := InlR Yes (InlR (fun _ => False) Yes)) (ok_up ys.length hys fun j h3 h4 => ?_) (fun _ _ => ok_next h1 hi h) (fun r hr => ?_)
 ·unfold memory_Check_L1
  refine ok_ite (fun hj => ?_) (fun _ => ok_inr trivial)
  refine ok_bind (ok_idx h3 hj) (fun z hz => ?_)
  refine ok_bind (Q := Yes) (by repeat' (first | (with_reducible first | exact ok_yes | exact ok_inrY | exact ok_inlY | refine ok_nite (fun _ => ?_) fun _ => ?_ | refine ok_ite (fun _ => ?_) fun _ => ?_ | refine ok_not (fun _ => ?_) fun _ => ?_ | refine ok_cond (fun _ => ?_) fun _ => ?_) | (with_reducible refine ok_next ?_ ?_ ?_ <;> (first | assumption | omega | rw [w64_of] <;> omega)) | with_reducible refine ok_bind (ok_idx (by (first | assumption | omega | rw [w64_of] <;> omega)) (by (first | assumption | omega | rw [w64_of] <;> omega))) (fun _ _ => ?_) | (with_reducible refine ok_bind (Q := Yes) ?_ fun _ _ => ?_) | dsimp only)) (fun v _ => ?_)
  refine ok_cond (fun _ => ok_inr trivial) (fun _ => ok_next h3 hj hys)
 ·rcases r with r | r
  ·exact (hr : False).elim
  ·exact ok_inrY
theorem memory_step (l : List api_Block) (hl : l.length ≤ 9223372036854775807) (i : Int) (hi0 : 0 ≤ i) : memory_Check_L2 l i = tracebookref31_Check_L2 l i := by
 unfold memory_Check_L2 tracebookref31_Check_L2
 by_cases hi : i < (l.length : Int)
 ·simp only [hi, decide_true, cond_true]
  cases e : idx l i with
  | none => rfl
  | some y =>
   simp only [Option.bind_some, ← Frames_eq, span_cond]
   congr 1
   funext v144
   congr 1
   congr 1
   funext r145
   congr 1
   congr 1
   funext v146
   congr 1
   have hp : slcPart l 0 i = some ((l.take i.toNat).drop 0) := by
    unfold slcPart; rw [if_pos ⟨by omega, hi0, by omega⟩]; rfl
   rw [hp, Option.bind_some, mem_L1 l i y _ hp hl] <;> rfl
 ·simp [hi]
theorem memory_eq (l : List api_Block) (hl : l.length ≤ 9223372036854775807) (hx : ∀ x ∈ l, x.fStack.length ≤ 9223372036854775807 ∧ ∀ y ∈ x.fStack, okN y) : memory_Check l = tracebookref31_Check l := by
 unfold memory_Check tracebookref31_Check
 have h0 : loop (memory_Check_L2 l) 0 = loop (tracebookref31_Check_L2 l) 0 := by
  refine loop_congr_up l.length (mem_L2_up l hl hx) (step' := tracebookref31_Check_L2 l) (fun i hi0 _ => ?_)
  exact memory_step l hl i hi0
 rw [h0] <;> rfl
theorem compare_eq (a b : api_Slice) : ∃ c, slice_compare a b = some c ∧ tracebookref26_Precedes b a = some (decide (0 < c)) := by
 refine ⟨orI [if a.fSpan.fFrom < b.fSpan.fFrom then -1 else if b.fSpan.fFrom < a.fSpan.fFrom then 1 else 0, if b.fSpan.fTo < a.fSpan.fTo then -1 else if a.fSpan.fTo < b.fSpan.fTo then 1 else 0, if a.fThread < b.fThread then -1 else if b.fThread < a.fThread then 1 else 0], ?_, ?_⟩
 ·unfold slice_compare
  simp only [cmpI_eq, Option.bind_some]
  rw [cmpOr_eq _ (Nat.le_of_ble_eq_true rfl), Option.bind_some]
 ·unfold tracebookref26_Precedes
  simp only [orI]
  by_cases h1 : a.fSpan.fFrom < b.fSpan.fFrom
  ·have h2 : ¬ b.fSpan.fFrom = a.fSpan.fFrom := by omega
   have h3 : ¬ b.fSpan.fFrom < a.fSpan.fFrom := by omega
   simp [h1, h2, h3]
  ·by_cases h2 : b.fSpan.fFrom < a.fSpan.fFrom
   ·have h3 : ¬ b.fSpan.fFrom = a.fSpan.fFrom := by omega
    simp [h1, h2, h3]
   ·have h3 : b.fSpan.fFrom = a.fSpan.fFrom := by omega
    simp only [h1, h2, h3, decide_true, Bool.not_true, cond_false, if_false, if_true]
    by_cases h4 : b.fSpan.fTo < a.fSpan.fTo
    ·have h5 : ¬ b.fSpan.fTo = a.fSpan.fTo := by omega
     have h6 : ¬ a.fSpan.fTo < b.fSpan.fTo := by omega
     simp [h4, h5, h6]
    ·by_cases h5 : a.fSpan.fTo < b.fSpan.fTo
     ·have h6 : ¬ b.fSpan.fTo = a.fSpan.fTo := by omega
      simp [h4, h5, h6]
     ·have h6 : b.fSpan.fTo = a.fSpan.fTo := by omega
      by_cases h7 : a.fThread < b.fThread
      ·have h8 : ¬ b.fThread < a.fThread := by omega
       simp [h6, h7, h8]
      ·by_cases h8 : b.fThread < a.fThread <;> simp [h6, h7, h8]
theorem nested_step (l : List api_Slice) : slice_nested_L1 l = tracebookref26_formed_L3 l := by
 funext i
 unfold slice_nested_L1 tracebookref26_formed_L3
 cases e : idx l i with
 | none => rfl
 | some y =>
  simp only [Option.bind_some]
  congr 1
  by_cases h1 : y.fParent < -1
  ·simp [h1]
  ·by_cases h2 : i ≤ y.fParent
   ·simp [h1, h2]
   ·simp only [h1, h2, decide_false, cond_false, Option.bind_some]
    by_cases h3 : y.fParent = -1
    ·rw [h3]
     by_cases h4 : y.fDepth = 0 <;> simp [h4]
    ·have h5 : 0 ≤ y.fParent := by omega
     simp only [h3, h5, decide_false, decide_true, cond_false, cond_true, Option.bind_some]
     cases idx l y.fParent with
     | none => rfl
     | some z =>
      simp only [Option.bind_some, tracebookref26_contains]
      by_cases g1 : z.fThread = y.fThread <;> by_cases g2 : y.fSpan.fFrom < z.fSpan.fFrom <;> by_cases g3 : z.fSpan.fTo < y.fSpan.fTo <;> by_cases g4 : y.fDepth = w64 (z.fDepth + 1) <;>
       simp [g1, g2, g3, g4, Int.not_lt.1, Int.not_le.2] <;> (first | (rw [show (decide (z.fSpan.fFrom ≤ y.fSpan.fFrom)) = false from decide_eq_false (by omega)]; rfl) | (rw [show (decide (z.fSpan.fFrom ≤ y.fSpan.fFrom)) = true from decide_eq_true (by omega)]; first | rfl | (rw [show (decide (y.fSpan.fTo ≤ z.fSpan.fTo)) = false from decide_eq_false (by omega)]; rfl) | (rw [show (decide (y.fSpan.fTo ≤ z.fSpan.fTo)) = true from decide_eq_true (by omega)]; rfl)) | skip)
inductive Desc (l : List api_Slice) (j : Int) : Int → Prop
 | self : Desc l j j
 | up {a : Int} {y : api_Slice} : 0 ≤ a → l[a.toNat]? = some y → Desc l j y.fParent → Desc l j a
theorem Desc.le {l : List api_Slice} (hu : Up l l.length) {j a : Int} (h : Desc l j a) : j ≤ a := by
 induction h with
 | self => omega
 | up h0 hy _ ih =>
  have := hu _ _ (by have := lt_of_get hy; omega) hy
  omega
theorem Desc.step {l : List api_Slice} {j a : Int} {y : api_Slice} (h0 : 0 ≤ a) (hy : l[a.toNat]? = some y) (hne : j ≠ a) : Desc l j a ↔ Desc l j y.fParent := by
 constructor
 ·intro h
  cases h with
  | self => exact absurd rfl hne
  | up _ hy' h => rw [hy] at hy'; cases hy'; exact h
 ·exact Desc.up h0 hy
theorem under_ok (l : List api_Slice) (h : l.length ≤ 9223372036854775807) (hu : Up l l.length) (j i : Int) (hj : 0 ≤ j) (hi : i < l.length) : Ok (slice_under l j i) (fun r => r = true ↔ Desc l j i) := by
 unfold slice_under
 refine ok_bindS (Q := InlR (fun _ => ¬ Desc l j i) (fun r => r = true ∧ Desc l j i)) (ok_loop (fun s : Int => s < l.length ∧ (Desc l j s ↔ Desc l j i)) (fun s : Int => (s + 1).toNat) (fun s hs => ?_) ⟨hi, Iff.rfl⟩ (by simp [manyRounds]; omega)) (fun _ hq => ok_some ⟨fun e => by simp at e, fun e => absurd e hq⟩) (fun r hr => ok_some ⟨fun _ => hr.2, fun _ => hr.1⟩)
 obtain ⟨h1, h2⟩ := hs
 unfold slice_under_L1
 refine ok_ite (fun h0 => ?_) (fun h0 => ok_inr (fun e => ?_))
 ·refine ok_ite (fun e => ok_inr ⟨rfl, h2.1 (e ▸ Desc.self)⟩) (fun hne => ?_)
  refine ok_bind (ok_idx h0 h1) (fun y hy => ?_)
  have := hu s.toNat y (by omega) hy
  exact ok_inl ⟨⟨by omega, (Desc.step h0 hy hne).symm.trans h2⟩, by omega⟩
 ·have := (h2.2 e).le hu; omega
theorem above_ok (l : List api_Slice) (h : l.length ≤ 9223372036854775807) (hu : Up l l.length) (j i : Int) (hj : 0 ≤ j) (hi : i < l.length) : Ok (tracebookref26_above l j i) (fun r => r = true ↔ Desc l j i) := by
 unfold tracebookref26_above
 refine ok_bind (Q := fun a => (Desc l j a ↔ Desc l j i) ∧ a ≤ j) (ok_loop (fun s : Int => s < l.length ∧ (Desc l j s ↔ Desc l j i)) (fun s : Int => (s + 1).toNat) (fun s hs => ?_) ⟨hi, Iff.rfl⟩ (by simp [manyRounds]; omega)) (fun a ha => ok_some ?_)
 ·obtain ⟨h1, h2⟩ := hs
  unfold tracebookref26_above_L1
  refine ok_bind (Q := fun v => (v = true ↔ 0 ≤ s ∧ j < s)) ?_ (fun v hv => ?_)
  ·by_cases g1 : 0 ≤ s <;> by_cases g2 : j < s <;> simp [g1, g2, Ok]
  ·refine ok_cond (fun e => ?_) (fun e => ok_inr ⟨h2, ?_⟩)
   ·obtain ⟨h0, hlt⟩ := hv.1 e
    refine ok_bind (ok_idx h0 h1) (fun y hy => ?_)
    have := hu s.toNat y (by omega) hy
    exact ok_inl ⟨⟨by omega, (Desc.step h0 hy (by omega)).symm.trans h2⟩, by omega⟩
   ·have : ¬ (0 ≤ s ∧ j < s) := fun hh => by have := hv.2 hh; simp [e] at this
    omega
 ·rw [← ha.1]
  constructor
  ·intro e
   rw [← of_decide_eq_true e]
   exact Desc.self
  ·intro hd
   have := hd.le hu
   exact decide_eq_true (by omega)
def sumTo (l : List api_Slice) (i s0 : Int) : Nat → Int
 | 0 => s0
 | n + 1 => match l[n]? with
  | some z => if z.fParent = i then w64 (sumTo l i s0 n - w64 (z.fSpan.fTo - z.fSpan.fFrom)) else sumTo l i s0 n
  | none => sumTo l i s0 n
def Bad (l : List api_Slice) (j i : Int) (z y : api_Slice) : Prop := z.fThread = y.fThread ∧ y.fSpan.fFrom < z.fSpan.fTo ∧ z.fSpan.fFrom < y.fSpan.fTo ∧ ¬ Desc l j i
def Apart (l : List api_Slice) : Prop := ∀ (i : Nat) y, l[i]? = some y → y.fSelf = sumTo l i (w64 (y.fSpan.fTo - y.fSpan.fFrom)) l.length ∧ ∀ (j : Nat) z, j < i → l[j]? = some z → ¬ Bad l j i z y
def Apart' (l : List api_Slice) : Prop := ∀ (i : Nat) y, l[i]? = some y → y.fSelf = sumTo l i (w64 (y.fSpan.fTo - y.fSpan.fFrom)) l.length ∧ ∀ (j : Nat) z, i < j → l[j]? = some z → ¬ Bad l i j y z
theorem apart_iff (l : List api_Slice) : Apart l ↔ Apart' l := by
 constructor
 ·intro h i y hy
  exact ⟨(h i y hy).1, fun j z hj hz => (h j z hz).2 i y hj hy⟩
 ·intro h i y hy
  exact ⟨(h i y hy).1, fun j z hj hz => (h j z hz).2 i y hj hy⟩
theorem sumTo_step {l : List api_Slice} {i s0 : Int} {n : Nat} {z : api_Slice} (hz : l[n]? = some z) : Ok (bif decide (z.fParent = i) then some (w64 (sumTo l i s0 n - w64 (z.fSpan.fTo - z.fSpan.fFrom))) else some (sumTo l i s0 n)) (fun v => v = sumTo l i s0 (n + 1)) := by
 refine ok_ite (fun e => ok_some ?_) (fun e => ok_some ?_) <;> simp [sumTo, hz, e]
theorem ok_up2N {σ ρ : Type} {step : σ × Int → Option ((σ × Int) ⊕ ρ)} (n : Nat) (Inv : σ → Nat → Prop) {Post : ρ → Prop} (hn : n ≤ 9223372036854775807) {s0 : σ} (h0 : Inv s0 0)
  (h : ∀ (s : σ) (i : Nat), Inv s i → i ≤ n → Ok (step (s, (i : Int))) (InlR (fun a => i < n ∧ a.2 = ((i + 1 : Nat) : Int) ∧ Inv a.1 (i + 1)) Post)) : Ok (loop step (s0, 0)) Post := by
 refine ok_up2 n (fun s i => Inv s i.toNat) hn h0 (fun s i hI h1 h2 => ?_)
 obtain ⟨k, rfl⟩ := Int.eq_ofNat_of_zero_le h1
 refine (h s k hI (by omega)).mono ?_
 rintro (⟨a, b⟩ | b) hr
 ·obtain ⟨h3, h4, h5⟩ : k < n ∧ b = ((k + 1 : Nat) : Int) ∧ Inv a (k + 1) := hr
  refine ⟨by omega, by omega, ?_⟩
  rw [show ((k : Int) + 1).toNat = k + 1 by omega]; exact h5
 ·exact hr
theorem ok_upN {ρ : Type} {step : Int → Option (Int ⊕ ρ)} (n : Nat) (Inv : Nat → Prop) {Post : ρ → Prop} (hn : n ≤ 9223372036854775807) (h0 : Inv 0)
  (h : ∀ i : Nat, Inv i → i ≤ n → Ok (step (i : Int)) (InlR (fun a => i < n ∧ a = ((i + 1 : Nat) : Int) ∧ Inv (i + 1)) Post)) : Ok (loop step 0) Post := by
 refine ok_upI n (fun i => Inv i.toNat) hn h0 (fun i hI h1 h2 => ?_)
 obtain ⟨k, rfl⟩ := Int.eq_ofNat_of_zero_le h1
 refine (h k hI (by omega)).mono ?_
 rintro (b | b) hr
 ·obtain ⟨h3, h4, h5⟩ : k < n ∧ b = ((k + 1 : Nat) : Int) ∧ Inv (k + 1) := hr
  refine ⟨by omega, by omega, ?_⟩
  rw [show ((k : Int) + 1).toNat = k + 1 by omega]; exact h5
 ·exact hr
theorem ok_ixN {α : Type} {xs : List α} {i : Nat} (h : i < xs.length) : Ok (idx xs (i : Int)) (fun y => xs[i]? = some y) := by
 rw [idx_nat]; exact ⟨xs[i], by simp [h], by simp [h]⟩
theorem w64_N {i n : Nat} (h : i < n) (hn : n ≤ 9223372036854775807) : w64 ((i : Int) + 1) = ((i + 1 : Nat) : Int) := by rw [w64_of (by omega)]; omega
theorem apart_ok (l : List api_Slice) (h : l.length ≤ 9223372036854775807) (hu : Up l l.length) : Ok (slice_apart l) (fun b => b = true ↔ Apart l) := by
 unfold slice_apart
 let A : Nat → Prop := fun n => ∀ (i : Nat) y, i < n → l[i]? = some y → y.fSelf = sumTo l i (w64 (y.fSpan.fTo - y.fSpan.fFrom)) l.length ∧ ∀ (j : Nat) z, j < i → l[j]? = some z → ¬ Bad l j i z y
 refine ok_bindS (Q := InlR (fun _ => Apart l) (fun b => b = false ∧ ¬ Apart l)) (ok_upN l.length A h (by intro i y hi; omega) (fun i hI h2 => ?_)) (fun _ hq => ok_some ⟨fun _ => hq, fun _ => rfl⟩) (fun r hr => ok_some ⟨fun e => by rw [hr.1] at e; simp at e, fun e => absurd e hr.2⟩)
 unfold slice_apart_L2
 refine ok_ite (fun hi => ?_) (fun hi => ok_inr (fun i' y hy => hI i' y (by have := lt_of_get hy; omega) hy))
 refine ok_bind (ok_ixN (by omega)) (fun y hy => ?_)
 refine ok_bindS (Q := InlR (fun e => e = sumTo l i (w64 (y.fSpan.fTo - y.fSpan.fFrom)) l.length ∧ ∀ (j : Nat) z, j < i → l[j]? = some z → ¬ Bad l j i z y) (InlR (fun _ => False) (fun r => r = .inr false ∧ ¬ Apart l))) (ok_up2N l.length (fun a n => a = sumTo l i (w64 (y.fSpan.fTo - y.fSpan.fFrom)) n ∧ ∀ (j : Nat) z, j < n → j < i → l[j]? = some z → ¬ Bad l j i z y) h ⟨rfl, by intro j z hj; omega⟩ (fun a j hJ h4 => ?_)) (fun e he => ?_) (fun r hr => ?_)
 ·unfold slice_apart_L1
  dsimp only
  refine ok_ite (fun hj => ?_) (fun hj => ok_inr ⟨?_, fun j' z hj' hz => hJ.2 j' z (by have := lt_of_get hz; omega) hj' hz⟩)
  ·refine ok_bind (ok_ixN (by omega)) (fun z hz => ?_)
   rw [hJ.1]
   refine ok_bind (sumTo_step hz) (fun v hv => ?_)
   refine ok_bind (Q := fun b => b = true ↔ (j < i ∧ Bad l j i z y)) ?_ (fun b hb => ?_)
   ·refine ok_ite (fun h5 => ?_) (fun h5 => ok_some ⟨fun e => by simp at e, fun e => absurd e.1 (by omega)⟩)
    refine ok_ite (fun h6 => ?_) (fun h6 => ok_some ⟨fun e => by simp at e, fun e => absurd e.2.1 h6⟩)
    refine ok_ite (fun h7 => ?_) (fun h7 => ok_some ⟨fun e => by simp at e, fun e => absurd e.2.2.1 h7⟩)
    refine ok_ite (fun h8 => ?_) (fun h8 => ok_some ⟨fun e => by simp at e, fun e => absurd e.2.2.2.1 h8⟩)
    refine ok_bind (under_ok l h hu j i (by omega) (by omega)) (fun r hr => ok_some ?_)
    constructor
    ·intro e
     refine ⟨by omega, h6, h7, h8, fun hd => ?_⟩
     rw [hr.2 hd] at e; simp at e
    ·intro e
     cases r with
     | false => rfl
     | true => exact absurd (hr.1 rfl) e.2.2.2.2
   ·refine ok_cond (fun e => ok_inr ⟨rfl, fun hA => ?_⟩) (fun e => ?_)
    ·obtain ⟨g1, g2⟩ := hb.1 e
     exact (hA i y hy).2 j z g1 hz g2
    ·rw [w64_N (n := l.length) (by omega) h]
     refine ok_inl ⟨by omega, rfl, hv, fun j' z' hj' hji hz' hbad => ?_⟩
     by_cases e2 : j' = j
     ·subst e2; rw [hz] at hz'; cases hz'
      rw [hb.2 ⟨hji, hbad⟩] at e; simp at e
     ·exact hJ.2 j' z' (by omega) hji hz' hbad
  ·rw [hJ.1, show j = l.length by omega]
 ·dsimp only
  refine ok_nite (fun hne => ok_inr ⟨rfl, fun hA => hne ((hA i y hy).1.trans he.1.symm)⟩) (fun heq => ?_)
  rw [w64_N (n := l.length) (by omega) h]
  refine ok_inl ⟨by omega, rfl, fun i' y' hi' hy' => ?_⟩
  by_cases e2 : i' = i
  ·subst e2; rw [hy] at hy'; cases hy'
   exact ⟨heq.trans he.1, he.2⟩
  ·exact hI i' y' (by omega) hy'
 ·rcases r with r | r
  ·exact (hr : False).elim
  ·obtain ⟨e1, e2⟩ : r = .inr false ∧ ¬ Apart l := hr
   subst e1
   exact ok_inr ⟨rfl, e2⟩
theorem formed_ok (l : List api_Slice) (h : l.length ≤ 9223372036854775807) (hu : Up l l.length) : Ok (loop (tracebookref26_formed_L2 l) 0) (fun q => (∃ u, q = .inl u ∧ Apart' l) ∨ (q = .inr false ∧ ¬ Apart' l)) := by
 let A : Nat → Prop := fun n => ∀ (i : Nat) y, i < n → l[i]? = some y → y.fSelf = sumTo l i (w64 (y.fSpan.fTo - y.fSpan.fFrom)) l.length ∧ ∀ (j : Nat) z, i < j → l[j]? = some z → ¬ Bad l i j y z
 refine ok_upN l.length A h (by intro i y hi; omega) (fun i hI h2 => ?_)
 unfold tracebookref26_formed_L2
 refine ok_ite (fun hi => ?_) (fun hi => ok_inr (.inl ⟨(), rfl, fun i' y hy => hI i' y (by have := lt_of_get hy; omega) hy⟩))
 obtain ⟨y, hiy, hy⟩ := ok_ixN (xs := l) (i := i) (by omega)
 simp only [hiy, Option.bind_some]
 refine ok_bindS (Q := InlR (fun e => e = sumTo l i (w64 (y.fSpan.fTo - y.fSpan.fFrom)) l.length ∧ ∀ (j : Nat) z, i < j → l[j]? = some z → ¬ Bad l i j y z) (InlR (fun _ => False) (fun r => r = .inr false ∧ ¬ Apart' l))) (ok_up2N l.length (fun a n => a = sumTo l i (w64 (y.fSpan.fTo - y.fSpan.fFrom)) n ∧ ∀ (j : Nat) z, j < n → i < j → l[j]? = some z → ¬ Bad l i j y z) h ⟨rfl, by intro j z hj; omega⟩ (fun a j hJ h4 => ?_)) (fun e he => ?_) (fun r hr => ?_)
 ·unfold tracebookref26_formed_L1
  dsimp only
  refine ok_ite (fun hj => ?_) (fun hj => ok_inr ⟨?_, fun j' z hj' hz => hJ.2 j' z (by have := lt_of_get hz; omega) hj' hz⟩)
  ·obtain ⟨z, hjz, hz⟩ := ok_ixN (xs := l) (i := j) (by omega)
   simp only [hjz, hiy, Option.bind_some]
   rw [hJ.1]
   refine ok_bind (sumTo_step hz) (fun v hv => ?_)
   refine ok_bind (Q := fun b => b = true ↔ (y.fSpan.fFrom < z.fSpan.fTo ∧ z.fSpan.fFrom < y.fSpan.fTo)) ?_ (fun v9 hv9 => ?_)
   ·by_cases g1 : y.fSpan.fFrom < z.fSpan.fTo <;> by_cases g2 : z.fSpan.fFrom < y.fSpan.fTo <;> simp [g1, g2, Ok]
   refine ok_bind (Q := fun b => b = true ↔ (i < j ∧ Bad l i j y z)) ?_ (fun b hb => ?_)
   ·refine ok_ite (fun h5 => ?_) (fun h5 => ok_some ⟨fun e => by simp at e, fun e => absurd e.1 (by omega)⟩)
    refine ok_ite (fun h6 => ?_) (fun h6 => ok_some ⟨fun e => by simp at e, fun e => absurd e.2.1 h6⟩)
    refine ok_cond (fun h7 => ?_) (fun h7 => ok_some ⟨fun e => by simp at e, fun e => ?_⟩)
    ·refine ok_bind (above_ok l h hu i j (by omega) (by omega)) (fun r hr => ok_some ?_)
     have h8 := hv9.1 h7
     constructor
     ·intro e
      refine ⟨by omega, h6, h8.2, h8.1, fun hd => ?_⟩
      rw [hr.2 hd] at e; simp at e
     ·intro e
      cases r with
      | false => rfl
      | true => exact absurd (hr.1 rfl) e.2.2.2.2
    ·have := hv9.2 ⟨e.2.2.2.1, e.2.2.1⟩
     rw [h7] at this; simp at this
   ·refine ok_cond (fun e => ok_inr ⟨rfl, fun hA => ?_⟩) (fun e => ?_)
    ·obtain ⟨g1, g2⟩ := hb.1 e
     exact (hA i y hy).2 j z g1 hz g2
    ·rw [w64_N (n := l.length) (by omega) h]
     refine ok_inl ⟨by omega, rfl, hv, fun j' z' hj' hji hz' hbad => ?_⟩
     by_cases e2 : j' = j
     ·subst e2; rw [hz] at hz'; cases hz'
      rw [hb.2 ⟨hji, hbad⟩] at e; simp at e
     ·exact hJ.2 j' z' (by omega) hji hz' hbad
  ·rw [hJ.1, show j = l.length by omega]
 ·dsimp only
  refine ok_nite (fun hne => ok_inr (.inr ⟨rfl, fun hA => hne ((hA i y hy).1.trans he.1.symm)⟩)) (fun heq => ?_)
  rw [w64_N (n := l.length) (by omega) h]
  refine ok_inl ⟨by omega, rfl, fun i' y' hi' hy' => ?_⟩
  by_cases e2 : i' = i
  ·subst e2; rw [hy] at hy'; cases hy'
   exact ⟨heq.trans he.1, he.2⟩
  ·exact hI i' y' (by omega) hy'
 ·rcases r with r | r
  ·exact (hr : False).elim
  ·obtain ⟨e1, e2⟩ : r = .inr false ∧ ¬ Apart' l := hr
   subst e1
   exact ok_inr (.inr ⟨rfl, e2⟩)
theorem nested_res {l : List api_Slice} {q : Unit ⊕ Bool} (h : loop (slice_nested_L1 l) 0 = some q) : ∀ x, q = .inr x → x = false := by
 refine loop_res (Q := fun q : Unit ⊕ Bool => ∀ x, q = .inr x → x = false) (fun i r hr => ?_) h
 unfold slice_nested_L1 at hr
 cases h1 : decide (i < (l.length : Int)) with
 | false => rw [h1] at hr; simp at hr; subst hr; intro x hx; cases hx
 | true =>
  rw [h1] at hr
  simp only [cond_true] at hr
  obtain ⟨y, _, hr⟩ := bB hr
  obtain ⟨v, _, hr⟩ := bB hr
  cases v
  ·simp only [cond_false] at hr
   cases h2 : decide (y.fParent = -1) with
   | true =>
    rw [h2] at hr
    simp only [cond_true] at hr
    cases h3 : decide (y.fDepth = 0) <;> simp [h3] at hr
    subst hr; intro x hx; cases hx; rfl
   | false =>
    rw [h2] at hr
    simp only [cond_false] at hr
    obtain ⟨z, _, hr⟩ := bB hr
    obtain ⟨w, _, hr⟩ := bB hr
    cases w <;> simp at hr
    subst hr; intro x hx; cases hx; rfl
  ·simp at hr; subst hr; intro x hx; cases hx; rfl
theorem slice_L1_eq (l : List api_Slice) : slice_Check_L1 l = tracebookref26_Check_L1 l := by
 funext i
 unfold slice_Check_L1 tracebookref26_Check_L1
 cases e : idx l i with
 | none => rfl
 | some y =>
  simp only [Option.bind_some, ← Name_eq, Valid_eq]
  congr 1
  congr 1
  funext v53
  congr 1
  congr 1
  funext r54
  congr 1
  have e4 : (bif decide (0 < i) then (idx l (w64 (i - 1))).bind fun y58 => (slice_compare y58 y).bind fun r59 => some (decide (0 < r59)) else some false) = (bif decide (0 < i) then (idx l (w64 (i - 1))).bind fun y68 => (tracebookref26_Precedes y y68).bind fun r69 => some r69 else some false) := by
   congr 1
   congr 1
   funext p
   obtain ⟨c, h1, h2⟩ := compare_eq p y
   rw [h1, h2]; rfl
  rw [e4]
theorem slice_eq (l : List api_Slice) (h : l.length ≤ 9223372036854775807) : slice_Check l = tracebookref26_Check l := by
 unfold slice_Check tracebookref26_Check
 rw [slice_L1_eq]
 congr 1
 funext q
 cases q with
 | inr x => rfl
 | inl u =>
  obtain ⟨b, hb, hUp⟩ := slice_nested_ok l h
  dsimp only
  rw [hb, Option.bind_some]
  unfold slice_nested at hb
  unfold tracebookref26_formed
  rw [← nested_step]
  obtain ⟨q, hq, hb⟩ := bB hb
  rw [hq, Option.bind_some]
  cases q with
  | inr x =>
   have := nested_res hq x rfl
   subst this
   simp at hb; subst hb
   rfl
  | inl u' =>
   simp at hb; subst hb
   have hu := hUp rfl
   obtain ⟨b1, h1, h2⟩ := apart_ok l h hu
   obtain ⟨q2, h3, h4⟩ := formed_ok l h hu
   simp only [h1, h3, Option.bind_some, Bool.not_true, cond_false]
   rcases h4 with ⟨u2, rfl, h5⟩ | ⟨rfl, h5⟩
   ·rw [h2.2 ((apart_iff l).2 h5)]; rfl
   ·cases b1
    ·rfl
    ·exact absurd ((apart_iff l).1 (h2.1 rfl)) h5
theorem idx_mapO {α β : Type} (f : α → β) (l : List α) (i : Int) : idx (l.map f) i = (idx l i).map f := by
 unfold idx
 split <;> simp
theorem index_eq (l : List api_Thread) (a : Int) : tracebookref27_index l a = slices_Index_int_int (l.map (·.fId)) a := by
 unfold tracebookref27_index slices_Index_int_int
 have h : tracebookref27_index_L1 l a = slices_Index_int_int_L1 (l.map (·.fId)) a := by
  funext i
  unfold tracebookref27_index_L1 slices_Index_int_int_L1
  rw [idx_mapO, List.length_map]
  cases idx l i with
  | none => rfl
  | some y =>
   simp only [Option.map_some, Option.bind_some]
   have : decide (y.fId = a) = decide (a = y.fId) := decide_eq_decide.2 ⟨Eq.symm, Eq.symm⟩
   rw [this]
 rw [h] <;> rfl
def distT (ths : List api_Thread) : Nat → List api_Thread
 | 0 => []
 | n + 1 => match ths[n]? with
  | some y => if slices_Index_int_int ((distT ths n).map (·.fId)) y.fId = some (-1) then distT ths n ++ [y] else distT ths n
  | none => distT ths n
theorem distT_len (ths : List api_Thread) : ∀ n, (distT ths n).length ≤ n
 | 0 => by simp [distT]
 | n + 1 => by
  have := distT_len ths n
  simp only [distT]
  split
  ·split <;> simp <;> omega
  ·omega
theorem Index_rng (ix : List Int) (a : Int) (h : ix.length ≤ 9223372036854775807) : Ok (slices_Index_int_int ix a) (fun r => (r = -1 ∨ 0 ≤ r) ∧ r < ix.length) := by
 unfold slices_Index_int_int
 refine ok_bindS (Q := InlR Yes (fun r : Int => 0 ≤ r ∧ r < ix.length)) (ok_up ix.length h fun i h1 h2 => ?_) (fun _ _ => ok_some ⟨.inl rfl, by omega⟩) (fun r hr => ok_some ?_)
 ·unfold slices_Index_int_int_L1
  refine ok_ite (fun hi => ?_) (fun _ => ok_inr trivial)
  refine ok_bind (ok_idx h1 hi) (fun y hy => ?_)
  exact ok_ite (fun e => ok_inr ⟨h1, hi⟩) (fun _ => ok_next h1 hi h)
 ·have hr' : 0 ≤ r ∧ r < ix.length := hr
  exact ⟨.inr hr'.1, hr'.2⟩
theorem distinct_p (ths : List api_Thread) (h : ths.length ≤ 1000000) : state_distinct ths = some ((distT ths ths.length).map (·.fId)) := by
 have : Ok (state_distinct ths) (fun r => r = (distT ths ths.length).map (·.fId)) := by
  unfold state_distinct
  refine ok_bind (Q := fun r => r = (distT ths ths.length).map (·.fId)) (ok_up2N ths.length (fun a n => a = (distT ths n).map (·.fId)) (by omega) rfl (fun a i hI h2 => ?_)) (fun r hr => ok_some hr)
  unfold state_distinct_L1
  dsimp only
  subst hI
  have hlen := distT_len ths i
  refine ok_ite (fun hi => ?_) (fun hi => ok_inr (by rw [show i = ths.length by omega]))
  refine ok_bind (Q := fun r => r = (distT ths (i + 1)).map (·.fId)) ?_ (fun r hr => ?_)
  ·obtain ⟨y, hiy, hy⟩ := ok_ixN (xs := ths) (i := i) (by omega)
   rw [hiy, Option.bind_some]
   unfold slices_Contains_int_int
   obtain ⟨x, hx, hx1, hx2⟩ := Index_rng ((distT ths i).map (·.fId)) y.fId (by simp; omega)
   rw [hx]
   simp only [Option.bind_some, distT, hy, hx]
   rcases hx1 with rfl | hx1
   ·rw [room_ok (by simp; omega) (by simp; omega)]
    exact ok_some (by simp)
   ·have : ¬ x = -1 := by omega
    simp only [hx1, decide_true, Bool.not_true, cond_false]
    exact ok_some (by simp [this])
  ·rw [w64_N (n := ths.length) (by omega) (by omega)]
   exact ok_inl ⟨by omega, rfl, hr⟩
 obtain ⟨r, h1, h2⟩ := this
 rw [h1, h2]
theorem distinct_r (ths : List api_Thread) (h : ths.length ≤ 1000000) : tracebookref27_distinct ths = some (distT ths ths.length) := by
 have : Ok (tracebookref27_distinct ths) (fun r => r = distT ths ths.length) := by
  unfold tracebookref27_distinct
  refine ok_bind (Q := fun r => r = distT ths ths.length) (ok_up2N ths.length (fun a n => a = distT ths n) (by omega) rfl (fun a i hI h2 => ?_)) (fun r hr => ok_some hr)
  unfold tracebookref27_distinct_L1
  dsimp only
  subst hI
  have hlen := distT_len ths i
  refine ok_ite (fun hi => ?_) (fun hi => ok_inr (by rw [show i = ths.length by omega]))
  refine ok_bind (Q := fun r => r = distT ths (i + 1)) ?_ (fun r hr => ?_)
  ·obtain ⟨y, hiy, hy⟩ := ok_ixN (xs := ths) (i := i) (by omega)
   rw [hiy, Option.bind_some, index_eq]
   obtain ⟨x, hx, hx1, hx2⟩ := Index_rng ((distT ths i).map (·.fId)) y.fId (by simp; omega)
   rw [hx]
   simp only [Option.bind_some, distT, hy, hx]
   rcases hx1 with rfl | hx1
   ·rw [room_ok (by simp; omega) (by simp; omega)]
    exact ok_some (by simp)
   ·have e1 : ¬ x = -1 := by omega
    have e2 : ¬ x < 0 := by omega
    simp only [e2, decide_false, cond_false]
    exact ok_some (by simp [e1])
  ·rw [w64_N (n := ths.length) (by omega) (by omega)]
   exact ok_inl ⟨by omega, rfl, hr⟩
 obtain ⟨r, h1, h2⟩ := this
 rw [h1, h2]
theorem right_eq (s : api_State) : tracebookref27_right s = state_fields s := by
 unfold tracebookref27_right state_fields
 have e : decide (63 < s.fCpu) = decide (64 ≤ s.fCpu) := decide_eq_decide.2 (by omega)
 rw [e]
 generalize decide (s.fState < 0) = a1
 generalize decide (5 < s.fState) = a2
 generalize decide (s.fState = 4) = a3
 generalize decide (s.fCpu < 0) = a4
 generalize decide (64 ≤ s.fCpu) = a5
 generalize decide (s.fCpu = -1) = a6
 generalize decide (s.fState = 2) = a7
 generalize decide (s.fOn < 0) = a8
 generalize decide (1000000000000000 < s.fOn) = a9
 generalize decide (s.fOn = -1) = a10
 generalize decide (s.fBy = -1) = a11
 generalize decide (0 ≤ s.fBy) = a12
 generalize decide (s.fBy ≤ 1000000000000000) = a13
 generalize decide (s.fState = 1) = a14
 cases a14 <;> cases a7 <;> cases a3 <;> cases a1 <;> first
  | rfl
  | (cases a2 <;> first
   | rfl
   | (cases a4 <;> cases a5 <;> cases a6 <;> first
    | rfl
    | (cases a8 <;> cases a9 <;> cases a10 <;> first
     | rfl
     | (cases a11 <;> cases a12 <;> cases a13 <;> rfl))))
theorem same_eq (a b : api_State) : (bif decide (b.fState = a.fState) then bif decide (b.fCpu = a.fCpu) then some (decide (b.fOn = a.fOn)) else some false else some false) = state_same a b := by
 unfold state_same
 by_cases h1 : a.fState = b.fState <;> by_cases h2 : a.fCpu = b.fCpu <;> by_cases h3 : a.fOn = b.fOn <;> simp [h1, h2, h3, Ne.symm, eq_comm] <;> simp_all [eq_comm]
theorem loop_congr_up2 {σ ρ : Type} {step step' : σ × Int → Option ((σ × Int) ⊕ ρ)} (n : Nat) (Inv : σ → Int → Prop) {s0 : σ} (h0 : Inv s0 0) (h1 : ∀ (s : σ) (i : Int), Inv s i → 0 ≤ i → i ≤ n → Ok (step (s, i)) (InlR (fun a => i < n ∧ a.2 = i + 1 ∧ Inv a.1 (i + 1)) Yes)) (h2 : ∀ (s : σ) (i : Int), Inv s i → 0 ≤ i → i ≤ n → step (s, i) = step' (s, i)) : loop step (s0, 0) = loop step' (s0, 0) := by
 refine loop_congr (fun s : σ × Int => Inv s.1 s.2 ∧ 0 ≤ s.2 ∧ s.2 ≤ n) (fun s hi => h2 s.1 s.2 hi.1 hi.2.1 hi.2.2) (fun s s' hi hs => ?_) ⟨h0, by simp, by simp⟩
 obtain ⟨a, j⟩ := s'
 have := (h1 s.1 s.2 hi.1 hi.2.1 hi.2.2).of_eq hs
 obtain ⟨h3, h4, h5⟩ : s.2 < n ∧ j = s.2 + 1 ∧ Inv a (s.2 + 1) := this
 subst h4
 exact ⟨h5, by simp; omega, by simp; omega⟩
structure AtIx (l : List api_State) (ix : List Int) (a i : Int) : Prop where
 z : i = 0 → a = -1
 p : 0 < i → ∀ s, l[(i - 1).toNat]? = some s → slices_Index_int_int ix s.fThread = some a ∧ 0 ≤ a
 r : -1 ≤ a ∧ a < ix.length
theorem AtIx.next {l : List api_State} {ix : List Int} (hx : ix.length ≤ 1000000) {i x : Int} (h0 : 0 ≤ i) {y : api_State} (hy : l[i.toNat]? = some y) (hi : slices_Index_int_int ix y.fThread = some x) (hp : 0 ≤ x) : AtIx l ix x (i + 1) := by
 have := (slices_Index_int_int_lt ix y.fThread (by omega)).of_eq hi
 exact ⟨by omega, fun _ s hs => by rw [show i + 1 - 1 = i by omega, hy] at hs; cases hs; exact ⟨hi, hp⟩, by omega, this.2⟩
theorem state_L2_up (l : List api_State) (ix : List Int) (hl : l.length ≤ 9223372036854775807) (hx : ix.length ≤ 1000000) (a i : Int) (H : AtIx l ix a i) (h1 : 0 ≤ i) (h2 : i ≤ l.length) : Ok (state_Check_L2 l ix (a, i)) (InlR (fun s : Int × Int => i < (l.length : Int) ∧ s.2 = i + 1 ∧ AtIx l ix s.1 (i + 1)) (InlR (fun e : Int => -1 ≤ e ∧ e < (ix.length : Int)) Yes)) := by
 unfold state_Check_L2
 dsimp only
 have no : ∀ n : Int, InlR (fun s : Int × Int => i < (l.length : Int) ∧ s.2 = i + 1 ∧ AtIx l ix s.1 (i + 1)) (InlR (fun e : Int => -1 ≤ e ∧ e < (ix.length : Int)) Yes) (.inr (.inr n)) := fun _ => trivial
 refine ok_ite (fun hi => ?_) (fun _ => ok_inr H.r)
 refine ok_bind (ok_idx h1 hi) (fun y hy => ?_)
 refine ok_bindE (slices_Index_int_int_ok ix y.fThread (by omega)) (fun x hxx => ?_)
 refine ok_ite (fun _ => ⟨_, rfl, no _⟩) (fun h0 => ?_)
 refine ok_bind (spans_Valid_ok y.fSpan) (fun v _ => ?_)
 refine ok_not (fun _ => ⟨_, rfl, no _⟩) (fun _ => ?_)
 refine ok_bind (state_fields_ok y) (fun _ _ => ?_)
 refine ok_not (fun _ => ⟨_, rfl, no _⟩) (fun _ => ?_)
 refine ok_bind (Q := Yes) ?_ (fun v1 _ => ?_)
 ·refine ok_ite (fun e => ?_) (fun _ => ok_yes)
  have hpos : 0 < i := by
   by_cases e0 : i = 0
   ·have := H.z e0; omega
   ·omega
  rw [show w64 (i - 1) = i - 1 from w64_of (by omega)]
  refine ok_bind (ok_idx (by omega) (by omega)) (fun z hz => ?_)
  refine ok_nite (fun _ => ok_yes) (fun _ => ?_)
  refine ok_bind (ok_idx (by omega) (by omega)) (fun z' hz' => ?_)
  exact ok_bind (state_same_ok _ _) (fun _ _ => ok_yes)
 refine ok_cond (fun _ => ⟨_, rfl, no _⟩) (fun _ => ?_)
 refine ok_bind (Q := Yes) (by repeat' (first | (with_reducible first | exact ok_yes | exact ok_inrY | exact ok_inlY | refine ok_nite (fun _ => ?_) fun _ => ?_ | refine ok_ite (fun _ => ?_) fun _ => ?_ | refine ok_not (fun _ => ?_) fun _ => ?_ | refine ok_cond (fun _ => ?_) fun _ => ?_) | (with_reducible refine ok_next ?_ ?_ ?_ <;> (first | assumption | omega | rw [w64_of] <;> omega)) | with_reducible refine ok_bind (ok_idx (by (first | assumption | omega | rw [w64_of] <;> omega)) (by (first | assumption | omega | rw [w64_of] <;> omega))) (fun _ _ => ?_) | (with_reducible refine ok_bind (Q := Yes) ?_ fun _ _ => ?_) | dsimp only)) (fun v2 _ => ?_)
 refine ok_cond (fun _ => ⟨_, rfl, no _⟩) (fun _ => ?_)
 exact ok_inl ⟨hi, w64_of (by omega), AtIx.next hx h1 hy hxx (by omega)⟩
theorem state_L2_eq (l : List api_State) (ths : List api_Thread) (hl : l.length ≤ 9223372036854775807) (hx : ths.length ≤ 1000000) (a i : Int) (H : AtIx l (ths.map (·.fId)) a i) (h1 : 0 ≤ i) (h2 : i ≤ l.length) : state_Check_L2 l (ths.map (·.fId)) (a, i) = tracebookref27_Check_L2 l ths (a, i) := by
 unfold state_Check_L2 tracebookref27_Check_L2
 dsimp only
 by_cases hi : i < (l.length : Int)
 ·simp only [hi, decide_true, cond_true]
  obtain ⟨y, hiy, hy⟩ := ok_idx h1 hi
  simp only [hiy, Option.bind_some, index_eq, Valid_eq, right_eq]
  obtain ⟨x, hx0, _⟩ := slices_Index_int_int_ok (ths.map (·.fId)) y.fThread (by simp; omega)
  rw [hx0, Option.bind_some, Option.bind_some]
  by_cases hx1 : x < 0
  ·simp [hx1]
  ·simp only [hx1, decide_false, cond_false]
   congr 1
   funext v
   congr 1
   congr 1
   funext w
   congr 1
   have hxl := (slices_Index_int_int_lt (ths.map (·.fId)) y.fThread (by simp; omega)).of_eq hx0
   by_cases h0 : 0 < i
   ·rw [show w64 (i - 1) = i - 1 from w64_of (by omega)]
    obtain ⟨p, hip, hp⟩ := ok_idx (xs := l) (i := i - 1) (by omega) (by omega)
    obtain ⟨hpa, ha0⟩ := H.p h0 p hp
    have hpl := (slices_Index_int_int_lt (ths.map (·.fId)) p.fThread (by simp; omega)).of_eq hpa
    simp only [hip, h0, decide_true, cond_true, Option.bind_some]
    by_cases ht : p.fThread = y.fThread
    ·have hxa : x = a := by rw [ht, hx0] at hpa; cases hpa; rfl
     subst hxa
     simp only [ht, decide_true, cond_true, Bool.not_true, cond_false, Option.bind_some]
     rw [← same_eq]
     by_cases g1 : y.fSpan.fFrom = p.fSpan.fTo
     ·have g2 : p.fSpan.fTo = y.fSpan.fFrom := g1.symm
      simp only [decide_eq_true g1, decide_eq_true g2, Bool.not_true, cond_false]
      by_cases g3 : p.fState = y.fState <;> by_cases g4 : p.fCpu = y.fCpu <;> by_cases g5 : p.fOn = y.fOn <;> simp [g3, g4, g5]
     ·have g2 : ¬ p.fSpan.fTo = y.fSpan.fFrom := fun e => g1 e.symm
      simp [g1, g2]
    ·have hxa : ¬ x = a := by
      intro e
      subst e
      have e1 := hxl.1 (by omega)
      have e2 := hpl.1 (by omega)
      rw [e1] at e2
      exact ht (Option.some.inj e2).symm
     simp only [ht, hxa, decide_false, cond_false, Bool.not_false, cond_true, Option.bind_some]
     by_cases g1 : x = w64 (a + 1) <;> by_cases g2 : y.fSpan.fFrom = 0 <;> simp [g1, g2]
   ·have e0 : i = 0 := by omega
    have ea := H.z e0
    have hxa : ¬ x = a := by omega
    simp only [h0, hxa, decide_false, cond_false, Bool.not_false, cond_true, Option.bind_some]
    by_cases g1 : x = w64 (a + 1) <;> by_cases g2 : y.fSpan.fFrom = 0 <;> simp [g1, g2]
 ·simp [hi]
def EndA (l : List api_State) (e : Int) : Prop := ∀ (i : Nat) s s', l[i]? = some s → l[i + 1]? = some s' → s'.fThread ≠ s.fThread → s.fSpan.fTo = e
theorem endP_ok (l : List api_State) (hl : l.length ≤ 9223372036854775807) (y : api_State) (hy : l[l.length - 1]? = some y) : Ok (loop (state_Check_L1 l y) 0) (fun q => (∃ u, q = .inl u ∧ EndA l y.fSpan.fTo) ∨ (q = .inr 11 ∧ ¬ EndA l y.fSpan.fTo)) := by
 refine ok_upN l.length (fun n => ∀ (i : Nat) s s', i < n → l[i]? = some s → l[i + 1]? = some s' → s'.fThread ≠ s.fThread → s.fSpan.fTo = y.fSpan.fTo) hl (by intro i s s' hi; omega) (fun i hI h2 => ?_)
 unfold state_Check_L1
 refine ok_ite (fun hi => ?_) (fun hi => ok_inr (.inl ⟨(), rfl, fun i' s s' hs hs' => hI i' s s' (by have := lt_of_get hs; omega) hs hs'⟩))
 obtain ⟨z, hiz, hz⟩ := ok_ixN (xs := l) (i := i) (by omega)
 rw [hiz, Option.bind_some, w64_N (n := l.length) (by omega) hl]
 have nx : (∀ s', l[i + 1]? = some s' → s'.fThread ≠ z.fThread → z.fSpan.fTo = y.fSpan.fTo) → ∀ (i' : Nat) s s', i' < i + 1 → l[i']? = some s → l[i' + 1]? = some s' → s'.fThread ≠ s.fThread → s.fSpan.fTo = y.fSpan.fTo := by
  intro h i' s s' hi' hs hs' hne
  by_cases e : i' = i
  ·subst e; rw [hz] at hs; cases hs; exact h s' hs' hne
  ·exact hI i' s s' (by omega) hs hs' hne
 by_cases hlast : i + 1 = l.length
 ·have e1 : (((i + 1 : Nat) : Int) = (l.length : Int)) := by omega
  have e2 : z = y := by
   rw [show l.length - 1 = i by omega, hz] at hy; exact Option.some.inj hy
  subst e2
  simp only [e1, decide_true, cond_true, Option.bind_some, Bool.not_true, cond_false]
  refine ok_inl ⟨by omega, by omega, nx (fun s' hs' => ?_)⟩
  have := lt_of_get hs'; omega
 ·have e1 : ¬ (((i + 1 : Nat) : Int) = (l.length : Int)) := by omega
  obtain ⟨s', his, hs'⟩ := ok_ixN (xs := l) (i := i + 1) (by omega)
  simp only [e1, his, decide_false, cond_false, Option.bind_some]
  by_cases g1 : s'.fThread = z.fThread
  ·simp only [g1, decide_true, Bool.not_true, cond_false, Option.bind_some]
   refine ok_inl ⟨by omega, rfl, nx (fun s'' hs'' hne => ?_)⟩
   rw [hs'] at hs''; cases hs''; exact absurd g1 hne
  ·by_cases g2 : z.fSpan.fTo = y.fSpan.fTo
   ·simp only [g1, g2, decide_true, decide_false, Bool.not_true, Bool.not_false, cond_true, cond_false, Option.bind_some]
    exact ok_inl ⟨by omega, rfl, nx (fun s'' hs'' hne => g2)⟩
   ·simp only [g1, g2, decide_false, Bool.not_false, cond_true, Option.bind_some]
    exact ok_inr (.inr ⟨rfl, fun hA => g2 (hA i z s' hz hs' g1)⟩)
theorem endR_ok (l : List api_State) (hl : l.length ≤ 9223372036854775807) (y : api_State) (hy : l[l.length - 1]? = some y) (h0 : 0 < l.length) : Ok (loop (tracebookref27_Check_L1 l) 1) (fun q => (∃ u, q = .inl u ∧ EndA l y.fSpan.fTo) ∨ (q = .inr 11 ∧ ¬ EndA l y.fSpan.fTo)) := by
 refine ok_loop (fun i : Int => 1 ≤ i ∧ i ≤ l.length ∧ ∀ (k : Nat) s s', (k : Int) + 1 < i → l[k]? = some s → l[k + 1]? = some s' → s'.fThread ≠ s.fThread → s.fSpan.fTo = y.fSpan.fTo) (fun i : Int => ((l.length : Int) - i).toNat) (fun i hi => ?_) ⟨by omega, by omega, by intro k s s' hk; omega⟩ (by simp [manyRounds]; omega)
 obtain ⟨h1, h2, hI⟩ := hi
 unfold tracebookref27_Check_L1
 refine ok_ite (fun hi => ?_) (fun hi => ok_inr (.inl ⟨(), rfl, fun i' s s' hs hs' => hI i' s s' (by have := lt_of_get hs'; omega) hs hs'⟩))
 rw [show w64 (i - 1) = i - 1 from w64_of (by omega), show w64 (i + 1) = i + 1 from w64_of (by omega), show w64 ((l.length : Int) - 1) = (l.length : Int) - 1 from w64_of (by omega)]
 obtain ⟨s', his, hs'⟩ := ok_idx (xs := l) (i := i) (by omega) hi
 obtain ⟨z, hiz, hz⟩ := ok_idx (xs := l) (i := i - 1) (by omega) (by omega)
 obtain ⟨y', hiy, hy'⟩ := ok_idx (xs := l) (i := (l.length : Int) - 1) (by omega) (by omega)
 have ey : y' = y := by
  rw [show ((l.length : Int) - 1).toNat = l.length - 1 by omega, hy] at hy'; exact (Option.some.inj hy').symm
 subst ey
 simp only [his, hiz, hiy, Option.bind_some]
 have hz' : l[(i - 1).toNat + 1]? = some s' := by rw [show (i - 1).toNat + 1 = i.toNat by omega]; exact hs'
 have nx : (s'.fThread ≠ z.fThread → z.fSpan.fTo = y'.fSpan.fTo) → ∀ (k : Nat) s s'', (k : Int) + 1 < i + 1 → l[k]? = some s → l[k + 1]? = some s'' → s''.fThread ≠ s.fThread → s.fSpan.fTo = y'.fSpan.fTo := by
  intro h k s s'' hk hs hs'' hne
  by_cases e : (k : Int) + 1 = i
  ·have : (i - 1).toNat = k := by omega
   rw [this] at hz hz'
   rw [hz] at hs; rw [hz'] at hs''; cases hs; cases hs''
   exact h hne
  ·exact hI k s s'' (by omega) hs hs'' hne
 by_cases g1 : s'.fThread = z.fThread
 ·simp only [g1, decide_true, Bool.not_true, cond_false, Option.bind_some]
  exact ok_inl ⟨⟨by omega, by omega, nx (fun hne => absurd g1 hne)⟩, by omega⟩
 ·by_cases g2 : z.fSpan.fTo = y'.fSpan.fTo
  ·simp only [g1, g2, decide_true, decide_false, Bool.not_true, Bool.not_false, cond_true, cond_false, Option.bind_some]
   exact ok_inl ⟨⟨by omega, by omega, nx (fun _ => g2)⟩, by omega⟩
  ·simp only [g1, g2, decide_false, Bool.not_false, cond_true, Option.bind_some]
   exact ok_inr (.inr ⟨rfl, fun hA => g2 (hA _ z s' hz hz' g1)⟩)
theorem state_eq (ths : List api_Thread) (l : List api_State) (hx : ths.length ≤ 1000000) (hl : l.length ≤ 9223372036854775807) : state_Check ths l = tracebookref27_Check ths l := by
 unfold state_Check tracebookref27_Check
 rw [distinct_p ths hx, distinct_r ths hx, Option.bind_some, Option.bind_some]
 have hdl := distT_len ths ths.length
 generalize distT ths ths.length = ds at *
 have hds : ds.length ≤ 1000000 := by omega
 have hdm : (ds.map (·.fId)).length ≤ 1000000 := by simpa using hds
 have h0 : AtIx l (ds.map (·.fId)) (-1) 0 := ⟨fun _ => rfl, by omega, by omega⟩
 have hloop : loop (state_Check_L2 l (ds.map (·.fId))) (-1, 0) = loop (tracebookref27_Check_L2 l ds) (-1, 0) :=
  loop_congr_up2 l.length (AtIx l (ds.map (·.fId))) h0 (fun a i hI h1 h2 => (state_L2_up l _ hl hdm a i hI h1 h2).mono (by
   rintro (s | r) hs
   ·exact hs
   ·trivial)) (fun a i hI h1 h2 => state_L2_eq l ds hl hds a i hI h1 h2)
 obtain ⟨q, hq, hpost⟩ : Ok (loop (state_Check_L2 l (ds.map (·.fId))) (-1, 0)) (InlR (fun e : Int => -1 ≤ e ∧ e < ((ds.map (·.fId)).length : Int)) Yes) :=
  ok_up2 l.length (AtIx l (ds.map (·.fId))) hl h0 (fun a i hI h1 h2 => state_L2_up l _ hl hdm a i hI h1 h2)
 by_cases hn : l.length = 0
 ·have e : l = [] := List.length_eq_zero_iff.1 hn
  subst e
  have : loop (state_Check_L2 [] (ds.map (·.fId))) (-1, 0) = some (.inl (-1)) := by
   have : Ok (loop (state_Check_L2 [] (ds.map (·.fId))) (-1, 0)) (fun q => q = .inl (-1)) := by
    refine ok_loop (fun s => s = (-1, 0)) (fun _ => 0) (fun s hs => ?_) rfl (by simp [manyRounds])
    subst hs
    unfold state_Check_L2
    simp
    exact ok_inr rfl
   obtain ⟨r, h1, h2⟩ := this
   rw [h1, h2]
  rw [this]
  rfl
 ·have hn' : ¬ ((l.length : Int) = 0) := by omega
  simp only [hn', decide_false, cond_false]
  rw [← hloop, hq]
  cases q with
  | inr r => rfl
  | inl e =>
   have he : -1 ≤ e ∧ e < ((ds.map (·.fId)).length : Int) := hpost
   simp at he
   dsimp only [Option.bind_some]
   rw [show w64 ((l.length : Int) - 1) = (l.length : Int) - 1 from w64_of (by omega)]
   obtain ⟨y, hiy, hy⟩ := ok_idx (xs := l) (i := (l.length : Int) - 1) (by omega) (by omega)
   have hy' : l[l.length - 1]? = some y := by rw [show l.length - 1 = ((l.length : Int) - 1).toNat by omega]; exact hy
   rw [hiy]
   dsimp only [Option.bind_some]
   obtain ⟨q1, hq1, hp1⟩ := endP_ok l hl y hy'
   obtain ⟨q2, hq2, hp2⟩ := endR_ok l hl y hy' (by omega)
   rw [hq1, hq2]
   have e1 : decide (w64 (e + 1) = ((ds.map (·.fId)).length : Int)) = decide (e = w64 ((ds.length : Int) - 1)) := by
    rw [w64_of (n := e + 1) (by omega), w64_of (n := (ds.length : Int) - 1) (by omega), List.length_map]
    exact decide_eq_decide.2 (by omega)
   rw [e1]
   rcases hp1 with ⟨u, rfl, g1⟩ | ⟨rfl, g1⟩ <;> rcases hp2 with ⟨u', rfl, g2⟩ | ⟨rfl, g2⟩
   ·rfl
   ·exact absurd g1 g2
   ·exact absurd g2 g1
   ·cases decide (e = w64 ((ds.length : Int) - 1)) <;> rfl
theorem firstL_at {α ρ : Type} {g : Nat → α → Option ρ} {r : ρ} : ∀ {xs : List α} {i j : Nat} {y : α}, xs[j]? = some y → g (i + j) y = some r → (∀ k z, k < j → xs[k]? = some z → g (i + k) z = none) → firstL g xs i = some r
 | [], i, j, y, h, _, _ => by simp at h
 | x :: xs, i, j, y, h, h1, h2 => by
  simp only [firstL]
  cases j with
  | zero =>
   simp at h; subst h
   rw [show i + 0 = i from rfl] at h1
   rw [h1]
  | succ j =>
   have := h2 0 x (by omega) rfl
   rw [show i + 0 = i from rfl] at this
   rw [this]
   exact firstL_at (j := j) (y := y) (by simpa using h) (by rw [show i + 1 + j = i + (j + 1) by omega]; exact h1) (fun k z hk hz => by rw [show i + 1 + k = i + (k + 1) by omega]; exact h2 (k + 1) z (by omega) (by simpa using hz))
theorem loopP {α : Type} {step : Int → Option (Int ⊕ (Unit ⊕ Int))} (l : List α) (c : α → Int) (hl : l.length ≤ 9223372036854775807)
  (hs : ∀ (i : Nat) y, l[i]? = some y → step (i : Int) = some (if c y = 0 then .inl (w64 ((i : Int) + 1)) else .inr (.inr (c y)))) (he : step (l.length : Int) = some (.inr (.inl ()))) :
  ((loop step 0).bind fun | .inl _ => some 0 | .inr rv => some rv) = some (orI (l.map c)) := by
 rw [loop_first l (fun _ y => if c y = 0 then none else some (.inr (c y))) (.inl ()) (by simp [manyRounds]; omega) (fun i y hy => ?_) he, Option.bind_some, ← orI_first (l.map c) 0]
 ·have : ∀ (l : List α) (i : Nat), (firstL (fun _ y => if c y = 0 then none else some (Sum.inr (c y) : Unit ⊕ Int)) l i) = firstL (fun _ y => if y = 0 then none else some (.inr y)) (l.map c) i := by
   intro l
   induction l with
   | nil => intro i; rfl
   | cons x l ih => intro i; simp only [firstL, List.map_cons]; split <;> simp_all
  rw [this]
  generalize (firstL _ (l.map c) 0).getD (Sum.inl ()) = q
  cases q <;> rfl
 ·rw [hs i y hy, w64_nat (i := i) (by have := lt_of_get hy; omega)]
  split <;> rfl
theorem loopR {α : Type} {step : Int × Int → Option ((Int × Int) ⊕ Int)} (l : List α) (c : α → Int) (hl : l.length ≤ 9223372036854775807)
  (hs : ∀ (i : Nat) y, l[i]? = some y → step (0, (i : Int)) = some (.inl (c y, w64 ((i : Int) + 1)))) (he : step (0, (l.length : Int)) = some (.inr 0)) (hn : ∀ (e i : Int), e ≠ 0 → step (e, i) = some (.inr e)) (e : Int) :
  loop step (e, 0) = some (if e = 0 then orI (l.map c) else e) := by
 have stop : ∀ (e : Int) (i : Int) n, e ≠ 0 → iter step (n + 1) (e, i) = some e := by
  intro e i n h; rw [iter_succ, hn e i h]
 by_cases h0 : e = 0
 ·subst h0
  rw [if_pos rfl]
  have key : ∀ (ys : List α) (i : Nat), l.drop i = ys → i + ys.length = l.length → iter step (ys.length + 2) (0, (i : Int)) = some (orI (ys.map c)) := by
   intro ys
   induction ys with
   | nil =>
    intro i _ hi
    have : i = l.length := by simpa using hi
    subst this
    rw [iter_succ, he]; rfl
   | cons y ys ih =>
    intro i hd hi
    have hy : l[i]? = some y := by
     have := congrArg (·[0]?) hd
     simpa [List.getElem?_drop] using this
    rw [iter_succ, hs i y hy, w64_nat (i := i) (by have := lt_of_get hy; omega)]
    simp only [List.map_cons, orI]
    by_cases hc : c y = 0
    ·rw [if_pos hc, hc]
     exact ih (i + 1) (by rw [← List.drop_drop, hd]; rfl) (by simp at hi; omega)
    ·rw [if_neg hc]
     exact stop _ _ _ hc
  exact loop_of_iter (by simp [manyRounds]; omega) (key l 0 (by simp) (by simp))
 ·rw [if_neg h0]
  exact loop_of_iter (n := 1) (by simp [manyRounds]) (stop e 0 0 h0)
theorem loopA {α : Type} {step : Bool × Int → Option ((Bool × Int) ⊕ Bool)} (l : List α) (f : α → Bool) (hl : l.length ≤ 9223372036854775807)
  (hs : ∀ b (i : Nat) y, l[i]? = some y → step (b, (i : Int)) = some (.inl (b && f y, w64 ((i : Int) + 1)))) (he : ∀ b, step (b, (l.length : Int)) = some (.inr b)) (b : Bool) :
  loop step (b, 0) = some (b && l.all f) := by
 have := loop_for0 (step := step) l (fun i b => (b, (i : Int))) (fun i y b => .inl (b && f y)) (fun b => b) (by simp [manyRounds]; omega) (fun i y b hy => by rw [hs b i y hy, w64_nat (i := i) (by have := lt_of_get hy; omega)]; rfl) he b
 rw [show ((b, 0) : Bool × Int) = (b, ((0 : Nat) : Int)) from rfl, this]
 have key : ∀ (l : List α) (i : Nat) (b : Bool), forL (fun _ y b => (Sum.inl (b && f y) : Bool ⊕ Bool)) (fun b => b) l i b = (b && l.all f) := by
  intro l
  induction l with
  | nil => intro i b; simp [forL]
  | cons x l ih => intro i b; simp only [forL, ih, List.all_cons, Bool.and_assoc]
 rw [key]
theorem loopI {α : Type} {step : Int → Option (Int ⊕ (Unit ⊕ Int))} (l : List α) (p : α → Bool) (hl : l.length ≤ 9223372036854775807)
  (hs : ∀ (i : Nat) y, l[i]? = some y → step (i : Int) = some (if p y = true then .inr (.inr (i : Int)) else .inl (w64 ((i : Int) + 1)))) (he : step (l.length : Int) = some (.inr (.inl ()))) :
  (((loop step 0).bind fun | .inl _ => some (-1) | .inr rv => some rv).bind fun r => some (decide (0 ≤ r))) = some (l.any p) := by
 rw [loop_first l (fun i y => if p y = true then some (.inr (i : Int)) else none) (.inl ()) (by simp [manyRounds]; omega) (fun i y hy => ?_) he, Option.bind_some]
 ·have key : ∀ (l : List α) (i : Nat), (((match (firstL (fun i y => if p y = true then some (Sum.inr (i : Int) : Unit ⊕ Int) else none) l i).getD (.inl ()) with | .inl _ => some (-1) | .inr rv => some rv) : Option Int).bind fun r => some (decide (0 ≤ r))) = some (l.any p) := by
   intro l
   induction l with
   | nil => intro i; simp [firstL]
   | cons x l ih =>
    intro i
    simp only [firstL, List.any_cons]
    cases hp : p x with
    | true => simp
    | false => simpa [hp] using ih (i + 1)
  have := key l 0
  generalize (firstL _ l 0).getD (Sum.inl ()) = q at *
  cases q <;> simpa using this
 ·rw [hs i y hy, w64_nat (i := i) (by have := lt_of_get hy; omega)]
  split <;> rfl
def hasB (t : api_Trace) (k : Int) : Bool := t.fThreads.any (fun x => decide (x.fId = k))
theorem Has_eq (t : api_Trace) (k : Int) (h : t.fThreads.length ≤ 9223372036854775807) : tracebookref32_Has t k = some (hasB t k) := by
 unfold tracebookref32_Has
 rw [loop_first t.fThreads (fun _ y => if (fun x : api_Thread => decide (x.fId = k)) y = true then some ((fun _ => Sum.inr true) y) else none) (.inl ()) (by simp [manyRounds]; omega) (fun i y hy => ?_) (by simp [tracebookref32_Has_L1]), firstL_find]
 ·unfold hasB
  cases e : t.fThreads.find? (fun x => decide (x.fId = k)) with
  | none =>
   simp only [Option.map_none, Option.getD_none, Option.bind_some]
   rw [eq_comm, Option.some.injEq, List.any_eq_false]
   exact List.find?_eq_none.1 e
  | some x =>
   simp only [Option.map_some, Option.getD_some, Option.bind_some]
   rw [eq_comm, Option.some.injEq, List.any_eq_true]
   exact ⟨x, List.mem_of_find?_eq_some e, List.find?_some (p := fun x : api_Thread => decide (x.fId = k)) e⟩
 ·have hi : (i : Int) < t.fThreads.length := by have := lt_of_get hy; omega
  simp only [tracebookref32_Has_L1, hi, decide_true, cond_true, idx_nat, hy, Option.bind_some]
  by_cases h1 : y.fId = k <;> simp [h1, w64_nat (i := i) (by omega)]
def cK (t : api_Trace) (k : Int) : Int := if hasB t k = true then 0 else 5
theorem known_Slice1 (t : api_Trace) (m : List (Int × ByteArray)) (hm : ∀ k, (mget k m).isSome = hasB t k) (e : Int) (l : List api_Slice) (hl : l.length ≤ 9223372036854775807) : trace_known_api_Slice_k1 e m l = some (if e = 0 then orI (l.map fun y => cK t y.fThread) else e) := by
 unfold trace_known_api_Slice_k1
 by_cases h0 : e = 0
 ·subst h0
  simp only [decide_true, Bool.not_true, cond_false, if_true]
  refine loopP l (fun y => cK t y.fThread) hl (fun i y hy => ?_) (by simp [trace_known_api_Slice_k1_L1])
  have hi : (i : Int) < l.length := by have := lt_of_get hy; omega
  simp only [trace_known_api_Slice_k1_L1, hi, decide_true, cond_true, idx_nat, hy, Option.bind_some, trace_tables_1, hm, cK]
  by_cases hb : hasB t y.fThread = true <;> simp [hb]
 ·simp [h0]
theorem known_Flow1 (t : api_Trace) (m : List (Int × ByteArray)) (hm : ∀ k, (mget k m).isSome = hasB t k) (e : Int) (l : List api_Flow) (hl : l.length ≤ 9223372036854775807) : trace_known_api_Flow_k1 e m l = some (if e = 0 then orI (l.map fun y => cK t y.fFrom.fThread) else e) := by
 unfold trace_known_api_Flow_k1
 by_cases h0 : e = 0
 ·subst h0
  simp only [decide_true, Bool.not_true, cond_false, if_true]
  refine loopP l (fun y => cK t y.fFrom.fThread) hl (fun i y hy => ?_) (by simp [trace_known_api_Flow_k1_L1])
  have hi : (i : Int) < l.length := by have := lt_of_get hy; omega
  simp only [trace_known_api_Flow_k1_L1, hi, decide_true, cond_true, idx_nat, hy, Option.bind_some, trace_tables_2, hm, cK]
  by_cases hb : hasB t y.fFrom.fThread = true <;> simp [hb]
 ·simp [h0]
theorem known_Flow2 (t : api_Trace) (m : List (Int × ByteArray)) (hm : ∀ k, (mget k m).isSome = hasB t k) (e : Int) (l : List api_Flow) (hl : l.length ≤ 9223372036854775807) : trace_known_api_Flow_k2 e m l = some (if e = 0 then orI (l.map fun y => cK t y.fTo.fThread) else e) := by
 unfold trace_known_api_Flow_k2
 by_cases h0 : e = 0
 ·subst h0
  simp only [decide_true, Bool.not_true, cond_false, if_true]
  refine loopP l (fun y => cK t y.fTo.fThread) hl (fun i y hy => ?_) (by simp [trace_known_api_Flow_k2_L1])
  have hi : (i : Int) < l.length := by have := lt_of_get hy; omega
  simp only [trace_known_api_Flow_k2_L1, hi, decide_true, cond_true, idx_nat, hy, Option.bind_some, trace_tables_3, hm, cK]
  by_cases hb : hasB t y.fTo.fThread = true <;> simp [hb]
 ·simp [h0]
theorem known_Sample1 (t : api_Trace) (m : List (Int × ByteArray)) (hm : ∀ k, (mget k m).isSome = hasB t k) (e : Int) (l : List api_Sample) (hl : l.length ≤ 9223372036854775807) : trace_known_api_Sample_k1 e m l = some (if e = 0 then orI (l.map fun y => cK t y.fThread) else e) := by
 unfold trace_known_api_Sample_k1
 by_cases h0 : e = 0
 ·subst h0
  simp only [decide_true, Bool.not_true, cond_false, if_true]
  refine loopP l (fun y => cK t y.fThread) hl (fun i y hy => ?_) (by simp [trace_known_api_Sample_k1_L1])
  have hi : (i : Int) < l.length := by have := lt_of_get hy; omega
  simp only [trace_known_api_Sample_k1_L1, hi, decide_true, cond_true, idx_nat, hy, Option.bind_some, trace_tables_4, hm, cK]
  by_cases hb : hasB t y.fThread = true <;> simp [hb]
 ·simp [h0]
theorem known_Block1 (t : api_Trace) (m : List (Int × ByteArray)) (hm : ∀ k, (mget k m).isSome = hasB t k) (e : Int) (l : List api_Block) (hl : l.length ≤ 9223372036854775807) : trace_known_api_Block_k1 e m l = some (if e = 0 then orI (l.map fun y => cK t y.fThread) else e) := by
 unfold trace_known_api_Block_k1
 by_cases h0 : e = 0
 ·subst h0
  simp only [decide_true, Bool.not_true, cond_false, if_true]
  refine loopP l (fun y => cK t y.fThread) hl (fun i y hy => ?_) (by simp [trace_known_api_Block_k1_L1])
  have hi : (i : Int) < l.length := by have := lt_of_get hy; omega
  simp only [trace_known_api_Block_k1_L1, hi, decide_true, cond_true, idx_nat, hy, Option.bind_some, trace_tables_5, hm, cK]
  by_cases hb : hasB t y.fThread = true <;> simp [hb]
 ·simp [h0]
theorem rows_L5 (t : api_Trace) (ht : t.fThreads.length ≤ 9223372036854775807) (hl : t.fSlices.length ≤ 9223372036854775807) (e : Int) : loop (tracebookref32_rows_L5 t) (e, 0) = some (if e = 0 then orI (t.fSlices.map fun y => cK t y.fThread) else e) := by
 refine loopR t.fSlices (fun y => cK t y.fThread) hl (fun i y hy => ?_) (by simp [tracebookref32_rows_L5]) (fun e i h => ?_) e
 ·have hi : (i : Int) < t.fSlices.length := by have := lt_of_get hy; omega
  simp only [tracebookref32_rows_L5, hi, decide_true, cond_true, idx_nat, hy, Option.bind_some, Has_eq t _ ht, cK]
  by_cases hb : hasB t y.fThread = true <;> simp [hb]
 ·by_cases hi : i < (t.fSlices.length : Int) <;> simp [tracebookref32_rows_L5, hi, h]
theorem rows_L3 (t : api_Trace) (ht : t.fThreads.length ≤ 9223372036854775807) (hl : t.fSamples.length ≤ 9223372036854775807) (e : Int) : loop (tracebookref32_rows_L3 t) (e, 0) = some (if e = 0 then orI (t.fSamples.map fun y => cK t y.fThread) else e) := by
 refine loopR t.fSamples (fun y => cK t y.fThread) hl (fun i y hy => ?_) (by simp [tracebookref32_rows_L3]) (fun e i h => ?_) e
 ·have hi : (i : Int) < t.fSamples.length := by have := lt_of_get hy; omega
  simp only [tracebookref32_rows_L3, hi, decide_true, cond_true, idx_nat, hy, Option.bind_some, Has_eq t _ ht, cK]
  by_cases hb : hasB t y.fThread = true <;> simp [hb]
 ·by_cases hi : i < (t.fSamples.length : Int) <;> simp [tracebookref32_rows_L3, hi, h]
theorem rows_L2 (t : api_Trace) (ht : t.fThreads.length ≤ 9223372036854775807) (hl : t.fBlocks.length ≤ 9223372036854775807) (e : Int) : loop (tracebookref32_rows_L2 t) (e, 0) = some (if e = 0 then orI (t.fBlocks.map fun y => cK t y.fThread) else e) := by
 refine loopR t.fBlocks (fun y => cK t y.fThread) hl (fun i y hy => ?_) (by simp [tracebookref32_rows_L2]) (fun e i h => ?_) e
 ·have hi : (i : Int) < t.fBlocks.length := by have := lt_of_get hy; omega
  simp only [tracebookref32_rows_L2, hi, decide_true, cond_true, idx_nat, hy, Option.bind_some, Has_eq t _ ht, cK]
  by_cases hb : hasB t y.fThread = true <;> simp [hb]
 ·by_cases hi : i < (t.fBlocks.length : Int) <;> simp [tracebookref32_rows_L2, hi, h]
theorem rows_L4 (t : api_Trace) (ht : t.fThreads.length ≤ 9223372036854775807) (hl : t.fFlows.length ≤ 9223372036854775807) (e : Int) : loop (tracebookref32_rows_L4 t) (e, 0) = some (if e = 0 then orI (t.fFlows.map fun y => if hasB t y.fFrom.fThread = true ∧ hasB t y.fTo.fThread = true then 0 else 5) else e) := by
 refine loopR t.fFlows (fun y => if hasB t y.fFrom.fThread = true ∧ hasB t y.fTo.fThread = true then 0 else 5) hl (fun i y hy => ?_) (by simp [tracebookref32_rows_L4]) (fun e i h => ?_) e
 ·have hi : (i : Int) < t.fFlows.length := by have := lt_of_get hy; omega
  simp only [tracebookref32_rows_L4, hi, decide_true, cond_true, idx_nat, hy, Option.bind_some, Has_eq t _ ht]
  by_cases hb1 : hasB t y.fFrom.fThread = true <;> by_cases hb2 : hasB t y.fTo.fThread = true <;> simp [hb1, hb2]
 ·by_cases hi : i < (t.fFlows.length : Int) <;> simp [tracebookref32_rows_L4, hi, h]
def cLo (t : api_Trace) (y : api_Loss) : Int := if hasB t y.fThread = true then (if (0 ≤ y.fSpan.fFrom ∧ y.fSpan.fFrom < y.fSpan.fTo ∧ y.fSpan.fTo ≤ 1000000000000) ∧ 1 ≤ y.fCount ∧ y.fCount ≤ 1000000000000000 then 0 else 2) else 5
theorem loss_step (y : api_Loss) : ((spans_Valid y.fSpan).bind fun r32 => bif !r32 then some true else bif decide (y.fCount < 1) then some true else some (decide (1000000000000000 < y.fCount))) = some (!decide ((0 ≤ y.fSpan.fFrom ∧ y.fSpan.fFrom < y.fSpan.fTo ∧ y.fSpan.fTo ≤ 1000000000000) ∧ 1 ≤ y.fCount ∧ y.fCount ≤ 1000000000000000)) := by
 rw [spans_Valid_eq, Option.bind_some]
 by_cases h1 : 0 ≤ y.fSpan.fFrom ∧ y.fSpan.fFrom < y.fSpan.fTo ∧ y.fSpan.fTo ≤ 1000000000000
 ·by_cases h2 : y.fCount < 1
  ·have : ¬ 1 ≤ y.fCount := by omega
   simp [h1, h2, this]
  ·have h3 : 1 ≤ y.fCount := by omega
   by_cases h4 : 1000000000000000 < y.fCount
   ·have : ¬ y.fCount ≤ 1000000000000000 := by omega
    simp [h1, h2, h3, h4, this]
   ·have : y.fCount ≤ 1000000000000000 := by omega
    simp [h1, h2, h3, h4, this]
 ·simp [h1]
theorem losses_p (t : api_Trace) (m : List (Int × ByteArray)) (hm : ∀ k, (mget k m).isSome = hasB t k) (l : List api_Loss) (hl : l.length ≤ 9223372036854775807) : trace_losses_k1 m l = some (orI (l.map (cLo t))) := by
 unfold trace_losses_k1
 refine loopP l (cLo t) hl (fun i y hy => ?_) (by simp [trace_losses_k1_L1])
 have hi : (i : Int) < l.length := by have := lt_of_get hy; omega
 simp only [trace_losses_k1_L1, hi, decide_true, cond_true, idx_nat, hy, Option.bind_some, hm, cLo, loss_step]
 by_cases hb : hasB t y.fThread = true <;> by_cases h : ((0 ≤ y.fSpan.fFrom ∧ y.fSpan.fFrom < y.fSpan.fTo ∧ y.fSpan.fTo ≤ 1000000000000) ∧ 1 ≤ y.fCount ∧ y.fCount ≤ 1000000000000000) <;> simp only [hb, h, decide_true, decide_false, if_true, if_false, Bool.not_true, Bool.not_false, cond_true, cond_false] <;> simp
theorem rows_L1 (t : api_Trace) (ht : t.fThreads.length ≤ 9223372036854775807) (hl : t.fLost.length ≤ 9223372036854775807) (e : Int) : loop (tracebookref32_rows_L1 t) (e, 0) = some (if e = 0 then orI (t.fLost.map (cLo t)) else e) := by
 refine loopR t.fLost (cLo t) hl (fun i y hy => ?_) (by simp [tracebookref32_rows_L1]) (fun e i h => ?_) e
 ·have hi : (i : Int) < t.fLost.length := by have := lt_of_get hy; omega
  simp only [tracebookref32_rows_L1, hi, decide_true, cond_true, idx_nat, hy, Option.bind_some, Has_eq t _ ht, cLo, Valid_eq, loss_step]
  by_cases hb : hasB t y.fThread = true <;> by_cases h : ((0 ≤ y.fSpan.fFrom ∧ y.fSpan.fFrom < y.fSpan.fTo ∧ y.fSpan.fTo ≤ 1000000000000) ∧ 1 ≤ y.fCount ∧ y.fCount ≤ 1000000000000000) <;> simp only [hb, h, decide_true, decide_false, if_true, if_false, Bool.not_true, Bool.not_false, cond_true, cond_false] <;> simp
 ·by_cases hi : i < (t.fLost.length : Int) <;> simp [tracebookref32_rows_L1, hi, h]
theorem orI_flows (t : api_Trace) : ∀ l : List api_Flow, orI (l.map fun y => if hasB t y.fFrom.fThread = true ∧ hasB t y.fTo.fThread = true then 0 else 5) = if orI (l.map fun y => cK t y.fFrom.fThread) = 0 then orI (l.map fun y => cK t y.fTo.fThread) else orI (l.map fun y => cK t y.fFrom.fThread)
 | [] => rfl
 | y :: l => by
  have ih := orI_flows t l
  have h5 : ∀ (f : api_Flow → Int) (l : List api_Flow), orI (l.map fun y => cK t (f y)) = 0 ∨ orI (l.map fun y => cK t (f y)) = 5 := by
   intro f l
   induction l with
   | nil => exact .inl rfl
   | cons x l ih =>
    simp only [List.map_cons, orI]
    split
    ·exact ih
    ·rename_i h
     unfold cK at h ⊢
     split at h
     ·exact absurd rfl h
     ·rename_i h'; exact .inr (by rw [if_neg h'])
  simp only [List.map_cons, orI]
  rw [ih]
  rcases h5 (fun y => y.fFrom.fThread) l with a | a <;> rcases h5 (fun y => y.fTo.fThread) l with b | b <;> simp only [cK] at a b ⊢ <;> simp only [a, b] <;> by_cases hb1 : hasB t y.fFrom.fThread = true <;> by_cases hb2 : hasB t y.fTo.fThread = true <;> simp [hb1, hb2]
def thG (t : api_Trace) (i : Nat) (y : api_Thread) : Option Int := match producer_Thread y with
 | some r => if r ≠ 0 then some r else if (t.fThreads.take i).any (fun x => decide (x.fId = y.fId)) = true then some 4 else none
 | none => none
def thErr (t : api_Trace) : Option Int := firstL (thG t) t.fThreads 0
theorem thErr_at {t : api_Trace} {j : Nat} {y : api_Thread} {r : Int} (hy : t.fThreads[j]? = some y) (h : thG t j y = some r) (hb : ∀ k z, k < j → t.fThreads[k]? = some z → thG t k z = none) : thErr t = some r :=
 firstL_at hy (by simpa using h) (fun k z hk hz => by simpa using hb k z hk hz)
theorem thErr_none {t : api_Trace} (hb : ∀ (k : Nat) z, t.fThreads[k]? = some z → thG t k z = none) : thErr t = none :=
 firstL_none.2 (fun k z hz => by simpa using hb k z hz)
theorem threads_p (t : api_Trace) (hl : t.fThreads.length ≤ 9223372036854775807) (hn : ∀ x ∈ t.fThreads, okN x.fName) (h64 : ¬ (64 : Int) < t.fThreads.length) : Ok (trace_threads t) (fun q => (∃ r, r ≠ 0 ∧ q = .inl ([], r) ∧ thErr t = some r) ∨ (∃ m, q = .inr (m, 0) ∧ thErr t = none ∧ ∀ k, (mget k m).isSome = hasB t k)) := by
 unfold trace_threads
 simp only [h64, decide_false, cond_false]
 refine ok_bindS (Q := InlR (fun m => thErr t = none ∧ ∀ k, (mget k m).isSome = hasB t k) (fun q : (List (Int × ByteArray) × Int) ⊕ (List (Int × ByteArray) × Int) => ∃ r, r ≠ 0 ∧ q = .inl ([], r) ∧ thErr t = some r)) (ok_up2N t.fThreads.length (fun m n => (∀ k, (mget k m).isSome = (t.fThreads.take n).any (fun x => decide (x.fId = k))) ∧ ∀ (k : Nat) z, k < n → t.fThreads[k]? = some z → thG t k z = none) hl ⟨by intro k; simp [mget], by intro k z hk; omega⟩ (fun m i hI h2 => ?_)) (fun m hm => ok_some (.inr ⟨m, rfl, hm.1, hm.2⟩)) (fun q hq => ok_some (.inl hq))
 unfold trace_threads_L1
 dsimp only
 refine ok_ite (fun hi => ?_) (fun hi => ok_inr ⟨thErr_none (fun k z hz => hI.2 k z (by have := lt_of_get hz; omega) hz), fun k => ?_⟩)
 ·obtain ⟨y, hiy, hy⟩ := ok_ixN (xs := t.fThreads) (i := i) (by omega)
  rw [hiy, Option.bind_some]
  obtain ⟨r, hr, _⟩ := producer_Thread_ok y (hn y (List.mem_of_getElem? hy))
  rw [hr, Option.bind_some]
  refine ok_nite (fun h0 => ok_inr ⟨r, h0, rfl, thErr_at hy (by simp [thG, hr, h0]) hI.2⟩) (fun h0 => ?_)
  rw [hI.1 y.fId]
  refine ok_cond (fun e => ok_inr ⟨4, by omega, rfl, thErr_at hy (by simp only [thG, hr, h0, ne_eq, not_true_eq_false, if_false]; rw [if_pos e]) hI.2⟩) (fun e => ?_)
  rw [w64_N (n := t.fThreads.length) (by omega) hl]
  refine ok_inl ⟨by omega, rfl, fun k => ?_, fun k z hk hz => ?_⟩
  ·rw [mget_mput, List.take_add_one, hy]
   simp only [List.any_append, ← hI.1 k]
   by_cases e2 : k = y.fId
   ·subst e2; simp
   ·have : ¬ y.fId = k := fun h => e2 h.symm
    simp [e2, this]
  ·by_cases e2 : k = i
   ·subst e2; rw [hy] at hz; cases hz
    simp only [thG, hr, h0, ne_eq, not_true_eq_false, if_false]
    rw [if_neg (by rw [e]; simp)]
   ·exact hI.2 k z (by omega) hz
 ·rw [hI.1 k, show i = t.fThreads.length by omega, List.take_length]; rfl
theorem threads_r (t : api_Trace) (hl : t.fThreads.length ≤ 9223372036854775807) (hn : ∀ x ∈ t.fThreads, okN x.fName) : Ok (loop (tracebookref32_tables_L2 t) 0) (fun q => (∃ r, r ≠ 0 ∧ q = .inr r ∧ thErr t = some r) ∨ (∃ u, q = .inl u ∧ thErr t = none)) := by
 refine ok_upN t.fThreads.length (fun n => ∀ (k : Nat) z, k < n → t.fThreads[k]? = some z → thG t k z = none) hl (by intro k z hk; omega) (fun i hI h2 => ?_)
 unfold tracebookref32_tables_L2
 refine ok_ite (fun hi => ?_) (fun hi => ok_inr (.inr ⟨(), rfl, thErr_none (fun k z hz => hI k z (by have := lt_of_get hz; omega) hz)⟩))
 obtain ⟨y, hiy, hy⟩ := ok_ixN (xs := t.fThreads) (i := i) (by omega)
 rw [hiy, Option.bind_some]
 obtain ⟨r, hr, _⟩ := producer_Thread_ok y (hn y (List.mem_of_getElem? hy))
 rw [← Thread_eq, hr, Option.bind_some]
 refine ok_nite (fun h0 => ok_inr (.inl ⟨r, h0, rfl, thErr_at hy (by simp [thG, hr, h0]) hI⟩)) (fun h0 => ?_)
 refine ok_bindS (Q := InlR (fun _ => (t.fThreads.take i).any (fun x => decide (x.fId = y.fId)) = false) (fun q => q = .inr (.inr 4) ∧ (t.fThreads.take i).any (fun x => decide (x.fId = y.fId)) = true)) (ok_upN i (fun n => ∀ (k : Nat) z, k < n → t.fThreads[k]? = some z → z.fId ≠ y.fId) (by omega) (by intro k z hk; omega) (fun j hJ h4 => ?_)) (fun _ hq => ?_) (fun q hq => ?_)
 ·unfold tracebookref32_tables_L1
  refine ok_ite (fun hj => ?_) (fun hj => ok_inr ?_)
  ·obtain ⟨z, hjz, hz⟩ := ok_ixN (xs := t.fThreads) (i := j) (by omega)
   rw [hjz, Option.bind_some, hiy, Option.bind_some]
   refine ok_ite (fun e => ok_inr ⟨rfl, ?_⟩) (fun e => ?_)
   ·rw [List.any_eq_true]
    refine ⟨z, ?_, decide_eq_true e⟩
    exact List.mem_of_getElem? (i := j) (by rw [List.getElem?_take, if_pos (by omega)]; exact hz)
   ·rw [w64_N (n := i) (by omega) (by omega)]
    refine ok_inl ⟨by omega, rfl, fun k z' hk hz' => ?_⟩
    by_cases e2 : k = j
    ·subst e2; rw [hz] at hz'; cases hz'; exact e
    ·exact hJ k z' (by omega) hz'
  ·show (t.fThreads.take i).any _ = false
   rw [List.any_eq_false]
   intro x hx
   obtain ⟨k, hk⟩ := List.getElem?_of_mem hx
   rw [List.getElem?_take] at hk
   split at hk
   ·simpa using hJ k x (by omega) hk
   ·simp at hk
 ·have hq' : (t.fThreads.take i).any (fun x => decide (x.fId = y.fId)) = false := hq
  dsimp only
  rw [w64_N (n := t.fThreads.length) (by omega) hl]
  refine ok_inl ⟨by omega, rfl, fun k z hk hz => ?_⟩
  by_cases e2 : k = i
  ·subst e2; rw [hy] at hz; cases hz
   simp only [thG, hr, h0, ne_eq, not_true_eq_false, if_false]
   rw [if_neg (by rw [hq']; simp)]
  ·exact hI k z (by omega) hz
 ·obtain ⟨e1, e2⟩ : q = .inr (.inr 4) ∧ (t.fThreads.take i).any (fun x => decide (x.fId = y.fId)) = true := hq
  subst e1
  exact ok_inr (.inl ⟨4, by omega, rfl, thErr_at hy (by simp only [thG, hr, h0, ne_eq, not_true_eq_false, if_false]; rw [if_pos e2]) hI⟩)
theorem tables_eq (t : api_Trace) (hz : Siz t) (ht : t.fThreads.length ≤ 1000000) : trace_tables t = tracebookref32_tables t := by
 unfold trace_tables tracebookref32_tables
 by_cases h64 : (64 : Int) < t.fThreads.length
 ·have : trace_threads t = some (.inl ([], 7)) := by unfold trace_threads; simp [h64]
  rw [this]
  simp [h64]
 ·obtain ⟨q, hq, hp⟩ := threads_p t hz.th hz.nTh h64
  obtain ⟨q', hq', hr⟩ := threads_r t hz.th hz.nTh
  rw [hq, hq']
  simp only [h64, decide_false, cond_false]
  rcases hp with ⟨r, h0, rfl, he⟩ | ⟨m, rfl, he, hm⟩
  ·rcases hr with ⟨r', h0', rfl, he'⟩ | ⟨u, rfl, he'⟩
   ·rw [he] at he'; cases he'
    simp [h0]
   ·rw [he] at he'; simp at he'
  ·rcases hr with ⟨r', h0', rfl, he'⟩ | ⟨u, rfl, he'⟩
   ·rw [he] at he'; simp at he'
   ·dsimp only [Option.bind_some]
    unfold tracebookref32_rows
    obtain ⟨c1, h1, _⟩ := slice_Check_ok t.fSlices hz.sl hz.nSl
    obtain ⟨c2, h2, _⟩ := state_Check_ok t.fThreads t.fStates ht hz.st
    obtain ⟨c3, h3, _⟩ := flow_Check_ok t.fFlows hz.fl
    obtain ⟨c4, h4, _⟩ := sample_Check_ok t.fSamples hz.sa hz.nSa
    obtain ⟨c5, h5, _⟩ := counter_Check_ok t.fSteps hz.sp hz.nSp
    obtain ⟨c6, h6, _⟩ := memory_Check_ok t.fBlocks hz.bl hz.nBl
    rw [← slice_eq _ hz.sl, ← state_eq _ _ ht hz.st, ← flow_eq, ← sample_eq, ← counter_eq, ← memory_eq _ hz.bl hz.nBl]
    simp only [h1, h2, h3, h4, h5, h6, Option.bind_some, known_Slice1 t m hm _ _ hz.sl, known_Flow1 t m hm _ _ hz.fl, known_Flow2 t m hm _ _ hz.fl, known_Sample1 t m hm _ _ hz.sa, known_Block1 t m hm _ _ hz.bl, losses_p t m hm _ hz.lo, rows_L1 t hz.th hz.lo, rows_L2 t hz.th hz.bl, rows_L3 t hz.th hz.sa, rows_L4 t hz.th hz.fl, rows_L5 t hz.th hz.sl, orI_flows, decide_true, Bool.not_true, cond_false]
    generalize orI (t.fSlices.map fun y => cK t y.fThread) = k1
    generalize orI (t.fFlows.map fun y => cK t y.fFrom.fThread) = k2
    generalize orI (t.fFlows.map fun y => cK t y.fTo.fThread) = k3
    generalize orI (t.fSamples.map fun y => cK t y.fThread) = k4
    generalize orI (t.fBlocks.map fun y => cK t y.fThread) = k5
    generalize orI (t.fLost.map (cLo t)) = k6
    clear h1 h2 h3 h4 h5 h6
    by_cases g1 : c1 = 0
    ·by_cases g2 : k1 = 0
     ·by_cases g3 : c2 = 0
      ·by_cases g4 : c3 = 0
       ·by_cases g5 : k2 = 0
        ·by_cases g6 : k3 = 0
         ·by_cases g7 : c4 = 0
          ·by_cases g8 : k4 = 0
           ·by_cases g9 : c5 = 0
            ·by_cases g10 : c6 = 0
             ·by_cases g11 : k5 = 0 <;> simp [g1, g2, g3, g4, g5, g6, g7, g8, g9, g10, g11]
             ·simp [g1, g2, g3, g4, g5, g6, g7, g8, g9, g10]
            ·simp [g1, g2, g3, g4, g5, g6, g7, g8, g9]
           ·simp [g1, g2, g3, g4, g5, g6, g7, g8]
          ·simp [g1, g2, g3, g4, g5, g6, g7]
         ·simp [g1, g2, g3, g4, g5, g6]
        ·simp [g1, g2, g3, g4, g5]
       ·simp [g1, g2, g3, g4]
      ·simp [g1, g2, g3]
     ·simp [g1, g2]
    ·simp [g1]
def wiB (p s : api_Span) : Bool := decide (s.fFrom ≤ p.fFrom) && decide (p.fTo ≤ s.fTo)
def inB (s : api_Span) (x : Int) : Bool := decide (s.fFrom ≤ x) && decide (x < s.fTo)
theorem within_p (p s : api_Span) : trace_within p s = some (wiB p s) := by
 unfold trace_within wiB; by_cases h : s.fFrom ≤ p.fFrom <;> simp [h]
theorem inside_p (s : api_Span) (x : Int) : trace_inside s x = some (inB s x) := by
 unfold trace_inside inB; by_cases h : s.fFrom ≤ x <;> simp [h]
theorem within_r (p s : api_Span) : tracebookref32_within p s = some (wiB p s) := by
 unfold tracebookref32_within wiB; by_cases h : s.fFrom ≤ p.fFrom <;> simp [h]
theorem inside_r (s : api_Span) (x : Int) : tracebookref32_inside x s = some (inB s x) := by
 unfold tracebookref32_inside inB; by_cases h : s.fFrom ≤ x <;> simp [h]
theorem any_Slice (s : api_Span) (l : List api_Slice) (hl : l.length ≤ 9223372036854775807) : slices_ContainsFunc_api_Slice_api_Slice_k1 l s = some (!l.all fun y => wiB y.fSpan s) := by
 unfold slices_ContainsFunc_api_Slice_api_Slice_k1 slices_IndexFunc_api_Slice_api_Slice_k1
 refine (loopI l (fun y => !(wiB y.fSpan s)) hl (fun i y hy => ?_) (by simp [slices_IndexFunc_api_Slice_api_Slice_k1_L1])).trans (by rw [List.not_all_eq_any_not])
 have hi : (i : Int) < l.length := by have := lt_of_get hy; omega
 simp only [slices_IndexFunc_api_Slice_api_Slice_k1_L1, hi, decide_true, cond_true, idx_nat, hy, Option.bind_some, trace_outside_1_k1, within_p, inside_p]
 by_cases h1 : wiB y.fSpan s = true <;> simp [h1]
theorem all_L6 (t : api_Trace) (hl : t.fSlices.length ≤ 9223372036854775807) (b : Bool) : loop (tracebookref32_Check_L6 t) (b, 0) = some (b && t.fSlices.all fun y => wiB y.fSpan t.fSpan) := by
 refine loopA t.fSlices (fun y => wiB y.fSpan t.fSpan) hl (fun b i y hy => ?_) (fun b => by simp [tracebookref32_Check_L6]) b
 have hi : (i : Int) < t.fSlices.length := by have := lt_of_get hy; omega
 simp only [tracebookref32_Check_L6, hi, decide_true, cond_true, idx_nat, hy, Option.bind_some, within_r, inside_r]
 cases b <;> simp
theorem any_State (s : api_Span) (l : List api_State) (hl : l.length ≤ 9223372036854775807) : slices_ContainsFunc_api_State_api_State_k1 l s = some (!l.all fun y => wiB y.fSpan s) := by
 unfold slices_ContainsFunc_api_State_api_State_k1 slices_IndexFunc_api_State_api_State_k1
 refine (loopI l (fun y => !(wiB y.fSpan s)) hl (fun i y hy => ?_) (by simp [slices_IndexFunc_api_State_api_State_k1_L1])).trans (by rw [List.not_all_eq_any_not])
 have hi : (i : Int) < l.length := by have := lt_of_get hy; omega
 simp only [slices_IndexFunc_api_State_api_State_k1_L1, hi, decide_true, cond_true, idx_nat, hy, Option.bind_some, trace_outside_2_k1, within_p, inside_p]
 by_cases h1 : wiB y.fSpan s = true <;> simp [h1]
theorem all_L5 (t : api_Trace) (hl : t.fStates.length ≤ 9223372036854775807) (b : Bool) : loop (tracebookref32_Check_L5 t) (b, 0) = some (b && t.fStates.all fun y => wiB y.fSpan t.fSpan) := by
 refine loopA t.fStates (fun y => wiB y.fSpan t.fSpan) hl (fun b i y hy => ?_) (fun b => by simp [tracebookref32_Check_L5]) b
 have hi : (i : Int) < t.fStates.length := by have := lt_of_get hy; omega
 simp only [tracebookref32_Check_L5, hi, decide_true, cond_true, idx_nat, hy, Option.bind_some, within_r, inside_r]
 cases b <;> simp
theorem any_Block (s : api_Span) (l : List api_Block) (hl : l.length ≤ 9223372036854775807) : slices_ContainsFunc_api_Block_api_Block_k1 l s = some (!l.all fun y => wiB y.fSpan s) := by
 unfold slices_ContainsFunc_api_Block_api_Block_k1 slices_IndexFunc_api_Block_api_Block_k1
 refine (loopI l (fun y => !(wiB y.fSpan s)) hl (fun i y hy => ?_) (by simp [slices_IndexFunc_api_Block_api_Block_k1_L1])).trans (by rw [List.not_all_eq_any_not])
 have hi : (i : Int) < l.length := by have := lt_of_get hy; omega
 simp only [slices_IndexFunc_api_Block_api_Block_k1_L1, hi, decide_true, cond_true, idx_nat, hy, Option.bind_some, trace_outside_3_k1, within_p, inside_p]
 by_cases h1 : wiB y.fSpan s = true <;> simp [h1]
theorem all_L4 (t : api_Trace) (hl : t.fBlocks.length ≤ 9223372036854775807) (b : Bool) : loop (tracebookref32_Check_L4 t) (b, 0) = some (b && t.fBlocks.all fun y => wiB y.fSpan t.fSpan) := by
 refine loopA t.fBlocks (fun y => wiB y.fSpan t.fSpan) hl (fun b i y hy => ?_) (fun b => by simp [tracebookref32_Check_L4]) b
 have hi : (i : Int) < t.fBlocks.length := by have := lt_of_get hy; omega
 simp only [tracebookref32_Check_L4, hi, decide_true, cond_true, idx_nat, hy, Option.bind_some, within_r, inside_r]
 cases b <;> simp
theorem any_Flow (s : api_Span) (l : List api_Flow) (hl : l.length ≤ 9223372036854775807) : slices_ContainsFunc_api_Flow_api_Flow_k1 l s = some (!l.all fun y => (inB s y.fSend && inB s y.fRecv)) := by
 unfold slices_ContainsFunc_api_Flow_api_Flow_k1 slices_IndexFunc_api_Flow_api_Flow_k1
 refine (loopI l (fun y => !(inB s y.fSend && inB s y.fRecv)) hl (fun i y hy => ?_) (by simp [slices_IndexFunc_api_Flow_api_Flow_k1_L1])).trans (by rw [List.not_all_eq_any_not])
 have hi : (i : Int) < l.length := by have := lt_of_get hy; omega
 simp only [slices_IndexFunc_api_Flow_api_Flow_k1_L1, hi, decide_true, cond_true, idx_nat, hy, Option.bind_some, trace_outside_4_k1, within_p, inside_p]
 by_cases h1 : inB s y.fSend = true <;> by_cases h2 : inB s y.fRecv = true <;> simp [h1, h2]
theorem all_L3 (t : api_Trace) (hl : t.fFlows.length ≤ 9223372036854775807) (b : Bool) : loop (tracebookref32_Check_L3 t) (b, 0) = some (b && t.fFlows.all fun y => (inB t.fSpan y.fSend && inB t.fSpan y.fRecv)) := by
 refine loopA t.fFlows (fun y => (inB t.fSpan y.fSend && inB t.fSpan y.fRecv)) hl (fun b i y hy => ?_) (fun b => by simp [tracebookref32_Check_L3]) b
 have hi : (i : Int) < t.fFlows.length := by have := lt_of_get hy; omega
 simp only [tracebookref32_Check_L3, hi, decide_true, cond_true, idx_nat, hy, Option.bind_some, within_r, inside_r]
 cases b <;> by_cases h1 : inB t.fSpan y.fSend = true <;> by_cases h2 : inB t.fSpan y.fRecv = true <;> simp [h1, h2]
theorem any_Sample (s : api_Span) (l : List api_Sample) (hl : l.length ≤ 9223372036854775807) : slices_ContainsFunc_api_Sample_api_Sample_k1 l s = some (!l.all fun y => inB s y.fAt) := by
 unfold slices_ContainsFunc_api_Sample_api_Sample_k1 slices_IndexFunc_api_Sample_api_Sample_k1
 refine (loopI l (fun y => !(inB s y.fAt)) hl (fun i y hy => ?_) (by simp [slices_IndexFunc_api_Sample_api_Sample_k1_L1])).trans (by rw [List.not_all_eq_any_not])
 have hi : (i : Int) < l.length := by have := lt_of_get hy; omega
 simp only [slices_IndexFunc_api_Sample_api_Sample_k1_L1, hi, decide_true, cond_true, idx_nat, hy, Option.bind_some, trace_outside_5_k1, within_p, inside_p]
 by_cases h1 : inB s y.fAt = true <;> simp [h1]
theorem all_L2 (t : api_Trace) (hl : t.fSamples.length ≤ 9223372036854775807) (b : Bool) : loop (tracebookref32_Check_L2 t) (b, 0) = some (b && t.fSamples.all fun y => inB t.fSpan y.fAt) := by
 refine loopA t.fSamples (fun y => inB t.fSpan y.fAt) hl (fun b i y hy => ?_) (fun b => by simp [tracebookref32_Check_L2]) b
 have hi : (i : Int) < t.fSamples.length := by have := lt_of_get hy; omega
 simp only [tracebookref32_Check_L2, hi, decide_true, cond_true, idx_nat, hy, Option.bind_some, within_r, inside_r]
 cases b <;> simp
theorem any_Step (s : api_Span) (l : List api_Step) (hl : l.length ≤ 9223372036854775807) : slices_ContainsFunc_api_Step_api_Step_k1 l s = some (!l.all fun y => inB s y.fAt) := by
 unfold slices_ContainsFunc_api_Step_api_Step_k1 slices_IndexFunc_api_Step_api_Step_k1
 refine (loopI l (fun y => !(inB s y.fAt)) hl (fun i y hy => ?_) (by simp [slices_IndexFunc_api_Step_api_Step_k1_L1])).trans (by rw [List.not_all_eq_any_not])
 have hi : (i : Int) < l.length := by have := lt_of_get hy; omega
 simp only [slices_IndexFunc_api_Step_api_Step_k1_L1, hi, decide_true, cond_true, idx_nat, hy, Option.bind_some, trace_outside_6_k1, within_p, inside_p]
 by_cases h1 : inB s y.fAt = true <;> simp [h1]
theorem all_L1 (t : api_Trace) (hl : t.fSteps.length ≤ 9223372036854775807) (b : Bool) : loop (tracebookref32_Check_L1 t) (b, 0) = some (b && t.fSteps.all fun y => inB t.fSpan y.fAt) := by
 refine loopA t.fSteps (fun y => inB t.fSpan y.fAt) hl (fun b i y hy => ?_) (fun b => by simp [tracebookref32_Check_L1]) b
 have hi : (i : Int) < t.fSteps.length := by have := lt_of_get hy; omega
 simp only [tracebookref32_Check_L1, hi, decide_true, cond_true, idx_nat, hy, Option.bind_some, within_r, inside_r]
 cases b <;> simp
theorem trace_Check_eq (t : api_Trace) (hz : Siz t) (ht : t.fThreads.length ≤ 1000000) : trace_Check t = tracebookref32_Check t := by
 unfold trace_Check tracebookref32_Check
 rw [tables_eq t hz ht]
 congr 1
 funext r
 congr 1
 congr 1
 funext v
 congr 1
 rw [all_L6 t hz.sl]
 simp only [Option.bind_some, all_L5 t hz.st, all_L4 t hz.bl, all_L3 t hz.fl, all_L2 t hz.sa, all_L1 t hz.sp, trace_outside, any_Slice t.fSpan _ hz.sl, any_State t.fSpan _ hz.st, any_Block t.fSpan _ hz.bl, any_Flow t.fSpan _ hz.fl, any_Sample t.fSpan _ hz.sa, any_Step t.fSpan _ hz.sp]
 generalize (t.fSlices.all fun y => wiB y.fSpan t.fSpan) = b1
 generalize (t.fStates.all fun y => wiB y.fSpan t.fSpan) = b2
 generalize (t.fBlocks.all fun y => wiB y.fSpan t.fSpan) = b3
 generalize (t.fFlows.all fun y => (inB t.fSpan y.fSend && inB t.fSpan y.fRecv)) = b4
 generalize (t.fSamples.all fun y => inB t.fSpan y.fAt) = b5
 generalize (t.fSteps.all fun y => inB t.fSpan y.fAt) = b6
 cases b1 <;> cases b2 <;> cases b3 <;> cases b4 <;> cases b5 <;> cases b6 <;> rfl
theorem ok_up2M {σ ρ : Type} {step : σ × Int → Option ((σ × Int) ⊕ ρ)} (n : Nat) (Inv : σ → Nat → Prop) {Post : ρ → Prop} (hn : n ≤ 9223372036854775807) {s0 : σ} (h0 : Inv s0 0)
  (h : ∀ (s : σ) (i : Nat), Inv s i → i ≤ n → Ok (step (s, (i : Int))) (InlR (fun a => i < n ∧ a.2 = ((i + 1 : Nat) : Int) ∧ Inv a.1 (i + 1)) Post)) : Ok (loop step (s0, 0)) Post := by
 refine ok_up2 n (fun s i => Inv s i.toNat) hn h0 (fun s i hI h1 h2 => ?_)
 obtain ⟨k, rfl⟩ := Int.eq_ofNat_of_zero_le h1
 refine (h s k hI (by omega)).mono ?_
 rintro (⟨a, b⟩ | b) hr
 ·obtain ⟨h3, h4, h5⟩ : k < n ∧ b = ((k + 1 : Nat) : Int) ∧ Inv a (k + 1) := hr
  refine ⟨by omega, by omega, ?_⟩
  rw [show ((k : Int) + 1).toNat = k + 1 by omega]; exact h5
 ·exact hr
theorem ok_upM {ρ : Type} {step : Int → Option (Int ⊕ ρ)} (n : Nat) (Inv : Nat → Prop) {Post : ρ → Prop} (hn : n ≤ 9223372036854775807) (h0 : Inv 0)
  (h : ∀ i : Nat, Inv i → i ≤ n → Ok (step (i : Int)) (InlR (fun a => i < n ∧ a = ((i + 1 : Nat) : Int) ∧ Inv (i + 1)) Post)) : Ok (loop step 0) Post := by
 refine ok_upI n (fun i => Inv i.toNat) hn h0 (fun i hI h1 h2 => ?_)
 obtain ⟨k, rfl⟩ := Int.eq_ofNat_of_zero_le h1
 refine (h k hI (by omega)).mono ?_
 rintro (b | b) hr
 ·obtain ⟨h3, h4, h5⟩ : k < n ∧ b = ((k + 1 : Nat) : Int) ∧ Inv (k + 1) := hr
  refine ⟨by omega, by omega, ?_⟩
  rw [show ((k : Int) + 1).toNat = k + 1 by omega]; exact h5
 ·exact hr
theorem ok_ixM {α : Type} {xs : List α} {i : Nat} (h : i < xs.length) : Ok (idx xs (i : Int)) (fun y => xs[i]? = some y) := by
 rw [idx_nat]; exact ⟨xs[i], by simp [h], by simp [h]⟩
theorem w64_M {i n : Nat} (h : i < n) (hn : n ≤ 9223372036854775807) : w64 ((i : Int) + 1) = ((i + 1 : Nat) : Int) := by rw [w64_of (by omega)]; omega
def waitB (l : List api_State) (i : Nat) : Bool := match l[i]?, l[i + 1]? with
 | some a, some b => decide (a.fState = 0) && (decide (b.fState = 4) && decide (b.fThread = a.fThread))
 | _, _ => false
def waitO (l : List api_State) (i : Nat) : List api_State := if waitB l i = true then l[i]?.toList else []
def waitsN (l : List api_State) : Nat → List api_State
 | 0 => []
 | n + 1 => waitsN l n ++ waitO l n
def waitsL (l : List api_State) : List api_State := waitsN l l.length
theorem waitO_len (l : List api_State) (i : Nat) : (waitO l i).length ≤ 1 := by
 unfold waitO; split
 ·cases l[i]? <;> simp
 ·simp
theorem waitsN_len (l : List api_State) : ∀ n, (waitsN l n).length ≤ n
 | 0 => by simp [waitsN]
 | n + 1 => by
  have := waitsN_len l n
  have := waitO_len l n
  simp only [waitsN, List.length_append]; omega
theorem waits_p (t : api_Trace) (h : t.fStates.length ≤ 1000000) : latency_waits t = some (waitsL t.fStates) := by
 have : Ok (latency_waits t) (fun r => r = waitsL t.fStates) := by
  unfold latency_waits
  refine ok_bind (Q := fun r => r = waitsL t.fStates) (ok_up2M t.fStates.length (fun a n => a = waitsN t.fStates n) (by omega) rfl (fun a i hI h2 => ?_)) (fun r hr => ok_some hr)
  have hal : a.length ≤ i := by rw [hI]; exact waitsN_len _ _
  unfold latency_waits_L1
  dsimp only
  refine ok_ite (fun hi => ?_) (fun hi => ok_inr (by rw [hI, show i = t.fStates.length by omega]; rfl))
  obtain ⟨y, hiy, hy⟩ := ok_ixM (xs := t.fStates) (i := i) (by omega)
  refine ok_bind (Q := fun r => r = waitsN t.fStates (i + 1)) ?_ (fun r hr => ?_)
  ·rw [hiy, Option.bind_some]
   have hcond : ((bif decide (w64 ((i : Int) + 1) < (t.fStates.length : Int)) then (bif decide (y.fState = 0) then (idx t.fStates (w64 ((i : Int) + 1))).bind fun y50 => (bif decide (y50.fState = 4) then (idx t.fStates (w64 ((i : Int) + 1))).bind fun y52 => some (decide (y52.fThread = y.fThread)) else some false) else some false) else some false) : Option Bool) = some (waitB t.fStates i) := by
    rw [w64_M (n := t.fStates.length) (by omega) (by omega)]
    unfold waitB
    rw [hy]
    by_cases g : i + 1 < t.fStates.length
    ·obtain ⟨z, hiz, hz⟩ := ok_ixM (xs := t.fStates) (i := i + 1) g
     rw [hiz, hz, Option.bind_some, Option.bind_some]
     have : (((i + 1 : Nat) : Int) < (t.fStates.length : Int)) := by omega
     simp only [this, decide_true, cond_true]
     by_cases g1 : y.fState = 0 <;> by_cases g2 : z.fState = 4 <;> simp [g1, g2]
    ·have : ¬ (((i + 1 : Nat) : Int) < (t.fStates.length : Int)) := by omega
     rw [List.getElem?_eq_none (by omega : t.fStates.length ≤ i + 1)]
     simp only [this, decide_false, cond_false]
   rw [hcond, Option.bind_some]
   refine ok_cond (fun e => ?_) (fun e => ok_some ?_)
   ·rw [room_ok (by simp; omega) (by simp; omega)]
    exact ok_some (by rw [hI]; simp [waitsN, waitO, e, hy])
   ·rw [hI]; simp [waitsN, waitO, e]
  ·rw [w64_M (n := t.fStates.length) (by omega) (by omega)]
   exact ok_inl ⟨by omega, rfl, hr⟩
 obtain ⟨r, h1, h2⟩ := this
 rw [h1, h2]
def lenT (s : api_State) : Int := w64 (s.fSpan.fTo - s.fSpan.fFrom)
def ofL (l : List api_State) (a : Int) : List Int := (l.filter (fun s => decide (s.fThread = a))).map lenT
theorem hasB_any (t : api_Trace) (a : Int) : hasB t a = t.fThreads.any (fun x => decide (x.fId = a)) := rfl
theorem contains_p (l : List api_Thread) (a : Int) (h : l.length ≤ 1000000) : slices_ContainsFunc_api_Thread_api_Thread_k1 l a = some (l.any (fun x => decide (x.fId = a))) := by
 have : Ok (slices_IndexFunc_api_Thread_api_Thread_k1 l a) (fun r => decide (0 ≤ r) = l.any (fun x => decide (x.fId = a))) := by
  unfold slices_IndexFunc_api_Thread_api_Thread_k1
  refine ok_bindS (Q := InlR (fun _ => l.any (fun x => decide (x.fId = a)) = false) (fun r : Int => 0 ≤ r ∧ l.any (fun x => decide (x.fId = a)) = true)) (ok_upM l.length (fun n => ∀ (j : Nat) z, j < n → l[j]? = some z → z.fId ≠ a) (by omega) (by intro j z hj; omega) (fun i hI h2 => ?_)) (fun _ hr => ok_some ?_) (fun r hr => ok_some ?_)
  ·unfold slices_IndexFunc_api_Thread_api_Thread_k1_L1
   refine ok_ite (fun hi => ?_) (fun hi => ok_inr (show l.any (fun x => decide (x.fId = a)) = false from ?_))
   ·obtain ⟨y, hiy, hy⟩ := ok_ixM (xs := l) (i := i) (by omega)
    rw [hiy, Option.bind_some]
    unfold latency_Of_1_k1
    rw [Option.bind_some]
    refine ok_ite (fun e => ok_inr (show 0 ≤ (i : Int) ∧ _ from ⟨by omega, List.any_eq_true.2 ⟨y, List.mem_of_getElem? hy, decide_eq_true e⟩⟩)) (fun e => ?_)
    rw [w64_M (n := l.length) (by omega) (by omega)]
    refine ok_inl ⟨by omega, rfl, fun j z hj hz => ?_⟩
    by_cases e2 : j = i
    ·subst e2; rw [hy] at hz; cases hz; exact e
    ·exact hI j z (by omega) hz
   ·rw [List.any_eq_false]
    intro x hx
    obtain ⟨j, hj⟩ := List.getElem?_of_mem hx
    have := hI j x (by have := lt_of_get hj; omega) hj
    simpa using this
  ·rw [hr]; rfl
  ·rw [hr.2]; exact decide_eq_true hr.1
 unfold slices_ContainsFunc_api_Thread_api_Thread_k1
 obtain ⟨r, h1, h2⟩ := this
 rw [h1, Option.bind_some, h2]
theorem ofL_take (l : List api_State) (a : Int) {i : Nat} {y : api_State} (hy : l[i]? = some y) : ofL (l.take (i + 1)) a = ofL (l.take i) a ++ (if y.fThread = a then [lenT y] else []) := by
 unfold ofL
 rw [List.take_add_one, hy]
 simp only [Option.toList_some, List.filter_append, List.map_append, List.filter_cons, List.filter_nil]
 by_cases g : y.fThread = a <;> simp [g]
theorem ofL_len (l : List api_State) (a : Int) : (ofL l a).length ≤ l.length := by
 unfold ofL; rw [List.length_map]; exact List.length_filter_le _ _
theorem of_loop (w : List api_State) (a : Int) (h : w.length ≤ 1000000) : loop (latency_Of_L1 a w) ([], 0) = some (ofL w a) := by
 have : Ok (loop (latency_Of_L1 a w) ([], 0)) (fun r => r = ofL w a) := by
  refine ok_up2M w.length (fun x n => x = ofL (w.take n) a) (by omega) (by simp [ofL]) (fun x i hI h2 => ?_)
  have hxl : x.length ≤ i := by rw [hI]; have := ofL_len (w.take i) a; rw [List.length_take] at this; omega
  unfold latency_Of_L1
  dsimp only
  refine ok_ite (fun hi => ?_) (fun hi => ok_inr (by rw [hI, List.take_of_length_le (by omega)]))
  obtain ⟨y, hiy, hy⟩ := ok_ixM (xs := w) (i := i) (by omega)
  refine ok_bind (Q := fun r => r = ofL (w.take (i + 1)) a) ?_ (fun r hr => ?_)
  ·rw [hiy, Option.bind_some, ofL_take w a hy]
   refine ok_ite (fun e => ?_) (fun e => ok_some (by rw [hI, if_neg e, List.append_nil]))
   unfold latency_length
   rw [Option.bind_some, room_ok (by simp; omega) (by simp; omega)]
   exact ok_some (by rw [hI, if_pos e]; rfl)
  ·rw [w64_M (n := w.length) (by omega) (by omega)]
   exact ok_inl ⟨by omega, rfl, hr⟩
 obtain ⟨r, h1, h2⟩ := this
 rw [h1, h2]
theorem Of_p (t : api_Trace) (a : Int) (e : trace_Check t = some 0) (hs : t.fStates.length ≤ 300) (ht : t.fThreads.length ≤ 1000000) : latency_Of t a = some (if hasB t a = true then (ofL (waitsL t.fStates) a, 0) else ([], 5)) := by
 unfold latency_Of
 rw [e, Option.bind_some, contains_p _ _ ht, Option.bind_some]
 simp only [decide_true, Bool.not_true, cond_false]
 rw [← hasB_any]
 cases hasB t a with
 | false => rfl
 | true =>
  have := waitsN_len t.fStates t.fStates.length
  simp only [Bool.not_true, cond_false, if_true]
  rw [waits_p t (by omega), Option.bind_some, of_loop _ _ (by unfold waitsL; omega)]
  rfl
theorem Of_err (t : api_Trace) (a : Int) {r : Int} (e : trace_Check t = some r) (h : r ≠ 0) : latency_Of t a = some ([], r) := by
 unfold latency_Of
 rw [e, Option.bind_some]
 simp [h]
theorem all_loop (w : List api_State) (h : w.length ≤ 1000000) : loop (latency_All_L1 w) ([], 0) = some (w.map lenT) := by
 have : Ok (loop (latency_All_L1 w) ([], 0)) (fun r => r = w.map lenT) := by
  refine ok_up2M w.length (fun x n => x = (w.take n).map lenT) (by omega) (by simp) (fun x i hI h2 => ?_)
  have hxl : x.length ≤ i := by rw [hI, List.length_map, List.length_take]; omega
  unfold latency_All_L1
  dsimp only
  refine ok_ite (fun hi => ?_) (fun hi => ok_inr (by rw [hI, List.take_of_length_le (by omega)]))
  obtain ⟨y, hiy, hy⟩ := ok_ixM (xs := w) (i := i) (by omega)
  rw [hiy, Option.bind_some]
  unfold latency_length
  rw [Option.bind_some, room_ok (by simp; omega) (by simp; omega)]
  simp only [cond_true]
  rw [w64_M (n := w.length) (by omega) (by omega)]
  exact ok_inl ⟨by omega, rfl, by rw [hI, List.take_add_one, hy]; simp [lenT]⟩
 obtain ⟨r, h1, h2⟩ := this
 rw [h1, h2]
def allL (l : List api_State) : List Int := sortI ((waitsL l).map lenT)
theorem allL_len (l : List api_State) : (allL l).length = (waitsL l).length := by
 unfold allL; rw [(sortI_perm _).length_eq, List.length_map]
theorem All_p (t : api_Trace) (e : trace_Check t = some 0) (hs : t.fStates.length ≤ 300) : latency_All t = some (allL t.fStates, 0) := by
 have := waitsN_len t.fStates t.fStates.length
 unfold latency_All
 rw [e, Option.bind_some]
 simp only [decide_true, Bool.not_true, cond_false]
 rw [waits_p t (by omega), Option.bind_some, all_loop _ (by unfold waitsL; omega), Option.bind_some]
 unfold slices_Sort_int_int_k1
 have hl : sortN ((waitsL t.fStates).map lenT) = true := decide_eq_true (by rw [List.length_map]; unfold waitsL; omega)
 rw [hl]
 rfl
theorem All_err (t : api_Trace) {r : Int} (e : trace_Check t = some r) (h : r ≠ 0) : latency_All t = some ([], r) := by
 unfold latency_All
 rw [e, Option.bind_some]
 simp [h]
theorem awake49 : tracebooklaw49_awake = some true := by kernel_rfl
theorem siz49 {t : api_Trace} (h : okr_api_Trace t) : Siz t := by
 have e : reachBytes = 140737488351232 := by decide
 unfold okr_api_Trace okL okr_api_Thread okr_api_Slice okr_api_Sample okr_api_Step okr_api_Block okr_str okL at h
 rw [e] at h
 obtain ⟨_, _, h1, h2, h3, h4, h5, h6, h7, h8⟩ := h
 refine ⟨by omega, by omega, by omega, by omega, by omega, by omega, by omega, by omega, fun x hx => ?_, fun x hx => ?_, fun x hx => ?_, fun x hx => ?_, fun x hx => ?_⟩
 ·have := (h1.2 x hx).2.1; unfold okN; omega
 ·have := (h2.2 x hx).2.2.2.1; unfold okN; omega
 ·have := (h5.2 x hx).2.2.2; exact ⟨by omega, fun y hy => by have := this.2 y hy; unfold okN; omega⟩
 ·have := (h6.2 x hx).1; unfold okN; omega
 ·have := (h7.2 x hx).2.2.2.2.2.1; exact ⟨by omega, fun y hy => by have := this.2 y hy; unfold okN; omega⟩
theorem small_ok {t : api_Trace} (h : okr_api_Trace t) : Ok (tracebooklaw49_small t) (fun b => b = true → t.fThreads.length ≤ 1000000 ∧ t.fStates.length ≤ 300) := by
 have e : reachBytes = 140737488351232 := by decide
 unfold okr_api_Trace okL at h
 rw [e] at h
 obtain ⟨_, _, h1, h2, h3, h4, h5, h6, h7, h8⟩ := h
 have g2 := h2.1; have g3 := h3.1; have g4 := h4.1; have g5 := h5.1; have g6 := h6.1; have g7 := h7.1; have g8 := h8.1
 unfold tracebooklaw49_small
 refine ok_bind (Q := fun b => b = true → t.fThreads.length ≤ 1000000 ∧ t.fStates.length ≤ 300) ?_ (fun b hb => ok_some hb)
 refine ok_ite (fun hth => ok_some (fun hb => ?_)) (fun _ => ok_some (by simp))
 have hb := of_decide_eq_true hb
 clear h2 h3 h4 h5 h6 h7 h8 h1
 generalize t.fSlices.length = a at *
 generalize t.fStates.length = b at *
 generalize t.fFlows.length = c at *
 generalize t.fSamples.length = d at *
 generalize t.fSteps.length = f at *
 generalize t.fBlocks.length = g at *
 generalize t.fLost.length = k at *
 rw [w64_of (n := (a : Int) + b) (by omega), w64_of (n := (a : Int) + b + c) (by omega), w64_of (n := (a : Int) + b + c + d) (by omega), w64_of (n := (a : Int) + b + c + d + f) (by omega), w64_of (n := (a : Int) + b + c + d + f + g) (by omega), w64_of (n := (a : Int) + b + c + d + f + g + k) (by omega)] at hb
 exact ⟨by omega, by omega⟩
def sumL : List Int → Int
 | [] => 0
 | x :: l => x + sumL l
theorem sumL_append (a b : List Int) : sumL (a ++ b) = sumL a + sumL b := by
 induction a with
 | nil => simp [sumL]
 | cons x a ih => simp only [List.cons_append, sumL, ih]; omega
theorem u64_of {n : Int} (h : 0 ≤ n ∧ n < 18446744073709551616) : IntKind.wrap .u64 n = n := by
 have e : (2 : Int) ^ (64 : Nat) = 18446744073709551616 := by decide
 simp only [IntKind.wrap, IntKind.bits, IntKind.signed, e, Bool.false_and, Bool.false_eq_true, if_false]
 omega
theorem waits_r (l : List api_State) (h : l.length ≤ 1000000) : tracebookref49_waits l = some (waitsL l) := by
 have : Ok (tracebookref49_waits l) (fun r => r = waitsL l) := by
  unfold tracebookref49_waits
  have fin : waitsN l (l.length - 1) = waitsL l := by
   unfold waitsL
   cases e : l.length with
   | zero => rfl
   | succ n =>
    simp only [Nat.add_sub_cancel, waitsN]
    have : waitO l n = [] := by
     unfold waitO waitB
     rw [List.getElem?_eq_none (by omega : l.length ≤ n + 1)]
     cases l[n]? <;> simp
    rw [this, List.append_nil]
  refine ok_bind (Q := fun r => r = waitsL l) (ok_up2M (l.length - 1) (fun a n => a = waitsN l n) (by omega) rfl (fun a i hI h2 => ?_)) (fun r hr => ok_some hr)
  have hal : a.length ≤ i := by rw [hI]; exact waitsN_len _ _
  unfold tracebookref49_waits_L1
  dsimp only
  rw [w64_of (n := (i : Int) + 1) (by omega)]
  refine ok_ite (fun hi => ?_) (fun hi => ok_inr (by rw [hI, show i = l.length - 1 by omega]; exact fin))
  obtain ⟨y, hiy, hy⟩ := ok_ixM (xs := l) (i := i) (by omega)
  obtain ⟨z, hiz, hz⟩ := ok_ixM (xs := l) (i := i + 1) (by omega)
  have e1 : (i : Int) + 1 = ((i + 1 : Nat) : Int) := by omega
  rw [e1, hiy, hiz]
  simp only [Option.bind_some]
  have hcond : ((bif decide (y.fState = 0) then (bif decide (z.fState = 4) then some (decide (y.fThread = z.fThread)) else some false) else some false) : Option Bool) = some (waitB l i) := by
   unfold waitB
   rw [hy, hz]
   by_cases g1 : y.fState = 0 <;> by_cases g2 : z.fState = 4 <;> simp [g1, g2, eq_comm]
  rw [hcond, Option.bind_some]
  refine ok_bind (Q := fun r => r = waitsN l (i + 1)) ?_ (fun r hr => ?_)
  ·refine ok_cond (fun e => ?_) (fun e => ok_some ?_)
   ·rw [room_ok (by simp; omega) (by simp; omega)]
    exact ok_some (by rw [hI]; simp [waitsN, waitO, e, hy])
   ·rw [hI]; simp [waitsN, waitO, e]
  ·exact ok_inl ⟨by omega, rfl, hr⟩
 obtain ⟨r, h1, h2⟩ := this
 rw [h1, h2]
theorem insert_ok (l : List Int) (n : Int) (h : l.length ≤ 1000) (hs : l.Pairwise (· ≤ ·)) : Ok (tracebookref49_insert l n) (fun r => r.Pairwise (· ≤ ·) ∧ r.Perm (n :: l)) := by
 unfold tracebookref49_insert
 refine ok_bind (Q := fun e : Int => 0 ≤ e ∧ e ≤ l.length ∧ (∀ (j : Nat) y, e ≤ j → l[j]? = some y → n < y) ∧ (∀ (j : Nat) y, (j : Int) < e → l[j]? = some y → y ≤ n)) (ok_loop (fun s : Int => 0 ≤ s ∧ s ≤ l.length ∧ ∀ (j : Nat) y, s ≤ j → l[j]? = some y → n < y) (fun s => s.toNat) (fun s hI => ?_) ⟨by omega, by omega, fun j y h1 h2 => by have := lt_of_get h2; omega⟩ (by simp [manyRounds]; omega)) (fun e he => ?_)
 ·obtain ⟨h1, h2, h3⟩ := hI
  unfold tracebookref49_insert_L1
  by_cases g : 0 < s
  ·simp only [g, decide_true, cond_true]
   rw [show w64 (s - 1) = s - 1 from w64_of (by omega)]
   obtain ⟨y, hy, hy2⟩ := ok_idx (xs := l) (i := s - 1) (by omega) (by omega)
   rw [hy, Option.bind_some, Option.bind_some]
   refine ok_ite (fun hlt => ok_inl ⟨⟨by omega, by omega, fun j z hj hz => ?_⟩, by omega⟩) (fun hge => ok_inr ⟨by omega, by omega, h3, fun j z hj hz => ?_⟩)
   ·by_cases e : s ≤ j
    ·exact h3 j z e hz
    ·have : (s - 1).toNat = j := by omega
     rw [this] at hy2; rw [hy2] at hz; cases hz; exact hlt
   ·have hjl := lt_of_get hz
    by_cases e : (s - 1).toNat = j
    ·rw [e] at hy2; rw [hy2] at hz; cases hz; omega
    ·have hk := lt_of_get hy2
     have h5 := List.pairwise_iff_getElem.1 hs j (s - 1).toNat hjl hk (by omega)
     rw [List.getElem?_eq_getElem hk] at hy2
     rw [List.getElem?_eq_getElem hjl] at hz
     have e1 := Option.some.inj hy2
     have e2 := Option.some.inj hz
     omega
  ·simp only [g, decide_false, cond_false, Option.bind_some]
   exact ok_inr ⟨by omega, by omega, h3, fun j y hj => by omega⟩
 ·obtain ⟨h1, h2, h3, h4⟩ := he
  have s1 : slcPart l 0 e = some (l.take e.toNat) := by
   unfold slcPart; rw [if_pos ⟨by omega, by omega, by omega⟩]; simp
  have s2 : slcPart l e (l.length : Int) = some (l.drop e.toNat) := by
   unfold slcPart; rw [if_pos ⟨by omega, by omega, by omega⟩]; simp
  rw [s1, s2]
  simp only [Option.bind_some]
  have l1 : (l.take e.toNat).length ≤ 1000 := by rw [List.length_take]; omega
  have l2 : (l.drop e.toNat).length ≤ 1000 := by rw [List.length_drop]; omega
  rw [room_ok (by simp only [List.length_nil]; omega) (by simp only [List.length_nil]; omega)]
  simp only [cond_true, List.nil_append]
  rw [room_ok (by simp only [List.length_cons, List.length_nil]; omega) (by simp only [List.length_cons, List.length_nil]; omega)]
  simp only [cond_true]
  rw [room_ok (by simp only [List.length_append, List.length_cons, List.length_nil]; omega) (by simp only [List.length_append, List.length_cons, List.length_nil]; omega)]
  refine ok_some ⟨?_, ?_⟩
  ·rw [List.pairwise_append, List.pairwise_append]
   refine ⟨⟨hs.sublist (List.take_sublist _ _), List.pairwise_singleton _ _, fun a ha b hb => ?_⟩, hs.sublist (List.drop_sublist _ _), fun a ha b hb => ?_⟩
   ·simp only [List.mem_singleton] at hb; subst hb
    obtain ⟨j, hj, rfl⟩ := List.mem_take_iff_getElem.1 ha
    exact h4 j _ (by omega) (List.getElem?_eq_getElem (by omega))
   ·obtain ⟨k, hk, rfl⟩ := List.mem_drop_iff_getElem.1 hb
    have hb2 := h3 (e.toNat + k) l[e.toNat + k] (by omega) (List.getElem?_eq_getElem (by omega))
    rcases List.mem_append.1 ha with ha | ha
    ·obtain ⟨j, hj, rfl⟩ := List.mem_take_iff_getElem.1 ha
     have := h4 j l[j] (by omega) (List.getElem?_eq_getElem (by omega))
     omega
    ·simp only [List.mem_singleton] at ha; subst ha; omega
  ·have : (l.take e.toNat ++ [n] ++ l.drop e.toNat).Perm (n :: (l.take e.toNat ++ l.drop e.toNat)) := by
    rw [List.append_assoc]; exact List.perm_middle
   rwa [List.take_append_drop] at this
theorem all_r (w : List api_State) (h : w.length ≤ 1000) : loop (tracebookref49_All_L1 w) ([], 0) = some (sortI (w.map lenT)) := by
 have : Ok (loop (tracebookref49_All_L1 w) ([], 0)) (fun r => r = sortI (w.map lenT)) := by
  refine ok_up2M w.length (fun x n => x.Pairwise (· ≤ ·) ∧ x.Perm ((w.take n).map lenT)) (by omega) ⟨List.Pairwise.nil, by simp⟩ (fun x i hI h2 => ?_)
  obtain ⟨i1, i2⟩ := hI
  have hxl : x.length ≤ i := by rw [i2.length_eq, List.length_map, List.length_take]; omega
  unfold tracebookref49_All_L1
  dsimp only
  refine ok_ite (fun hi => ?_) (fun hi => ok_inr (sorted_unique _ _ (by rw [List.take_of_length_le (by omega)] at i2; exact i2.trans (sortI_perm _).symm) i1 (sortI_sorted _)))
  obtain ⟨y, hiy, hy⟩ := ok_ixM (xs := w) (i := i) (by omega)
  rw [hiy, Option.bind_some]
  unfold tracebookref49_length
  rw [Option.bind_some]
  refine ok_bind (insert_ok x _ (by omega) i1) (fun r hr => ?_)
  rw [w64_M (n := w.length) (by omega) (by omega)]
  refine ok_inl ⟨by omega, rfl, hr.1, hr.2.trans ?_⟩
  rw [List.take_add_one, hy]
  simp only [Option.toList_some, List.map_append, List.map_cons, List.map_nil]
  exact (i2.cons _).trans (List.perm_append_singleton _ _).symm
 obtain ⟨r, h1, h2⟩ := this
 rw [h1, h2]
theorem refAll_eq (t : api_Trace) (hz : Siz t) (ht : t.fThreads.length ≤ 1000000) (hs : t.fStates.length ≤ 300) : tracebookref49_All t = latency_All t := by
 unfold tracebookref49_All
 rw [← trace_Check_eq t hz ht]
 obtain ⟨r, hr, _⟩ := trace_Check_ok t hz ht
 rw [hr, Option.bind_some]
 by_cases e : r = 0
 ·subst e
  have := waitsN_len t.fStates t.fStates.length
  rw [All_p t hr hs, waits_r _ (by omega)]
  simp only [decide_true, Bool.not_true, cond_false, Option.bind_some]
  rw [all_r _ (by unfold waitsL; omega)]
  rfl
 ·rw [All_err t hr e]; simp [e]
theorem allL_top (l : List api_State) (h : l.length ≤ 300) : (allL l).length ≤ 300 := by
 rw [allL_len]
 have h3 := waitsN_len l l.length
 unfold waitsL; omega
def bitsN (n : Nat) : Nat := if n = 0 then 0 else Nat.log2 n + 1
theorem bits_top {n : Nat} (h : n < 9223372036854775808) : bitsN n ≤ 63 := by
 unfold bitsN
 split
 ·omega
 ·rename_i h0
  have := (Nat.log2_lt h0).2 (show n < 2 ^ 63 from h)
  omega
def extH (h : List Int) (b : Nat) : List Int := h ++ List.replicate (b + 1 - h.length) 0
theorem ext_len (h : List Int) (b : Nat) : (extH h b).length = max h.length (b + 1) := by
 unfold extH; rw [List.length_append, List.length_replicate]; omega
def addH (h : List Int) (y : Int) : List Int := if y < 0 then h else (extH h (bitsN y.toNat)).set (bitsN y.toNat) (((extH h (bitsN y.toNat))[bitsN y.toNat]?).getD 0 + 1)
theorem sumL_rep0 (k : Nat) : sumL (List.replicate k 0) = 0 := by
 induction k with
 | zero => rfl
 | succ k ih => rw [List.replicate_succ]; simp only [sumL, ih]; rfl
theorem sumL_set : ∀ (l : List Int) (i : Nat) (x v : Int), l[i]? = some x → sumL (l.set i v) = sumL l - x + v
 | [], i, x, v, h => by simp at h
 | a :: l, 0, x, v, h => by simp at h; subst h; simp only [List.set_cons_zero, sumL]; omega
 | a :: l, i + 1, x, v, h => by
  have := sumL_set l i x v (by simpa using h)
  simp only [List.set_cons_succ, sumL, this]; omega
def nnN (l : List Int) (n : Nat) : Nat := ((l.take n).filter (fun y => decide (0 ≤ y))).length
theorem nnN_step {l : List Int} {i : Nat} {y : Int} (hy : l[i]? = some y) : nnN l (i + 1) = nnN l i + (if 0 ≤ y then 1 else 0) := by
 unfold nnN
 rw [List.take_add_one, hy]
 simp only [Option.toList_some, List.filter_append, List.length_append, List.filter_cons, List.filter_nil]
 by_cases g : 0 ≤ y <;> simp [g]
structure HiG (l : List Int) (n : Nat) (h : List Int) : Prop where
 len : h.length ≤ 64
 nn : ∀ x ∈ h, 0 ≤ x
 sum : sumL h = nnN l n
 last : ∀ x, h[h.length - 1]? = some x → 0 < x
theorem HiG.step {l : List Int} {i : Nat} {h : List Int} (H : HiG l i h) {y : Int} (hy : l[i]? = some y) (hyt : y ≤ 9223372036854775807) : HiG l (i + 1) (addH h y) := by
 unfold addH
 by_cases hneg : y < 0
 ·rw [if_pos hneg]
  exact ⟨H.len, H.nn, by rw [H.sum, nnN_step hy, if_neg (by omega)]; rfl, H.last⟩
 ·rw [if_neg hneg]
  have hb := bits_top (n := y.toNat) (by omega)
  generalize bitsN y.toNat = b at *
  have hel := ext_len h b
  have hex : ∀ x ∈ extH h b, 0 ≤ x := by
   intro x hx
   unfold extH at hx
   rcases List.mem_append.1 hx with hx | hx
   ·exact H.nn x hx
   ·have := (List.mem_replicate.1 hx).2; omega
  have hes : sumL (extH h b) = sumL h := by unfold extH; rw [sumL_append, sumL_rep0]; omega
  obtain ⟨v, hv⟩ : ∃ v, (extH h b)[b]? = some v := ⟨_, List.getElem?_eq_getElem (by omega)⟩
  have hv0 := hex v (List.mem_of_getElem? hv)
  rw [hv]
  simp only [Option.getD_some]
  refine ⟨by rw [List.length_set]; have := H.len; omega, fun x hx => ?_, ?_, fun x hx => ?_⟩
  ·rcases List.mem_or_eq_of_mem_set hx with hx | rfl
   ·exact hex x hx
   ·omega
  ·rw [sumL_set _ _ _ _ hv, hes, H.sum, nnN_step hy, if_pos (by omega)]; omega
  ·rw [List.length_set] at hx
   rw [List.getElem?_set] at hx
   by_cases e : b = (extH h b).length - 1
   ·rw [if_pos e, if_pos (by omega)] at hx
    have := Option.some.inj hx
    omega
   ·rw [if_neg e] at hx
    have hl : (extH h b).length = h.length := by omega
    have he : extH h b = h := by
     unfold extH
     have : b + 1 - h.length = 0 := by omega
     rw [this]; simp
    rw [he] at hx
    exact H.last x hx
theorem sameInts_p (l : List Int) (h : l.length ≤ 1000000) : tracebookref49_SameInts l l = some true := by
 unfold tracebookref49_SameInts
 have : Ok (loop (tracebookref49_SameInts_L1 l l) 0) (fun q => q = .inl ()) := by
  refine ok_upM l.length (fun _ => True) (by omega) trivial (fun i _ h2 => ?_)
  unfold tracebookref49_SameInts_L1
  refine ok_ite (fun hi => ?_) (fun _ => ok_inr rfl)
  obtain ⟨y, hiy, hy⟩ := ok_ixM (xs := l) (i := i) (by omega)
  rw [hiy, Option.bind_some, Option.bind_some]
  refine ok_nite (fun hne => absurd rfl hne) (fun _ => ?_)
  rw [w64_M (n := l.length) (by omega) (by omega)]
  exact ok_inl ⟨by omega, rfl, trivial⟩
 obtain ⟨q, h1, h2⟩ := this
 rw [h1, h2]
 simp
theorem at_mid {α : Type} (p s : List α) (x : α) : (p ++ x :: s)[p.length]? = some x := by simp
theorem set_mid {α : Type} (p s : List α) (x y : α) : (p ++ x :: s).set p.length y = p ++ y :: s := by simp
theorem swap2 {α : Type} (p q s : List α) (x y x' y' : α) :
  (p ++ x :: (q ++ y :: s))[p.length]? = some x ∧ (p ++ x :: (q ++ y :: s))[p.length + 1 + q.length]? = some y ∧ ((p ++ x :: (q ++ y :: s)).set p.length x') = p ++ x' :: (q ++ y :: s) ∧ ((p ++ x :: (q ++ y :: s)).set (p.length + 1 + q.length) y') = p ++ x :: (q ++ y' :: s) := by
 have e : ∀ (x : α) (y : α), p ++ x :: (q ++ y :: s) = (p ++ x :: q) ++ y :: s := fun x y => by simp
 have l : ∀ x : α, (p ++ x :: q).length = p.length + 1 + q.length := fun x => by simp; omega
 refine ⟨at_mid p _ x, ?_, set_mid p _ x x', ?_⟩
 ·rw [e, ← l x]; exact at_mid _ _ _
 ·rw [e, ← l x, set_mid, ← e]
theorem swapR_ok (u X z Y v : List api_State) (n : Nat) (hX : X.length = n) (hY : Y.length = n) (hl : (u ++ X ++ z ++ Y ++ v).length ≤ 1000000) (i1 i2 i3 : Int) (e1 : i1 = u.length) (e2 : i2 = (u.length + n + z.length : Nat)) (e3 : i3 = n) :
  slices_swapRangeCmpFunc_api_State_k1 (u ++ X ++ z ++ Y ++ v) i1 i2 i3 = some (u ++ Y ++ z ++ X ++ v) := by
 subst e1 e2 e3
 simp only [List.length_append] at hl
 have : Ok (slices_swapRangeCmpFunc_api_State_k1 (u ++ X ++ z ++ Y ++ v) (u.length : Int) ((u.length + n + z.length : Nat) : Int) (n : Int)) (fun r => r = u ++ Y ++ z ++ X ++ v) := by
  unfold slices_swapRangeCmpFunc_api_State_k1
  refine ok_up2M n (fun a i => ∃ Xd Xr Yd Yr, X = Xd ++ Xr ∧ Y = Yd ++ Yr ∧ Xd.length = i ∧ Yd.length = i ∧ a = u ++ Yd ++ Xr ++ z ++ Xd ++ Yr ++ v) (by omega) ⟨[], X, [], Y, by simp, by simp, rfl, rfl, by simp⟩ (fun a i hI h2 => ?_)
  obtain ⟨Xd, Xr, Yd, Yr, rfl, rfl, g1, g2, rfl⟩ := hI
  rw [List.length_append] at hX hY
  unfold slices_swapRangeCmpFunc_api_State_k1_L1
  dsimp only
  refine ok_ite (fun hi => ?_) (fun hi => ok_inr ?_)
  ·cases Xr with
   | nil => simp at hX; omega
   | cons x Xr =>
    cases Yr with
    | nil => simp at hY; omega
    | cons y Yr =>
     simp only [List.length_cons] at hX hY
     simp only [List.length_append, List.length_cons] at hl
     have form : u ++ Yd ++ x :: Xr ++ z ++ Xd ++ y :: Yr ++ v = (u ++ Yd) ++ x :: ((Xr ++ z ++ Xd) ++ y :: (Yr ++ v)) := by simp
     have p1 : (u ++ Yd).length = u.length + i := by rw [List.length_append]; omega
     have p2 : (u ++ Yd).length + 1 + (Xr ++ z ++ Xd).length = u.length + n + z.length + i := by simp only [List.length_append]; omega
     have w1 : w64 ((u.length : Int) + (i : Int)) = ((u ++ Yd).length : Int) := by rw [w64_of (by omega), p1]; omega
     have w2 : w64 (((u.length + n + z.length : Nat) : Int) + (i : Int)) = (((u ++ Yd).length + 1 + (Xr ++ z ++ Xd).length : Nat) : Int) := by rw [w64_of (by omega), p2]; omega
     rw [form]
     obtain ⟨a1, a2, a3, a4⟩ := swap2 (u ++ Yd) (Xr ++ z ++ Xd) (Yr ++ v) x y y x
     obtain ⟨b1, b2, b3, b4⟩ := swap2 (u ++ Yd) (Xr ++ z ++ Xd) (Yr ++ v) y y y x
     rw [w1, w2, idx_nat, idx_nat, a1, a2]
     simp only [Option.bind_some, Int.toNat_natCast]
     rw [a3, idx_nat, b2, Option.bind_some, b4, w64_M (n := n) (by omega) (by omega)]
     refine ok_inl ⟨by omega, rfl, Xd ++ [x], Xr, Yd ++ [y], Yr, by simp, by simp, by simp; omega, by simp; omega, by simp⟩
  ·have hXr : Xr = [] := List.eq_nil_of_length_eq_zero (by omega)
   have hYr : Yr = [] := List.eq_nil_of_length_eq_zero (by omega)
   subst hXr hYr
   simp
 obtain ⟨r, h1, h2⟩ := this
 rw [h1, h2]
theorem rotate_ok (pre A B post : List api_State) (hA : A ≠ []) (hB : B ≠ []) (hl : (pre ++ A ++ B ++ post).length ≤ 1000000) (i1 i2 i3 : Int) (e1 : i1 = pre.length) (e2 : i2 = (pre.length + A.length : Nat)) (e3 : i3 = (pre.length + A.length + B.length : Nat)) :
  slices_rotateCmpFunc_api_State_k1 (pre ++ A ++ B ++ post) i1 i2 i3 = some (pre ++ B ++ A ++ post) := by
 subst e1 e2 e3
 have la : 0 < A.length := List.length_pos_iff.2 hA
 have lb : 0 < B.length := List.length_pos_iff.2 hB
 simp only [List.length_append] at hl
 have : Ok (slices_rotateCmpFunc_api_State_k1 (pre ++ A ++ B ++ post) (pre.length : Int) ((pre.length + A.length : Nat) : Int) ((pre.length + A.length + B.length : Nat) : Int)) (fun r => r = pre ++ B ++ A ++ post) := by
  unfold slices_rotateCmpFunc_api_State_k1
  rw [w64_of (n := ((pre.length + A.length : Nat) : Int) - (pre.length : Int)) (by omega), w64_of (n := ((pre.length + A.length + B.length : Nat) : Int) - ((pre.length + A.length : Nat) : Int)) (by omega)]
  refine ok_bind (Q := fun r : List api_State × Int => ∃ u X Y v, X.length = Y.length ∧ 0 < X.length ∧ u.length + X.length = pre.length + A.length ∧ (u ++ X ++ Y ++ v).length = (pre ++ A ++ B ++ post).length ∧ r.1 = u ++ X ++ Y ++ v ∧ r.2 = X.length ∧ u ++ Y ++ X ++ v = pre ++ B ++ A ++ post)
   (ok_loop (fun s : List api_State × Int × Int => ∃ u X Y v, 0 < X.length ∧ 0 < Y.length ∧ u.length + X.length = pre.length + A.length ∧ (u ++ X ++ Y ++ v).length = (pre ++ A ++ B ++ post).length ∧ s.1 = u ++ X ++ Y ++ v ∧ s.2.1 = X.length ∧ s.2.2 = Y.length ∧ u ++ Y ++ X ++ v = pre ++ B ++ A ++ post) (fun s => (s.2.1 + s.2.2).toNat) (fun s hs => ?_) ⟨pre, A, B, post, la, lb, rfl, rfl, rfl, by simp only; omega, by simp only; omega, rfl⟩ (by simp [manyRounds]; omega)) (fun r hr => ?_)
  ·obtain ⟨a, i, j⟩ := s
   obtain ⟨u, X, Y, v, h1, h2, h3, h4, rfl, h6, h7, h8⟩ := hs
   simp only at h6 h7
   subst h6 h7
   simp only [List.length_append] at h4
   unfold slices_rotateCmpFunc_api_State_k1_L1
   dsimp only
   refine ok_nite (fun hne => ?_) (fun heq => ok_inr ⟨u, X, Y, v, by omega, h1, h3, by simp only [List.length_append]; omega, rfl, rfl, h8⟩)
   have hu : w64 (((pre.length + A.length : Nat) : Int) - (X.length : Int)) = (u.length : Int) := by rw [w64_of (by omega)]; omega
   rw [hu]
   refine ok_ite (fun hlt => ?_) (fun hge => ?_)
   ·
    have hX : X = X.take Y.length ++ X.drop Y.length := (List.take_append_drop _ _).symm
    have t1 : (X.take Y.length).length = Y.length := by rw [List.length_take]; omega
    have t2 : (X.drop Y.length).length = X.length - Y.length := by rw [List.length_drop]
    generalize X.take Y.length = X1 at *
    generalize X.drop Y.length = X2 at *
    subst hX
    rw [List.length_append] at h3 h4 hlt t2 ⊢
    have form : u ++ (X1 ++ X2) ++ Y ++ v = u ++ X1 ++ X2 ++ Y ++ v := by simp
    rw [form, swapR_ok u X1 X2 Y v Y.length t1 rfl (by simp only [List.length_append]; omega) _ _ _ rfl (by omega) rfl, Option.bind_some]
    rw [w64_of (by omega)]
    refine ok_inl ⟨⟨u ++ Y, X2, X1, v, by omega, by omega, by rw [List.length_append]; omega, by simp only [List.length_append]; omega, rfl, by simp only; omega, by simp only; omega, by rw [← h8]; simp⟩, by simp only; omega⟩
   ·have hY : Y = Y.take (Y.length - X.length) ++ Y.drop (Y.length - X.length) := (List.take_append_drop _ _).symm
    have t1 : (Y.take (Y.length - X.length)).length = Y.length - X.length := by rw [List.length_take]; omega
    have t2 : (Y.drop (Y.length - X.length)).length = X.length := by rw [List.length_drop]; omega
    generalize Y.take (Y.length - X.length) = Y1 at *
    generalize Y.drop (Y.length - X.length) = Y2 at *
    subst hY
    rw [List.length_append] at h2 h4 hne hge t1 ⊢
    have form : u ++ X ++ (Y1 ++ Y2) ++ v = u ++ X ++ Y1 ++ Y2 ++ v := by simp
    have w2 : w64 (w64 (((pre.length + A.length : Nat) : Int) + ((Y1.length + Y2.length : Nat) : Int)) - (X.length : Int)) = ((u.length + X.length + Y1.length : Nat) : Int) := by
     rw [w64_of (n := ((pre.length + A.length : Nat) : Int) + ((Y1.length + Y2.length : Nat) : Int)) (by omega), w64_of (by omega)]; omega
    rw [form, w2, swapR_ok u X Y1 Y2 v X.length rfl t2 (by simp only [List.length_append]; omega) _ _ _ rfl rfl rfl, Option.bind_some]
    rw [w64_of (by omega)]
    refine ok_inl ⟨⟨u, Y2, Y1, X ++ v, by omega, by omega, by omega, by simp only [List.length_append]; omega, by simp, by simp only; omega, by simp only; omega, by rw [← h8]; simp⟩, by simp only; omega⟩
  ·obtain ⟨a, i⟩ := r
   obtain ⟨u, X, Y, v, h1, h2, h3, h4, rfl, h6, h8⟩ := hr
   simp only at h6
   subst h6
   simp only [List.length_append] at h4
   have hu : w64 (((pre.length + A.length : Nat) : Int) - (X.length : Int)) = (u.length : Int) := by rw [w64_of (by omega)]; omega
   dsimp only
   have form : u ++ X ++ Y ++ v = u ++ X ++ [] ++ Y ++ v := by simp
   rw [hu, form, swapR_ok u X [] Y v X.length rfl h1.symm (by simp only [List.length_append, List.length_nil]; omega) _ _ _ rfl (by simp only [List.length_nil]; omega) rfl, Option.bind_some]
   exact ok_some (by rw [← h8]; simp)
 obtain ⟨r, h1, h2⟩ := this
 rw [h1, h2]
abbrev DS := api_State × Nat
def lt (x y : DS) : Prop := lenT y.1 < lenT x.1 ∨ (lenT x.1 = lenT y.1 ∧ x.2 < y.2)
theorem lt_tr {x y z : DS} (h1 : lt x y) (h2 : lt y z) : lt x z := by unfold lt at *; omega
theorem lt_irr {x y : DS} (h1 : lt x y) (h2 : lt y x) : False := by unfold lt at *; omega
theorem worst1_p (a b : api_State) : ∃ r, latency_Worst_1 a b = some r ∧ (decide (r < 0) = decide (lenT b < lenT a)) := by
 unfold latency_Worst_1 latency_length
 rw [Option.bind_some, Option.bind_some, cmpI_eq, Option.bind_some]
 refine ⟨_, rfl, ?_⟩
 change decide ((if lenT b < lenT a then (-1 : Int) else if lenT a < lenT b then 1 else 0) < 0) = _
 by_cases g : lenT b < lenT a
 ·simp [g]
 ·by_cases g2 : lenT a < lenT b <;> simp [g, g2]
theorem swap_adj {α : Type} (p s : List α) (x y : α) : (p ++ y :: x :: s)[p.length]? = some y ∧ (p ++ y :: x :: s)[p.length + 1]? = some x ∧ ((p ++ y :: x :: s).set (p.length + 1) y) = p ++ y :: y :: s ∧ ((p ++ y :: y :: s).set p.length x) = p ++ x :: y :: s ∧ (p ++ y :: y :: s)[p.length]? = some y := by
 obtain ⟨a1, a2, a3, a4⟩ := swap2 p [] s y x x y
 obtain ⟨b1, b2, b3, b4⟩ := swap2 p [] s y y x y
 exact ⟨a1, a2, a4, b3, b1⟩
theorem ins_sorted {C1 C2 : List DS} {x : DS} (h : (C1 ++ C2).Pairwise lt) (h1 : ∀ y ∈ C1, lt y x) (h2 : ∀ y ∈ C2, lt x y) : (C1 ++ x :: C2).Pairwise lt := by
 rw [List.pairwise_append] at h ⊢
 refine ⟨h.1, List.pairwise_cons.2 ⟨h2, h.2.1⟩, fun a ha b hb => ?_⟩
 rcases List.mem_cons.1 hb with rfl | hb
 ·exact h1 a ha
 ·exact h.2.2 a ha b hb
theorem sink_ok (pre C rest : List DS) (x : DS) (hC : C.Pairwise lt) (hx : ∀ y ∈ C, y.2 < x.2) (hl : (pre ++ C ++ [x] ++ rest).length ≤ 1000000) (lo j : Int) (e1 : lo = pre.length) (e2 : j = (pre.length + C.length : Nat)) :
  Ok (loop (slices_insertionSortCmpFunc_api_State_k1_L1 lo) ((pre ++ C ++ [x] ++ rest).map (·.1), j)) (fun r => ∃ C', r = (pre ++ C' ++ rest).map (·.1) ∧ C'.Perm (x :: C) ∧ C'.Pairwise lt) := by
 subst e1 e2
 simp only [List.length_append, List.length_cons, List.length_nil] at hl
 refine ok_loop (fun s : List api_State × Int => ∃ C1 C2, C = C1 ++ C2 ∧ s.1 = (pre ++ C1 ++ [x] ++ C2 ++ rest).map (·.1) ∧ s.2 = (pre.length + C1.length : Nat) ∧ ∀ y ∈ C2, lt x y) (fun s => s.2.toNat) (fun s hs => ?_) ⟨C, [], by simp, by simp, rfl, by simp⟩ (by simp [manyRounds]; omega)
 obtain ⟨a, j⟩ := s
 obtain ⟨C1, C2, rfl, rfl, h3, h4⟩ := hs
 simp only at h3
 subst h3
 unfold slices_insertionSortCmpFunc_api_State_k1_L1
 dsimp only
 simp only [List.length_append] at hl
 have done : (∀ y ∈ C1, lt y x) → Ok (some (Sum.inr ((pre ++ C1 ++ [x] ++ C2 ++ rest).map (·.1))) : Option ((List api_State × Int) ⊕ List api_State)) (InlR (fun s' : List api_State × Int => (∃ C1' C2', C1 ++ C2 = C1' ++ C2' ∧ s'.1 = (pre ++ C1' ++ [x] ++ C2' ++ rest).map (·.1) ∧ s'.2 = (pre.length + C1'.length : Nat) ∧ ∀ y ∈ C2', lt x y) ∧ s'.2.toNat < ((pre.length + C1.length : Nat) : Int).toNat) (fun r => ∃ C', r = (pre ++ C' ++ rest).map (·.1) ∧ C'.Perm (x :: (C1 ++ C2)) ∧ C'.Pairwise lt)) := fun hlast =>
  ok_inr ⟨C1 ++ x :: C2, by simp, List.perm_middle, ins_sorted hC hlast h4⟩
 by_cases g : ((pre.length : Nat) : Int) < ((pre.length + C1.length : Nat) : Int)
 ·obtain ⟨C0, y, rfl⟩ : ∃ C0 y, C1 = C0 ++ [y] := by
   have : C1 ≠ [] := fun e => by subst e; simp at g
   exact ⟨C1.dropLast, C1.getLast this, (List.dropLast_concat_getLast this).symm⟩
  simp only [List.length_append, List.length_cons, List.length_nil] at hl g
  have form : ((pre ++ (C0 ++ [y]) ++ [x] ++ C2 ++ rest).map (·.1)) = ((pre ++ C0).map (·.1)) ++ y.1 :: x.1 :: ((C2 ++ rest).map (·.1)) := by simp
  have lp : ((pre ++ C0).map (·.1)).length = pre.length + C0.length := by simp
  obtain ⟨s1, s2, s3, s4, s5⟩ := swap_adj ((pre ++ C0).map (·.1)) ((C2 ++ rest).map (·.1)) x.1 y.1
  rw [lp] at s1 s2 s3 s4 s5
  rw [form] at done ⊢
  have j1 : w64 (((pre.length + (C0 ++ [y]).length : Nat) : Int) - 1) = ((pre.length + C0.length : Nat) : Int) := by rw [List.length_append, List.length_cons, List.length_nil, w64_of (by omega)]; omega
  have j0 : ((pre.length + (C0 ++ [y]).length : Nat) : Int) = ((pre.length + C0.length + 1 : Nat) : Int) := by rw [List.length_append, List.length_cons, List.length_nil]; omega
  have gg : (pre.length : Int) < ((pre.length + (C0 ++ [y]).length : Nat) : Int) := by rw [j0]; omega
  obtain ⟨r, hr, hr2⟩ := worst1_p x.1 y.1
  rw [decide_eq_true gg, cond_true, j1]
  rw [j0, idx_nat, s2, idx_nat, s1]
  simp only [Option.bind_some]
  rw [hr, Option.bind_some, Option.bind_some, hr2]
  refine ok_ite (fun hlt => ?_) (fun hge => ?_)
  ·simp only [Int.toNat_natCast, s3, idx_nat, s5, Option.bind_some, s4]
   refine ok_inl ⟨⟨C0, y :: C2, by simp, by simp, rfl, fun z hz => ?_⟩, by simp only [Int.toNat_natCast]; omega⟩
   rcases List.mem_cons.1 hz with rfl | hz
   ·exact .inl hlt
   ·exact h4 z hz
  ·rw [j0] at done
   refine done (fun z hz => ?_)
   have hy := hx y (by simp)
   have hyx : lt y x := by unfold lt; omega
   rcases List.mem_append.1 hz with hz | hz
   ·have := (List.pairwise_append.1 (List.pairwise_append.1 hC).1).2.2 z hz y (by simp)
    exact lt_tr this hyx
   ·simp only [List.mem_singleton] at hz; subst hz; exact hyx
 ·rw [decide_eq_false g]
  simp only [cond_false, Option.bind_some]
  have : C1 = [] := List.eq_nil_of_length_eq_zero (by omega)
  exact done (fun z hz => by subst this; simp at hz)
theorem insSort_ok (pre S post : List DS) (hS : S.Pairwise (fun x y => x.2 < y.2)) (hl : (pre ++ S ++ post).length ≤ 1000000) (lo hi : Int) (e1 : lo = pre.length) (e2 : hi = (pre.length + S.length : Nat)) :
  Ok (slices_insertionSortCmpFunc_api_State_k1 ((pre ++ S ++ post).map (·.1)) lo hi) (fun r => ∃ C, r = (pre ++ C ++ post).map (·.1) ∧ C.Perm S ∧ C.Pairwise lt) := by
 subst e1 e2
 simp only [List.length_append] at hl
 unfold slices_insertionSortCmpFunc_api_State_k1
 rw [w64_of (by omega)]
 by_cases h0 : S = []
 ·subst h0
  refine ok_loop (fun s : List api_State × Int => s = ((pre ++ [] ++ post).map (fun x : DS => x.1), (pre.length : Int) + 1)) (fun _ => 0) (fun s hs => ?_) rfl (by simp [manyRounds])
  subst hs
  unfold slices_insertionSortCmpFunc_api_State_k1_L2
  dsimp only
  refine ok_ite (fun h => by simp at h; omega) (fun _ => ok_inr ⟨[], rfl, List.Perm.refl _, List.Pairwise.nil⟩)
 ·have hpos : 0 < S.length := List.length_pos_iff.2 h0
  refine ok_loop (fun s : List api_State × Int => ∃ (k : Nat) (C : List DS), 1 ≤ k ∧ k ≤ S.length ∧ s.2 = (pre.length + k : Nat) ∧ C.Perm (S.take k) ∧ C.Pairwise lt ∧ s.1 = (pre ++ C ++ S.drop k ++ post).map (·.1)) (fun s => ((pre.length + S.length : Nat) - s.2).toNat) (fun s hs => ?_) ⟨1, S.take 1, by omega, by omega, by simp only; omega, List.Perm.refl _, ?_, ?_⟩ (by simp [manyRounds]; omega)
  ·obtain ⟨a, i⟩ := s
   obtain ⟨k, C, h1, h2, h3, h4, h5, rfl⟩ := hs
   simp only at h3
   subst h3
   unfold slices_insertionSortCmpFunc_api_State_k1_L2
   dsimp only
   refine ok_ite (fun hi => ?_) (fun hi => ok_inr ?_)
   ·obtain ⟨x, hx⟩ : ∃ x, S[k]? = some x := ⟨_, List.getElem?_eq_getElem (by omega)⟩
    have hd : S.drop k = x :: S.drop (k + 1) := by
     rw [List.drop_eq_getElem_cons (by omega)]
     rw [List.getElem?_eq_getElem (by omega)] at hx
     rw [Option.some.inj hx]
    have hcl : C.length = k := by rw [h4.length_eq, List.length_take]; omega
    have hxlt : ∀ y ∈ C, y.2 < x.2 := by
     intro y hy
     have hy2 := h4.mem_iff.1 hy
     obtain ⟨q, hq, rfl⟩ := List.mem_take_iff_getElem.1 hy2
     have := List.pairwise_iff_getElem.1 hS q k (by omega) (by omega) (by omega)
     rw [List.getElem?_eq_getElem (by omega)] at hx
     rw [← Option.some.inj hx]
     exact this
    have form : pre ++ C ++ S.drop k ++ post = pre ++ C ++ [x] ++ (S.drop (k + 1) ++ post) := by rw [hd]; simp
    rw [form]
    refine ok_bind (sink_ok pre C (S.drop (k + 1) ++ post) x h5 hxlt (by simp only [List.length_append, List.length_cons, List.length_nil, List.length_drop]; omega) _ _ rfl (by rw [hcl])) (fun r hr => ?_)
    obtain ⟨C', rfl, c2, c3⟩ := hr
    rw [w64_of (by omega)]
    refine ok_inl ⟨⟨k + 1, C', by omega, by omega, by simp only; omega, ?_, c3, by simp⟩, by simp only; omega⟩
    refine c2.trans ?_
    rw [List.take_add_one, hx]
    simp only [Option.toList_some]
    exact ((h4.cons x).trans (List.perm_append_singleton x _).symm)
   ·have hk : k = S.length := by omega
    subst hk
    rw [List.take_length] at h4
    exact ⟨C, by simp, h4, h5⟩
  ·have : (S.take 1).length ≤ 1 := by rw [List.length_take]; omega
   cases hS1 : S.take 1 with
   | nil => exact List.Pairwise.nil
   | cons z l =>
    rw [hS1] at this
    have : l = [] := List.eq_nil_of_length_eq_zero (by simpa using this)
    subst this; exact List.pairwise_singleton _ _
  ·simp only
   rw [List.append_assoc pre (S.take 1), List.take_append_drop]
theorem half_p (i j : Nat) (hi : i ≤ 1000000) (hj : j ≤ 1000000) : w64 (shR .u64 (IntKind.wrap .u64 (w64 ((i : Int) + (j : Int)))) 1) = (((i + j) / 2 : Nat) : Int) := by
 have e : (2 : Int) ^ min (1 : Int).toNat (IntKind.u64).bits = 2 := by decide
 unfold shR
 rw [w64_of (n := (i : Int) + (j : Int)) (by omega), u64_of (by omega), e, Int.fdiv_eq_ediv_of_nonneg _ (by omega), w64_of (by omega)]
 omega
theorem bsearch {step : Int × Int → Option ((Int × Int) ⊕ Int)} (P : Nat → Bool) (lo hi : Nat) (hlh : lo ≤ hi) (hhi : hi ≤ 1000000) (mono : ∀ i j, lo ≤ i → i ≤ j → j < hi → P j = true → P i = true)
  (h : ∀ (i j : Nat), lo ≤ i → i < j → j ≤ hi → step ((i : Int), (j : Int)) = some (if P ((i + j) / 2) = true then .inl ((((i + j) / 2 + 1 : Nat) : Int), (j : Int)) else .inl ((i : Int), (((i + j) / 2 : Nat) : Int)))) (h2 : ∀ i : Nat, step ((i : Int), (i : Int)) = some (.inr (i : Int))) :
  ∃ e : Nat, loop step ((lo : Int), (hi : Int)) = some (e : Int) ∧ lo ≤ e ∧ e ≤ hi ∧ (∀ k, lo ≤ k → k < e → P k = true) ∧ (∀ k, e ≤ k → k < hi → P k = false) := by
 have : Ok (loop step ((lo : Int), (hi : Int))) (fun r => ∃ e : Nat, r = (e : Int) ∧ lo ≤ e ∧ e ≤ hi ∧ (∀ k, lo ≤ k → k < e → P k = true) ∧ (∀ k, e ≤ k → k < hi → P k = false)) := by
  refine ok_loop (fun s : Int × Int => ∃ i j : Nat, s = ((i : Int), (j : Int)) ∧ lo ≤ i ∧ i ≤ j ∧ j ≤ hi ∧ (∀ k, lo ≤ k → k < i → P k = true) ∧ (∀ k, j ≤ k → k < hi → P k = false)) (fun s => (s.2 - s.1).toNat) (fun s hs => ?_) ⟨lo, hi, rfl, by omega, by omega, by omega, fun k h1 h2 => by omega, fun k h1 h2 => by omega⟩ (by simp [manyRounds]; omega)
  obtain ⟨i, j, rfl, h3, h4, h5, h6, h7⟩ := hs
  by_cases g : i < j
  ·rw [h i j h3 g h5]
   by_cases hp : P ((i + j) / 2) = true
   ·rw [if_pos hp]
    refine ok_inl ⟨⟨(i + j) / 2 + 1, j, rfl, by omega, by omega, by omega, fun k h8 h9 => ?_, h7⟩, by simp only; omega⟩
    exact mono k ((i + j) / 2) h8 (by omega) (by omega) hp
   ·rw [if_neg hp]
    refine ok_inl ⟨⟨i, (i + j) / 2, rfl, by omega, by omega, by omega, h6, fun k h8 h9 => ?_⟩, by simp only; omega⟩
    cases hk : P k with
    | false => rfl
    | true => exact absurd (mono ((i + j) / 2) k (by omega) h8 h9 hk) hp
  ·have : i = j := by omega
   subst this
   rw [h2 i]
   exact ok_inr ⟨i, rfl, h3, h5, h6, h7⟩
 obtain ⟨r, h1, e, rfl, h3⟩ := this
 exact ⟨e, h1, h3⟩
theorem swap_adj2 {α : Type} (p s : List α) (x y : α) : (p ++ x :: y :: s)[p.length]? = some x ∧ (p ++ x :: y :: s)[p.length + 1]? = some y ∧ ((p ++ x :: y :: s).set p.length y) = p ++ y :: y :: s ∧ ((p ++ y :: y :: s).set (p.length + 1) x) = p ++ y :: x :: s ∧ (p ++ y :: y :: s)[p.length + 1]? = some y := by
 obtain ⟨a1, a2, a3, a4⟩ := swap2 p [] s x y y x
 obtain ⟨b1, b2, b3, b4⟩ := swap2 p [] s y y y x
 exact ⟨a1, a2, a3, b4, b2⟩
theorem right_ok (p B s : List api_State) (x : api_State) (hl : (p ++ x :: (B ++ s)).length ≤ 1000000) (e k : Int) (h1 : e = (p.length + 1 + B.length : Nat)) (h2 : k = p.length) :
  loop (slices_symMergeCmpFunc_api_State_k1_L1 e) (p ++ x :: (B ++ s), k) = some (p ++ (B ++ x :: s)) := by
 subst h1 h2
 simp only [List.length_append, List.length_cons] at hl
 have : Ok (loop (slices_symMergeCmpFunc_api_State_k1_L1 ((p.length + 1 + B.length : Nat) : Int)) (p ++ x :: (B ++ s), (p.length : Int))) (fun r => r = p ++ (B ++ x :: s)) := by
  refine ok_loop (fun a : List api_State × Int => ∃ Bd Br, B = Bd ++ Br ∧ a.1 = (p ++ Bd) ++ x :: (Br ++ s) ∧ a.2 = ((p ++ Bd).length : Nat)) (fun a => ((p.length + B.length : Nat) - a.2).toNat) (fun a ha => ?_) ⟨[], B, rfl, by simp, by simp⟩ (by simp [manyRounds]; omega)
  obtain ⟨a, k⟩ := a
  obtain ⟨Bd, Br, rfl, rfl, h3⟩ := ha
  simp only at h3
  subst h3
  simp only [List.length_append] at hl ⊢
  unfold slices_symMergeCmpFunc_api_State_k1_L1
  dsimp only
  rw [show w64 (((p.length + 1 + (Bd.length + Br.length) : Nat) : Int) - 1) = ((p.length + Bd.length + Br.length : Nat) : Int) from by rw [w64_of (by omega)]; omega]
  refine ok_ite (fun hi => ?_) (fun hi => ok_inr ?_)
  ·cases Br with
   | nil => simp at hi
   | cons y Br =>
    obtain ⟨a1, a2, a3, a4, a5⟩ := swap_adj2 (p ++ Bd) (Br ++ s) x y
    simp only [List.length_cons] at hl hi ⊢
    rw [List.length_append] at a1 a2 a3 a4 a5
    have k1 : w64 (((p.length + Bd.length : Nat) : Int) + 1) = ((p.length + Bd.length + 1 : Nat) : Int) := by rw [w64_of (by omega)]; omega
    rw [k1]
    simp only [List.cons_append, idx_nat, a1, a2, Option.bind_some, Int.toNat_natCast, a3, a5, a4]
    exact ok_inl ⟨⟨Bd ++ [y], Br, by simp, by simp, by simp; omega⟩, by simp only; omega⟩
  ·have : Br = [] := List.eq_nil_of_length_eq_zero (by omega)
   subst this
   simp
 obtain ⟨r, h1, h2⟩ := this
 rw [h1, h2]
theorem left_ok (p A s : List api_State) (y : api_State) (hl : (p ++ (A ++ y :: s)).length ≤ 1000000) (e k : Int) (h1 : e = p.length) (h2 : k = (p.length + A.length : Nat)) :
  loop (slices_symMergeCmpFunc_api_State_k1_L3 e) (p ++ (A ++ y :: s), k) = some (p ++ y :: (A ++ s)) := by
 subst h1 h2
 simp only [List.length_append, List.length_cons] at hl
 have : Ok (loop (slices_symMergeCmpFunc_api_State_k1_L3 (p.length : Int)) (p ++ (A ++ y :: s), ((p.length + A.length : Nat) : Int))) (fun r => r = p ++ y :: (A ++ s)) := by
  refine ok_loop (fun a : List api_State × Int => ∃ Ar Ad, A = Ar ++ Ad ∧ a.1 = (p ++ Ar) ++ y :: (Ad ++ s) ∧ a.2 = (p.length + Ar.length : Nat)) (fun a => a.2.toNat) (fun a ha => ?_) ⟨A, [], by simp, by simp, rfl⟩ (by simp [manyRounds]; omega)
  obtain ⟨a, k⟩ := a
  obtain ⟨Ar, Ad, rfl, rfl, h3⟩ := ha
  simp only at h3
  subst h3
  simp only [List.length_append] at hl ⊢
  unfold slices_symMergeCmpFunc_api_State_k1_L3
  dsimp only
  refine ok_ite (fun hi => ?_) (fun hi => ok_inr ?_)
  ·obtain ⟨A0, z, rfl⟩ : ∃ A0 z, Ar = A0 ++ [z] := by
    have : Ar ≠ [] := fun e => by subst e; simp at hi
    exact ⟨Ar.dropLast, Ar.getLast this, (List.dropLast_concat_getLast this).symm⟩
   have form : (p ++ (A0 ++ [z])) ++ y :: (Ad ++ s) = (p ++ A0) ++ z :: y :: (Ad ++ s) := by simp
   obtain ⟨a1, a2, a3, a4, a5⟩ := swap_adj (p ++ A0) (Ad ++ s) y z
   simp only [List.length_append, List.length_cons, List.length_nil] at hl hi a1 a2 a3 a4 a5 ⊢
   have k0 : ((p.length + (A0.length + (0 + 1)) : Nat) : Int) = ((p.length + A0.length + 1 : Nat) : Int) := by omega
   have k1 : w64 (((p.length + A0.length + 1 : Nat) : Int) - 1) = ((p.length + A0.length : Nat) : Int) := by rw [w64_of (by omega)]; omega
   rw [form, k0, k1]
   simp only [idx_nat, a1, a2, Option.bind_some, Int.toNat_natCast, a3, a5, a4]
   exact ok_inl ⟨⟨A0, z :: Ad, by simp, by simp, rfl⟩, by simp only; omega⟩
  ·have : Ar = [] := List.eq_nil_of_length_eq_zero (by omega)
   subst this
   simp
 obtain ⟨r, h1, h2⟩ := this
 rw [h1, h2]
theorem key_le {L : List DS} (h : L.Pairwise lt) {i j : Nat} {x y : DS} (hi : L[i]? = some x) (hj : L[j]? = some y) (hij : i ≤ j) : lenT y.1 ≤ lenT x.1 := by
 have h1 := lt_of_get hi
 have h2 := lt_of_get hj
 rw [List.getElem?_eq_getElem h1] at hi
 rw [List.getElem?_eq_getElem h2] at hj
 have e1 := Option.some.inj hi
 have e2 := Option.some.inj hj
 by_cases e : i = j
 ·subst e; rw [e1] at e2; rw [e2]; exact Int.le_refl _
 ·have := List.pairwise_iff_getElem.1 h i j h1 h2 (by omega)
  rw [e1, e2] at this
  unfold lt at this; omega
theorem stpA (pre A B post : List DS) (c : Nat) (h1 : pre.length ≤ c) (h2 : c < pre.length + A.length) : ∃ x, A[c - pre.length]? = some x ∧ ((pre ++ A ++ B ++ post).map (·.1))[c]? = some x.1 := by
 refine ⟨A[c - pre.length]'(by omega), List.getElem?_eq_getElem (by omega), ?_⟩
 rw [List.getElem?_map, List.append_assoc, List.append_assoc, List.getElem?_append_right h1, List.getElem?_append_left (by omega), List.getElem?_eq_getElem (by omega)]
 rfl
theorem stpB (pre A B post : List DS) (c : Nat) (h1 : pre.length + A.length ≤ c) (h2 : c < pre.length + A.length + B.length) : ∃ x, B[c - (pre.length + A.length)]? = some x ∧ ((pre ++ A ++ B ++ post).map (·.1))[c]? = some x.1 := by
 refine ⟨B[c - (pre.length + A.length)]'(by omega), List.getElem?_eq_getElem (by omega), ?_⟩
 rw [List.getElem?_map, List.append_assoc, List.getElem?_append_right (by rw [List.length_append]; omega), List.getElem?_append_left (by rw [List.length_append]; omega), List.getElem?_eq_getElem (by rw [List.length_append]; omega)]
 simp [List.length_append]
theorem symMerge_ok : ∀ (n : Nat) (pre A B post : List DS), A ≠ [] → B ≠ [] → A.length + B.length ≤ n → A.Pairwise lt → B.Pairwise lt → (∀ x ∈ A, ∀ y ∈ B, x.2 < y.2) → (pre ++ A ++ B ++ post).length ≤ 1000000 →
  Ok (slices_symMergeCmpFunc_api_State_k1_n n ((pre ++ A ++ B ++ post).map (·.1)) (pre.length : Int) ((pre.length + A.length : Nat) : Int) ((pre.length + A.length + B.length : Nat) : Int)) (fun r => ∃ C, r = (pre ++ C ++ post).map (·.1) ∧ C.Perm (A ++ B) ∧ C.Pairwise lt)
 | 0, pre, A, B, post, hA, hB, hn, _, _, _, _ => by
  have := List.length_pos_iff.2 hA
  omega
 | n + 1, pre, A, B, post, hA, hB, hn, sA, sB, hAB, hl => by
  have la := List.length_pos_iff.2 hA
  have lb := List.length_pos_iff.2 hB
  simp only [List.length_append] at hl
  unfold slices_symMergeCmpFunc_api_State_k1_n slices_symMergeCmpFunc_api_State_k1_b
  rw [w64_of (n := ((pre.length + A.length : Nat) : Int) - (pre.length : Int)) (by omega), w64_of (n := ((pre.length + A.length + B.length : Nat) : Int) - ((pre.length + A.length : Nat) : Int)) (by omega)]
  refine ok_ite (fun h1 => ?_) (fun h1 => ?_)
  ·
   obtain ⟨x, rfl⟩ : ∃ x, A = [x] := by
    match A, (by omega : A.length = 1) with
    | [x], _ => exact ⟨x, rfl⟩
   simp only [List.length_cons, List.length_nil] at hl hn ⊢
   obtain ⟨e, he, e1, e2, e3, e4⟩ := bsearch (step := slices_symMergeCmpFunc_api_State_k1_L2 ((pre ++ [x] ++ B ++ post).map (·.1)) (pre.length : Int)) (fun c => match B[c - (pre.length + 1)]? with | some b => decide (lenT x.1 < lenT b.1) | none => false) (pre.length + 1) (pre.length + 1 + B.length) (by omega) (by omega)
    (fun i j hi hij hj hp => by
     obtain ⟨b, hb⟩ : ∃ b, B[j - (pre.length + 1)]? = some b := ⟨_, List.getElem?_eq_getElem (by omega)⟩
     obtain ⟨a, ha⟩ : ∃ a, B[i - (pre.length + 1)]? = some a := ⟨_, List.getElem?_eq_getElem (by omega)⟩
     have := key_le sB ha hb (by omega)
     simp only [hb, decide_eq_true_eq] at hp
     simp only [ha, decide_eq_true_eq]
     omega)
    (fun i j hi hij hj => by
     unfold slices_symMergeCmpFunc_api_State_k1_L2
     dsimp only
     rw [decide_eq_true (by omega : (i : Int) < (j : Int)), cond_true, half_p i j (by omega) (by omega)]
     obtain ⟨b, hb, hb2⟩ := stpB pre [x] B post ((i + j) / 2) (by simp; omega) (by simp; omega)
     obtain ⟨a, ha, ha2⟩ := stpA pre [x] B post pre.length (by omega) (by simp)
     simp at ha
     subst ha
     obtain ⟨r, hr, hr2⟩ := worst1_p b.1 x.1
     simp only [List.length_cons, List.length_nil] at hb
     rw [idx_nat, hb2, idx_nat, ha2]
     simp only [Option.bind_some]
     rw [hr, Option.bind_some, hr2, show (pre.length + (0 + 1)) = pre.length + 1 by omega] at *
     rw [hb]
     rw [w64_of (n := (((i + j) / 2 : Nat) : Int) + 1) (by omega)]
     by_cases g : lenT x.1 < lenT b.1
     ·simp [g]
     ·simp [g])
    (fun i => by unfold slices_symMergeCmpFunc_api_State_k1_L2; simp)
   rw [he, Option.bind_some]
   have hBs : B = B.take (e - (pre.length + 1)) ++ B.drop (e - (pre.length + 1)) := (List.take_append_drop _ _).symm
   have t1 : (B.take (e - (pre.length + 1))).length = e - (pre.length + 1) := by rw [List.length_take]; omega
   have form : ((pre ++ [x] ++ B ++ post).map (·.1)) = pre.map (·.1) ++ x.1 :: ((B.take (e - (pre.length + 1))).map (·.1) ++ ((B.drop (e - (pre.length + 1))).map (·.1) ++ post.map (·.1))) := by
    conv => lhs; rw [hBs]
    simp only [List.map_append, List.map_cons, List.map_nil, List.append_assoc, List.cons_append, List.nil_append]
   rw [form, right_ok (pre.map (·.1)) _ _ _ (by
    simp only [List.length_append, List.length_cons, List.length_map, List.length_take, List.length_drop]; omega) _ _ (by simp only [List.length_map, t1]; omega) (by simp), Option.bind_some]
   refine ok_some ⟨B.take (e - (pre.length + 1)) ++ x :: B.drop (e - (pre.length + 1)), by simp only [List.map_append, List.map_cons, List.map_nil, List.append_assoc, List.cons_append, List.nil_append], ?_, ins_sorted (by rw [← hBs]; exact sB) (fun b hb => ?_) (fun b hb => ?_)⟩
   ·refine List.perm_middle.trans ?_
    rw [← hBs]; rfl
   ·obtain ⟨q, hq, rfl⟩ := List.mem_take_iff_getElem.1 hb
    have hp := e3 (q + (pre.length + 1)) (by omega) (by omega)
    rw [show q + (pre.length + 1) - (pre.length + 1) = q by omega, List.getElem?_eq_getElem (by omega)] at hp
    exact .inl (of_decide_eq_true hp)
   ·obtain ⟨q, hq, rfl⟩ := List.mem_drop_iff_getElem.1 hb
    have hp := e4 (e + q) (by omega) (by omega)
    rw [show e + q - (pre.length + 1) = e - (pre.length + 1) + q by omega, List.getElem?_eq_getElem (by omega)] at hp
    have h3 := of_decide_eq_false hp
    have h4 := hAB x (by simp) B[e - (pre.length + 1) + q] (List.getElem_mem _)
    unfold lt; omega
  refine ok_ite (fun h2 => ?_) (fun h2 => ?_)
  ·
   obtain ⟨y, rfl⟩ : ∃ y, B = [y] := by
    match B, (by omega : B.length = 1) with
    | [y], _ => exact ⟨y, rfl⟩
   simp only [List.length_cons, List.length_nil] at hl hn ⊢
   obtain ⟨e, he, e1, e2, e3, e4⟩ := bsearch (step := slices_symMergeCmpFunc_api_State_k1_L4 ((pre ++ A ++ [y] ++ post).map (·.1)) ((pre.length + A.length : Nat) : Int)) (fun c => match A[c - pre.length]? with | some a => !decide (lenT a.1 < lenT y.1) | none => false) pre.length (pre.length + A.length) (by omega) (by omega)
    (fun i j hi hij hj hp => by
     obtain ⟨b, hb⟩ : ∃ b, A[j - pre.length]? = some b := ⟨_, List.getElem?_eq_getElem (by omega)⟩
     obtain ⟨a, ha⟩ : ∃ a, A[i - pre.length]? = some a := ⟨_, List.getElem?_eq_getElem (by omega)⟩
     have := key_le sA ha hb (by omega)
     simp only [hb, Bool.not_eq_true', decide_eq_false_iff_not] at hp
     simp only [ha, Bool.not_eq_true', decide_eq_false_iff_not]
     omega)
    (fun i j hi hij hj => by
     unfold slices_symMergeCmpFunc_api_State_k1_L4
     dsimp only
     rw [decide_eq_true (by omega : (i : Int) < (j : Int)), cond_true, half_p i j (by omega) (by omega)]
     obtain ⟨a, ha, ha2⟩ := stpA pre A [y] post ((i + j) / 2) (by omega) (by omega)
     obtain ⟨b, hb, hb2⟩ := stpB pre A [y] post (pre.length + A.length) (by omega) (by simp)
     simp at hb
     subst hb
     obtain ⟨r, hr, hr2⟩ := worst1_p y.1 a.1
     rw [idx_nat, hb2, idx_nat, ha2]
     simp only [Option.bind_some]
     rw [hr, Option.bind_some, hr2, ha]
     rw [w64_of (n := (((i + j) / 2 : Nat) : Int) + 1) (by omega)]
     by_cases g : lenT a.1 < lenT y.1
     ·simp [g]
     ·simp [g])
    (fun i => by unfold slices_symMergeCmpFunc_api_State_k1_L4; simp)
   rw [he, Option.bind_some]
   have hAs : A = A.take (e - pre.length) ++ A.drop (e - pre.length) := (List.take_append_drop _ _).symm
   have t1 : (A.take (e - pre.length)).length = e - pre.length := by rw [List.length_take]; omega
   have t2 : (A.drop (e - pre.length)).length = A.length - (e - pre.length) := by rw [List.length_drop]
   have form : ((pre ++ A ++ [y] ++ post).map (·.1)) = (pre ++ A.take (e - pre.length)).map (·.1) ++ ((A.drop (e - pre.length)).map (·.1) ++ y.1 :: post.map (·.1)) := by
    conv => lhs; rw [hAs]
    simp only [List.map_append, List.map_cons, List.map_nil, List.append_assoc, List.cons_append, List.nil_append]
   rw [form, left_ok ((pre ++ A.take (e - pre.length)).map (·.1)) _ _ _ (by
    simp only [List.length_append, List.length_cons, List.length_map, List.length_take, List.length_drop]; omega) _ _ (by simp only [List.length_append, List.length_map, t1]; omega) (by simp only [List.length_append, List.length_map, t1, t2]; omega), Option.bind_some]
   refine ok_some ⟨A.take (e - pre.length) ++ y :: A.drop (e - pre.length), by simp only [List.map_append, List.map_cons, List.map_nil, List.append_assoc, List.cons_append, List.nil_append], ?_, ins_sorted (by rw [← hAs]; exact sA) (fun a ha => ?_) (fun a ha => ?_)⟩
   ·refine List.perm_middle.trans ?_
    rw [← hAs]
    exact (List.perm_append_singleton _ _).symm
   ·obtain ⟨q, hq, rfl⟩ := List.mem_take_iff_getElem.1 ha
    have hp := e3 (pre.length + q) (by omega) (by omega)
    rw [show pre.length + q - pre.length = q by omega, List.getElem?_eq_getElem (by omega)] at hp
    simp only [Bool.not_eq_true', decide_eq_false_iff_not] at hp
    have h4 := hAB A[q] (List.getElem_mem _) y (by simp)
    unfold lt; omega
   ·obtain ⟨q, hq, rfl⟩ := List.mem_drop_iff_getElem.1 ha
    have hp := e4 (e + q) (by omega) (by omega)
    rw [show e + q - pre.length = e - pre.length + q by omega, List.getElem?_eq_getElem (by omega)] at hp
    simp only [Bool.not_eq_false', decide_eq_true_eq] at hp
    exact .inl hp
  have la2 : 2 ≤ A.length := by omega
  have lb2 : 2 ≤ B.length := by omega
  rw [half_p pre.length (pre.length + A.length + B.length) (by omega) (by omega)]
  generalize hmid : (pre.length + (pre.length + A.length + B.length)) / 2 = mid at *
  generalize hN : pre.length + A.length + B.length = hi at *
  have e0 : w64 ((mid : Int) + ((pre.length + A.length : Nat) : Int)) = ((mid + (pre.length + A.length) : Nat) : Int) := by rw [w64_of (by omega)]; omega
  rw [e0]
  have hst : ∃ s0 r0 : Nat, ((bif (decide ((mid : Int) < ((pre.length + A.length : Nat) : Int))) then some ((w64 (((mid + (pre.length + A.length) : Nat) : Int) - (hi : Int))), (mid : Int)) else some ((pre.length : Int), ((pre.length + A.length : Nat) : Int))) : Option (Int × Int)) = some ((s0 : Int), (r0 : Int)) ∧ pre.length ≤ s0 ∧ s0 ≤ r0 ∧ r0 ≤ pre.length + A.length ∧ r0 ≤ mid ∧ mid + (pre.length + A.length) - s0 ≤ hi ∧ (s0 = pre.length ∨ mid + (pre.length + A.length) - s0 = hi) ∧ (r0 = pre.length + A.length ∨ r0 = mid) := by
   by_cases g : mid < pre.length + A.length
   ·refine ⟨mid + (pre.length + A.length) - hi, mid, ?_, by omega, by omega, by omega, by omega, by omega, by omega, by omega⟩
    rw [decide_eq_true (by omega : (mid : Int) < ((pre.length + A.length : Nat) : Int)), cond_true, w64_of (by omega)]
    congr 2
    omega
   ·refine ⟨pre.length, pre.length + A.length, ?_, by omega, by omega, by omega, by omega, by omega, by omega, by omega⟩
    rw [decide_eq_false (by omega : ¬ (mid : Int) < ((pre.length + A.length : Nat) : Int)), cond_false]
  obtain ⟨s0, r0, hsr, g1, g2, g3, g4, g5, g6, g7⟩ := hst
  rw [hsr, Option.bind_some]
  dsimp only
  obtain ⟨s, hs, s1, s2, s3, s4⟩ := bsearch (step := slices_symMergeCmpFunc_api_State_k1_L5 ((pre ++ A ++ B ++ post).map (·.1)) (pre.length : Int) ((pre.length + A.length : Nat) : Int) (hi : Int)) (fun c => match A[c - pre.length]?, B[mid - 1 - c]? with | some a, some b => !decide (lenT a.1 < lenT b.1) | _, _ => false) s0 r0 (by omega) (by omega)
   (fun i j hi1 hij hj hp => by
    obtain ⟨a, ha⟩ : ∃ a, A[i - pre.length]? = some a := ⟨_, List.getElem?_eq_getElem (by omega)⟩
    obtain ⟨a', ha'⟩ : ∃ a, A[j - pre.length]? = some a := ⟨_, List.getElem?_eq_getElem (by omega)⟩
    obtain ⟨b, hb⟩ : ∃ b, B[mid - 1 - i]? = some b := ⟨_, List.getElem?_eq_getElem (by omega)⟩
    obtain ⟨b', hb'⟩ : ∃ b, B[mid - 1 - j]? = some b := ⟨_, List.getElem?_eq_getElem (by omega)⟩
    have k1 := key_le sA ha ha' (by omega)
    have k2 := key_le sB hb' hb (by omega)
    simp only [ha', hb', Bool.not_eq_true', decide_eq_false_iff_not] at hp
    simp only [ha, hb, Bool.not_eq_true', decide_eq_false_iff_not]
    omega)
   (fun i j hi1 hij hj => by
    unfold slices_symMergeCmpFunc_api_State_k1_L5
    dsimp only
    have hm2 := half_p pre.length hi (by omega) (by omega)
    rw [hmid] at hm2
    rw [decide_eq_true (by omega : (i : Int) < (j : Int)), cond_true, half_p i j (by omega) (by omega), hm2, e0]
    have c1 : w64 (w64 (((mid + (pre.length + A.length) : Nat) : Int) - 1) - (((i + j) / 2 : Nat) : Int)) = ((pre.length + A.length + (mid - 1 - (i + j) / 2) : Nat) : Int) := by
     rw [w64_of (n := ((mid + (pre.length + A.length) : Nat) : Int) - 1) (by omega), w64_of (by omega)]; omega
    obtain ⟨a, ha, ha2⟩ := stpA pre A B post ((i + j) / 2) (by omega) (by omega)
    obtain ⟨b, hb, hb2⟩ := stpB pre A B post (pre.length + A.length + (mid - 1 - (i + j) / 2)) (by omega) (by omega)
    rw [show pre.length + A.length + (mid - 1 - (i + j) / 2) - (pre.length + A.length) = mid - 1 - (i + j) / 2 by omega] at hb
    obtain ⟨r, hr, hr2⟩ := worst1_p b.1 a.1
    rw [c1, idx_nat, hb2, idx_nat, ha2]
    simp only [Option.bind_some]
    rw [hr, Option.bind_some, hr2, ha, hb]
    rw [w64_of (n := (((i + j) / 2 : Nat) : Int) + 1) (by omega)]
    by_cases g : lenT a.1 < lenT b.1
    ·simp [g]
    ·simp [g])
   (fun i => by unfold slices_symMergeCmpFunc_api_State_k1_L5; simp)
  rw [hs, Option.bind_some]
  have e5 : w64 (((mid + (pre.length + A.length) : Nat) : Int) - (s : Int)) = ((mid + (pre.length + A.length) - s : Nat) : Int) := by rw [w64_of (by omega)]; omega
  rw [e5]
  have hAs : A = A.take (s - pre.length) ++ A.drop (s - pre.length) := (List.take_append_drop _ _).symm
  have hBs : B = B.take (mid - s) ++ B.drop (mid - s) := (List.take_append_drop _ _).symm
  have t1 : (A.take (s - pre.length)).length = s - pre.length := by rw [List.length_take]; omega
  have t2 : (A.drop (s - pre.length)).length = pre.length + A.length - s := by rw [List.length_drop]; omega
  have t3 : (B.take (mid - s)).length = mid - s := by rw [List.length_take]; omega
  have t4 : (B.drop (mid - s)).length = B.length - (mid - s) := by rw [List.length_drop]
  have c12 : ∀ x ∈ A.take (s - pre.length), ∀ y ∈ B.drop (mid - s), lt x y := by
   intro x hx y hy
   have hix := hAB x (List.mem_of_mem_take hx) y (List.mem_of_mem_drop hy)
   obtain ⟨q, hq, rfl⟩ := List.mem_take_iff_getElem.1 hx
   obtain ⟨q2, hq2, rfl⟩ := List.mem_drop_iff_getElem.1 hy
   have hp := s3 (s - 1) (by omega) (by omega)
   obtain ⟨a, ha⟩ : ∃ a, A[s - 1 - pre.length]? = some a := ⟨_, List.getElem?_eq_getElem (by omega)⟩
   obtain ⟨b, hb⟩ : ∃ b, B[mid - 1 - (s - 1)]? = some b := ⟨_, List.getElem?_eq_getElem (by omega)⟩
   simp only [ha, hb, Bool.not_eq_true', decide_eq_false_iff_not] at hp
   have k1 := key_le sA (List.getElem?_eq_getElem (by omega) : A[q]? = some A[q]) ha (by omega)
   have k2 := key_le sB hb (List.getElem?_eq_getElem (by omega) : B[mid - s + q2]? = some B[mid - s + q2]) (by omega)
   unfold lt; omega
  have c21 : ∀ x ∈ B.take (mid - s), ∀ y ∈ A.drop (s - pre.length), lt x y := by
   intro x hx y hy
   obtain ⟨q, hq, rfl⟩ := List.mem_take_iff_getElem.1 hx
   obtain ⟨q2, hq2, rfl⟩ := List.mem_drop_iff_getElem.1 hy
   have hp := s4 s (by omega) (by omega)
   obtain ⟨a, ha⟩ : ∃ a, A[s - pre.length]? = some a := ⟨_, List.getElem?_eq_getElem (by omega)⟩
   obtain ⟨b, hb⟩ : ∃ b, B[mid - 1 - s]? = some b := ⟨_, List.getElem?_eq_getElem (by omega)⟩
   simp only [ha, hb, Bool.not_eq_false', decide_eq_true_eq] at hp
   have k1 := key_le sA ha (List.getElem?_eq_getElem (by omega) : A[s - pre.length + q2]? = some A[s - pre.length + q2]) (by omega)
   have k2 := key_le sB (List.getElem?_eq_getElem (by omega) : B[q]? = some B[q]) hb (by omega)
   unfold lt; omega
  have ixA : ∀ x ∈ A.take (s - pre.length), ∀ y ∈ B.take (mid - s), x.2 < y.2 := fun x hx y hy => hAB x (List.mem_of_mem_take hx) y (List.mem_of_mem_take hy)
  have ixB : ∀ x ∈ A.drop (s - pre.length), ∀ y ∈ B.drop (mid - s), x.2 < y.2 := fun x hx y hy => hAB x (List.mem_of_mem_drop hx) y (List.mem_of_mem_drop hy)
  have sAs := sA
  have sBs := sB
  rw [hAs, List.pairwise_append] at sAs
  rw [hBs, List.pairwise_append] at sBs
  have permAB : (A.take (s - pre.length) ++ B.take (mid - s) ++ (A.drop (s - pre.length) ++ B.drop (mid - s))).Perm (A ++ B) := by
   conv => rhs; rw [hAs, hBs]
   rw [List.append_assoc, List.append_assoc]
   refine List.Perm.append_left _ ?_
   rw [← List.append_assoc, ← List.append_assoc]
   exact List.Perm.append_right _ List.perm_append_comm
  have hAl : A.length = A.length := rfl
  refine ok_bind (Q := fun v => v = decide (s < pre.length + A.length ∧ pre.length + A.length < mid + (pre.length + A.length) - s)) ?_ (fun v hv => ?_)
  ·by_cases q1 : s < pre.length + A.length
   ·rw [decide_eq_true (by omega : (s : Int) < ((pre.length + A.length : Nat) : Int)), cond_true]
    refine ok_some ?_
    refine decide_eq_decide.2 ?_
    omega
   ·rw [decide_eq_false (by omega : ¬ (s : Int) < ((pre.length + A.length : Nat) : Int)), cond_false]
    exact ok_some (decide_eq_false (by omega)).symm
  refine ok_bind (Q := fun r => r = (pre ++ A.take (s - pre.length) ++ B.take (mid - s) ++ (A.drop (s - pre.length) ++ B.drop (mid - s) ++ post)).map (·.1)) ?_ (fun r hr => ?_)
  ·rw [hv]
   have form : ((pre ++ A ++ B ++ post).map (·.1)) = (pre ++ A.take (s - pre.length)).map (·.1) ++ (A.drop (s - pre.length)).map (·.1) ++ (B.take (mid - s)).map (·.1) ++ (B.drop (mid - s) ++ post).map (·.1) := by
    conv => lhs; rw [hAs, hBs]
    simp only [List.map_append, List.map_cons, List.map_nil, List.append_assoc, List.cons_append, List.nil_append]
   refine ok_ite (fun hc => ?_) (fun hc => ok_some ?_)
   ·rw [form, rotate_ok ((pre ++ A.take (s - pre.length)).map (·.1)) ((A.drop (s - pre.length)).map (·.1)) ((B.take (mid - s)).map (·.1)) ((B.drop (mid - s) ++ post).map (·.1)) (by
      intro h; have := congrArg List.length h; rw [List.length_map, t2] at this; simp at this; omega) (by
      intro h; have := congrArg List.length h; rw [List.length_map, t3] at this; simp at this; omega) (by
      simp only [List.length_append, List.length_map, t1, t2, t3, t4]; omega) _ _ _ (by
      simp only [List.length_append, List.length_map, t1]; omega) (by
      simp only [List.length_append, List.length_map, t1, t2]; omega) (by
      simp only [List.length_append, List.length_map, t1, t2, t3]; omega), Option.bind_some]
    exact ok_some (by simp only [List.map_append, List.map_cons, List.map_nil, List.append_assoc, List.cons_append, List.nil_append])
   ·rw [form]
    by_cases q1 : s < pre.length + A.length
    ·have : B.take (mid - s) = [] := List.eq_nil_of_length_eq_zero (by rw [t3]; omega)
     rw [this]; simp only [List.map_append, List.map_cons, List.map_nil, List.append_assoc, List.cons_append, List.nil_append]
    ·have : A.drop (s - pre.length) = [] := List.eq_nil_of_length_eq_zero (by rw [t2]; omega)
     rw [this]; simp only [List.map_append, List.map_cons, List.map_nil, List.append_assoc, List.cons_append, List.nil_append]
  refine ok_bind (Q := fun v => v = decide (pre.length < s ∧ s < mid)) ?_ (fun v2 hv2 => ?_)
  ·by_cases q1 : pre.length < s
   ·rw [decide_eq_true (by omega : (pre.length : Int) < (s : Int)), cond_true]
    refine ok_some ?_
    refine decide_eq_decide.2 ?_
    omega
   ·rw [decide_eq_false (by omega : ¬ (pre.length : Int) < (s : Int)), cond_false]
    exact ok_some (decide_eq_false (by omega)).symm
  refine ok_bind (Q := fun r => ∃ C1, r = (pre ++ C1 ++ (A.drop (s - pre.length) ++ B.drop (mid - s) ++ post)).map (·.1) ∧ C1.Perm (A.take (s - pre.length) ++ B.take (mid - s)) ∧ C1.Pairwise lt) ?_ (fun r2 hr2 => ?_)
  ·rw [hv2, hr]
   refine ok_ite (fun hc => ?_) (fun hc => ok_some ?_)
   ·have ih := symMerge_ok n pre (A.take (s - pre.length)) (B.take (mid - s)) (A.drop (s - pre.length) ++ B.drop (mid - s) ++ post) (by
      intro h; rw [h] at t1; simp at t1; omega) (by
      intro h; rw [h] at t3; simp at t3; omega) (by omega) sAs.1 sBs.1 ixA (by simp only [List.length_append, t1, t2, t3, t4]; omega)
    rw [show ((pre.length + (A.take (s - pre.length)).length : Nat) : Int) = (s : Int) by rw [t1]; omega, show ((pre.length + (A.take (s - pre.length)).length + (B.take (mid - s)).length : Nat) : Int) = (mid : Int) by rw [t1, t3]; omega] at ih
    exact ok_bind ih (fun r h => ok_some h)
   ·refine ⟨A.take (s - pre.length) ++ B.take (mid - s), by simp, List.Perm.refl _, ?_⟩
    by_cases q1 : pre.length < s
    ·have : B.take (mid - s) = [] := List.eq_nil_of_length_eq_zero (by rw [t3]; omega)
     rw [this, List.append_nil]; exact sAs.1
    ·have : A.take (s - pre.length) = [] := List.eq_nil_of_length_eq_zero (by rw [t1]; omega)
     rw [this, List.nil_append]; exact sBs.1
  obtain ⟨C1, rfl, p1, q1⟩ := hr2
  have lC1 : C1.length = mid - pre.length := by rw [p1.length_eq, List.length_append, t1, t3]; omega
  refine ok_bind (Q := fun v => v = decide (mid < mid + (pre.length + A.length) - s ∧ mid + (pre.length + A.length) - s < hi)) ?_ (fun v3 hv3 => ?_)
  ·by_cases q2 : mid < mid + (pre.length + A.length) - s
   ·rw [decide_eq_true (by omega : (mid : Int) < ((mid + (pre.length + A.length) - s : Nat) : Int)), cond_true]
    refine ok_some ?_
    refine decide_eq_decide.2 ?_
    omega
   ·rw [decide_eq_false (by omega : ¬ (mid : Int) < ((mid + (pre.length + A.length) - s : Nat) : Int)), cond_false]
    exact ok_some (decide_eq_false (by omega)).symm
  have fin : ∀ C2 : List DS, C2.Perm (A.drop (s - pre.length) ++ B.drop (mid - s)) → C2.Pairwise lt → ∃ C, (pre ++ C1 ++ C2 ++ post).map (·.1) = (pre ++ C ++ post).map (·.1) ∧ C.Perm (A ++ B) ∧ C.Pairwise lt := by
   intro C2 p2 q2
   refine ⟨C1 ++ C2, by simp, (p1.append p2).trans permAB, List.pairwise_append.2 ⟨q1, q2, fun x hx y hy => ?_⟩⟩
   rcases List.mem_append.1 (p1.mem_iff.1 hx) with hx | hx
   ·rcases List.mem_append.1 (p2.mem_iff.1 hy) with hy | hy
    ·exact sAs.2.2 x hx y hy
    ·exact c12 x hx y hy
   ·rcases List.mem_append.1 (p2.mem_iff.1 hy) with hy | hy
    ·exact c21 x hx y hy
    ·exact sBs.2.2 x hx y hy
  have form2 : pre ++ C1 ++ (A.drop (s - pre.length) ++ B.drop (mid - s) ++ post) = (pre ++ C1) ++ A.drop (s - pre.length) ++ B.drop (mid - s) ++ post := by simp
  rw [form2, hv3]
  refine ok_ite (fun hc => ?_) (fun hc => ok_some ?_)
  ·have ih := symMerge_ok n (pre ++ C1) (A.drop (s - pre.length)) (B.drop (mid - s)) post (by
     intro h; rw [h] at t2; simp at t2; omega) (by
     intro h; rw [h] at t4; simp at t4; omega) (by omega) sAs.2.1 sBs.2.1 ixB (by simp only [List.length_append, t2, t4]; omega)
   rw [show (((pre ++ C1).length : Nat) : Int) = (mid : Int) by rw [List.length_append]; omega, show (((pre ++ C1).length + (A.drop (s - pre.length)).length : Nat) : Int) = ((mid + (pre.length + A.length) - s : Nat) : Int) by rw [List.length_append, t2]; omega, show (((pre ++ C1).length + (A.drop (s - pre.length)).length + (B.drop (mid - s)).length : Nat) : Int) = (hi : Int) by rw [List.length_append, t2, t4]; omega] at ih
   refine ok_bind ih (fun r h => ok_some ?_)
   obtain ⟨C2, rfl, p2, q2⟩ := h
   exact fin C2 p2 q2
  ·have : (A.drop (s - pre.length) ++ B.drop (mid - s)).Pairwise lt := by
    by_cases q2 : mid < mid + (pre.length + A.length) - s
    ·have : B.drop (mid - s) = [] := List.eq_nil_of_length_eq_zero (by rw [t4]; omega)
     rw [this, List.append_nil]; exact sAs.2.1
    ·have : A.drop (s - pre.length) = [] := List.eq_nil_of_length_eq_zero (by rw [t2]; omega)
     rw [this, List.nil_append]; exact sBs.2.1
   obtain ⟨C, h1, h2, h3⟩ := fin _ (List.Perm.refl _) this
   exact ⟨C, by rw [← h1]; simp, h2, h3⟩
def Bk (bs : Nat) : List (List DS) → Prop
 | [] => True
 | [X] => 0 < X.length ∧ X.length ≤ bs
 | X :: Y :: r => X.length = bs ∧ Bk bs (Y :: r)
theorem Bk_app {bs : Nat} (hb : 0 < bs) : ∀ (M R : List (List DS)), (∀ X ∈ M, X.length = bs) → Bk bs R → Bk bs (M ++ R)
 | [], R, _, h => h
 | [X], [], hm, _ => by have := hm X (by simp); simp [Bk]; omega
 | [X], Y :: r, hm, h => ⟨hm X (by simp), h⟩
 | X :: Z :: M, R, hm, h => ⟨hm X (by simp), Bk_app hb (Z :: M) R (fun Y hY => hm Y (List.mem_cons_of_mem _ hY)) h⟩
structure Bs (S : List DS) (L : List (List DS)) : Prop where
 srt : ∀ X ∈ L, X.Pairwise lt
 crs : L.Pairwise (fun X Y => ∀ x ∈ X, ∀ y ∈ Y, x.2 < y.2)
 prm : L.flatten.Perm S
theorem Bs.merge {S : List DS} {M R : List (List DS)} {X Y C : List DS} (h : Bs S (M ++ X :: Y :: R)) (hp : C.Perm (X ++ Y)) (hs : C.Pairwise lt) : Bs S (M ++ C :: R) := by
 have hc := List.pairwise_append.1 h.crs
 have hc2 := List.pairwise_cons.1 hc.2.1
 have hc3 := List.pairwise_cons.1 hc2.2
 refine ⟨fun Z hZ => ?_, ?_, ?_⟩
 ·rcases List.mem_append.1 hZ with hZ | hZ
  ·exact h.srt Z (by simp [hZ])
  ·rcases List.mem_cons.1 hZ with rfl | hZ
   ·exact hs
   ·exact h.srt Z (by simp [hZ])
 ·refine List.pairwise_append.2 ⟨hc.1, List.pairwise_cons.2 ⟨fun Z hZ x hx y hy => ?_, hc3.2⟩, fun Z hZ W hW x hx y hy => ?_⟩
  ·rcases List.mem_append.1 (hp.mem_iff.1 hx) with hx | hx
   ·exact hc2.1 Z (by simp [hZ]) x hx y hy
   ·exact hc3.1 Z hZ x hx y hy
  ·rcases List.mem_cons.1 hW with rfl | hW
   ·rcases List.mem_append.1 (hp.mem_iff.1 hy) with hy | hy
    ·exact hc.2.2 Z hZ X (by simp) x hx y hy
    ·exact hc.2.2 Z hZ Y (by simp) x hx y hy
   ·exact hc.2.2 Z hZ W (by simp [hW]) x hx y hy
 ·refine List.Perm.trans ?_ h.prm
  simp only [List.flatten_append, List.flatten_cons]
  refine List.Perm.append_left _ ?_
  rw [← List.append_assoc]
  exact hp.append_right _
theorem pairs_ok (S : List DS) (hn : S.length ≤ 1000000) (bs : Nat) (hb : 0 < bs) (hb2 : bs < S.length) (L : List (List DS)) (hk : Bk bs L) (h : Bs S L) :
  Ok (loop (slices_stableCmpFunc_api_State_k1_L1 (S.length : Int) (bs : Int)) (L.flatten.map (·.1), 0, (w64 (2 * (bs : Int))))) (fun r => ∃ M R : List (List DS), r = ((M.flatten ++ R.flatten).map (·.1), (M.flatten.length : Int)) ∧ (∀ X ∈ M, X.length = 2 * bs) ∧ Bk bs R ∧ R.flatten.length < 2 * bs ∧ Bs S (M ++ R)) := by
 rw [w64_of (n := 2 * (bs : Int)) (by omega)]
 refine ok_loop (fun s : List api_State × Int × Int => ∃ M R : List (List DS), s.1 = (M.flatten ++ R.flatten).map (·.1) ∧ s.2.1 = (M.flatten.length : Nat) ∧ s.2.2 = (M.flatten.length + 2 * bs : Nat) ∧ (∀ X ∈ M, X.length = 2 * bs) ∧ Bk bs R ∧ Bs S (M ++ R)) (fun s => ((3 * S.length + 1 : Nat) - s.2.2).toNat) (fun s hs => ?_) ⟨[], L, by simp, by simp, by simp, by simp, hk, h⟩ (by simp [manyRounds]; omega)
 obtain ⟨a, i, j⟩ := s
 obtain ⟨M, R, h1, h2, h3, h4, h5, h6⟩ := hs
 simp only at h1 h2 h3
 subst h1 h2 h3
 have hlen : M.flatten.length + R.flatten.length = S.length := by
  have := h6.prm.length_eq
  rw [List.flatten_append, List.length_append] at this; exact this
 unfold slices_stableCmpFunc_api_State_k1_L1
 dsimp only
 refine ok_ite (fun hle => ?_) (fun hgt => ok_inr ⟨M, R, rfl, h4, h5, by omega, h6⟩)
 obtain ⟨X, Y, R', rfl, lX, lY, hR'⟩ : ∃ X Y R', R = X :: Y :: R' ∧ X.length = bs ∧ Y.length = bs ∧ Bk bs R' := by
  match R, h5, hlen with
  | [], _, hlen => simp only [List.flatten_cons, List.flatten_nil, List.length_append, List.length_nil, Nat.add_zero, List.append_nil] at hlen; omega
  | [X], h5, hlen => simp only [List.flatten_cons, List.flatten_nil, List.length_append, List.length_nil, Nat.add_zero, List.append_nil] at hlen; simp only [Bk] at h5; omega
  | [X, Y], h5, hlen => simp only [List.flatten_cons, List.flatten_nil, List.length_append, List.length_nil, Nat.add_zero, List.append_nil] at hlen; simp only [Bk] at h5; exact ⟨X, Y, [], rfl, h5.1, by omega, trivial⟩
  | X :: Y :: Z :: r, h5, hlen => exact ⟨X, Y, Z :: r, rfl, h5.1, h5.2.1, h5.2.2⟩
 have hcr := List.pairwise_append.1 h6.crs
 have hcx := (List.pairwise_cons.1 hcr.2.1).1 Y (by simp)
 simp only [List.flatten_cons, List.length_append] at hlen
 have form : (M.flatten ++ (X :: Y :: R').flatten).map (fun x : DS => x.1) = (M.flatten ++ X ++ Y ++ R'.flatten).map (fun x : DS => x.1) := by simp only [List.flatten_cons, List.append_assoc]
 have hm := symMerge_ok 9223372036854775808 M.flatten X Y R'.flatten (fun e => by subst e; simp at lX; omega) (fun e => by subst e; simp at lY; omega) (by omega) (h6.srt X (by simp)) (h6.srt Y (by simp)) hcx (by simp only [List.length_append]; omega)
 rw [w64_of (n := ((M.flatten.length : Nat) : Int) + (bs : Int)) (by omega), form]
 rw [lX, lY] at hm
 rw [show ((M.flatten.length + bs : Nat) : Int) = ((M.flatten.length : Nat) : Int) + (bs : Int) by omega, show ((M.flatten.length + bs + bs : Nat) : Int) = ((M.flatten.length + 2 * bs : Nat) : Int) by omega] at hm
 unfold slices_symMergeCmpFunc_api_State_k1
 refine ok_bind hm (fun r hr => ?_)
 obtain ⟨C, rfl, c1, c2⟩ := hr
 have lC : C.length = 2 * bs := by rw [c1.length_eq, List.length_append]; omega
 have hfl : (M ++ [C]).flatten.length = M.flatten.length + 2 * bs := by simp [lC]
 rw [w64_of (n := 2 * (bs : Int)) (by omega), w64_of (by omega)]
 refine ok_inl ⟨⟨M ++ [C], R', by simp, by simp only; omega, by simp only; omega, fun Z hZ => ?_, hR', ?_⟩, by simp only; omega⟩
 ·rcases List.mem_append.1 hZ with hZ | hZ
  ·exact h4 Z hZ
  ·simp at hZ; subst hZ; exact lC
 ·have := h6.merge c1 c2
  simpa using this
theorem round_ok (S : List DS) (hn : S.length ≤ 1000000) (bs : Nat) (hb : 0 < bs) (hb2 : bs < S.length) (L : List (List DS)) (hk : Bk bs L) (h : Bs S L) :
  Ok ((loop (slices_stableCmpFunc_api_State_k1_L1 (S.length : Int) (bs : Int)) (L.flatten.map (·.1), 0, (w64 (2 * (bs : Int))))).bind fun (e100, e101) => (((bif (decide ((w64 (e101 + (bs : Int))) < (S.length : Int))) then ((slices_symMergeCmpFunc_api_State_k1 e100 e101 (w64 (e101 + (bs : Int))) (S.length : Int)).bind fun r103 => some r103) else some e100) : Option (List api_State)))) (fun r => ∃ L' : List (List DS), r = L'.flatten.map (·.1) ∧ Bk (2 * bs) L' ∧ Bs S L') := by
 refine ok_bind (pairs_ok S hn bs hb hb2 L hk h) (fun r hr => ?_)
 obtain ⟨M, R, rfl, h4, h5, h7, h6⟩ := hr
 have hlen : M.flatten.length + R.flatten.length = S.length := by
  have := h6.prm.length_eq
  rw [List.flatten_append, List.length_append] at this; exact this
 dsimp only
 rw [w64_of (n := ((M.flatten.length : Nat) : Int) + (bs : Int)) (by omega)]
 match R, h5, h7, hlen, h6 with
 | [], _, _, hlen, h6 =>
  simp only [List.flatten_cons, List.flatten_nil, List.length_append, List.length_nil, Nat.add_zero, List.append_nil] at hlen
  refine ok_ite (fun hc => by omega) (fun _ => ok_some ⟨M, by simp, ?_, by simpa using h6⟩)
  have := Bk_app (bs := 2 * bs) (by omega) M [] h4 trivial
  simpa using this
 | [X], h5, _, hlen, h6 =>
  simp only [List.flatten_cons, List.flatten_nil, List.length_append, List.length_nil, Nat.add_zero, List.append_nil] at hlen
  simp only [Bk] at h5
  refine ok_ite (fun hc => by omega) (fun _ => ok_some ⟨M ++ [X], by simp, ?_, h6⟩)
  exact Bk_app (by omega) M [X] h4 ⟨h5.1, by omega⟩
 | [X, Y], h5, h7, hlen, h6 =>
  simp only [List.flatten_cons, List.flatten_nil, List.length_append, List.length_nil, Nat.add_zero, List.append_nil] at hlen
  simp only [List.flatten_cons, List.flatten_nil, List.length_append, List.length_nil, Nat.add_zero, List.append_nil] at h7
  simp only [Bk] at h5
  have hcr := List.pairwise_append.1 h6.crs
  have hcx := (List.pairwise_cons.1 hcr.2.1).1 Y (by simp)
  refine ok_ite (fun hc => ?_) (fun hc => by omega)
  have form : (M.flatten ++ [X, Y].flatten).map (fun x : DS => x.1) = (M.flatten ++ X ++ Y ++ []).map (fun x : DS => x.1) := by simp
  have hm := symMerge_ok 9223372036854775808 M.flatten X Y [] (fun e => by subst e; simp at h5; omega) (fun e => by subst e; simp at h5) (by omega) (h6.srt X (by simp)) (h6.srt Y (by simp)) hcx (by simp only [List.length_append, List.length_nil]; omega)
  rw [h5.1] at hm
  rw [show ((M.flatten.length + bs : Nat) : Int) = ((M.flatten.length : Nat) : Int) + (bs : Int) by omega, show ((M.flatten.length + bs + Y.length : Nat) : Int) = (S.length : Int) by omega] at hm
  rw [form]
  unfold slices_symMergeCmpFunc_api_State_k1
  refine ok_bind hm (fun r hr => ?_)
  obtain ⟨C, rfl, c1, c2⟩ := hr
  have lC : C.length = bs + Y.length := by rw [c1.length_eq, List.length_append]; omega
  refine ok_some ⟨M ++ [C], by simp, Bk_app (by omega) M [C] h4 ⟨by omega, by omega⟩, ?_⟩
  exact h6.merge c1 c2
 | X :: Y :: Z :: r, h5, h7, _, _ =>
  exfalso
  have h8 := h5.1
  have h9 := h5.2.1
  simp only [List.flatten_cons, List.length_append] at h7
  omega

end Go.VM
