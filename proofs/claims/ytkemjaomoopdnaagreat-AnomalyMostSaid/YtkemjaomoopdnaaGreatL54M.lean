/- The law holds: plain mathematics on what the functions compute. -/
import Derived.Test.YtkemjaomoopdnaaGreatL54B
namespace Go.VM
def firstL {α ρ : Type} (g : Nat → α → Option ρ) : List α → Nat → Option ρ
  | [], _ => none
  | y :: ys, i => match g i y with
    | some r => some r
    | none => firstL g ys (i + 1)
theorem firstL_find {α ρ : Type} (p : α → Bool) (f : α → ρ) : ∀ (xs : List α) (i : Nat), firstL (fun _ y => if p y = true then some (f y) else none) xs i = (xs.find? p).map f
  | [], _ => rfl
  | y :: ys, i => by
    simp only [firstL, List.find?_cons]
    cases h : p y with
    | true => simp
    | false => simp [firstL_find p f ys]
theorem firstL_none {α ρ : Type} {g : Nat → α → Option ρ} : ∀ {xs : List α} {i : Nat}, firstL g xs i = none ↔ ∀ j y, xs[j]? = some y → g (i + j) y = none
  | [], i => by simp [firstL]
  | y :: ys, i => by
    simp only [firstL]
    cases h : g i y with
    | some r =>
      simp only [reduceCtorEq, false_iff]
      intro hx
      have := hx 0 y rfl
      rw [Nat.add_zero, h] at this; simp at this
    | none =>
      rw [firstL_none (xs := ys) (i := i + 1)]
      constructor
      · intro hx j y' hj
        cases j with
        | zero => simp at hj; subst hj; exact h
        | succ j => have := hx j y' (by simpa using hj); rwa [show i + 1 + j = i + (j + 1) from by omega] at this
      · intro hx j y' hj
        have := hx (j + 1) y' (by simpa using hj)
        rwa [show i + (j + 1) = i + 1 + j from by omega] at this
theorem firstL_some {α ρ : Type} {g : Nat → α → Option ρ} {r : ρ} : ∀ {xs : List α} {i : Nat}, firstL g xs i = some r → ∃ j y, xs[j]? = some y ∧ g (i + j) y = some r ∧ ∀ k z, k < j → xs[k]? = some z → g (i + k) z = none
  | [], i, h => by simp [firstL] at h
  | y :: ys, i, h => by
    simp only [firstL] at h
    cases hg : g i y with
    | some r' =>
      rw [hg] at h; cases h
      exact ⟨0, y, rfl, hg, fun k z hk => by omega⟩
    | none =>
      rw [hg] at h
      obtain ⟨j, z, h1, h2, h3⟩ := firstL_some h
      refine ⟨j + 1, z, by simpa using h1, by rw [← h2]; congr 1; omega, fun k u hk hu => ?_⟩
      cases k with
      | zero => simp at hu; subst hu; exact hg
      | succ k => have := h3 k u (by omega) (by simpa using hu); rwa [show i + 1 + k = i + (k + 1) from by omega] at this
theorem forL_first {α ρ : Type} (g : Nat → α → Option ρ) (e : ρ) : ∀ (xs : List α) (i : Nat), forL (fun i y (_ : Unit) => match g i y with | some r => Sum.inr r | none => .inl ()) (fun _ => e) xs i () = (firstL g xs i).getD e
  | [], _ => rfl
  | y :: ys, i => by
    simp only [forL, firstL]
    cases g i y with
    | some r => rfl
    | none => exact forL_first g e ys (i + 1)
theorem loop_first {α ρ : Type} {step : Int → Option (Int ⊕ ρ)} (xs : List α) (g : Nat → α → Option ρ) (e : ρ) (hl : xs.length < manyRounds)
    (h1 : ∀ (i : Nat) y, xs[i]? = some y → step (i : Int) = some (match g i y with | some r => .inr r | none => .inl ((i : Int) + 1))) (h2 : step (xs.length : Int) = some (.inr e)) : loop step 0 = some ((firstL g xs 0).getD e) := by
  have := loop_for0 (σ := Unit) (step := step) xs (fun i _ => (i : Int)) (fun i y _ => match g i y with | some r => .inr r | none => .inl ()) (fun _ => e) hl
    (fun i y s hy => by
      rw [h1 i y hy]
      cases g i y <;> simp)
    (fun _ => h2) ()
  rw [show (0 : Int) = ((0 : Nat) : Int) from rfl, this, forL_first]
theorem lt_of_get {α : Type} {xs : List α} {i : Nat} {y : α} (h : xs[i]? = some y) : i < xs.length := (List.getElem?_eq_some_iff.1 h).1
theorem w64_nat {i : Nat} (h : i < 9223372036854775807) : w64 ((i : Int) + 1) = (i : Int) + 1 := w64_of (by omega)
end Go.VM
namespace Go.VM
theorem spans_Valid_eq (s : api_Span) : spans_Valid s = some (decide (0 ≤ s.fFrom ∧ s.fFrom < s.fTo ∧ s.fTo ≤ 1000000000000)) := by
  unfold spans_Valid
  by_cases h1 : 0 ≤ s.fFrom <;> by_cases h2 : s.fFrom < s.fTo <;> by_cases h3 : s.fTo ≤ 1000000000000 <;> simp [h1, h2, h3]
def zeroState : api_State := { fThread := 0, fState := 0, fSpan := { fFrom := 0, fTo := 0 }, fCpu := 0, fOn := 0, fBy := 0 }
def atB (th t : Int) (s : api_State) : Bool := decide (s.fThread = th ∧ s.fSpan.fFrom ≤ t ∧ t < s.fSpan.fTo)
def stAt (l : List api_State) (th t : Int) : api_State × Bool := match l.find? (atB th t) with
  | some s => (s, true)
  | none => (zeroState, false)
def Ok {α : Type} (x : Option α) (P : α → Prop) : Prop := ∃ r, x = some r ∧ P r
def Yes {α : Type} : α → Prop := fun _ => True
def InlR {α β : Type} (A : α → Prop) (B : β → Prop) : α ⊕ β → Prop
  | .inl a => A a
  | .inr b => B b
theorem ok_some {α : Type} {P : α → Prop} {r : α} (h : P r) : Ok (some r) P := ⟨r, rfl, h⟩
theorem ok_inl {α β : Type} {A : α → Prop} {B : β → Prop} {a : α} (h : A a) : Ok (some (.inl a)) (InlR A B) := ⟨_, rfl, h⟩
theorem ok_inr {α β : Type} {A : α → Prop} {B : β → Prop} {b : β} (h : B b) : Ok (some (.inr b)) (InlR A B) := ⟨_, rfl, h⟩
theorem ok_bind {α β : Type} {x : Option α} {f : α → Option β} {Q : α → Prop} {P : β → Prop} (hx : Ok x Q) (hf : ∀ r, Q r → Ok (f r) P) : Ok (x.bind f) P := by
  obtain ⟨r, h1, h2⟩ := hx
  subst h1; exact hf r h2
theorem ok_bindS {α β γ : Type} {x : Option (α ⊕ γ)} {f : α ⊕ γ → Option β} {Q : α ⊕ γ → Prop} {P : β → Prop} (hx : Ok x Q) (hf : ∀ r, Q (.inl r) → Ok (f (.inl r)) P) (hg : ∀ r, Q (.inr r) → Ok (f (.inr r)) P) : Ok (x.bind f) P :=
  ok_bind hx (fun r => match r with | .inl a => hf a | .inr b => hg b)
theorem ok_bindE {α β : Type} {x : Option α} {f : α → Option β} {P : β → Prop} (hx : Ok x Yes) (hf : ∀ r, x = some r → Ok (f r) P) : Ok (x.bind f) P := by
  obtain ⟨r, h1, h2⟩ := hx
  subst h1; exact hf r rfl
theorem ok_cond {α : Type} {b : Bool} {x y : Option α} {P : α → Prop} (h1 : b = true → Ok x P) (h2 : b = false → Ok y P) : Ok (cond b x y) P := by
  cases b
  · exact h2 rfl
  · exact h1 rfl
theorem Ok.mono {α : Type} {x : Option α} {P Q : α → Prop} (h : Ok x P) (hq : ∀ r, P r → Q r) : Ok x Q := by
  obtain ⟨r, h1, h2⟩ := h; exact ⟨r, h1, hq r h2⟩
theorem Ok.yes {α : Type} {x : Option α} {P : α → Prop} (h : Ok x P) : Ok x Yes := h.mono (fun _ _ => trivial)
theorem Ok.of_eq {α : Type} {x : Option α} {P : α → Prop} {r : α} (h : Ok x P) (e : x = some r) : P r := by
  obtain ⟨r', h1, h2⟩ := h; rw [e] at h1; cases h1; exact h2
theorem ok_idx {α : Type} {xs : List α} {i : Int} (h1 : 0 ≤ i) (h2 : i < xs.length) : Ok (idx xs i) (fun y => xs[i.toNat]? = some y) := by
  obtain ⟨n, rfl⟩ := Int.eq_ofNat_of_zero_le h1
  have h3 : n < xs.length := by omega
  rw [idx_nat]
  exact ⟨xs[n], by simp [h3], by simp [h3]⟩
theorem ok_loop {S ρ : Type} {step : S → Option (S ⊕ ρ)} (Inv : S → Prop) (m : S → Nat) {Post : ρ → Prop}
    (h : ∀ s, Inv s → Ok (step s) (InlR (fun s' => Inv s' ∧ m s' < m s) Post)) {s : S} (hs : Inv s) (hm : m s < manyRounds) : Ok (loop step s) Post := by
  refine loop_inv Inv m Post (fun s hs => ?_) hs hm
  obtain ⟨r, h1, h2⟩ := h s hs
  cases r with
  | inl a => exact Or.inl ⟨a, h1, h2⟩
  | inr b => exact Or.inr ⟨b, h1, h2⟩
theorem ok_up {ρ : Type} {step : Int → Option (Int ⊕ ρ)} (n : Nat) {Post : ρ → Prop} (hn : n ≤ 9223372036854775807)
    (h : ∀ i : Int, 0 ≤ i → i ≤ n → Ok (step i) (InlR (fun a => i < n ∧ a = i + 1) Post)) : Ok (loop step 0) Post := by
  refine ok_loop (fun i : Int => 0 ≤ i ∧ i ≤ (n : Int)) (fun i : Int => ((n : Int) - i).toNat) (fun i hi => (h i hi.1 hi.2).mono ?_) ⟨by omega, by omega⟩ (by simp [manyRounds]; omega)
  rintro (a | b) hr
  · obtain ⟨h1, rfl⟩ : i < n ∧ a = i + 1 := hr
    exact ⟨⟨by omega, by omega⟩, by omega⟩
  · exact hr
theorem ok_yes {α : Type} {r : α} : Ok (some r) Yes := ⟨r, rfl, trivial⟩
theorem ok_inlY {α β : Type} {B : β → Prop} {a : α} : Ok (some (.inl a)) (InlR Yes B) := ⟨_, rfl, trivial⟩
theorem ok_inrY {α β : Type} {A : α → Prop} {b : β} : Ok (some (.inr b)) (InlR A Yes) := ⟨_, rfl, trivial⟩
theorem ok_next {ρ : Type} {i : Int} {n : Nat} {P : ρ → Prop} (h1 : 0 ≤ i) (h2 : i < (n : Int)) (h3 : n ≤ 9223372036854775807) : Ok (some (.inl (w64 (i + 1)))) (InlR (fun a : Int => i < (n : Int) ∧ a = i + 1) P) :=
  ok_inl ⟨h2, w64_of (by omega)⟩
theorem ok_ite {α : Type} {p : Prop} [Decidable p] {x y : Option α} {P : α → Prop} (h1 : p → Ok x P) (h2 : ¬p → Ok y P) : Ok (cond (decide p) x y) P :=
  ok_cond (fun h => h1 (of_decide_eq_true h)) (fun h => h2 (of_decide_eq_false h))
theorem ok_nite {α : Type} {p : Prop} [Decidable p] {x y : Option α} {P : α → Prop} (h1 : ¬p → Ok x P) (h2 : p → Ok y P) : Ok (cond (!decide p) x y) P := by
  by_cases h : p
  · simpa [h] using h2 h
  · simpa [h] using h1 h
theorem ok_not {α : Type} {b : Bool} {x y : Option α} {P : α → Prop} (h1 : b = false → Ok x P) (h2 : b = true → Ok y P) : Ok (cond (!b) x y) P := by
  cases b
  · exact h1 rfl
  · exact h2 rfl
theorem yes_of {α : Type} {x : Option α} {P : α → Prop} (h : Ok x P) : Ok x Yes := h.yes
abbrev Tot {α : Type} (x : Option α) : Prop := Ok x Yes
theorem ok_up2 {σ ρ : Type} {step : σ × Int → Option ((σ × Int) ⊕ ρ)} (n : Nat) (Inv : σ → Int → Prop) {Post : ρ → Prop} (hn : n ≤ 9223372036854775807) {s0 : σ} (h0 : Inv s0 0)
    (h : ∀ (s : σ) (i : Int), Inv s i → 0 ≤ i → i ≤ n → Ok (step (s, i)) (InlR (fun a => i < n ∧ a.2 = i + 1 ∧ Inv a.1 (i + 1)) Post)) : Ok (loop step (s0, 0)) Post := by
  refine ok_loop (fun s : σ × Int => Inv s.1 s.2 ∧ 0 ≤ s.2 ∧ s.2 ≤ (n : Int)) (fun s : σ × Int => ((n : Int) - s.2).toNat) (fun s hi => (h s.1 s.2 hi.1 hi.2.1 hi.2.2).mono ?_) ⟨h0, by simp, by simp⟩ (by simp [manyRounds]; omega)
  rintro (⟨a, j⟩ | b) hr
  · obtain ⟨h1, h2, h3⟩ : s.2 < n ∧ j = s.2 + 1 ∧ Inv a (s.2 + 1) := hr
    subst h2
    exact ⟨⟨h3, by simp; omega, by simp; omega⟩, by simp; omega⟩
  · exact hr
theorem ok_next2 {σ ρ : Type} {s : σ} {i : Int} {n : Nat} {Inv : σ → Int → Prop} {P : ρ → Prop} (hI : Inv s (i + 1)) (h1 : 0 ≤ i) (h2 : i < (n : Int)) (h3 : n ≤ 9223372036854775807) : Ok (some (.inl (s, w64 (i + 1)))) (InlR (fun a : σ × Int => i < (n : Int) ∧ a.2 = i + 1 ∧ Inv a.1 (i + 1)) P) :=
  ok_inl ⟨h2, w64_of (by omega), hI⟩
theorem ok_upI {ρ : Type} {step : Int → Option (Int ⊕ ρ)} (n : Nat) (Inv : Int → Prop) {Post : ρ → Prop} (hn : n ≤ 9223372036854775807) (h0 : Inv 0)
    (h : ∀ i : Int, Inv i → 0 ≤ i → i ≤ n → Ok (step i) (InlR (fun a => i < n ∧ a = i + 1 ∧ Inv (i + 1)) Post)) : Ok (loop step 0) Post := by
  refine ok_loop (fun i : Int => Inv i ∧ 0 ≤ i ∧ i ≤ (n : Int)) (fun i : Int => ((n : Int) - i).toNat) (fun i hi => (h i hi.1 hi.2.1 hi.2.2).mono ?_) ⟨h0, by omega, by omega⟩ (by simp [manyRounds]; omega)
  rintro (a | b) hr
  · obtain ⟨h1, rfl, h3⟩ : i < n ∧ a = i + 1 ∧ Inv (i + 1) := hr
    exact ⟨⟨h3, by omega, by omega⟩, by omega⟩
  · exact hr
theorem ok_nextI {ρ : Type} {i : Int} {n : Nat} {Inv : Int → Prop} {P : ρ → Prop} (hI : Inv (i + 1)) (h1 : 0 ≤ i) (h2 : i < (n : Int)) (h3 : n ≤ 9223372036854775807) : Ok (some (.inl (w64 (i + 1)))) (InlR (fun a : Int => i < (n : Int) ∧ a = i + 1 ∧ Inv (i + 1)) P) :=
  ok_inl ⟨h2, w64_of (by omega), hI⟩
theorem room_ok {b n : Nat} (h1 : n * b ≤ 140737488355328) (h2 : n ≤ 9223372036854775807) : room b n = true := by
  simp only [room, Bool.and_eq_true]
  exact ⟨Nat.ble_eq_true_of_le h1, Nat.ble_eq_true_of_le h2⟩
theorem intern_letter_ok (c : Int) : Ok (intern_letter c) Yes := by
  unfold intern_letter strings_IndexByte internal_stringslite_IndexByte
  repeat' (first | with_reducible exact ok_yes | with_reducible exact ok_inrY | with_reducible exact ok_inlY | (with_reducible refine ok_next ?_ ?_ ?_ <;> (first | assumption | omega | (rw [w64_of] <;> omega))) | (with_reducible refine ok_nite (fun _ => ?_) (fun _ => ?_)) | (with_reducible refine ok_ite (fun _ => ?_) (fun _ => ?_)) | (with_reducible refine ok_not (fun _ => ?_) (fun _ => ?_)) | (with_reducible refine ok_cond (fun _ => ?_) (fun _ => ?_)) | with_reducible refine ok_bind (ok_idx (by (first | assumption | omega | (rw [w64_of] <;> omega))) (by (first | assumption | omega | (rw [w64_of] <;> omega)))) (fun _ _ => ?_) | (with_reducible refine ok_bind (Q := Yes) ?_ (fun _ _ => ?_)) | dsimp only)
theorem intern_Name_ok (s : ByteArray) (h : s.size ≤ 9223372036854775807) : Ok (intern_Name s) Yes := by
  unfold intern_Name
  refine ok_bind (Q := Yes) ?_ (fun v _ => ?_)
  · repeat' (first | with_reducible exact ok_yes | with_reducible exact ok_inrY | with_reducible exact ok_inlY | (with_reducible refine ok_next ?_ ?_ ?_ <;> (first | assumption | omega | (rw [w64_of] <;> omega))) | (with_reducible refine ok_nite (fun _ => ?_) (fun _ => ?_)) | (with_reducible refine ok_ite (fun _ => ?_) (fun _ => ?_)) | (with_reducible refine ok_not (fun _ => ?_) (fun _ => ?_)) | (with_reducible refine ok_cond (fun _ => ?_) (fun _ => ?_)) | with_reducible refine ok_bind (ok_idx (by (first | assumption | omega | (rw [w64_of] <;> omega))) (by (first | assumption | omega | (rw [w64_of] <;> omega)))) (fun _ _ => ?_) | (with_reducible refine ok_bind (Q := Yes) ?_ (fun _ _ => ?_)) | dsimp only)
  refine ok_cond (fun _ => ok_some trivial) (fun _ => ?_)
  have e : s.data.toList.length = s.size := by rw [Array.length_toList]; rfl
  refine ok_bindS (Q := Yes) (ok_up s.size h fun i h1 h2 => ?_) (fun _ _ => ?_) (fun _ _ => ?_)
  · unfold intern_Name_L1
    repeat' (first | with_reducible exact ok_yes | with_reducible exact ok_inrY | with_reducible exact ok_inlY | (with_reducible refine ok_next ?_ ?_ ?_ <;> (first | assumption | omega | (rw [w64_of] <;> omega))) | (with_reducible refine ok_nite (fun _ => ?_) (fun _ => ?_)) | (with_reducible refine ok_ite (fun _ => ?_) (fun _ => ?_)) | (with_reducible refine ok_not (fun _ => ?_) (fun _ => ?_)) | (with_reducible refine ok_cond (fun _ => ?_) (fun _ => ?_)) | with_reducible refine ok_bind (ok_idx (by (first | assumption | omega | (rw [w64_of] <;> omega))) (by (first | assumption | omega | (rw [w64_of] <;> omega)))) (fun _ _ => ?_) | (with_reducible refine Ok.yes (ok_idx ?_ (by rw [e]; (first | assumption | omega | (rw [w64_of] <;> omega)))) <;> (first | assumption | omega | (rw [w64_of] <;> omega))) | (with_reducible refine Ok.yes (intern_letter_ok _) <;> (first | assumption | omega | (rw [w64_of] <;> omega))) | (with_reducible refine ok_bind (Q := Yes) ?_ (fun _ _ => ?_)) | dsimp only)
  · repeat' (first | with_reducible exact ok_yes | with_reducible exact ok_inrY | with_reducible exact ok_inlY | (with_reducible refine ok_next ?_ ?_ ?_ <;> (first | assumption | omega | (rw [w64_of] <;> omega))) | (with_reducible refine ok_nite (fun _ => ?_) (fun _ => ?_)) | (with_reducible refine ok_ite (fun _ => ?_) (fun _ => ?_)) | (with_reducible refine ok_not (fun _ => ?_) (fun _ => ?_)) | (with_reducible refine ok_cond (fun _ => ?_) (fun _ => ?_)) | with_reducible refine ok_bind (ok_idx (by (first | assumption | omega | (rw [w64_of] <;> omega))) (by (first | assumption | omega | (rw [w64_of] <;> omega)))) (fun _ _ => ?_) | (with_reducible refine ok_bind (Q := Yes) ?_ (fun _ _ => ?_)) | dsimp only)
  · repeat' (first | with_reducible exact ok_yes | with_reducible exact ok_inrY | with_reducible exact ok_inlY | (with_reducible refine ok_next ?_ ?_ ?_ <;> (first | assumption | omega | (rw [w64_of] <;> omega))) | (with_reducible refine ok_nite (fun _ => ?_) (fun _ => ?_)) | (with_reducible refine ok_ite (fun _ => ?_) (fun _ => ?_)) | (with_reducible refine ok_not (fun _ => ?_) (fun _ => ?_)) | (with_reducible refine ok_cond (fun _ => ?_) (fun _ => ?_)) | with_reducible refine ok_bind (ok_idx (by (first | assumption | omega | (rw [w64_of] <;> omega))) (by (first | assumption | omega | (rw [w64_of] <;> omega)))) (fun _ _ => ?_) | (with_reducible refine ok_bind (Q := Yes) ?_ (fun _ _ => ?_)) | dsimp only)
abbrev okN (s : ByteArray) : Prop := s.size ≤ 9223372036854775807
theorem producer_Thread_ok (t : api_Thread) (h : okN t.fName) : Ok (producer_Thread t) Yes := by
  unfold producer_Thread
  repeat' (first | with_reducible exact ok_yes | with_reducible exact ok_inrY | with_reducible exact ok_inlY | (with_reducible refine ok_next ?_ ?_ ?_ <;> (first | assumption | omega | (rw [w64_of] <;> omega))) | (with_reducible refine ok_nite (fun _ => ?_) (fun _ => ?_)) | (with_reducible refine ok_ite (fun _ => ?_) (fun _ => ?_)) | (with_reducible refine ok_not (fun _ => ?_) (fun _ => ?_)) | (with_reducible refine ok_cond (fun _ => ?_) (fun _ => ?_)) | with_reducible refine ok_bind (ok_idx (by (first | assumption | omega | (rw [w64_of] <;> omega))) (by (first | assumption | omega | (rw [w64_of] <;> omega)))) (fun _ _ => ?_) | (with_reducible refine Ok.yes (intern_Name_ok _ h) <;> (first | assumption | omega | (rw [w64_of] <;> omega))) | (with_reducible refine ok_bind (Q := Yes) ?_ (fun _ _ => ?_)) | dsimp only)
theorem spans_Valid_ok (s : api_Span) : Ok (spans_Valid s) Yes := by
  unfold spans_Valid
  repeat' (first | with_reducible exact ok_yes | with_reducible exact ok_inrY | with_reducible exact ok_inlY | (with_reducible refine ok_next ?_ ?_ ?_ <;> (first | assumption | omega | (rw [w64_of] <;> omega))) | (with_reducible refine ok_nite (fun _ => ?_) (fun _ => ?_)) | (with_reducible refine ok_ite (fun _ => ?_) (fun _ => ?_)) | (with_reducible refine ok_not (fun _ => ?_) (fun _ => ?_)) | (with_reducible refine ok_cond (fun _ => ?_) (fun _ => ?_)) | with_reducible refine ok_bind (ok_idx (by (first | assumption | omega | (rw [w64_of] <;> omega))) (by (first | assumption | omega | (rw [w64_of] <;> omega)))) (fun _ _ => ?_) | (with_reducible refine ok_bind (Q := Yes) ?_ (fun _ _ => ?_)) | dsimp only)
theorem cmp_Compare_int_ok (a b : Int) : Ok (cmp_Compare_int a b) Yes := by
  unfold cmp_Compare_int cmp_isNaN_int
  repeat' (first | with_reducible exact ok_yes | with_reducible exact ok_inrY | with_reducible exact ok_inlY | (with_reducible refine ok_next ?_ ?_ ?_ <;> (first | assumption | omega | (rw [w64_of] <;> omega))) | (with_reducible refine ok_nite (fun _ => ?_) (fun _ => ?_)) | (with_reducible refine ok_ite (fun _ => ?_) (fun _ => ?_)) | (with_reducible refine ok_not (fun _ => ?_) (fun _ => ?_)) | (with_reducible refine ok_cond (fun _ => ?_) (fun _ => ?_)) | with_reducible refine ok_bind (ok_idx (by (first | assumption | omega | (rw [w64_of] <;> omega))) (by (first | assumption | omega | (rw [w64_of] <;> omega)))) (fun _ _ => ?_) | (with_reducible refine ok_bind (Q := Yes) ?_ (fun _ _ => ?_)) | dsimp only)
theorem cmp_Or_int_ok (l : List Int) (h : l.length ≤ 9223372036854775807) : Ok (cmp_Or_int l) Yes := by
  unfold cmp_Or_int
  refine ok_bindS (Q := Yes) (ok_up l.length (by omega) fun i h1 h2 => ?_) (fun _ _ => ?_) (fun _ _ => ?_)
  · unfold cmp_Or_int_L1
    repeat' (first | with_reducible exact ok_yes | with_reducible exact ok_inrY | with_reducible exact ok_inlY | (with_reducible refine ok_next ?_ ?_ ?_ <;> (first | assumption | omega | (rw [w64_of] <;> omega))) | (with_reducible refine ok_nite (fun _ => ?_) (fun _ => ?_)) | (with_reducible refine ok_ite (fun _ => ?_) (fun _ => ?_)) | (with_reducible refine ok_not (fun _ => ?_) (fun _ => ?_)) | (with_reducible refine ok_cond (fun _ => ?_) (fun _ => ?_)) | with_reducible refine ok_bind (ok_idx (by (first | assumption | omega | (rw [w64_of] <;> omega))) (by (first | assumption | omega | (rw [w64_of] <;> omega)))) (fun _ _ => ?_) | (with_reducible refine ok_bind (Q := Yes) ?_ (fun _ _ => ?_)) | dsimp only)
  · repeat' (first | with_reducible exact ok_yes | with_reducible exact ok_inrY | with_reducible exact ok_inlY | (with_reducible refine ok_next ?_ ?_ ?_ <;> (first | assumption | omega | (rw [w64_of] <;> omega))) | (with_reducible refine ok_nite (fun _ => ?_) (fun _ => ?_)) | (with_reducible refine ok_ite (fun _ => ?_) (fun _ => ?_)) | (with_reducible refine ok_not (fun _ => ?_) (fun _ => ?_)) | (with_reducible refine ok_cond (fun _ => ?_) (fun _ => ?_)) | with_reducible refine ok_bind (ok_idx (by (first | assumption | omega | (rw [w64_of] <;> omega))) (by (first | assumption | omega | (rw [w64_of] <;> omega)))) (fun _ _ => ?_) | (with_reducible refine ok_bind (Q := Yes) ?_ (fun _ _ => ?_)) | dsimp only)
  · repeat' (first | with_reducible exact ok_yes | with_reducible exact ok_inrY | with_reducible exact ok_inlY | (with_reducible refine ok_next ?_ ?_ ?_ <;> (first | assumption | omega | (rw [w64_of] <;> omega))) | (with_reducible refine ok_nite (fun _ => ?_) (fun _ => ?_)) | (with_reducible refine ok_ite (fun _ => ?_) (fun _ => ?_)) | (with_reducible refine ok_not (fun _ => ?_) (fun _ => ?_)) | (with_reducible refine ok_cond (fun _ => ?_) (fun _ => ?_)) | with_reducible refine ok_bind (ok_idx (by (first | assumption | omega | (rw [w64_of] <;> omega))) (by (first | assumption | omega | (rw [w64_of] <;> omega)))) (fun _ _ => ?_) | (with_reducible refine ok_bind (Q := Yes) ?_ (fun _ _ => ?_)) | dsimp only)
theorem slice_compare_ok (a b : api_Slice) : Ok (slice_compare a b) Yes := by
  unfold slice_compare
  repeat' (first | with_reducible exact ok_yes | with_reducible exact ok_inrY | with_reducible exact ok_inlY | (with_reducible refine ok_next ?_ ?_ ?_ <;> (first | assumption | omega | (rw [w64_of] <;> omega))) | (with_reducible refine ok_nite (fun _ => ?_) (fun _ => ?_)) | (with_reducible refine ok_ite (fun _ => ?_) (fun _ => ?_)) | (with_reducible refine ok_not (fun _ => ?_) (fun _ => ?_)) | (with_reducible refine ok_cond (fun _ => ?_) (fun _ => ?_)) | with_reducible refine ok_bind (ok_idx (by (first | assumption | omega | (rw [w64_of] <;> omega))) (by (first | assumption | omega | (rw [w64_of] <;> omega)))) (fun _ _ => ?_) | (with_reducible refine Ok.yes (cmp_Compare_int_ok _ _) <;> (first | assumption | omega | (rw [w64_of] <;> omega))) | (with_reducible refine Ok.yes (cmp_Or_int_ok _ (Nat.le_of_ble_eq_true rfl)) <;> (first | assumption | omega | (rw [w64_of] <;> omega))) | (with_reducible refine ok_bind (Q := Yes) ?_ (fun _ _ => ?_)) | dsimp only)
theorem intern_Frames_ok (l : List ByteArray) (h : l.length ≤ 9223372036854775807) (hx : ∀ x ∈ l, okN x) : Ok (intern_Frames l) Yes := by
  unfold intern_Frames
  refine ok_ite (fun _ => ok_yes) (fun _ => ?_)
  refine ok_bindS (Q := Yes) (ok_up l.length (by omega) fun i h1 h2 => ?_) (fun _ _ => ?_) (fun _ _ => ?_)
  · unfold intern_Frames_L1
    repeat' (first | with_reducible exact ok_yes | with_reducible exact ok_inrY | with_reducible exact ok_inlY | (with_reducible refine ok_next ?_ ?_ ?_ <;> (first | assumption | omega | (rw [w64_of] <;> omega))) | (with_reducible refine ok_nite (fun _ => ?_) (fun _ => ?_)) | (with_reducible refine ok_ite (fun _ => ?_) (fun _ => ?_)) | (with_reducible refine ok_not (fun _ => ?_) (fun _ => ?_)) | (with_reducible refine ok_cond (fun _ => ?_) (fun _ => ?_)) | with_reducible refine ok_bind (ok_idx (by (first | assumption | omega | (rw [w64_of] <;> omega))) (by (first | assumption | omega | (rw [w64_of] <;> omega)))) (fun _ _ => ?_) | (with_reducible refine Ok.yes (intern_Name_ok _ (hx _ (List.mem_of_getElem? (by assumption)))) <;> (first | assumption | omega | (rw [w64_of] <;> omega))) | (with_reducible refine ok_bind (Q := Yes) ?_ (fun _ _ => ?_)) | dsimp only)
  · repeat' (first | with_reducible exact ok_yes | with_reducible exact ok_inrY | with_reducible exact ok_inlY | (with_reducible refine ok_next ?_ ?_ ?_ <;> (first | assumption | omega | (rw [w64_of] <;> omega))) | (with_reducible refine ok_nite (fun _ => ?_) (fun _ => ?_)) | (with_reducible refine ok_ite (fun _ => ?_) (fun _ => ?_)) | (with_reducible refine ok_not (fun _ => ?_) (fun _ => ?_)) | (with_reducible refine ok_cond (fun _ => ?_) (fun _ => ?_)) | with_reducible refine ok_bind (ok_idx (by (first | assumption | omega | (rw [w64_of] <;> omega))) (by (first | assumption | omega | (rw [w64_of] <;> omega)))) (fun _ _ => ?_) | (with_reducible refine Ok.yes (intern_Name_ok _ (hx _ (List.mem_of_getElem? (by assumption)))) <;> (first | assumption | omega | (rw [w64_of] <;> omega))) | (with_reducible refine ok_bind (Q := Yes) ?_ (fun _ _ => ?_)) | dsimp only)
  · repeat' (first | with_reducible exact ok_yes | with_reducible exact ok_inrY | with_reducible exact ok_inlY | (with_reducible refine ok_next ?_ ?_ ?_ <;> (first | assumption | omega | (rw [w64_of] <;> omega))) | (with_reducible refine ok_nite (fun _ => ?_) (fun _ => ?_)) | (with_reducible refine ok_ite (fun _ => ?_) (fun _ => ?_)) | (with_reducible refine ok_not (fun _ => ?_) (fun _ => ?_)) | (with_reducible refine ok_cond (fun _ => ?_) (fun _ => ?_)) | with_reducible refine ok_bind (ok_idx (by (first | assumption | omega | (rw [w64_of] <;> omega))) (by (first | assumption | omega | (rw [w64_of] <;> omega)))) (fun _ _ => ?_) | (with_reducible refine Ok.yes (intern_Name_ok _ (hx _ (List.mem_of_getElem? (by assumption)))) <;> (first | assumption | omega | (rw [w64_of] <;> omega))) | (with_reducible refine ok_bind (Q := Yes) ?_ (fun _ _ => ?_)) | dsimp only)
structure Siz (t : api_Trace) : Prop where
  th : t.fThreads.length ≤ 9223372036854775807
  sl : t.fSlices.length ≤ 9223372036854775807
  st : t.fStates.length ≤ 9223372036854775807
  fl : t.fFlows.length ≤ 9223372036854775807
  sa : t.fSamples.length ≤ 9223372036854775807
  sp : t.fSteps.length ≤ 9223372036854775807
  bl : t.fBlocks.length ≤ 9223372036854775807
  lo : t.fLost.length ≤ 9223372036854775807
  nTh : ∀ x ∈ t.fThreads, okN x.fName
  nSl : ∀ x ∈ t.fSlices, okN x.fName
  nSa : ∀ x ∈ t.fSamples, x.fStack.length ≤ 9223372036854775807 ∧ ∀ y ∈ x.fStack, okN y
  nSp : ∀ x ∈ t.fSteps, okN x.fName
  nBl : ∀ x ∈ t.fBlocks, x.fStack.length ≤ 9223372036854775807 ∧ ∀ y ∈ x.fStack, okN y
theorem trace_threads_ok (t : api_Trace) (hl : t.fThreads.length ≤ 9223372036854775807) (hn : ∀ x ∈ t.fThreads, okN x.fName) : Ok (trace_threads t) (InlR (fun r => r.2 ≠ 0) Yes) := by
  unfold trace_threads
  refine ok_ite (fun _ => ok_inl (by simp)) (fun _ => ?_)
  refine ok_bindS (Q := InlR Yes (InlR (fun r => r.2 ≠ 0) Yes)) (ok_up2 t.fThreads.length (fun _ _ => True) hl trivial (fun a i _ h1 h2 => ?_)) (fun _ _ => ?_) (fun r hr => ?_)
  · unfold trace_threads_L1
    dsimp only
    refine ok_ite (fun h => ?_) (fun _ => ok_inr trivial)
    refine ok_bind (ok_idx h1 h) (fun y hy => ?_)
    refine ok_bind (producer_Thread_ok _ (hn _ (List.mem_of_getElem? hy))) (fun r _ => ?_)
    refine ok_nite (fun h0 => ok_inr h0) (fun _ => ?_)
    refine ok_cond (fun _ => ok_inr (by simp [InlR])) (fun _ => ?_)
    exact ok_next2 (Inv := fun _ _ => True) trivial h1 h hl
  · exact ok_inr trivial
  · exact ⟨_, rfl, hr⟩
theorem trace_tables_1_ok (a) : Tot (trace_tables_1 a) := ⟨_, rfl, trivial⟩
theorem trace_known_api_Slice_k1_ok (e : Int) (m) (l : List api_Slice) (h : l.length ≤ 9223372036854775807) : Tot (trace_known_api_Slice_k1 e m l) := by
  unfold trace_known_api_Slice_k1
  refine ok_nite (fun _ => ok_yes) (fun _ => ?_)
  refine ok_bindS (Q := Yes) (ok_up l.length (by omega) fun i h1 h2 => ?_) (fun _ _ => ?_) (fun _ _ => ?_)
  · unfold trace_known_api_Slice_k1_L1
    repeat' (first | with_reducible exact ok_yes | with_reducible exact ok_inrY | with_reducible exact ok_inlY | (with_reducible refine ok_next ?_ ?_ ?_ <;> (first | assumption | omega | (rw [w64_of] <;> omega))) | (with_reducible refine ok_nite (fun _ => ?_) (fun _ => ?_)) | (with_reducible refine ok_ite (fun _ => ?_) (fun _ => ?_)) | (with_reducible refine ok_not (fun _ => ?_) (fun _ => ?_)) | (with_reducible refine ok_cond (fun _ => ?_) (fun _ => ?_)) | with_reducible refine ok_bind (ok_idx (by (first | assumption | omega | (rw [w64_of] <;> omega))) (by (first | assumption | omega | (rw [w64_of] <;> omega)))) (fun _ _ => ?_) | (with_reducible refine Ok.yes (trace_tables_1_ok _) <;> (first | assumption | omega | (rw [w64_of] <;> omega))) | (with_reducible refine ok_bind (Q := Yes) ?_ (fun _ _ => ?_)) | dsimp only)
  · repeat' (first | with_reducible exact ok_yes | with_reducible exact ok_inrY | with_reducible exact ok_inlY | (with_reducible refine ok_next ?_ ?_ ?_ <;> (first | assumption | omega | (rw [w64_of] <;> omega))) | (with_reducible refine ok_nite (fun _ => ?_) (fun _ => ?_)) | (with_reducible refine ok_ite (fun _ => ?_) (fun _ => ?_)) | (with_reducible refine ok_not (fun _ => ?_) (fun _ => ?_)) | (with_reducible refine ok_cond (fun _ => ?_) (fun _ => ?_)) | with_reducible refine ok_bind (ok_idx (by (first | assumption | omega | (rw [w64_of] <;> omega))) (by (first | assumption | omega | (rw [w64_of] <;> omega)))) (fun _ _ => ?_) | (with_reducible refine Ok.yes (trace_tables_1_ok _) <;> (first | assumption | omega | (rw [w64_of] <;> omega))) | (with_reducible refine ok_bind (Q := Yes) ?_ (fun _ _ => ?_)) | dsimp only)
  · repeat' (first | with_reducible exact ok_yes | with_reducible exact ok_inrY | with_reducible exact ok_inlY | (with_reducible refine ok_next ?_ ?_ ?_ <;> (first | assumption | omega | (rw [w64_of] <;> omega))) | (with_reducible refine ok_nite (fun _ => ?_) (fun _ => ?_)) | (with_reducible refine ok_ite (fun _ => ?_) (fun _ => ?_)) | (with_reducible refine ok_not (fun _ => ?_) (fun _ => ?_)) | (with_reducible refine ok_cond (fun _ => ?_) (fun _ => ?_)) | with_reducible refine ok_bind (ok_idx (by (first | assumption | omega | (rw [w64_of] <;> omega))) (by (first | assumption | omega | (rw [w64_of] <;> omega)))) (fun _ _ => ?_) | (with_reducible refine Ok.yes (trace_tables_1_ok _) <;> (first | assumption | omega | (rw [w64_of] <;> omega))) | (with_reducible refine ok_bind (Q := Yes) ?_ (fun _ _ => ?_)) | dsimp only)
theorem trace_tables_2_ok (a) : Tot (trace_tables_2 a) := ⟨_, rfl, trivial⟩
theorem trace_known_api_Flow_k1_ok (e : Int) (m) (l : List api_Flow) (h : l.length ≤ 9223372036854775807) : Tot (trace_known_api_Flow_k1 e m l) := by
  unfold trace_known_api_Flow_k1
  refine ok_nite (fun _ => ok_yes) (fun _ => ?_)
  refine ok_bindS (Q := Yes) (ok_up l.length (by omega) fun i h1 h2 => ?_) (fun _ _ => ?_) (fun _ _ => ?_)
  · unfold trace_known_api_Flow_k1_L1
    repeat' (first | with_reducible exact ok_yes | with_reducible exact ok_inrY | with_reducible exact ok_inlY | (with_reducible refine ok_next ?_ ?_ ?_ <;> (first | assumption | omega | (rw [w64_of] <;> omega))) | (with_reducible refine ok_nite (fun _ => ?_) (fun _ => ?_)) | (with_reducible refine ok_ite (fun _ => ?_) (fun _ => ?_)) | (with_reducible refine ok_not (fun _ => ?_) (fun _ => ?_)) | (with_reducible refine ok_cond (fun _ => ?_) (fun _ => ?_)) | with_reducible refine ok_bind (ok_idx (by (first | assumption | omega | (rw [w64_of] <;> omega))) (by (first | assumption | omega | (rw [w64_of] <;> omega)))) (fun _ _ => ?_) | (with_reducible refine Ok.yes (trace_tables_2_ok _) <;> (first | assumption | omega | (rw [w64_of] <;> omega))) | (with_reducible refine ok_bind (Q := Yes) ?_ (fun _ _ => ?_)) | dsimp only)
  · repeat' (first | with_reducible exact ok_yes | with_reducible exact ok_inrY | with_reducible exact ok_inlY | (with_reducible refine ok_next ?_ ?_ ?_ <;> (first | assumption | omega | (rw [w64_of] <;> omega))) | (with_reducible refine ok_nite (fun _ => ?_) (fun _ => ?_)) | (with_reducible refine ok_ite (fun _ => ?_) (fun _ => ?_)) | (with_reducible refine ok_not (fun _ => ?_) (fun _ => ?_)) | (with_reducible refine ok_cond (fun _ => ?_) (fun _ => ?_)) | with_reducible refine ok_bind (ok_idx (by (first | assumption | omega | (rw [w64_of] <;> omega))) (by (first | assumption | omega | (rw [w64_of] <;> omega)))) (fun _ _ => ?_) | (with_reducible refine Ok.yes (trace_tables_2_ok _) <;> (first | assumption | omega | (rw [w64_of] <;> omega))) | (with_reducible refine ok_bind (Q := Yes) ?_ (fun _ _ => ?_)) | dsimp only)
  · repeat' (first | with_reducible exact ok_yes | with_reducible exact ok_inrY | with_reducible exact ok_inlY | (with_reducible refine ok_next ?_ ?_ ?_ <;> (first | assumption | omega | (rw [w64_of] <;> omega))) | (with_reducible refine ok_nite (fun _ => ?_) (fun _ => ?_)) | (with_reducible refine ok_ite (fun _ => ?_) (fun _ => ?_)) | (with_reducible refine ok_not (fun _ => ?_) (fun _ => ?_)) | (with_reducible refine ok_cond (fun _ => ?_) (fun _ => ?_)) | with_reducible refine ok_bind (ok_idx (by (first | assumption | omega | (rw [w64_of] <;> omega))) (by (first | assumption | omega | (rw [w64_of] <;> omega)))) (fun _ _ => ?_) | (with_reducible refine Ok.yes (trace_tables_2_ok _) <;> (first | assumption | omega | (rw [w64_of] <;> omega))) | (with_reducible refine ok_bind (Q := Yes) ?_ (fun _ _ => ?_)) | dsimp only)
theorem trace_tables_3_ok (a) : Tot (trace_tables_3 a) := ⟨_, rfl, trivial⟩
theorem trace_known_api_Flow_k2_ok (e : Int) (m) (l : List api_Flow) (h : l.length ≤ 9223372036854775807) : Tot (trace_known_api_Flow_k2 e m l) := by
  unfold trace_known_api_Flow_k2
  refine ok_nite (fun _ => ok_yes) (fun _ => ?_)
  refine ok_bindS (Q := Yes) (ok_up l.length (by omega) fun i h1 h2 => ?_) (fun _ _ => ?_) (fun _ _ => ?_)
  · unfold trace_known_api_Flow_k2_L1
    repeat' (first | with_reducible exact ok_yes | with_reducible exact ok_inrY | with_reducible exact ok_inlY | (with_reducible refine ok_next ?_ ?_ ?_ <;> (first | assumption | omega | (rw [w64_of] <;> omega))) | (with_reducible refine ok_nite (fun _ => ?_) (fun _ => ?_)) | (with_reducible refine ok_ite (fun _ => ?_) (fun _ => ?_)) | (with_reducible refine ok_not (fun _ => ?_) (fun _ => ?_)) | (with_reducible refine ok_cond (fun _ => ?_) (fun _ => ?_)) | with_reducible refine ok_bind (ok_idx (by (first | assumption | omega | (rw [w64_of] <;> omega))) (by (first | assumption | omega | (rw [w64_of] <;> omega)))) (fun _ _ => ?_) | (with_reducible refine Ok.yes (trace_tables_3_ok _) <;> (first | assumption | omega | (rw [w64_of] <;> omega))) | (with_reducible refine ok_bind (Q := Yes) ?_ (fun _ _ => ?_)) | dsimp only)
  · repeat' (first | with_reducible exact ok_yes | with_reducible exact ok_inrY | with_reducible exact ok_inlY | (with_reducible refine ok_next ?_ ?_ ?_ <;> (first | assumption | omega | (rw [w64_of] <;> omega))) | (with_reducible refine ok_nite (fun _ => ?_) (fun _ => ?_)) | (with_reducible refine ok_ite (fun _ => ?_) (fun _ => ?_)) | (with_reducible refine ok_not (fun _ => ?_) (fun _ => ?_)) | (with_reducible refine ok_cond (fun _ => ?_) (fun _ => ?_)) | with_reducible refine ok_bind (ok_idx (by (first | assumption | omega | (rw [w64_of] <;> omega))) (by (first | assumption | omega | (rw [w64_of] <;> omega)))) (fun _ _ => ?_) | (with_reducible refine Ok.yes (trace_tables_3_ok _) <;> (first | assumption | omega | (rw [w64_of] <;> omega))) | (with_reducible refine ok_bind (Q := Yes) ?_ (fun _ _ => ?_)) | dsimp only)
  · repeat' (first | with_reducible exact ok_yes | with_reducible exact ok_inrY | with_reducible exact ok_inlY | (with_reducible refine ok_next ?_ ?_ ?_ <;> (first | assumption | omega | (rw [w64_of] <;> omega))) | (with_reducible refine ok_nite (fun _ => ?_) (fun _ => ?_)) | (with_reducible refine ok_ite (fun _ => ?_) (fun _ => ?_)) | (with_reducible refine ok_not (fun _ => ?_) (fun _ => ?_)) | (with_reducible refine ok_cond (fun _ => ?_) (fun _ => ?_)) | with_reducible refine ok_bind (ok_idx (by (first | assumption | omega | (rw [w64_of] <;> omega))) (by (first | assumption | omega | (rw [w64_of] <;> omega)))) (fun _ _ => ?_) | (with_reducible refine Ok.yes (trace_tables_3_ok _) <;> (first | assumption | omega | (rw [w64_of] <;> omega))) | (with_reducible refine ok_bind (Q := Yes) ?_ (fun _ _ => ?_)) | dsimp only)
theorem trace_tables_4_ok (a) : Tot (trace_tables_4 a) := ⟨_, rfl, trivial⟩
theorem trace_known_api_Sample_k1_ok (e : Int) (m) (l : List api_Sample) (h : l.length ≤ 9223372036854775807) : Tot (trace_known_api_Sample_k1 e m l) := by
  unfold trace_known_api_Sample_k1
  refine ok_nite (fun _ => ok_yes) (fun _ => ?_)
  refine ok_bindS (Q := Yes) (ok_up l.length (by omega) fun i h1 h2 => ?_) (fun _ _ => ?_) (fun _ _ => ?_)
  · unfold trace_known_api_Sample_k1_L1
    repeat' (first | with_reducible exact ok_yes | with_reducible exact ok_inrY | with_reducible exact ok_inlY | (with_reducible refine ok_next ?_ ?_ ?_ <;> (first | assumption | omega | (rw [w64_of] <;> omega))) | (with_reducible refine ok_nite (fun _ => ?_) (fun _ => ?_)) | (with_reducible refine ok_ite (fun _ => ?_) (fun _ => ?_)) | (with_reducible refine ok_not (fun _ => ?_) (fun _ => ?_)) | (with_reducible refine ok_cond (fun _ => ?_) (fun _ => ?_)) | with_reducible refine ok_bind (ok_idx (by (first | assumption | omega | (rw [w64_of] <;> omega))) (by (first | assumption | omega | (rw [w64_of] <;> omega)))) (fun _ _ => ?_) | (with_reducible refine Ok.yes (trace_tables_4_ok _) <;> (first | assumption | omega | (rw [w64_of] <;> omega))) | (with_reducible refine ok_bind (Q := Yes) ?_ (fun _ _ => ?_)) | dsimp only)
  · repeat' (first | with_reducible exact ok_yes | with_reducible exact ok_inrY | with_reducible exact ok_inlY | (with_reducible refine ok_next ?_ ?_ ?_ <;> (first | assumption | omega | (rw [w64_of] <;> omega))) | (with_reducible refine ok_nite (fun _ => ?_) (fun _ => ?_)) | (with_reducible refine ok_ite (fun _ => ?_) (fun _ => ?_)) | (with_reducible refine ok_not (fun _ => ?_) (fun _ => ?_)) | (with_reducible refine ok_cond (fun _ => ?_) (fun _ => ?_)) | with_reducible refine ok_bind (ok_idx (by (first | assumption | omega | (rw [w64_of] <;> omega))) (by (first | assumption | omega | (rw [w64_of] <;> omega)))) (fun _ _ => ?_) | (with_reducible refine Ok.yes (trace_tables_4_ok _) <;> (first | assumption | omega | (rw [w64_of] <;> omega))) | (with_reducible refine ok_bind (Q := Yes) ?_ (fun _ _ => ?_)) | dsimp only)
  · repeat' (first | with_reducible exact ok_yes | with_reducible exact ok_inrY | with_reducible exact ok_inlY | (with_reducible refine ok_next ?_ ?_ ?_ <;> (first | assumption | omega | (rw [w64_of] <;> omega))) | (with_reducible refine ok_nite (fun _ => ?_) (fun _ => ?_)) | (with_reducible refine ok_ite (fun _ => ?_) (fun _ => ?_)) | (with_reducible refine ok_not (fun _ => ?_) (fun _ => ?_)) | (with_reducible refine ok_cond (fun _ => ?_) (fun _ => ?_)) | with_reducible refine ok_bind (ok_idx (by (first | assumption | omega | (rw [w64_of] <;> omega))) (by (first | assumption | omega | (rw [w64_of] <;> omega)))) (fun _ _ => ?_) | (with_reducible refine Ok.yes (trace_tables_4_ok _) <;> (first | assumption | omega | (rw [w64_of] <;> omega))) | (with_reducible refine ok_bind (Q := Yes) ?_ (fun _ _ => ?_)) | dsimp only)
theorem trace_tables_5_ok (a) : Tot (trace_tables_5 a) := ⟨_, rfl, trivial⟩
theorem trace_known_api_Block_k1_ok (e : Int) (m) (l : List api_Block) (h : l.length ≤ 9223372036854775807) : Tot (trace_known_api_Block_k1 e m l) := by
  unfold trace_known_api_Block_k1
  refine ok_nite (fun _ => ok_yes) (fun _ => ?_)
  refine ok_bindS (Q := Yes) (ok_up l.length (by omega) fun i h1 h2 => ?_) (fun _ _ => ?_) (fun _ _ => ?_)
  · unfold trace_known_api_Block_k1_L1
    repeat' (first | with_reducible exact ok_yes | with_reducible exact ok_inrY | with_reducible exact ok_inlY | (with_reducible refine ok_next ?_ ?_ ?_ <;> (first | assumption | omega | (rw [w64_of] <;> omega))) | (with_reducible refine ok_nite (fun _ => ?_) (fun _ => ?_)) | (with_reducible refine ok_ite (fun _ => ?_) (fun _ => ?_)) | (with_reducible refine ok_not (fun _ => ?_) (fun _ => ?_)) | (with_reducible refine ok_cond (fun _ => ?_) (fun _ => ?_)) | with_reducible refine ok_bind (ok_idx (by (first | assumption | omega | (rw [w64_of] <;> omega))) (by (first | assumption | omega | (rw [w64_of] <;> omega)))) (fun _ _ => ?_) | (with_reducible refine Ok.yes (trace_tables_5_ok _) <;> (first | assumption | omega | (rw [w64_of] <;> omega))) | (with_reducible refine ok_bind (Q := Yes) ?_ (fun _ _ => ?_)) | dsimp only)
  · repeat' (first | with_reducible exact ok_yes | with_reducible exact ok_inrY | with_reducible exact ok_inlY | (with_reducible refine ok_next ?_ ?_ ?_ <;> (first | assumption | omega | (rw [w64_of] <;> omega))) | (with_reducible refine ok_nite (fun _ => ?_) (fun _ => ?_)) | (with_reducible refine ok_ite (fun _ => ?_) (fun _ => ?_)) | (with_reducible refine ok_not (fun _ => ?_) (fun _ => ?_)) | (with_reducible refine ok_cond (fun _ => ?_) (fun _ => ?_)) | with_reducible refine ok_bind (ok_idx (by (first | assumption | omega | (rw [w64_of] <;> omega))) (by (first | assumption | omega | (rw [w64_of] <;> omega)))) (fun _ _ => ?_) | (with_reducible refine Ok.yes (trace_tables_5_ok _) <;> (first | assumption | omega | (rw [w64_of] <;> omega))) | (with_reducible refine ok_bind (Q := Yes) ?_ (fun _ _ => ?_)) | dsimp only)
  · repeat' (first | with_reducible exact ok_yes | with_reducible exact ok_inrY | with_reducible exact ok_inlY | (with_reducible refine ok_next ?_ ?_ ?_ <;> (first | assumption | omega | (rw [w64_of] <;> omega))) | (with_reducible refine ok_nite (fun _ => ?_) (fun _ => ?_)) | (with_reducible refine ok_ite (fun _ => ?_) (fun _ => ?_)) | (with_reducible refine ok_not (fun _ => ?_) (fun _ => ?_)) | (with_reducible refine ok_cond (fun _ => ?_) (fun _ => ?_)) | with_reducible refine ok_bind (ok_idx (by (first | assumption | omega | (rw [w64_of] <;> omega))) (by (first | assumption | omega | (rw [w64_of] <;> omega)))) (fun _ _ => ?_) | (with_reducible refine Ok.yes (trace_tables_5_ok _) <;> (first | assumption | omega | (rw [w64_of] <;> omega))) | (with_reducible refine ok_bind (Q := Yes) ?_ (fun _ _ => ?_)) | dsimp only)
theorem trace_losses_k1_ok (m) (l : List api_Loss) (h : l.length ≤ 9223372036854775807) : Tot (trace_losses_k1 m l) := by
  unfold trace_losses_k1
  refine ok_bindS (Q := Yes) (ok_up l.length (by omega) fun i h1 h2 => ?_) (fun _ _ => ?_) (fun _ _ => ?_)
  · unfold trace_losses_k1_L1
    repeat' (first | with_reducible exact ok_yes | with_reducible exact ok_inrY | with_reducible exact ok_inlY | (with_reducible refine ok_next ?_ ?_ ?_ <;> (first | assumption | omega | (rw [w64_of] <;> omega))) | (with_reducible refine ok_nite (fun _ => ?_) (fun _ => ?_)) | (with_reducible refine ok_ite (fun _ => ?_) (fun _ => ?_)) | (with_reducible refine ok_not (fun _ => ?_) (fun _ => ?_)) | (with_reducible refine ok_cond (fun _ => ?_) (fun _ => ?_)) | with_reducible refine ok_bind (ok_idx (by (first | assumption | omega | (rw [w64_of] <;> omega))) (by (first | assumption | omega | (rw [w64_of] <;> omega)))) (fun _ _ => ?_) | (with_reducible refine Ok.yes (spans_Valid_ok _) <;> (first | assumption | omega | (rw [w64_of] <;> omega))) | (with_reducible refine ok_bind (Q := Yes) ?_ (fun _ _ => ?_)) | dsimp only)
  · repeat' (first | with_reducible exact ok_yes | with_reducible exact ok_inrY | with_reducible exact ok_inlY | (with_reducible refine ok_next ?_ ?_ ?_ <;> (first | assumption | omega | (rw [w64_of] <;> omega))) | (with_reducible refine ok_nite (fun _ => ?_) (fun _ => ?_)) | (with_reducible refine ok_ite (fun _ => ?_) (fun _ => ?_)) | (with_reducible refine ok_not (fun _ => ?_) (fun _ => ?_)) | (with_reducible refine ok_cond (fun _ => ?_) (fun _ => ?_)) | with_reducible refine ok_bind (ok_idx (by (first | assumption | omega | (rw [w64_of] <;> omega))) (by (first | assumption | omega | (rw [w64_of] <;> omega)))) (fun _ _ => ?_) | (with_reducible refine Ok.yes (spans_Valid_ok _) <;> (first | assumption | omega | (rw [w64_of] <;> omega))) | (with_reducible refine ok_bind (Q := Yes) ?_ (fun _ _ => ?_)) | dsimp only)
  · repeat' (first | with_reducible exact ok_yes | with_reducible exact ok_inrY | with_reducible exact ok_inlY | (with_reducible refine ok_next ?_ ?_ ?_ <;> (first | assumption | omega | (rw [w64_of] <;> omega))) | (with_reducible refine ok_nite (fun _ => ?_) (fun _ => ?_)) | (with_reducible refine ok_ite (fun _ => ?_) (fun _ => ?_)) | (with_reducible refine ok_not (fun _ => ?_) (fun _ => ?_)) | (with_reducible refine ok_cond (fun _ => ?_) (fun _ => ?_)) | with_reducible refine ok_bind (ok_idx (by (first | assumption | omega | (rw [w64_of] <;> omega))) (by (first | assumption | omega | (rw [w64_of] <;> omega)))) (fun _ _ => ?_) | (with_reducible refine Ok.yes (spans_Valid_ok _) <;> (first | assumption | omega | (rw [w64_of] <;> omega))) | (with_reducible refine ok_bind (Q := Yes) ?_ (fun _ _ => ?_)) | dsimp only)
theorem flow_bad_ok (a b : Int) : Tot (flow_bad a b) := by
  unfold flow_bad
  repeat' (first | with_reducible exact ok_yes | with_reducible exact ok_inrY | with_reducible exact ok_inlY | (with_reducible refine ok_next ?_ ?_ ?_ <;> (first | assumption | omega | (rw [w64_of] <;> omega))) | (with_reducible refine ok_nite (fun _ => ?_) (fun _ => ?_)) | (with_reducible refine ok_ite (fun _ => ?_) (fun _ => ?_)) | (with_reducible refine ok_not (fun _ => ?_) (fun _ => ?_)) | (with_reducible refine ok_cond (fun _ => ?_) (fun _ => ?_)) | with_reducible refine ok_bind (ok_idx (by (first | assumption | omega | (rw [w64_of] <;> omega))) (by (first | assumption | omega | (rw [w64_of] <;> omega)))) (fun _ _ => ?_) | (with_reducible refine ok_bind (Q := Yes) ?_ (fun _ _ => ?_)) | dsimp only)
theorem sample_good_ok (a) : Tot (sample_good a) := by
  unfold sample_good
  repeat' (first | with_reducible exact ok_yes | with_reducible exact ok_inrY | with_reducible exact ok_inlY | (with_reducible refine ok_next ?_ ?_ ?_ <;> (first | assumption | omega | (rw [w64_of] <;> omega))) | (with_reducible refine ok_nite (fun _ => ?_) (fun _ => ?_)) | (with_reducible refine ok_ite (fun _ => ?_) (fun _ => ?_)) | (with_reducible refine ok_not (fun _ => ?_) (fun _ => ?_)) | (with_reducible refine ok_cond (fun _ => ?_) (fun _ => ?_)) | with_reducible refine ok_bind (ok_idx (by (first | assumption | omega | (rw [w64_of] <;> omega))) (by (first | assumption | omega | (rw [w64_of] <;> omega)))) (fun _ _ => ?_) | (with_reducible refine ok_bind (Q := Yes) ?_ (fun _ _ => ?_)) | dsimp only)
theorem num_In_ok (a) : Tot (num_In a) := by
  unfold num_In
  repeat' (first | with_reducible exact ok_yes | with_reducible exact ok_inrY | with_reducible exact ok_inlY | (with_reducible refine ok_next ?_ ?_ ?_ <;> (first | assumption | omega | (rw [w64_of] <;> omega))) | (with_reducible refine ok_nite (fun _ => ?_) (fun _ => ?_)) | (with_reducible refine ok_ite (fun _ => ?_) (fun _ => ?_)) | (with_reducible refine ok_not (fun _ => ?_) (fun _ => ?_)) | (with_reducible refine ok_cond (fun _ => ?_) (fun _ => ?_)) | with_reducible refine ok_bind (ok_idx (by (first | assumption | omega | (rw [w64_of] <;> omega))) (by (first | assumption | omega | (rw [w64_of] <;> omega)))) (fun _ _ => ?_) | (with_reducible refine ok_bind (Q := Yes) ?_ (fun _ _ => ?_)) | dsimp only)
theorem cmp_Compare_string_ok (a b) : Tot (cmp_Compare_string a b) := by
  unfold cmp_Compare_string cmp_isNaN_string
  repeat' (first | with_reducible exact ok_yes | with_reducible exact ok_inrY | with_reducible exact ok_inlY | (with_reducible refine ok_next ?_ ?_ ?_ <;> (first | assumption | omega | (rw [w64_of] <;> omega))) | (with_reducible refine ok_nite (fun _ => ?_) (fun _ => ?_)) | (with_reducible refine ok_ite (fun _ => ?_) (fun _ => ?_)) | (with_reducible refine ok_not (fun _ => ?_) (fun _ => ?_)) | (with_reducible refine ok_cond (fun _ => ?_) (fun _ => ?_)) | with_reducible refine ok_bind (ok_idx (by (first | assumption | omega | (rw [w64_of] <;> omega))) (by (first | assumption | omega | (rw [w64_of] <;> omega)))) (fun _ _ => ?_) | (with_reducible refine ok_bind (Q := Yes) ?_ (fun _ _ => ?_)) | dsimp only)
theorem counter_order_ok (a b) : Tot (counter_order a b) := by
  unfold counter_order
  repeat' (first | with_reducible exact ok_yes | with_reducible exact ok_inrY | with_reducible exact ok_inlY | (with_reducible refine ok_next ?_ ?_ ?_ <;> (first | assumption | omega | (rw [w64_of] <;> omega))) | (with_reducible refine ok_nite (fun _ => ?_) (fun _ => ?_)) | (with_reducible refine ok_ite (fun _ => ?_) (fun _ => ?_)) | (with_reducible refine ok_not (fun _ => ?_) (fun _ => ?_)) | (with_reducible refine ok_cond (fun _ => ?_) (fun _ => ?_)) | with_reducible refine ok_bind (ok_idx (by (first | assumption | omega | (rw [w64_of] <;> omega))) (by (first | assumption | omega | (rw [w64_of] <;> omega)))) (fun _ _ => ?_) | (with_reducible refine Ok.yes (cmp_Compare_string_ok _ _) <;> (first | assumption | omega | (rw [w64_of] <;> omega))) | (with_reducible refine Ok.yes (cmp_Compare_int_ok _ _) <;> (first | assumption | omega | (rw [w64_of] <;> omega))) | (with_reducible refine Ok.yes (cmp_Or_int_ok _ (Nat.le_of_ble_eq_true rfl)) <;> (first | assumption | omega | (rw [w64_of] <;> omega))) | (with_reducible refine ok_bind (Q := Yes) ?_ (fun _ _ => ?_)) | dsimp only)
theorem flow_Check_ok (l : List api_Flow) (h : l.length ≤ 9223372036854775807) : Tot (flow_Check l) := by
  unfold flow_Check
  refine ok_bindS (Q := Yes) (ok_up l.length (by omega) fun i h1 h2 => ?_) (fun _ _ => ?_) (fun _ _ => ?_)
  · unfold flow_Check_L1
    repeat' (first | with_reducible exact ok_yes | with_reducible exact ok_inrY | with_reducible exact ok_inlY | (with_reducible refine ok_next ?_ ?_ ?_ <;> (first | assumption | omega | (rw [w64_of] <;> omega))) | (with_reducible refine ok_nite (fun _ => ?_) (fun _ => ?_)) | (with_reducible refine ok_ite (fun _ => ?_) (fun _ => ?_)) | (with_reducible refine ok_not (fun _ => ?_) (fun _ => ?_)) | (with_reducible refine ok_cond (fun _ => ?_) (fun _ => ?_)) | with_reducible refine ok_bind (ok_idx (by (first | assumption | omega | (rw [w64_of] <;> omega))) (by (first | assumption | omega | (rw [w64_of] <;> omega)))) (fun _ _ => ?_) | (with_reducible refine Ok.yes (flow_bad_ok _ _) <;> (first | assumption | omega | (rw [w64_of] <;> omega))) | (with_reducible refine ok_bind (Q := Yes) ?_ (fun _ _ => ?_)) | dsimp only)
  · repeat' (first | with_reducible exact ok_yes | with_reducible exact ok_inrY | with_reducible exact ok_inlY | (with_reducible refine ok_next ?_ ?_ ?_ <;> (first | assumption | omega | (rw [w64_of] <;> omega))) | (with_reducible refine ok_nite (fun _ => ?_) (fun _ => ?_)) | (with_reducible refine ok_ite (fun _ => ?_) (fun _ => ?_)) | (with_reducible refine ok_not (fun _ => ?_) (fun _ => ?_)) | (with_reducible refine ok_cond (fun _ => ?_) (fun _ => ?_)) | with_reducible refine ok_bind (ok_idx (by (first | assumption | omega | (rw [w64_of] <;> omega))) (by (first | assumption | omega | (rw [w64_of] <;> omega)))) (fun _ _ => ?_) | (with_reducible refine Ok.yes (flow_bad_ok _ _) <;> (first | assumption | omega | (rw [w64_of] <;> omega))) | (with_reducible refine ok_bind (Q := Yes) ?_ (fun _ _ => ?_)) | dsimp only)
  · repeat' (first | with_reducible exact ok_yes | with_reducible exact ok_inrY | with_reducible exact ok_inlY | (with_reducible refine ok_next ?_ ?_ ?_ <;> (first | assumption | omega | (rw [w64_of] <;> omega))) | (with_reducible refine ok_nite (fun _ => ?_) (fun _ => ?_)) | (with_reducible refine ok_ite (fun _ => ?_) (fun _ => ?_)) | (with_reducible refine ok_not (fun _ => ?_) (fun _ => ?_)) | (with_reducible refine ok_cond (fun _ => ?_) (fun _ => ?_)) | with_reducible refine ok_bind (ok_idx (by (first | assumption | omega | (rw [w64_of] <;> omega))) (by (first | assumption | omega | (rw [w64_of] <;> omega)))) (fun _ _ => ?_) | (with_reducible refine Ok.yes (flow_bad_ok _ _) <;> (first | assumption | omega | (rw [w64_of] <;> omega))) | (with_reducible refine ok_bind (Q := Yes) ?_ (fun _ _ => ?_)) | dsimp only)
theorem sample_Check_ok (l : List api_Sample) (h : l.length ≤ 9223372036854775807) (hx : ∀ x ∈ l, x.fStack.length ≤ 9223372036854775807 ∧ ∀ y ∈ x.fStack, okN y) : Tot (sample_Check l) := by
  unfold sample_Check
  refine ok_bindS (Q := Yes) (ok_up l.length (by omega) fun i h1 h2 => ?_) (fun _ _ => ?_) (fun _ _ => ?_)
  · unfold sample_Check_L1
    repeat' (first | with_reducible exact ok_yes | with_reducible exact ok_inrY | with_reducible exact ok_inlY | (with_reducible refine ok_next ?_ ?_ ?_ <;> (first | assumption | omega | (rw [w64_of] <;> omega))) | (with_reducible refine ok_nite (fun _ => ?_) (fun _ => ?_)) | (with_reducible refine ok_ite (fun _ => ?_) (fun _ => ?_)) | (with_reducible refine ok_not (fun _ => ?_) (fun _ => ?_)) | (with_reducible refine ok_cond (fun _ => ?_) (fun _ => ?_)) | with_reducible refine ok_bind (ok_idx (by (first | assumption | omega | (rw [w64_of] <;> omega))) (by (first | assumption | omega | (rw [w64_of] <;> omega)))) (fun _ _ => ?_) | (with_reducible refine Ok.yes (sample_good_ok _) <;> (first | assumption | omega | (rw [w64_of] <;> omega))) | (with_reducible refine Ok.yes (intern_Frames_ok _ (hx _ (List.mem_of_getElem? (by assumption))).1 (hx _ (List.mem_of_getElem? (by assumption))).2) <;> (first | assumption | omega | (rw [w64_of] <;> omega))) | (with_reducible refine ok_bind (Q := Yes) ?_ (fun _ _ => ?_)) | dsimp only)
  · repeat' (first | with_reducible exact ok_yes | with_reducible exact ok_inrY | with_reducible exact ok_inlY | (with_reducible refine ok_next ?_ ?_ ?_ <;> (first | assumption | omega | (rw [w64_of] <;> omega))) | (with_reducible refine ok_nite (fun _ => ?_) (fun _ => ?_)) | (with_reducible refine ok_ite (fun _ => ?_) (fun _ => ?_)) | (with_reducible refine ok_not (fun _ => ?_) (fun _ => ?_)) | (with_reducible refine ok_cond (fun _ => ?_) (fun _ => ?_)) | with_reducible refine ok_bind (ok_idx (by (first | assumption | omega | (rw [w64_of] <;> omega))) (by (first | assumption | omega | (rw [w64_of] <;> omega)))) (fun _ _ => ?_) | (with_reducible refine Ok.yes (sample_good_ok _) <;> (first | assumption | omega | (rw [w64_of] <;> omega))) | (with_reducible refine Ok.yes (intern_Frames_ok _ (hx _ (List.mem_of_getElem? (by assumption))).1 (hx _ (List.mem_of_getElem? (by assumption))).2) <;> (first | assumption | omega | (rw [w64_of] <;> omega))) | (with_reducible refine ok_bind (Q := Yes) ?_ (fun _ _ => ?_)) | dsimp only)
  · repeat' (first | with_reducible exact ok_yes | with_reducible exact ok_inrY | with_reducible exact ok_inlY | (with_reducible refine ok_next ?_ ?_ ?_ <;> (first | assumption | omega | (rw [w64_of] <;> omega))) | (with_reducible refine ok_nite (fun _ => ?_) (fun _ => ?_)) | (with_reducible refine ok_ite (fun _ => ?_) (fun _ => ?_)) | (with_reducible refine ok_not (fun _ => ?_) (fun _ => ?_)) | (with_reducible refine ok_cond (fun _ => ?_) (fun _ => ?_)) | with_reducible refine ok_bind (ok_idx (by (first | assumption | omega | (rw [w64_of] <;> omega))) (by (first | assumption | omega | (rw [w64_of] <;> omega)))) (fun _ _ => ?_) | (with_reducible refine Ok.yes (sample_good_ok _) <;> (first | assumption | omega | (rw [w64_of] <;> omega))) | (with_reducible refine Ok.yes (intern_Frames_ok _ (hx _ (List.mem_of_getElem? (by assumption))).1 (hx _ (List.mem_of_getElem? (by assumption))).2) <;> (first | assumption | omega | (rw [w64_of] <;> omega))) | (with_reducible refine ok_bind (Q := Yes) ?_ (fun _ _ => ?_)) | dsimp only)
theorem counter_Check_ok (l : List api_Step) (h : l.length ≤ 9223372036854775807) (hx : ∀ x ∈ l, okN x.fName) : Tot (counter_Check l) := by
  unfold counter_Check
  refine ok_bindS (Q := Yes) (ok_up l.length (by omega) fun i h1 h2 => ?_) (fun _ _ => ?_) (fun _ _ => ?_)
  · unfold counter_Check_L1
    repeat' (first | with_reducible exact ok_yes | with_reducible exact ok_inrY | with_reducible exact ok_inlY | (with_reducible refine ok_next ?_ ?_ ?_ <;> (first | assumption | omega | (rw [w64_of] <;> omega))) | (with_reducible refine ok_nite (fun _ => ?_) (fun _ => ?_)) | (with_reducible refine ok_ite (fun _ => ?_) (fun _ => ?_)) | (with_reducible refine ok_not (fun _ => ?_) (fun _ => ?_)) | (with_reducible refine ok_cond (fun _ => ?_) (fun _ => ?_)) | with_reducible refine ok_bind (ok_idx (by (first | assumption | omega | (rw [w64_of] <;> omega))) (by (first | assumption | omega | (rw [w64_of] <;> omega)))) (fun _ _ => ?_) | (with_reducible refine Ok.yes (num_In_ok _) <;> (first | assumption | omega | (rw [w64_of] <;> omega))) | (with_reducible refine Ok.yes (counter_order_ok _ _) <;> (first | assumption | omega | (rw [w64_of] <;> omega))) | (with_reducible refine Ok.yes (intern_Name_ok _ (hx _ (List.mem_of_getElem? (by assumption)))) <;> (first | assumption | omega | (rw [w64_of] <;> omega))) | (with_reducible refine ok_bind (Q := Yes) ?_ (fun _ _ => ?_)) | dsimp only)
  · repeat' (first | with_reducible exact ok_yes | with_reducible exact ok_inrY | with_reducible exact ok_inlY | (with_reducible refine ok_next ?_ ?_ ?_ <;> (first | assumption | omega | (rw [w64_of] <;> omega))) | (with_reducible refine ok_nite (fun _ => ?_) (fun _ => ?_)) | (with_reducible refine ok_ite (fun _ => ?_) (fun _ => ?_)) | (with_reducible refine ok_not (fun _ => ?_) (fun _ => ?_)) | (with_reducible refine ok_cond (fun _ => ?_) (fun _ => ?_)) | with_reducible refine ok_bind (ok_idx (by (first | assumption | omega | (rw [w64_of] <;> omega))) (by (first | assumption | omega | (rw [w64_of] <;> omega)))) (fun _ _ => ?_) | (with_reducible refine Ok.yes (num_In_ok _) <;> (first | assumption | omega | (rw [w64_of] <;> omega))) | (with_reducible refine Ok.yes (counter_order_ok _ _) <;> (first | assumption | omega | (rw [w64_of] <;> omega))) | (with_reducible refine Ok.yes (intern_Name_ok _ (hx _ (List.mem_of_getElem? (by assumption)))) <;> (first | assumption | omega | (rw [w64_of] <;> omega))) | (with_reducible refine ok_bind (Q := Yes) ?_ (fun _ _ => ?_)) | dsimp only)
  · repeat' (first | with_reducible exact ok_yes | with_reducible exact ok_inrY | with_reducible exact ok_inlY | (with_reducible refine ok_next ?_ ?_ ?_ <;> (first | assumption | omega | (rw [w64_of] <;> omega))) | (with_reducible refine ok_nite (fun _ => ?_) (fun _ => ?_)) | (with_reducible refine ok_ite (fun _ => ?_) (fun _ => ?_)) | (with_reducible refine ok_not (fun _ => ?_) (fun _ => ?_)) | (with_reducible refine ok_cond (fun _ => ?_) (fun _ => ?_)) | with_reducible refine ok_bind (ok_idx (by (first | assumption | omega | (rw [w64_of] <;> omega))) (by (first | assumption | omega | (rw [w64_of] <;> omega)))) (fun _ _ => ?_) | (with_reducible refine Ok.yes (num_In_ok _) <;> (first | assumption | omega | (rw [w64_of] <;> omega))) | (with_reducible refine Ok.yes (counter_order_ok _ _) <;> (first | assumption | omega | (rw [w64_of] <;> omega))) | (with_reducible refine Ok.yes (intern_Name_ok _ (hx _ (List.mem_of_getElem? (by assumption)))) <;> (first | assumption | omega | (rw [w64_of] <;> omega))) | (with_reducible refine ok_bind (Q := Yes) ?_ (fun _ _ => ?_)) | dsimp only)
theorem trace_within_ok (a b) : Tot (trace_within a b) := by
  unfold trace_within
  repeat' (first | with_reducible exact ok_yes | with_reducible exact ok_inrY | with_reducible exact ok_inlY | (with_reducible refine ok_next ?_ ?_ ?_ <;> (first | assumption | omega | (rw [w64_of] <;> omega))) | (with_reducible refine ok_nite (fun _ => ?_) (fun _ => ?_)) | (with_reducible refine ok_ite (fun _ => ?_) (fun _ => ?_)) | (with_reducible refine ok_not (fun _ => ?_) (fun _ => ?_)) | (with_reducible refine ok_cond (fun _ => ?_) (fun _ => ?_)) | with_reducible refine ok_bind (ok_idx (by (first | assumption | omega | (rw [w64_of] <;> omega))) (by (first | assumption | omega | (rw [w64_of] <;> omega)))) (fun _ _ => ?_) | (with_reducible refine ok_bind (Q := Yes) ?_ (fun _ _ => ?_)) | dsimp only)
theorem trace_inside_ok (a b) : Tot (trace_inside a b) := by
  unfold trace_inside
  repeat' (first | with_reducible exact ok_yes | with_reducible exact ok_inrY | with_reducible exact ok_inlY | (with_reducible refine ok_next ?_ ?_ ?_ <;> (first | assumption | omega | (rw [w64_of] <;> omega))) | (with_reducible refine ok_nite (fun _ => ?_) (fun _ => ?_)) | (with_reducible refine ok_ite (fun _ => ?_) (fun _ => ?_)) | (with_reducible refine ok_not (fun _ => ?_) (fun _ => ?_)) | (with_reducible refine ok_cond (fun _ => ?_) (fun _ => ?_)) | with_reducible refine ok_bind (ok_idx (by (first | assumption | omega | (rw [w64_of] <;> omega))) (by (first | assumption | omega | (rw [w64_of] <;> omega)))) (fun _ _ => ?_) | (with_reducible refine ok_bind (Q := Yes) ?_ (fun _ _ => ?_)) | dsimp only)
theorem trace_outside_1_k1_ok (a b) : Tot (trace_outside_1_k1 a b) := by
  unfold trace_outside_1_k1
  repeat' (first | with_reducible exact ok_yes | with_reducible exact ok_inrY | with_reducible exact ok_inlY | (with_reducible refine ok_next ?_ ?_ ?_ <;> (first | assumption | omega | (rw [w64_of] <;> omega))) | (with_reducible refine ok_nite (fun _ => ?_) (fun _ => ?_)) | (with_reducible refine ok_ite (fun _ => ?_) (fun _ => ?_)) | (with_reducible refine ok_not (fun _ => ?_) (fun _ => ?_)) | (with_reducible refine ok_cond (fun _ => ?_) (fun _ => ?_)) | with_reducible refine ok_bind (ok_idx (by (first | assumption | omega | (rw [w64_of] <;> omega))) (by (first | assumption | omega | (rw [w64_of] <;> omega)))) (fun _ _ => ?_) | (with_reducible refine Ok.yes (trace_within_ok _ _) <;> (first | assumption | omega | (rw [w64_of] <;> omega))) | (with_reducible refine Ok.yes (trace_inside_ok _ _) <;> (first | assumption | omega | (rw [w64_of] <;> omega))) | (with_reducible refine ok_bind (Q := Yes) ?_ (fun _ _ => ?_)) | dsimp only)
theorem slices_ContainsFunc_api_Slice_api_Slice_k1_ok (l : List api_Slice) (a) (h : l.length ≤ 9223372036854775807) : Tot (slices_ContainsFunc_api_Slice_api_Slice_k1 l a) := by
  unfold slices_ContainsFunc_api_Slice_api_Slice_k1
  refine ok_bind (Q := Yes) ?_ (fun _ _ => ok_yes)
  unfold slices_IndexFunc_api_Slice_api_Slice_k1
  refine ok_bindS (Q := Yes) (ok_up l.length (by omega) fun i h1 h2 => ?_) (fun _ _ => ?_) (fun _ _ => ?_)
  · unfold slices_IndexFunc_api_Slice_api_Slice_k1_L1
    repeat' (first | with_reducible exact ok_yes | with_reducible exact ok_inrY | with_reducible exact ok_inlY | (with_reducible refine ok_next ?_ ?_ ?_ <;> (first | assumption | omega | (rw [w64_of] <;> omega))) | (with_reducible refine ok_nite (fun _ => ?_) (fun _ => ?_)) | (with_reducible refine ok_ite (fun _ => ?_) (fun _ => ?_)) | (with_reducible refine ok_not (fun _ => ?_) (fun _ => ?_)) | (with_reducible refine ok_cond (fun _ => ?_) (fun _ => ?_)) | with_reducible refine ok_bind (ok_idx (by (first | assumption | omega | (rw [w64_of] <;> omega))) (by (first | assumption | omega | (rw [w64_of] <;> omega)))) (fun _ _ => ?_) | (with_reducible refine Ok.yes (trace_outside_1_k1_ok _ _) <;> (first | assumption | omega | (rw [w64_of] <;> omega))) | (with_reducible refine ok_bind (Q := Yes) ?_ (fun _ _ => ?_)) | dsimp only)
  · repeat' (first | with_reducible exact ok_yes | with_reducible exact ok_inrY | with_reducible exact ok_inlY | (with_reducible refine ok_next ?_ ?_ ?_ <;> (first | assumption | omega | (rw [w64_of] <;> omega))) | (with_reducible refine ok_nite (fun _ => ?_) (fun _ => ?_)) | (with_reducible refine ok_ite (fun _ => ?_) (fun _ => ?_)) | (with_reducible refine ok_not (fun _ => ?_) (fun _ => ?_)) | (with_reducible refine ok_cond (fun _ => ?_) (fun _ => ?_)) | with_reducible refine ok_bind (ok_idx (by (first | assumption | omega | (rw [w64_of] <;> omega))) (by (first | assumption | omega | (rw [w64_of] <;> omega)))) (fun _ _ => ?_) | (with_reducible refine Ok.yes (trace_outside_1_k1_ok _ _) <;> (first | assumption | omega | (rw [w64_of] <;> omega))) | (with_reducible refine ok_bind (Q := Yes) ?_ (fun _ _ => ?_)) | dsimp only)
  · repeat' (first | with_reducible exact ok_yes | with_reducible exact ok_inrY | with_reducible exact ok_inlY | (with_reducible refine ok_next ?_ ?_ ?_ <;> (first | assumption | omega | (rw [w64_of] <;> omega))) | (with_reducible refine ok_nite (fun _ => ?_) (fun _ => ?_)) | (with_reducible refine ok_ite (fun _ => ?_) (fun _ => ?_)) | (with_reducible refine ok_not (fun _ => ?_) (fun _ => ?_)) | (with_reducible refine ok_cond (fun _ => ?_) (fun _ => ?_)) | with_reducible refine ok_bind (ok_idx (by (first | assumption | omega | (rw [w64_of] <;> omega))) (by (first | assumption | omega | (rw [w64_of] <;> omega)))) (fun _ _ => ?_) | (with_reducible refine Ok.yes (trace_outside_1_k1_ok _ _) <;> (first | assumption | omega | (rw [w64_of] <;> omega))) | (with_reducible refine ok_bind (Q := Yes) ?_ (fun _ _ => ?_)) | dsimp only)
theorem trace_outside_2_k1_ok (a b) : Tot (trace_outside_2_k1 a b) := by
  unfold trace_outside_2_k1
  repeat' (first | with_reducible exact ok_yes | with_reducible exact ok_inrY | with_reducible exact ok_inlY | (with_reducible refine ok_next ?_ ?_ ?_ <;> (first | assumption | omega | (rw [w64_of] <;> omega))) | (with_reducible refine ok_nite (fun _ => ?_) (fun _ => ?_)) | (with_reducible refine ok_ite (fun _ => ?_) (fun _ => ?_)) | (with_reducible refine ok_not (fun _ => ?_) (fun _ => ?_)) | (with_reducible refine ok_cond (fun _ => ?_) (fun _ => ?_)) | with_reducible refine ok_bind (ok_idx (by (first | assumption | omega | (rw [w64_of] <;> omega))) (by (first | assumption | omega | (rw [w64_of] <;> omega)))) (fun _ _ => ?_) | (with_reducible refine Ok.yes (trace_within_ok _ _) <;> (first | assumption | omega | (rw [w64_of] <;> omega))) | (with_reducible refine Ok.yes (trace_inside_ok _ _) <;> (first | assumption | omega | (rw [w64_of] <;> omega))) | (with_reducible refine ok_bind (Q := Yes) ?_ (fun _ _ => ?_)) | dsimp only)
theorem slices_ContainsFunc_api_State_api_State_k1_ok (l : List api_State) (a) (h : l.length ≤ 9223372036854775807) : Tot (slices_ContainsFunc_api_State_api_State_k1 l a) := by
  unfold slices_ContainsFunc_api_State_api_State_k1
  refine ok_bind (Q := Yes) ?_ (fun _ _ => ok_yes)
  unfold slices_IndexFunc_api_State_api_State_k1
  refine ok_bindS (Q := Yes) (ok_up l.length (by omega) fun i h1 h2 => ?_) (fun _ _ => ?_) (fun _ _ => ?_)
  · unfold slices_IndexFunc_api_State_api_State_k1_L1
    repeat' (first | with_reducible exact ok_yes | with_reducible exact ok_inrY | with_reducible exact ok_inlY | (with_reducible refine ok_next ?_ ?_ ?_ <;> (first | assumption | omega | (rw [w64_of] <;> omega))) | (with_reducible refine ok_nite (fun _ => ?_) (fun _ => ?_)) | (with_reducible refine ok_ite (fun _ => ?_) (fun _ => ?_)) | (with_reducible refine ok_not (fun _ => ?_) (fun _ => ?_)) | (with_reducible refine ok_cond (fun _ => ?_) (fun _ => ?_)) | with_reducible refine ok_bind (ok_idx (by (first | assumption | omega | (rw [w64_of] <;> omega))) (by (first | assumption | omega | (rw [w64_of] <;> omega)))) (fun _ _ => ?_) | (with_reducible refine Ok.yes (trace_outside_2_k1_ok _ _) <;> (first | assumption | omega | (rw [w64_of] <;> omega))) | (with_reducible refine ok_bind (Q := Yes) ?_ (fun _ _ => ?_)) | dsimp only)
  · repeat' (first | with_reducible exact ok_yes | with_reducible exact ok_inrY | with_reducible exact ok_inlY | (with_reducible refine ok_next ?_ ?_ ?_ <;> (first | assumption | omega | (rw [w64_of] <;> omega))) | (with_reducible refine ok_nite (fun _ => ?_) (fun _ => ?_)) | (with_reducible refine ok_ite (fun _ => ?_) (fun _ => ?_)) | (with_reducible refine ok_not (fun _ => ?_) (fun _ => ?_)) | (with_reducible refine ok_cond (fun _ => ?_) (fun _ => ?_)) | with_reducible refine ok_bind (ok_idx (by (first | assumption | omega | (rw [w64_of] <;> omega))) (by (first | assumption | omega | (rw [w64_of] <;> omega)))) (fun _ _ => ?_) | (with_reducible refine Ok.yes (trace_outside_2_k1_ok _ _) <;> (first | assumption | omega | (rw [w64_of] <;> omega))) | (with_reducible refine ok_bind (Q := Yes) ?_ (fun _ _ => ?_)) | dsimp only)
  · repeat' (first | with_reducible exact ok_yes | with_reducible exact ok_inrY | with_reducible exact ok_inlY | (with_reducible refine ok_next ?_ ?_ ?_ <;> (first | assumption | omega | (rw [w64_of] <;> omega))) | (with_reducible refine ok_nite (fun _ => ?_) (fun _ => ?_)) | (with_reducible refine ok_ite (fun _ => ?_) (fun _ => ?_)) | (with_reducible refine ok_not (fun _ => ?_) (fun _ => ?_)) | (with_reducible refine ok_cond (fun _ => ?_) (fun _ => ?_)) | with_reducible refine ok_bind (ok_idx (by (first | assumption | omega | (rw [w64_of] <;> omega))) (by (first | assumption | omega | (rw [w64_of] <;> omega)))) (fun _ _ => ?_) | (with_reducible refine Ok.yes (trace_outside_2_k1_ok _ _) <;> (first | assumption | omega | (rw [w64_of] <;> omega))) | (with_reducible refine ok_bind (Q := Yes) ?_ (fun _ _ => ?_)) | dsimp only)
theorem trace_outside_3_k1_ok (a b) : Tot (trace_outside_3_k1 a b) := by
  unfold trace_outside_3_k1
  repeat' (first | with_reducible exact ok_yes | with_reducible exact ok_inrY | with_reducible exact ok_inlY | (with_reducible refine ok_next ?_ ?_ ?_ <;> (first | assumption | omega | (rw [w64_of] <;> omega))) | (with_reducible refine ok_nite (fun _ => ?_) (fun _ => ?_)) | (with_reducible refine ok_ite (fun _ => ?_) (fun _ => ?_)) | (with_reducible refine ok_not (fun _ => ?_) (fun _ => ?_)) | (with_reducible refine ok_cond (fun _ => ?_) (fun _ => ?_)) | with_reducible refine ok_bind (ok_idx (by (first | assumption | omega | (rw [w64_of] <;> omega))) (by (first | assumption | omega | (rw [w64_of] <;> omega)))) (fun _ _ => ?_) | (with_reducible refine Ok.yes (trace_within_ok _ _) <;> (first | assumption | omega | (rw [w64_of] <;> omega))) | (with_reducible refine Ok.yes (trace_inside_ok _ _) <;> (first | assumption | omega | (rw [w64_of] <;> omega))) | (with_reducible refine ok_bind (Q := Yes) ?_ (fun _ _ => ?_)) | dsimp only)
theorem slices_ContainsFunc_api_Block_api_Block_k1_ok (l : List api_Block) (a) (h : l.length ≤ 9223372036854775807) : Tot (slices_ContainsFunc_api_Block_api_Block_k1 l a) := by
  unfold slices_ContainsFunc_api_Block_api_Block_k1
  refine ok_bind (Q := Yes) ?_ (fun _ _ => ok_yes)
  unfold slices_IndexFunc_api_Block_api_Block_k1
  refine ok_bindS (Q := Yes) (ok_up l.length (by omega) fun i h1 h2 => ?_) (fun _ _ => ?_) (fun _ _ => ?_)
  · unfold slices_IndexFunc_api_Block_api_Block_k1_L1
    repeat' (first | with_reducible exact ok_yes | with_reducible exact ok_inrY | with_reducible exact ok_inlY | (with_reducible refine ok_next ?_ ?_ ?_ <;> (first | assumption | omega | (rw [w64_of] <;> omega))) | (with_reducible refine ok_nite (fun _ => ?_) (fun _ => ?_)) | (with_reducible refine ok_ite (fun _ => ?_) (fun _ => ?_)) | (with_reducible refine ok_not (fun _ => ?_) (fun _ => ?_)) | (with_reducible refine ok_cond (fun _ => ?_) (fun _ => ?_)) | with_reducible refine ok_bind (ok_idx (by (first | assumption | omega | (rw [w64_of] <;> omega))) (by (first | assumption | omega | (rw [w64_of] <;> omega)))) (fun _ _ => ?_) | (with_reducible refine Ok.yes (trace_outside_3_k1_ok _ _) <;> (first | assumption | omega | (rw [w64_of] <;> omega))) | (with_reducible refine ok_bind (Q := Yes) ?_ (fun _ _ => ?_)) | dsimp only)
  · repeat' (first | with_reducible exact ok_yes | with_reducible exact ok_inrY | with_reducible exact ok_inlY | (with_reducible refine ok_next ?_ ?_ ?_ <;> (first | assumption | omega | (rw [w64_of] <;> omega))) | (with_reducible refine ok_nite (fun _ => ?_) (fun _ => ?_)) | (with_reducible refine ok_ite (fun _ => ?_) (fun _ => ?_)) | (with_reducible refine ok_not (fun _ => ?_) (fun _ => ?_)) | (with_reducible refine ok_cond (fun _ => ?_) (fun _ => ?_)) | with_reducible refine ok_bind (ok_idx (by (first | assumption | omega | (rw [w64_of] <;> omega))) (by (first | assumption | omega | (rw [w64_of] <;> omega)))) (fun _ _ => ?_) | (with_reducible refine Ok.yes (trace_outside_3_k1_ok _ _) <;> (first | assumption | omega | (rw [w64_of] <;> omega))) | (with_reducible refine ok_bind (Q := Yes) ?_ (fun _ _ => ?_)) | dsimp only)
  · repeat' (first | with_reducible exact ok_yes | with_reducible exact ok_inrY | with_reducible exact ok_inlY | (with_reducible refine ok_next ?_ ?_ ?_ <;> (first | assumption | omega | (rw [w64_of] <;> omega))) | (with_reducible refine ok_nite (fun _ => ?_) (fun _ => ?_)) | (with_reducible refine ok_ite (fun _ => ?_) (fun _ => ?_)) | (with_reducible refine ok_not (fun _ => ?_) (fun _ => ?_)) | (with_reducible refine ok_cond (fun _ => ?_) (fun _ => ?_)) | with_reducible refine ok_bind (ok_idx (by (first | assumption | omega | (rw [w64_of] <;> omega))) (by (first | assumption | omega | (rw [w64_of] <;> omega)))) (fun _ _ => ?_) | (with_reducible refine Ok.yes (trace_outside_3_k1_ok _ _) <;> (first | assumption | omega | (rw [w64_of] <;> omega))) | (with_reducible refine ok_bind (Q := Yes) ?_ (fun _ _ => ?_)) | dsimp only)
theorem trace_outside_4_k1_ok (a b) : Tot (trace_outside_4_k1 a b) := by
  unfold trace_outside_4_k1
  repeat' (first | with_reducible exact ok_yes | with_reducible exact ok_inrY | with_reducible exact ok_inlY | (with_reducible refine ok_next ?_ ?_ ?_ <;> (first | assumption | omega | (rw [w64_of] <;> omega))) | (with_reducible refine ok_nite (fun _ => ?_) (fun _ => ?_)) | (with_reducible refine ok_ite (fun _ => ?_) (fun _ => ?_)) | (with_reducible refine ok_not (fun _ => ?_) (fun _ => ?_)) | (with_reducible refine ok_cond (fun _ => ?_) (fun _ => ?_)) | with_reducible refine ok_bind (ok_idx (by (first | assumption | omega | (rw [w64_of] <;> omega))) (by (first | assumption | omega | (rw [w64_of] <;> omega)))) (fun _ _ => ?_) | (with_reducible refine Ok.yes (trace_within_ok _ _) <;> (first | assumption | omega | (rw [w64_of] <;> omega))) | (with_reducible refine Ok.yes (trace_inside_ok _ _) <;> (first | assumption | omega | (rw [w64_of] <;> omega))) | (with_reducible refine ok_bind (Q := Yes) ?_ (fun _ _ => ?_)) | dsimp only)
theorem slices_ContainsFunc_api_Flow_api_Flow_k1_ok (l : List api_Flow) (a) (h : l.length ≤ 9223372036854775807) : Tot (slices_ContainsFunc_api_Flow_api_Flow_k1 l a) := by
  unfold slices_ContainsFunc_api_Flow_api_Flow_k1
  refine ok_bind (Q := Yes) ?_ (fun _ _ => ok_yes)
  unfold slices_IndexFunc_api_Flow_api_Flow_k1
  refine ok_bindS (Q := Yes) (ok_up l.length (by omega) fun i h1 h2 => ?_) (fun _ _ => ?_) (fun _ _ => ?_)
  · unfold slices_IndexFunc_api_Flow_api_Flow_k1_L1
    repeat' (first | with_reducible exact ok_yes | with_reducible exact ok_inrY | with_reducible exact ok_inlY | (with_reducible refine ok_next ?_ ?_ ?_ <;> (first | assumption | omega | (rw [w64_of] <;> omega))) | (with_reducible refine ok_nite (fun _ => ?_) (fun _ => ?_)) | (with_reducible refine ok_ite (fun _ => ?_) (fun _ => ?_)) | (with_reducible refine ok_not (fun _ => ?_) (fun _ => ?_)) | (with_reducible refine ok_cond (fun _ => ?_) (fun _ => ?_)) | with_reducible refine ok_bind (ok_idx (by (first | assumption | omega | (rw [w64_of] <;> omega))) (by (first | assumption | omega | (rw [w64_of] <;> omega)))) (fun _ _ => ?_) | (with_reducible refine Ok.yes (trace_outside_4_k1_ok _ _) <;> (first | assumption | omega | (rw [w64_of] <;> omega))) | (with_reducible refine ok_bind (Q := Yes) ?_ (fun _ _ => ?_)) | dsimp only)
  · repeat' (first | with_reducible exact ok_yes | with_reducible exact ok_inrY | with_reducible exact ok_inlY | (with_reducible refine ok_next ?_ ?_ ?_ <;> (first | assumption | omega | (rw [w64_of] <;> omega))) | (with_reducible refine ok_nite (fun _ => ?_) (fun _ => ?_)) | (with_reducible refine ok_ite (fun _ => ?_) (fun _ => ?_)) | (with_reducible refine ok_not (fun _ => ?_) (fun _ => ?_)) | (with_reducible refine ok_cond (fun _ => ?_) (fun _ => ?_)) | with_reducible refine ok_bind (ok_idx (by (first | assumption | omega | (rw [w64_of] <;> omega))) (by (first | assumption | omega | (rw [w64_of] <;> omega)))) (fun _ _ => ?_) | (with_reducible refine Ok.yes (trace_outside_4_k1_ok _ _) <;> (first | assumption | omega | (rw [w64_of] <;> omega))) | (with_reducible refine ok_bind (Q := Yes) ?_ (fun _ _ => ?_)) | dsimp only)
  · repeat' (first | with_reducible exact ok_yes | with_reducible exact ok_inrY | with_reducible exact ok_inlY | (with_reducible refine ok_next ?_ ?_ ?_ <;> (first | assumption | omega | (rw [w64_of] <;> omega))) | (with_reducible refine ok_nite (fun _ => ?_) (fun _ => ?_)) | (with_reducible refine ok_ite (fun _ => ?_) (fun _ => ?_)) | (with_reducible refine ok_not (fun _ => ?_) (fun _ => ?_)) | (with_reducible refine ok_cond (fun _ => ?_) (fun _ => ?_)) | with_reducible refine ok_bind (ok_idx (by (first | assumption | omega | (rw [w64_of] <;> omega))) (by (first | assumption | omega | (rw [w64_of] <;> omega)))) (fun _ _ => ?_) | (with_reducible refine Ok.yes (trace_outside_4_k1_ok _ _) <;> (first | assumption | omega | (rw [w64_of] <;> omega))) | (with_reducible refine ok_bind (Q := Yes) ?_ (fun _ _ => ?_)) | dsimp only)
theorem trace_outside_5_k1_ok (a b) : Tot (trace_outside_5_k1 a b) := by
  unfold trace_outside_5_k1
  repeat' (first | with_reducible exact ok_yes | with_reducible exact ok_inrY | with_reducible exact ok_inlY | (with_reducible refine ok_next ?_ ?_ ?_ <;> (first | assumption | omega | (rw [w64_of] <;> omega))) | (with_reducible refine ok_nite (fun _ => ?_) (fun _ => ?_)) | (with_reducible refine ok_ite (fun _ => ?_) (fun _ => ?_)) | (with_reducible refine ok_not (fun _ => ?_) (fun _ => ?_)) | (with_reducible refine ok_cond (fun _ => ?_) (fun _ => ?_)) | with_reducible refine ok_bind (ok_idx (by (first | assumption | omega | (rw [w64_of] <;> omega))) (by (first | assumption | omega | (rw [w64_of] <;> omega)))) (fun _ _ => ?_) | (with_reducible refine Ok.yes (trace_within_ok _ _) <;> (first | assumption | omega | (rw [w64_of] <;> omega))) | (with_reducible refine Ok.yes (trace_inside_ok _ _) <;> (first | assumption | omega | (rw [w64_of] <;> omega))) | (with_reducible refine ok_bind (Q := Yes) ?_ (fun _ _ => ?_)) | dsimp only)
theorem slices_ContainsFunc_api_Sample_api_Sample_k1_ok (l : List api_Sample) (a) (h : l.length ≤ 9223372036854775807) : Tot (slices_ContainsFunc_api_Sample_api_Sample_k1 l a) := by
  unfold slices_ContainsFunc_api_Sample_api_Sample_k1
  refine ok_bind (Q := Yes) ?_ (fun _ _ => ok_yes)
  unfold slices_IndexFunc_api_Sample_api_Sample_k1
  refine ok_bindS (Q := Yes) (ok_up l.length (by omega) fun i h1 h2 => ?_) (fun _ _ => ?_) (fun _ _ => ?_)
  · unfold slices_IndexFunc_api_Sample_api_Sample_k1_L1
    repeat' (first | with_reducible exact ok_yes | with_reducible exact ok_inrY | with_reducible exact ok_inlY | (with_reducible refine ok_next ?_ ?_ ?_ <;> (first | assumption | omega | (rw [w64_of] <;> omega))) | (with_reducible refine ok_nite (fun _ => ?_) (fun _ => ?_)) | (with_reducible refine ok_ite (fun _ => ?_) (fun _ => ?_)) | (with_reducible refine ok_not (fun _ => ?_) (fun _ => ?_)) | (with_reducible refine ok_cond (fun _ => ?_) (fun _ => ?_)) | with_reducible refine ok_bind (ok_idx (by (first | assumption | omega | (rw [w64_of] <;> omega))) (by (first | assumption | omega | (rw [w64_of] <;> omega)))) (fun _ _ => ?_) | (with_reducible refine Ok.yes (trace_outside_5_k1_ok _ _) <;> (first | assumption | omega | (rw [w64_of] <;> omega))) | (with_reducible refine ok_bind (Q := Yes) ?_ (fun _ _ => ?_)) | dsimp only)
  · repeat' (first | with_reducible exact ok_yes | with_reducible exact ok_inrY | with_reducible exact ok_inlY | (with_reducible refine ok_next ?_ ?_ ?_ <;> (first | assumption | omega | (rw [w64_of] <;> omega))) | (with_reducible refine ok_nite (fun _ => ?_) (fun _ => ?_)) | (with_reducible refine ok_ite (fun _ => ?_) (fun _ => ?_)) | (with_reducible refine ok_not (fun _ => ?_) (fun _ => ?_)) | (with_reducible refine ok_cond (fun _ => ?_) (fun _ => ?_)) | with_reducible refine ok_bind (ok_idx (by (first | assumption | omega | (rw [w64_of] <;> omega))) (by (first | assumption | omega | (rw [w64_of] <;> omega)))) (fun _ _ => ?_) | (with_reducible refine Ok.yes (trace_outside_5_k1_ok _ _) <;> (first | assumption | omega | (rw [w64_of] <;> omega))) | (with_reducible refine ok_bind (Q := Yes) ?_ (fun _ _ => ?_)) | dsimp only)
  · repeat' (first | with_reducible exact ok_yes | with_reducible exact ok_inrY | with_reducible exact ok_inlY | (with_reducible refine ok_next ?_ ?_ ?_ <;> (first | assumption | omega | (rw [w64_of] <;> omega))) | (with_reducible refine ok_nite (fun _ => ?_) (fun _ => ?_)) | (with_reducible refine ok_ite (fun _ => ?_) (fun _ => ?_)) | (with_reducible refine ok_not (fun _ => ?_) (fun _ => ?_)) | (with_reducible refine ok_cond (fun _ => ?_) (fun _ => ?_)) | with_reducible refine ok_bind (ok_idx (by (first | assumption | omega | (rw [w64_of] <;> omega))) (by (first | assumption | omega | (rw [w64_of] <;> omega)))) (fun _ _ => ?_) | (with_reducible refine Ok.yes (trace_outside_5_k1_ok _ _) <;> (first | assumption | omega | (rw [w64_of] <;> omega))) | (with_reducible refine ok_bind (Q := Yes) ?_ (fun _ _ => ?_)) | dsimp only)
theorem trace_outside_6_k1_ok (a b) : Tot (trace_outside_6_k1 a b) := by
  unfold trace_outside_6_k1
  repeat' (first | with_reducible exact ok_yes | with_reducible exact ok_inrY | with_reducible exact ok_inlY | (with_reducible refine ok_next ?_ ?_ ?_ <;> (first | assumption | omega | (rw [w64_of] <;> omega))) | (with_reducible refine ok_nite (fun _ => ?_) (fun _ => ?_)) | (with_reducible refine ok_ite (fun _ => ?_) (fun _ => ?_)) | (with_reducible refine ok_not (fun _ => ?_) (fun _ => ?_)) | (with_reducible refine ok_cond (fun _ => ?_) (fun _ => ?_)) | with_reducible refine ok_bind (ok_idx (by (first | assumption | omega | (rw [w64_of] <;> omega))) (by (first | assumption | omega | (rw [w64_of] <;> omega)))) (fun _ _ => ?_) | (with_reducible refine Ok.yes (trace_within_ok _ _) <;> (first | assumption | omega | (rw [w64_of] <;> omega))) | (with_reducible refine Ok.yes (trace_inside_ok _ _) <;> (first | assumption | omega | (rw [w64_of] <;> omega))) | (with_reducible refine ok_bind (Q := Yes) ?_ (fun _ _ => ?_)) | dsimp only)
theorem slices_ContainsFunc_api_Step_api_Step_k1_ok (l : List api_Step) (a) (h : l.length ≤ 9223372036854775807) : Tot (slices_ContainsFunc_api_Step_api_Step_k1 l a) := by
  unfold slices_ContainsFunc_api_Step_api_Step_k1
  refine ok_bind (Q := Yes) ?_ (fun _ _ => ok_yes)
  unfold slices_IndexFunc_api_Step_api_Step_k1
  refine ok_bindS (Q := Yes) (ok_up l.length (by omega) fun i h1 h2 => ?_) (fun _ _ => ?_) (fun _ _ => ?_)
  · unfold slices_IndexFunc_api_Step_api_Step_k1_L1
    repeat' (first | with_reducible exact ok_yes | with_reducible exact ok_inrY | with_reducible exact ok_inlY | (with_reducible refine ok_next ?_ ?_ ?_ <;> (first | assumption | omega | (rw [w64_of] <;> omega))) | (with_reducible refine ok_nite (fun _ => ?_) (fun _ => ?_)) | (with_reducible refine ok_ite (fun _ => ?_) (fun _ => ?_)) | (with_reducible refine ok_not (fun _ => ?_) (fun _ => ?_)) | (with_reducible refine ok_cond (fun _ => ?_) (fun _ => ?_)) | with_reducible refine ok_bind (ok_idx (by (first | assumption | omega | (rw [w64_of] <;> omega))) (by (first | assumption | omega | (rw [w64_of] <;> omega)))) (fun _ _ => ?_) | (with_reducible refine Ok.yes (trace_outside_6_k1_ok _ _) <;> (first | assumption | omega | (rw [w64_of] <;> omega))) | (with_reducible refine ok_bind (Q := Yes) ?_ (fun _ _ => ?_)) | dsimp only)
  · repeat' (first | with_reducible exact ok_yes | with_reducible exact ok_inrY | with_reducible exact ok_inlY | (with_reducible refine ok_next ?_ ?_ ?_ <;> (first | assumption | omega | (rw [w64_of] <;> omega))) | (with_reducible refine ok_nite (fun _ => ?_) (fun _ => ?_)) | (with_reducible refine ok_ite (fun _ => ?_) (fun _ => ?_)) | (with_reducible refine ok_not (fun _ => ?_) (fun _ => ?_)) | (with_reducible refine ok_cond (fun _ => ?_) (fun _ => ?_)) | with_reducible refine ok_bind (ok_idx (by (first | assumption | omega | (rw [w64_of] <;> omega))) (by (first | assumption | omega | (rw [w64_of] <;> omega)))) (fun _ _ => ?_) | (with_reducible refine Ok.yes (trace_outside_6_k1_ok _ _) <;> (first | assumption | omega | (rw [w64_of] <;> omega))) | (with_reducible refine ok_bind (Q := Yes) ?_ (fun _ _ => ?_)) | dsimp only)
  · repeat' (first | with_reducible exact ok_yes | with_reducible exact ok_inrY | with_reducible exact ok_inlY | (with_reducible refine ok_next ?_ ?_ ?_ <;> (first | assumption | omega | (rw [w64_of] <;> omega))) | (with_reducible refine ok_nite (fun _ => ?_) (fun _ => ?_)) | (with_reducible refine ok_ite (fun _ => ?_) (fun _ => ?_)) | (with_reducible refine ok_not (fun _ => ?_) (fun _ => ?_)) | (with_reducible refine ok_cond (fun _ => ?_) (fun _ => ?_)) | with_reducible refine ok_bind (ok_idx (by (first | assumption | omega | (rw [w64_of] <;> omega))) (by (first | assumption | omega | (rw [w64_of] <;> omega)))) (fun _ _ => ?_) | (with_reducible refine Ok.yes (trace_outside_6_k1_ok _ _) <;> (first | assumption | omega | (rw [w64_of] <;> omega))) | (with_reducible refine ok_bind (Q := Yes) ?_ (fun _ _ => ?_)) | dsimp only)
theorem trace_outside_ok (t : api_Trace) (h : Siz t) : Tot (trace_outside t) := by
  unfold trace_outside
  repeat' (first | with_reducible exact ok_yes | with_reducible exact ok_inrY | with_reducible exact ok_inlY | (with_reducible refine ok_next ?_ ?_ ?_ <;> (first | assumption | omega | (rw [w64_of] <;> omega))) | (with_reducible refine ok_nite (fun _ => ?_) (fun _ => ?_)) | (with_reducible refine ok_ite (fun _ => ?_) (fun _ => ?_)) | (with_reducible refine ok_not (fun _ => ?_) (fun _ => ?_)) | (with_reducible refine ok_cond (fun _ => ?_) (fun _ => ?_)) | with_reducible refine ok_bind (ok_idx (by (first | assumption | omega | (rw [w64_of] <;> omega))) (by (first | assumption | omega | (rw [w64_of] <;> omega)))) (fun _ _ => ?_) | (with_reducible refine Ok.yes (slices_ContainsFunc_api_Slice_api_Slice_k1_ok _ _ h.sl) <;> (first | assumption | omega | (rw [w64_of] <;> omega))) | (with_reducible refine Ok.yes (slices_ContainsFunc_api_State_api_State_k1_ok _ _ h.st) <;> (first | assumption | omega | (rw [w64_of] <;> omega))) | (with_reducible refine Ok.yes (slices_ContainsFunc_api_Block_api_Block_k1_ok _ _ h.bl) <;> (first | assumption | omega | (rw [w64_of] <;> omega))) | (with_reducible refine Ok.yes (slices_ContainsFunc_api_Flow_api_Flow_k1_ok _ _ h.fl) <;> (first | assumption | omega | (rw [w64_of] <;> omega))) | (with_reducible refine Ok.yes (slices_ContainsFunc_api_Sample_api_Sample_k1_ok _ _ h.sa) <;> (first | assumption | omega | (rw [w64_of] <;> omega))) | (with_reducible refine Ok.yes (slices_ContainsFunc_api_Step_api_Step_k1_ok _ _ h.sp) <;> (first | assumption | omega | (rw [w64_of] <;> omega))) | (with_reducible refine ok_bind (Q := Yes) ?_ (fun _ _ => ?_)) | dsimp only)
theorem slices_Index_int_int_ok (l : List Int) (a : Int) (h : l.length ≤ 9223372036854775807) : Tot (slices_Index_int_int l a) := by
  unfold slices_Index_int_int
  refine ok_bindS (Q := Yes) (ok_up l.length (by omega) fun i h1 h2 => ?_) (fun _ _ => ?_) (fun _ _ => ?_)
  · unfold slices_Index_int_int_L1
    repeat' (first | with_reducible exact ok_yes | with_reducible exact ok_inrY | with_reducible exact ok_inlY | (with_reducible refine ok_next ?_ ?_ ?_ <;> (first | assumption | omega | (rw [w64_of] <;> omega))) | (with_reducible refine ok_nite (fun _ => ?_) (fun _ => ?_)) | (with_reducible refine ok_ite (fun _ => ?_) (fun _ => ?_)) | (with_reducible refine ok_not (fun _ => ?_) (fun _ => ?_)) | (with_reducible refine ok_cond (fun _ => ?_) (fun _ => ?_)) | with_reducible refine ok_bind (ok_idx (by (first | assumption | omega | (rw [w64_of] <;> omega))) (by (first | assumption | omega | (rw [w64_of] <;> omega)))) (fun _ _ => ?_) | (with_reducible refine ok_bind (Q := Yes) ?_ (fun _ _ => ?_)) | dsimp only)
  · repeat' (first | with_reducible exact ok_yes | with_reducible exact ok_inrY | with_reducible exact ok_inlY | (with_reducible refine ok_next ?_ ?_ ?_ <;> (first | assumption | omega | (rw [w64_of] <;> omega))) | (with_reducible refine ok_nite (fun _ => ?_) (fun _ => ?_)) | (with_reducible refine ok_ite (fun _ => ?_) (fun _ => ?_)) | (with_reducible refine ok_not (fun _ => ?_) (fun _ => ?_)) | (with_reducible refine ok_cond (fun _ => ?_) (fun _ => ?_)) | with_reducible refine ok_bind (ok_idx (by (first | assumption | omega | (rw [w64_of] <;> omega))) (by (first | assumption | omega | (rw [w64_of] <;> omega)))) (fun _ _ => ?_) | (with_reducible refine ok_bind (Q := Yes) ?_ (fun _ _ => ?_)) | dsimp only)
  · repeat' (first | with_reducible exact ok_yes | with_reducible exact ok_inrY | with_reducible exact ok_inlY | (with_reducible refine ok_next ?_ ?_ ?_ <;> (first | assumption | omega | (rw [w64_of] <;> omega))) | (with_reducible refine ok_nite (fun _ => ?_) (fun _ => ?_)) | (with_reducible refine ok_ite (fun _ => ?_) (fun _ => ?_)) | (with_reducible refine ok_not (fun _ => ?_) (fun _ => ?_)) | (with_reducible refine ok_cond (fun _ => ?_) (fun _ => ?_)) | with_reducible refine ok_bind (ok_idx (by (first | assumption | omega | (rw [w64_of] <;> omega))) (by (first | assumption | omega | (rw [w64_of] <;> omega)))) (fun _ _ => ?_) | (with_reducible refine ok_bind (Q := Yes) ?_ (fun _ _ => ?_)) | dsimp only)
theorem slices_Contains_int_int_ok (l : List Int) (a : Int) (h : l.length ≤ 9223372036854775807) : Tot (slices_Contains_int_int l a) := by
  unfold slices_Contains_int_int
  repeat' (first | with_reducible exact ok_yes | with_reducible exact ok_inrY | with_reducible exact ok_inlY | (with_reducible refine ok_next ?_ ?_ ?_ <;> (first | assumption | omega | (rw [w64_of] <;> omega))) | (with_reducible refine ok_nite (fun _ => ?_) (fun _ => ?_)) | (with_reducible refine ok_ite (fun _ => ?_) (fun _ => ?_)) | (with_reducible refine ok_not (fun _ => ?_) (fun _ => ?_)) | (with_reducible refine ok_cond (fun _ => ?_) (fun _ => ?_)) | with_reducible refine ok_bind (ok_idx (by (first | assumption | omega | (rw [w64_of] <;> omega))) (by (first | assumption | omega | (rw [w64_of] <;> omega)))) (fun _ _ => ?_) | (with_reducible refine Ok.yes (slices_Index_int_int_ok _ _ h) <;> (first | assumption | omega | (rw [w64_of] <;> omega))) | (with_reducible refine ok_bind (Q := Yes) ?_ (fun _ _ => ?_)) | dsimp only)
theorem state_fields_ok (a) : Tot (state_fields a) := by
  unfold state_fields
  repeat' (first | with_reducible exact ok_yes | with_reducible exact ok_inrY | with_reducible exact ok_inlY | (with_reducible refine ok_next ?_ ?_ ?_ <;> (first | assumption | omega | (rw [w64_of] <;> omega))) | (with_reducible refine ok_nite (fun _ => ?_) (fun _ => ?_)) | (with_reducible refine ok_ite (fun _ => ?_) (fun _ => ?_)) | (with_reducible refine ok_not (fun _ => ?_) (fun _ => ?_)) | (with_reducible refine ok_cond (fun _ => ?_) (fun _ => ?_)) | with_reducible refine ok_bind (ok_idx (by (first | assumption | omega | (rw [w64_of] <;> omega))) (by (first | assumption | omega | (rw [w64_of] <;> omega)))) (fun _ _ => ?_) | (with_reducible refine ok_bind (Q := Yes) ?_ (fun _ _ => ?_)) | dsimp only)
theorem state_same_ok (a b) : Tot (state_same a b) := by
  unfold state_same
  repeat' (first | with_reducible exact ok_yes | with_reducible exact ok_inrY | with_reducible exact ok_inlY | (with_reducible refine ok_next ?_ ?_ ?_ <;> (first | assumption | omega | (rw [w64_of] <;> omega))) | (with_reducible refine ok_nite (fun _ => ?_) (fun _ => ?_)) | (with_reducible refine ok_ite (fun _ => ?_) (fun _ => ?_)) | (with_reducible refine ok_not (fun _ => ?_) (fun _ => ?_)) | (with_reducible refine ok_cond (fun _ => ?_) (fun _ => ?_)) | with_reducible refine ok_bind (ok_idx (by (first | assumption | omega | (rw [w64_of] <;> omega))) (by (first | assumption | omega | (rw [w64_of] <;> omega)))) (fun _ _ => ?_) | (with_reducible refine ok_bind (Q := Yes) ?_ (fun _ _ => ?_)) | dsimp only)
def Up (l : List api_Slice) (n : Int) : Prop := ∀ (j : Nat) y, (j : Int) < n → l[j]? = some y → -1 ≤ y.fParent ∧ y.fParent < (j : Int)
theorem slice_nested_ok (l : List api_Slice) (h : l.length ≤ 9223372036854775807) : Ok (slice_nested l) (fun b => b = true → Up l l.length) := by
  unfold slice_nested
  refine ok_bindS (Q := InlR (fun _ => Up l l.length) (fun b => b = false)) (ok_upI l.length (Up l) h (by intro j y hj; omega) (fun i hI h1 h2 => ?_)) (fun _ hq => ok_some (fun _ => hq)) (fun r hr => ok_some (fun e => ?_))
  · unfold slice_nested_L1
    refine ok_ite (fun hi => ?_) (fun hi => ok_inr (by have : i = l.length := by omega
                                                       subst this; exact hI))
    refine ok_bind (ok_idx h1 hi) (fun y hy => ?_)
    have no : InlR (fun _ : Unit => Up l l.length) (fun b => b = false) (.inr false) := rfl
    refine ok_bind (Q := fun v => v = false → -1 ≤ y.fParent ∧ y.fParent < i) ?_ (fun v hv => ?_)
    · refine ok_ite (fun _ => ok_some (by simp)) (fun h3 => ok_some (fun h4 => ?_))
      have := of_decide_eq_false h4
      omega
    refine ok_cond (fun _ => ok_inr no) (fun h0 => ?_)
    have hp := hv h0
    have nx : Up l (i + 1) := by
      intro j z hj hz
      by_cases e : (j : Int) = i
      · have : i.toNat = j := by omega
        rw [this] at hy
        rw [hy] at hz; cases hz
        omega
      · exact hI j z (by omega) hz
    refine ok_ite (fun _ => ?_) (fun hne => ?_)
    · refine ok_nite (fun _ => ok_inr no) (fun _ => ok_nextI nx h1 hi h)
    · refine ok_bind (ok_idx (by omega) (by omega)) (fun z _ => ?_)
      refine ok_bind (Q := Yes) (by repeat' (first | with_reducible exact ok_yes | with_reducible exact ok_inrY | with_reducible exact ok_inlY | (with_reducible refine ok_next ?_ ?_ ?_ <;> (first | assumption | omega | (rw [w64_of] <;> omega))) | (with_reducible refine ok_nite (fun _ => ?_) (fun _ => ?_)) | (with_reducible refine ok_ite (fun _ => ?_) (fun _ => ?_)) | (with_reducible refine ok_not (fun _ => ?_) (fun _ => ?_)) | (with_reducible refine ok_cond (fun _ => ?_) (fun _ => ?_)) | with_reducible refine ok_bind (ok_idx (by (first | assumption | omega | (rw [w64_of] <;> omega))) (by (first | assumption | omega | (rw [w64_of] <;> omega)))) (fun _ _ => ?_) | (with_reducible refine ok_bind (Q := Yes) ?_ (fun _ _ => ?_)) | dsimp only)) (fun v _ => ?_)
      refine ok_cond (fun _ => ok_inr no) (fun _ => ok_nextI nx h1 hi h)
  · have : r = false := hr
    simp [this] at e
theorem slice_under_ok (l : List api_Slice) (h : l.length ≤ 9223372036854775807) (hu : Up l l.length) (a b : Int) (hb : b < l.length) : Tot (slice_under l a b) := by
  unfold slice_under
  refine ok_bindS (Q := Yes) (ok_loop (fun i : Int => i < l.length) (fun i : Int => (i + 1).toNat) (fun i hi => ?_) hb (by simp [manyRounds]; omega)) (fun _ _ => ok_yes) (fun _ _ => ok_yes)
  unfold slice_under_L1
  refine ok_ite (fun h0 => ?_) (fun _ => ok_inrY)
  refine ok_ite (fun _ => ok_inrY) (fun _ => ?_)
  refine ok_bind (ok_idx h0 hi) (fun y hy => ?_)
  have := hu i.toNat y (by omega) hy
  exact ok_inl ⟨by omega, by omega⟩
theorem slice_apart_ok (l : List api_Slice) (h : l.length ≤ 9223372036854775807) (hu : Up l l.length) : Tot (slice_apart l) := by
  unfold slice_apart
  refine ok_bindS (Q := Yes) (ok_up l.length h fun i h1 h2 => ?_) (fun _ _ => ok_yes) (fun _ _ => ok_yes)
  unfold slice_apart_L2
  refine ok_ite (fun hi => ?_) (fun _ => ok_inrY)
  refine ok_bind (ok_idx h1 hi) (fun y hy => ?_)
  refine ok_bindS (Q := InlR Yes (InlR (fun _ => False) Yes)) (ok_up2 l.length (fun _ _ => True) h trivial (fun a j _ h3 h4 => ?_)) (fun _ _ => ?_) (fun r hr => ?_)
  · unfold slice_apart_L1
    dsimp only
    refine ok_ite (fun hj => ?_) (fun _ => ok_inr trivial)
    refine ok_bind (ok_idx h3 hj) (fun z hz => ?_)
    refine ok_bind (Q := Yes) (by repeat' (first | with_reducible exact ok_yes | with_reducible exact ok_inrY | with_reducible exact ok_inlY | (with_reducible refine ok_next ?_ ?_ ?_ <;> (first | assumption | omega | (rw [w64_of] <;> omega))) | (with_reducible refine ok_nite (fun _ => ?_) (fun _ => ?_)) | (with_reducible refine ok_ite (fun _ => ?_) (fun _ => ?_)) | (with_reducible refine ok_not (fun _ => ?_) (fun _ => ?_)) | (with_reducible refine ok_cond (fun _ => ?_) (fun _ => ?_)) | with_reducible refine ok_bind (ok_idx (by (first | assumption | omega | (rw [w64_of] <;> omega))) (by (first | assumption | omega | (rw [w64_of] <;> omega)))) (fun _ _ => ?_) | (with_reducible refine ok_bind (Q := Yes) ?_ (fun _ _ => ?_)) | dsimp only)) (fun v _ => ?_)
    refine ok_bind (Q := Yes) (by repeat' (first | with_reducible exact ok_yes | with_reducible exact ok_inrY | with_reducible exact ok_inlY | (with_reducible refine ok_next ?_ ?_ ?_ <;> (first | assumption | omega | (rw [w64_of] <;> omega))) | (with_reducible refine ok_nite (fun _ => ?_) (fun _ => ?_)) | (with_reducible refine ok_ite (fun _ => ?_) (fun _ => ?_)) | (with_reducible refine ok_not (fun _ => ?_) (fun _ => ?_)) | (with_reducible refine ok_cond (fun _ => ?_) (fun _ => ?_)) | with_reducible refine ok_bind (ok_idx (by (first | assumption | omega | (rw [w64_of] <;> omega))) (by (first | assumption | omega | (rw [w64_of] <;> omega)))) (fun _ _ => ?_) | (with_reducible refine Ok.yes (slice_under_ok l h hu _ _ hi) <;> (first | assumption | omega | (rw [w64_of] <;> omega))) | (with_reducible refine ok_bind (Q := Yes) ?_ (fun _ _ => ?_)) | dsimp only)) (fun v _ => ?_)
    refine ok_cond (fun _ => ok_inr trivial) (fun _ => ok_next2 (Inv := fun _ _ => True) trivial h3 hj h)
  · dsimp only
    repeat' (first | with_reducible exact ok_yes | with_reducible exact ok_inrY | with_reducible exact ok_inlY | (with_reducible refine ok_next ?_ ?_ ?_ <;> (first | assumption | omega | (rw [w64_of] <;> omega))) | (with_reducible refine ok_nite (fun _ => ?_) (fun _ => ?_)) | (with_reducible refine ok_ite (fun _ => ?_) (fun _ => ?_)) | (with_reducible refine ok_not (fun _ => ?_) (fun _ => ?_)) | (with_reducible refine ok_cond (fun _ => ?_) (fun _ => ?_)) | with_reducible refine ok_bind (ok_idx (by (first | assumption | omega | (rw [w64_of] <;> omega))) (by (first | assumption | omega | (rw [w64_of] <;> omega)))) (fun _ _ => ?_) | (with_reducible refine ok_bind (Q := Yes) ?_ (fun _ _ => ?_)) | dsimp only)
  · rcases r with r | r
    · exact (hr : False).elim
    · exact ok_inrY
theorem slice_Check_ok (l : List api_Slice) (h : l.length ≤ 9223372036854775807) (hx : ∀ x ∈ l, okN x.fName) : Tot (slice_Check l) := by
  unfold slice_Check
  refine ok_bindS (Q := Yes) (ok_up l.length h fun i h1 h2 => ?_) (fun _ _ => ?_) (fun _ _ => ok_yes)
  · unfold slice_Check_L1
    repeat' (first | with_reducible exact ok_yes | with_reducible exact ok_inrY | with_reducible exact ok_inlY | (with_reducible refine ok_next ?_ ?_ ?_ <;> (first | assumption | omega | (rw [w64_of] <;> omega))) | (with_reducible refine ok_nite (fun _ => ?_) (fun _ => ?_)) | (with_reducible refine ok_ite (fun _ => ?_) (fun _ => ?_)) | (with_reducible refine ok_not (fun _ => ?_) (fun _ => ?_)) | (with_reducible refine ok_cond (fun _ => ?_) (fun _ => ?_)) | with_reducible refine ok_bind (ok_idx (by (first | assumption | omega | (rw [w64_of] <;> omega))) (by (first | assumption | omega | (rw [w64_of] <;> omega)))) (fun _ _ => ?_) | (with_reducible refine Ok.yes (slice_compare_ok _ _) <;> (first | assumption | omega | (rw [w64_of] <;> omega))) | (with_reducible refine Ok.yes (spans_Valid_ok _) <;> (first | assumption | omega | (rw [w64_of] <;> omega))) | (with_reducible refine Ok.yes (intern_Name_ok _ (hx _ (List.mem_of_getElem? (by assumption)))) <;> (first | assumption | omega | (rw [w64_of] <;> omega))) | (with_reducible refine ok_bind (Q := Yes) ?_ (fun _ _ => ?_)) | dsimp only)
  · dsimp only
    refine ok_bind (Q := Yes) ?_ (fun _ _ => by repeat' (first | with_reducible exact ok_yes | with_reducible exact ok_inrY | with_reducible exact ok_inlY | (with_reducible refine ok_next ?_ ?_ ?_ <;> (first | assumption | omega | (rw [w64_of] <;> omega))) | (with_reducible refine ok_nite (fun _ => ?_) (fun _ => ?_)) | (with_reducible refine ok_ite (fun _ => ?_) (fun _ => ?_)) | (with_reducible refine ok_not (fun _ => ?_) (fun _ => ?_)) | (with_reducible refine ok_cond (fun _ => ?_) (fun _ => ?_)) | with_reducible refine ok_bind (ok_idx (by (first | assumption | omega | (rw [w64_of] <;> omega))) (by (first | assumption | omega | (rw [w64_of] <;> omega)))) (fun _ _ => ?_) | (with_reducible refine ok_bind (Q := Yes) ?_ (fun _ _ => ?_)) | dsimp only))
    refine ok_bind (slice_nested_ok l h) (fun b hb => ?_)
    refine ok_not (fun _ => ok_yes) (fun e => ?_)
    repeat' (first | with_reducible exact ok_yes | with_reducible exact ok_inrY | with_reducible exact ok_inlY | (with_reducible refine ok_next ?_ ?_ ?_ <;> (first | assumption | omega | (rw [w64_of] <;> omega))) | (with_reducible refine ok_nite (fun _ => ?_) (fun _ => ?_)) | (with_reducible refine ok_ite (fun _ => ?_) (fun _ => ?_)) | (with_reducible refine ok_not (fun _ => ?_) (fun _ => ?_)) | (with_reducible refine ok_cond (fun _ => ?_) (fun _ => ?_)) | with_reducible refine ok_bind (ok_idx (by (first | assumption | omega | (rw [w64_of] <;> omega))) (by (first | assumption | omega | (rw [w64_of] <;> omega)))) (fun _ _ => ?_) | (with_reducible refine Ok.yes (slice_apart_ok l h (hb e)) <;> (first | assumption | omega | (rw [w64_of] <;> omega))) | (with_reducible refine ok_bind (Q := Yes) ?_ (fun _ _ => ?_)) | dsimp only)
theorem memory_Check_ok (l : List api_Block) (h : l.length ≤ 9223372036854775807) (hx : ∀ x ∈ l, x.fStack.length ≤ 9223372036854775807 ∧ ∀ y ∈ x.fStack, okN y) : Tot (memory_Check l) := by
  unfold memory_Check
  refine ok_bindS (Q := Yes) (ok_up l.length h fun i h1 h2 => ?_) (fun _ _ => ok_yes) (fun _ _ => ok_yes)
  unfold memory_Check_L2
  refine ok_ite (fun hi => ?_) (fun _ => ok_inrY)
  refine ok_bind (ok_idx h1 hi) (fun y hy => ?_)
  refine ok_bind (Q := Yes) (by repeat' (first | with_reducible exact ok_yes | with_reducible exact ok_inrY | with_reducible exact ok_inlY | (with_reducible refine ok_next ?_ ?_ ?_ <;> (first | assumption | omega | (rw [w64_of] <;> omega))) | (with_reducible refine ok_nite (fun _ => ?_) (fun _ => ?_)) | (with_reducible refine ok_ite (fun _ => ?_) (fun _ => ?_)) | (with_reducible refine ok_not (fun _ => ?_) (fun _ => ?_)) | (with_reducible refine ok_cond (fun _ => ?_) (fun _ => ?_)) | with_reducible refine ok_bind (ok_idx (by (first | assumption | omega | (rw [w64_of] <;> omega))) (by (first | assumption | omega | (rw [w64_of] <;> omega)))) (fun _ _ => ?_) | (with_reducible refine Ok.yes (spans_Valid_ok _) <;> (first | assumption | omega | (rw [w64_of] <;> omega))) | (with_reducible refine ok_bind (Q := Yes) ?_ (fun _ _ => ?_)) | dsimp only)) (fun v _ => ?_)
  refine ok_cond (fun _ => ok_inrY) (fun _ => ?_)
  refine ok_bind (Q := Yes) (intern_Frames_ok _ (hx _ (List.mem_of_getElem? hy)).1 (hx _ (List.mem_of_getElem? hy)).2) (fun v _ => ?_)
  refine ok_nite (fun _ => ok_inrY) (fun _ => ?_)
  refine ok_bind (Q := Yes) (by repeat' (first | with_reducible exact ok_yes | with_reducible exact ok_inrY | with_reducible exact ok_inlY | (with_reducible refine ok_next ?_ ?_ ?_ <;> (first | assumption | omega | (rw [w64_of] <;> omega))) | (with_reducible refine ok_nite (fun _ => ?_) (fun _ => ?_)) | (with_reducible refine ok_ite (fun _ => ?_) (fun _ => ?_)) | (with_reducible refine ok_not (fun _ => ?_) (fun _ => ?_)) | (with_reducible refine ok_cond (fun _ => ?_) (fun _ => ?_)) | with_reducible refine ok_bind (ok_idx (by (first | assumption | omega | (rw [w64_of] <;> omega))) (by (first | assumption | omega | (rw [w64_of] <;> omega)))) (fun _ _ => ?_) | (with_reducible refine ok_bind (Q := Yes) ?_ (fun _ _ => ?_)) | dsimp only)) (fun v _ => ?_)
  refine ok_cond (fun _ => ok_inrY) (fun _ => ?_)
  refine ok_bind (Q := fun ys => ys.length ≤ 9223372036854775807) ?_ (fun ys hys => ?_)
  · unfold slcPart
    rw [if_pos ⟨by omega, by omega, by omega⟩]
    exact ok_some (by simp; omega)
  refine ok_bindS (Q := InlR Yes (InlR (fun _ => False) Yes)) (ok_up ys.length hys fun j h3 h4 => ?_) (fun _ _ => ok_next h1 hi h) (fun r hr => ?_)
  · unfold memory_Check_L1
    refine ok_ite (fun hj => ?_) (fun _ => ok_inr trivial)
    refine ok_bind (ok_idx h3 hj) (fun z hz => ?_)
    refine ok_bind (Q := Yes) (by repeat' (first | with_reducible exact ok_yes | with_reducible exact ok_inrY | with_reducible exact ok_inlY | (with_reducible refine ok_next ?_ ?_ ?_ <;> (first | assumption | omega | (rw [w64_of] <;> omega))) | (with_reducible refine ok_nite (fun _ => ?_) (fun _ => ?_)) | (with_reducible refine ok_ite (fun _ => ?_) (fun _ => ?_)) | (with_reducible refine ok_not (fun _ => ?_) (fun _ => ?_)) | (with_reducible refine ok_cond (fun _ => ?_) (fun _ => ?_)) | with_reducible refine ok_bind (ok_idx (by (first | assumption | omega | (rw [w64_of] <;> omega))) (by (first | assumption | omega | (rw [w64_of] <;> omega)))) (fun _ _ => ?_) | (with_reducible refine ok_bind (Q := Yes) ?_ (fun _ _ => ?_)) | dsimp only)) (fun v _ => ?_)
    refine ok_cond (fun _ => ok_inr trivial) (fun _ => ok_next h3 hj hys)
  · rcases r with r | r
    · exact (hr : False).elim
    · exact ok_inrY
theorem slices_Index_int_int_lt (l : List Int) (a : Int) (h : l.length ≤ 9223372036854775807) : Ok (slices_Index_int_int l a) (fun r => (0 ≤ r → l[r.toNat]? = some a) ∧ r < l.length) := by
  unfold slices_Index_int_int
  refine ok_bindS (Q := InlR Yes (fun r : Int => (0 ≤ r → l[r.toNat]? = some a) ∧ r < l.length)) (ok_up l.length h fun i h1 h2 => ?_) (fun _ _ => ok_some (And.intro (by omega) (by omega))) (fun _ hr => ?_)
  rotate_left
  · exact ok_some hr
  unfold slices_Index_int_int_L1
  refine ok_ite (fun hi => ?_) (fun _ => ok_inr trivial)
  refine ok_bind (ok_idx h1 hi) (fun y hy => ?_)
  exact ok_ite (fun e => ok_inr ⟨fun _ => by rw [hy, e], hi⟩) (fun _ => ok_next h1 hi h)
theorem state_distinct_ok (l : List api_Thread) (h : l.length ≤ 1000000) : Ok (state_distinct l) (fun r => r.length ≤ l.length) := by
  unfold state_distinct
  refine ok_bind (Q := fun r => r.length ≤ l.length) (ok_up2 l.length (fun a i => (a.length : Int) ≤ i) (by omega) (by simp) (fun a i hI h1 h2 => ?_)) (fun r hr => ok_some hr)
  unfold state_distinct_L1
  dsimp only
  refine ok_ite (fun hi => ?_) (fun _ => ok_inr (by omega))
  refine ok_bind (Q := fun r : List Int => (r.length : Int) ≤ i + 1) ?_ (fun r hr => ok_next2 (Inv := fun (a : List Int) i => (a.length : Int) ≤ i) hr h1 hi (by omega))
  refine ok_bind (ok_idx h1 hi) (fun y hy => ?_)
  refine ok_bind (slices_Contains_int_int_ok a y.fId (by omega)) (fun v _ => ?_)
  refine ok_not (fun _ => ?_) (fun _ => ok_some (by omega))
  rw [room_ok (by simp; omega) (by simp; omega)]
  exact ok_some (by simp; omega)
def Disj (l : List api_State) (n : Int) : Prop := ∀ (j k : Nat) s s', j < k → (k : Int) < n → l[j]? = some s → l[k]? = some s' → s.fThread = s'.fThread → s.fSpan.fTo ≤ s'.fSpan.fFrom
def Vald (l : List api_State) (n : Int) : Prop := ∀ (j : Nat) s, (j : Int) < n → l[j]? = some s → 0 ≤ s.fSpan.fFrom ∧ s.fSpan.fFrom < s.fSpan.fTo ∧ s.fSpan.fTo ≤ 1000000000000
def Gd (l : List api_State) : Prop := Disj l l.length ∧ Vald l l.length
structure Tab (l : List api_State) (ix : List Int) (r i : Int) : Prop where
  le : ∀ (j : Nat) s, (j : Int) < i → l[j]? = some s → ∃ x, slices_Index_int_int ix s.fThread = some x ∧ x ≤ r
  last : ∀ s, 0 < i → l[(i - 1).toNat]? = some s → slices_Index_int_int ix s.fThread = some r
  pos : 0 ≤ r → 0 < i
  neg : i = 0 → r = -1
  rng : -1 ≤ r ∧ r < ix.length
  v : Vald l i
  d : Disj l i
theorem rows_next {l : List api_State} {ix : List Int} {r r' i : Int} {y : api_State} (hix : ix.length ≤ 9223372036854775807) (H : Tab l ix r i) (h1 : 0 ≤ i) (hy : l[i.toNat]? = some y) (hr : slices_Index_int_int ix y.fThread = some r') (h0 : 0 ≤ r') (hv : 0 ≤ y.fSpan.fFrom ∧ y.fSpan.fFrom < y.fSpan.fTo ∧ y.fSpan.fTo ≤ 1000000000000)
    (hs : r' = r → ∀ s, l[(i - 1).toNat]? = some s → y.fSpan.fFrom = s.fSpan.fTo) (hn : r' ≠ r → r' = r + 1) : Tab l ix r' (i + 1) := by
  have hle : r ≤ r' := by
    by_cases e : r' = r
    · omega
    · have := hn e; omega
  refine ⟨fun j s hj hs' => ?_, fun s _ hs' => ?_, fun _ => by omega, fun _ => by omega, ⟨by omega, ((slices_Index_int_int_lt ix _ hix).of_eq hr).2⟩, fun j s hj hs' => ?_, fun j k s s' hjk hk hj' hk' ht => ?_⟩
  · by_cases e : (j : Int) = i
    · have : i.toNat = j := by omega
      rw [this, hs'] at hy; cases hy
      exact ⟨r', hr, by omega⟩
    · obtain ⟨x, h2, h3⟩ := H.le j s (by omega) hs'
      exact ⟨x, h2, by omega⟩
  · rw [show i + 1 - 1 = i by omega, hy] at hs'; cases hs'
    exact hr
  · by_cases e : (j : Int) = i
    · have : i.toNat = j := by omega
      rw [this, hs'] at hy; cases hy
      exact hv
    · exact H.v j s (by omega) hs'
  · by_cases e : (k : Int) = i
    · have : i.toNat = k := by omega
      rw [this, hk'] at hy; cases hy
      obtain ⟨x, h2, h3⟩ := H.le j s (by omega) hj'
      rw [ht, hr] at h2; cases h2
      by_cases e' : r' = r
      · obtain ⟨u, hu⟩ : ∃ u, l[(i - 1).toNat]? = some u := by
          have := lt_of_get hk'
          exact ⟨_, List.getElem?_eq_getElem (by omega)⟩
        have h5 := hs e' u hu
        by_cases e2 : j = (i - 1).toNat
        · subst e2; rw [hj'] at hu; cases hu; omega
        · have hlu := H.last u (by omega) hu
          have hh : s.fThread = u.fThread → s.fSpan.fTo ≤ u.fSpan.fFrom := H.d j (i - 1).toNat s u (by omega) (by omega) hj' hu
          have hvu := H.v (i - 1).toNat u (by omega) hu
          have a1 := (slices_Index_int_int_lt ix _ hix).of_eq hlu |>.1 (by omega)
          have a2 := (slices_Index_int_int_lt ix _ hix).of_eq hr |>.1 h0
          rw [e', a1] at a2
          injection a2 with a2
          have := hh (by rw [ht, ← a2])
          omega
      · have := hn e'; omega
    · exact H.d j k s s' hjk (by omega) hj' hk' ht
theorem spans_Valid_val (s : api_Span) : Ok (spans_Valid s) (fun b => b = true → 0 ≤ s.fFrom ∧ s.fFrom < s.fTo ∧ s.fTo ≤ 1000000000000) := by
  rw [spans_Valid_eq]
  exact ok_some (fun h => of_decide_eq_true h)
theorem state_Check_ok (ths : List api_Thread) (l : List api_State) (ht : ths.length ≤ 1000000) (h : l.length ≤ 9223372036854775807) : Ok (state_Check ths l) (fun r => r = 0 → Gd l) := by
  unfold state_Check
  refine ok_bind (state_distinct_ok ths ht) (fun ix hix => ?_)
  have hix' : ix.length ≤ 9223372036854775807 := by omega
  refine ok_bindS (Q := InlR (fun _ => Gd l) (fun r => r ≠ 0)) (ok_up2 l.length (fun r i => Tab l ix r i) h ⟨by intro j s hj; omega, by intro s hj; omega, by omega, by simp, ⟨by omega, by omega⟩, by intro j s hj; omega, by intro j k s s' _ hj; omega⟩ (fun r i hI h1 h2 => ?_)) (fun r hd => ?_) (fun r hr => ?_)
  · unfold state_Check_L2
    dsimp only
    have no : ∀ n : Int, n ≠ 0 → InlR (fun _ : Int => Gd l) (fun r => r ≠ 0) (.inr n) := fun n h => h
    refine ok_ite (fun hi => ?_) (fun hi => ok_inr (by have e : i = l.length := by omega
                                                       have g1 := hI.d
                                                       have g2 := hI.v
                                                       rw [e] at g1 g2; exact ⟨g1, g2⟩))
    refine ok_bind (ok_idx h1 hi) (fun y hy => ?_)
    refine ok_bindE (slices_Index_int_int_ok ix y.fThread hix') (fun x hx => ?_)
    refine ok_ite (fun _ => ok_inr (no _ (by simp))) (fun h0 => ?_)
    refine ok_bind (spans_Valid_val y.fSpan) (fun v hv => ?_)
    refine ok_not (fun _ => ok_inr (no _ (by simp))) (fun ev => ?_)
    refine ok_bind (state_fields_ok y) (fun _ _ => ?_)
    refine ok_not (fun _ => ok_inr (no _ (by simp))) (fun _ => ?_)
    refine ok_bind (Q := fun v => v = false → x = r → ∀ s, l[(i - 1).toNat]? = some s → y.fSpan.fFrom = s.fSpan.fTo) ?_ (fun v1 hv1 => ?_)
    · refine ok_ite (fun e => ?_) (fun e => ok_some (fun _ e' => absurd e' e))
      have hpos := hI.pos (by omega)
      rw [show w64 (i - 1) = i - 1 from w64_of (by omega)]
      refine ok_bind (ok_idx (by omega) (by omega)) (fun z hz => ?_)
      refine ok_nite (fun _ => ok_some (by simp)) (fun e2 => ?_)
      refine ok_bind (Q := Yes) ⟨z, hz ▸ by simp [idx, hz]; omega, trivial⟩ (fun w _ => ?_)
      refine (ok_bind (Q := Yes) (state_same_ok _ _) (fun b _ => ok_some (P := fun v => v = false → x = r → ∀ s, l[(i - 1).toNat]? = some s → y.fSpan.fFrom = s.fSpan.fTo) (fun _ _ s hs => ?_)))
      rw [hz] at hs; cases hs; exact e2
    refine ok_cond (fun _ => ok_inr (no _ (by simp))) (fun e1 => ?_)
    refine ok_bind (Q := fun v => v = false → x ≠ r → x = r + 1) ?_ (fun v2 hv2 => ?_)
    · refine ok_nite (fun e => ?_) (fun e => ok_some (fun _ e' => absurd e e'))
      have hb := hI.rng
      rw [w64_of (n := r + 1) (by omega)]
      refine ok_nite (fun _ => ok_some (by simp)) (fun e3 => ok_some (fun _ _ => e3))
    refine ok_cond (fun _ => ok_inr (no _ (by simp))) (fun e2 => ?_)
    exact ok_next2 (Inv := fun r i => Tab l ix r i) (rows_next hix' hI h1 hy hx (by omega) (hv ev) (hv1 e1) (hv2 e2)) h1 hi h
  · dsimp only
    refine ok_ite (fun _ => ok_some (fun _ => hd)) (fun hne => ?_)
    rw [show w64 ((l.length : Int) - 1) = (l.length : Int) - 1 from w64_of (by omega)]
    refine ok_bind (ok_idx (by omega) (by omega)) (fun y _ => ?_)
    refine ok_bindS (Q := Yes) (ok_up l.length h fun j h3 h4 => ?_) (fun _ _ => ?_) (fun r hr => ok_some (fun _ => hd))
    · unfold state_Check_L1
      refine ok_ite (fun hj => ?_) (fun _ => ok_inrY)
      refine ok_bind (ok_idx h3 hj) (fun z hz => ?_)
      have e : w64 (j + 1) = j + 1 := w64_of (by omega)
      rw [e]
      refine ok_bind (Q := Yes) ?_ (fun v _ => ?_)
      · refine ok_ite (fun _ => ok_yes) (fun hne => ?_)
        exact ok_bind (ok_idx (by omega) (by omega)) (fun _ _ => ok_yes)
      · refine ok_bind (Q := Yes) (by repeat' (first | with_reducible exact ok_yes | with_reducible exact ok_inrY | with_reducible exact ok_inlY | (with_reducible refine ok_next ?_ ?_ ?_ <;> (first | assumption | omega | (rw [w64_of] <;> omega))) | (with_reducible refine ok_nite (fun _ => ?_) (fun _ => ?_)) | (with_reducible refine ok_ite (fun _ => ?_) (fun _ => ?_)) | (with_reducible refine ok_not (fun _ => ?_) (fun _ => ?_)) | (with_reducible refine ok_cond (fun _ => ?_) (fun _ => ?_)) | with_reducible refine ok_bind (ok_idx (by (first | assumption | omega | (rw [w64_of] <;> omega))) (by (first | assumption | omega | (rw [w64_of] <;> omega)))) (fun _ _ => ?_) | (with_reducible refine ok_bind (Q := Yes) ?_ (fun _ _ => ?_)) | dsimp only)) (fun v _ => ?_)
        exact ok_cond (fun _ => ok_inrY) (fun _ => ok_inl ⟨hj, rfl⟩)
    · exact ok_nite (fun _ => ok_some (fun _ => hd)) (fun _ => ok_some (fun _ => hd))
  · exact ok_some (fun e => absurd e hr)
theorem trace_tables_ok (t : api_Trace) (h : Siz t) (ht : t.fThreads.length ≤ 1000000) : Ok (trace_tables t) (fun r => r = 0 → Gd t.fStates) := by
  unfold trace_tables
  refine ok_bindS (trace_threads_ok t h.th h.nTh) (fun r hr => ?_) (fun r _ => ?_)
  · exact ok_nite (fun h0 => ok_some (fun e => absurd e h0)) (fun h0 => absurd h0 hr)
  · dsimp only
    refine ok_nite (fun h0 => ok_some (fun e => absurd e h0)) (fun _ => ?_)
    refine ok_bind (slice_Check_ok _ h.sl h.nSl) (fun r4 _ => ?_)
    refine ok_bind (trace_known_api_Slice_k1_ok _ _ _ h.sl) (fun r5 _ => ?_)
    refine ok_nite (fun h0 => ok_some (fun e => absurd e h0)) (fun _ => ?_)
    refine ok_bind (state_Check_ok _ _ ht h.st) (fun r6 h6 => ?_)
    refine ok_nite (fun h0 => ok_some (fun e => absurd e h0)) (fun e6 => ?_)
    have hd := h6 e6
    refine ok_bind (flow_Check_ok _ h.fl) (fun r7 _ => ?_)
    refine ok_bind (trace_known_api_Flow_k1_ok _ _ _ h.fl) (fun r8 _ => ?_)
    refine ok_bind (trace_known_api_Flow_k2_ok _ _ _ h.fl) (fun r9 _ => ?_)
    refine ok_nite (fun h0 => ok_some (fun e => absurd e h0)) (fun _ => ?_)
    refine ok_bind (sample_Check_ok _ h.sa h.nSa) (fun r10 _ => ?_)
    refine ok_bind (trace_known_api_Sample_k1_ok _ _ _ h.sa) (fun r11 _ => ?_)
    refine ok_nite (fun h0 => ok_some (fun e => absurd e h0)) (fun _ => ?_)
    refine ok_bind (counter_Check_ok _ h.sp h.nSp) (fun r12 _ => ?_)
    refine ok_nite (fun h0 => ok_some (fun e => absurd e h0)) (fun _ => ?_)
    refine ok_bind (memory_Check_ok _ h.bl h.nBl) (fun r13 _ => ?_)
    refine ok_bind (trace_known_api_Block_k1_ok _ _ _ h.bl) (fun r14 _ => ?_)
    refine ok_nite (fun h0 => ok_some (fun e => absurd e h0)) (fun _ => ?_)
    refine ok_bind (trace_losses_k1_ok _ _ h.lo) (fun r15 _ => ?_)
    exact ok_some (fun _ => hd)
theorem trace_Check_ok (t : api_Trace) (h : Siz t) (ht : t.fThreads.length ≤ 1000000) : Ok (trace_Check t) (fun r => r = 0 → Gd t.fStates) := by
  unfold trace_Check
  refine ok_bind (trace_tables_ok t h ht) (fun r hr => ?_)
  refine ok_nite (fun h0 => ok_some (fun e => absurd e h0)) (fun e => ?_)
  have hd := hr e
  refine ok_bind (Q := Yes) (by repeat' (first | with_reducible exact ok_yes | with_reducible exact ok_inrY | with_reducible exact ok_inlY | (with_reducible refine ok_next ?_ ?_ ?_ <;> (first | assumption | omega | (rw [w64_of] <;> omega))) | (with_reducible refine ok_nite (fun _ => ?_) (fun _ => ?_)) | (with_reducible refine ok_ite (fun _ => ?_) (fun _ => ?_)) | (with_reducible refine ok_not (fun _ => ?_) (fun _ => ?_)) | (with_reducible refine ok_cond (fun _ => ?_) (fun _ => ?_)) | with_reducible refine ok_bind (ok_idx (by (first | assumption | omega | (rw [w64_of] <;> omega))) (by (first | assumption | omega | (rw [w64_of] <;> omega)))) (fun _ _ => ?_) | (with_reducible refine ok_bind (Q := Yes) ?_ (fun _ _ => ?_)) | dsimp only)) (fun v _ => ?_)
  refine ok_cond (fun _ => ok_some (fun _ => hd)) (fun _ => ?_)
  refine ok_bind (trace_outside_ok t h) (fun v _ => ?_)
  exact ok_cond (fun _ => ok_some (fun _ => hd)) (fun _ => ok_some (fun _ => hd))
end Go.VM
namespace Go.VM
theorem ok_up2M {σ ρ : Type} {step : σ × Int → Option ((σ × Int) ⊕ ρ)} (n : Nat) (Inv : σ → Nat → Prop) {Post : ρ → Prop} (hn : n ≤ 9223372036854775807) {s0 : σ} (h0 : Inv s0 0)
    (h : ∀ (s : σ) (i : Nat), Inv s i → i ≤ n → Ok (step (s, (i : Int))) (InlR (fun a => i < n ∧ a.2 = ((i + 1 : Nat) : Int) ∧ Inv a.1 (i + 1)) Post)) : Ok (loop step (s0, 0)) Post := by
  refine ok_up2 n (fun s i => Inv s i.toNat) hn h0 (fun s i hI h1 h2 => ?_)
  obtain ⟨k, rfl⟩ := Int.eq_ofNat_of_zero_le h1
  refine (h s k hI (by omega)).mono ?_
  rintro (⟨a, b⟩ | b) hr
  · obtain ⟨h3, h4, h5⟩ : k < n ∧ b = ((k + 1 : Nat) : Int) ∧ Inv a (k + 1) := hr
    refine ⟨by omega, by omega, ?_⟩
    rw [show ((k : Int) + 1).toNat = k + 1 by omega]; exact h5
  · exact hr
theorem ok_upM {ρ : Type} {step : Int → Option (Int ⊕ ρ)} (n : Nat) (Inv : Nat → Prop) {Post : ρ → Prop} (hn : n ≤ 9223372036854775807) (h0 : Inv 0)
    (h : ∀ i : Nat, Inv i → i ≤ n → Ok (step (i : Int)) (InlR (fun a => i < n ∧ a = ((i + 1 : Nat) : Int) ∧ Inv (i + 1)) Post)) : Ok (loop step 0) Post := by
  refine ok_upI n (fun i => Inv i.toNat) hn h0 (fun i hI h1 h2 => ?_)
  obtain ⟨k, rfl⟩ := Int.eq_ofNat_of_zero_le h1
  refine (h k hI (by omega)).mono ?_
  rintro (b | b) hr
  · obtain ⟨h3, h4, h5⟩ : k < n ∧ b = ((k + 1 : Nat) : Int) ∧ Inv (k + 1) := hr
    refine ⟨by omega, by omega, ?_⟩
    rw [show ((k : Int) + 1).toNat = k + 1 by omega]; exact h5
  · exact hr
theorem ok_ixM {α : Type} {xs : List α} {i : Nat} (h : i < xs.length) : Ok (idx xs (i : Int)) (fun y => xs[i]? = some y) := by
  rw [idx_nat]; exact ⟨xs[i], by simp [h], by simp [h]⟩
theorem w64_M {i n : Nat} (h : i < n) (hn : n ≤ 9223372036854775807) : w64 ((i : Int) + 1) = ((i + 1 : Nat) : Int) := by rw [w64_of (by omega)]; omega
def SpV (l : List api_Slice) : Prop := ∀ s ∈ l, 0 ≤ s.fSpan.fFrom ∧ s.fSpan.fFrom < s.fSpan.fTo ∧ s.fSpan.fTo ≤ 1000000000000
theorem slice_Check_v (l : List api_Slice) (h : l.length ≤ 9223372036854775807) (hx : ∀ x ∈ l, okN x.fName) : Ok (slice_Check l) (fun r => r = 0 → SpV l) := by
  unfold slice_Check
  refine ok_bindS (Q := InlR (fun _ => SpV l) (fun r => r ≠ 0)) (ok_upM l.length (fun n => ∀ (k : Nat) s, k < n → l[k]? = some s → 0 ≤ s.fSpan.fFrom ∧ s.fSpan.fFrom < s.fSpan.fTo ∧ s.fSpan.fTo ≤ 1000000000000) h (by intro k s hk; omega) (fun i hI h2 => ?_)) (fun _ hq => ?_) (fun r hr => ok_some (fun e => absurd e hr))
  · unfold slice_Check_L1
    refine ok_ite (fun hi => ?_) (fun hi => ok_inr (fun s hs => ?_))
    · refine ok_bind (ok_ixM (by omega)) (fun y hy => ?_)
      refine ok_bind (Q := fun v => v = false → 0 ≤ y.fSpan.fFrom ∧ y.fSpan.fFrom < y.fSpan.fTo ∧ y.fSpan.fTo ≤ 1000000000000) ?_ (fun v hv => ?_)
      · refine ok_ite (fun _ => ok_some (by simp)) (fun _ => ?_)
        refine ok_ite (fun _ => ok_some (by simp)) (fun _ => ?_)
        refine ok_bind (spans_Valid_val y.fSpan) (fun b hb => ok_some (fun e => hb (by simpa using e)))
      refine ok_cond (fun _ => ok_inr (show (2 : Int) ≠ 0 by omega)) (fun e => ?_)
      refine ok_bind (intern_Name_ok _ (hx _ (List.mem_of_getElem? hy))) (fun r _ => ?_)
      refine ok_nite (fun h0 => ok_inr h0) (fun _ => ?_)
      refine ok_bind (Q := Yes) ?_ (fun v2 _ => ?_)
      · refine ok_ite (fun h0 => ?_) (fun _ => ok_yes)
        rw [show w64 ((i : Int) - 1) = (i : Int) - 1 from w64_of (by omega)]
        refine ok_bind (ok_idx (by omega) (by omega)) (fun z _ => ?_)
        exact ok_bind (slice_compare_ok _ _) (fun _ _ => ok_yes)
      refine ok_cond (fun _ => ok_inr (show (11 : Int) ≠ 0 by omega)) (fun _ => ?_)
      rw [w64_M (n := l.length) (by omega) h]
      refine ok_inl ⟨by omega, rfl, fun k s hk hs => ?_⟩
      by_cases e2 : k = i
      · subst e2; rw [hy] at hs; cases hs; exact hv e
      · exact hI k s (by omega) hs
    · obtain ⟨k, hk⟩ := List.getElem?_of_mem hs
      exact hI k s (by have := lt_of_get hk; omega) hk
  · have hq' : SpV l := hq
    dsimp only
    refine ok_bind (Q := Yes) ?_ (fun v _ => ok_cond (fun _ => ok_some (fun e => by simp at e)) (fun _ => ok_some (fun _ => hq')))
    refine ok_bind (slice_nested_ok l h) (fun b hb => ?_)
    refine ok_not (fun _ => ok_yes) (fun e => ?_)
    exact ok_bind (slice_apart_ok l h (hb e)) (fun _ _ => ok_yes)
theorem trace_Check_v (t : api_Trace) (hz : Siz t) (ht : t.fThreads.length ≤ 1000000) : Ok (trace_Check t) (fun r => r = 0 → SpV t.fSlices) := by
  unfold trace_Check
  refine ok_bind (Q := fun r => r = 0 → SpV t.fSlices) ?_ (fun r hr => ?_)
  · unfold trace_tables
    refine ok_bindS (trace_threads_ok t hz.th hz.nTh) (fun r hr => ?_) (fun r _ => ?_)
    · exact ok_nite (fun h0 => ok_some (fun e => absurd e h0)) (fun h0 => absurd h0 hr)
    · dsimp only
      refine ok_nite (fun h0 => ok_some (fun e => absurd e h0)) (fun _ => ?_)
      refine ok_bind (slice_Check_v _ hz.sl hz.nSl) (fun r4 h4 => ?_)
      by_cases h40 : r4 = 0
      · have hd := h4 h40
        refine ok_bind (trace_known_api_Slice_k1_ok _ _ _ hz.sl) (fun r5 _ => ?_)
        refine ok_nite (fun h0 => ok_some (fun e => absurd e h0)) (fun _ => ?_)
        refine ok_bind (state_Check_ok _ _ ht hz.st) (fun r6 h6 => ?_)
        refine ok_nite (fun h0 => ok_some (fun e => absurd e h0)) (fun e6 => ?_)
        refine ok_bind (flow_Check_ok _ hz.fl) (fun r7 _ => ?_)
        refine ok_bind (trace_known_api_Flow_k1_ok _ _ _ hz.fl) (fun r8 _ => ?_)
        refine ok_bind (trace_known_api_Flow_k2_ok _ _ _ hz.fl) (fun r9 _ => ?_)
        refine ok_nite (fun h0 => ok_some (fun e => absurd e h0)) (fun _ => ?_)
        refine ok_bind (sample_Check_ok _ hz.sa hz.nSa) (fun r10 _ => ?_)
        refine ok_bind (trace_known_api_Sample_k1_ok _ _ _ hz.sa) (fun r11 _ => ?_)
        refine ok_nite (fun h0 => ok_some (fun e => absurd e h0)) (fun _ => ?_)
        refine ok_bind (counter_Check_ok _ hz.sp hz.nSp) (fun r12 _ => ?_)
        refine ok_nite (fun h0 => ok_some (fun e => absurd e h0)) (fun _ => ?_)
        refine ok_bind (memory_Check_ok _ hz.bl hz.nBl) (fun r13 _ => ?_)
        refine ok_bind (trace_known_api_Block_k1_ok _ _ _ hz.bl) (fun r14 _ => ?_)
        refine ok_nite (fun h0 => ok_some (fun e => absurd e h0)) (fun _ => ?_)
        refine ok_bind (trace_losses_k1_ok _ _ hz.lo) (fun r15 _ => ?_)
        exact ok_some (fun _ => hd)
      · have : Ok (trace_known_api_Slice_k1 r4 r.1 t.fSlices) (fun q => q = r4) := by
          unfold trace_known_api_Slice_k1
          exact ok_nite (fun _ => ok_some rfl) (fun e => absurd e h40)
        refine ok_bind this (fun r5 h5 => ?_)
        subst h5
        exact ok_nite (fun h0 => ok_some (fun e => absurd e h0)) (fun e => absurd e h40)
  · refine ok_nite (fun h0 => ok_some (fun e => absurd e h0)) (fun e => ?_)
    have hd := hr e
    refine ok_bind (Q := Yes) (by repeat' (first | with_reducible exact ok_yes | with_reducible exact ok_inrY | with_reducible exact ok_inlY | (with_reducible refine ok_next ?_ ?_ ?_ <;> (first | assumption | omega | (rw [w64_of] <;> omega))) | (with_reducible refine ok_nite (fun _ => ?_) (fun _ => ?_)) | (with_reducible refine ok_ite (fun _ => ?_) (fun _ => ?_)) | (with_reducible refine ok_not (fun _ => ?_) (fun _ => ?_)) | (with_reducible refine ok_cond (fun _ => ?_) (fun _ => ?_)) | with_reducible refine ok_bind (ok_idx (by (first | assumption | omega | (rw [w64_of] <;> omega))) (by (first | assumption | omega | (rw [w64_of] <;> omega)))) (fun _ _ => ?_) | (with_reducible refine ok_bind (Q := Yes) ?_ (fun _ _ => ?_)) | dsimp only)) (fun v _ => ?_)
    refine ok_cond (fun _ => ok_some (fun _ => hd)) (fun _ => ?_)
    refine ok_bind (trace_outside_ok t hz) (fun v _ => ?_)
    exact ok_cond (fun _ => ok_some (fun _ => hd)) (fun _ => ok_some (fun _ => hd))
def lenS (s : api_Slice) : Int := w64 (s.fSpan.fTo - s.fSpan.fFrom)
theorem lenS_v {l : List api_Slice} (h : SpV l) {s : api_Slice} (hs : s ∈ l) : 0 < lenS s ∧ lenS s ≤ 1000000000000 := by
  have := h s hs
  unfold lenS
  rw [w64_of (by omega)]
  omega
def isC (name : ByteArray) (s : api_Slice) : Bool := decide (s.fName = name) && !s.fOpen
def closedL (l : List api_Slice) (name : ByteArray) : List Int := (l.filter (isC name)).map lenS
theorem closedL_len (l : List api_Slice) (name : ByteArray) : (closedL l name).length ≤ l.length := by
  unfold closedL; simp only [List.length_map]; exact List.length_filter_le _ _
theorem closed_p (t : api_Trace) (name : ByteArray) (h : t.fSlices.length ≤ 60) : anomaly_closed t name = some (closedL t.fSlices name) := by
  have : Ok (anomaly_closed t name) (fun r => r = closedL t.fSlices name) := by
    unfold anomaly_closed
    refine ok_bind (Q := fun r => r = closedL t.fSlices name) (ok_up2M t.fSlices.length (fun a n => a = closedL (t.fSlices.take n) name) (by omega) (by simp [closedL]) (fun a i hI h2 => ?_)) (fun r hr => ok_some hr)
    unfold anomaly_closed_L1
    dsimp only
    subst hI
    have hl := closedL_len (t.fSlices.take i) name
    rw [List.length_take] at hl
    refine ok_ite (fun hi => ?_) (fun hi => ok_inr (by rw [List.take_of_length_le (by omega)]))
    obtain ⟨y, hiy, hy⟩ := ok_ixM (xs := t.fSlices) (i := i) (by omega)
    refine ok_bind (Q := fun r => r = closedL (t.fSlices.take (i + 1)) name) ?_ (fun r hr => ?_)
    · rw [hiy, Option.bind_some]
      have e : closedL (t.fSlices.take (i + 1)) name = closedL (t.fSlices.take i) name ++ (if isC name y = true then [lenS y] else []) := by
        unfold closedL
        rw [List.take_add_one, hy]
        simp only [Option.toList_some, List.filter_append, List.map_append]
        by_cases hc : isC name y = true <;> simp [hc]
      rw [e]
      by_cases h1 : y.fName = name
      · cases h2 : y.fOpen with
        | true => simp [h1, h2, isC, Ok]
        | false =>
          simp only [h1, h2, isC, anomaly_length, decide_true, cond_true, Bool.not_false, Option.bind_some, Bool.and_self, if_true]
          rw [room_ok (by simp; omega) (by simp; omega)]
          exact ok_some rfl
      · simp [h1, isC, Ok]
    · rw [w64_M (n := t.fSlices.length) (by omega) (by omega)]
      exact ok_inl ⟨by omega, rfl, hr⟩
  obtain ⟨r, h1, h2⟩ := this
  rw [h1, h2]
def qIx (n : Nat) : Int := max (((n : Int) + 1) / 2) 1 - 1
theorem q_all : (List.range 61).all (fun n => decide ((((math_bits_Mul64 (IntKind.wrap .u64 1) (IntKind.wrap .u64 (n : Int))).bind fun r4 => ((math_bits_Div64 r4.1 r4.2 (IntKind.wrap .u64 2)).bind fun r5 => (((bif (decide (0 < r5.2)) then some (IntKind.wrap .u64 (r5.1 + 1)) else some r5.1) : Option Int).bind fun v6 => some (IntKind.wrap .u64 ((max v6 1) - 1)))))) = some (qIx n))) = true := by kernel_rfl
def medS (l : List Int) : Int × Bool := match (sortI l)[(qIx l.length).toNat]? with
  | some x => (x, true)
  | none => (0, false)
theorem quantile_p (l : List Int) (h : l.length ≤ 60) : num_Quantile l 1 2 = some (medS l) := by
  unfold num_Quantile
  have hsl : (sortI l).length = l.length := (sortI_perm l).length_eq
  by_cases h0 : (l.length : Int) = 0
  · have : l = [] := List.length_eq_zero_iff.1 (by omega)
    subst this
    rfl
  · have hq := of_decide_eq_true (List.all_eq_true.1 q_all l.length (List.mem_range.2 (by omega)))
    have hs : sortB l = true := decide_eq_true (by omega)
    simp only [h0, decide_false, cond_false, Option.bind_some, slices_Values_int_int, slices_Sorted_int_k1, hs, cond_true, show decide ((2 : Int) < 1) = false from rfl, show decide ((1000000000000000 : Int) < 2) = false from rfl, show decide ((1 : Int) < 0) = false from rfl, show decide ((2 : Int) < 1) = false from rfl]
    generalize math_bits_Mul64 (IntKind.wrap .u64 1) (IntKind.wrap .u64 (l.length : Int)) = A at *
    cases A with
    | none => simp at hq
    | some r4 =>
      simp only [Option.bind_some] at hq ⊢
      generalize math_bits_Div64 r4.1 r4.2 (IntKind.wrap .u64 2) = B at *
      cases B with
      | none => simp at hq
      | some r5 =>
        simp only [Option.bind_some] at hq ⊢
        generalize (bif (decide (0 < r5.2)) then some (IntKind.wrap .u64 (r5.1 + 1)) else some r5.1 : Option Int) = C at *
        cases C with
        | none => simp at hq
        | some v6 =>
          simp only [Option.bind_some, Option.some.injEq] at hq ⊢
          rw [hq]
          have hr : 0 ≤ qIx l.length ∧ qIx l.length < l.length := by unfold qIx; omega
          obtain ⟨y, h3, h4⟩ := ok_idx (xs := sortI l) (i := qIx l.length) hr.1 (by omega)
          rw [h3]
          unfold medS
          rw [h4]
          rfl
end Go.VM
namespace Go.VM
def usu (t : api_Trace) (name : ByteArray) : Int × Bool := (anomaly_usual t name).getD (0, false)
structure Usu (t : api_Trace) (name : ByteArray) (r : Int × Bool) : Prop where
  rng : 0 ≤ r.1 ∧ r.1 < t.fSlices.length
  s : ∃ s, t.fSlices[r.1.toNat]? = some s ∧ isC name s = true ∧ medS (closedL t.fSlices name) = (lenS s, true)
theorem usual_ok (t : api_Trace) (name : ByteArray) (h : t.fSlices.length ≤ 60) : Ok (anomaly_usual t name) (fun r => r.2 = true → Usu t name r) := by
  unfold anomaly_usual
  have hcl := closedL_len t.fSlices name
  rw [closed_p t name h, Option.bind_some, quantile_p _ (by omega), Option.bind_some]
  generalize hm : medS (closedL t.fSlices name) = m
  refine ok_not (fun _ => ok_some (by simp)) (fun e => ?_)
  refine ok_bindS (Q := InlR Yes (fun r : Int × Bool => r.2 = true → Usu t name r)) (ok_upM t.fSlices.length (fun _ => True) (by omega) trivial (fun i _ h2 => ?_)) (fun _ _ => ok_some (by simp)) (fun r hr => ok_some hr)
  unfold anomaly_usual_L1
  refine ok_ite (fun hi => ?_) (fun _ => ok_inr trivial)
  obtain ⟨y, hiy, hy⟩ := ok_ixM (xs := t.fSlices) (i := i) (by omega)
  rw [hiy, Option.bind_some]
  refine ok_bind (Q := fun v => v = true → isC name y = true ∧ lenS y = m.1) ?_ (fun v hv => ?_)
  · refine ok_ite (fun h1 => ?_) (fun _ => ok_some (by simp))
    refine ok_not (fun h3 => ?_) (fun _ => ok_some (by simp))
    simp only [anomaly_length, Option.bind_some]
    exact ok_some (fun h4 => ⟨by simp [isC, h1, h3], of_decide_eq_true h4⟩)
  refine ok_cond (fun e1 => ok_inr (fun _ => ⟨⟨by simp, by simp; omega⟩, y, by simpa using hy, (hv e1).1, ?_⟩)) (fun _ => ?_)
  · rw [hm, (hv e1).2, ← e]
  · rw [w64_M (n := t.fSlices.length) (by omega) (by omega)]
    exact ok_inl ⟨by omega, rfl, trivial⟩
theorem usual_p (t : api_Trace) (name : ByteArray) (h : t.fSlices.length ≤ 60) : anomaly_usual t name = some (usu t name) ∧ ((usu t name).2 = true → Usu t name (usu t name)) := by
  obtain ⟨r, h1, h2⟩ := usual_ok t name h
  unfold usu
  rw [h1]
  exact ⟨rfl, h2⟩
theorem total_ok (l : List api_State) (a b : Int) (p : api_Span) (h : l.length ≤ 9223372036854775807) : Tot (state_Total l a b p) := by
  unfold state_Total
  rw [spans_Valid_eq, Option.bind_some]
  refine ok_not (fun _ => ok_yes) (fun _ => ?_)
  refine ok_bind (Q := Yes) (ok_up2M l.length (fun _ _ => True) h trivial (fun a i _ h2 => ?_)) (fun _ _ => ok_yes)
  unfold state_Total_L1
  dsimp only
  refine ok_ite (fun hi => ?_) (fun _ => ok_inrY)
  refine ok_bind (Q := Yes) ?_ (fun v _ => ?_)
  · refine ok_bind (ok_ixM (by omega)) (fun y _ => ?_)
    refine ok_bind (Q := Yes) (by repeat' (first | with_reducible exact ok_yes | with_reducible exact ok_inrY | with_reducible exact ok_inlY | (with_reducible refine ok_next ?_ ?_ ?_ <;> (first | assumption | omega | (rw [w64_of] <;> omega))) | (with_reducible refine ok_nite (fun _ => ?_) (fun _ => ?_)) | (with_reducible refine ok_ite (fun _ => ?_) (fun _ => ?_)) | (with_reducible refine ok_not (fun _ => ?_) (fun _ => ?_)) | (with_reducible refine ok_cond (fun _ => ?_) (fun _ => ?_)) | with_reducible refine ok_bind (ok_idx (by (first | assumption | omega | (rw [w64_of] <;> omega))) (by (first | assumption | omega | (rw [w64_of] <;> omega)))) (fun _ _ => ?_) | (with_reducible refine ok_bind (Q := Yes) ?_ (fun _ _ => ?_)) | dsimp only)) (fun v _ => ?_)
    exact ok_cond (fun _ => ok_yes) (fun _ => ok_yes)
  · rw [w64_M (n := l.length) (by omega) h]
    exact ok_inl ⟨by omega, rfl, trivial⟩
theorem times_ok (t : api_Trace) (s : api_Slice) (h : t.fStates.length ≤ 9223372036854775807) : Ok (anomaly_times_k2 t s) (fun r => r.length = 6) := by
  unfold anomaly_times_k2 anomaly_length
  rw [Option.bind_some, show mkB 8 6 = true from by rfl]
  simp only [cond_true]
  refine ok_bind (Q := fun r => r.2.length = 6) (ok_loop (fun s : Int × List Int × Int => 0 ≤ s.2.2 ∧ s.2.2 ≤ 6 ∧ (s.2.1.length : Int) = s.2.2) (fun s => (6 - s.2.2).toNat) (fun s hs => ?_) ⟨by simp, by simp, by simp⟩ (by simp [manyRounds])) (fun r hr => ?_)
  · obtain ⟨a, l, i⟩ := s
    obtain ⟨h1, h2, h3⟩ := hs
    simp only at h1 h2 h3
    unfold anomaly_times_k2_L1
    dsimp only
    refine ok_ite (fun hi => ?_) (fun _ => ok_inr (by simp; omega))
    refine ok_bind (total_ok _ _ _ _ h) (fun r _ => ?_)
    rw [room_ok (by simp; omega) (by simp; omega), show w64 (i + 1) = i + 1 from w64_of (by omega)]
    exact ok_inl ⟨⟨by (first | omega | (simp; omega)), by (first | omega | (simp; omega)), by (first | omega | (simp; omega))⟩, by (first | omega | (simp; omega))⟩
  · obtain ⟨a, l⟩ := r
    simp only at hr
    dsimp only
    refine ok_bind (ok_idx (by omega) (by omega)) (fun y _ => ?_)
    refine ok_bind (ok_idx (by omega) (by omega)) (fun z _ => ?_)
    exact ok_some (by simp [hr])
theorem revS_ok (l : List ByteArray) (hl : l.length ≤ 9223372036854775807) : Tot (slices_Reverse_string_string_k1 l) := by
  unfold slices_Reverse_string_string_k1
  rw [show w64 ((l.length : Int) - 1) = (l.length : Int) - 1 from w64_of (by omega)]
  refine ok_loop (fun s : List ByteArray × Int × Int => 0 ≤ s.2.1 ∧ s.2.1 + s.2.2 = (l.length : Int) - 1 ∧ s.1.length = l.length) (fun s => (s.2.2 + 1).toNat) (fun s hs => ?_) ⟨by simp, by simp, by simp⟩ (by simp [manyRounds]; omega)
  obtain ⟨c, i, j⟩ := s
  obtain ⟨h1, h2, h3⟩ := hs
  simp only at h1 h2 h3
  unfold slices_Reverse_string_string_k1_L1
  dsimp only
  refine ok_ite (fun hi => ?_) (fun _ => ok_inrY)
  refine ok_bind (ok_idx (by omega) (by omega)) (fun y _ => ?_)
  refine ok_bind (ok_idx (by omega) (by omega)) (fun z _ => ?_)
  refine ok_bind (Q := Yes) (ok_idx (by omega) (by omega)).yes (fun _ _ => ?_)
  refine ok_bind (Q := Yes) (ok_idx (by omega) (by simp; omega)).yes (fun _ _ => ?_)
  rw [show w64 (i + 1) = i + 1 from w64_of (by omega), show w64 (j - 1) = j - 1 from w64_of (by omega)]
  exact ok_inl ⟨⟨by simp; omega, by simp; omega, by simp [h3]⟩, by simp; omega⟩
theorem spath_ok (l : List api_Slice) (i : Int) (h : l.length ≤ 60) : Tot (slice_Path l i) := by
  unfold slice_Path
  refine ok_bind (Q := Yes) (by repeat' (first | with_reducible exact ok_yes | with_reducible exact ok_inrY | with_reducible exact ok_inlY | (with_reducible refine ok_next ?_ ?_ ?_ <;> (first | assumption | omega | (rw [w64_of] <;> omega))) | (with_reducible refine ok_nite (fun _ => ?_) (fun _ => ?_)) | (with_reducible refine ok_ite (fun _ => ?_) (fun _ => ?_)) | (with_reducible refine ok_not (fun _ => ?_) (fun _ => ?_)) | (with_reducible refine ok_cond (fun _ => ?_) (fun _ => ?_)) | with_reducible refine ok_bind (ok_idx (by (first | assumption | omega | (rw [w64_of] <;> omega))) (by (first | assumption | omega | (rw [w64_of] <;> omega)))) (fun _ _ => ?_) | (with_reducible refine ok_bind (Q := Yes) ?_ (fun _ _ => ?_)) | dsimp only)) (fun v _ => ?_)
  refine ok_cond (fun _ => ok_yes) (fun _ => ?_)
  refine ok_bind (Q := fun r => r.length ≤ 62) (ok_loop (fun s : Int × List ByteArray × Int => 0 ≤ s.2.2 ∧ s.2.2 ≤ (l.length : Int) + 1 ∧ (s.2.1.length : Int) = s.2.2) (fun s => ((l.length : Int) + 1 - s.2.2).toNat) (fun s hs => ?_) ⟨by simp, by simp; omega, by simp⟩ (by simp [manyRounds]; omega)) (fun r hr => ?_)
  · obtain ⟨a, o, n⟩ := s
    obtain ⟨h1, h2, h3⟩ := hs
    simp only at h1 h2 h3
    unfold slice_Path_L1
    dsimp only
    refine ok_bind (Q := fun v => v = true → 0 ≤ a ∧ a < (l.length : Int) ∧ n ≤ (l.length : Int)) ?_ (fun v hv => ?_)
    · by_cases g1 : 0 ≤ a <;> by_cases g2 : a < (l.length : Int) <;> by_cases g3 : n ≤ (l.length : Int) <;> simp [g1, g2, g3, Ok]
    refine ok_cond (fun e => ?_) (fun _ => ok_inr (by (first | omega | (simp; omega))))
    obtain ⟨g1, g2, g3⟩ := hv e
    obtain ⟨y, hy, _⟩ := ok_idx g1 g2
    rw [hy, Option.bind_some, room_ok (by simp; omega) (by simp; omega), show w64 (n + 1) = n + 1 from w64_of (by omega)]
    exact ok_inl ⟨⟨by (first | omega | (simp; omega)), by (first | omega | (simp; omega)), by (first | omega | (simp; omega))⟩, by (first | omega | (simp; omega))⟩
  · exact ok_bind (revS_ok r (by omega)) (fun _ _ => ok_yes)
theorem parts_ok (t : api_Trace) (i u : Int) (h : t.fSlices.length ≤ 60) (hst : t.fStates.length ≤ 9223372036854775807) (hi : 0 ≤ i ∧ i < t.fSlices.length) (hu : 0 ≤ u ∧ u < t.fSlices.length) : Tot (anomaly_parts_k2 t i u) := by
  unfold anomaly_parts_k2
  refine ok_bind (ok_idx hi.1 hi.2) (fun y _ => ?_)
  refine ok_bind (times_ok t y hst) (fun r2 h2 => ?_)
  refine ok_bind (ok_idx hu.1 hu.2) (fun z _ => ?_)
  refine ok_bind (times_ok t z hst) (fun r4 h4 => ?_)
  unfold anomaly_causes
  rw [Option.bind_some]
  refine ok_bind (Q := Yes) (ok_up2M 6 (fun a n => a.length ≤ n) (by omega) (by simp) (fun a k hk hk2 => ?_)) (fun _ _ => ok_yes)
  unfold anomaly_parts_k2_L1
  dsimp only
  refine ok_ite (fun hk3 => ?_) (fun _ => ok_inrY)
  have hk4 : k < 6 := by simp at hk3; omega
  refine ok_bind (Q := fun r => r.length ≤ k + 1) ?_ (fun r hr => ?_)
  · refine ok_bind (ok_ixM (by simp; omega)) (fun c _ => ?_)
    refine ok_bind (ok_ixM (by omega)) (fun x _ => ?_)
    refine ok_bind (ok_ixM (by omega)) (fun w _ => ?_)
    refine ok_nite (fun _ => ?_) (fun _ => ok_some (by omega))
    refine ok_bind (spath_ok t.fSlices i h) (fun q _ => ?_)
    rw [room_ok (by simp; omega) (by simp; omega)]
    exact ok_some (by simp; omega)
  · rw [w64_M (n := 6) (by omega) (by omega)]
    exact ok_inl ⟨by omega, rfl, hr⟩
def outB (t : api_Trace) (k n : Int) (i : Nat) : Bool := match t.fSlices[i]? with
  | none => false
  | some s => !s.fOpen && decide (3 ≤ (closedL t.fSlices s.fName).length) && (usu t s.fName).2 && (match t.fSlices[(usu t s.fName).1.toNat]? with | none => false | some u => decide (k * lenS u < n * lenS s))
theorem Of_ok (t : api_Trace) (k n : Int) (hz : Siz t) (ht : t.fThreads.length ≤ 1000000) (h : t.fSlices.length ≤ 60) : Ok (anomaly_Of t k n) (fun r => (r.2 ≠ 0 ∧ r.1 = []) ∨ (SpV t.fSlices ∧ 1 ≤ n ∧ n ≤ k ∧ k ≤ 1000 ∧ r.1.map (·.fSlice) = ((List.range t.fSlices.length).filter (outB t k n)).map (fun i : Nat => (i : Int)))) := by
  unfold anomaly_Of
  refine ok_bind (trace_Check_v t hz ht) (fun r1 h1 => ?_)
  refine ok_nite (fun h0 => ok_some (.inl ⟨h0, rfl⟩)) (fun e0 => ?_)
  have hv := h1 e0
  refine ok_bind (Q := fun v => v = false → 1 ≤ n ∧ n ≤ k ∧ k ≤ 1000) ?_ (fun v hvv => ?_)
  · by_cases g1 : n < 1 <;> by_cases g2 : k < n <;> by_cases g3 : 1000 < k <;> simp [g1, g2, g3, Ok] <;> omega
  refine ok_cond (fun _ => ok_some (.inl ⟨by simp, rfl⟩)) (fun e => ?_)
  obtain ⟨g1, g2, g3⟩ := hvv e
  refine ok_bind (Q := fun r => r.map (·.fSlice) = ((List.range t.fSlices.length).filter (outB t k n)).map (fun i : Nat => (i : Int))) (ok_up2M t.fSlices.length (fun a i => a.length ≤ i ∧ a.map (·.fSlice) = ((List.range i).filter (outB t k n)).map (fun i : Nat => (i : Int))) (by omega) ⟨by simp, by simp⟩ (fun a i hI h2 => ?_)) (fun r hr => ok_some (.inr ⟨hv, g1, g2, g3, hr⟩))
  obtain ⟨hal, ha⟩ := hI
  unfold anomaly_Of_L1
  dsimp only
  refine ok_ite (fun hi => ?_) (fun hi => ok_inr (by rw [ha, show i = t.fSlices.length by omega]))
  obtain ⟨y, hiy, hy⟩ := ok_ixM (xs := t.fSlices) (i := i) (by omega)
  have hstep : ∀ b : List api_Outlier, b.length ≤ i + 1 → b.map (·.fSlice) = a.map (·.fSlice) ++ (if outB t k n i = true then [(i : Int)] else []) → b.length ≤ i + 1 ∧ b.map (·.fSlice) = ((List.range (i + 1)).filter (outB t k n)).map (fun i : Nat => (i : Int)) := by
    intro b hb hbm
    refine ⟨hb, ?_⟩
    rw [hbm, ha, List.range_succ, List.filter_append, List.map_append]
    by_cases hc : outB t k n i = true <;> simp [hc]
  refine ok_bind (Q := fun b => b.length ≤ i + 1 ∧ b.map (·.fSlice) = ((List.range (i + 1)).filter (outB t k n)).map (fun i : Nat => (i : Int))) ?_ (fun b hb => ?_)
  · rw [hiy, Option.bind_some]
    have stay : outB t k n i = false → Ok (some a) (fun b => b.length ≤ i + 1 ∧ b.map (·.fSlice) = ((List.range (i + 1)).filter (outB t k n)).map (fun i : Nat => (i : Int))) := fun hb => ok_some (hstep a (by omega) (by simp [hb]))
    refine ok_bind (Q := fun v => v = !(!y.fOpen && decide (3 ≤ (closedL t.fSlices y.fName).length))) ?_ (fun v hv2 => ?_)
    · cases hop : y.fOpen with
      | true => exact ok_some (by simp)
      | false =>
        rw [closed_p t _ h]
        simp only [cond_false, Option.bind_some]
        refine ok_some ?_
        have hd : decide (((closedL t.fSlices y.fName).length : Int) < 3) = !decide (3 ≤ (closedL t.fSlices y.fName).length) := by
          by_cases g : 3 ≤ (closedL t.fSlices y.fName).length
          · rw [decide_eq_true g, decide_eq_false (by omega)]; rfl
          · rw [decide_eq_false g, decide_eq_true (by omega)]; rfl
        rw [hd]
        cases decide (3 ≤ (closedL t.fSlices y.fName).length) <;> rfl
    refine ok_cond (fun e1 => stay ?_) (fun e1 => ?_)
    · unfold outB; rw [hy]
      rw [hv2] at e1
      have : (!y.fOpen && decide (3 ≤ (closedL t.fSlices y.fName).length)) = false := by
        revert e1; cases (!y.fOpen && decide (3 ≤ (closedL t.fSlices y.fName).length)) <;> simp
      simp only [this, Bool.false_and]
    have hopen : (!y.fOpen && decide (3 ≤ (closedL t.fSlices y.fName).length)) = true := by
      rw [hv2] at e1
      revert e1; cases (!y.fOpen && decide (3 ≤ (closedL t.fSlices y.fName).length)) <;> simp
    obtain ⟨hu1, hu2⟩ := usual_p t y.fName h
    rw [hu1, Option.bind_some]
    refine ok_not (fun e2 => stay ?_) (fun e2 => ?_)
    · unfold outB; rw [hy]
      simp only [hopen, e2, Bool.and_false, Bool.false_and]
    have hU := hu2 e2
    obtain ⟨u, hu, huc, hum⟩ := hU.s
    have hui : idx t.fSlices (usu t y.fName).1 = some u := by
      unfold idx; rw [if_pos hU.rng.1]; exact hu
    have l1 := lenS_v hv (List.mem_of_getElem? hu)
    have l2 := lenS_v hv (List.mem_of_getElem? hy)
    rw [hui]
    simp only [Option.bind_some, anomaly_length]
    change Ok (bif decide (w64 (k * lenS u) < w64 (n * lenS y)) then _ else _) _
    have m1 : 0 ≤ k * lenS u ∧ k * lenS u ≤ 1000 * 1000000000000 := ⟨Int.mul_nonneg (by omega) (by omega), Int.mul_le_mul g3 l1.2 (by omega) (by omega)⟩
    have m2 : 0 ≤ n * lenS y ∧ n * lenS y ≤ 1000 * 1000000000000 := ⟨Int.mul_nonneg (by omega) (by omega), Int.mul_le_mul (by omega) l2.2 (by omega) (by omega)⟩
    rw [w64_of (n := k * lenS u) (by omega), w64_of (n := n * lenS y) (by omega)]
    have hout : outB t k n i = decide (k * lenS u < n * lenS y) := by
      unfold outB; rw [hy]
      simp only [hopen, e2, hu, Bool.true_and]
    refine ok_ite (fun g => ?_) (fun g => stay (by rw [hout]; exact decide_eq_false g))
    refine ok_bind (parts_ok t i (usu t y.fName).1 h hz.st ⟨by omega, by omega⟩ hU.rng) (fun q _ => ?_)
    rw [room_ok (by simp; omega) (by simp; omega)]
    exact ok_some (hstep _ (by simp; omega) (by rw [hout, decide_eq_true g]; simp))
  · rw [w64_M (n := t.fSlices.length) (by omega) (by omega)]
    exact ok_inl ⟨by omega, rfl, hb⟩
end Go.VM
namespace Go.VM
theorem awake54 : tracebooklaw54_awake = some true := by kernel_rfl
theorem siz_of {t : api_Trace} (h : okr_api_Trace t) : Siz t := by
  have e : maxLen = 9223372036854775807 := by decide
  unfold okr_api_Trace okL okr_api_Thread okr_api_Slice okr_api_Sample okr_api_Step okr_api_Block okr_str okL at h
  rw [e] at h
  obtain ⟨_, _, h1, h2, h3, h4, h5, h6, h7, h8⟩ := h
  exact ⟨h1.1, h2.1, h3.1, h4.1, h5.1, h6.1, h7.1, h8.1, fun x hx => (h1.2 x hx).2.1, fun x hx => (h2.2 x hx).2.2.2.1, fun x hx => (h5.2 x hx).2.2.2, fun x hx => (h6.2 x hx).1, fun x hx => (h7.2 x hx).2.2.2.2.2.1⟩
theorem few54 (t : api_Trace) : Ok (tracebooklaw54_few t) (fun b => b = true → t.fThreads.length ≤ 1000000 ∧ t.fSlices.length ≤ 60) := by
  unfold tracebooklaw54_few
  refine ok_bind (Q := fun b => b = true → t.fThreads.length ≤ 1000000 ∧ t.fSlices.length ≤ 60) ?_ (fun b hb => ok_some hb)
  refine ok_ite (fun h => ?_) (fun _ => ok_some (by simp))
  refine ok_ite (fun h2 => ?_) (fun _ => ok_some (by simp))
  have : t.fThreads.length ≤ 1000000 ∧ t.fSlices.length ≤ 60 := by omega
  refine Ok.mono (P := Yes) ?_ (fun _ _ _ => this)
  repeat' (first | with_reducible exact ok_yes | with_reducible exact ok_inrY | with_reducible exact ok_inlY | (with_reducible refine ok_next ?_ ?_ ?_ <;> (first | assumption | omega | (rw [w64_of] <;> omega))) | (with_reducible refine ok_nite (fun _ => ?_) (fun _ => ?_)) | (with_reducible refine ok_ite (fun _ => ?_) (fun _ => ?_)) | (with_reducible refine ok_not (fun _ => ?_) (fun _ => ?_)) | (with_reducible refine ok_cond (fun _ => ?_) (fun _ => ?_)) | with_reducible refine ok_bind (ok_idx (by (first | assumption | omega | (rw [w64_of] <;> omega))) (by (first | assumption | omega | (rw [w64_of] <;> omega)))) (fun _ _ => ?_) | (with_reducible refine ok_bind (Q := Yes) ?_ (fun _ _ => ?_)) | dsimp only)
theorem filter_mono {α : Type} {p q : α → Bool} : ∀ (l : List α), (∀ x ∈ l, p x = true → q x = true) → (l.filter p).Sublist (l.filter q)
  | [], _ => List.Sublist.slnil
  | x :: l, h => by
    have ih := filter_mono l (fun y hy => h y (List.mem_cons_of_mem _ hy))
    by_cases hp : p x = true
    · have hq := h x List.mem_cons_self hp
      simp only [List.filter_cons, hp, hq, if_true]
      exact ih.cons_cons x
    · simp only [List.filter_cons, hp]
      by_cases hq : q x = true
      · simp only [hq, if_true]
        exact ih.cons x
      · simp only [hq]
        exact ih
theorem outB_mono {t : api_Trace} (hv : SpV t.fSlices) (h : t.fSlices.length ≤ 60) {k n k' n' : Int} (h1 : 1 ≤ n) (h2 : 1 ≤ n') (h3 : 1 ≤ k) (h4 : k * n' ≤ k' * n) (i : Nat) (hb : outB t k' n' i = true) : outB t k n i = true := by
  unfold outB at hb ⊢
  cases hy : t.fSlices[i]? with
  | none => rw [hy] at hb; simp at hb
  | some s =>
    rw [hy] at hb
    simp only [Bool.and_eq_true] at hb ⊢
    obtain ⟨⟨hb1, hb2⟩, hb3⟩ := hb
    refine ⟨⟨hb1, hb2⟩, ?_⟩
    have hU := (usual_p t s.fName h).2 hb2
    obtain ⟨u, hu, _, _⟩ := hU.s
    rw [hu] at hb3 ⊢
    have hlt := of_decide_eq_true hb3
    have l1 := lenS_v hv (List.mem_of_getElem? hu)
    refine decide_eq_true ?_
    have a1 : n * (k' * lenS u) < n * (n' * lenS s) := Int.mul_lt_mul_of_pos_left hlt (by omega)
    have a2 : (k * n') * lenS u ≤ (k' * n) * lenS u := Int.mul_le_mul_of_nonneg_right h4 (by omega)
    have e1 : n * (k' * lenS u) = (k' * n) * lenS u := by rw [← Int.mul_assoc, Int.mul_comm n k']
    have e2 : n * (n' * lenS s) = n' * (n * lenS s) := by rw [← Int.mul_assoc, Int.mul_comm n n', Int.mul_assoc]
    have e3 : (k * n') * lenS u = n' * (k * lenS u) := by rw [Int.mul_comm k n', Int.mul_assoc]
    rw [e1, e2] at a1
    rw [e3] at a2
    exact Int.lt_of_mul_lt_mul_left (Int.lt_of_le_of_lt a2 a1) (by omega)
theorem sub_step {o : Int} {rest : List Int} {x : Int} {l : List Int} (h : (o :: rest).Sublist (x :: l)) (hne : x ≠ o) : (o :: rest).Sublist l := by
  cases h with
  | cons _ h => exact h
  | cons_cons _ h => exact absurd rfl hne
theorem drop_at {l : List api_Outlier} {i : Nat} {y : api_Outlier} (h : l[i]? = some y) : (l.map (·.fSlice)).drop i = y.fSlice :: (l.map (·.fSlice)).drop (i + 1) := by
  have hl := lt_of_get h
  have h2 : (l.map (·.fSlice))[i]? = some y.fSlice := by simp [h]
  rw [List.drop_eq_getElem_cons (by simpa using hl)]
  rw [List.getElem?_eq_getElem (by simpa using hl)] at h2
  rw [Option.some.inj h2]
theorem anomalyStricter_holds (t : api_Trace) (k n more of : Int) (h : okr_api_Trace t) : tracebooklaw54_AnomalyStricter t k n more of = some true := by
  have hz := siz_of h
  have : Ok (tracebooklaw54_AnomalyStricter t k n more of) (fun b => b = true) := by
    unfold tracebooklaw54_AnomalyStricter
    rw [awake54]
    simp only [Option.bind_some]
    refine ok_bind (Q := fun v => v = false → (t.fThreads.length ≤ 1000000 ∧ t.fSlices.length ≤ 60) ∧ 1 ≤ k ∧ 1 ≤ n ∧ 1 ≤ of ∧ k * of ≤ more * n) ?_ (fun v hv => ?_)
    · refine ok_bind (few54 t) (fun b hb => ?_)
      refine ok_not (fun _ => ok_some (by simp)) (fun e => ?_)
      have ht := hb e
      refine ok_ite (fun _ => ok_some (by simp)) (fun g1 => ?_)
      refine ok_ite (fun _ => ok_some (by simp)) (fun g2 => ?_)
      refine ok_ite (fun _ => ok_some (by simp)) (fun g3 => ?_)
      refine ok_ite (fun _ => ok_some (by simp)) (fun g4 => ?_)
      refine ok_ite (fun _ => ok_some (by simp)) (fun g5 => ?_)
      refine ok_ite (fun _ => ok_some (by simp)) (fun g6 => ?_)
      refine ok_ite (fun _ => ok_some (by simp)) (fun g7 => ?_)
      refine ok_ite (fun _ => ok_some (by simp)) (fun g8 => ?_)
      have m1 : 0 ≤ k * of ∧ k * of ≤ 1000 * 1000 := ⟨Int.mul_nonneg (by omega) (by omega), Int.mul_le_mul (by omega) (by omega) (by omega) (by omega)⟩
      have m2 : 0 ≤ more * n ∧ more * n ≤ 1000 * 1000 := ⟨Int.mul_nonneg (by omega) (by omega), Int.mul_le_mul (by omega) (by omega) (by omega) (by omega)⟩
      rw [w64_of (n := more * n) (by omega), w64_of (n := k * of) (by omega)]
      exact ok_some (fun e => ⟨ht, by omega, by omega, by omega, by have := of_decide_eq_false e; omega⟩)
    · refine ok_cond (fun _ => ok_some rfl) (fun e => ?_)
      obtain ⟨⟨ht, hs⟩, g1, g2, g3, g4⟩ := hv e
      refine ok_bind (Of_ok t k n hz ht hs) (fun r3 h3 => ?_)
      refine ok_bind (Of_ok t more of hz ht hs) (fun r4 h4 => ?_)
      refine ok_bind (Q := fun v => v = false → r3.2 = 0 ∧ r4.2 = 0) ?_ (fun v hv => ok_cond (fun _ => ok_some rfl) (fun e => ?_))
      · by_cases a1 : r3.2 = 0 <;> by_cases a2 : r4.2 = 0 <;> simp [a1, a2, Ok]
      obtain ⟨z3, z4⟩ := hv e
      rcases h3 with ⟨h3, _⟩ | ⟨hvv, _, _, k3, h3⟩
      · exact absurd z3 h3
      rcases h4 with ⟨h4, _⟩ | ⟨_, _, _, _, h4⟩
      · exact absurd z4 h4
      have hsub : (r4.1.map (·.fSlice)).Sublist (r3.1.map (·.fSlice)) := by
        rw [h3, h4]
        exact (filter_mono _ (fun i _ hb => outB_mono hvv hs g2 g3 g1 g4 i hb)).map _
      have l3 : r3.1.length ≤ 60 := by
        have e := congrArg List.length h3
        simp only [List.length_map] at e
        have := List.length_filter_le (outB t k n) (List.range t.fSlices.length)
        simp at this; omega
      have l4 : r4.1.length ≤ 60 := by
        have := hsub.length_le
        simp at this; omega
      refine ok_bindS (Q := InlR Yes (fun b => b = true)) (ok_up2M r4.1.length (fun (a : Int) j => 0 ≤ a ∧ a ≤ r3.1.length ∧ ((r4.1.map (·.fSlice)).drop j).Sublist ((r3.1.map (·.fSlice)).drop a.toNat)) (by omega) ⟨by omega, by omega, by simpa using hsub⟩ (fun a j hI hj => ?_)) (fun _ _ => ok_some rfl) (fun r hr => ok_some hr)
      obtain ⟨a0, a1, hS⟩ := hI
      unfold tracebooklaw54_AnomalyStricter_L2
      dsimp only
      refine ok_ite (fun hi => ?_) (fun _ => ok_inr trivial)
      obtain ⟨y, hiy, hy⟩ := ok_ixM (xs := r4.1) (i := j) (by omega)
      rw [hiy, Option.bind_some]
      rw [drop_at hy] at hS
      refine ok_bind (Q := fun e : Int => 0 ≤ e ∧ e < r3.1.length ∧ (y.fSlice :: (r4.1.map (·.fSlice)).drop (j + 1)).Sublist ((r3.1.map (·.fSlice)).drop e.toNat)) (ok_loop (fun s : Int => 0 ≤ s ∧ s ≤ r3.1.length ∧ (y.fSlice :: (r4.1.map (·.fSlice)).drop (j + 1)).Sublist ((r3.1.map (·.fSlice)).drop s.toNat)) (fun s => ((r3.1.length : Int) - s).toNat) (fun s hs2 => ?_) ⟨a0, a1, hS⟩ (by simp [manyRounds]; omega)) (fun e he => ?_)
      · obtain ⟨s0, s1, hSS⟩ := hs2
        unfold tracebooklaw54_AnomalyStricter_L1
        by_cases hlt : s < (r3.1.length : Int)
        · obtain ⟨x, hix, hx⟩ := ok_idx (xs := r3.1) s0 hlt
          simp only [hlt, decide_true, cond_true, hix, Option.bind_some]
          rw [drop_at hx] at hSS
          refine ok_nite (fun hne => ?_) (fun heq => ok_inr ⟨s0, hlt, by rw [drop_at hx]; exact hSS⟩)
          have hn := sub_step hSS hne
          rw [show w64 (s + 1) = s + 1 from w64_of (by omega)]
          refine ok_inl ⟨⟨by omega, by omega, ?_⟩, by omega⟩
          rw [show (s + 1).toNat = s.toNat + 1 by omega]; exact hn
        · exfalso
          have hd : (r3.1.map (·.fSlice)).drop s.toNat = [] := List.drop_eq_nil_of_le (by simp; omega)
          rw [hd] at hSS
          cases hSS
      · obtain ⟨e0, e1, hE⟩ := he
        refine ok_ite (fun hee => by omega) (fun _ => ?_)
        rw [w64_M (n := r4.1.length) (by omega) (by omega)]
        exact ok_inl ⟨by omega, rfl, e0, by omega, (List.Sublist.cons _ (List.Sublist.refl _)).trans hE⟩
  obtain ⟨r, h1, h2⟩ := this
  rw [h1, h2]
def rowP {α : Type} (l : List α) (p : α → Bool) (i : Nat) : Bool := match l[i]? with
  | some s => p s
  | none => false
theorem rowP_at {α : Type} {l : List α} {p : α → Bool} {i : Nat} {y : α} (h : l[i]? = some y) : rowP l p i = p y := by unfold rowP; rw [h]
theorem range_filter {α : Type} (l : List α) (p : α → Bool) : ∀ n, n ≤ l.length → ((List.range n).filter (rowP l p)).length = ((l.take n).filter p).length
  | 0, _ => by simp
  | n + 1, h => by
    have ih := range_filter l p n (by omega)
    obtain ⟨y, hy⟩ : ∃ y, l[n]? = some y := ⟨_, List.getElem?_eq_getElem (by omega)⟩
    rw [List.range_succ, List.filter_append, List.length_append, ih, List.take_add_one, hy]
    simp only [Option.toList_some, List.filter_append, List.length_append, List.filter_cons, List.filter_nil, rowP_at hy]
    by_cases hp : p y = true <;> simp [hp]
theorem above_le (s : List Int) (hs : s.Pairwise (· ≤ ·)) (q : Nat) (m : Int) (hq : s[q]? = some m) : (s.filter (fun x => decide (m < x))).length + (q + 1) ≤ s.length := by
  have hl := lt_of_get hq
  have h1 : (s.take (q + 1)).filter (fun x => decide (m < x)) = [] := by
    rw [List.filter_eq_nil_iff]
    intro x hx
    obtain ⟨j, hj, rfl⟩ := List.mem_take_iff_getElem.1 hx
    have hq' : s[q] = m := by rw [List.getElem?_eq_getElem hl] at hq; exact Option.some.inj hq
    have : s[j] ≤ s[q] := by
      by_cases e : j = q
      · subst e; omega
      · exact List.pairwise_iff_getElem.1 hs j q (by omega) hl (by omega)
    simp; omega
  have h2 : s.filter (fun x => decide (m < x)) = (s.take (q + 1)).filter (fun x => decide (m < x)) ++ (s.drop (q + 1)).filter (fun x => decide (m < x)) := by
    rw [← List.filter_append, List.take_append_drop]
  rw [h2, h1, List.nil_append]
  have := List.length_filter_le (fun x => decide (m < x)) (s.drop (q + 1))
  rw [List.length_drop] at this
  omega
theorem most_le (t : api_Trace) (k n : Int) (hv : SpV t.fSlices) (h : t.fSlices.length ≤ 60) (h1 : 1 ≤ n) (h2 : n ≤ k) (name : ByteArray) :
    2 * ((List.range t.fSlices.length).filter (fun i => outB t k n i && rowP t.fSlices (fun s => decide (s.fName = name)) i)).length ≤ (closedL t.fSlices name).length := by
  have hlen := closedL_len t.fSlices name
  by_cases hex : ∃ i, i ∈ (List.range t.fSlices.length).filter (fun i => outB t k n i && rowP t.fSlices (fun s => decide (s.fName = name)) i)
  · obtain ⟨i0, hi0⟩ := hex
    have hU : Usu t name (usu t name) ∧ True := by
      have := (List.mem_filter.1 hi0).2
      simp only [Bool.and_eq_true] at this
      obtain ⟨a1, a2⟩ := this
      unfold outB at a1
      cases hy : t.fSlices[i0]? with
      | none => rw [hy] at a1; simp at a1
      | some s =>
        rw [hy] at a1
        rw [rowP_at hy] at a2
        simp only [Bool.and_eq_true] at a1
        have hn := of_decide_eq_true a2
        rw [hn] at a1
        exact ⟨(usual_p t name h).2 a1.1.2, trivial⟩
    obtain ⟨u, hu, huc, hm⟩ := hU.1.s
    have hsub : ((List.range t.fSlices.length).filter (fun i => outB t k n i && rowP t.fSlices (fun s => decide (s.fName = name)) i)).length ≤ ((List.range t.fSlices.length).filter (rowP t.fSlices (fun s => isC name s && decide (lenS u < lenS s)))).length := by
      refine (filter_mono _ (fun i _ hb => ?_)).length_le
      simp only [Bool.and_eq_true] at hb
      obtain ⟨a1, a2⟩ := hb
      unfold outB at a1
      cases hy : t.fSlices[i]? with
      | none => rw [hy] at a1; simp at a1
      | some s =>
        rw [hy] at a1
        rw [rowP_at hy] at a2
        rw [rowP_at hy]
        simp only [Bool.and_eq_true] at a1
        have hn := of_decide_eq_true a2
        obtain ⟨⟨⟨b1, _⟩, b2⟩, b3⟩ := a1
        rw [hn, hu] at b3
        have hlt := of_decide_eq_true b3
        have l1 := lenS_v hv (List.mem_of_getElem? hu)
        have l2 := lenS_v hv (List.mem_of_getElem? hy)
        have hlt2 : lenS u < lenS s := by
          by_cases g : lenS u < lenS s
          · exact g
          · exfalso
            have m1 : n * lenS s ≤ k * lenS u := Int.mul_le_mul h2 (by omega) (by omega) (by omega)
            omega
        simp only [isC, Bool.and_eq_true]
        exact ⟨⟨decide_eq_true hn, b1⟩, decide_eq_true hlt2⟩
    rw [range_filter t.fSlices (fun s => isC name s && decide (lenS u < lenS s)) t.fSlices.length (Nat.le_refl _), List.take_length] at hsub
    have e1 : (t.fSlices.filter (fun s => isC name s && decide (lenS u < lenS s))).length = ((closedL t.fSlices name).filter (fun x => decide (lenS u < x))).length := by
      unfold closedL
      rw [List.filter_map, List.length_map, List.filter_filter]
      congr 2
      funext s
      simp only [Function.comp]
      exact Bool.and_comm _ _
    have e2 : ((closedL t.fSlices name).filter (fun x => decide (lenS u < x))).length = ((sortI (closedL t.fSlices name)).filter (fun x => decide (lenS u < x))).length :=
      ((sortI_perm (closedL t.fSlices name)).filter _).length_eq.symm
    have hsl := (sortI_perm (closedL t.fSlices name)).length_eq
    unfold medS at hm
    cases hq : (sortI (closedL t.fSlices name))[(qIx (closedL t.fSlices name).length).toNat]? with
    | none => rw [hq] at hm; simp at hm
    | some x =>
      rw [hq] at hm
      have hx : x = lenS u := (Prod.mk.inj hm).1
      subst hx
      have := above_le _ (sortI_sorted _) _ _ hq
      have hqi : (qIx (closedL t.fSlices name).length).toNat + 1 ≥ ((closedL t.fSlices name).length + 1) / 2 := by
        unfold qIx; omega
      omega
  · have : (List.range t.fSlices.length).filter (fun i => outB t k n i && rowP t.fSlices (fun s => decide (s.fName = name)) i) = [] := by
      rw [List.eq_nil_iff_forall_not_mem]
      intro i hi
      exact hex ⟨i, hi⟩
    rw [this]; simp
theorem anomalyMost_holds (t : api_Trace) (k n : Int) (h : okr_api_Trace t) : tracebooklaw54_AnomalyMost t k n = some true := by
  have hz := siz_of h
  have : Ok (tracebooklaw54_AnomalyMost t k n) (fun b => b = true) := by
    unfold tracebooklaw54_AnomalyMost
    rw [awake54]
    simp only [Option.bind_some]
    refine ok_bind (few54 t) (fun b hb => ?_)
    refine ok_not (fun _ => ok_some rfl) (fun e => ?_)
    obtain ⟨ht, hs⟩ := hb e
    refine ok_bind (Of_ok t k n hz ht hs) (fun r hr => ?_)
    have hidx : ∀ o ∈ r.1, 0 ≤ o.fSlice ∧ o.fSlice < t.fSlices.length := by
      intro o ho
      rcases hr with ⟨_, h0⟩ | ⟨_, _, _, _, h3⟩
      · rw [h0] at ho; simp at ho
      · have hm : o.fSlice ∈ r.1.map (·.fSlice) := List.mem_map.2 ⟨o, ho, rfl⟩
        rw [h3] at hm
        obtain ⟨i, hi, e⟩ := List.mem_map.1 hm
        have := (List.mem_filter.1 hi).1
        rw [List.mem_range] at this
        omega
    have l3 : r.1.length ≤ 60 := by
      rcases hr with ⟨_, h0⟩ | ⟨_, _, _, _, h3⟩
      · rw [h0]; simp
      · have e := congrArg List.length h3
        simp only [List.length_map] at e
        have := List.length_filter_le (outB t k n) (List.range t.fSlices.length)
        simp at this; omega
    have hbound : ∀ name : ByteArray, 2 * (r.1.filter (fun o => rowP t.fSlices (fun s => decide (s.fName = name)) o.fSlice.toNat)).length ≤ (closedL t.fSlices name).length := by
      intro name
      rcases hr with ⟨_, h0⟩ | ⟨hv, g1, g2, _, h3⟩
      · rw [h0]; simp
      · have hm := most_le t k n hv hs g1 g2 name
        have e : (r.1.filter (fun o => rowP t.fSlices (fun s => decide (s.fName = name)) o.fSlice.toNat)).length = ((List.range t.fSlices.length).filter (fun i => outB t k n i && rowP t.fSlices (fun s => decide (s.fName = name)) i)).length := by
          have e1 : (r.1.filter (fun o => rowP t.fSlices (fun s => decide (s.fName = name)) o.fSlice.toNat)).length = ((r.1.map (·.fSlice)).filter (fun x : Int => rowP t.fSlices (fun s => decide (s.fName = name)) x.toNat)).length := by
            rw [List.filter_map, List.length_map]; rfl
          rw [e1, h3, List.filter_map, List.length_map, List.filter_filter]
          congr 2
          funext i
          simp only [Function.comp, Int.toNat_natCast]
          exact Bool.and_comm _ _
        rw [e]; exact hm
    refine ok_bindS (Q := InlR Yes (fun b => b = true)) (ok_upM t.fSlices.length (fun _ => True) (by omega) trivial (fun i _ hi2 => ?_)) (fun _ _ => ok_some rfl) (fun r hr => ok_some hr)
    unfold tracebooklaw54_AnomalyMost_L3
    refine ok_ite (fun hi => ?_) (fun _ => ok_inr trivial)
    obtain ⟨y, hiy, hy⟩ := ok_ixM (xs := t.fSlices) (i := i) (by omega)
    rw [hiy, Option.bind_some]
    refine ok_bind (Q := fun e => e = ((closedL t.fSlices y.fName).length : Int)) (ok_up2M t.fSlices.length (fun a n => a = ((closedL (t.fSlices.take n) y.fName).length : Int)) (by omega) (by simp [closedL]) (fun a j hJ hj => ?_)) (fun e he => ?_)
    · unfold tracebooklaw54_AnomalyMost_L2
      dsimp only
      refine ok_ite (fun hj2 => ?_) (fun hj2 => ok_inr (by rw [hJ, List.take_of_length_le (by omega)]))
      obtain ⟨z, hjz, hz2⟩ := ok_ixM (xs := t.fSlices) (i := j) (by omega)
      refine ok_bind (Q := fun r => r = ((closedL (t.fSlices.take (j + 1)) y.fName).length : Int)) ?_ (fun r hr => ?_)
      · rw [hjz, Option.bind_some]
        have hl := closedL_len (t.fSlices.take j) y.fName
        rw [List.length_take] at hl
        have e : ((closedL (t.fSlices.take (j + 1)) y.fName).length : Int) = a + (if isC y.fName z = true then 1 else 0) := by
          rw [hJ]
          unfold closedL
          rw [List.take_add_one, hz2]
          simp only [Option.toList_some, List.filter_append, List.map_append, List.length_append, List.length_map]
          by_cases hc : isC y.fName z = true <;> simp [hc]
        rw [e]
        by_cases b1 : z.fName = y.fName
        · cases b2 : z.fOpen with
          | true => simp [b1, b2, isC, Ok]
          | false =>
            simp only [b1, b2, isC, decide_true, cond_true, Bool.not_false, Option.bind_some, Bool.and_self, if_true]
            rw [w64_of (by omega)]
            exact ok_some rfl
        · simp [b1, isC, Ok]
      · rw [w64_M (n := t.fSlices.length) (by omega) (by omega)]
        exact ok_inl ⟨by omega, rfl, hr⟩
    · refine ok_bindS (Q := InlR (fun a : Int => a = ((r.1.filter (fun o => rowP t.fSlices (fun s => decide (s.fName = y.fName)) o.fSlice.toNat)).length : Int)) (fun _ => False)) (ok_up2M r.1.length (fun a n => a = (((r.1.take n).filter (fun o => rowP t.fSlices (fun s => decide (s.fName = y.fName)) o.fSlice.toNat)).length : Int)) (by omega) (by simp) (fun a j hJ hj => ?_)) (fun a ha => ?_) (fun q hq => (hq : False).elim)
      · unfold tracebooklaw54_AnomalyMost_L1
        dsimp only
        refine ok_ite (fun hj2 => ?_) (fun hj2 => ok_inr (by show a = _; rw [hJ, List.take_of_length_le (by omega)]))
        obtain ⟨o, hjo, ho⟩ := ok_ixM (xs := r.1) (i := j) (by omega)
        rw [hjo, Option.bind_some]
        obtain ⟨o1, o2⟩ := hidx o (List.mem_of_getElem? ho)
        refine ok_bind (Q := fun v => v = false) ?_ (fun v hv => ?_)
        · refine ok_ite (fun g => by omega) (fun _ => ok_some (decide_eq_false (by omega)))
        subst hv
        refine ok_cond (fun e => by simp at e) (fun _ => ?_)
        obtain ⟨s, his, hs2⟩ := ok_idx (xs := t.fSlices) o1 o2
        rw [his, Option.bind_some]
        refine ok_bind (Q := fun b => b = (((r.1.take (j + 1)).filter (fun o => rowP t.fSlices (fun s => decide (s.fName = y.fName)) o.fSlice.toNat)).length : Int)) ?_ (fun b hb => ?_)
        · have hl := List.length_filter_le (fun o : api_Outlier => rowP t.fSlices (fun s => decide (s.fName = y.fName)) o.fSlice.toNat) (r.1.take j)
          rw [List.length_take] at hl
          rw [List.take_add_one, ho]
          simp only [Option.toList_some, List.filter_append, List.length_append, List.filter_cons, List.filter_nil, rowP_at hs2]
          by_cases b1 : s.fName = y.fName
          · simp only [b1, decide_true, cond_true, if_true, List.length_cons, List.length_nil]
            rw [w64_of (by omega)]
            exact ok_some (by omega)
          · simp only [b1, decide_false, cond_false]
            exact ok_some (by simp [hJ])
        · rw [w64_M (n := r.1.length) (by omega) (by omega)]
          exact ok_inl ⟨by omega, rfl, hb⟩
      · have ha' : a = ((r.1.filter (fun o => rowP t.fSlices (fun s => decide (s.fName = y.fName)) o.fSlice.toNat)).length : Int) := ha
        have hb2 := hbound y.fName
        have hl := closedL_len t.fSlices y.fName
        dsimp only
        rw [he, ha', w64_of (by omega)]
        refine ok_ite (fun g => by omega) (fun _ => ?_)
        rw [w64_M (n := t.fSlices.length) (by omega) (by omega)]
        exact ok_inl ⟨by omega, rfl, trivial⟩
  obtain ⟨r, h1, h2⟩ := this
  rw [h1, h2]
end Go.VM
