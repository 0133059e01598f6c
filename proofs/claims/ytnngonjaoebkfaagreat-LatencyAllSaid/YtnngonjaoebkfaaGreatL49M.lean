/- The law holds: plain mathematics on what the functions compute. -/
import Derived.Test.YtnngonjaoebkfaaGreatL49B
namespace Go.VM
def firstL {α ρ : Type} (g : Nat → α → Option ρ) : List α → Nat → Option ρ
  | [], _ => none
  | y :: ys, i => match g i y with
    | some r => some r
    | none => firstL g ys (i + 1)
theorem firstL_find {α ρ : Type} (p : α → Bool) (f : α → ρ) : ∀ (xs : List α) (i : Nat), firstL (fun _ y => if p y = true then some (f y) else none) xs i = (xs.find? p).map f
  | [], _ => rfl
  | y :: ys, i => by
    simp only [firstL, List.find?_cons]
    cases h : p y with
    | true => simp
    | false => simp [firstL_find p f ys]
theorem firstL_none {α ρ : Type} {g : Nat → α → Option ρ} : ∀ {xs : List α} {i : Nat}, firstL g xs i = none ↔ ∀ j y, xs[j]? = some y → g (i + j) y = none
  | [], i => by simp [firstL]
  | y :: ys, i => by
    simp only [firstL]
    cases h : g i y with
    | some r =>
      simp only [reduceCtorEq, false_iff]
      intro hx
      have := hx 0 y rfl
      rw [Nat.add_zero, h] at this; simp at this
    | none =>
      rw [firstL_none (xs := ys) (i := i + 1)]
      constructor
      · intro hx j y' hj
        cases j with
        | zero => simp at hj; subst hj; exact h
        | succ j => have := hx j y' (by simpa using hj); rwa [show i + 1 + j = i + (j + 1) from by omega] at this
      · intro hx j y' hj
        have := hx (j + 1) y' (by simpa using hj)
        rwa [show i + (j + 1) = i + 1 + j from by omega] at this
theorem firstL_some {α ρ : Type} {g : Nat → α → Option ρ} {r : ρ} : ∀ {xs : List α} {i : Nat}, firstL g xs i = some r → ∃ j y, xs[j]? = some y ∧ g (i + j) y = some r ∧ ∀ k z, k < j → xs[k]? = some z → g (i + k) z = none
  | [], i, h => by simp [firstL] at h
  | y :: ys, i, h => by
    simp only [firstL] at h
    cases hg : g i y with
    | some r' =>
      rw [hg] at h; cases h
      exact ⟨0, y, rfl, hg, fun k z hk => by omega⟩
    | none =>
      rw [hg] at h
      obtain ⟨j, z, h1, h2, h3⟩ := firstL_some h
      refine ⟨j + 1, z, by simpa using h1, by rw [← h2]; congr 1; omega, fun k u hk hu => ?_⟩
      cases k with
      | zero => simp at hu; subst hu; exact hg
      | succ k => have := h3 k u (by omega) (by simpa using hu); rwa [show i + 1 + k = i + (k + 1) from by omega] at this
theorem forL_first {α ρ : Type} (g : Nat → α → Option ρ) (e : ρ) : ∀ (xs : List α) (i : Nat), forL (fun i y (_ : Unit) => match g i y with | some r => Sum.inr r | none => .inl ()) (fun _ => e) xs i () = (firstL g xs i).getD e
  | [], _ => rfl
  | y :: ys, i => by
    simp only [forL, firstL]
    cases g i y with
    | some r => rfl
    | none => exact forL_first g e ys (i + 1)
theorem loop_first {α ρ : Type} {step : Int → Option (Int ⊕ ρ)} (xs : List α) (g : Nat → α → Option ρ) (e : ρ) (hl : xs.length < manyRounds)
    (h1 : ∀ (i : Nat) y, xs[i]? = some y → step (i : Int) = some (match g i y with | some r => .inr r | none => .inl ((i : Int) + 1))) (h2 : step (xs.length : Int) = some (.inr e)) : loop step 0 = some ((firstL g xs 0).getD e) := by
  have := loop_for0 (σ := Unit) (step := step) xs (fun i _ => (i : Int)) (fun i y _ => match g i y with | some r => .inr r | none => .inl ()) (fun _ => e) hl
    (fun i y s hy => by
      rw [h1 i y hy]
      cases g i y <;> simp)
    (fun _ => h2) ()
  rw [show (0 : Int) = ((0 : Nat) : Int) from rfl, this, forL_first]
theorem lt_of_get {α : Type} {xs : List α} {i : Nat} {y : α} (h : xs[i]? = some y) : i < xs.length := (List.getElem?_eq_some_iff.1 h).1
theorem w64_nat {i : Nat} (h : i < 9223372036854775807) : w64 ((i : Int) + 1) = (i : Int) + 1 := w64_of (by omega)
end Go.VM
namespace Go.VM
theorem spans_Valid_eq (s : api_Span) : spans_Valid s = some (decide (0 ≤ s.fFrom ∧ s.fFrom < s.fTo ∧ s.fTo ≤ 1000000000000)) := by
  unfold spans_Valid
  by_cases h1 : 0 ≤ s.fFrom <;> by_cases h2 : s.fFrom < s.fTo <;> by_cases h3 : s.fTo ≤ 1000000000000 <;> simp [h1, h2, h3]
def zeroState : api_State := { fThread := 0, fState := 0, fSpan := { fFrom := 0, fTo := 0 }, fCpu := 0, fOn := 0, fBy := 0 }
def atB (th t : Int) (s : api_State) : Bool := decide (s.fThread = th ∧ s.fSpan.fFrom ≤ t ∧ t < s.fSpan.fTo)
def stAt (l : List api_State) (th t : Int) : api_State × Bool := match l.find? (atB th t) with
  | some s => (s, true)
  | none => (zeroState, false)
def Ok {α : Type} (x : Option α) (P : α → Prop) : Prop := ∃ r, x = some r ∧ P r
def Yes {α : Type} : α → Prop := fun _ => True
def InlR {α β : Type} (A : α → Prop) (B : β → Prop) : α ⊕ β → Prop
  | .inl a => A a
  | .inr b => B b
theorem ok_some {α : Type} {P : α → Prop} {r : α} (h : P r) : Ok (some r) P := ⟨r, rfl, h⟩
theorem ok_inl {α β : Type} {A : α → Prop} {B : β → Prop} {a : α} (h : A a) : Ok (some (.inl a)) (InlR A B) := ⟨_, rfl, h⟩
theorem ok_inr {α β : Type} {A : α → Prop} {B : β → Prop} {b : β} (h : B b) : Ok (some (.inr b)) (InlR A B) := ⟨_, rfl, h⟩
theorem ok_bind {α β : Type} {x : Option α} {f : α → Option β} {Q : α → Prop} {P : β → Prop} (hx : Ok x Q) (hf : ∀ r, Q r → Ok (f r) P) : Ok (x.bind f) P := by
  obtain ⟨r, h1, h2⟩ := hx
  subst h1; exact hf r h2
theorem ok_bindS {α β γ : Type} {x : Option (α ⊕ γ)} {f : α ⊕ γ → Option β} {Q : α ⊕ γ → Prop} {P : β → Prop} (hx : Ok x Q) (hf : ∀ r, Q (.inl r) → Ok (f (.inl r)) P) (hg : ∀ r, Q (.inr r) → Ok (f (.inr r)) P) : Ok (x.bind f) P :=
  ok_bind hx (fun r => match r with | .inl a => hf a | .inr b => hg b)
theorem ok_bindE {α β : Type} {x : Option α} {f : α → Option β} {P : β → Prop} (hx : Ok x Yes) (hf : ∀ r, x = some r → Ok (f r) P) : Ok (x.bind f) P := by
  obtain ⟨r, h1, h2⟩ := hx
  subst h1; exact hf r rfl
theorem ok_cond {α : Type} {b : Bool} {x y : Option α} {P : α → Prop} (h1 : b = true → Ok x P) (h2 : b = false → Ok y P) : Ok (cond b x y) P := by
  cases b
  · exact h2 rfl
  · exact h1 rfl
theorem Ok.mono {α : Type} {x : Option α} {P Q : α → Prop} (h : Ok x P) (hq : ∀ r, P r → Q r) : Ok x Q := by
  obtain ⟨r, h1, h2⟩ := h; exact ⟨r, h1, hq r h2⟩
theorem Ok.yes {α : Type} {x : Option α} {P : α → Prop} (h : Ok x P) : Ok x Yes := h.mono (fun _ _ => trivial)
theorem Ok.of_eq {α : Type} {x : Option α} {P : α → Prop} {r : α} (h : Ok x P) (e : x = some r) : P r := by
  obtain ⟨r', h1, h2⟩ := h; rw [e] at h1; cases h1; exact h2
theorem ok_idx {α : Type} {xs : List α} {i : Int} (h1 : 0 ≤ i) (h2 : i < xs.length) : Ok (idx xs i) (fun y => xs[i.toNat]? = some y) := by
  obtain ⟨n, rfl⟩ := Int.eq_ofNat_of_zero_le h1
  have h3 : n < xs.length := by omega
  rw [idx_nat]
  exact ⟨xs[n], by simp [h3], by simp [h3]⟩
theorem ok_loop {S ρ : Type} {step : S → Option (S ⊕ ρ)} (Inv : S → Prop) (m : S → Nat) {Post : ρ → Prop}
    (h : ∀ s, Inv s → Ok (step s) (InlR (fun s' => Inv s' ∧ m s' < m s) Post)) {s : S} (hs : Inv s) (hm : m s < manyRounds) : Ok (loop step s) Post := by
  refine loop_inv Inv m Post (fun s hs => ?_) hs hm
  obtain ⟨r, h1, h2⟩ := h s hs
  cases r with
  | inl a => exact Or.inl ⟨a, h1, h2⟩
  | inr b => exact Or.inr ⟨b, h1, h2⟩
theorem ok_up {ρ : Type} {step : Int → Option (Int ⊕ ρ)} (n : Nat) {Post : ρ → Prop} (hn : n ≤ 9223372036854775807)
    (h : ∀ i : Int, 0 ≤ i → i ≤ n → Ok (step i) (InlR (fun a => i < n ∧ a = i + 1) Post)) : Ok (loop step 0) Post := by
  refine ok_loop (fun i : Int => 0 ≤ i ∧ i ≤ (n : Int)) (fun i : Int => ((n : Int) - i).toNat) (fun i hi => (h i hi.1 hi.2).mono ?_) ⟨by omega, by omega⟩ (by simp [manyRounds]; omega)
  rintro (a | b) hr
  · obtain ⟨h1, rfl⟩ : i < n ∧ a = i + 1 := hr
    exact ⟨⟨by omega, by omega⟩, by omega⟩
  · exact hr
theorem ok_yes {α : Type} {r : α} : Ok (some r) Yes := ⟨r, rfl, trivial⟩
theorem ok_inlY {α β : Type} {B : β → Prop} {a : α} : Ok (some (.inl a)) (InlR Yes B) := ⟨_, rfl, trivial⟩
theorem ok_inrY {α β : Type} {A : α → Prop} {b : β} : Ok (some (.inr b)) (InlR A Yes) := ⟨_, rfl, trivial⟩
theorem ok_next {ρ : Type} {i : Int} {n : Nat} {P : ρ → Prop} (h1 : 0 ≤ i) (h2 : i < (n : Int)) (h3 : n ≤ 9223372036854775807) : Ok (some (.inl (w64 (i + 1)))) (InlR (fun a : Int => i < (n : Int) ∧ a = i + 1) P) :=
  ok_inl ⟨h2, w64_of (by omega)⟩
theorem ok_ite {α : Type} {p : Prop} [Decidable p] {x y : Option α} {P : α → Prop} (h1 : p → Ok x P) (h2 : ¬p → Ok y P) : Ok (cond (decide p) x y) P :=
  ok_cond (fun h => h1 (of_decide_eq_true h)) (fun h => h2 (of_decide_eq_false h))
theorem ok_nite {α : Type} {p : Prop} [Decidable p] {x y : Option α} {P : α → Prop} (h1 : ¬p → Ok x P) (h2 : p → Ok y P) : Ok (cond (!decide p) x y) P := by
  by_cases h : p
  · simpa [h] using h2 h
  · simpa [h] using h1 h
theorem ok_not {α : Type} {b : Bool} {x y : Option α} {P : α → Prop} (h1 : b = false → Ok x P) (h2 : b = true → Ok y P) : Ok (cond (!b) x y) P := by
  cases b
  · exact h1 rfl
  · exact h2 rfl
theorem yes_of {α : Type} {x : Option α} {P : α → Prop} (h : Ok x P) : Ok x Yes := h.yes
abbrev Tot {α : Type} (x : Option α) : Prop := Ok x Yes
theorem ok_up2 {σ ρ : Type} {step : σ × Int → Option ((σ × Int) ⊕ ρ)} (n : Nat) (Inv : σ → Int → Prop) {Post : ρ → Prop} (hn : n ≤ 9223372036854775807) {s0 : σ} (h0 : Inv s0 0)
    (h : ∀ (s : σ) (i : Int), Inv s i → 0 ≤ i → i ≤ n → Ok (step (s, i)) (InlR (fun a => i < n ∧ a.2 = i + 1 ∧ Inv a.1 (i + 1)) Post)) : Ok (loop step (s0, 0)) Post := by
  refine ok_loop (fun s : σ × Int => Inv s.1 s.2 ∧ 0 ≤ s.2 ∧ s.2 ≤ (n : Int)) (fun s : σ × Int => ((n : Int) - s.2).toNat) (fun s hi => (h s.1 s.2 hi.1 hi.2.1 hi.2.2).mono ?_) ⟨h0, by simp, by simp⟩ (by simp [manyRounds]; omega)
  rintro (⟨a, j⟩ | b) hr
  · obtain ⟨h1, h2, h3⟩ : s.2 < n ∧ j = s.2 + 1 ∧ Inv a (s.2 + 1) := hr
    subst h2
    exact ⟨⟨h3, by simp; omega, by simp; omega⟩, by simp; omega⟩
  · exact hr
theorem ok_next2 {σ ρ : Type} {s : σ} {i : Int} {n : Nat} {Inv : σ → Int → Prop} {P : ρ → Prop} (hI : Inv s (i + 1)) (h1 : 0 ≤ i) (h2 : i < (n : Int)) (h3 : n ≤ 9223372036854775807) : Ok (some (.inl (s, w64 (i + 1)))) (InlR (fun a : σ × Int => i < (n : Int) ∧ a.2 = i + 1 ∧ Inv a.1 (i + 1)) P) :=
  ok_inl ⟨h2, w64_of (by omega), hI⟩
theorem ok_upI {ρ : Type} {step : Int → Option (Int ⊕ ρ)} (n : Nat) (Inv : Int → Prop) {Post : ρ → Prop} (hn : n ≤ 9223372036854775807) (h0 : Inv 0)
    (h : ∀ i : Int, Inv i → 0 ≤ i → i ≤ n → Ok (step i) (InlR (fun a => i < n ∧ a = i + 1 ∧ Inv (i + 1)) Post)) : Ok (loop step 0) Post := by
  refine ok_loop (fun i : Int => Inv i ∧ 0 ≤ i ∧ i ≤ (n : Int)) (fun i : Int => ((n : Int) - i).toNat) (fun i hi => (h i hi.1 hi.2.1 hi.2.2).mono ?_) ⟨h0, by omega, by omega⟩ (by simp [manyRounds]; omega)
  rintro (a | b) hr
  · obtain ⟨h1, rfl, h3⟩ : i < n ∧ a = i + 1 ∧ Inv (i + 1) := hr
    exact ⟨⟨h3, by omega, by omega⟩, by omega⟩
  · exact hr
theorem ok_nextI {ρ : Type} {i : Int} {n : Nat} {Inv : Int → Prop} {P : ρ → Prop} (hI : Inv (i + 1)) (h1 : 0 ≤ i) (h2 : i < (n : Int)) (h3 : n ≤ 9223372036854775807) : Ok (some (.inl (w64 (i + 1)))) (InlR (fun a : Int => i < (n : Int) ∧ a = i + 1 ∧ Inv (i + 1)) P) :=
  ok_inl ⟨h2, w64_of (by omega), hI⟩
theorem room_ok {b n : Nat} (h1 : n * b ≤ 140737488355328) (h2 : n ≤ 9223372036854775807) : room b n = true := by
  simp only [room, Bool.and_eq_true]
  exact ⟨Nat.ble_eq_true_of_le h1, Nat.ble_eq_true_of_le h2⟩
theorem intern_letter_ok (c : Int) : Ok (intern_letter c) Yes := by
  unfold intern_letter strings_IndexByte internal_stringslite_IndexByte
  repeat' (first | with_reducible exact ok_yes | with_reducible exact ok_inrY | with_reducible exact ok_inlY | (with_reducible refine ok_next ?_ ?_ ?_ <;> (first | assumption | omega | (rw [w64_of] <;> omega))) | (with_reducible refine ok_nite (fun _ => ?_) (fun _ => ?_)) | (with_reducible refine ok_ite (fun _ => ?_) (fun _ => ?_)) | (with_reducible refine ok_not (fun _ => ?_) (fun _ => ?_)) | (with_reducible refine ok_cond (fun _ => ?_) (fun _ => ?_)) | with_reducible refine ok_bind (ok_idx (by (first | assumption | omega | (rw [w64_of] <;> omega))) (by (first | assumption | omega | (rw [w64_of] <;> omega)))) (fun _ _ => ?_) | (with_reducible refine ok_bind (Q := Yes) ?_ (fun _ _ => ?_)) | dsimp only)
theorem intern_Name_ok (s : ByteArray) (h : s.size ≤ 9223372036854775807) : Ok (intern_Name s) Yes := by
  unfold intern_Name
  refine ok_bind (Q := Yes) ?_ (fun v _ => ?_)
  · repeat' (first | with_reducible exact ok_yes | with_reducible exact ok_inrY | with_reducible exact ok_inlY | (with_reducible refine ok_next ?_ ?_ ?_ <;> (first | assumption | omega | (rw [w64_of] <;> omega))) | (with_reducible refine ok_nite (fun _ => ?_) (fun _ => ?_)) | (with_reducible refine ok_ite (fun _ => ?_) (fun _ => ?_)) | (with_reducible refine ok_not (fun _ => ?_) (fun _ => ?_)) | (with_reducible refine ok_cond (fun _ => ?_) (fun _ => ?_)) | with_reducible refine ok_bind (ok_idx (by (first | assumption | omega | (rw [w64_of] <;> omega))) (by (first | assumption | omega | (rw [w64_of] <;> omega)))) (fun _ _ => ?_) | (with_reducible refine ok_bind (Q := Yes) ?_ (fun _ _ => ?_)) | dsimp only)
  refine ok_cond (fun _ => ok_some trivial) (fun _ => ?_)
  have e : s.data.toList.length = s.size := by rw [Array.length_toList]; rfl
  refine ok_bindS (Q := Yes) (ok_up s.size h fun i h1 h2 => ?_) (fun _ _ => ?_) (fun _ _ => ?_)
  · unfold intern_Name_L1
    repeat' (first | with_reducible exact ok_yes | with_reducible exact ok_inrY | with_reducible exact ok_inlY | (with_reducible refine ok_next ?_ ?_ ?_ <;> (first | assumption | omega | (rw [w64_of] <;> omega))) | (with_reducible refine ok_nite (fun _ => ?_) (fun _ => ?_)) | (with_reducible refine ok_ite (fun _ => ?_) (fun _ => ?_)) | (with_reducible refine ok_not (fun _ => ?_) (fun _ => ?_)) | (with_reducible refine ok_cond (fun _ => ?_) (fun _ => ?_)) | with_reducible refine ok_bind (ok_idx (by (first | assumption | omega | (rw [w64_of] <;> omega))) (by (first | assumption | omega | (rw [w64_of] <;> omega)))) (fun _ _ => ?_) | (with_reducible refine Ok.yes (ok_idx ?_ (by rw [e]; (first | assumption | omega | (rw [w64_of] <;> omega)))) <;> (first | assumption | omega | (rw [w64_of] <;> omega))) | (with_reducible refine Ok.yes (intern_letter_ok _) <;> (first | assumption | omega | (rw [w64_of] <;> omega))) | (with_reducible refine ok_bind (Q := Yes) ?_ (fun _ _ => ?_)) | dsimp only)
  · repeat' (first | with_reducible exact ok_yes | with_reducible exact ok_inrY | with_reducible exact ok_inlY | (with_reducible refine ok_next ?_ ?_ ?_ <;> (first | assumption | omega | (rw [w64_of] <;> omega))) | (with_reducible refine ok_nite (fun _ => ?_) (fun _ => ?_)) | (with_reducible refine ok_ite (fun _ => ?_) (fun _ => ?_)) | (with_reducible refine ok_not (fun _ => ?_) (fun _ => ?_)) | (with_reducible refine ok_cond (fun _ => ?_) (fun _ => ?_)) | with_reducible refine ok_bind (ok_idx (by (first | assumption | omega | (rw [w64_of] <;> omega))) (by (first | assumption | omega | (rw [w64_of] <;> omega)))) (fun _ _ => ?_) | (with_reducible refine ok_bind (Q := Yes) ?_ (fun _ _ => ?_)) | dsimp only)
  · repeat' (first | with_reducible exact ok_yes | with_reducible exact ok_inrY | with_reducible exact ok_inlY | (with_reducible refine ok_next ?_ ?_ ?_ <;> (first | assumption | omega | (rw [w64_of] <;> omega))) | (with_reducible refine ok_nite (fun _ => ?_) (fun _ => ?_)) | (with_reducible refine ok_ite (fun _ => ?_) (fun _ => ?_)) | (with_reducible refine ok_not (fun _ => ?_) (fun _ => ?_)) | (with_reducible refine ok_cond (fun _ => ?_) (fun _ => ?_)) | with_reducible refine ok_bind (ok_idx (by (first | assumption | omega | (rw [w64_of] <;> omega))) (by (first | assumption | omega | (rw [w64_of] <;> omega)))) (fun _ _ => ?_) | (with_reducible refine ok_bind (Q := Yes) ?_ (fun _ _ => ?_)) | dsimp only)
abbrev okN (s : ByteArray) : Prop := s.size ≤ 9223372036854775807
theorem producer_Thread_ok (t : api_Thread) (h : okN t.fName) : Ok (producer_Thread t) Yes := by
  unfold producer_Thread
  repeat' (first | with_reducible exact ok_yes | with_reducible exact ok_inrY | with_reducible exact ok_inlY | (with_reducible refine ok_next ?_ ?_ ?_ <;> (first | assumption | omega | (rw [w64_of] <;> omega))) | (with_reducible refine ok_nite (fun _ => ?_) (fun _ => ?_)) | (with_reducible refine ok_ite (fun _ => ?_) (fun _ => ?_)) | (with_reducible refine ok_not (fun _ => ?_) (fun _ => ?_)) | (with_reducible refine ok_cond (fun _ => ?_) (fun _ => ?_)) | with_reducible refine ok_bind (ok_idx (by (first | assumption | omega | (rw [w64_of] <;> omega))) (by (first | assumption | omega | (rw [w64_of] <;> omega)))) (fun _ _ => ?_) | (with_reducible refine Ok.yes (intern_Name_ok _ h) <;> (first | assumption | omega | (rw [w64_of] <;> omega))) | (with_reducible refine ok_bind (Q := Yes) ?_ (fun _ _ => ?_)) | dsimp only)
theorem spans_Valid_ok (s : api_Span) : Ok (spans_Valid s) Yes := by
  unfold spans_Valid
  repeat' (first | with_reducible exact ok_yes | with_reducible exact ok_inrY | with_reducible exact ok_inlY | (with_reducible refine ok_next ?_ ?_ ?_ <;> (first | assumption | omega | (rw [w64_of] <;> omega))) | (with_reducible refine ok_nite (fun _ => ?_) (fun _ => ?_)) | (with_reducible refine ok_ite (fun _ => ?_) (fun _ => ?_)) | (with_reducible refine ok_not (fun _ => ?_) (fun _ => ?_)) | (with_reducible refine ok_cond (fun _ => ?_) (fun _ => ?_)) | with_reducible refine ok_bind (ok_idx (by (first | assumption | omega | (rw [w64_of] <;> omega))) (by (first | assumption | omega | (rw [w64_of] <;> omega)))) (fun _ _ => ?_) | (with_reducible refine ok_bind (Q := Yes) ?_ (fun _ _ => ?_)) | dsimp only)
theorem cmp_Compare_int_ok (a b : Int) : Ok (cmp_Compare_int a b) Yes := by
  unfold cmp_Compare_int cmp_isNaN_int
  repeat' (first | with_reducible exact ok_yes | with_reducible exact ok_inrY | with_reducible exact ok_inlY | (with_reducible refine ok_next ?_ ?_ ?_ <;> (first | assumption | omega | (rw [w64_of] <;> omega))) | (with_reducible refine ok_nite (fun _ => ?_) (fun _ => ?_)) | (with_reducible refine ok_ite (fun _ => ?_) (fun _ => ?_)) | (with_reducible refine ok_not (fun _ => ?_) (fun _ => ?_)) | (with_reducible refine ok_cond (fun _ => ?_) (fun _ => ?_)) | with_reducible refine ok_bind (ok_idx (by (first | assumption | omega | (rw [w64_of] <;> omega))) (by (first | assumption | omega | (rw [w64_of] <;> omega)))) (fun _ _ => ?_) | (with_reducible refine ok_bind (Q := Yes) ?_ (fun _ _ => ?_)) | dsimp only)
theorem cmp_Or_int_ok (l : List Int) (h : l.length ≤ 9223372036854775807) : Ok (cmp_Or_int l) Yes := by
  unfold cmp_Or_int
  refine ok_bindS (Q := Yes) (ok_up l.length (by omega) fun i h1 h2 => ?_) (fun _ _ => ?_) (fun _ _ => ?_)
  · unfold cmp_Or_int_L1
    repeat' (first | with_reducible exact ok_yes | with_reducible exact ok_inrY | with_reducible exact ok_inlY | (with_reducible refine ok_next ?_ ?_ ?_ <;> (first | assumption | omega | (rw [w64_of] <;> omega))) | (with_reducible refine ok_nite (fun _ => ?_) (fun _ => ?_)) | (with_reducible refine ok_ite (fun _ => ?_) (fun _ => ?_)) | (with_reducible refine ok_not (fun _ => ?_) (fun _ => ?_)) | (with_reducible refine ok_cond (fun _ => ?_) (fun _ => ?_)) | with_reducible refine ok_bind (ok_idx (by (first | assumption | omega | (rw [w64_of] <;> omega))) (by (first | assumption | omega | (rw [w64_of] <;> omega)))) (fun _ _ => ?_) | (with_reducible refine ok_bind (Q := Yes) ?_ (fun _ _ => ?_)) | dsimp only)
  · repeat' (first | with_reducible exact ok_yes | with_reducible exact ok_inrY | with_reducible exact ok_inlY | (with_reducible refine ok_next ?_ ?_ ?_ <;> (first | assumption | omega | (rw [w64_of] <;> omega))) | (with_reducible refine ok_nite (fun _ => ?_) (fun _ => ?_)) | (with_reducible refine ok_ite (fun _ => ?_) (fun _ => ?_)) | (with_reducible refine ok_not (fun _ => ?_) (fun _ => ?_)) | (with_reducible refine ok_cond (fun _ => ?_) (fun _ => ?_)) | with_reducible refine ok_bind (ok_idx (by (first | assumption | omega | (rw [w64_of] <;> omega))) (by (first | assumption | omega | (rw [w64_of] <;> omega)))) (fun _ _ => ?_) | (with_reducible refine ok_bind (Q := Yes) ?_ (fun _ _ => ?_)) | dsimp only)
  · repeat' (first | with_reducible exact ok_yes | with_reducible exact ok_inrY | with_reducible exact ok_inlY | (with_reducible refine ok_next ?_ ?_ ?_ <;> (first | assumption | omega | (rw [w64_of] <;> omega))) | (with_reducible refine ok_nite (fun _ => ?_) (fun _ => ?_)) | (with_reducible refine ok_ite (fun _ => ?_) (fun _ => ?_)) | (with_reducible refine ok_not (fun _ => ?_) (fun _ => ?_)) | (with_reducible refine ok_cond (fun _ => ?_) (fun _ => ?_)) | with_reducible refine ok_bind (ok_idx (by (first | assumption | omega | (rw [w64_of] <;> omega))) (by (first | assumption | omega | (rw [w64_of] <;> omega)))) (fun _ _ => ?_) | (with_reducible refine ok_bind (Q := Yes) ?_ (fun _ _ => ?_)) | dsimp only)
theorem slice_compare_ok (a b : api_Slice) : Ok (slice_compare a b) Yes := by
  unfold slice_compare
  repeat' (first | with_reducible exact ok_yes | with_reducible exact ok_inrY | with_reducible exact ok_inlY | (with_reducible refine ok_next ?_ ?_ ?_ <;> (first | assumption | omega | (rw [w64_of] <;> omega))) | (with_reducible refine ok_nite (fun _ => ?_) (fun _ => ?_)) | (with_reducible refine ok_ite (fun _ => ?_) (fun _ => ?_)) | (with_reducible refine ok_not (fun _ => ?_) (fun _ => ?_)) | (with_reducible refine ok_cond (fun _ => ?_) (fun _ => ?_)) | with_reducible refine ok_bind (ok_idx (by (first | assumption | omega | (rw [w64_of] <;> omega))) (by (first | assumption | omega | (rw [w64_of] <;> omega)))) (fun _ _ => ?_) | (with_reducible refine Ok.yes (cmp_Compare_int_ok _ _) <;> (first | assumption | omega | (rw [w64_of] <;> omega))) | (with_reducible refine Ok.yes (cmp_Or_int_ok _ (Nat.le_of_ble_eq_true rfl)) <;> (first | assumption | omega | (rw [w64_of] <;> omega))) | (with_reducible refine ok_bind (Q := Yes) ?_ (fun _ _ => ?_)) | dsimp only)
theorem intern_Frames_ok (l : List ByteArray) (h : l.length ≤ 9223372036854775807) (hx : ∀ x ∈ l, okN x) : Ok (intern_Frames l) Yes := by
  unfold intern_Frames
  refine ok_ite (fun _ => ok_yes) (fun _ => ?_)
  refine ok_bindS (Q := Yes) (ok_up l.length (by omega) fun i h1 h2 => ?_) (fun _ _ => ?_) (fun _ _ => ?_)
  · unfold intern_Frames_L1
    repeat' (first | with_reducible exact ok_yes | with_reducible exact ok_inrY | with_reducible exact ok_inlY | (with_reducible refine ok_next ?_ ?_ ?_ <;> (first | assumption | omega | (rw [w64_of] <;> omega))) | (with_reducible refine ok_nite (fun _ => ?_) (fun _ => ?_)) | (with_reducible refine ok_ite (fun _ => ?_) (fun _ => ?_)) | (with_reducible refine ok_not (fun _ => ?_) (fun _ => ?_)) | (with_reducible refine ok_cond (fun _ => ?_) (fun _ => ?_)) | with_reducible refine ok_bind (ok_idx (by (first | assumption | omega | (rw [w64_of] <;> omega))) (by (first | assumption | omega | (rw [w64_of] <;> omega)))) (fun _ _ => ?_) | (with_reducible refine Ok.yes (intern_Name_ok _ (hx _ (List.mem_of_getElem? (by assumption)))) <;> (first | assumption | omega | (rw [w64_of] <;> omega))) | (with_reducible refine ok_bind (Q := Yes) ?_ (fun _ _ => ?_)) | dsimp only)
  · repeat' (first | with_reducible exact ok_yes | with_reducible exact ok_inrY | with_reducible exact ok_inlY | (with_reducible refine ok_next ?_ ?_ ?_ <;> (first | assumption | omega | (rw [w64_of] <;> omega))) | (with_reducible refine ok_nite (fun _ => ?_) (fun _ => ?_)) | (with_reducible refine ok_ite (fun _ => ?_) (fun _ => ?_)) | (with_reducible refine ok_not (fun _ => ?_) (fun _ => ?_)) | (with_reducible refine ok_cond (fun _ => ?_) (fun _ => ?_)) | with_reducible refine ok_bind (ok_idx (by (first | assumption | omega | (rw [w64_of] <;> omega))) (by (first | assumption | omega | (rw [w64_of] <;> omega)))) (fun _ _ => ?_) | (with_reducible refine Ok.yes (intern_Name_ok _ (hx _ (List.mem_of_getElem? (by assumption)))) <;> (first | assumption | omega | (rw [w64_of] <;> omega))) | (with_reducible refine ok_bind (Q := Yes) ?_ (fun _ _ => ?_)) | dsimp only)
  · repeat' (first | with_reducible exact ok_yes | with_reducible exact ok_inrY | with_reducible exact ok_inlY | (with_reducible refine ok_next ?_ ?_ ?_ <;> (first | assumption | omega | (rw [w64_of] <;> omega))) | (with_reducible refine ok_nite (fun _ => ?_) (fun _ => ?_)) | (with_reducible refine ok_ite (fun _ => ?_) (fun _ => ?_)) | (with_reducible refine ok_not (fun _ => ?_) (fun _ => ?_)) | (with_reducible refine ok_cond (fun _ => ?_) (fun _ => ?_)) | with_reducible refine ok_bind (ok_idx (by (first | assumption | omega | (rw [w64_of] <;> omega))) (by (first | assumption | omega | (rw [w64_of] <;> omega)))) (fun _ _ => ?_) | (with_reducible refine Ok.yes (intern_Name_ok _ (hx _ (List.mem_of_getElem? (by assumption)))) <;> (first | assumption | omega | (rw [w64_of] <;> omega))) | (with_reducible refine ok_bind (Q := Yes) ?_ (fun _ _ => ?_)) | dsimp only)
structure Siz (t : api_Trace) : Prop where
  th : t.fThreads.length ≤ 9223372036854775807
  sl : t.fSlices.length ≤ 9223372036854775807
  st : t.fStates.length ≤ 9223372036854775807
  fl : t.fFlows.length ≤ 9223372036854775807
  sa : t.fSamples.length ≤ 9223372036854775807
  sp : t.fSteps.length ≤ 9223372036854775807
  bl : t.fBlocks.length ≤ 9223372036854775807
  lo : t.fLost.length ≤ 9223372036854775807
  nTh : ∀ x ∈ t.fThreads, okN x.fName
  nSl : ∀ x ∈ t.fSlices, okN x.fName
  nSa : ∀ x ∈ t.fSamples, x.fStack.length ≤ 9223372036854775807 ∧ ∀ y ∈ x.fStack, okN y
  nSp : ∀ x ∈ t.fSteps, okN x.fName
  nBl : ∀ x ∈ t.fBlocks, x.fStack.length ≤ 9223372036854775807 ∧ ∀ y ∈ x.fStack, okN y
theorem trace_threads_ok (t : api_Trace) (hl : t.fThreads.length ≤ 9223372036854775807) (hn : ∀ x ∈ t.fThreads, okN x.fName) : Ok (trace_threads t) (InlR (fun r => r.2 ≠ 0) Yes) := by
  unfold trace_threads
  refine ok_ite (fun _ => ok_inl (by simp)) (fun _ => ?_)
  refine ok_bindS (Q := InlR Yes (InlR (fun r => r.2 ≠ 0) Yes)) (ok_up2 t.fThreads.length (fun _ _ => True) hl trivial (fun a i _ h1 h2 => ?_)) (fun _ _ => ?_) (fun r hr => ?_)
  · unfold trace_threads_L1
    dsimp only
    refine ok_ite (fun h => ?_) (fun _ => ok_inr trivial)
    refine ok_bind (ok_idx h1 h) (fun y hy => ?_)
    refine ok_bind (producer_Thread_ok _ (hn _ (List.mem_of_getElem? hy))) (fun r _ => ?_)
    refine ok_nite (fun h0 => ok_inr h0) (fun _ => ?_)
    refine ok_cond (fun _ => ok_inr (by simp [InlR])) (fun _ => ?_)
    exact ok_next2 (Inv := fun _ _ => True) trivial h1 h hl
  · exact ok_inr trivial
  · exact ⟨_, rfl, hr⟩
theorem trace_tables_1_ok (a) : Tot (trace_tables_1 a) := ⟨_, rfl, trivial⟩
theorem trace_known_api_Slice_k1_ok (e : Int) (m) (l : List api_Slice) (h : l.length ≤ 9223372036854775807) : Tot (trace_known_api_Slice_k1 e m l) := by
  unfold trace_known_api_Slice_k1
  refine ok_nite (fun _ => ok_yes) (fun _ => ?_)
  refine ok_bindS (Q := Yes) (ok_up l.length (by omega) fun i h1 h2 => ?_) (fun _ _ => ?_) (fun _ _ => ?_)
  · unfold trace_known_api_Slice_k1_L1
    repeat' (first | with_reducible exact ok_yes | with_reducible exact ok_inrY | with_reducible exact ok_inlY | (with_reducible refine ok_next ?_ ?_ ?_ <;> (first | assumption | omega | (rw [w64_of] <;> omega))) | (with_reducible refine ok_nite (fun _ => ?_) (fun _ => ?_)) | (with_reducible refine ok_ite (fun _ => ?_) (fun _ => ?_)) | (with_reducible refine ok_not (fun _ => ?_) (fun _ => ?_)) | (with_reducible refine ok_cond (fun _ => ?_) (fun _ => ?_)) | with_reducible refine ok_bind (ok_idx (by (first | assumption | omega | (rw [w64_of] <;> omega))) (by (first | assumption | omega | (rw [w64_of] <;> omega)))) (fun _ _ => ?_) | (with_reducible refine Ok.yes (trace_tables_1_ok _) <;> (first | assumption | omega | (rw [w64_of] <;> omega))) | (with_reducible refine ok_bind (Q := Yes) ?_ (fun _ _ => ?_)) | dsimp only)
  · repeat' (first | with_reducible exact ok_yes | with_reducible exact ok_inrY | with_reducible exact ok_inlY | (with_reducible refine ok_next ?_ ?_ ?_ <;> (first | assumption | omega | (rw [w64_of] <;> omega))) | (with_reducible refine ok_nite (fun _ => ?_) (fun _ => ?_)) | (with_reducible refine ok_ite (fun _ => ?_) (fun _ => ?_)) | (with_reducible refine ok_not (fun _ => ?_) (fun _ => ?_)) | (with_reducible refine ok_cond (fun _ => ?_) (fun _ => ?_)) | with_reducible refine ok_bind (ok_idx (by (first | assumption | omega | (rw [w64_of] <;> omega))) (by (first | assumption | omega | (rw [w64_of] <;> omega)))) (fun _ _ => ?_) | (with_reducible refine Ok.yes (trace_tables_1_ok _) <;> (first | assumption | omega | (rw [w64_of] <;> omega))) | (with_reducible refine ok_bind (Q := Yes) ?_ (fun _ _ => ?_)) | dsimp only)
  · repeat' (first | with_reducible exact ok_yes | with_reducible exact ok_inrY | with_reducible exact ok_inlY | (with_reducible refine ok_next ?_ ?_ ?_ <;> (first | assumption | omega | (rw [w64_of] <;> omega))) | (with_reducible refine ok_nite (fun _ => ?_) (fun _ => ?_)) | (with_reducible refine ok_ite (fun _ => ?_) (fun _ => ?_)) | (with_reducible refine ok_not (fun _ => ?_) (fun _ => ?_)) | (with_reducible refine ok_cond (fun _ => ?_) (fun _ => ?_)) | with_reducible refine ok_bind (ok_idx (by (first | assumption | omega | (rw [w64_of] <;> omega))) (by (first | assumption | omega | (rw [w64_of] <;> omega)))) (fun _ _ => ?_) | (with_reducible refine Ok.yes (trace_tables_1_ok _) <;> (first | assumption | omega | (rw [w64_of] <;> omega))) | (with_reducible refine ok_bind (Q := Yes) ?_ (fun _ _ => ?_)) | dsimp only)
theorem trace_tables_2_ok (a) : Tot (trace_tables_2 a) := ⟨_, rfl, trivial⟩
theorem trace_known_api_Flow_k1_ok (e : Int) (m) (l : List api_Flow) (h : l.length ≤ 9223372036854775807) : Tot (trace_known_api_Flow_k1 e m l) := by
  unfold trace_known_api_Flow_k1
  refine ok_nite (fun _ => ok_yes) (fun _ => ?_)
  refine ok_bindS (Q := Yes) (ok_up l.length (by omega) fun i h1 h2 => ?_) (fun _ _ => ?_) (fun _ _ => ?_)
  · unfold trace_known_api_Flow_k1_L1
    repeat' (first | with_reducible exact ok_yes | with_reducible exact ok_inrY | with_reducible exact ok_inlY | (with_reducible refine ok_next ?_ ?_ ?_ <;> (first | assumption | omega | (rw [w64_of] <;> omega))) | (with_reducible refine ok_nite (fun _ => ?_) (fun _ => ?_)) | (with_reducible refine ok_ite (fun _ => ?_) (fun _ => ?_)) | (with_reducible refine ok_not (fun _ => ?_) (fun _ => ?_)) | (with_reducible refine ok_cond (fun _ => ?_) (fun _ => ?_)) | with_reducible refine ok_bind (ok_idx (by (first | assumption | omega | (rw [w64_of] <;> omega))) (by (first | assumption | omega | (rw [w64_of] <;> omega)))) (fun _ _ => ?_) | (with_reducible refine Ok.yes (trace_tables_2_ok _) <;> (first | assumption | omega | (rw [w64_of] <;> omega))) | (with_reducible refine ok_bind (Q := Yes) ?_ (fun _ _ => ?_)) | dsimp only)
  · repeat' (first | with_reducible exact ok_yes | with_reducible exact ok_inrY | with_reducible exact ok_inlY | (with_reducible refine ok_next ?_ ?_ ?_ <;> (first | assumption | omega | (rw [w64_of] <;> omega))) | (with_reducible refine ok_nite (fun _ => ?_) (fun _ => ?_)) | (with_reducible refine ok_ite (fun _ => ?_) (fun _ => ?_)) | (with_reducible refine ok_not (fun _ => ?_) (fun _ => ?_)) | (with_reducible refine ok_cond (fun _ => ?_) (fun _ => ?_)) | with_reducible refine ok_bind (ok_idx (by (first | assumption | omega | (rw [w64_of] <;> omega))) (by (first | assumption | omega | (rw [w64_of] <;> omega)))) (fun _ _ => ?_) | (with_reducible refine Ok.yes (trace_tables_2_ok _) <;> (first | assumption | omega | (rw [w64_of] <;> omega))) | (with_reducible refine ok_bind (Q := Yes) ?_ (fun _ _ => ?_)) | dsimp only)
  · repeat' (first | with_reducible exact ok_yes | with_reducible exact ok_inrY | with_reducible exact ok_inlY | (with_reducible refine ok_next ?_ ?_ ?_ <;> (first | assumption | omega | (rw [w64_of] <;> omega))) | (with_reducible refine ok_nite (fun _ => ?_) (fun _ => ?_)) | (with_reducible refine ok_ite (fun _ => ?_) (fun _ => ?_)) | (with_reducible refine ok_not (fun _ => ?_) (fun _ => ?_)) | (with_reducible refine ok_cond (fun _ => ?_) (fun _ => ?_)) | with_reducible refine ok_bind (ok_idx (by (first | assumption | omega | (rw [w64_of] <;> omega))) (by (first | assumption | omega | (rw [w64_of] <;> omega)))) (fun _ _ => ?_) | (with_reducible refine Ok.yes (trace_tables_2_ok _) <;> (first | assumption | omega | (rw [w64_of] <;> omega))) | (with_reducible refine ok_bind (Q := Yes) ?_ (fun _ _ => ?_)) | dsimp only)
theorem trace_tables_3_ok (a) : Tot (trace_tables_3 a) := ⟨_, rfl, trivial⟩
theorem trace_known_api_Flow_k2_ok (e : Int) (m) (l : List api_Flow) (h : l.length ≤ 9223372036854775807) : Tot (trace_known_api_Flow_k2 e m l) := by
  unfold trace_known_api_Flow_k2
  refine ok_nite (fun _ => ok_yes) (fun _ => ?_)
  refine ok_bindS (Q := Yes) (ok_up l.length (by omega) fun i h1 h2 => ?_) (fun _ _ => ?_) (fun _ _ => ?_)
  · unfold trace_known_api_Flow_k2_L1
    repeat' (first | with_reducible exact ok_yes | with_reducible exact ok_inrY | with_reducible exact ok_inlY | (with_reducible refine ok_next ?_ ?_ ?_ <;> (first | assumption | omega | (rw [w64_of] <;> omega))) | (with_reducible refine ok_nite (fun _ => ?_) (fun _ => ?_)) | (with_reducible refine ok_ite (fun _ => ?_) (fun _ => ?_)) | (with_reducible refine ok_not (fun _ => ?_) (fun _ => ?_)) | (with_reducible refine ok_cond (fun _ => ?_) (fun _ => ?_)) | with_reducible refine ok_bind (ok_idx (by (first | assumption | omega | (rw [w64_of] <;> omega))) (by (first | assumption | omega | (rw [w64_of] <;> omega)))) (fun _ _ => ?_) | (with_reducible refine Ok.yes (trace_tables_3_ok _) <;> (first | assumption | omega | (rw [w64_of] <;> omega))) | (with_reducible refine ok_bind (Q := Yes) ?_ (fun _ _ => ?_)) | dsimp only)
  · repeat' (first | with_reducible exact ok_yes | with_reducible exact ok_inrY | with_reducible exact ok_inlY | (with_reducible refine ok_next ?_ ?_ ?_ <;> (first | assumption | omega | (rw [w64_of] <;> omega))) | (with_reducible refine ok_nite (fun _ => ?_) (fun _ => ?_)) | (with_reducible refine ok_ite (fun _ => ?_) (fun _ => ?_)) | (with_reducible refine ok_not (fun _ => ?_) (fun _ => ?_)) | (with_reducible refine ok_cond (fun _ => ?_) (fun _ => ?_)) | with_reducible refine ok_bind (ok_idx (by (first | assumption | omega | (rw [w64_of] <;> omega))) (by (first | assumption | omega | (rw [w64_of] <;> omega)))) (fun _ _ => ?_) | (with_reducible refine Ok.yes (trace_tables_3_ok _) <;> (first | assumption | omega | (rw [w64_of] <;> omega))) | (with_reducible refine ok_bind (Q := Yes) ?_ (fun _ _ => ?_)) | dsimp only)
  · repeat' (first | with_reducible exact ok_yes | with_reducible exact ok_inrY | with_reducible exact ok_inlY | (with_reducible refine ok_next ?_ ?_ ?_ <;> (first | assumption | omega | (rw [w64_of] <;> omega))) | (with_reducible refine ok_nite (fun _ => ?_) (fun _ => ?_)) | (with_reducible refine ok_ite (fun _ => ?_) (fun _ => ?_)) | (with_reducible refine ok_not (fun _ => ?_) (fun _ => ?_)) | (with_reducible refine ok_cond (fun _ => ?_) (fun _ => ?_)) | with_reducible refine ok_bind (ok_idx (by (first | assumption | omega | (rw [w64_of] <;> omega))) (by (first | assumption | omega | (rw [w64_of] <;> omega)))) (fun _ _ => ?_) | (with_reducible refine Ok.yes (trace_tables_3_ok _) <;> (first | assumption | omega | (rw [w64_of] <;> omega))) | (with_reducible refine ok_bind (Q := Yes) ?_ (fun _ _ => ?_)) | dsimp only)
theorem trace_tables_4_ok (a) : Tot (trace_tables_4 a) := ⟨_, rfl, trivial⟩
theorem trace_known_api_Sample_k1_ok (e : Int) (m) (l : List api_Sample) (h : l.length ≤ 9223372036854775807) : Tot (trace_known_api_Sample_k1 e m l) := by
  unfold trace_known_api_Sample_k1
  refine ok_nite (fun _ => ok_yes) (fun _ => ?_)
  refine ok_bindS (Q := Yes) (ok_up l.length (by omega) fun i h1 h2 => ?_) (fun _ _ => ?_) (fun _ _ => ?_)
  · unfold trace_known_api_Sample_k1_L1
    repeat' (first | with_reducible exact ok_yes | with_reducible exact ok_inrY | with_reducible exact ok_inlY | (with_reducible refine ok_next ?_ ?_ ?_ <;> (first | assumption | omega | (rw [w64_of] <;> omega))) | (with_reducible refine ok_nite (fun _ => ?_) (fun _ => ?_)) | (with_reducible refine ok_ite (fun _ => ?_) (fun _ => ?_)) | (with_reducible refine ok_not (fun _ => ?_) (fun _ => ?_)) | (with_reducible refine ok_cond (fun _ => ?_) (fun _ => ?_)) | with_reducible refine ok_bind (ok_idx (by (first | assumption | omega | (rw [w64_of] <;> omega))) (by (first | assumption | omega | (rw [w64_of] <;> omega)))) (fun _ _ => ?_) | (with_reducible refine Ok.yes (trace_tables_4_ok _) <;> (first | assumption | omega | (rw [w64_of] <;> omega))) | (with_reducible refine ok_bind (Q := Yes) ?_ (fun _ _ => ?_)) | dsimp only)
  · repeat' (first | with_reducible exact ok_yes | with_reducible exact ok_inrY | with_reducible exact ok_inlY | (with_reducible refine ok_next ?_ ?_ ?_ <;> (first | assumption | omega | (rw [w64_of] <;> omega))) | (with_reducible refine ok_nite (fun _ => ?_) (fun _ => ?_)) | (with_reducible refine ok_ite (fun _ => ?_) (fun _ => ?_)) | (with_reducible refine ok_not (fun _ => ?_) (fun _ => ?_)) | (with_reducible refine ok_cond (fun _ => ?_) (fun _ => ?_)) | with_reducible refine ok_bind (ok_idx (by (first | assumption | omega | (rw [w64_of] <;> omega))) (by (first | assumption | omega | (rw [w64_of] <;> omega)))) (fun _ _ => ?_) | (with_reducible refine Ok.yes (trace_tables_4_ok _) <;> (first | assumption | omega | (rw [w64_of] <;> omega))) | (with_reducible refine ok_bind (Q := Yes) ?_ (fun _ _ => ?_)) | dsimp only)
  · repeat' (first | with_reducible exact ok_yes | with_reducible exact ok_inrY | with_reducible exact ok_inlY | (with_reducible refine ok_next ?_ ?_ ?_ <;> (first | assumption | omega | (rw [w64_of] <;> omega))) | (with_reducible refine ok_nite (fun _ => ?_) (fun _ => ?_)) | (with_reducible refine ok_ite (fun _ => ?_) (fun _ => ?_)) | (with_reducible refine ok_not (fun _ => ?_) (fun _ => ?_)) | (with_reducible refine ok_cond (fun _ => ?_) (fun _ => ?_)) | with_reducible refine ok_bind (ok_idx (by (first | assumption | omega | (rw [w64_of] <;> omega))) (by (first | assumption | omega | (rw [w64_of] <;> omega)))) (fun _ _ => ?_) | (with_reducible refine Ok.yes (trace_tables_4_ok _) <;> (first | assumption | omega | (rw [w64_of] <;> omega))) | (with_reducible refine ok_bind (Q := Yes) ?_ (fun _ _ => ?_)) | dsimp only)
theorem trace_tables_5_ok (a) : Tot (trace_tables_5 a) := ⟨_, rfl, trivial⟩
theorem trace_known_api_Block_k1_ok (e : Int) (m) (l : List api_Block) (h : l.length ≤ 9223372036854775807) : Tot (trace_known_api_Block_k1 e m l) := by
  unfold trace_known_api_Block_k1
  refine ok_nite (fun _ => ok_yes) (fun _ => ?_)
  refine ok_bindS (Q := Yes) (ok_up l.length (by omega) fun i h1 h2 => ?_) (fun _ _ => ?_) (fun _ _ => ?_)
  · unfold trace_known_api_Block_k1_L1
    repeat' (first | with_reducible exact ok_yes | with_reducible exact ok_inrY | with_reducible exact ok_inlY | (with_reducible refine ok_next ?_ ?_ ?_ <;> (first | assumption | omega | (rw [w64_of] <;> omega))) | (with_reducible refine ok_nite (fun _ => ?_) (fun _ => ?_)) | (with_reducible refine ok_ite (fun _ => ?_) (fun _ => ?_)) | (with_reducible refine ok_not (fun _ => ?_) (fun _ => ?_)) | (with_reducible refine ok_cond (fun _ => ?_) (fun _ => ?_)) | with_reducible refine ok_bind (ok_idx (by (first | assumption | omega | (rw [w64_of] <;> omega))) (by (first | assumption | omega | (rw [w64_of] <;> omega)))) (fun _ _ => ?_) | (with_reducible refine Ok.yes (trace_tables_5_ok _) <;> (first | assumption | omega | (rw [w64_of] <;> omega))) | (with_reducible refine ok_bind (Q := Yes) ?_ (fun _ _ => ?_)) | dsimp only)
  · repeat' (first | with_reducible exact ok_yes | with_reducible exact ok_inrY | with_reducible exact ok_inlY | (with_reducible refine ok_next ?_ ?_ ?_ <;> (first | assumption | omega | (rw [w64_of] <;> omega))) | (with_reducible refine ok_nite (fun _ => ?_) (fun _ => ?_)) | (with_reducible refine ok_ite (fun _ => ?_) (fun _ => ?_)) | (with_reducible refine ok_not (fun _ => ?_) (fun _ => ?_)) | (with_reducible refine ok_cond (fun _ => ?_) (fun _ => ?_)) | with_reducible refine ok_bind (ok_idx (by (first | assumption | omega | (rw [w64_of] <;> omega))) (by (first | assumption | omega | (rw [w64_of] <;> omega)))) (fun _ _ => ?_) | (with_reducible refine Ok.yes (trace_tables_5_ok _) <;> (first | assumption | omega | (rw [w64_of] <;> omega))) | (with_reducible refine ok_bind (Q := Yes) ?_ (fun _ _ => ?_)) | dsimp only)
  · repeat' (first | with_reducible exact ok_yes | with_reducible exact ok_inrY | with_reducible exact ok_inlY | (with_reducible refine ok_next ?_ ?_ ?_ <;> (first | assumption | omega | (rw [w64_of] <;> omega))) | (with_reducible refine ok_nite (fun _ => ?_) (fun _ => ?_)) | (with_reducible refine ok_ite (fun _ => ?_) (fun _ => ?_)) | (with_reducible refine ok_not (fun _ => ?_) (fun _ => ?_)) | (with_reducible refine ok_cond (fun _ => ?_) (fun _ => ?_)) | with_reducible refine ok_bind (ok_idx (by (first | assumption | omega | (rw [w64_of] <;> omega))) (by (first | assumption | omega | (rw [w64_of] <;> omega)))) (fun _ _ => ?_) | (with_reducible refine Ok.yes (trace_tables_5_ok _) <;> (first | assumption | omega | (rw [w64_of] <;> omega))) | (with_reducible refine ok_bind (Q := Yes) ?_ (fun _ _ => ?_)) | dsimp only)
theorem trace_losses_k1_ok (m) (l : List api_Loss) (h : l.length ≤ 9223372036854775807) : Tot (trace_losses_k1 m l) := by
  unfold trace_losses_k1
  refine ok_bindS (Q := Yes) (ok_up l.length (by omega) fun i h1 h2 => ?_) (fun _ _ => ?_) (fun _ _ => ?_)
  · unfold trace_losses_k1_L1
    repeat' (first | with_reducible exact ok_yes | with_reducible exact ok_inrY | with_reducible exact ok_inlY | (with_reducible refine ok_next ?_ ?_ ?_ <;> (first | assumption | omega | (rw [w64_of] <;> omega))) | (with_reducible refine ok_nite (fun _ => ?_) (fun _ => ?_)) | (with_reducible refine ok_ite (fun _ => ?_) (fun _ => ?_)) | (with_reducible refine ok_not (fun _ => ?_) (fun _ => ?_)) | (with_reducible refine ok_cond (fun _ => ?_) (fun _ => ?_)) | with_reducible refine ok_bind (ok_idx (by (first | assumption | omega | (rw [w64_of] <;> omega))) (by (first | assumption | omega | (rw [w64_of] <;> omega)))) (fun _ _ => ?_) | (with_reducible refine Ok.yes (spans_Valid_ok _) <;> (first | assumption | omega | (rw [w64_of] <;> omega))) | (with_reducible refine ok_bind (Q := Yes) ?_ (fun _ _ => ?_)) | dsimp only)
  · repeat' (first | with_reducible exact ok_yes | with_reducible exact ok_inrY | with_reducible exact ok_inlY | (with_reducible refine ok_next ?_ ?_ ?_ <;> (first | assumption | omega | (rw [w64_of] <;> omega))) | (with_reducible refine ok_nite (fun _ => ?_) (fun _ => ?_)) | (with_reducible refine ok_ite (fun _ => ?_) (fun _ => ?_)) | (with_reducible refine ok_not (fun _ => ?_) (fun _ => ?_)) | (with_reducible refine ok_cond (fun _ => ?_) (fun _ => ?_)) | with_reducible refine ok_bind (ok_idx (by (first | assumption | omega | (rw [w64_of] <;> omega))) (by (first | assumption | omega | (rw [w64_of] <;> omega)))) (fun _ _ => ?_) | (with_reducible refine Ok.yes (spans_Valid_ok _) <;> (first | assumption | omega | (rw [w64_of] <;> omega))) | (with_reducible refine ok_bind (Q := Yes) ?_ (fun _ _ => ?_)) | dsimp only)
  · repeat' (first | with_reducible exact ok_yes | with_reducible exact ok_inrY | with_reducible exact ok_inlY | (with_reducible refine ok_next ?_ ?_ ?_ <;> (first | assumption | omega | (rw [w64_of] <;> omega))) | (with_reducible refine ok_nite (fun _ => ?_) (fun _ => ?_)) | (with_reducible refine ok_ite (fun _ => ?_) (fun _ => ?_)) | (with_reducible refine ok_not (fun _ => ?_) (fun _ => ?_)) | (with_reducible refine ok_cond (fun _ => ?_) (fun _ => ?_)) | with_reducible refine ok_bind (ok_idx (by (first | assumption | omega | (rw [w64_of] <;> omega))) (by (first | assumption | omega | (rw [w64_of] <;> omega)))) (fun _ _ => ?_) | (with_reducible refine Ok.yes (spans_Valid_ok _) <;> (first | assumption | omega | (rw [w64_of] <;> omega))) | (with_reducible refine ok_bind (Q := Yes) ?_ (fun _ _ => ?_)) | dsimp only)
theorem flow_bad_ok (a b : Int) : Tot (flow_bad a b) := by
  unfold flow_bad
  repeat' (first | with_reducible exact ok_yes | with_reducible exact ok_inrY | with_reducible exact ok_inlY | (with_reducible refine ok_next ?_ ?_ ?_ <;> (first | assumption | omega | (rw [w64_of] <;> omega))) | (with_reducible refine ok_nite (fun _ => ?_) (fun _ => ?_)) | (with_reducible refine ok_ite (fun _ => ?_) (fun _ => ?_)) | (with_reducible refine ok_not (fun _ => ?_) (fun _ => ?_)) | (with_reducible refine ok_cond (fun _ => ?_) (fun _ => ?_)) | with_reducible refine ok_bind (ok_idx (by (first | assumption | omega | (rw [w64_of] <;> omega))) (by (first | assumption | omega | (rw [w64_of] <;> omega)))) (fun _ _ => ?_) | (with_reducible refine ok_bind (Q := Yes) ?_ (fun _ _ => ?_)) | dsimp only)
theorem sample_good_ok (a) : Tot (sample_good a) := by
  unfold sample_good
  repeat' (first | with_reducible exact ok_yes | with_reducible exact ok_inrY | with_reducible exact ok_inlY | (with_reducible refine ok_next ?_ ?_ ?_ <;> (first | assumption | omega | (rw [w64_of] <;> omega))) | (with_reducible refine ok_nite (fun _ => ?_) (fun _ => ?_)) | (with_reducible refine ok_ite (fun _ => ?_) (fun _ => ?_)) | (with_reducible refine ok_not (fun _ => ?_) (fun _ => ?_)) | (with_reducible refine ok_cond (fun _ => ?_) (fun _ => ?_)) | with_reducible refine ok_bind (ok_idx (by (first | assumption | omega | (rw [w64_of] <;> omega))) (by (first | assumption | omega | (rw [w64_of] <;> omega)))) (fun _ _ => ?_) | (with_reducible refine ok_bind (Q := Yes) ?_ (fun _ _ => ?_)) | dsimp only)
theorem num_In_ok (a) : Tot (num_In a) := by
  unfold num_In
  repeat' (first | with_reducible exact ok_yes | with_reducible exact ok_inrY | with_reducible exact ok_inlY | (with_reducible refine ok_next ?_ ?_ ?_ <;> (first | assumption | omega | (rw [w64_of] <;> omega))) | (with_reducible refine ok_nite (fun _ => ?_) (fun _ => ?_)) | (with_reducible refine ok_ite (fun _ => ?_) (fun _ => ?_)) | (with_reducible refine ok_not (fun _ => ?_) (fun _ => ?_)) | (with_reducible refine ok_cond (fun _ => ?_) (fun _ => ?_)) | with_reducible refine ok_bind (ok_idx (by (first | assumption | omega | (rw [w64_of] <;> omega))) (by (first | assumption | omega | (rw [w64_of] <;> omega)))) (fun _ _ => ?_) | (with_reducible refine ok_bind (Q := Yes) ?_ (fun _ _ => ?_)) | dsimp only)
theorem cmp_Compare_string_ok (a b) : Tot (cmp_Compare_string a b) := by
  unfold cmp_Compare_string cmp_isNaN_string
  repeat' (first | with_reducible exact ok_yes | with_reducible exact ok_inrY | with_reducible exact ok_inlY | (with_reducible refine ok_next ?_ ?_ ?_ <;> (first | assumption | omega | (rw [w64_of] <;> omega))) | (with_reducible refine ok_nite (fun _ => ?_) (fun _ => ?_)) | (with_reducible refine ok_ite (fun _ => ?_) (fun _ => ?_)) | (with_reducible refine ok_not (fun _ => ?_) (fun _ => ?_)) | (with_reducible refine ok_cond (fun _ => ?_) (fun _ => ?_)) | with_reducible refine ok_bind (ok_idx (by (first | assumption | omega | (rw [w64_of] <;> omega))) (by (first | assumption | omega | (rw [w64_of] <;> omega)))) (fun _ _ => ?_) | (with_reducible refine ok_bind (Q := Yes) ?_ (fun _ _ => ?_)) | dsimp only)
theorem counter_order_ok (a b) : Tot (counter_order a b) := by
  unfold counter_order
  repeat' (first | with_reducible exact ok_yes | with_reducible exact ok_inrY | with_reducible exact ok_inlY | (with_reducible refine ok_next ?_ ?_ ?_ <;> (first | assumption | omega | (rw [w64_of] <;> omega))) | (with_reducible refine ok_nite (fun _ => ?_) (fun _ => ?_)) | (with_reducible refine ok_ite (fun _ => ?_) (fun _ => ?_)) | (with_reducible refine ok_not (fun _ => ?_) (fun _ => ?_)) | (with_reducible refine ok_cond (fun _ => ?_) (fun _ => ?_)) | with_reducible refine ok_bind (ok_idx (by (first | assumption | omega | (rw [w64_of] <;> omega))) (by (first | assumption | omega | (rw [w64_of] <;> omega)))) (fun _ _ => ?_) | (with_reducible refine Ok.yes (cmp_Compare_string_ok _ _) <;> (first | assumption | omega | (rw [w64_of] <;> omega))) | (with_reducible refine Ok.yes (cmp_Compare_int_ok _ _) <;> (first | assumption | omega | (rw [w64_of] <;> omega))) | (with_reducible refine Ok.yes (cmp_Or_int_ok _ (Nat.le_of_ble_eq_true rfl)) <;> (first | assumption | omega | (rw [w64_of] <;> omega))) | (with_reducible refine ok_bind (Q := Yes) ?_ (fun _ _ => ?_)) | dsimp only)
theorem flow_Check_ok (l : List api_Flow) (h : l.length ≤ 9223372036854775807) : Tot (flow_Check l) := by
  unfold flow_Check
  refine ok_bindS (Q := Yes) (ok_up l.length (by omega) fun i h1 h2 => ?_) (fun _ _ => ?_) (fun _ _ => ?_)
  · unfold flow_Check_L1
    repeat' (first | with_reducible exact ok_yes | with_reducible exact ok_inrY | with_reducible exact ok_inlY | (with_reducible refine ok_next ?_ ?_ ?_ <;> (first | assumption | omega | (rw [w64_of] <;> omega))) | (with_reducible refine ok_nite (fun _ => ?_) (fun _ => ?_)) | (with_reducible refine ok_ite (fun _ => ?_) (fun _ => ?_)) | (with_reducible refine ok_not (fun _ => ?_) (fun _ => ?_)) | (with_reducible refine ok_cond (fun _ => ?_) (fun _ => ?_)) | with_reducible refine ok_bind (ok_idx (by (first | assumption | omega | (rw [w64_of] <;> omega))) (by (first | assumption | omega | (rw [w64_of] <;> omega)))) (fun _ _ => ?_) | (with_reducible refine Ok.yes (flow_bad_ok _ _) <;> (first | assumption | omega | (rw [w64_of] <;> omega))) | (with_reducible refine ok_bind (Q := Yes) ?_ (fun _ _ => ?_)) | dsimp only)
  · repeat' (first | with_reducible exact ok_yes | with_reducible exact ok_inrY | with_reducible exact ok_inlY | (with_reducible refine ok_next ?_ ?_ ?_ <;> (first | assumption | omega | (rw [w64_of] <;> omega))) | (with_reducible refine ok_nite (fun _ => ?_) (fun _ => ?_)) | (with_reducible refine ok_ite (fun _ => ?_) (fun _ => ?_)) | (with_reducible refine ok_not (fun _ => ?_) (fun _ => ?_)) | (with_reducible refine ok_cond (fun _ => ?_) (fun _ => ?_)) | with_reducible refine ok_bind (ok_idx (by (first | assumption | omega | (rw [w64_of] <;> omega))) (by (first | assumption | omega | (rw [w64_of] <;> omega)))) (fun _ _ => ?_) | (with_reducible refine Ok.yes (flow_bad_ok _ _) <;> (first | assumption | omega | (rw [w64_of] <;> omega))) | (with_reducible refine ok_bind (Q := Yes) ?_ (fun _ _ => ?_)) | dsimp only)
  · repeat' (first | with_reducible exact ok_yes | with_reducible exact ok_inrY | with_reducible exact ok_inlY | (with_reducible refine ok_next ?_ ?_ ?_ <;> (first | assumption | omega | (rw [w64_of] <;> omega))) | (with_reducible refine ok_nite (fun _ => ?_) (fun _ => ?_)) | (with_reducible refine ok_ite (fun _ => ?_) (fun _ => ?_)) | (with_reducible refine ok_not (fun _ => ?_) (fun _ => ?_)) | (with_reducible refine ok_cond (fun _ => ?_) (fun _ => ?_)) | with_reducible refine ok_bind (ok_idx (by (first | assumption | omega | (rw [w64_of] <;> omega))) (by (first | assumption | omega | (rw [w64_of] <;> omega)))) (fun _ _ => ?_) | (with_reducible refine Ok.yes (flow_bad_ok _ _) <;> (first | assumption | omega | (rw [w64_of] <;> omega))) | (with_reducible refine ok_bind (Q := Yes) ?_ (fun _ _ => ?_)) | dsimp only)
theorem sample_Check_ok (l : List api_Sample) (h : l.length ≤ 9223372036854775807) (hx : ∀ x ∈ l, x.fStack.length ≤ 9223372036854775807 ∧ ∀ y ∈ x.fStack, okN y) : Tot (sample_Check l) := by
  unfold sample_Check
  refine ok_bindS (Q := Yes) (ok_up l.length (by omega) fun i h1 h2 => ?_) (fun _ _ => ?_) (fun _ _ => ?_)
  · unfold sample_Check_L1
    repeat' (first | with_reducible exact ok_yes | with_reducible exact ok_inrY | with_reducible exact ok_inlY | (with_reducible refine ok_next ?_ ?_ ?_ <;> (first | assumption | omega | (rw [w64_of] <;> omega))) | (with_reducible refine ok_nite (fun _ => ?_) (fun _ => ?_)) | (with_reducible refine ok_ite (fun _ => ?_) (fun _ => ?_)) | (with_reducible refine ok_not (fun _ => ?_) (fun _ => ?_)) | (with_reducible refine ok_cond (fun _ => ?_) (fun _ => ?_)) | with_reducible refine ok_bind (ok_idx (by (first | assumption | omega | (rw [w64_of] <;> omega))) (by (first | assumption | omega | (rw [w64_of] <;> omega)))) (fun _ _ => ?_) | (with_reducible refine Ok.yes (sample_good_ok _) <;> (first | assumption | omega | (rw [w64_of] <;> omega))) | (with_reducible refine Ok.yes (intern_Frames_ok _ (hx _ (List.mem_of_getElem? (by assumption))).1 (hx _ (List.mem_of_getElem? (by assumption))).2) <;> (first | assumption | omega | (rw [w64_of] <;> omega))) | (with_reducible refine ok_bind (Q := Yes) ?_ (fun _ _ => ?_)) | dsimp only)
  · repeat' (first | with_reducible exact ok_yes | with_reducible exact ok_inrY | with_reducible exact ok_inlY | (with_reducible refine ok_next ?_ ?_ ?_ <;> (first | assumption | omega | (rw [w64_of] <;> omega))) | (with_reducible refine ok_nite (fun _ => ?_) (fun _ => ?_)) | (with_reducible refine ok_ite (fun _ => ?_) (fun _ => ?_)) | (with_reducible refine ok_not (fun _ => ?_) (fun _ => ?_)) | (with_reducible refine ok_cond (fun _ => ?_) (fun _ => ?_)) | with_reducible refine ok_bind (ok_idx (by (first | assumption | omega | (rw [w64_of] <;> omega))) (by (first | assumption | omega | (rw [w64_of] <;> omega)))) (fun _ _ => ?_) | (with_reducible refine Ok.yes (sample_good_ok _) <;> (first | assumption | omega | (rw [w64_of] <;> omega))) | (with_reducible refine Ok.yes (intern_Frames_ok _ (hx _ (List.mem_of_getElem? (by assumption))).1 (hx _ (List.mem_of_getElem? (by assumption))).2) <;> (first | assumption | omega | (rw [w64_of] <;> omega))) | (with_reducible refine ok_bind (Q := Yes) ?_ (fun _ _ => ?_)) | dsimp only)
  · repeat' (first | with_reducible exact ok_yes | with_reducible exact ok_inrY | with_reducible exact ok_inlY | (with_reducible refine ok_next ?_ ?_ ?_ <;> (first | assumption | omega | (rw [w64_of] <;> omega))) | (with_reducible refine ok_nite (fun _ => ?_) (fun _ => ?_)) | (with_reducible refine ok_ite (fun _ => ?_) (fun _ => ?_)) | (with_reducible refine ok_not (fun _ => ?_) (fun _ => ?_)) | (with_reducible refine ok_cond (fun _ => ?_) (fun _ => ?_)) | with_reducible refine ok_bind (ok_idx (by (first | assumption | omega | (rw [w64_of] <;> omega))) (by (first | assumption | omega | (rw [w64_of] <;> omega)))) (fun _ _ => ?_) | (with_reducible refine Ok.yes (sample_good_ok _) <;> (first | assumption | omega | (rw [w64_of] <;> omega))) | (with_reducible refine Ok.yes (intern_Frames_ok _ (hx _ (List.mem_of_getElem? (by assumption))).1 (hx _ (List.mem_of_getElem? (by assumption))).2) <;> (first | assumption | omega | (rw [w64_of] <;> omega))) | (with_reducible refine ok_bind (Q := Yes) ?_ (fun _ _ => ?_)) | dsimp only)
theorem counter_Check_ok (l : List api_Step) (h : l.length ≤ 9223372036854775807) (hx : ∀ x ∈ l, okN x.fName) : Tot (counter_Check l) := by
  unfold counter_Check
  refine ok_bindS (Q := Yes) (ok_up l.length (by omega) fun i h1 h2 => ?_) (fun _ _ => ?_) (fun _ _ => ?_)
  · unfold counter_Check_L1
    repeat' (first | with_reducible exact ok_yes | with_reducible exact ok_inrY | with_reducible exact ok_inlY | (with_reducible refine ok_next ?_ ?_ ?_ <;> (first | assumption | omega | (rw [w64_of] <;> omega))) | (with_reducible refine ok_nite (fun _ => ?_) (fun _ => ?_)) | (with_reducible refine ok_ite (fun _ => ?_) (fun _ => ?_)) | (with_reducible refine ok_not (fun _ => ?_) (fun _ => ?_)) | (with_reducible refine ok_cond (fun _ => ?_) (fun _ => ?_)) | with_reducible refine ok_bind (ok_idx (by (first | assumption | omega | (rw [w64_of] <;> omega))) (by (first | assumption | omega | (rw [w64_of] <;> omega)))) (fun _ _ => ?_) | (with_reducible refine Ok.yes (num_In_ok _) <;> (first | assumption | omega | (rw [w64_of] <;> omega))) | (with_reducible refine Ok.yes (counter_order_ok _ _) <;> (first | assumption | omega | (rw [w64_of] <;> omega))) | (with_reducible refine Ok.yes (intern_Name_ok _ (hx _ (List.mem_of_getElem? (by assumption)))) <;> (first | assumption | omega | (rw [w64_of] <;> omega))) | (with_reducible refine ok_bind (Q := Yes) ?_ (fun _ _ => ?_)) | dsimp only)
  · repeat' (first | with_reducible exact ok_yes | with_reducible exact ok_inrY | with_reducible exact ok_inlY | (with_reducible refine ok_next ?_ ?_ ?_ <;> (first | assumption | omega | (rw [w64_of] <;> omega))) | (with_reducible refine ok_nite (fun _ => ?_) (fun _ => ?_)) | (with_reducible refine ok_ite (fun _ => ?_) (fun _ => ?_)) | (with_reducible refine ok_not (fun _ => ?_) (fun _ => ?_)) | (with_reducible refine ok_cond (fun _ => ?_) (fun _ => ?_)) | with_reducible refine ok_bind (ok_idx (by (first | assumption | omega | (rw [w64_of] <;> omega))) (by (first | assumption | omega | (rw [w64_of] <;> omega)))) (fun _ _ => ?_) | (with_reducible refine Ok.yes (num_In_ok _) <;> (first | assumption | omega | (rw [w64_of] <;> omega))) | (with_reducible refine Ok.yes (counter_order_ok _ _) <;> (first | assumption | omega | (rw [w64_of] <;> omega))) | (with_reducible refine Ok.yes (intern_Name_ok _ (hx _ (List.mem_of_getElem? (by assumption)))) <;> (first | assumption | omega | (rw [w64_of] <;> omega))) | (with_reducible refine ok_bind (Q := Yes) ?_ (fun _ _ => ?_)) | dsimp only)
  · repeat' (first | with_reducible exact ok_yes | with_reducible exact ok_inrY | with_reducible exact ok_inlY | (with_reducible refine ok_next ?_ ?_ ?_ <;> (first | assumption | omega | (rw [w64_of] <;> omega))) | (with_reducible refine ok_nite (fun _ => ?_) (fun _ => ?_)) | (with_reducible refine ok_ite (fun _ => ?_) (fun _ => ?_)) | (with_reducible refine ok_not (fun _ => ?_) (fun _ => ?_)) | (with_reducible refine ok_cond (fun _ => ?_) (fun _ => ?_)) | with_reducible refine ok_bind (ok_idx (by (first | assumption | omega | (rw [w64_of] <;> omega))) (by (first | assumption | omega | (rw [w64_of] <;> omega)))) (fun _ _ => ?_) | (with_reducible refine Ok.yes (num_In_ok _) <;> (first | assumption | omega | (rw [w64_of] <;> omega))) | (with_reducible refine Ok.yes (counter_order_ok _ _) <;> (first | assumption | omega | (rw [w64_of] <;> omega))) | (with_reducible refine Ok.yes (intern_Name_ok _ (hx _ (List.mem_of_getElem? (by assumption)))) <;> (first | assumption | omega | (rw [w64_of] <;> omega))) | (with_reducible refine ok_bind (Q := Yes) ?_ (fun _ _ => ?_)) | dsimp only)
theorem trace_within_ok (a b) : Tot (trace_within a b) := by
  unfold trace_within
  repeat' (first | with_reducible exact ok_yes | with_reducible exact ok_inrY | with_reducible exact ok_inlY | (with_reducible refine ok_next ?_ ?_ ?_ <;> (first | assumption | omega | (rw [w64_of] <;> omega))) | (with_reducible refine ok_nite (fun _ => ?_) (fun _ => ?_)) | (with_reducible refine ok_ite (fun _ => ?_) (fun _ => ?_)) | (with_reducible refine ok_not (fun _ => ?_) (fun _ => ?_)) | (with_reducible refine ok_cond (fun _ => ?_) (fun _ => ?_)) | with_reducible refine ok_bind (ok_idx (by (first | assumption | omega | (rw [w64_of] <;> omega))) (by (first | assumption | omega | (rw [w64_of] <;> omega)))) (fun _ _ => ?_) | (with_reducible refine ok_bind (Q := Yes) ?_ (fun _ _ => ?_)) | dsimp only)
theorem trace_inside_ok (a b) : Tot (trace_inside a b) := by
  unfold trace_inside
  repeat' (first | with_reducible exact ok_yes | with_reducible exact ok_inrY | with_reducible exact ok_inlY | (with_reducible refine ok_next ?_ ?_ ?_ <;> (first | assumption | omega | (rw [w64_of] <;> omega))) | (with_reducible refine ok_nite (fun _ => ?_) (fun _ => ?_)) | (with_reducible refine ok_ite (fun _ => ?_) (fun _ => ?_)) | (with_reducible refine ok_not (fun _ => ?_) (fun _ => ?_)) | (with_reducible refine ok_cond (fun _ => ?_) (fun _ => ?_)) | with_reducible refine ok_bind (ok_idx (by (first | assumption | omega | (rw [w64_of] <;> omega))) (by (first | assumption | omega | (rw [w64_of] <;> omega)))) (fun _ _ => ?_) | (with_reducible refine ok_bind (Q := Yes) ?_ (fun _ _ => ?_)) | dsimp only)
theorem trace_outside_1_k1_ok (a b) : Tot (trace_outside_1_k1 a b) := by
  unfold trace_outside_1_k1
  repeat' (first | with_reducible exact ok_yes | with_reducible exact ok_inrY | with_reducible exact ok_inlY | (with_reducible refine ok_next ?_ ?_ ?_ <;> (first | assumption | omega | (rw [w64_of] <;> omega))) | (with_reducible refine ok_nite (fun _ => ?_) (fun _ => ?_)) | (with_reducible refine ok_ite (fun _ => ?_) (fun _ => ?_)) | (with_reducible refine ok_not (fun _ => ?_) (fun _ => ?_)) | (with_reducible refine ok_cond (fun _ => ?_) (fun _ => ?_)) | with_reducible refine ok_bind (ok_idx (by (first | assumption | omega | (rw [w64_of] <;> omega))) (by (first | assumption | omega | (rw [w64_of] <;> omega)))) (fun _ _ => ?_) | (with_reducible refine Ok.yes (trace_within_ok _ _) <;> (first | assumption | omega | (rw [w64_of] <;> omega))) | (with_reducible refine Ok.yes (trace_inside_ok _ _) <;> (first | assumption | omega | (rw [w64_of] <;> omega))) | (with_reducible refine ok_bind (Q := Yes) ?_ (fun _ _ => ?_)) | dsimp only)
theorem slices_ContainsFunc_api_Slice_api_Slice_k1_ok (l : List api_Slice) (a) (h : l.length ≤ 9223372036854775807) : Tot (slices_ContainsFunc_api_Slice_api_Slice_k1 l a) := by
  unfold slices_ContainsFunc_api_Slice_api_Slice_k1
  refine ok_bind (Q := Yes) ?_ (fun _ _ => ok_yes)
  unfold slices_IndexFunc_api_Slice_api_Slice_k1
  refine ok_bindS (Q := Yes) (ok_up l.length (by omega) fun i h1 h2 => ?_) (fun _ _ => ?_) (fun _ _ => ?_)
  · unfold slices_IndexFunc_api_Slice_api_Slice_k1_L1
    repeat' (first | with_reducible exact ok_yes | with_reducible exact ok_inrY | with_reducible exact ok_inlY | (with_reducible refine ok_next ?_ ?_ ?_ <;> (first | assumption | omega | (rw [w64_of] <;> omega))) | (with_reducible refine ok_nite (fun _ => ?_) (fun _ => ?_)) | (with_reducible refine ok_ite (fun _ => ?_) (fun _ => ?_)) | (with_reducible refine ok_not (fun _ => ?_) (fun _ => ?_)) | (with_reducible refine ok_cond (fun _ => ?_) (fun _ => ?_)) | with_reducible refine ok_bind (ok_idx (by (first | assumption | omega | (rw [w64_of] <;> omega))) (by (first | assumption | omega | (rw [w64_of] <;> omega)))) (fun _ _ => ?_) | (with_reducible refine Ok.yes (trace_outside_1_k1_ok _ _) <;> (first | assumption | omega | (rw [w64_of] <;> omega))) | (with_reducible refine ok_bind (Q := Yes) ?_ (fun _ _ => ?_)) | dsimp only)
  · repeat' (first | with_reducible exact ok_yes | with_reducible exact ok_inrY | with_reducible exact ok_inlY | (with_reducible refine ok_next ?_ ?_ ?_ <;> (first | assumption | omega | (rw [w64_of] <;> omega))) | (with_reducible refine ok_nite (fun _ => ?_) (fun _ => ?_)) | (with_reducible refine ok_ite (fun _ => ?_) (fun _ => ?_)) | (with_reducible refine ok_not (fun _ => ?_) (fun _ => ?_)) | (with_reducible refine ok_cond (fun _ => ?_) (fun _ => ?_)) | with_reducible refine ok_bind (ok_idx (by (first | assumption | omega | (rw [w64_of] <;> omega))) (by (first | assumption | omega | (rw [w64_of] <;> omega)))) (fun _ _ => ?_) | (with_reducible refine Ok.yes (trace_outside_1_k1_ok _ _) <;> (first | assumption | omega | (rw [w64_of] <;> omega))) | (with_reducible refine ok_bind (Q := Yes) ?_ (fun _ _ => ?_)) | dsimp only)
  · repeat' (first | with_reducible exact ok_yes | with_reducible exact ok_inrY | with_reducible exact ok_inlY | (with_reducible refine ok_next ?_ ?_ ?_ <;> (first | assumption | omega | (rw [w64_of] <;> omega))) | (with_reducible refine ok_nite (fun _ => ?_) (fun _ => ?_)) | (with_reducible refine ok_ite (fun _ => ?_) (fun _ => ?_)) | (with_reducible refine ok_not (fun _ => ?_) (fun _ => ?_)) | (with_reducible refine ok_cond (fun _ => ?_) (fun _ => ?_)) | with_reducible refine ok_bind (ok_idx (by (first | assumption | omega | (rw [w64_of] <;> omega))) (by (first | assumption | omega | (rw [w64_of] <;> omega)))) (fun _ _ => ?_) | (with_reducible refine Ok.yes (trace_outside_1_k1_ok _ _) <;> (first | assumption | omega | (rw [w64_of] <;> omega))) | (with_reducible refine ok_bind (Q := Yes) ?_ (fun _ _ => ?_)) | dsimp only)
theorem trace_outside_2_k1_ok (a b) : Tot (trace_outside_2_k1 a b) := by
  unfold trace_outside_2_k1
  repeat' (first | with_reducible exact ok_yes | with_reducible exact ok_inrY | with_reducible exact ok_inlY | (with_reducible refine ok_next ?_ ?_ ?_ <;> (first | assumption | omega | (rw [w64_of] <;> omega))) | (with_reducible refine ok_nite (fun _ => ?_) (fun _ => ?_)) | (with_reducible refine ok_ite (fun _ => ?_) (fun _ => ?_)) | (with_reducible refine ok_not (fun _ => ?_) (fun _ => ?_)) | (with_reducible refine ok_cond (fun _ => ?_) (fun _ => ?_)) | with_reducible refine ok_bind (ok_idx (by (first | assumption | omega | (rw [w64_of] <;> omega))) (by (first | assumption | omega | (rw [w64_of] <;> omega)))) (fun _ _ => ?_) | (with_reducible refine Ok.yes (trace_within_ok _ _) <;> (first | assumption | omega | (rw [w64_of] <;> omega))) | (with_reducible refine Ok.yes (trace_inside_ok _ _) <;> (first | assumption | omega | (rw [w64_of] <;> omega))) | (with_reducible refine ok_bind (Q := Yes) ?_ (fun _ _ => ?_)) | dsimp only)
theorem slices_ContainsFunc_api_State_api_State_k1_ok (l : List api_State) (a) (h : l.length ≤ 9223372036854775807) : Tot (slices_ContainsFunc_api_State_api_State_k1 l a) := by
  unfold slices_ContainsFunc_api_State_api_State_k1
  refine ok_bind (Q := Yes) ?_ (fun _ _ => ok_yes)
  unfold slices_IndexFunc_api_State_api_State_k1
  refine ok_bindS (Q := Yes) (ok_up l.length (by omega) fun i h1 h2 => ?_) (fun _ _ => ?_) (fun _ _ => ?_)
  · unfold slices_IndexFunc_api_State_api_State_k1_L1
    repeat' (first | with_reducible exact ok_yes | with_reducible exact ok_inrY | with_reducible exact ok_inlY | (with_reducible refine ok_next ?_ ?_ ?_ <;> (first | assumption | omega | (rw [w64_of] <;> omega))) | (with_reducible refine ok_nite (fun _ => ?_) (fun _ => ?_)) | (with_reducible refine ok_ite (fun _ => ?_) (fun _ => ?_)) | (with_reducible refine ok_not (fun _ => ?_) (fun _ => ?_)) | (with_reducible refine ok_cond (fun _ => ?_) (fun _ => ?_)) | with_reducible refine ok_bind (ok_idx (by (first | assumption | omega | (rw [w64_of] <;> omega))) (by (first | assumption | omega | (rw [w64_of] <;> omega)))) (fun _ _ => ?_) | (with_reducible refine Ok.yes (trace_outside_2_k1_ok _ _) <;> (first | assumption | omega | (rw [w64_of] <;> omega))) | (with_reducible refine ok_bind (Q := Yes) ?_ (fun _ _ => ?_)) | dsimp only)
  · repeat' (first | with_reducible exact ok_yes | with_reducible exact ok_inrY | with_reducible exact ok_inlY | (with_reducible refine ok_next ?_ ?_ ?_ <;> (first | assumption | omega | (rw [w64_of] <;> omega))) | (with_reducible refine ok_nite (fun _ => ?_) (fun _ => ?_)) | (with_reducible refine ok_ite (fun _ => ?_) (fun _ => ?_)) | (with_reducible refine ok_not (fun _ => ?_) (fun _ => ?_)) | (with_reducible refine ok_cond (fun _ => ?_) (fun _ => ?_)) | with_reducible refine ok_bind (ok_idx (by (first | assumption | omega | (rw [w64_of] <;> omega))) (by (first | assumption | omega | (rw [w64_of] <;> omega)))) (fun _ _ => ?_) | (with_reducible refine Ok.yes (trace_outside_2_k1_ok _ _) <;> (first | assumption | omega | (rw [w64_of] <;> omega))) | (with_reducible refine ok_bind (Q := Yes) ?_ (fun _ _ => ?_)) | dsimp only)
  · repeat' (first | with_reducible exact ok_yes | with_reducible exact ok_inrY | with_reducible exact ok_inlY | (with_reducible refine ok_next ?_ ?_ ?_ <;> (first | assumption | omega | (rw [w64_of] <;> omega))) | (with_reducible refine ok_nite (fun _ => ?_) (fun _ => ?_)) | (with_reducible refine ok_ite (fun _ => ?_) (fun _ => ?_)) | (with_reducible refine ok_not (fun _ => ?_) (fun _ => ?_)) | (with_reducible refine ok_cond (fun _ => ?_) (fun _ => ?_)) | with_reducible refine ok_bind (ok_idx (by (first | assumption | omega | (rw [w64_of] <;> omega))) (by (first | assumption | omega | (rw [w64_of] <;> omega)))) (fun _ _ => ?_) | (with_reducible refine Ok.yes (trace_outside_2_k1_ok _ _) <;> (first | assumption | omega | (rw [w64_of] <;> omega))) | (with_reducible refine ok_bind (Q := Yes) ?_ (fun _ _ => ?_)) | dsimp only)
theorem trace_outside_3_k1_ok (a b) : Tot (trace_outside_3_k1 a b) := by
  unfold trace_outside_3_k1
  repeat' (first | with_reducible exact ok_yes | with_reducible exact ok_inrY | with_reducible exact ok_inlY | (with_reducible refine ok_next ?_ ?_ ?_ <;> (first | assumption | omega | (rw [w64_of] <;> omega))) | (with_reducible refine ok_nite (fun _ => ?_) (fun _ => ?_)) | (with_reducible refine ok_ite (fun _ => ?_) (fun _ => ?_)) | (with_reducible refine ok_not (fun _ => ?_) (fun _ => ?_)) | (with_reducible refine ok_cond (fun _ => ?_) (fun _ => ?_)) | with_reducible refine ok_bind (ok_idx (by (first | assumption | omega | (rw [w64_of] <;> omega))) (by (first | assumption | omega | (rw [w64_of] <;> omega)))) (fun _ _ => ?_) | (with_reducible refine Ok.yes (trace_within_ok _ _) <;> (first | assumption | omega | (rw [w64_of] <;> omega))) | (with_reducible refine Ok.yes (trace_inside_ok _ _) <;> (first | assumption | omega | (rw [w64_of] <;> omega))) | (with_reducible refine ok_bind (Q := Yes) ?_ (fun _ _ => ?_)) | dsimp only)
theorem slices_ContainsFunc_api_Block_api_Block_k1_ok (l : List api_Block) (a) (h : l.length ≤ 9223372036854775807) : Tot (slices_ContainsFunc_api_Block_api_Block_k1 l a) := by
  unfold slices_ContainsFunc_api_Block_api_Block_k1
  refine ok_bind (Q := Yes) ?_ (fun _ _ => ok_yes)
  unfold slices_IndexFunc_api_Block_api_Block_k1
  refine ok_bindS (Q := Yes) (ok_up l.length (by omega) fun i h1 h2 => ?_) (fun _ _ => ?_) (fun _ _ => ?_)
  · unfold slices_IndexFunc_api_Block_api_Block_k1_L1
    repeat' (first | with_reducible exact ok_yes | with_reducible exact ok_inrY | with_reducible exact ok_inlY | (with_reducible refine ok_next ?_ ?_ ?_ <;> (first | assumption | omega | (rw [w64_of] <;> omega))) | (with_reducible refine ok_nite (fun _ => ?_) (fun _ => ?_)) | (with_reducible refine ok_ite (fun _ => ?_) (fun _ => ?_)) | (with_reducible refine ok_not (fun _ => ?_) (fun _ => ?_)) | (with_reducible refine ok_cond (fun _ => ?_) (fun _ => ?_)) | with_reducible refine ok_bind (ok_idx (by (first | assumption | omega | (rw [w64_of] <;> omega))) (by (first | assumption | omega | (rw [w64_of] <;> omega)))) (fun _ _ => ?_) | (with_reducible refine Ok.yes (trace_outside_3_k1_ok _ _) <;> (first | assumption | omega | (rw [w64_of] <;> omega))) | (with_reducible refine ok_bind (Q := Yes) ?_ (fun _ _ => ?_)) | dsimp only)
  · repeat' (first | with_reducible exact ok_yes | with_reducible exact ok_inrY | with_reducible exact ok_inlY | (with_reducible refine ok_next ?_ ?_ ?_ <;> (first | assumption | omega | (rw [w64_of] <;> omega))) | (with_reducible refine ok_nite (fun _ => ?_) (fun _ => ?_)) | (with_reducible refine ok_ite (fun _ => ?_) (fun _ => ?_)) | (with_reducible refine ok_not (fun _ => ?_) (fun _ => ?_)) | (with_reducible refine ok_cond (fun _ => ?_) (fun _ => ?_)) | with_reducible refine ok_bind (ok_idx (by (first | assumption | omega | (rw [w64_of] <;> omega))) (by (first | assumption | omega | (rw [w64_of] <;> omega)))) (fun _ _ => ?_) | (with_reducible refine Ok.yes (trace_outside_3_k1_ok _ _) <;> (first | assumption | omega | (rw [w64_of] <;> omega))) | (with_reducible refine ok_bind (Q := Yes) ?_ (fun _ _ => ?_)) | dsimp only)
  · repeat' (first | with_reducible exact ok_yes | with_reducible exact ok_inrY | with_reducible exact ok_inlY | (with_reducible refine ok_next ?_ ?_ ?_ <;> (first | assumption | omega | (rw [w64_of] <;> omega))) | (with_reducible refine ok_nite (fun _ => ?_) (fun _ => ?_)) | (with_reducible refine ok_ite (fun _ => ?_) (fun _ => ?_)) | (with_reducible refine ok_not (fun _ => ?_) (fun _ => ?_)) | (with_reducible refine ok_cond (fun _ => ?_) (fun _ => ?_)) | with_reducible refine ok_bind (ok_idx (by (first | assumption | omega | (rw [w64_of] <;> omega))) (by (first | assumption | omega | (rw [w64_of] <;> omega)))) (fun _ _ => ?_) | (with_reducible refine Ok.yes (trace_outside_3_k1_ok _ _) <;> (first | assumption | omega | (rw [w64_of] <;> omega))) | (with_reducible refine ok_bind (Q := Yes) ?_ (fun _ _ => ?_)) | dsimp only)
theorem trace_outside_4_k1_ok (a b) : Tot (trace_outside_4_k1 a b) := by
  unfold trace_outside_4_k1
  repeat' (first | with_reducible exact ok_yes | with_reducible exact ok_inrY | with_reducible exact ok_inlY | (with_reducible refine ok_next ?_ ?_ ?_ <;> (first | assumption | omega | (rw [w64_of] <;> omega))) | (with_reducible refine ok_nite (fun _ => ?_) (fun _ => ?_)) | (with_reducible refine ok_ite (fun _ => ?_) (fun _ => ?_)) | (with_reducible refine ok_not (fun _ => ?_) (fun _ => ?_)) | (with_reducible refine ok_cond (fun _ => ?_) (fun _ => ?_)) | with_reducible refine ok_bind (ok_idx (by (first | assumption | omega | (rw [w64_of] <;> omega))) (by (first | assumption | omega | (rw [w64_of] <;> omega)))) (fun _ _ => ?_) | (with_reducible refine Ok.yes (trace_within_ok _ _) <;> (first | assumption | omega | (rw [w64_of] <;> omega))) | (with_reducible refine Ok.yes (trace_inside_ok _ _) <;> (first | assumption | omega | (rw [w64_of] <;> omega))) | (with_reducible refine ok_bind (Q := Yes) ?_ (fun _ _ => ?_)) | dsimp only)
theorem slices_ContainsFunc_api_Flow_api_Flow_k1_ok (l : List api_Flow) (a) (h : l.length ≤ 9223372036854775807) : Tot (slices_ContainsFunc_api_Flow_api_Flow_k1 l a) := by
  unfold slices_ContainsFunc_api_Flow_api_Flow_k1
  refine ok_bind (Q := Yes) ?_ (fun _ _ => ok_yes)
  unfold slices_IndexFunc_api_Flow_api_Flow_k1
  refine ok_bindS (Q := Yes) (ok_up l.length (by omega) fun i h1 h2 => ?_) (fun _ _ => ?_) (fun _ _ => ?_)
  · unfold slices_IndexFunc_api_Flow_api_Flow_k1_L1
    repeat' (first | with_reducible exact ok_yes | with_reducible exact ok_inrY | with_reducible exact ok_inlY | (with_reducible refine ok_next ?_ ?_ ?_ <;> (first | assumption | omega | (rw [w64_of] <;> omega))) | (with_reducible refine ok_nite (fun _ => ?_) (fun _ => ?_)) | (with_reducible refine ok_ite (fun _ => ?_) (fun _ => ?_)) | (with_reducible refine ok_not (fun _ => ?_) (fun _ => ?_)) | (with_reducible refine ok_cond (fun _ => ?_) (fun _ => ?_)) | with_reducible refine ok_bind (ok_idx (by (first | assumption | omega | (rw [w64_of] <;> omega))) (by (first | assumption | omega | (rw [w64_of] <;> omega)))) (fun _ _ => ?_) | (with_reducible refine Ok.yes (trace_outside_4_k1_ok _ _) <;> (first | assumption | omega | (rw [w64_of] <;> omega))) | (with_reducible refine ok_bind (Q := Yes) ?_ (fun _ _ => ?_)) | dsimp only)
  · repeat' (first | with_reducible exact ok_yes | with_reducible exact ok_inrY | with_reducible exact ok_inlY | (with_reducible refine ok_next ?_ ?_ ?_ <;> (first | assumption | omega | (rw [w64_of] <;> omega))) | (with_reducible refine ok_nite (fun _ => ?_) (fun _ => ?_)) | (with_reducible refine ok_ite (fun _ => ?_) (fun _ => ?_)) | (with_reducible refine ok_not (fun _ => ?_) (fun _ => ?_)) | (with_reducible refine ok_cond (fun _ => ?_) (fun _ => ?_)) | with_reducible refine ok_bind (ok_idx (by (first | assumption | omega | (rw [w64_of] <;> omega))) (by (first | assumption | omega | (rw [w64_of] <;> omega)))) (fun _ _ => ?_) | (with_reducible refine Ok.yes (trace_outside_4_k1_ok _ _) <;> (first | assumption | omega | (rw [w64_of] <;> omega))) | (with_reducible refine ok_bind (Q := Yes) ?_ (fun _ _ => ?_)) | dsimp only)
  · repeat' (first | with_reducible exact ok_yes | with_reducible exact ok_inrY | with_reducible exact ok_inlY | (with_reducible refine ok_next ?_ ?_ ?_ <;> (first | assumption | omega | (rw [w64_of] <;> omega))) | (with_reducible refine ok_nite (fun _ => ?_) (fun _ => ?_)) | (with_reducible refine ok_ite (fun _ => ?_) (fun _ => ?_)) | (with_reducible refine ok_not (fun _ => ?_) (fun _ => ?_)) | (with_reducible refine ok_cond (fun _ => ?_) (fun _ => ?_)) | with_reducible refine ok_bind (ok_idx (by (first | assumption | omega | (rw [w64_of] <;> omega))) (by (first | assumption | omega | (rw [w64_of] <;> omega)))) (fun _ _ => ?_) | (with_reducible refine Ok.yes (trace_outside_4_k1_ok _ _) <;> (first | assumption | omega | (rw [w64_of] <;> omega))) | (with_reducible refine ok_bind (Q := Yes) ?_ (fun _ _ => ?_)) | dsimp only)
theorem trace_outside_5_k1_ok (a b) : Tot (trace_outside_5_k1 a b) := by
  unfold trace_outside_5_k1
  repeat' (first | with_reducible exact ok_yes | with_reducible exact ok_inrY | with_reducible exact ok_inlY | (with_reducible refine ok_next ?_ ?_ ?_ <;> (first | assumption | omega | (rw [w64_of] <;> omega))) | (with_reducible refine ok_nite (fun _ => ?_) (fun _ => ?_)) | (with_reducible refine ok_ite (fun _ => ?_) (fun _ => ?_)) | (with_reducible refine ok_not (fun _ => ?_) (fun _ => ?_)) | (with_reducible refine ok_cond (fun _ => ?_) (fun _ => ?_)) | with_reducible refine ok_bind (ok_idx (by (first | assumption | omega | (rw [w64_of] <;> omega))) (by (first | assumption | omega | (rw [w64_of] <;> omega)))) (fun _ _ => ?_) | (with_reducible refine Ok.yes (trace_within_ok _ _) <;> (first | assumption | omega | (rw [w64_of] <;> omega))) | (with_reducible refine Ok.yes (trace_inside_ok _ _) <;> (first | assumption | omega | (rw [w64_of] <;> omega))) | (with_reducible refine ok_bind (Q := Yes) ?_ (fun _ _ => ?_)) | dsimp only)
theorem slices_ContainsFunc_api_Sample_api_Sample_k1_ok (l : List api_Sample) (a) (h : l.length ≤ 9223372036854775807) : Tot (slices_ContainsFunc_api_Sample_api_Sample_k1 l a) := by
  unfold slices_ContainsFunc_api_Sample_api_Sample_k1
  refine ok_bind (Q := Yes) ?_ (fun _ _ => ok_yes)
  unfold slices_IndexFunc_api_Sample_api_Sample_k1
  refine ok_bindS (Q := Yes) (ok_up l.length (by omega) fun i h1 h2 => ?_) (fun _ _ => ?_) (fun _ _ => ?_)
  · unfold slices_IndexFunc_api_Sample_api_Sample_k1_L1
    repeat' (first | with_reducible exact ok_yes | with_reducible exact ok_inrY | with_reducible exact ok_inlY | (with_reducible refine ok_next ?_ ?_ ?_ <;> (first | assumption | omega | (rw [w64_of] <;> omega))) | (with_reducible refine ok_nite (fun _ => ?_) (fun _ => ?_)) | (with_reducible refine ok_ite (fun _ => ?_) (fun _ => ?_)) | (with_reducible refine ok_not (fun _ => ?_) (fun _ => ?_)) | (with_reducible refine ok_cond (fun _ => ?_) (fun _ => ?_)) | with_reducible refine ok_bind (ok_idx (by (first | assumption | omega | (rw [w64_of] <;> omega))) (by (first | assumption | omega | (rw [w64_of] <;> omega)))) (fun _ _ => ?_) | (with_reducible refine Ok.yes (trace_outside_5_k1_ok _ _) <;> (first | assumption | omega | (rw [w64_of] <;> omega))) | (with_reducible refine ok_bind (Q := Yes) ?_ (fun _ _ => ?_)) | dsimp only)
  · repeat' (first | with_reducible exact ok_yes | with_reducible exact ok_inrY | with_reducible exact ok_inlY | (with_reducible refine ok_next ?_ ?_ ?_ <;> (first | assumption | omega | (rw [w64_of] <;> omega))) | (with_reducible refine ok_nite (fun _ => ?_) (fun _ => ?_)) | (with_reducible refine ok_ite (fun _ => ?_) (fun _ => ?_)) | (with_reducible refine ok_not (fun _ => ?_) (fun _ => ?_)) | (with_reducible refine ok_cond (fun _ => ?_) (fun _ => ?_)) | with_reducible refine ok_bind (ok_idx (by (first | assumption | omega | (rw [w64_of] <;> omega))) (by (first | assumption | omega | (rw [w64_of] <;> omega)))) (fun _ _ => ?_) | (with_reducible refine Ok.yes (trace_outside_5_k1_ok _ _) <;> (first | assumption | omega | (rw [w64_of] <;> omega))) | (with_reducible refine ok_bind (Q := Yes) ?_ (fun _ _ => ?_)) | dsimp only)
  · repeat' (first | with_reducible exact ok_yes | with_reducible exact ok_inrY | with_reducible exact ok_inlY | (with_reducible refine ok_next ?_ ?_ ?_ <;> (first | assumption | omega | (rw [w64_of] <;> omega))) | (with_reducible refine ok_nite (fun _ => ?_) (fun _ => ?_)) | (with_reducible refine ok_ite (fun _ => ?_) (fun _ => ?_)) | (with_reducible refine ok_not (fun _ => ?_) (fun _ => ?_)) | (with_reducible refine ok_cond (fun _ => ?_) (fun _ => ?_)) | with_reducible refine ok_bind (ok_idx (by (first | assumption | omega | (rw [w64_of] <;> omega))) (by (first | assumption | omega | (rw [w64_of] <;> omega)))) (fun _ _ => ?_) | (with_reducible refine Ok.yes (trace_outside_5_k1_ok _ _) <;> (first | assumption | omega | (rw [w64_of] <;> omega))) | (with_reducible refine ok_bind (Q := Yes) ?_ (fun _ _ => ?_)) | dsimp only)
theorem trace_outside_6_k1_ok (a b) : Tot (trace_outside_6_k1 a b) := by
  unfold trace_outside_6_k1
  repeat' (first | with_reducible exact ok_yes | with_reducible exact ok_inrY | with_reducible exact ok_inlY | (with_reducible refine ok_next ?_ ?_ ?_ <;> (first | assumption | omega | (rw [w64_of] <;> omega))) | (with_reducible refine ok_nite (fun _ => ?_) (fun _ => ?_)) | (with_reducible refine ok_ite (fun _ => ?_) (fun _ => ?_)) | (with_reducible refine ok_not (fun _ => ?_) (fun _ => ?_)) | (with_reducible refine ok_cond (fun _ => ?_) (fun _ => ?_)) | with_reducible refine ok_bind (ok_idx (by (first | assumption | omega | (rw [w64_of] <;> omega))) (by (first | assumption | omega | (rw [w64_of] <;> omega)))) (fun _ _ => ?_) | (with_reducible refine Ok.yes (trace_within_ok _ _) <;> (first | assumption | omega | (rw [w64_of] <;> omega))) | (with_reducible refine Ok.yes (trace_inside_ok _ _) <;> (first | assumption | omega | (rw [w64_of] <;> omega))) | (with_reducible refine ok_bind (Q := Yes) ?_ (fun _ _ => ?_)) | dsimp only)
theorem slices_ContainsFunc_api_Step_api_Step_k1_ok (l : List api_Step) (a) (h : l.length ≤ 9223372036854775807) : Tot (slices_ContainsFunc_api_Step_api_Step_k1 l a) := by
  unfold slices_ContainsFunc_api_Step_api_Step_k1
  refine ok_bind (Q := Yes) ?_ (fun _ _ => ok_yes)
  unfold slices_IndexFunc_api_Step_api_Step_k1
  refine ok_bindS (Q := Yes) (ok_up l.length (by omega) fun i h1 h2 => ?_) (fun _ _ => ?_) (fun _ _ => ?_)
  · unfold slices_IndexFunc_api_Step_api_Step_k1_L1
    repeat' (first | with_reducible exact ok_yes | with_reducible exact ok_inrY | with_reducible exact ok_inlY | (with_reducible refine ok_next ?_ ?_ ?_ <;> (first | assumption | omega | (rw [w64_of] <;> omega))) | (with_reducible refine ok_nite (fun _ => ?_) (fun _ => ?_)) | (with_reducible refine ok_ite (fun _ => ?_) (fun _ => ?_)) | (with_reducible refine ok_not (fun _ => ?_) (fun _ => ?_)) | (with_reducible refine ok_cond (fun _ => ?_) (fun _ => ?_)) | with_reducible refine ok_bind (ok_idx (by (first | assumption | omega | (rw [w64_of] <;> omega))) (by (first | assumption | omega | (rw [w64_of] <;> omega)))) (fun _ _ => ?_) | (with_reducible refine Ok.yes (trace_outside_6_k1_ok _ _) <;> (first | assumption | omega | (rw [w64_of] <;> omega))) | (with_reducible refine ok_bind (Q := Yes) ?_ (fun _ _ => ?_)) | dsimp only)
  · repeat' (first | with_reducible exact ok_yes | with_reducible exact ok_inrY | with_reducible exact ok_inlY | (with_reducible refine ok_next ?_ ?_ ?_ <;> (first | assumption | omega | (rw [w64_of] <;> omega))) | (with_reducible refine ok_nite (fun _ => ?_) (fun _ => ?_)) | (with_reducible refine ok_ite (fun _ => ?_) (fun _ => ?_)) | (with_reducible refine ok_not (fun _ => ?_) (fun _ => ?_)) | (with_reducible refine ok_cond (fun _ => ?_) (fun _ => ?_)) | with_reducible refine ok_bind (ok_idx (by (first | assumption | omega | (rw [w64_of] <;> omega))) (by (first | assumption | omega | (rw [w64_of] <;> omega)))) (fun _ _ => ?_) | (with_reducible refine Ok.yes (trace_outside_6_k1_ok _ _) <;> (first | assumption | omega | (rw [w64_of] <;> omega))) | (with_reducible refine ok_bind (Q := Yes) ?_ (fun _ _ => ?_)) | dsimp only)
  · repeat' (first | with_reducible exact ok_yes | with_reducible exact ok_inrY | with_reducible exact ok_inlY | (with_reducible refine ok_next ?_ ?_ ?_ <;> (first | assumption | omega | (rw [w64_of] <;> omega))) | (with_reducible refine ok_nite (fun _ => ?_) (fun _ => ?_)) | (with_reducible refine ok_ite (fun _ => ?_) (fun _ => ?_)) | (with_reducible refine ok_not (fun _ => ?_) (fun _ => ?_)) | (with_reducible refine ok_cond (fun _ => ?_) (fun _ => ?_)) | with_reducible refine ok_bind (ok_idx (by (first | assumption | omega | (rw [w64_of] <;> omega))) (by (first | assumption | omega | (rw [w64_of] <;> omega)))) (fun _ _ => ?_) | (with_reducible refine Ok.yes (trace_outside_6_k1_ok _ _) <;> (first | assumption | omega | (rw [w64_of] <;> omega))) | (with_reducible refine ok_bind (Q := Yes) ?_ (fun _ _ => ?_)) | dsimp only)
theorem trace_outside_ok (t : api_Trace) (h : Siz t) : Tot (trace_outside t) := by
  unfold trace_outside
  repeat' (first | with_reducible exact ok_yes | with_reducible exact ok_inrY | with_reducible exact ok_inlY | (with_reducible refine ok_next ?_ ?_ ?_ <;> (first | assumption | omega | (rw [w64_of] <;> omega))) | (with_reducible refine ok_nite (fun _ => ?_) (fun _ => ?_)) | (with_reducible refine ok_ite (fun _ => ?_) (fun _ => ?_)) | (with_reducible refine ok_not (fun _ => ?_) (fun _ => ?_)) | (with_reducible refine ok_cond (fun _ => ?_) (fun _ => ?_)) | with_reducible refine ok_bind (ok_idx (by (first | assumption | omega | (rw [w64_of] <;> omega))) (by (first | assumption | omega | (rw [w64_of] <;> omega)))) (fun _ _ => ?_) | (with_reducible refine Ok.yes (slices_ContainsFunc_api_Slice_api_Slice_k1_ok _ _ h.sl) <;> (first | assumption | omega | (rw [w64_of] <;> omega))) | (with_reducible refine Ok.yes (slices_ContainsFunc_api_State_api_State_k1_ok _ _ h.st) <;> (first | assumption | omega | (rw [w64_of] <;> omega))) | (with_reducible refine Ok.yes (slices_ContainsFunc_api_Block_api_Block_k1_ok _ _ h.bl) <;> (first | assumption | omega | (rw [w64_of] <;> omega))) | (with_reducible refine Ok.yes (slices_ContainsFunc_api_Flow_api_Flow_k1_ok _ _ h.fl) <;> (first | assumption | omega | (rw [w64_of] <;> omega))) | (with_reducible refine Ok.yes (slices_ContainsFunc_api_Sample_api_Sample_k1_ok _ _ h.sa) <;> (first | assumption | omega | (rw [w64_of] <;> omega))) | (with_reducible refine Ok.yes (slices_ContainsFunc_api_Step_api_Step_k1_ok _ _ h.sp) <;> (first | assumption | omega | (rw [w64_of] <;> omega))) | (with_reducible refine ok_bind (Q := Yes) ?_ (fun _ _ => ?_)) | dsimp only)
theorem slices_Index_int_int_ok (l : List Int) (a : Int) (h : l.length ≤ 9223372036854775807) : Tot (slices_Index_int_int l a) := by
  unfold slices_Index_int_int
  refine ok_bindS (Q := Yes) (ok_up l.length (by omega) fun i h1 h2 => ?_) (fun _ _ => ?_) (fun _ _ => ?_)
  · unfold slices_Index_int_int_L1
    repeat' (first | with_reducible exact ok_yes | with_reducible exact ok_inrY | with_reducible exact ok_inlY | (with_reducible refine ok_next ?_ ?_ ?_ <;> (first | assumption | omega | (rw [w64_of] <;> omega))) | (with_reducible refine ok_nite (fun _ => ?_) (fun _ => ?_)) | (with_reducible refine ok_ite (fun _ => ?_) (fun _ => ?_)) | (with_reducible refine ok_not (fun _ => ?_) (fun _ => ?_)) | (with_reducible refine ok_cond (fun _ => ?_) (fun _ => ?_)) | with_reducible refine ok_bind (ok_idx (by (first | assumption | omega | (rw [w64_of] <;> omega))) (by (first | assumption | omega | (rw [w64_of] <;> omega)))) (fun _ _ => ?_) | (with_reducible refine ok_bind (Q := Yes) ?_ (fun _ _ => ?_)) | dsimp only)
  · repeat' (first | with_reducible exact ok_yes | with_reducible exact ok_inrY | with_reducible exact ok_inlY | (with_reducible refine ok_next ?_ ?_ ?_ <;> (first | assumption | omega | (rw [w64_of] <;> omega))) | (with_reducible refine ok_nite (fun _ => ?_) (fun _ => ?_)) | (with_reducible refine ok_ite (fun _ => ?_) (fun _ => ?_)) | (with_reducible refine ok_not (fun _ => ?_) (fun _ => ?_)) | (with_reducible refine ok_cond (fun _ => ?_) (fun _ => ?_)) | with_reducible refine ok_bind (ok_idx (by (first | assumption | omega | (rw [w64_of] <;> omega))) (by (first | assumption | omega | (rw [w64_of] <;> omega)))) (fun _ _ => ?_) | (with_reducible refine ok_bind (Q := Yes) ?_ (fun _ _ => ?_)) | dsimp only)
  · repeat' (first | with_reducible exact ok_yes | with_reducible exact ok_inrY | with_reducible exact ok_inlY | (with_reducible refine ok_next ?_ ?_ ?_ <;> (first | assumption | omega | (rw [w64_of] <;> omega))) | (with_reducible refine ok_nite (fun _ => ?_) (fun _ => ?_)) | (with_reducible refine ok_ite (fun _ => ?_) (fun _ => ?_)) | (with_reducible refine ok_not (fun _ => ?_) (fun _ => ?_)) | (with_reducible refine ok_cond (fun _ => ?_) (fun _ => ?_)) | with_reducible refine ok_bind (ok_idx (by (first | assumption | omega | (rw [w64_of] <;> omega))) (by (first | assumption | omega | (rw [w64_of] <;> omega)))) (fun _ _ => ?_) | (with_reducible refine ok_bind (Q := Yes) ?_ (fun _ _ => ?_)) | dsimp only)
theorem slices_Contains_int_int_ok (l : List Int) (a : Int) (h : l.length ≤ 9223372036854775807) : Tot (slices_Contains_int_int l a) := by
  unfold slices_Contains_int_int
  repeat' (first | with_reducible exact ok_yes | with_reducible exact ok_inrY | with_reducible exact ok_inlY | (with_reducible refine ok_next ?_ ?_ ?_ <;> (first | assumption | omega | (rw [w64_of] <;> omega))) | (with_reducible refine ok_nite (fun _ => ?_) (fun _ => ?_)) | (with_reducible refine ok_ite (fun _ => ?_) (fun _ => ?_)) | (with_reducible refine ok_not (fun _ => ?_) (fun _ => ?_)) | (with_reducible refine ok_cond (fun _ => ?_) (fun _ => ?_)) | with_reducible refine ok_bind (ok_idx (by (first | assumption | omega | (rw [w64_of] <;> omega))) (by (first | assumption | omega | (rw [w64_of] <;> omega)))) (fun _ _ => ?_) | (with_reducible refine Ok.yes (slices_Index_int_int_ok _ _ h) <;> (first | assumption | omega | (rw [w64_of] <;> omega))) | (with_reducible refine ok_bind (Q := Yes) ?_ (fun _ _ => ?_)) | dsimp only)
theorem state_fields_ok (a) : Tot (state_fields a) := by
  unfold state_fields
  repeat' (first | with_reducible exact ok_yes | with_reducible exact ok_inrY | with_reducible exact ok_inlY | (with_reducible refine ok_next ?_ ?_ ?_ <;> (first | assumption | omega | (rw [w64_of] <;> omega))) | (with_reducible refine ok_nite (fun _ => ?_) (fun _ => ?_)) | (with_reducible refine ok_ite (fun _ => ?_) (fun _ => ?_)) | (with_reducible refine ok_not (fun _ => ?_) (fun _ => ?_)) | (with_reducible refine ok_cond (fun _ => ?_) (fun _ => ?_)) | with_reducible refine ok_bind (ok_idx (by (first | assumption | omega | (rw [w64_of] <;> omega))) (by (first | assumption | omega | (rw [w64_of] <;> omega)))) (fun _ _ => ?_) | (with_reducible refine ok_bind (Q := Yes) ?_ (fun _ _ => ?_)) | dsimp only)
theorem state_same_ok (a b) : Tot (state_same a b) := by
  unfold state_same
  repeat' (first | with_reducible exact ok_yes | with_reducible exact ok_inrY | with_reducible exact ok_inlY | (with_reducible refine ok_next ?_ ?_ ?_ <;> (first | assumption | omega | (rw [w64_of] <;> omega))) | (with_reducible refine ok_nite (fun _ => ?_) (fun _ => ?_)) | (with_reducible refine ok_ite (fun _ => ?_) (fun _ => ?_)) | (with_reducible refine ok_not (fun _ => ?_) (fun _ => ?_)) | (with_reducible refine ok_cond (fun _ => ?_) (fun _ => ?_)) | with_reducible refine ok_bind (ok_idx (by (first | assumption | omega | (rw [w64_of] <;> omega))) (by (first | assumption | omega | (rw [w64_of] <;> omega)))) (fun _ _ => ?_) | (with_reducible refine ok_bind (Q := Yes) ?_ (fun _ _ => ?_)) | dsimp only)
def Up (l : List api_Slice) (n : Int) : Prop := ∀ (j : Nat) y, (j : Int) < n → l[j]? = some y → -1 ≤ y.fParent ∧ y.fParent < (j : Int)
theorem slice_nested_ok (l : List api_Slice) (h : l.length ≤ 9223372036854775807) : Ok (slice_nested l) (fun b => b = true → Up l l.length) := by
  unfold slice_nested
  refine ok_bindS (Q := InlR (fun _ => Up l l.length) (fun b => b = false)) (ok_upI l.length (Up l) h (by intro j y hj; omega) (fun i hI h1 h2 => ?_)) (fun _ hq => ok_some (fun _ => hq)) (fun r hr => ok_some (fun e => ?_))
  · unfold slice_nested_L1
    refine ok_ite (fun hi => ?_) (fun hi => ok_inr (by have : i = l.length := by omega
                                                       subst this; exact hI))
    refine ok_bind (ok_idx h1 hi) (fun y hy => ?_)
    have no : InlR (fun _ : Unit => Up l l.length) (fun b => b = false) (.inr false) := rfl
    refine ok_bind (Q := fun v => v = false → -1 ≤ y.fParent ∧ y.fParent < i) ?_ (fun v hv => ?_)
    · refine ok_ite (fun _ => ok_some (by simp)) (fun h3 => ok_some (fun h4 => ?_))
      have := of_decide_eq_false h4
      omega
    refine ok_cond (fun _ => ok_inr no) (fun h0 => ?_)
    have hp := hv h0
    have nx : Up l (i + 1) := by
      intro j z hj hz
      by_cases e : (j : Int) = i
      · have : i.toNat = j := by omega
        rw [this] at hy
        rw [hy] at hz; cases hz
        omega
      · exact hI j z (by omega) hz
    refine ok_ite (fun _ => ?_) (fun hne => ?_)
    · refine ok_nite (fun _ => ok_inr no) (fun _ => ok_nextI nx h1 hi h)
    · refine ok_bind (ok_idx (by omega) (by omega)) (fun z _ => ?_)
      refine ok_bind (Q := Yes) (by repeat' (first | with_reducible exact ok_yes | with_reducible exact ok_inrY | with_reducible exact ok_inlY | (with_reducible refine ok_next ?_ ?_ ?_ <;> (first | assumption | omega | (rw [w64_of] <;> omega))) | (with_reducible refine ok_nite (fun _ => ?_) (fun _ => ?_)) | (with_reducible refine ok_ite (fun _ => ?_) (fun _ => ?_)) | (with_reducible refine ok_not (fun _ => ?_) (fun _ => ?_)) | (with_reducible refine ok_cond (fun _ => ?_) (fun _ => ?_)) | with_reducible refine ok_bind (ok_idx (by (first | assumption | omega | (rw [w64_of] <;> omega))) (by (first | assumption | omega | (rw [w64_of] <;> omega)))) (fun _ _ => ?_) | (with_reducible refine ok_bind (Q := Yes) ?_ (fun _ _ => ?_)) | dsimp only)) (fun v _ => ?_)
      refine ok_cond (fun _ => ok_inr no) (fun _ => ok_nextI nx h1 hi h)
  · have : r = false := hr
    simp [this] at e
theorem slice_under_ok (l : List api_Slice) (h : l.length ≤ 9223372036854775807) (hu : Up l l.length) (a b : Int) (hb : b < l.length) : Tot (slice_under l a b) := by
  unfold slice_under
  refine ok_bindS (Q := Yes) (ok_loop (fun i : Int => i < l.length) (fun i : Int => (i + 1).toNat) (fun i hi => ?_) hb (by simp [manyRounds]; omega)) (fun _ _ => ok_yes) (fun _ _ => ok_yes)
  unfold slice_under_L1
  refine ok_ite (fun h0 => ?_) (fun _ => ok_inrY)
  refine ok_ite (fun _ => ok_inrY) (fun _ => ?_)
  refine ok_bind (ok_idx h0 hi) (fun y hy => ?_)
  have := hu i.toNat y (by omega) hy
  exact ok_inl ⟨by omega, by omega⟩
theorem slice_apart_ok (l : List api_Slice) (h : l.length ≤ 9223372036854775807) (hu : Up l l.length) : Tot (slice_apart l) := by
  unfold slice_apart
  refine ok_bindS (Q := Yes) (ok_up l.length h fun i h1 h2 => ?_) (fun _ _ => ok_yes) (fun _ _ => ok_yes)
  unfold slice_apart_L2
  refine ok_ite (fun hi => ?_) (fun _ => ok_inrY)
  refine ok_bind (ok_idx h1 hi) (fun y hy => ?_)
  refine ok_bindS (Q := InlR Yes (InlR (fun _ => False) Yes)) (ok_up2 l.length (fun _ _ => True) h trivial (fun a j _ h3 h4 => ?_)) (fun _ _ => ?_) (fun r hr => ?_)
  · unfold slice_apart_L1
    dsimp only
    refine ok_ite (fun hj => ?_) (fun _ => ok_inr trivial)
    refine ok_bind (ok_idx h3 hj) (fun z hz => ?_)
    refine ok_bind (Q := Yes) (by repeat' (first | with_reducible exact ok_yes | with_reducible exact ok_inrY | with_reducible exact ok_inlY | (with_reducible refine ok_next ?_ ?_ ?_ <;> (first | assumption | omega | (rw [w64_of] <;> omega))) | (with_reducible refine ok_nite (fun _ => ?_) (fun _ => ?_)) | (with_reducible refine ok_ite (fun _ => ?_) (fun _ => ?_)) | (with_reducible refine ok_not (fun _ => ?_) (fun _ => ?_)) | (with_reducible refine ok_cond (fun _ => ?_) (fun _ => ?_)) | with_reducible refine ok_bind (ok_idx (by (first | assumption | omega | (rw [w64_of] <;> omega))) (by (first | assumption | omega | (rw [w64_of] <;> omega)))) (fun _ _ => ?_) | (with_reducible refine ok_bind (Q := Yes) ?_ (fun _ _ => ?_)) | dsimp only)) (fun v _ => ?_)
    refine ok_bind (Q := Yes) (by repeat' (first | with_reducible exact ok_yes | with_reducible exact ok_inrY | with_reducible exact ok_inlY | (with_reducible refine ok_next ?_ ?_ ?_ <;> (first | assumption | omega | (rw [w64_of] <;> omega))) | (with_reducible refine ok_nite (fun _ => ?_) (fun _ => ?_)) | (with_reducible refine ok_ite (fun _ => ?_) (fun _ => ?_)) | (with_reducible refine ok_not (fun _ => ?_) (fun _ => ?_)) | (with_reducible refine ok_cond (fun _ => ?_) (fun _ => ?_)) | with_reducible refine ok_bind (ok_idx (by (first | assumption | omega | (rw [w64_of] <;> omega))) (by (first | assumption | omega | (rw [w64_of] <;> omega)))) (fun _ _ => ?_) | (with_reducible refine Ok.yes (slice_under_ok l h hu _ _ hi) <;> (first | assumption | omega | (rw [w64_of] <;> omega))) | (with_reducible refine ok_bind (Q := Yes) ?_ (fun _ _ => ?_)) | dsimp only)) (fun v _ => ?_)
    refine ok_cond (fun _ => ok_inr trivial) (fun _ => ok_next2 (Inv := fun _ _ => True) trivial h3 hj h)
  · dsimp only
    repeat' (first | with_reducible exact ok_yes | with_reducible exact ok_inrY | with_reducible exact ok_inlY | (with_reducible refine ok_next ?_ ?_ ?_ <;> (first | assumption | omega | (rw [w64_of] <;> omega))) | (with_reducible refine ok_nite (fun _ => ?_) (fun _ => ?_)) | (with_reducible refine ok_ite (fun _ => ?_) (fun _ => ?_)) | (with_reducible refine ok_not (fun _ => ?_) (fun _ => ?_)) | (with_reducible refine ok_cond (fun _ => ?_) (fun _ => ?_)) | with_reducible refine ok_bind (ok_idx (by (first | assumption | omega | (rw [w64_of] <;> omega))) (by (first | assumption | omega | (rw [w64_of] <;> omega)))) (fun _ _ => ?_) | (with_reducible refine ok_bind (Q := Yes) ?_ (fun _ _ => ?_)) | dsimp only)
  · rcases r with r | r
    · exact (hr : False).elim
    · exact ok_inrY
theorem slice_Check_ok (l : List api_Slice) (h : l.length ≤ 9223372036854775807) (hx : ∀ x ∈ l, okN x.fName) : Tot (slice_Check l) := by
  unfold slice_Check
  refine ok_bindS (Q := Yes) (ok_up l.length h fun i h1 h2 => ?_) (fun _ _ => ?_) (fun _ _ => ok_yes)
  · unfold slice_Check_L1
    repeat' (first | with_reducible exact ok_yes | with_reducible exact ok_inrY | with_reducible exact ok_inlY | (with_reducible refine ok_next ?_ ?_ ?_ <;> (first | assumption | omega | (rw [w64_of] <;> omega))) | (with_reducible refine ok_nite (fun _ => ?_) (fun _ => ?_)) | (with_reducible refine ok_ite (fun _ => ?_) (fun _ => ?_)) | (with_reducible refine ok_not (fun _ => ?_) (fun _ => ?_)) | (with_reducible refine ok_cond (fun _ => ?_) (fun _ => ?_)) | with_reducible refine ok_bind (ok_idx (by (first | assumption | omega | (rw [w64_of] <;> omega))) (by (first | assumption | omega | (rw [w64_of] <;> omega)))) (fun _ _ => ?_) | (with_reducible refine Ok.yes (slice_compare_ok _ _) <;> (first | assumption | omega | (rw [w64_of] <;> omega))) | (with_reducible refine Ok.yes (spans_Valid_ok _) <;> (first | assumption | omega | (rw [w64_of] <;> omega))) | (with_reducible refine Ok.yes (intern_Name_ok _ (hx _ (List.mem_of_getElem? (by assumption)))) <;> (first | assumption | omega | (rw [w64_of] <;> omega))) | (with_reducible refine ok_bind (Q := Yes) ?_ (fun _ _ => ?_)) | dsimp only)
  · dsimp only
    refine ok_bind (Q := Yes) ?_ (fun _ _ => by repeat' (first | with_reducible exact ok_yes | with_reducible exact ok_inrY | with_reducible exact ok_inlY | (with_reducible refine ok_next ?_ ?_ ?_ <;> (first | assumption | omega | (rw [w64_of] <;> omega))) | (with_reducible refine ok_nite (fun _ => ?_) (fun _ => ?_)) | (with_reducible refine ok_ite (fun _ => ?_) (fun _ => ?_)) | (with_reducible refine ok_not (fun _ => ?_) (fun _ => ?_)) | (with_reducible refine ok_cond (fun _ => ?_) (fun _ => ?_)) | with_reducible refine ok_bind (ok_idx (by (first | assumption | omega | (rw [w64_of] <;> omega))) (by (first | assumption | omega | (rw [w64_of] <;> omega)))) (fun _ _ => ?_) | (with_reducible refine ok_bind (Q := Yes) ?_ (fun _ _ => ?_)) | dsimp only))
    refine ok_bind (slice_nested_ok l h) (fun b hb => ?_)
    refine ok_not (fun _ => ok_yes) (fun e => ?_)
    repeat' (first | with_reducible exact ok_yes | with_reducible exact ok_inrY | with_reducible exact ok_inlY | (with_reducible refine ok_next ?_ ?_ ?_ <;> (first | assumption | omega | (rw [w64_of] <;> omega))) | (with_reducible refine ok_nite (fun _ => ?_) (fun _ => ?_)) | (with_reducible refine ok_ite (fun _ => ?_) (fun _ => ?_)) | (with_reducible refine ok_not (fun _ => ?_) (fun _ => ?_)) | (with_reducible refine ok_cond (fun _ => ?_) (fun _ => ?_)) | with_reducible refine ok_bind (ok_idx (by (first | assumption | omega | (rw [w64_of] <;> omega))) (by (first | assumption | omega | (rw [w64_of] <;> omega)))) (fun _ _ => ?_) | (with_reducible refine Ok.yes (slice_apart_ok l h (hb e)) <;> (first | assumption | omega | (rw [w64_of] <;> omega))) | (with_reducible refine ok_bind (Q := Yes) ?_ (fun _ _ => ?_)) | dsimp only)
theorem memory_Check_ok (l : List api_Block) (h : l.length ≤ 9223372036854775807) (hx : ∀ x ∈ l, x.fStack.length ≤ 9223372036854775807 ∧ ∀ y ∈ x.fStack, okN y) : Tot (memory_Check l) := by
  unfold memory_Check
  refine ok_bindS (Q := Yes) (ok_up l.length h fun i h1 h2 => ?_) (fun _ _ => ok_yes) (fun _ _ => ok_yes)
  unfold memory_Check_L2
  refine ok_ite (fun hi => ?_) (fun _ => ok_inrY)
  refine ok_bind (ok_idx h1 hi) (fun y hy => ?_)
  refine ok_bind (Q := Yes) (by repeat' (first | with_reducible exact ok_yes | with_reducible exact ok_inrY | with_reducible exact ok_inlY | (with_reducible refine ok_next ?_ ?_ ?_ <;> (first | assumption | omega | (rw [w64_of] <;> omega))) | (with_reducible refine ok_nite (fun _ => ?_) (fun _ => ?_)) | (with_reducible refine ok_ite (fun _ => ?_) (fun _ => ?_)) | (with_reducible refine ok_not (fun _ => ?_) (fun _ => ?_)) | (with_reducible refine ok_cond (fun _ => ?_) (fun _ => ?_)) | with_reducible refine ok_bind (ok_idx (by (first | assumption | omega | (rw [w64_of] <;> omega))) (by (first | assumption | omega | (rw [w64_of] <;> omega)))) (fun _ _ => ?_) | (with_reducible refine Ok.yes (spans_Valid_ok _) <;> (first | assumption | omega | (rw [w64_of] <;> omega))) | (with_reducible refine ok_bind (Q := Yes) ?_ (fun _ _ => ?_)) | dsimp only)) (fun v _ => ?_)
  refine ok_cond (fun _ => ok_inrY) (fun _ => ?_)
  refine ok_bind (Q := Yes) (intern_Frames_ok _ (hx _ (List.mem_of_getElem? hy)).1 (hx _ (List.mem_of_getElem? hy)).2) (fun v _ => ?_)
  refine ok_nite (fun _ => ok_inrY) (fun _ => ?_)
  refine ok_bind (Q := Yes) (by repeat' (first | with_reducible exact ok_yes | with_reducible exact ok_inrY | with_reducible exact ok_inlY | (with_reducible refine ok_next ?_ ?_ ?_ <;> (first | assumption | omega | (rw [w64_of] <;> omega))) | (with_reducible refine ok_nite (fun _ => ?_) (fun _ => ?_)) | (with_reducible refine ok_ite (fun _ => ?_) (fun _ => ?_)) | (with_reducible refine ok_not (fun _ => ?_) (fun _ => ?_)) | (with_reducible refine ok_cond (fun _ => ?_) (fun _ => ?_)) | with_reducible refine ok_bind (ok_idx (by (first | assumption | omega | (rw [w64_of] <;> omega))) (by (first | assumption | omega | (rw [w64_of] <;> omega)))) (fun _ _ => ?_) | (with_reducible refine ok_bind (Q := Yes) ?_ (fun _ _ => ?_)) | dsimp only)) (fun v _ => ?_)
  refine ok_cond (fun _ => ok_inrY) (fun _ => ?_)
  refine ok_bind (Q := fun ys => ys.length ≤ 9223372036854775807) ?_ (fun ys hys => ?_)
  · unfold slcPart
    rw [if_pos ⟨by omega, by omega, by omega⟩]
    exact ok_some (by simp; omega)
  refine ok_bindS (Q := InlR Yes (InlR (fun _ => False) Yes)) (ok_up ys.length hys fun j h3 h4 => ?_) (fun _ _ => ok_next h1 hi h) (fun r hr => ?_)
  · unfold memory_Check_L1
    refine ok_ite (fun hj => ?_) (fun _ => ok_inr trivial)
    refine ok_bind (ok_idx h3 hj) (fun z hz => ?_)
    refine ok_bind (Q := Yes) (by repeat' (first | with_reducible exact ok_yes | with_reducible exact ok_inrY | with_reducible exact ok_inlY | (with_reducible refine ok_next ?_ ?_ ?_ <;> (first | assumption | omega | (rw [w64_of] <;> omega))) | (with_reducible refine ok_nite (fun _ => ?_) (fun _ => ?_)) | (with_reducible refine ok_ite (fun _ => ?_) (fun _ => ?_)) | (with_reducible refine ok_not (fun _ => ?_) (fun _ => ?_)) | (with_reducible refine ok_cond (fun _ => ?_) (fun _ => ?_)) | with_reducible refine ok_bind (ok_idx (by (first | assumption | omega | (rw [w64_of] <;> omega))) (by (first | assumption | omega | (rw [w64_of] <;> omega)))) (fun _ _ => ?_) | (with_reducible refine ok_bind (Q := Yes) ?_ (fun _ _ => ?_)) | dsimp only)) (fun v _ => ?_)
    refine ok_cond (fun _ => ok_inr trivial) (fun _ => ok_next h3 hj hys)
  · rcases r with r | r
    · exact (hr : False).elim
    · exact ok_inrY
theorem slices_Index_int_int_lt (l : List Int) (a : Int) (h : l.length ≤ 9223372036854775807) : Ok (slices_Index_int_int l a) (fun r => (0 ≤ r → l[r.toNat]? = some a) ∧ r < l.length) := by
  unfold slices_Index_int_int
  refine ok_bindS (Q := InlR Yes (fun r : Int => (0 ≤ r → l[r.toNat]? = some a) ∧ r < l.length)) (ok_up l.length h fun i h1 h2 => ?_) (fun _ _ => ok_some (And.intro (by omega) (by omega))) (fun _ hr => ?_)
  rotate_left
  · exact ok_some hr
  unfold slices_Index_int_int_L1
  refine ok_ite (fun hi => ?_) (fun _ => ok_inr trivial)
  refine ok_bind (ok_idx h1 hi) (fun y hy => ?_)
  exact ok_ite (fun e => ok_inr ⟨fun _ => by rw [hy, e], hi⟩) (fun _ => ok_next h1 hi h)
theorem state_distinct_ok (l : List api_Thread) (h : l.length ≤ 1000000) : Ok (state_distinct l) (fun r => r.length ≤ l.length) := by
  unfold state_distinct
  refine ok_bind (Q := fun r => r.length ≤ l.length) (ok_up2 l.length (fun a i => (a.length : Int) ≤ i) (by omega) (by simp) (fun a i hI h1 h2 => ?_)) (fun r hr => ok_some hr)
  unfold state_distinct_L1
  dsimp only
  refine ok_ite (fun hi => ?_) (fun _ => ok_inr (by omega))
  refine ok_bind (Q := fun r : List Int => (r.length : Int) ≤ i + 1) ?_ (fun r hr => ok_next2 (Inv := fun (a : List Int) i => (a.length : Int) ≤ i) hr h1 hi (by omega))
  refine ok_bind (ok_idx h1 hi) (fun y hy => ?_)
  refine ok_bind (slices_Contains_int_int_ok a y.fId (by omega)) (fun v _ => ?_)
  refine ok_not (fun _ => ?_) (fun _ => ok_some (by omega))
  rw [room_ok (by simp; omega) (by simp; omega)]
  exact ok_some (by simp; omega)
def Disj (l : List api_State) (n : Int) : Prop := ∀ (j k : Nat) s s', j < k → (k : Int) < n → l[j]? = some s → l[k]? = some s' → s.fThread = s'.fThread → s.fSpan.fTo ≤ s'.fSpan.fFrom
def Vald (l : List api_State) (n : Int) : Prop := ∀ (j : Nat) s, (j : Int) < n → l[j]? = some s → 0 ≤ s.fSpan.fFrom ∧ s.fSpan.fFrom < s.fSpan.fTo ∧ s.fSpan.fTo ≤ 1000000000000
def Gd (l : List api_State) : Prop := Disj l l.length ∧ Vald l l.length
structure Tab (l : List api_State) (ix : List Int) (r i : Int) : Prop where
  le : ∀ (j : Nat) s, (j : Int) < i → l[j]? = some s → ∃ x, slices_Index_int_int ix s.fThread = some x ∧ x ≤ r
  last : ∀ s, 0 < i → l[(i - 1).toNat]? = some s → slices_Index_int_int ix s.fThread = some r
  pos : 0 ≤ r → 0 < i
  neg : i = 0 → r = -1
  rng : -1 ≤ r ∧ r < ix.length
  v : Vald l i
  d : Disj l i
theorem rows_next {l : List api_State} {ix : List Int} {r r' i : Int} {y : api_State} (hix : ix.length ≤ 9223372036854775807) (H : Tab l ix r i) (h1 : 0 ≤ i) (hy : l[i.toNat]? = some y) (hr : slices_Index_int_int ix y.fThread = some r') (h0 : 0 ≤ r') (hv : 0 ≤ y.fSpan.fFrom ∧ y.fSpan.fFrom < y.fSpan.fTo ∧ y.fSpan.fTo ≤ 1000000000000)
    (hs : r' = r → ∀ s, l[(i - 1).toNat]? = some s → y.fSpan.fFrom = s.fSpan.fTo) (hn : r' ≠ r → r' = r + 1) : Tab l ix r' (i + 1) := by
  have hle : r ≤ r' := by
    by_cases e : r' = r
    · omega
    · have := hn e; omega
  refine ⟨fun j s hj hs' => ?_, fun s _ hs' => ?_, fun _ => by omega, fun _ => by omega, ⟨by omega, ((slices_Index_int_int_lt ix _ hix).of_eq hr).2⟩, fun j s hj hs' => ?_, fun j k s s' hjk hk hj' hk' ht => ?_⟩
  · by_cases e : (j : Int) = i
    · have : i.toNat = j := by omega
      rw [this, hs'] at hy; cases hy
      exact ⟨r', hr, by omega⟩
    · obtain ⟨x, h2, h3⟩ := H.le j s (by omega) hs'
      exact ⟨x, h2, by omega⟩
  · rw [show i + 1 - 1 = i by omega, hy] at hs'; cases hs'
    exact hr
  · by_cases e : (j : Int) = i
    · have : i.toNat = j := by omega
      rw [this, hs'] at hy; cases hy
      exact hv
    · exact H.v j s (by omega) hs'
  · by_cases e : (k : Int) = i
    · have : i.toNat = k := by omega
      rw [this, hk'] at hy; cases hy
      obtain ⟨x, h2, h3⟩ := H.le j s (by omega) hj'
      rw [ht, hr] at h2; cases h2
      by_cases e' : r' = r
      · obtain ⟨u, hu⟩ : ∃ u, l[(i - 1).toNat]? = some u := by
          have := lt_of_get hk'
          exact ⟨_, List.getElem?_eq_getElem (by omega)⟩
        have h5 := hs e' u hu
        by_cases e2 : j = (i - 1).toNat
        · subst e2; rw [hj'] at hu; cases hu; omega
        · have hlu := H.last u (by omega) hu
          have hh : s.fThread = u.fThread → s.fSpan.fTo ≤ u.fSpan.fFrom := H.d j (i - 1).toNat s u (by omega) (by omega) hj' hu
          have hvu := H.v (i - 1).toNat u (by omega) hu
          have a1 := (slices_Index_int_int_lt ix _ hix).of_eq hlu |>.1 (by omega)
          have a2 := (slices_Index_int_int_lt ix _ hix).of_eq hr |>.1 h0
          rw [e', a1] at a2
          injection a2 with a2
          have := hh (by rw [ht, ← a2])
          omega
      · have := hn e'; omega
    · exact H.d j k s s' hjk (by omega) hj' hk' ht
theorem spans_Valid_val (s : api_Span) : Ok (spans_Valid s) (fun b => b = true → 0 ≤ s.fFrom ∧ s.fFrom < s.fTo ∧ s.fTo ≤ 1000000000000) := by
  rw [spans_Valid_eq]
  exact ok_some (fun h => of_decide_eq_true h)
theorem state_Check_ok (ths : List api_Thread) (l : List api_State) (ht : ths.length ≤ 1000000) (h : l.length ≤ 9223372036854775807) : Ok (state_Check ths l) (fun r => r = 0 → Gd l) := by
  unfold state_Check
  refine ok_bind (state_distinct_ok ths ht) (fun ix hix => ?_)
  have hix' : ix.length ≤ 9223372036854775807 := by omega
  refine ok_bindS (Q := InlR (fun _ => Gd l) (fun r => r ≠ 0)) (ok_up2 l.length (fun r i => Tab l ix r i) h ⟨by intro j s hj; omega, by intro s hj; omega, by omega, by simp, ⟨by omega, by omega⟩, by intro j s hj; omega, by intro j k s s' _ hj; omega⟩ (fun r i hI h1 h2 => ?_)) (fun r hd => ?_) (fun r hr => ?_)
  · unfold state_Check_L2
    dsimp only
    have no : ∀ n : Int, n ≠ 0 → InlR (fun _ : Int => Gd l) (fun r => r ≠ 0) (.inr n) := fun n h => h
    refine ok_ite (fun hi => ?_) (fun hi => ok_inr (by have e : i = l.length := by omega
                                                       have g1 := hI.d
                                                       have g2 := hI.v
                                                       rw [e] at g1 g2; exact ⟨g1, g2⟩))
    refine ok_bind (ok_idx h1 hi) (fun y hy => ?_)
    refine ok_bindE (slices_Index_int_int_ok ix y.fThread hix') (fun x hx => ?_)
    refine ok_ite (fun _ => ok_inr (no _ (by simp))) (fun h0 => ?_)
    refine ok_bind (spans_Valid_val y.fSpan) (fun v hv => ?_)
    refine ok_not (fun _ => ok_inr (no _ (by simp))) (fun ev => ?_)
    refine ok_bind (state_fields_ok y) (fun _ _ => ?_)
    refine ok_not (fun _ => ok_inr (no _ (by simp))) (fun _ => ?_)
    refine ok_bind (Q := fun v => v = false → x = r → ∀ s, l[(i - 1).toNat]? = some s → y.fSpan.fFrom = s.fSpan.fTo) ?_ (fun v1 hv1 => ?_)
    · refine ok_ite (fun e => ?_) (fun e => ok_some (fun _ e' => absurd e' e))
      have hpos := hI.pos (by omega)
      rw [show w64 (i - 1) = i - 1 from w64_of (by omega)]
      refine ok_bind (ok_idx (by omega) (by omega)) (fun z hz => ?_)
      refine ok_nite (fun _ => ok_some (by simp)) (fun e2 => ?_)
      refine ok_bind (Q := Yes) ⟨z, hz ▸ by simp [idx, hz]; omega, trivial⟩ (fun w _ => ?_)
      refine (ok_bind (Q := Yes) (state_same_ok _ _) (fun b _ => ok_some (P := fun v => v = false → x = r → ∀ s, l[(i - 1).toNat]? = some s → y.fSpan.fFrom = s.fSpan.fTo) (fun _ _ s hs => ?_)))
      rw [hz] at hs; cases hs; exact e2
    refine ok_cond (fun _ => ok_inr (no _ (by simp))) (fun e1 => ?_)
    refine ok_bind (Q := fun v => v = false → x ≠ r → x = r + 1) ?_ (fun v2 hv2 => ?_)
    · refine ok_nite (fun e => ?_) (fun e => ok_some (fun _ e' => absurd e e'))
      have hb := hI.rng
      rw [w64_of (n := r + 1) (by omega)]
      refine ok_nite (fun _ => ok_some (by simp)) (fun e3 => ok_some (fun _ _ => e3))
    refine ok_cond (fun _ => ok_inr (no _ (by simp))) (fun e2 => ?_)
    exact ok_next2 (Inv := fun r i => Tab l ix r i) (rows_next hix' hI h1 hy hx (by omega) (hv ev) (hv1 e1) (hv2 e2)) h1 hi h
  · dsimp only
    refine ok_ite (fun _ => ok_some (fun _ => hd)) (fun hne => ?_)
    rw [show w64 ((l.length : Int) - 1) = (l.length : Int) - 1 from w64_of (by omega)]
    refine ok_bind (ok_idx (by omega) (by omega)) (fun y _ => ?_)
    refine ok_bindS (Q := Yes) (ok_up l.length h fun j h3 h4 => ?_) (fun _ _ => ?_) (fun r hr => ok_some (fun _ => hd))
    · unfold state_Check_L1
      refine ok_ite (fun hj => ?_) (fun _ => ok_inrY)
      refine ok_bind (ok_idx h3 hj) (fun z hz => ?_)
      have e : w64 (j + 1) = j + 1 := w64_of (by omega)
      rw [e]
      refine ok_bind (Q := Yes) ?_ (fun v _ => ?_)
      · refine ok_ite (fun _ => ok_yes) (fun hne => ?_)
        exact ok_bind (ok_idx (by omega) (by omega)) (fun _ _ => ok_yes)
      · refine ok_bind (Q := Yes) (by repeat' (first | with_reducible exact ok_yes | with_reducible exact ok_inrY | with_reducible exact ok_inlY | (with_reducible refine ok_next ?_ ?_ ?_ <;> (first | assumption | omega | (rw [w64_of] <;> omega))) | (with_reducible refine ok_nite (fun _ => ?_) (fun _ => ?_)) | (with_reducible refine ok_ite (fun _ => ?_) (fun _ => ?_)) | (with_reducible refine ok_not (fun _ => ?_) (fun _ => ?_)) | (with_reducible refine ok_cond (fun _ => ?_) (fun _ => ?_)) | with_reducible refine ok_bind (ok_idx (by (first | assumption | omega | (rw [w64_of] <;> omega))) (by (first | assumption | omega | (rw [w64_of] <;> omega)))) (fun _ _ => ?_) | (with_reducible refine ok_bind (Q := Yes) ?_ (fun _ _ => ?_)) | dsimp only)) (fun v _ => ?_)
        exact ok_cond (fun _ => ok_inrY) (fun _ => ok_inl ⟨hj, rfl⟩)
    · exact ok_nite (fun _ => ok_some (fun _ => hd)) (fun _ => ok_some (fun _ => hd))
  · exact ok_some (fun e => absurd e hr)
theorem trace_tables_ok (t : api_Trace) (h : Siz t) (ht : t.fThreads.length ≤ 1000000) : Ok (trace_tables t) (fun r => r = 0 → Gd t.fStates) := by
  unfold trace_tables
  refine ok_bindS (trace_threads_ok t h.th h.nTh) (fun r hr => ?_) (fun r _ => ?_)
  · exact ok_nite (fun h0 => ok_some (fun e => absurd e h0)) (fun h0 => absurd h0 hr)
  · dsimp only
    refine ok_nite (fun h0 => ok_some (fun e => absurd e h0)) (fun _ => ?_)
    refine ok_bind (slice_Check_ok _ h.sl h.nSl) (fun r4 _ => ?_)
    refine ok_bind (trace_known_api_Slice_k1_ok _ _ _ h.sl) (fun r5 _ => ?_)
    refine ok_nite (fun h0 => ok_some (fun e => absurd e h0)) (fun _ => ?_)
    refine ok_bind (state_Check_ok _ _ ht h.st) (fun r6 h6 => ?_)
    refine ok_nite (fun h0 => ok_some (fun e => absurd e h0)) (fun e6 => ?_)
    have hd := h6 e6
    refine ok_bind (flow_Check_ok _ h.fl) (fun r7 _ => ?_)
    refine ok_bind (trace_known_api_Flow_k1_ok _ _ _ h.fl) (fun r8 _ => ?_)
    refine ok_bind (trace_known_api_Flow_k2_ok _ _ _ h.fl) (fun r9 _ => ?_)
    refine ok_nite (fun h0 => ok_some (fun e => absurd e h0)) (fun _ => ?_)
    refine ok_bind (sample_Check_ok _ h.sa h.nSa) (fun r10 _ => ?_)
    refine ok_bind (trace_known_api_Sample_k1_ok _ _ _ h.sa) (fun r11 _ => ?_)
    refine ok_nite (fun h0 => ok_some (fun e => absurd e h0)) (fun _ => ?_)
    refine ok_bind (counter_Check_ok _ h.sp h.nSp) (fun r12 _ => ?_)
    refine ok_nite (fun h0 => ok_some (fun e => absurd e h0)) (fun _ => ?_)
    refine ok_bind (memory_Check_ok _ h.bl h.nBl) (fun r13 _ => ?_)
    refine ok_bind (trace_known_api_Block_k1_ok _ _ _ h.bl) (fun r14 _ => ?_)
    refine ok_nite (fun h0 => ok_some (fun e => absurd e h0)) (fun _ => ?_)
    refine ok_bind (trace_losses_k1_ok _ _ h.lo) (fun r15 _ => ?_)
    exact ok_some (fun _ => hd)
theorem trace_Check_ok (t : api_Trace) (h : Siz t) (ht : t.fThreads.length ≤ 1000000) : Ok (trace_Check t) (fun r => r = 0 → Gd t.fStates) := by
  unfold trace_Check
  refine ok_bind (trace_tables_ok t h ht) (fun r hr => ?_)
  refine ok_nite (fun h0 => ok_some (fun e => absurd e h0)) (fun e => ?_)
  have hd := hr e
  refine ok_bind (Q := Yes) (by repeat' (first | with_reducible exact ok_yes | with_reducible exact ok_inrY | with_reducible exact ok_inlY | (with_reducible refine ok_next ?_ ?_ ?_ <;> (first | assumption | omega | (rw [w64_of] <;> omega))) | (with_reducible refine ok_nite (fun _ => ?_) (fun _ => ?_)) | (with_reducible refine ok_ite (fun _ => ?_) (fun _ => ?_)) | (with_reducible refine ok_not (fun _ => ?_) (fun _ => ?_)) | (with_reducible refine ok_cond (fun _ => ?_) (fun _ => ?_)) | with_reducible refine ok_bind (ok_idx (by (first | assumption | omega | (rw [w64_of] <;> omega))) (by (first | assumption | omega | (rw [w64_of] <;> omega)))) (fun _ _ => ?_) | (with_reducible refine ok_bind (Q := Yes) ?_ (fun _ _ => ?_)) | dsimp only)) (fun v _ => ?_)
  refine ok_cond (fun _ => ok_some (fun _ => hd)) (fun _ => ?_)
  refine ok_bind (trace_outside_ok t h) (fun v _ => ?_)
  exact ok_cond (fun _ => ok_some (fun _ => hd)) (fun _ => ok_some (fun _ => hd))
theorem nodup_le {α : Type} [DecidableEq α] : ∀ (xs ys : List α), xs.Nodup → (∀ x ∈ xs, x ∈ ys) → xs.length ≤ ys.length
  | [], _, _, _ => by simp
  | x :: xs, ys, hn, hs => by
    have hx : x ∈ ys := hs x (by simp)
    have h1 := nodup_le xs (ys.erase x) (List.nodup_cons.1 hn).2 (fun z hz => by
      have hne : z ≠ x := fun e => (List.nodup_cons.1 hn).1 (e ▸ hz)
      exact (List.mem_erase_of_ne hne).2 (hs z (by simp [hz])))
    have h2 := List.length_erase_of_mem hx
    have h3 := List.length_pos_of_mem hx
    simp only [List.length_cons]; omega
theorem mget_mput {κ ν : Type} [DecidableEq κ] (k k' : κ) (v : ν) : ∀ (m : List (κ × ν)), mget k (mput k' v m) = if k = k' then some v else mget k m
  | [] => by simp [mput, mget]
  | p :: r => by
    simp only [mput]
    by_cases e : k' = p.1
    · subst e
      simp only [if_true, mget]
      by_cases e2 : k = p.1 <;> simp [e2]
    · rw [if_neg e]
      simp only [mget]
      rw [mget_mput k k' v r]
      by_cases e2 : k = p.1
      · subst e2
        rw [if_pos rfl, if_pos rfl, if_neg (fun h => e h.symm)]
      · rw [if_neg e2, if_neg e2]
theorem loop_fun {S ρ : Type} {step step' : S → Option (S ⊕ ρ)} (h : ∀ s, step s = step' s) (s : S) : loop step s = loop step' s := by
  rw [show step = step' from funext h]
theorem loop_res {S ρ : Type} {step : S → Option (S ⊕ ρ)} {Q : ρ → Prop} (h : ∀ s r, step s = some (.inr r) → Q r) {s : S} {r : ρ} (hr : loop step s = some r) : Q r := by
  have key : ∀ n s, iter step n s = some r → Q r := by
    intro n
    induction n with
    | zero => intro s h; simp [iter] at h
    | succ n ih =>
      intro s hs
      rw [iter_succ] at hs
      cases e : step s with
      | none => rw [e] at hs; simp at hs
      | some x =>
        rw [e] at hs
        cases x with
        | inl s' => exact ih s' hs
        | inr r' => simp only [Option.some.injEq] at hs; subst hs; exact h s _ e
  exact key _ s hr
theorem cS {α : Type} (c : Bool) (a b : α) : (bif c then some a else some b) = some (bif c then a else b) := by cases c <;> rfl
theorem empty_iff (s : ByteArray) : s = ⟨#[]⟩ ↔ (s.size : Int) < 1 := by
  constructor
  · intro h; subst h; decide
  · intro h
    cases s with
    | mk a =>
      have : a.size = 0 := by
        have : (ByteArray.mk a).size = a.size := rfl
        omega
      rw [Array.eq_empty_of_size_eq_zero this]
theorem Name_03 {s : ByteArray} {r : Int} (h : intern_Name s = some r) : r = 0 ∨ r = 3 := by
  unfold intern_Name at h
  obtain ⟨v, _, h⟩ := bB h
  cases v with
  | true => simp at h; exact .inr h.symm
  | false =>
    obtain ⟨q, hq, h⟩ := bB (show (loop (intern_Name_L1 s) 0).bind _ = some r from h)
    have := loop_res (Q := fun q : Unit ⊕ Int => ∀ x, q = .inr x → x = 3) (fun i r hr => by
      unfold intern_Name_L1 at hr
      by_cases hi : i < (ByteArray.size s : Int)
      · simp only [hi, decide_true, cond_true] at hr
        obtain ⟨y, _, hr⟩ := bB hr
        obtain ⟨z, _, hr⟩ := bB hr
        cases z
        · simp only [Bool.not_false, cond_true, Option.some.injEq, Sum.inr.injEq] at hr
          subst hr; intro x hx; cases hx; rfl
        · simp at hr
      · simp [hi] at hr; subst hr; intro x hx; cases hx) hq
    cases q with
    | inl _ => simp at h; exact .inl h.symm
    | inr x => simp at h; subst h; exact .inr (this _ rfl)
theorem flow_bad_eq (a b : Int) : flow_bad a b = some (!decide (0 ≤ a ∧ a ≤ b)) := by
  unfold flow_bad
  by_cases h1 : a < 0 <;> by_cases h2 : b < a <;> simp [h1, h2] <;> omega
theorem less_tri : ∀ x y : List UInt8, (!(Op.bytesLess x y || decide (x = y))) = Op.bytesLess y x
  | [], [] => by simp [Op.bytesLess]
  | [], b :: y => by simp [Op.bytesLess]
  | a :: x, [] => by simp [Op.bytesLess]
  | a :: x, b :: y => by
    have ih := less_tri x y
    simp only [Op.bytesLess, List.cons.injEq]
    by_cases h1 : a < b
    · have h2 : ¬ b < a := UInt8.lt_asymm h1
      have h3 : ¬ a = b := UInt8.ne_of_lt h1
      have h4 : ¬ b = a := fun e => h3 e.symm
      simp [h1, h2, h3, h4]
    · by_cases h2 : a = b
      · subst h2
        simp [h1, ← ih]
      · have h3 : b < a := by
          rcases UInt8.lt_or_lt_of_ne h2 with h | h
          · exact absurd h h1
          · exact h
        have h4 : ¬ b = a := fun e => h2 e.symm
        simp [h1, h2, h3]
theorem bytes_eq (a b : ByteArray) : a.toList = b.toList ↔ a = b := by
  constructor
  · intro h
    rw [ByteArray.toList_eq, ByteArray.toList_eq] at h
    exact Go.WideShapes.bytes_inj h
  · intro h; rw [h]
theorem sLt_tri (a b : ByteArray) : (!(sLt a b || decide (a = b))) = sLt b a := by
  unfold sLt
  rw [← less_tri a.toList b.toList]
  simp only [bytes_eq]
theorem sLt_not {a b : ByteArray} (h : sLt a b = true) : sLt b a = false ∧ a ≠ b := by
  have h1 := sLt_tri a b
  have h2 := sLt_tri b a
  rw [h] at h1 h2
  simp at h1 h2
  exact ⟨h1, fun e => h2.2 e.symm⟩
theorem cmpS_eq (a b : ByteArray) : cmp_Compare_string a b = some (if sLt a b then -1 else if sLt b a then 1 else 0) := by
  unfold cmp_Compare_string cmp_isNaN_string
  simp only [decide_true, Bool.not_true, Option.bind_some, cond_false, sLt_tri]
  cases sLt a b <;> cases sLt b a <;> rfl
theorem cmpI_eq (a b : Int) : cmp_Compare_int a b = some (if a < b then -1 else if b < a then 1 else 0) := by
  unfold cmp_Compare_int cmp_isNaN_int
  by_cases h1 : a < b <;> by_cases h2 : b < a <;> simp [h1, h2]
def orI : List Int → Int
  | [] => 0
  | x :: r => if x = 0 then orI r else x
theorem orI_first : ∀ (l : List Int) (i : Nat), (match (firstL (fun _ y => if y = 0 then none else some (.inr y)) l i).getD (.inl ()) with | (.inl _ : Unit ⊕ Int) => 0 | .inr rv => rv) = orI l
  | [], _ => rfl
  | x :: r, i => by
    simp only [firstL, orI]
    by_cases h : x = 0
    · simp only [h, if_true]; exact orI_first r (i + 1)
    · simp [h]
theorem cmpOr_eq (l : List Int) (hl : l.length ≤ 9223372036854775807) : cmp_Or_int l = some (orI l) := by
  unfold cmp_Or_int
  rw [loop_first l (fun _ y => if y = 0 then none else some (.inr y)) (.inl ()) (by simp [manyRounds]; omega) (fun i y hy => ?_) (by simp [cmp_Or_int_L1])]
  · rw [Option.bind_some, ← orI_first l 0]
    generalize (firstL _ l 0).getD (Sum.inl ()) = q
    cases q <;> rfl
  · have hi := lt_of_get hy
    have h1 : (i : Int) < l.length := by omega
    simp only [cmp_Or_int_L1, h1, decide_true, cond_true, idx_nat, hy, Option.bind_some]
    by_cases h : y = 0 <;> simp [h, w64_nat (i := i) (by omega)]
theorem order_eq (p c : api_Step) : counter_order p c = some (if sLt p.fName c.fName then -1 else if sLt c.fName p.fName then 1 else if p.fAt < c.fAt then -1 else if c.fAt < p.fAt then 1 else 0) := by
  unfold counter_order
  simp only [cmpS_eq, cmpI_eq, Option.bind_some]
  rw [cmpOr_eq _ (Nat.le_of_ble_eq_true rfl), Option.bind_some]
  simp only [orI]
  cases sLt p.fName c.fName
  · cases sLt c.fName p.fName
    · by_cases h1 : p.fAt < c.fAt <;> by_cases h2 : c.fAt < p.fAt <;> simp [h1, h2]
    · simp
  · simp
theorem loop_congr {S ρ : Type} {step step' : S → Option (S ⊕ ρ)} (Inv : S → Prop) (h : ∀ s, Inv s → step s = step' s) (hI : ∀ s s', Inv s → step s = some (.inl s') → Inv s') {s : S} (hs : Inv s) : loop step s = loop step' s := by
  have key : ∀ n s, Inv s → iter step n s = iter step' n s := by
    intro n
    induction n with
    | zero => intro s _; rfl
    | succ n ih =>
      intro s hs
      rw [iter_succ, iter_succ, ← h s hs]
      cases e : step s with
      | none => rfl
      | some x =>
        cases x with
        | inl s' => exact ih s' (hI s s' hs e)
        | inr r => rfl
  exact key _ s hs
theorem span_cond (s : api_Span) : (bif decide (s.fFrom < 0) then some true else bif decide (s.fTo ≤ s.fFrom) then some true else some (decide (1000000000000 < s.fTo))) = (spans_Valid s).bind fun r => some (!r) := by
  rw [spans_Valid_eq, Option.bind_some]
  by_cases h1 : s.fFrom < 0 <;> by_cases h2 : s.fTo ≤ s.fFrom <;> by_cases h3 : 1000000000000 < s.fTo <;> simp [h1, h2, h3] <;> omega
theorem loop_congr_up {ρ : Type} {step step' : Int → Option (Int ⊕ ρ)} (n : Nat) (h1 : ∀ i : Int, 0 ≤ i → i ≤ n → Ok (step i) (InlR (fun a => i < n ∧ a = i + 1) Yes)) (h2 : ∀ i : Int, 0 ≤ i → i ≤ n → step i = step' i) : loop step 0 = loop step' 0 := by
  refine loop_congr (fun i : Int => 0 ≤ i ∧ i ≤ n) (fun i hi => h2 i hi.1 hi.2) (fun i j hi hs => ?_) ⟨by omega, by omega⟩
  have := (h1 i hi.1 hi.2).of_eq hs
  obtain ⟨h3, h4⟩ : i < n ∧ j = i + 1 := this
  omega
theorem mem_L2_up (l : List api_Block) (h : l.length ≤ 9223372036854775807) (hx : ∀ x ∈ l, x.fStack.length ≤ 9223372036854775807 ∧ ∀ y ∈ x.fStack, okN y) (i : Int) (h1 : 0 ≤ i) (h2 : i ≤ l.length) : Ok (memory_Check_L2 l i) (InlR (fun a => i < l.length ∧ a = i + 1) Yes) := by
  unfold memory_Check_L2
  refine ok_ite (fun hi => ?_) (fun _ => ok_inrY)
  refine ok_bind (ok_idx h1 hi) (fun y hy => ?_)
  refine ok_bind (Q := Yes) (by repeat' (first | with_reducible exact ok_yes | with_reducible exact ok_inrY | with_reducible exact ok_inlY | (with_reducible refine ok_next ?_ ?_ ?_ <;> (first | assumption | omega | (rw [w64_of] <;> omega))) | (with_reducible refine ok_nite (fun _ => ?_) (fun _ => ?_)) | (with_reducible refine ok_ite (fun _ => ?_) (fun _ => ?_)) | (with_reducible refine ok_not (fun _ => ?_) (fun _ => ?_)) | (with_reducible refine ok_cond (fun _ => ?_) (fun _ => ?_)) | with_reducible refine ok_bind (ok_idx (by (first | assumption | omega | (rw [w64_of] <;> omega))) (by (first | assumption | omega | (rw [w64_of] <;> omega)))) (fun _ _ => ?_) | (with_reducible refine Ok.yes (spans_Valid_ok _) <;> (first | assumption | omega | (rw [w64_of] <;> omega))) | (with_reducible refine ok_bind (Q := Yes) ?_ (fun _ _ => ?_)) | dsimp only)) (fun v _ => ?_)
  refine ok_cond (fun _ => ok_inrY) (fun _ => ?_)
  refine ok_bind (Q := Yes) (intern_Frames_ok _ (hx _ (List.mem_of_getElem? hy)).1 (hx _ (List.mem_of_getElem? hy)).2) (fun v _ => ?_)
  refine ok_nite (fun _ => ok_inrY) (fun _ => ?_)
  refine ok_bind (Q := Yes) (by repeat' (first | with_reducible exact ok_yes | with_reducible exact ok_inrY | with_reducible exact ok_inlY | (with_reducible refine ok_next ?_ ?_ ?_ <;> (first | assumption | omega | (rw [w64_of] <;> omega))) | (with_reducible refine ok_nite (fun _ => ?_) (fun _ => ?_)) | (with_reducible refine ok_ite (fun _ => ?_) (fun _ => ?_)) | (with_reducible refine ok_not (fun _ => ?_) (fun _ => ?_)) | (with_reducible refine ok_cond (fun _ => ?_) (fun _ => ?_)) | with_reducible refine ok_bind (ok_idx (by (first | assumption | omega | (rw [w64_of] <;> omega))) (by (first | assumption | omega | (rw [w64_of] <;> omega)))) (fun _ _ => ?_) | (with_reducible refine ok_bind (Q := Yes) ?_ (fun _ _ => ?_)) | dsimp only)) (fun v _ => ?_)
  refine ok_cond (fun _ => ok_inrY) (fun _ => ?_)
  refine ok_bind (Q := fun ys => ys.length ≤ 9223372036854775807) ?_ (fun ys hys => ?_)
  · unfold slcPart
    rw [if_pos ⟨by omega, by omega, by omega⟩]
    exact ok_some (by simp; omega)
  refine ok_bindS (Q := InlR Yes (InlR (fun _ => False) Yes)) (ok_up ys.length hys fun j h3 h4 => ?_) (fun _ _ => ok_next h1 hi h) (fun r hr => ?_)
  · unfold memory_Check_L1
    refine ok_ite (fun hj => ?_) (fun _ => ok_inr trivial)
    refine ok_bind (ok_idx h3 hj) (fun z hz => ?_)
    refine ok_bind (Q := Yes) (by repeat' (first | with_reducible exact ok_yes | with_reducible exact ok_inrY | with_reducible exact ok_inlY | (with_reducible refine ok_next ?_ ?_ ?_ <;> (first | assumption | omega | (rw [w64_of] <;> omega))) | (with_reducible refine ok_nite (fun _ => ?_) (fun _ => ?_)) | (with_reducible refine ok_ite (fun _ => ?_) (fun _ => ?_)) | (with_reducible refine ok_not (fun _ => ?_) (fun _ => ?_)) | (with_reducible refine ok_cond (fun _ => ?_) (fun _ => ?_)) | with_reducible refine ok_bind (ok_idx (by (first | assumption | omega | (rw [w64_of] <;> omega))) (by (first | assumption | omega | (rw [w64_of] <;> omega)))) (fun _ _ => ?_) | (with_reducible refine ok_bind (Q := Yes) ?_ (fun _ _ => ?_)) | dsimp only)) (fun v _ => ?_)
    refine ok_cond (fun _ => ok_inr trivial) (fun _ => ok_next h3 hj hys)
  · rcases r with r | r
    · exact (hr : False).elim
    · exact ok_inrY
inductive Desc (l : List api_Slice) (j : Int) : Int → Prop
  | self : Desc l j j
  | up {a : Int} {y : api_Slice} : 0 ≤ a → l[a.toNat]? = some y → Desc l j y.fParent → Desc l j a
theorem Desc.le {l : List api_Slice} (hu : Up l l.length) {j a : Int} (h : Desc l j a) : j ≤ a := by
  induction h with
  | self => omega
  | up h0 hy _ ih =>
    have := hu _ _ (by have := lt_of_get hy; omega) hy
    omega
theorem Desc.step {l : List api_Slice} {j a : Int} {y : api_Slice} (h0 : 0 ≤ a) (hy : l[a.toNat]? = some y) (hne : j ≠ a) : Desc l j a ↔ Desc l j y.fParent := by
  constructor
  · intro h
    cases h with
    | self => exact absurd rfl hne
    | up _ hy' h => rw [hy] at hy'; cases hy'; exact h
  · exact Desc.up h0 hy
theorem under_ok (l : List api_Slice) (h : l.length ≤ 9223372036854775807) (hu : Up l l.length) (j i : Int) (hj : 0 ≤ j) (hi : i < l.length) : Ok (slice_under l j i) (fun r => r = true ↔ Desc l j i) := by
  unfold slice_under
  refine ok_bindS (Q := InlR (fun _ => ¬ Desc l j i) (fun r => r = true ∧ Desc l j i)) (ok_loop (fun s : Int => s < l.length ∧ (Desc l j s ↔ Desc l j i)) (fun s : Int => (s + 1).toNat) (fun s hs => ?_) ⟨hi, Iff.rfl⟩ (by simp [manyRounds]; omega)) (fun _ hq => ok_some ⟨fun e => by simp at e, fun e => absurd e hq⟩) (fun r hr => ok_some ⟨fun _ => hr.2, fun _ => hr.1⟩)
  obtain ⟨h1, h2⟩ := hs
  unfold slice_under_L1
  refine ok_ite (fun h0 => ?_) (fun h0 => ok_inr (fun e => ?_))
  · refine ok_ite (fun e => ok_inr ⟨rfl, h2.1 (e ▸ Desc.self)⟩) (fun hne => ?_)
    refine ok_bind (ok_idx h0 h1) (fun y hy => ?_)
    have := hu s.toNat y (by omega) hy
    exact ok_inl ⟨⟨by omega, (Desc.step h0 hy hne).symm.trans h2⟩, by omega⟩
  · have := (h2.2 e).le hu; omega
def sumTo (l : List api_Slice) (i s0 : Int) : Nat → Int
  | 0 => s0
  | n + 1 => match l[n]? with
    | some z => if z.fParent = i then w64 (sumTo l i s0 n - w64 (z.fSpan.fTo - z.fSpan.fFrom)) else sumTo l i s0 n
    | none => sumTo l i s0 n
def Bad (l : List api_Slice) (j i : Int) (z y : api_Slice) : Prop := z.fThread = y.fThread ∧ y.fSpan.fFrom < z.fSpan.fTo ∧ z.fSpan.fFrom < y.fSpan.fTo ∧ ¬ Desc l j i
def Apart (l : List api_Slice) : Prop := ∀ (i : Nat) y, l[i]? = some y → y.fSelf = sumTo l i (w64 (y.fSpan.fTo - y.fSpan.fFrom)) l.length ∧ ∀ (j : Nat) z, j < i → l[j]? = some z → ¬ Bad l j i z y
def Apart' (l : List api_Slice) : Prop := ∀ (i : Nat) y, l[i]? = some y → y.fSelf = sumTo l i (w64 (y.fSpan.fTo - y.fSpan.fFrom)) l.length ∧ ∀ (j : Nat) z, i < j → l[j]? = some z → ¬ Bad l i j y z
theorem apart_iff (l : List api_Slice) : Apart l ↔ Apart' l := by
  constructor
  · intro h i y hy
    exact ⟨(h i y hy).1, fun j z hj hz => (h j z hz).2 i y hj hy⟩
  · intro h i y hy
    exact ⟨(h i y hy).1, fun j z hj hz => (h j z hz).2 i y hj hy⟩
theorem sumTo_step {l : List api_Slice} {i s0 : Int} {n : Nat} {z : api_Slice} (hz : l[n]? = some z) : Ok (bif decide (z.fParent = i) then some (w64 (sumTo l i s0 n - w64 (z.fSpan.fTo - z.fSpan.fFrom))) else some (sumTo l i s0 n)) (fun v => v = sumTo l i s0 (n + 1)) := by
  refine ok_ite (fun e => ok_some ?_) (fun e => ok_some ?_) <;> simp [sumTo, hz, e]
theorem ok_up2N {σ ρ : Type} {step : σ × Int → Option ((σ × Int) ⊕ ρ)} (n : Nat) (Inv : σ → Nat → Prop) {Post : ρ → Prop} (hn : n ≤ 9223372036854775807) {s0 : σ} (h0 : Inv s0 0)
    (h : ∀ (s : σ) (i : Nat), Inv s i → i ≤ n → Ok (step (s, (i : Int))) (InlR (fun a => i < n ∧ a.2 = ((i + 1 : Nat) : Int) ∧ Inv a.1 (i + 1)) Post)) : Ok (loop step (s0, 0)) Post := by
  refine ok_up2 n (fun s i => Inv s i.toNat) hn h0 (fun s i hI h1 h2 => ?_)
  obtain ⟨k, rfl⟩ := Int.eq_ofNat_of_zero_le h1
  refine (h s k hI (by omega)).mono ?_
  rintro (⟨a, b⟩ | b) hr
  · obtain ⟨h3, h4, h5⟩ : k < n ∧ b = ((k + 1 : Nat) : Int) ∧ Inv a (k + 1) := hr
    refine ⟨by omega, by omega, ?_⟩
    rw [show ((k : Int) + 1).toNat = k + 1 by omega]; exact h5
  · exact hr
theorem ok_upN {ρ : Type} {step : Int → Option (Int ⊕ ρ)} (n : Nat) (Inv : Nat → Prop) {Post : ρ → Prop} (hn : n ≤ 9223372036854775807) (h0 : Inv 0)
    (h : ∀ i : Nat, Inv i → i ≤ n → Ok (step (i : Int)) (InlR (fun a => i < n ∧ a = ((i + 1 : Nat) : Int) ∧ Inv (i + 1)) Post)) : Ok (loop step 0) Post := by
  refine ok_upI n (fun i => Inv i.toNat) hn h0 (fun i hI h1 h2 => ?_)
  obtain ⟨k, rfl⟩ := Int.eq_ofNat_of_zero_le h1
  refine (h k hI (by omega)).mono ?_
  rintro (b | b) hr
  · obtain ⟨h3, h4, h5⟩ : k < n ∧ b = ((k + 1 : Nat) : Int) ∧ Inv (k + 1) := hr
    refine ⟨by omega, by omega, ?_⟩
    rw [show ((k : Int) + 1).toNat = k + 1 by omega]; exact h5
  · exact hr
theorem ok_ixN {α : Type} {xs : List α} {i : Nat} (h : i < xs.length) : Ok (idx xs (i : Int)) (fun y => xs[i]? = some y) := by
  rw [idx_nat]; exact ⟨xs[i], by simp [h], by simp [h]⟩
theorem w64_N {i n : Nat} (h : i < n) (hn : n ≤ 9223372036854775807) : w64 ((i : Int) + 1) = ((i + 1 : Nat) : Int) := by rw [w64_of (by omega)]; omega
theorem apart_ok (l : List api_Slice) (h : l.length ≤ 9223372036854775807) (hu : Up l l.length) : Ok (slice_apart l) (fun b => b = true ↔ Apart l) := by
  unfold slice_apart
  let A : Nat → Prop := fun n => ∀ (i : Nat) y, i < n → l[i]? = some y → y.fSelf = sumTo l i (w64 (y.fSpan.fTo - y.fSpan.fFrom)) l.length ∧ ∀ (j : Nat) z, j < i → l[j]? = some z → ¬ Bad l j i z y
  refine ok_bindS (Q := InlR (fun _ => Apart l) (fun b => b = false ∧ ¬ Apart l)) (ok_upN l.length A h (by intro i y hi; omega) (fun i hI h2 => ?_)) (fun _ hq => ok_some ⟨fun _ => hq, fun _ => rfl⟩) (fun r hr => ok_some ⟨fun e => by rw [hr.1] at e; simp at e, fun e => absurd e hr.2⟩)
  unfold slice_apart_L2
  refine ok_ite (fun hi => ?_) (fun hi => ok_inr (fun i' y hy => hI i' y (by have := lt_of_get hy; omega) hy))
  refine ok_bind (ok_ixN (by omega)) (fun y hy => ?_)
  refine ok_bindS (Q := InlR (fun e => e = sumTo l i (w64 (y.fSpan.fTo - y.fSpan.fFrom)) l.length ∧ ∀ (j : Nat) z, j < i → l[j]? = some z → ¬ Bad l j i z y) (InlR (fun _ => False) (fun r => r = .inr false ∧ ¬ Apart l))) (ok_up2N l.length (fun a n => a = sumTo l i (w64 (y.fSpan.fTo - y.fSpan.fFrom)) n ∧ ∀ (j : Nat) z, j < n → j < i → l[j]? = some z → ¬ Bad l j i z y) h ⟨rfl, by intro j z hj; omega⟩ (fun a j hJ h4 => ?_)) (fun e he => ?_) (fun r hr => ?_)
  · unfold slice_apart_L1
    dsimp only
    refine ok_ite (fun hj => ?_) (fun hj => ok_inr ⟨?_, fun j' z hj' hz => hJ.2 j' z (by have := lt_of_get hz; omega) hj' hz⟩)
    · refine ok_bind (ok_ixN (by omega)) (fun z hz => ?_)
      rw [hJ.1]
      refine ok_bind (sumTo_step hz) (fun v hv => ?_)
      refine ok_bind (Q := fun b => b = true ↔ (j < i ∧ Bad l j i z y)) ?_ (fun b hb => ?_)
      · refine ok_ite (fun h5 => ?_) (fun h5 => ok_some ⟨fun e => by simp at e, fun e => absurd e.1 (by omega)⟩)
        refine ok_ite (fun h6 => ?_) (fun h6 => ok_some ⟨fun e => by simp at e, fun e => absurd e.2.1 h6⟩)
        refine ok_ite (fun h7 => ?_) (fun h7 => ok_some ⟨fun e => by simp at e, fun e => absurd e.2.2.1 h7⟩)
        refine ok_ite (fun h8 => ?_) (fun h8 => ok_some ⟨fun e => by simp at e, fun e => absurd e.2.2.2.1 h8⟩)
        refine ok_bind (under_ok l h hu j i (by omega) (by omega)) (fun r hr => ok_some ?_)
        constructor
        · intro e
          refine ⟨by omega, h6, h7, h8, fun hd => ?_⟩
          rw [hr.2 hd] at e; simp at e
        · intro e
          cases r with
          | false => rfl
          | true => exact absurd (hr.1 rfl) e.2.2.2.2
      · refine ok_cond (fun e => ok_inr ⟨rfl, fun hA => ?_⟩) (fun e => ?_)
        · obtain ⟨g1, g2⟩ := hb.1 e
          exact (hA i y hy).2 j z g1 hz g2
        · rw [w64_N (n := l.length) (by omega) h]
          refine ok_inl ⟨by omega, rfl, hv, fun j' z' hj' hji hz' hbad => ?_⟩
          by_cases e2 : j' = j
          · subst e2; rw [hz] at hz'; cases hz'
            rw [hb.2 ⟨hji, hbad⟩] at e; simp at e
          · exact hJ.2 j' z' (by omega) hji hz' hbad
    · rw [hJ.1, show j = l.length by omega]
  · dsimp only
    refine ok_nite (fun hne => ok_inr ⟨rfl, fun hA => hne ((hA i y hy).1.trans he.1.symm)⟩) (fun heq => ?_)
    rw [w64_N (n := l.length) (by omega) h]
    refine ok_inl ⟨by omega, rfl, fun i' y' hi' hy' => ?_⟩
    by_cases e2 : i' = i
    · subst e2; rw [hy] at hy'; cases hy'
      exact ⟨heq.trans he.1, he.2⟩
    · exact hI i' y' (by omega) hy'
  · rcases r with r | r
    · exact (hr : False).elim
    · obtain ⟨e1, e2⟩ : r = .inr false ∧ ¬ Apart l := hr
      subst e1
      exact ok_inr ⟨rfl, e2⟩
theorem nested_res {l : List api_Slice} {q : Unit ⊕ Bool} (h : loop (slice_nested_L1 l) 0 = some q) : ∀ x, q = .inr x → x = false := by
  refine loop_res (Q := fun q : Unit ⊕ Bool => ∀ x, q = .inr x → x = false) (fun i r hr => ?_) h
  unfold slice_nested_L1 at hr
  cases h1 : decide (i < (l.length : Int)) with
  | false => rw [h1] at hr; simp at hr; subst hr; intro x hx; cases hx
  | true =>
    rw [h1] at hr
    simp only [cond_true] at hr
    obtain ⟨y, _, hr⟩ := bB hr
    obtain ⟨v, _, hr⟩ := bB hr
    cases v
    · simp only [cond_false] at hr
      cases h2 : decide (y.fParent = -1) with
      | true =>
        rw [h2] at hr
        simp only [cond_true] at hr
        cases h3 : decide (y.fDepth = 0) <;> simp [h3] at hr
        subst hr; intro x hx; cases hx; rfl
      | false =>
        rw [h2] at hr
        simp only [cond_false] at hr
        obtain ⟨z, _, hr⟩ := bB hr
        obtain ⟨w, _, hr⟩ := bB hr
        cases w <;> simp at hr
        subst hr; intro x hx; cases hx; rfl
    · simp at hr; subst hr; intro x hx; cases hx; rfl
theorem idx_mapO {α β : Type} (f : α → β) (l : List α) (i : Int) : idx (l.map f) i = (idx l i).map f := by
  unfold idx
  split <;> simp
def distT (ths : List api_Thread) : Nat → List api_Thread
  | 0 => []
  | n + 1 => match ths[n]? with
    | some y => if slices_Index_int_int ((distT ths n).map (·.fId)) y.fId = some (-1) then distT ths n ++ [y] else distT ths n
    | none => distT ths n
theorem distT_len (ths : List api_Thread) : ∀ n, (distT ths n).length ≤ n
  | 0 => by simp [distT]
  | n + 1 => by
    have := distT_len ths n
    simp only [distT]
    split
    · split <;> simp <;> omega
    · omega
theorem Index_rng (ix : List Int) (a : Int) (h : ix.length ≤ 9223372036854775807) : Ok (slices_Index_int_int ix a) (fun r => (r = -1 ∨ 0 ≤ r) ∧ r < ix.length) := by
  unfold slices_Index_int_int
  refine ok_bindS (Q := InlR Yes (fun r : Int => 0 ≤ r ∧ r < ix.length)) (ok_up ix.length h fun i h1 h2 => ?_) (fun _ _ => ok_some ⟨.inl rfl, by omega⟩) (fun r hr => ok_some ?_)
  · unfold slices_Index_int_int_L1
    refine ok_ite (fun hi => ?_) (fun _ => ok_inr trivial)
    refine ok_bind (ok_idx h1 hi) (fun y hy => ?_)
    exact ok_ite (fun e => ok_inr ⟨h1, hi⟩) (fun _ => ok_next h1 hi h)
  · have hr' : 0 ≤ r ∧ r < ix.length := hr
    exact ⟨.inr hr'.1, hr'.2⟩
theorem distinct_p (ths : List api_Thread) (h : ths.length ≤ 1000000) : state_distinct ths = some ((distT ths ths.length).map (·.fId)) := by
  have : Ok (state_distinct ths) (fun r => r = (distT ths ths.length).map (·.fId)) := by
    unfold state_distinct
    refine ok_bind (Q := fun r => r = (distT ths ths.length).map (·.fId)) (ok_up2N ths.length (fun a n => a = (distT ths n).map (·.fId)) (by omega) rfl (fun a i hI h2 => ?_)) (fun r hr => ok_some hr)
    unfold state_distinct_L1
    dsimp only
    subst hI
    have hlen := distT_len ths i
    refine ok_ite (fun hi => ?_) (fun hi => ok_inr (by rw [show i = ths.length by omega]))
    refine ok_bind (Q := fun r => r = (distT ths (i + 1)).map (·.fId)) ?_ (fun r hr => ?_)
    · obtain ⟨y, hiy, hy⟩ := ok_ixN (xs := ths) (i := i) (by omega)
      rw [hiy, Option.bind_some]
      unfold slices_Contains_int_int
      obtain ⟨x, hx, hx1, hx2⟩ := Index_rng ((distT ths i).map (·.fId)) y.fId (by simp; omega)
      rw [hx]
      simp only [Option.bind_some, distT, hy, hx]
      rcases hx1 with rfl | hx1
      · rw [room_ok (by simp; omega) (by simp; omega)]
        exact ok_some (by simp)
      · have : ¬ x = -1 := by omega
        simp only [hx1, decide_true, Bool.not_true, cond_false]
        exact ok_some (by simp [this])
    · rw [w64_N (n := ths.length) (by omega) (by omega)]
      exact ok_inl ⟨by omega, rfl, hr⟩
  obtain ⟨r, h1, h2⟩ := this
  rw [h1, h2]
theorem same_eq (a b : api_State) : (bif decide (b.fState = a.fState) then bif decide (b.fCpu = a.fCpu) then some (decide (b.fOn = a.fOn)) else some false else some false) = state_same a b := by
  unfold state_same
  by_cases h1 : a.fState = b.fState <;> by_cases h2 : a.fCpu = b.fCpu <;> by_cases h3 : a.fOn = b.fOn <;> simp [h1, h2, h3, Ne.symm, eq_comm] <;> simp_all [eq_comm]
theorem loop_congr_up2 {σ ρ : Type} {step step' : σ × Int → Option ((σ × Int) ⊕ ρ)} (n : Nat) (Inv : σ → Int → Prop) {s0 : σ} (h0 : Inv s0 0) (h1 : ∀ (s : σ) (i : Int), Inv s i → 0 ≤ i → i ≤ n → Ok (step (s, i)) (InlR (fun a => i < n ∧ a.2 = i + 1 ∧ Inv a.1 (i + 1)) Yes)) (h2 : ∀ (s : σ) (i : Int), Inv s i → 0 ≤ i → i ≤ n → step (s, i) = step' (s, i)) : loop step (s0, 0) = loop step' (s0, 0) := by
  refine loop_congr (fun s : σ × Int => Inv s.1 s.2 ∧ 0 ≤ s.2 ∧ s.2 ≤ n) (fun s hi => h2 s.1 s.2 hi.1 hi.2.1 hi.2.2) (fun s s' hi hs => ?_) ⟨h0, by simp, by simp⟩
  obtain ⟨a, j⟩ := s'
  have := (h1 s.1 s.2 hi.1 hi.2.1 hi.2.2).of_eq hs
  obtain ⟨h3, h4, h5⟩ : s.2 < n ∧ j = s.2 + 1 ∧ Inv a (s.2 + 1) := this
  subst h4
  exact ⟨h5, by simp; omega, by simp; omega⟩
structure AtIx (l : List api_State) (ix : List Int) (a i : Int) : Prop where
  z : i = 0 → a = -1
  p : 0 < i → ∀ s, l[(i - 1).toNat]? = some s → slices_Index_int_int ix s.fThread = some a ∧ 0 ≤ a
  r : -1 ≤ a ∧ a < ix.length
theorem AtIx.next {l : List api_State} {ix : List Int} (hx : ix.length ≤ 1000000) {i x : Int} (h0 : 0 ≤ i) {y : api_State} (hy : l[i.toNat]? = some y) (hi : slices_Index_int_int ix y.fThread = some x) (hp : 0 ≤ x) : AtIx l ix x (i + 1) := by
  have := (slices_Index_int_int_lt ix y.fThread (by omega)).of_eq hi
  exact ⟨by omega, fun _ s hs => by rw [show i + 1 - 1 = i by omega, hy] at hs; cases hs; exact ⟨hi, hp⟩, by omega, this.2⟩
theorem state_L2_up (l : List api_State) (ix : List Int) (hl : l.length ≤ 9223372036854775807) (hx : ix.length ≤ 1000000) (a i : Int) (H : AtIx l ix a i) (h1 : 0 ≤ i) (h2 : i ≤ l.length) : Ok (state_Check_L2 l ix (a, i)) (InlR (fun s : Int × Int => i < (l.length : Int) ∧ s.2 = i + 1 ∧ AtIx l ix s.1 (i + 1)) (InlR (fun e : Int => -1 ≤ e ∧ e < (ix.length : Int)) Yes)) := by
  unfold state_Check_L2
  dsimp only
  have no : ∀ n : Int, InlR (fun s : Int × Int => i < (l.length : Int) ∧ s.2 = i + 1 ∧ AtIx l ix s.1 (i + 1)) (InlR (fun e : Int => -1 ≤ e ∧ e < (ix.length : Int)) Yes) (.inr (.inr n)) := fun _ => trivial
  refine ok_ite (fun hi => ?_) (fun _ => ok_inr H.r)
  refine ok_bind (ok_idx h1 hi) (fun y hy => ?_)
  refine ok_bindE (slices_Index_int_int_ok ix y.fThread (by omega)) (fun x hxx => ?_)
  refine ok_ite (fun _ => ⟨_, rfl, no _⟩) (fun h0 => ?_)
  refine ok_bind (spans_Valid_ok y.fSpan) (fun v _ => ?_)
  refine ok_not (fun _ => ⟨_, rfl, no _⟩) (fun _ => ?_)
  refine ok_bind (state_fields_ok y) (fun _ _ => ?_)
  refine ok_not (fun _ => ⟨_, rfl, no _⟩) (fun _ => ?_)
  refine ok_bind (Q := Yes) ?_ (fun v1 _ => ?_)
  · refine ok_ite (fun e => ?_) (fun _ => ok_yes)
    have hpos : 0 < i := by
      by_cases e0 : i = 0
      · have := H.z e0; omega
      · omega
    rw [show w64 (i - 1) = i - 1 from w64_of (by omega)]
    refine ok_bind (ok_idx (by omega) (by omega)) (fun z hz => ?_)
    refine ok_nite (fun _ => ok_yes) (fun _ => ?_)
    refine ok_bind (ok_idx (by omega) (by omega)) (fun z' hz' => ?_)
    exact ok_bind (state_same_ok _ _) (fun _ _ => ok_yes)
  refine ok_cond (fun _ => ⟨_, rfl, no _⟩) (fun _ => ?_)
  refine ok_bind (Q := Yes) (by repeat' (first | with_reducible exact ok_yes | with_reducible exact ok_inrY | with_reducible exact ok_inlY | (with_reducible refine ok_next ?_ ?_ ?_ <;> (first | assumption | omega | (rw [w64_of] <;> omega))) | (with_reducible refine ok_nite (fun _ => ?_) (fun _ => ?_)) | (with_reducible refine ok_ite (fun _ => ?_) (fun _ => ?_)) | (with_reducible refine ok_not (fun _ => ?_) (fun _ => ?_)) | (with_reducible refine ok_cond (fun _ => ?_) (fun _ => ?_)) | with_reducible refine ok_bind (ok_idx (by (first | assumption | omega | (rw [w64_of] <;> omega))) (by (first | assumption | omega | (rw [w64_of] <;> omega)))) (fun _ _ => ?_) | (with_reducible refine ok_bind (Q := Yes) ?_ (fun _ _ => ?_)) | dsimp only)) (fun v2 _ => ?_)
  refine ok_cond (fun _ => ⟨_, rfl, no _⟩) (fun _ => ?_)
  exact ok_inl ⟨hi, w64_of (by omega), AtIx.next hx h1 hy hxx (by omega)⟩
def EndA (l : List api_State) (e : Int) : Prop := ∀ (i : Nat) s s', l[i]? = some s → l[i + 1]? = some s' → s'.fThread ≠ s.fThread → s.fSpan.fTo = e
theorem endP_ok (l : List api_State) (hl : l.length ≤ 9223372036854775807) (y : api_State) (hy : l[l.length - 1]? = some y) : Ok (loop (state_Check_L1 l y) 0) (fun q => (∃ u, q = .inl u ∧ EndA l y.fSpan.fTo) ∨ (q = .inr 11 ∧ ¬ EndA l y.fSpan.fTo)) := by
  refine ok_upN l.length (fun n => ∀ (i : Nat) s s', i < n → l[i]? = some s → l[i + 1]? = some s' → s'.fThread ≠ s.fThread → s.fSpan.fTo = y.fSpan.fTo) hl (by intro i s s' hi; omega) (fun i hI h2 => ?_)
  unfold state_Check_L1
  refine ok_ite (fun hi => ?_) (fun hi => ok_inr (.inl ⟨(), rfl, fun i' s s' hs hs' => hI i' s s' (by have := lt_of_get hs; omega) hs hs'⟩))
  obtain ⟨z, hiz, hz⟩ := ok_ixN (xs := l) (i := i) (by omega)
  rw [hiz, Option.bind_some, w64_N (n := l.length) (by omega) hl]
  have nx : (∀ s', l[i + 1]? = some s' → s'.fThread ≠ z.fThread → z.fSpan.fTo = y.fSpan.fTo) → ∀ (i' : Nat) s s', i' < i + 1 → l[i']? = some s → l[i' + 1]? = some s' → s'.fThread ≠ s.fThread → s.fSpan.fTo = y.fSpan.fTo := by
    intro h i' s s' hi' hs hs' hne
    by_cases e : i' = i
    · subst e; rw [hz] at hs; cases hs; exact h s' hs' hne
    · exact hI i' s s' (by omega) hs hs' hne
  by_cases hlast : i + 1 = l.length
  · have e1 : (((i + 1 : Nat) : Int) = (l.length : Int)) := by omega
    have e2 : z = y := by
      rw [show l.length - 1 = i by omega, hz] at hy; exact Option.some.inj hy
    subst e2
    simp only [e1, decide_true, cond_true, Option.bind_some, Bool.not_true, cond_false]
    refine ok_inl ⟨by omega, by omega, nx (fun s' hs' => ?_)⟩
    have := lt_of_get hs'; omega
  · have e1 : ¬ (((i + 1 : Nat) : Int) = (l.length : Int)) := by omega
    obtain ⟨s', his, hs'⟩ := ok_ixN (xs := l) (i := i + 1) (by omega)
    simp only [e1, his, decide_false, cond_false, Option.bind_some]
    by_cases g1 : s'.fThread = z.fThread
    · simp only [g1, decide_true, Bool.not_true, cond_false, Option.bind_some]
      refine ok_inl ⟨by omega, rfl, nx (fun s'' hs'' hne => ?_)⟩
      rw [hs'] at hs''; cases hs''; exact absurd g1 hne
    · by_cases g2 : z.fSpan.fTo = y.fSpan.fTo
      · simp only [g1, g2, decide_true, decide_false, Bool.not_true, Bool.not_false, cond_true, cond_false, Option.bind_some]
        exact ok_inl ⟨by omega, rfl, nx (fun s'' hs'' hne => g2)⟩
      · simp only [g1, g2, decide_false, Bool.not_false, cond_true, Option.bind_some]
        exact ok_inr (.inr ⟨rfl, fun hA => g2 (hA i z s' hz hs' g1)⟩)
theorem firstL_at {α ρ : Type} {g : Nat → α → Option ρ} {r : ρ} : ∀ {xs : List α} {i j : Nat} {y : α}, xs[j]? = some y → g (i + j) y = some r → (∀ k z, k < j → xs[k]? = some z → g (i + k) z = none) → firstL g xs i = some r
  | [], i, j, y, h, _, _ => by simp at h
  | x :: xs, i, j, y, h, h1, h2 => by
    simp only [firstL]
    cases j with
    | zero =>
      simp at h; subst h
      rw [show i + 0 = i from rfl] at h1
      rw [h1]
    | succ j =>
      have := h2 0 x (by omega) rfl
      rw [show i + 0 = i from rfl] at this
      rw [this]
      exact firstL_at (j := j) (y := y) (by simpa using h) (by rw [show i + 1 + j = i + (j + 1) by omega]; exact h1) (fun k z hk hz => by rw [show i + 1 + k = i + (k + 1) by omega]; exact h2 (k + 1) z (by omega) (by simpa using hz))
theorem loopP {α : Type} {step : Int → Option (Int ⊕ (Unit ⊕ Int))} (l : List α) (c : α → Int) (hl : l.length ≤ 9223372036854775807)
    (hs : ∀ (i : Nat) y, l[i]? = some y → step (i : Int) = some (if c y = 0 then .inl (w64 ((i : Int) + 1)) else .inr (.inr (c y)))) (he : step (l.length : Int) = some (.inr (.inl ()))) :
    ((loop step 0).bind fun | .inl _ => some 0 | .inr rv => some rv) = some (orI (l.map c)) := by
  rw [loop_first l (fun _ y => if c y = 0 then none else some (.inr (c y))) (.inl ()) (by simp [manyRounds]; omega) (fun i y hy => ?_) he, Option.bind_some, ← orI_first (l.map c) 0]
  · have : ∀ (l : List α) (i : Nat), (firstL (fun _ y => if c y = 0 then none else some (Sum.inr (c y) : Unit ⊕ Int)) l i) = firstL (fun _ y => if y = 0 then none else some (.inr y)) (l.map c) i := by
      intro l
      induction l with
      | nil => intro i; rfl
      | cons x l ih => intro i; simp only [firstL, List.map_cons]; split <;> simp_all
    rw [this]
    generalize (firstL _ (l.map c) 0).getD (Sum.inl ()) = q
    cases q <;> rfl
  · rw [hs i y hy, w64_nat (i := i) (by have := lt_of_get hy; omega)]
    split <;> rfl
theorem loopR {α : Type} {step : Int × Int → Option ((Int × Int) ⊕ Int)} (l : List α) (c : α → Int) (hl : l.length ≤ 9223372036854775807)
    (hs : ∀ (i : Nat) y, l[i]? = some y → step (0, (i : Int)) = some (.inl (c y, w64 ((i : Int) + 1)))) (he : step (0, (l.length : Int)) = some (.inr 0)) (hn : ∀ (e i : Int), e ≠ 0 → step (e, i) = some (.inr e)) (e : Int) :
    loop step (e, 0) = some (if e = 0 then orI (l.map c) else e) := by
  have stop : ∀ (e : Int) (i : Int) n, e ≠ 0 → iter step (n + 1) (e, i) = some e := by
    intro e i n h; rw [iter_succ, hn e i h]
  by_cases h0 : e = 0
  · subst h0
    rw [if_pos rfl]
    have key : ∀ (ys : List α) (i : Nat), l.drop i = ys → i + ys.length = l.length → iter step (ys.length + 2) (0, (i : Int)) = some (orI (ys.map c)) := by
      intro ys
      induction ys with
      | nil =>
        intro i _ hi
        have : i = l.length := by simpa using hi
        subst this
        rw [iter_succ, he]; rfl
      | cons y ys ih =>
        intro i hd hi
        have hy : l[i]? = some y := by
          have := congrArg (·[0]?) hd
          simpa [List.getElem?_drop] using this
        rw [iter_succ, hs i y hy, w64_nat (i := i) (by have := lt_of_get hy; omega)]
        simp only [List.map_cons, orI]
        by_cases hc : c y = 0
        · rw [if_pos hc, hc]
          exact ih (i + 1) (by rw [← List.drop_drop, hd]; rfl) (by simp at hi; omega)
        · rw [if_neg hc]
          exact stop _ _ _ hc
    exact loop_of_iter (by simp [manyRounds]; omega) (key l 0 (by simp) (by simp))
  · rw [if_neg h0]
    exact loop_of_iter (n := 1) (by simp [manyRounds]) (stop e 0 0 h0)
theorem loopA {α : Type} {step : Bool × Int → Option ((Bool × Int) ⊕ Bool)} (l : List α) (f : α → Bool) (hl : l.length ≤ 9223372036854775807)
    (hs : ∀ b (i : Nat) y, l[i]? = some y → step (b, (i : Int)) = some (.inl (b && f y, w64 ((i : Int) + 1)))) (he : ∀ b, step (b, (l.length : Int)) = some (.inr b)) (b : Bool) :
    loop step (b, 0) = some (b && l.all f) := by
  have := loop_for0 (step := step) l (fun i b => (b, (i : Int))) (fun i y b => .inl (b && f y)) (fun b => b) (by simp [manyRounds]; omega) (fun i y b hy => by rw [hs b i y hy, w64_nat (i := i) (by have := lt_of_get hy; omega)]; rfl) he b
  rw [show ((b, 0) : Bool × Int) = (b, ((0 : Nat) : Int)) from rfl, this]
  have key : ∀ (l : List α) (i : Nat) (b : Bool), forL (fun _ y b => (Sum.inl (b && f y) : Bool ⊕ Bool)) (fun b => b) l i b = (b && l.all f) := by
    intro l
    induction l with
    | nil => intro i b; simp [forL]
    | cons x l ih => intro i b; simp only [forL, ih, List.all_cons, Bool.and_assoc]
  rw [key]
theorem loopI {α : Type} {step : Int → Option (Int ⊕ (Unit ⊕ Int))} (l : List α) (p : α → Bool) (hl : l.length ≤ 9223372036854775807)
    (hs : ∀ (i : Nat) y, l[i]? = some y → step (i : Int) = some (if p y = true then .inr (.inr (i : Int)) else .inl (w64 ((i : Int) + 1)))) (he : step (l.length : Int) = some (.inr (.inl ()))) :
    (((loop step 0).bind fun | .inl _ => some (-1) | .inr rv => some rv).bind fun r => some (decide (0 ≤ r))) = some (l.any p) := by
  rw [loop_first l (fun i y => if p y = true then some (.inr (i : Int)) else none) (.inl ()) (by simp [manyRounds]; omega) (fun i y hy => ?_) he, Option.bind_some]
  · have key : ∀ (l : List α) (i : Nat), (((match (firstL (fun i y => if p y = true then some (Sum.inr (i : Int) : Unit ⊕ Int) else none) l i).getD (.inl ()) with | .inl _ => some (-1) | .inr rv => some rv) : Option Int).bind fun r => some (decide (0 ≤ r))) = some (l.any p) := by
      intro l
      induction l with
      | nil => intro i; simp [firstL]
      | cons x l ih =>
        intro i
        simp only [firstL, List.any_cons]
        cases hp : p x with
        | true => simp
        | false => simpa [hp] using ih (i + 1)
    have := key l 0
    generalize (firstL _ l 0).getD (Sum.inl ()) = q at *
    cases q <;> simpa using this
  · rw [hs i y hy, w64_nat (i := i) (by have := lt_of_get hy; omega)]
    split <;> rfl
def hasB (t : api_Trace) (k : Int) : Bool := t.fThreads.any (fun x => decide (x.fId = k))
theorem hasB_iff (t : api_Trace) (k : Int) : hasB t k = true ↔ k ∈ t.fThreads.map (·.fId) := by
  unfold hasB
  rw [List.any_eq_true, List.mem_map]
  constructor
  · rintro ⟨x, hx, h⟩; exact ⟨x, hx, of_decide_eq_true h⟩
  · rintro ⟨x, hx, h⟩; exact ⟨x, hx, decide_eq_true h⟩
def cK (t : api_Trace) (k : Int) : Int := if hasB t k = true then 0 else 5
theorem known_Slice1 (t : api_Trace) (m : List (Int × ByteArray)) (hm : ∀ k, (mget k m).isSome = hasB t k) (e : Int) (l : List api_Slice) (hl : l.length ≤ 9223372036854775807) : trace_known_api_Slice_k1 e m l = some (if e = 0 then orI (l.map fun y => cK t y.fThread) else e) := by
  unfold trace_known_api_Slice_k1
  by_cases h0 : e = 0
  · subst h0
    simp only [decide_true, Bool.not_true, cond_false, if_true]
    refine loopP l (fun y => cK t y.fThread) hl (fun i y hy => ?_) (by simp [trace_known_api_Slice_k1_L1])
    have hi : (i : Int) < l.length := by have := lt_of_get hy; omega
    simp only [trace_known_api_Slice_k1_L1, hi, decide_true, cond_true, idx_nat, hy, Option.bind_some, trace_tables_1, hm, cK]
    by_cases hb : hasB t y.fThread = true <;> simp [hb]
  · simp [h0]
theorem known_Flow1 (t : api_Trace) (m : List (Int × ByteArray)) (hm : ∀ k, (mget k m).isSome = hasB t k) (e : Int) (l : List api_Flow) (hl : l.length ≤ 9223372036854775807) : trace_known_api_Flow_k1 e m l = some (if e = 0 then orI (l.map fun y => cK t y.fFrom.fThread) else e) := by
  unfold trace_known_api_Flow_k1
  by_cases h0 : e = 0
  · subst h0
    simp only [decide_true, Bool.not_true, cond_false, if_true]
    refine loopP l (fun y => cK t y.fFrom.fThread) hl (fun i y hy => ?_) (by simp [trace_known_api_Flow_k1_L1])
    have hi : (i : Int) < l.length := by have := lt_of_get hy; omega
    simp only [trace_known_api_Flow_k1_L1, hi, decide_true, cond_true, idx_nat, hy, Option.bind_some, trace_tables_2, hm, cK]
    by_cases hb : hasB t y.fFrom.fThread = true <;> simp [hb]
  · simp [h0]
theorem known_Flow2 (t : api_Trace) (m : List (Int × ByteArray)) (hm : ∀ k, (mget k m).isSome = hasB t k) (e : Int) (l : List api_Flow) (hl : l.length ≤ 9223372036854775807) : trace_known_api_Flow_k2 e m l = some (if e = 0 then orI (l.map fun y => cK t y.fTo.fThread) else e) := by
  unfold trace_known_api_Flow_k2
  by_cases h0 : e = 0
  · subst h0
    simp only [decide_true, Bool.not_true, cond_false, if_true]
    refine loopP l (fun y => cK t y.fTo.fThread) hl (fun i y hy => ?_) (by simp [trace_known_api_Flow_k2_L1])
    have hi : (i : Int) < l.length := by have := lt_of_get hy; omega
    simp only [trace_known_api_Flow_k2_L1, hi, decide_true, cond_true, idx_nat, hy, Option.bind_some, trace_tables_3, hm, cK]
    by_cases hb : hasB t y.fTo.fThread = true <;> simp [hb]
  · simp [h0]
theorem known_Sample1 (t : api_Trace) (m : List (Int × ByteArray)) (hm : ∀ k, (mget k m).isSome = hasB t k) (e : Int) (l : List api_Sample) (hl : l.length ≤ 9223372036854775807) : trace_known_api_Sample_k1 e m l = some (if e = 0 then orI (l.map fun y => cK t y.fThread) else e) := by
  unfold trace_known_api_Sample_k1
  by_cases h0 : e = 0
  · subst h0
    simp only [decide_true, Bool.not_true, cond_false, if_true]
    refine loopP l (fun y => cK t y.fThread) hl (fun i y hy => ?_) (by simp [trace_known_api_Sample_k1_L1])
    have hi : (i : Int) < l.length := by have := lt_of_get hy; omega
    simp only [trace_known_api_Sample_k1_L1, hi, decide_true, cond_true, idx_nat, hy, Option.bind_some, trace_tables_4, hm, cK]
    by_cases hb : hasB t y.fThread = true <;> simp [hb]
  · simp [h0]
theorem known_Block1 (t : api_Trace) (m : List (Int × ByteArray)) (hm : ∀ k, (mget k m).isSome = hasB t k) (e : Int) (l : List api_Block) (hl : l.length ≤ 9223372036854775807) : trace_known_api_Block_k1 e m l = some (if e = 0 then orI (l.map fun y => cK t y.fThread) else e) := by
  unfold trace_known_api_Block_k1
  by_cases h0 : e = 0
  · subst h0
    simp only [decide_true, Bool.not_true, cond_false, if_true]
    refine loopP l (fun y => cK t y.fThread) hl (fun i y hy => ?_) (by simp [trace_known_api_Block_k1_L1])
    have hi : (i : Int) < l.length := by have := lt_of_get hy; omega
    simp only [trace_known_api_Block_k1_L1, hi, decide_true, cond_true, idx_nat, hy, Option.bind_some, trace_tables_5, hm, cK]
    by_cases hb : hasB t y.fThread = true <;> simp [hb]
  · simp [h0]
def cLo (t : api_Trace) (y : api_Loss) : Int := if hasB t y.fThread = true then (if (0 ≤ y.fSpan.fFrom ∧ y.fSpan.fFrom < y.fSpan.fTo ∧ y.fSpan.fTo ≤ 1000000000000) ∧ 1 ≤ y.fCount ∧ y.fCount ≤ 1000000000000000 then 0 else 2) else 5
theorem loss_step (y : api_Loss) : ((spans_Valid y.fSpan).bind fun r32 => bif !r32 then some true else bif decide (y.fCount < 1) then some true else some (decide (1000000000000000 < y.fCount))) = some (!decide ((0 ≤ y.fSpan.fFrom ∧ y.fSpan.fFrom < y.fSpan.fTo ∧ y.fSpan.fTo ≤ 1000000000000) ∧ 1 ≤ y.fCount ∧ y.fCount ≤ 1000000000000000)) := by
  rw [spans_Valid_eq, Option.bind_some]
  by_cases h1 : 0 ≤ y.fSpan.fFrom ∧ y.fSpan.fFrom < y.fSpan.fTo ∧ y.fSpan.fTo ≤ 1000000000000
  · by_cases h2 : y.fCount < 1
    · have : ¬ 1 ≤ y.fCount := by omega
      simp [h1, h2, this]
    · have h3 : 1 ≤ y.fCount := by omega
      by_cases h4 : 1000000000000000 < y.fCount
      · have : ¬ y.fCount ≤ 1000000000000000 := by omega
        simp [h1, h2, h3, h4, this]
      · have : y.fCount ≤ 1000000000000000 := by omega
        simp [h1, h2, h3, h4, this]
  · simp [h1]
theorem losses_p (t : api_Trace) (m : List (Int × ByteArray)) (hm : ∀ k, (mget k m).isSome = hasB t k) (l : List api_Loss) (hl : l.length ≤ 9223372036854775807) : trace_losses_k1 m l = some (orI (l.map (cLo t))) := by
  unfold trace_losses_k1
  refine loopP l (cLo t) hl (fun i y hy => ?_) (by simp [trace_losses_k1_L1])
  have hi : (i : Int) < l.length := by have := lt_of_get hy; omega
  simp only [trace_losses_k1_L1, hi, decide_true, cond_true, idx_nat, hy, Option.bind_some, hm, cLo, loss_step]
  by_cases hb : hasB t y.fThread = true <;> by_cases h : ((0 ≤ y.fSpan.fFrom ∧ y.fSpan.fFrom < y.fSpan.fTo ∧ y.fSpan.fTo ≤ 1000000000000) ∧ 1 ≤ y.fCount ∧ y.fCount ≤ 1000000000000000) <;> simp only [hb, h, decide_true, decide_false, if_true, if_false, Bool.not_true, Bool.not_false, cond_true, cond_false] <;> simp
theorem orI_flows (t : api_Trace) : ∀ l : List api_Flow, orI (l.map fun y => if hasB t y.fFrom.fThread = true ∧ hasB t y.fTo.fThread = true then 0 else 5) = if orI (l.map fun y => cK t y.fFrom.fThread) = 0 then orI (l.map fun y => cK t y.fTo.fThread) else orI (l.map fun y => cK t y.fFrom.fThread)
  | [] => rfl
  | y :: l => by
    have ih := orI_flows t l
    have h5 : ∀ (f : api_Flow → Int) (l : List api_Flow), orI (l.map fun y => cK t (f y)) = 0 ∨ orI (l.map fun y => cK t (f y)) = 5 := by
      intro f l
      induction l with
      | nil => exact .inl rfl
      | cons x l ih =>
        simp only [List.map_cons, orI]
        split
        · exact ih
        · rename_i h
          unfold cK at h ⊢
          split at h
          · exact absurd rfl h
          · rename_i h'; exact .inr (by rw [if_neg h'])
    simp only [List.map_cons, orI]
    rw [ih]
    rcases h5 (fun y => y.fFrom.fThread) l with a | a <;> rcases h5 (fun y => y.fTo.fThread) l with b | b <;> simp only [cK] at a b ⊢ <;> simp only [a, b] <;> by_cases hb1 : hasB t y.fFrom.fThread = true <;> by_cases hb2 : hasB t y.fTo.fThread = true <;> simp [hb1, hb2]
def thG (t : api_Trace) (i : Nat) (y : api_Thread) : Option Int := match producer_Thread y with
  | some r => if r ≠ 0 then some r else if (t.fThreads.take i).any (fun x => decide (x.fId = y.fId)) = true then some 4 else none
  | none => none
def thErr (t : api_Trace) : Option Int := firstL (thG t) t.fThreads 0
theorem thErr_at {t : api_Trace} {j : Nat} {y : api_Thread} {r : Int} (hy : t.fThreads[j]? = some y) (h : thG t j y = some r) (hb : ∀ k z, k < j → t.fThreads[k]? = some z → thG t k z = none) : thErr t = some r :=
  firstL_at hy (by simpa using h) (fun k z hk hz => by simpa using hb k z hk hz)
theorem thErr_none {t : api_Trace} (hb : ∀ (k : Nat) z, t.fThreads[k]? = some z → thG t k z = none) : thErr t = none :=
  firstL_none.2 (fun k z hz => by simpa using hb k z hz)
theorem threads_p (t : api_Trace) (hl : t.fThreads.length ≤ 9223372036854775807) (hn : ∀ x ∈ t.fThreads, okN x.fName) (h64 : ¬ (64 : Int) < t.fThreads.length) : Ok (trace_threads t) (fun q => (∃ r, r ≠ 0 ∧ q = .inl ([], r) ∧ thErr t = some r) ∨ (∃ m, q = .inr (m, 0) ∧ thErr t = none ∧ ∀ k, (mget k m).isSome = hasB t k)) := by
  unfold trace_threads
  simp only [h64, decide_false, cond_false]
  refine ok_bindS (Q := InlR (fun m => thErr t = none ∧ ∀ k, (mget k m).isSome = hasB t k) (fun q : (List (Int × ByteArray) × Int) ⊕ (List (Int × ByteArray) × Int) => ∃ r, r ≠ 0 ∧ q = .inl ([], r) ∧ thErr t = some r)) (ok_up2N t.fThreads.length (fun m n => (∀ k, (mget k m).isSome = (t.fThreads.take n).any (fun x => decide (x.fId = k))) ∧ ∀ (k : Nat) z, k < n → t.fThreads[k]? = some z → thG t k z = none) hl ⟨by intro k; simp [mget], by intro k z hk; omega⟩ (fun m i hI h2 => ?_)) (fun m hm => ok_some (.inr ⟨m, rfl, hm.1, hm.2⟩)) (fun q hq => ok_some (.inl hq))
  unfold trace_threads_L1
  dsimp only
  refine ok_ite (fun hi => ?_) (fun hi => ok_inr ⟨thErr_none (fun k z hz => hI.2 k z (by have := lt_of_get hz; omega) hz), fun k => ?_⟩)
  · obtain ⟨y, hiy, hy⟩ := ok_ixN (xs := t.fThreads) (i := i) (by omega)
    rw [hiy, Option.bind_some]
    obtain ⟨r, hr, _⟩ := producer_Thread_ok y (hn y (List.mem_of_getElem? hy))
    rw [hr, Option.bind_some]
    refine ok_nite (fun h0 => ok_inr ⟨r, h0, rfl, thErr_at hy (by simp [thG, hr, h0]) hI.2⟩) (fun h0 => ?_)
    rw [hI.1 y.fId]
    refine ok_cond (fun e => ok_inr ⟨4, by omega, rfl, thErr_at hy (by simp only [thG, hr, h0, ne_eq, not_true_eq_false, if_false]; rw [if_pos e]) hI.2⟩) (fun e => ?_)
    rw [w64_N (n := t.fThreads.length) (by omega) hl]
    refine ok_inl ⟨by omega, rfl, fun k => ?_, fun k z hk hz => ?_⟩
    · rw [mget_mput, List.take_add_one, hy]
      simp only [List.any_append, ← hI.1 k]
      by_cases e2 : k = y.fId
      · subst e2; simp
      · have : ¬ y.fId = k := fun h => e2 h.symm
        simp [e2, this]
    · by_cases e2 : k = i
      · subst e2; rw [hy] at hz; cases hz
        simp only [thG, hr, h0, ne_eq, not_true_eq_false, if_false]
        rw [if_neg (by rw [e]; simp)]
      · exact hI.2 k z (by omega) hz
  · rw [hI.1 k, show i = t.fThreads.length by omega, List.take_length]; rfl
def wiB (p s : api_Span) : Bool := decide (s.fFrom ≤ p.fFrom) && decide (p.fTo ≤ s.fTo)
def inB (s : api_Span) (x : Int) : Bool := decide (s.fFrom ≤ x) && decide (x < s.fTo)
theorem within_p (p s : api_Span) : trace_within p s = some (wiB p s) := by
  unfold trace_within wiB; by_cases h : s.fFrom ≤ p.fFrom <;> simp [h]
theorem inside_p (s : api_Span) (x : Int) : trace_inside s x = some (inB s x) := by
  unfold trace_inside inB; by_cases h : s.fFrom ≤ x <;> simp [h]
theorem any_Slice (s : api_Span) (l : List api_Slice) (hl : l.length ≤ 9223372036854775807) : slices_ContainsFunc_api_Slice_api_Slice_k1 l s = some (!l.all fun y => wiB y.fSpan s) := by
  unfold slices_ContainsFunc_api_Slice_api_Slice_k1 slices_IndexFunc_api_Slice_api_Slice_k1
  refine (loopI l (fun y => !(wiB y.fSpan s)) hl (fun i y hy => ?_) (by simp [slices_IndexFunc_api_Slice_api_Slice_k1_L1])).trans (by rw [List.not_all_eq_any_not])
  have hi : (i : Int) < l.length := by have := lt_of_get hy; omega
  simp only [slices_IndexFunc_api_Slice_api_Slice_k1_L1, hi, decide_true, cond_true, idx_nat, hy, Option.bind_some, trace_outside_1_k1, within_p, inside_p]
  by_cases h1 : wiB y.fSpan s = true <;> simp [h1]
theorem any_State (s : api_Span) (l : List api_State) (hl : l.length ≤ 9223372036854775807) : slices_ContainsFunc_api_State_api_State_k1 l s = some (!l.all fun y => wiB y.fSpan s) := by
  unfold slices_ContainsFunc_api_State_api_State_k1 slices_IndexFunc_api_State_api_State_k1
  refine (loopI l (fun y => !(wiB y.fSpan s)) hl (fun i y hy => ?_) (by simp [slices_IndexFunc_api_State_api_State_k1_L1])).trans (by rw [List.not_all_eq_any_not])
  have hi : (i : Int) < l.length := by have := lt_of_get hy; omega
  simp only [slices_IndexFunc_api_State_api_State_k1_L1, hi, decide_true, cond_true, idx_nat, hy, Option.bind_some, trace_outside_2_k1, within_p, inside_p]
  by_cases h1 : wiB y.fSpan s = true <;> simp [h1]
theorem any_Block (s : api_Span) (l : List api_Block) (hl : l.length ≤ 9223372036854775807) : slices_ContainsFunc_api_Block_api_Block_k1 l s = some (!l.all fun y => wiB y.fSpan s) := by
  unfold slices_ContainsFunc_api_Block_api_Block_k1 slices_IndexFunc_api_Block_api_Block_k1
  refine (loopI l (fun y => !(wiB y.fSpan s)) hl (fun i y hy => ?_) (by simp [slices_IndexFunc_api_Block_api_Block_k1_L1])).trans (by rw [List.not_all_eq_any_not])
  have hi : (i : Int) < l.length := by have := lt_of_get hy; omega
  simp only [slices_IndexFunc_api_Block_api_Block_k1_L1, hi, decide_true, cond_true, idx_nat, hy, Option.bind_some, trace_outside_3_k1, within_p, inside_p]
  by_cases h1 : wiB y.fSpan s = true <;> simp [h1]
theorem any_Flow (s : api_Span) (l : List api_Flow) (hl : l.length ≤ 9223372036854775807) : slices_ContainsFunc_api_Flow_api_Flow_k1 l s = some (!l.all fun y => (inB s y.fSend && inB s y.fRecv)) := by
  unfold slices_ContainsFunc_api_Flow_api_Flow_k1 slices_IndexFunc_api_Flow_api_Flow_k1
  refine (loopI l (fun y => !(inB s y.fSend && inB s y.fRecv)) hl (fun i y hy => ?_) (by simp [slices_IndexFunc_api_Flow_api_Flow_k1_L1])).trans (by rw [List.not_all_eq_any_not])
  have hi : (i : Int) < l.length := by have := lt_of_get hy; omega
  simp only [slices_IndexFunc_api_Flow_api_Flow_k1_L1, hi, decide_true, cond_true, idx_nat, hy, Option.bind_some, trace_outside_4_k1, within_p, inside_p]
  by_cases h1 : inB s y.fSend = true <;> by_cases h2 : inB s y.fRecv = true <;> simp [h1, h2]
theorem any_Sample (s : api_Span) (l : List api_Sample) (hl : l.length ≤ 9223372036854775807) : slices_ContainsFunc_api_Sample_api_Sample_k1 l s = some (!l.all fun y => inB s y.fAt) := by
  unfold slices_ContainsFunc_api_Sample_api_Sample_k1 slices_IndexFunc_api_Sample_api_Sample_k1
  refine (loopI l (fun y => !(inB s y.fAt)) hl (fun i y hy => ?_) (by simp [slices_IndexFunc_api_Sample_api_Sample_k1_L1])).trans (by rw [List.not_all_eq_any_not])
  have hi : (i : Int) < l.length := by have := lt_of_get hy; omega
  simp only [slices_IndexFunc_api_Sample_api_Sample_k1_L1, hi, decide_true, cond_true, idx_nat, hy, Option.bind_some, trace_outside_5_k1, within_p, inside_p]
  by_cases h1 : inB s y.fAt = true <;> simp [h1]
theorem any_Step (s : api_Span) (l : List api_Step) (hl : l.length ≤ 9223372036854775807) : slices_ContainsFunc_api_Step_api_Step_k1 l s = some (!l.all fun y => inB s y.fAt) := by
  unfold slices_ContainsFunc_api_Step_api_Step_k1 slices_IndexFunc_api_Step_api_Step_k1
  refine (loopI l (fun y => !(inB s y.fAt)) hl (fun i y hy => ?_) (by simp [slices_IndexFunc_api_Step_api_Step_k1_L1])).trans (by rw [List.not_all_eq_any_not])
  have hi : (i : Int) < l.length := by have := lt_of_get hy; omega
  simp only [slices_IndexFunc_api_Step_api_Step_k1_L1, hi, decide_true, cond_true, idx_nat, hy, Option.bind_some, trace_outside_6_k1, within_p, inside_p]
  by_cases h1 : inB s y.fAt = true <;> simp [h1]
theorem ok_up2M {σ ρ : Type} {step : σ × Int → Option ((σ × Int) ⊕ ρ)} (n : Nat) (Inv : σ → Nat → Prop) {Post : ρ → Prop} (hn : n ≤ 9223372036854775807) {s0 : σ} (h0 : Inv s0 0)
    (h : ∀ (s : σ) (i : Nat), Inv s i → i ≤ n → Ok (step (s, (i : Int))) (InlR (fun a => i < n ∧ a.2 = ((i + 1 : Nat) : Int) ∧ Inv a.1 (i + 1)) Post)) : Ok (loop step (s0, 0)) Post := by
  refine ok_up2 n (fun s i => Inv s i.toNat) hn h0 (fun s i hI h1 h2 => ?_)
  obtain ⟨k, rfl⟩ := Int.eq_ofNat_of_zero_le h1
  refine (h s k hI (by omega)).mono ?_
  rintro (⟨a, b⟩ | b) hr
  · obtain ⟨h3, h4, h5⟩ : k < n ∧ b = ((k + 1 : Nat) : Int) ∧ Inv a (k + 1) := hr
    refine ⟨by omega, by omega, ?_⟩
    rw [show ((k : Int) + 1).toNat = k + 1 by omega]; exact h5
  · exact hr
theorem ok_upM {ρ : Type} {step : Int → Option (Int ⊕ ρ)} (n : Nat) (Inv : Nat → Prop) {Post : ρ → Prop} (hn : n ≤ 9223372036854775807) (h0 : Inv 0)
    (h : ∀ i : Nat, Inv i → i ≤ n → Ok (step (i : Int)) (InlR (fun a => i < n ∧ a = ((i + 1 : Nat) : Int) ∧ Inv (i + 1)) Post)) : Ok (loop step 0) Post := by
  refine ok_upI n (fun i => Inv i.toNat) hn h0 (fun i hI h1 h2 => ?_)
  obtain ⟨k, rfl⟩ := Int.eq_ofNat_of_zero_le h1
  refine (h k hI (by omega)).mono ?_
  rintro (b | b) hr
  · obtain ⟨h3, h4, h5⟩ : k < n ∧ b = ((k + 1 : Nat) : Int) ∧ Inv (k + 1) := hr
    refine ⟨by omega, by omega, ?_⟩
    rw [show ((k : Int) + 1).toNat = k + 1 by omega]; exact h5
  · exact hr
theorem ok_ixM {α : Type} {xs : List α} {i : Nat} (h : i < xs.length) : Ok (idx xs (i : Int)) (fun y => xs[i]? = some y) := by
  rw [idx_nat]; exact ⟨xs[i], by simp [h], by simp [h]⟩
theorem w64_M {i n : Nat} (h : i < n) (hn : n ≤ 9223372036854775807) : w64 ((i : Int) + 1) = ((i + 1 : Nat) : Int) := by rw [w64_of (by omega)]; omega
def SpV (l : List api_Slice) : Prop := ∀ s ∈ l, 0 ≤ s.fSpan.fFrom ∧ s.fSpan.fFrom < s.fSpan.fTo ∧ s.fSpan.fTo ≤ 1000000000000
theorem slice_Check_v (l : List api_Slice) (h : l.length ≤ 9223372036854775807) (hx : ∀ x ∈ l, okN x.fName) : Ok (slice_Check l) (fun r => r = 0 → SpV l) := by
  unfold slice_Check
  refine ok_bindS (Q := InlR (fun _ => SpV l) (fun r => r ≠ 0)) (ok_upM l.length (fun n => ∀ (k : Nat) s, k < n → l[k]? = some s → 0 ≤ s.fSpan.fFrom ∧ s.fSpan.fFrom < s.fSpan.fTo ∧ s.fSpan.fTo ≤ 1000000000000) h (by intro k s hk; omega) (fun i hI h2 => ?_)) (fun _ hq => ?_) (fun r hr => ok_some (fun e => absurd e hr))
  · unfold slice_Check_L1
    refine ok_ite (fun hi => ?_) (fun hi => ok_inr (fun s hs => ?_))
    · refine ok_bind (ok_ixM (by omega)) (fun y hy => ?_)
      refine ok_bind (Q := fun v => v = false → 0 ≤ y.fSpan.fFrom ∧ y.fSpan.fFrom < y.fSpan.fTo ∧ y.fSpan.fTo ≤ 1000000000000) ?_ (fun v hv => ?_)
      · refine ok_ite (fun _ => ok_some (by simp)) (fun _ => ?_)
        refine ok_ite (fun _ => ok_some (by simp)) (fun _ => ?_)
        refine ok_bind (spans_Valid_val y.fSpan) (fun b hb => ok_some (fun e => hb (by simpa using e)))
      refine ok_cond (fun _ => ok_inr (show (2 : Int) ≠ 0 by omega)) (fun e => ?_)
      refine ok_bind (intern_Name_ok _ (hx _ (List.mem_of_getElem? hy))) (fun r _ => ?_)
      refine ok_nite (fun h0 => ok_inr h0) (fun _ => ?_)
      refine ok_bind (Q := Yes) ?_ (fun v2 _ => ?_)
      · refine ok_ite (fun h0 => ?_) (fun _ => ok_yes)
        rw [show w64 ((i : Int) - 1) = (i : Int) - 1 from w64_of (by omega)]
        refine ok_bind (ok_idx (by omega) (by omega)) (fun z _ => ?_)
        exact ok_bind (slice_compare_ok _ _) (fun _ _ => ok_yes)
      refine ok_cond (fun _ => ok_inr (show (11 : Int) ≠ 0 by omega)) (fun _ => ?_)
      rw [w64_M (n := l.length) (by omega) h]
      refine ok_inl ⟨by omega, rfl, fun k s hk hs => ?_⟩
      by_cases e2 : k = i
      · subst e2; rw [hy] at hs; cases hs; exact hv e
      · exact hI k s (by omega) hs
    · obtain ⟨k, hk⟩ := List.getElem?_of_mem hs
      exact hI k s (by have := lt_of_get hk; omega) hk
  · have hq' : SpV l := hq
    dsimp only
    refine ok_bind (Q := Yes) ?_ (fun v _ => ok_cond (fun _ => ok_some (fun e => by simp at e)) (fun _ => ok_some (fun _ => hq')))
    refine ok_bind (slice_nested_ok l h) (fun b hb => ?_)
    refine ok_not (fun _ => ok_yes) (fun e => ?_)
    exact ok_bind (slice_apart_ok l h (hb e)) (fun _ _ => ok_yes)
theorem trace_Check_v (t : api_Trace) (hz : Siz t) (ht : t.fThreads.length ≤ 1000000) : Ok (trace_Check t) (fun r => r = 0 → SpV t.fSlices) := by
  unfold trace_Check
  refine ok_bind (Q := fun r => r = 0 → SpV t.fSlices) ?_ (fun r hr => ?_)
  · unfold trace_tables
    refine ok_bindS (trace_threads_ok t hz.th hz.nTh) (fun r hr => ?_) (fun r _ => ?_)
    · exact ok_nite (fun h0 => ok_some (fun e => absurd e h0)) (fun h0 => absurd h0 hr)
    · dsimp only
      refine ok_nite (fun h0 => ok_some (fun e => absurd e h0)) (fun _ => ?_)
      refine ok_bind (slice_Check_v _ hz.sl hz.nSl) (fun r4 h4 => ?_)
      by_cases h40 : r4 = 0
      · have hd := h4 h40
        refine ok_bind (trace_known_api_Slice_k1_ok _ _ _ hz.sl) (fun r5 _ => ?_)
        refine ok_nite (fun h0 => ok_some (fun e => absurd e h0)) (fun _ => ?_)
        refine ok_bind (state_Check_ok _ _ ht hz.st) (fun r6 h6 => ?_)
        refine ok_nite (fun h0 => ok_some (fun e => absurd e h0)) (fun e6 => ?_)
        refine ok_bind (flow_Check_ok _ hz.fl) (fun r7 _ => ?_)
        refine ok_bind (trace_known_api_Flow_k1_ok _ _ _ hz.fl) (fun r8 _ => ?_)
        refine ok_bind (trace_known_api_Flow_k2_ok _ _ _ hz.fl) (fun r9 _ => ?_)
        refine ok_nite (fun h0 => ok_some (fun e => absurd e h0)) (fun _ => ?_)
        refine ok_bind (sample_Check_ok _ hz.sa hz.nSa) (fun r10 _ => ?_)
        refine ok_bind (trace_known_api_Sample_k1_ok _ _ _ hz.sa) (fun r11 _ => ?_)
        refine ok_nite (fun h0 => ok_some (fun e => absurd e h0)) (fun _ => ?_)
        refine ok_bind (counter_Check_ok _ hz.sp hz.nSp) (fun r12 _ => ?_)
        refine ok_nite (fun h0 => ok_some (fun e => absurd e h0)) (fun _ => ?_)
        refine ok_bind (memory_Check_ok _ hz.bl hz.nBl) (fun r13 _ => ?_)
        refine ok_bind (trace_known_api_Block_k1_ok _ _ _ hz.bl) (fun r14 _ => ?_)
        refine ok_nite (fun h0 => ok_some (fun e => absurd e h0)) (fun _ => ?_)
        refine ok_bind (trace_losses_k1_ok _ _ hz.lo) (fun r15 _ => ?_)
        exact ok_some (fun _ => hd)
      · have : Ok (trace_known_api_Slice_k1 r4 r.1 t.fSlices) (fun q => q = r4) := by
          unfold trace_known_api_Slice_k1
          exact ok_nite (fun _ => ok_some rfl) (fun e => absurd e h40)
        refine ok_bind this (fun r5 h5 => ?_)
        subst h5
        exact ok_nite (fun h0 => ok_some (fun e => absurd e h0)) (fun e => absurd e h40)
  · refine ok_nite (fun h0 => ok_some (fun e => absurd e h0)) (fun e => ?_)
    have hd := hr e
    refine ok_bind (Q := Yes) (by repeat' (first | with_reducible exact ok_yes | with_reducible exact ok_inrY | with_reducible exact ok_inlY | (with_reducible refine ok_next ?_ ?_ ?_ <;> (first | assumption | omega | (rw [w64_of] <;> omega))) | (with_reducible refine ok_nite (fun _ => ?_) (fun _ => ?_)) | (with_reducible refine ok_ite (fun _ => ?_) (fun _ => ?_)) | (with_reducible refine ok_not (fun _ => ?_) (fun _ => ?_)) | (with_reducible refine ok_cond (fun _ => ?_) (fun _ => ?_)) | with_reducible refine ok_bind (ok_idx (by (first | assumption | omega | (rw [w64_of] <;> omega))) (by (first | assumption | omega | (rw [w64_of] <;> omega)))) (fun _ _ => ?_) | (with_reducible refine ok_bind (Q := Yes) ?_ (fun _ _ => ?_)) | dsimp only)) (fun v _ => ?_)
    refine ok_cond (fun _ => ok_some (fun _ => hd)) (fun _ => ?_)
    refine ok_bind (trace_outside_ok t hz) (fun v _ => ?_)
    exact ok_cond (fun _ => ok_some (fun _ => hd)) (fun _ => ok_some (fun _ => hd))
def lenS (s : api_Slice) : Int := w64 (s.fSpan.fTo - s.fSpan.fFrom)
theorem lenS_v {l : List api_Slice} (h : SpV l) {s : api_Slice} (hs : s ∈ l) : 0 < lenS s ∧ lenS s ≤ 1000000000000 := by
  have := h s hs
  unfold lenS
  rw [w64_of (by omega)]
  omega
def isC (name : ByteArray) (s : api_Slice) : Bool := decide (s.fName = name) && !s.fOpen
def closedL (l : List api_Slice) (name : ByteArray) : List Int := (l.filter (isC name)).map lenS
theorem closedL_len (l : List api_Slice) (name : ByteArray) : (closedL l name).length ≤ l.length := by
  unfold closedL; simp only [List.length_map]; exact List.length_filter_le _ _
def qIx (n : Nat) : Int := max (((n : Int) + 1) / 2) 1 - 1
theorem q_all : (List.range 61).all (fun n => decide ((((math_bits_Mul64 (IntKind.wrap .u64 1) (IntKind.wrap .u64 (n : Int))).bind fun r4 => ((math_bits_Div64 r4.1 r4.2 (IntKind.wrap .u64 2)).bind fun r5 => (((bif (decide (0 < r5.2)) then some (IntKind.wrap .u64 (r5.1 + 1)) else some r5.1) : Option Int).bind fun v6 => some (IntKind.wrap .u64 ((max v6 1) - 1)))))) = some (qIx n))) = true := by kernel_rfl
def medS (l : List Int) : Int × Bool := match (sortI l)[(qIx l.length).toNat]? with
  | some x => (x, true)
  | none => (0, false)
theorem quantile_p (l : List Int) (h : l.length ≤ 60) : num_Quantile l 1 2 = some (medS l) := by
  unfold num_Quantile
  have hsl : (sortI l).length = l.length := (sortI_perm l).length_eq
  by_cases h0 : (l.length : Int) = 0
  · have : l = [] := List.length_eq_zero_iff.1 (by omega)
    subst this
    rfl
  · have hq := of_decide_eq_true (List.all_eq_true.1 q_all l.length (List.mem_range.2 (by omega)))
    have hs : sortB l = true := decide_eq_true (by omega)
    simp only [h0, decide_false, cond_false, Option.bind_some, slices_Values_int_int, slices_Sorted_int_k1, hs, cond_true, show decide ((2 : Int) < 1) = false from rfl, show decide ((1000000000000000 : Int) < 2) = false from rfl, show decide ((1 : Int) < 0) = false from rfl, show decide ((2 : Int) < 1) = false from rfl]
    generalize math_bits_Mul64 (IntKind.wrap .u64 1) (IntKind.wrap .u64 (l.length : Int)) = A at *
    cases A with
    | none => simp at hq
    | some r4 =>
      simp only [Option.bind_some] at hq ⊢
      generalize math_bits_Div64 r4.1 r4.2 (IntKind.wrap .u64 2) = B at *
      cases B with
      | none => simp at hq
      | some r5 =>
        simp only [Option.bind_some] at hq ⊢
        generalize (bif (decide (0 < r5.2)) then some (IntKind.wrap .u64 (r5.1 + 1)) else some r5.1 : Option Int) = C at *
        cases C with
        | none => simp at hq
        | some v6 =>
          simp only [Option.bind_some, Option.some.injEq] at hq ⊢
          rw [hq]
          have hr : 0 ≤ qIx l.length ∧ qIx l.length < l.length := by unfold qIx; omega
          obtain ⟨y, h3, h4⟩ := ok_idx (xs := sortI l) (i := qIx l.length) hr.1 (by omega)
          rw [h3]
          unfold medS
          rw [h4]
          rfl
theorem loop_ind {S ρ : Type} {step : S → Option (S ⊕ ρ)} (Inv : S → Prop) {Q : ρ → Prop} (h : ∀ s, Inv s → ∀ q, step s = some q → InlR Inv Q q) {s : S} {r : ρ} (hs : Inv s) (hr : loop step s = some r) : Q r := by
  have key : ∀ n s, Inv s → iter step n s = some r → Q r := by
    intro n
    induction n with
    | zero => intro s _ h; simp [iter] at h
    | succ n ih =>
      intro s hI hs
      rw [iter_succ] at hs
      cases e : step s with
      | none => rw [e] at hs; simp at hs
      | some x =>
        rw [e] at hs
        have := h s hI x e
        cases x with
        | inl s' => exact ih s' this hs
        | inr r' => simp only [Option.some.injEq] at hs; subst hs; exact this
  exact key _ s hs hr
theorem distT_sub (ths : List api_Thread) : ∀ n, ∀ y ∈ distT ths n, y ∈ ths
  | 0, y, h => by simp [distT] at h
  | n + 1, y, h => by
    simp only [distT] at h
    cases e : ths[n]? with
    | none => rw [e] at h; exact distT_sub ths n y h
    | some z =>
      rw [e] at h
      simp only at h
      split at h
      · rcases List.mem_append.1 h with h | h
        · exact distT_sub ths n y h
        · simp only [List.mem_singleton] at h; subst h; exact List.mem_of_getElem? e
      · exact distT_sub ths n y h
theorem state_Check_mem (ths : List api_Thread) (l : List api_State) (hx : ths.length ≤ 1000000) (hl : l.length ≤ 9223372036854775807) (hc : state_Check ths l = some 0) : ∀ s ∈ l, s.fThread ∈ ths.map (·.fId) := by
  unfold state_Check at hc
  rw [distinct_p ths hx, Option.bind_some] at hc
  obtain ⟨q, hq, hc⟩ := bB hc
  have := loop_ind (Q := fun q : Int ⊕ Int => (∀ s ∈ l, s.fThread ∈ ths.map (·.fId)) ∨ ∃ n, n ≠ 0 ∧ q = .inr n) (fun s : Int × Int => 0 ≤ s.2 ∧ ∀ (j : Nat) y, (j : Int) < s.2 → l[j]? = some y → y.fThread ∈ ths.map (·.fId)) (fun s hs q hq => by
    obtain ⟨a, i⟩ := s
    obtain ⟨h0, hI⟩ := hs
    simp only at h0 hI
    unfold state_Check_L2 at hq
    dsimp only at hq
    by_cases hi : i < (l.length : Int)
    · simp only [hi, decide_true, cond_true] at hq
      obtain ⟨y, hy, hq⟩ := bB hq
      obtain ⟨x, hxx, hq⟩ := bB hq
      by_cases hx0 : x < 0
      · simp only [hx0, decide_true, cond_true, Option.some.injEq] at hq
        subst hq; exact .inr ⟨5, by omega, rfl⟩
      simp only [hx0, decide_false, cond_false] at hq
      obtain ⟨v1, _, hq⟩ := bB hq
      cases v1 with
      | false =>
        simp only [Bool.not_false, cond_true, Option.some.injEq] at hq
        subst hq; exact .inr ⟨2, by omega, rfl⟩
      | true =>
      simp only [Bool.not_true, cond_false] at hq
      obtain ⟨v2, _, hq⟩ := bB hq
      cases v2 with
      | false =>
        simp only [Bool.not_false, cond_true, Option.some.injEq] at hq
        subst hq; exact .inr ⟨1, by omega, rfl⟩
      | true =>
      simp only [Bool.not_true, cond_false] at hq
      obtain ⟨v3, _, hq⟩ := bB hq
      cases v3 with
      | true =>
        simp only [cond_true, Option.some.injEq] at hq
        subst hq; exact .inr ⟨11, by omega, rfl⟩
      | false =>
      simp only [cond_false] at hq
      obtain ⟨v4, _, hq⟩ := bB hq
      cases v4 with
      | true =>
        simp only [cond_true, Option.some.injEq] at hq
        subst hq; exact .inr ⟨11, by omega, rfl⟩
      | false =>
      simp only [cond_false, Option.some.injEq] at hq
      subst hq
      show 0 ≤ w64 (i + 1) ∧ ∀ (j : Nat) z, (j : Int) < w64 (i + 1) → l[j]? = some z → z.fThread ∈ ths.map (·.fId)
      rw [w64_of (n := i + 1) (by omega)]
      refine ⟨by omega, fun j z hj hz => ?_⟩
      by_cases e : (j : Int) = i
      · have hj2 : i = (j : Int) := e.symm
        subst hj2
        rw [idx_nat] at hy
        rw [hy] at hz; cases hz
        have hlen : ((distT ths ths.length).map (·.fId)).length ≤ 9223372036854775807 := by
          have := distT_len ths ths.length
          simp; omega
        have := (slices_Index_int_int_lt _ _ hlen).of_eq hxx
        have hm := List.mem_of_getElem? (this.1 (by omega))
        obtain ⟨w, hw, hw2⟩ := List.mem_map.1 hm
        exact List.mem_map.2 ⟨w, distT_sub ths _ w hw, hw2⟩
      · exact hI j z (by omega) hz
    · simp only [hi, decide_false, cond_false, Option.some.injEq] at hq
      subst hq
      refine .inl fun s hs => ?_
      obtain ⟨j, hj⟩ := List.getElem?_of_mem hs
      exact hI j s (by have := lt_of_get hj; omega) hj) ⟨by simp, by intro j y hj; simp at hj; omega⟩ hq
  rcases this with h | ⟨n, hn, rfl⟩
  · exact h
  · simp only [Option.some.injEq] at hc
    exact absurd hc hn
structure Fx (t : api_Trace) : Prop where
  gd : Gd t.fStates
  wi : ∀ s ∈ t.fStates, t.fSpan.fFrom ≤ s.fSpan.fFrom ∧ s.fSpan.fTo ≤ t.fSpan.fTo
  sp : 0 ≤ t.fSpan.fFrom ∧ t.fSpan.fFrom ≤ t.fSpan.fTo ∧ t.fSpan.fTo ≤ 1000000000000
  nd : (t.fThreads.map (·.fId)).Nodup
  mem : ∀ s ∈ t.fStates, s.fThread ∈ t.fThreads.map (·.fId)
theorem thErr_nodup {t : api_Trace} (hn : ∀ x ∈ t.fThreads, okN x.fName) (h : thErr t = none) : (t.fThreads.map (·.fId)).Nodup := by
  rw [List.nodup_iff_pairwise_ne] 
  rw [List.pairwise_iff_getElem]
  intro i j hi hj hij e
  simp only [List.length_map] at hi hj
  simp only [List.getElem_map] at e
  have h1 := firstL_none.1 h j t.fThreads[j] (by simp [hj])
  rw [Nat.zero_add] at h1
  unfold thG at h1
  obtain ⟨r, hr, _⟩ := producer_Thread_ok t.fThreads[j] (hn _ (List.getElem_mem hj))
  rw [hr] at h1
  simp only at h1
  by_cases hr0 : r = 0
  · simp only [hr0, ne_eq, not_true_eq_false, if_false] at h1
    have : (t.fThreads.take j).any (fun x => decide (x.fId = t.fThreads[j].fId)) = true := by
      rw [List.any_eq_true]
      refine ⟨t.fThreads[i], List.mem_take_iff_getElem.2 ⟨i, by omega, rfl⟩, decide_eq_true e⟩
    rw [if_pos this] at h1
    simp at h1
  · simp [hr0] at h1
theorem trace_Fx (t : api_Trace) (hz : Siz t) (ht : t.fThreads.length ≤ 1000000) (e : trace_Check t = some 0) : Fx t := by
  have gd := (trace_Check_ok t hz ht).of_eq e rfl
  unfold trace_Check at e
  obtain ⟨r1, h1, e⟩ := bB e
  by_cases hr : ¬ r1 = 0
  · simp only [hr, decide_false, Bool.not_false, cond_true, Option.some.injEq] at e
  have hr := Decidable.not_not.1 hr
  subst hr
  simp only [decide_true, Bool.not_true, cond_false] at e
  obtain ⟨v2, h2, e⟩ := bB e
  cases v2 with
  | true => simp at e
  | false =>
    simp only [cond_false] at e
    obtain ⟨v3, h3, e⟩ := bB e
    cases v3 with
    | true => simp at e
    | false =>
      have hsp : 0 ≤ t.fSpan.fFrom ∧ t.fSpan.fFrom ≤ t.fSpan.fTo ∧ t.fSpan.fTo ≤ 1000000000000 := by
        by_cases g1 : t.fSpan.fFrom < 0
        · simp [g1] at h2
        · by_cases g2 : t.fSpan.fTo < t.fSpan.fFrom
          · simp [g1, g2] at h2
          · simp [g1, g2] at h2; omega
      have hwi : ∀ s ∈ t.fStates, t.fSpan.fFrom ≤ s.fSpan.fFrom ∧ s.fSpan.fTo ≤ t.fSpan.fTo := by
        unfold trace_outside at h3
        rw [any_Slice t.fSpan _ hz.sl, any_State t.fSpan _ hz.st] at h3
        simp only [Option.bind_some] at h3
        by_cases g1 : (t.fSlices.all fun y => wiB y.fSpan t.fSpan) = true
        · by_cases g2 : (t.fStates.all fun y => wiB y.fSpan t.fSpan) = true
          · intro s hs
            have := List.all_eq_true.1 g2 s hs
            simp only [wiB, Bool.and_eq_true, decide_eq_true_eq] at this
            exact this
          · have g2' : (t.fStates.all fun y => wiB y.fSpan t.fSpan) = false := by simpa using g2
            rw [g1, g2'] at h3; simp at h3
        · have g1' : (t.fSlices.all fun y => wiB y.fSpan t.fSpan) = false := by simpa using g1
          rw [g1'] at h3; simp at h3
      unfold trace_tables at h1
      by_cases h64 : (64 : Int) < t.fThreads.length
      · have : trace_threads t = some (.inl ([], 7)) := by unfold trace_threads; simp [h64]
        rw [this] at h1; simp at h1
      · obtain ⟨q, hq, hp⟩ := threads_p t hz.th hz.nTh h64
        rw [hq] at h1
        rcases hp with ⟨r, h0, rfl, he⟩ | ⟨m, rfl, he, hm⟩
        · simp [h0] at h1
        · simp only [Option.bind_some, decide_true, Bool.not_true, cond_false] at h1
          obtain ⟨c1, hc1, h1⟩ := bB h1
          obtain ⟨k1, hk1, h1⟩ := bB h1
          by_cases g1 : k1 = 0
          · simp only [g1, decide_true, Bool.not_true, cond_false] at h1
            obtain ⟨c2, hc2, h1⟩ := bB h1
            by_cases g2 : c2 = 0
            · subst g2
              exact ⟨gd, hwi, hsp, thErr_nodup hz.nTh he, state_Check_mem _ _ ht hz.st hc2⟩
            · simp [g2] at h1
          · simp [g1] at h1
def waitB (l : List api_State) (i : Nat) : Bool := match l[i]?, l[i + 1]? with
  | some a, some b => decide (a.fState = 0) && (decide (b.fState = 4) && decide (b.fThread = a.fThread))
  | _, _ => false
def waitO (l : List api_State) (i : Nat) : List api_State := if waitB l i = true then l[i]?.toList else []
def waitsN (l : List api_State) : Nat → List api_State
  | 0 => []
  | n + 1 => waitsN l n ++ waitO l n
def waitsL (l : List api_State) : List api_State := waitsN l l.length
theorem waitO_len (l : List api_State) (i : Nat) : (waitO l i).length ≤ 1 := by
  unfold waitO; split
  · cases l[i]? <;> simp
  · simp
theorem waitsN_len (l : List api_State) : ∀ n, (waitsN l n).length ≤ n
  | 0 => by simp [waitsN]
  | n + 1 => by
    have := waitsN_len l n
    have := waitO_len l n
    simp only [waitsN, List.length_append]; omega
theorem waits_p (t : api_Trace) (h : t.fStates.length ≤ 1000000) : latency_waits t = some (waitsL t.fStates) := by
  have : Ok (latency_waits t) (fun r => r = waitsL t.fStates) := by
    unfold latency_waits
    refine ok_bind (Q := fun r => r = waitsL t.fStates) (ok_up2M t.fStates.length (fun a n => a = waitsN t.fStates n) (by omega) rfl (fun a i hI h2 => ?_)) (fun r hr => ok_some hr)
    have hal : a.length ≤ i := by rw [hI]; exact waitsN_len _ _
    unfold latency_waits_L1
    dsimp only
    refine ok_ite (fun hi => ?_) (fun hi => ok_inr (by rw [hI, show i = t.fStates.length by omega]; rfl))
    obtain ⟨y, hiy, hy⟩ := ok_ixM (xs := t.fStates) (i := i) (by omega)
    refine ok_bind (Q := fun r => r = waitsN t.fStates (i + 1)) ?_ (fun r hr => ?_)
    · rw [hiy, Option.bind_some]
      have hcond : ((bif decide (w64 ((i : Int) + 1) < (t.fStates.length : Int)) then (bif decide (y.fState = 0) then (idx t.fStates (w64 ((i : Int) + 1))).bind fun y50 => (bif decide (y50.fState = 4) then (idx t.fStates (w64 ((i : Int) + 1))).bind fun y52 => some (decide (y52.fThread = y.fThread)) else some false) else some false) else some false) : Option Bool) = some (waitB t.fStates i) := by
        rw [w64_M (n := t.fStates.length) (by omega) (by omega)]
        unfold waitB
        rw [hy]
        by_cases g : i + 1 < t.fStates.length
        · obtain ⟨z, hiz, hz⟩ := ok_ixM (xs := t.fStates) (i := i + 1) g
          rw [hiz, hz, Option.bind_some, Option.bind_some]
          have : (((i + 1 : Nat) : Int) < (t.fStates.length : Int)) := by omega
          simp only [this, decide_true, cond_true]
          by_cases g1 : y.fState = 0 <;> by_cases g2 : z.fState = 4 <;> simp [g1, g2]
        · have : ¬ (((i + 1 : Nat) : Int) < (t.fStates.length : Int)) := by omega
          rw [List.getElem?_eq_none (by omega : t.fStates.length ≤ i + 1)]
          simp only [this, decide_false, cond_false]
      rw [hcond, Option.bind_some]
      refine ok_cond (fun e => ?_) (fun e => ok_some ?_)
      · rw [room_ok (by simp; omega) (by simp; omega)]
        exact ok_some (by rw [hI]; simp [waitsN, waitO, e, hy])
      · rw [hI]; simp [waitsN, waitO, e]
    · rw [w64_M (n := t.fStates.length) (by omega) (by omega)]
      exact ok_inl ⟨by omega, rfl, hr⟩
  obtain ⟨r, h1, h2⟩ := this
  rw [h1, h2]
theorem waits_mem {l : List api_State} {n : Nat} {s : api_State} (h : s ∈ waitsN l n) : ∃ i : Nat, i < n ∧ l[i]? = some s ∧ waitB l i = true := by
  induction n with
  | zero => simp [waitsN] at h
  | succ n ih =>
    simp only [waitsN, List.mem_append] at h
    rcases h with h | h
    · obtain ⟨i, h1, h2⟩ := ih h; exact ⟨i, by omega, h2⟩
    · unfold waitO at h
      by_cases e : waitB l n = true
      · rw [if_pos e] at h
        cases hs : l[n]? with
        | none => rw [hs] at h; simp at h
        | some x => rw [hs] at h; simp at h; subst h; exact ⟨n, by omega, hs, e⟩
      · rw [if_neg e] at h; simp at h
theorem waits_st {l : List api_State} {s : api_State} (h : s ∈ waitsL l) : s ∈ l ∧ s.fState = 0 := by
  obtain ⟨i, _, h1, h2⟩ := waits_mem h
  refine ⟨List.mem_of_getElem? h1, ?_⟩
  unfold waitB at h2
  rw [h1] at h2
  cases e : l[i + 1]? with
  | none => rw [e] at h2; simp at h2
  | some z => rw [e] at h2; simp at h2; exact h2.1
def lenT (s : api_State) : Int := w64 (s.fSpan.fTo - s.fSpan.fFrom)
theorem lenT_v {l : List api_State} (h : Gd l) {s : api_State} (hs : s ∈ l) : lenT s = s.fSpan.fTo - s.fSpan.fFrom ∧ 0 < lenT s ∧ lenT s ≤ 1000000000000 := by
  obtain ⟨j, hj⟩ := List.getElem?_of_mem hs
  have := h.2 j s (by have := lt_of_get hj; omega) hj
  unfold lenT
  rw [w64_of (by omega)]
  omega
def ofL (l : List api_State) (a : Int) : List Int := (l.filter (fun s => decide (s.fThread = a))).map lenT
theorem hasB_any (t : api_Trace) (a : Int) : hasB t a = t.fThreads.any (fun x => decide (x.fId = a)) := rfl
theorem contains_p (l : List api_Thread) (a : Int) (h : l.length ≤ 1000000) : slices_ContainsFunc_api_Thread_api_Thread_k1 l a = some (l.any (fun x => decide (x.fId = a))) := by
  have : Ok (slices_IndexFunc_api_Thread_api_Thread_k1 l a) (fun r => decide (0 ≤ r) = l.any (fun x => decide (x.fId = a))) := by
    unfold slices_IndexFunc_api_Thread_api_Thread_k1
    refine ok_bindS (Q := InlR (fun _ => l.any (fun x => decide (x.fId = a)) = false) (fun r : Int => 0 ≤ r ∧ l.any (fun x => decide (x.fId = a)) = true)) (ok_upM l.length (fun n => ∀ (j : Nat) z, j < n → l[j]? = some z → z.fId ≠ a) (by omega) (by intro j z hj; omega) (fun i hI h2 => ?_)) (fun _ hr => ok_some ?_) (fun r hr => ok_some ?_)
    · unfold slices_IndexFunc_api_Thread_api_Thread_k1_L1
      refine ok_ite (fun hi => ?_) (fun hi => ok_inr (show l.any (fun x => decide (x.fId = a)) = false from ?_))
      · obtain ⟨y, hiy, hy⟩ := ok_ixM (xs := l) (i := i) (by omega)
        rw [hiy, Option.bind_some]
        unfold latency_Of_1_k1
        rw [Option.bind_some]
        refine ok_ite (fun e => ok_inr (show 0 ≤ (i : Int) ∧ _ from ⟨by omega, List.any_eq_true.2 ⟨y, List.mem_of_getElem? hy, decide_eq_true e⟩⟩)) (fun e => ?_)
        rw [w64_M (n := l.length) (by omega) (by omega)]
        refine ok_inl ⟨by omega, rfl, fun j z hj hz => ?_⟩
        by_cases e2 : j = i
        · subst e2; rw [hy] at hz; cases hz; exact e
        · exact hI j z (by omega) hz
      · rw [List.any_eq_false]
        intro x hx
        obtain ⟨j, hj⟩ := List.getElem?_of_mem hx
        have := hI j x (by have := lt_of_get hj; omega) hj
        simpa using this
    · rw [hr]; rfl
    · rw [hr.2]; exact decide_eq_true hr.1
  unfold slices_ContainsFunc_api_Thread_api_Thread_k1
  obtain ⟨r, h1, h2⟩ := this
  rw [h1, Option.bind_some, h2]
theorem ofL_take (l : List api_State) (a : Int) {i : Nat} {y : api_State} (hy : l[i]? = some y) : ofL (l.take (i + 1)) a = ofL (l.take i) a ++ (if y.fThread = a then [lenT y] else []) := by
  unfold ofL
  rw [List.take_add_one, hy]
  simp only [Option.toList_some, List.filter_append, List.map_append, List.filter_cons, List.filter_nil]
  by_cases g : y.fThread = a <;> simp [g]
theorem ofL_len (l : List api_State) (a : Int) : (ofL l a).length ≤ l.length := by
  unfold ofL; rw [List.length_map]; exact List.length_filter_le _ _
theorem of_loop (w : List api_State) (a : Int) (h : w.length ≤ 1000000) : loop (latency_Of_L1 a w) ([], 0) = some (ofL w a) := by
  have : Ok (loop (latency_Of_L1 a w) ([], 0)) (fun r => r = ofL w a) := by
    refine ok_up2M w.length (fun x n => x = ofL (w.take n) a) (by omega) (by simp [ofL]) (fun x i hI h2 => ?_)
    have hxl : x.length ≤ i := by rw [hI]; have := ofL_len (w.take i) a; rw [List.length_take] at this; omega
    unfold latency_Of_L1
    dsimp only
    refine ok_ite (fun hi => ?_) (fun hi => ok_inr (by rw [hI, List.take_of_length_le (by omega)]))
    obtain ⟨y, hiy, hy⟩ := ok_ixM (xs := w) (i := i) (by omega)
    refine ok_bind (Q := fun r => r = ofL (w.take (i + 1)) a) ?_ (fun r hr => ?_)
    · rw [hiy, Option.bind_some, ofL_take w a hy]
      refine ok_ite (fun e => ?_) (fun e => ok_some (by rw [hI, if_neg e, List.append_nil]))
      unfold latency_length
      rw [Option.bind_some, room_ok (by simp; omega) (by simp; omega)]
      exact ok_some (by rw [hI, if_pos e]; rfl)
    · rw [w64_M (n := w.length) (by omega) (by omega)]
      exact ok_inl ⟨by omega, rfl, hr⟩
  obtain ⟨r, h1, h2⟩ := this
  rw [h1, h2]
theorem Of_k2_eq (t : api_Trace) (a : Int) : latency_Of_k2 t a = latency_Of t a := by
  unfold latency_Of_k2 latency_Of
  have : ∀ r3, latency_Of_k2_L1 a r3 = latency_Of_L1 a r3 := fun _ => rfl
  simp only [this]
theorem Of_p (t : api_Trace) (a : Int) (e : trace_Check t = some 0) (hs : t.fStates.length ≤ 300) (ht : t.fThreads.length ≤ 1000000) : latency_Of t a = some (if hasB t a = true then (ofL (waitsL t.fStates) a, 0) else ([], 5)) := by
  unfold latency_Of
  rw [e, Option.bind_some, contains_p _ _ ht, Option.bind_some]
  simp only [decide_true, Bool.not_true, cond_false]
  rw [← hasB_any]
  cases hasB t a with
  | false => rfl
  | true =>
    have := waitsN_len t.fStates t.fStates.length
    simp only [Bool.not_true, cond_false, if_true]
    rw [waits_p t (by omega), Option.bind_some, of_loop _ _ (by unfold waitsL; omega)]
    rfl
theorem Of_err (t : api_Trace) (a : Int) {r : Int} (e : trace_Check t = some r) (h : r ≠ 0) : latency_Of t a = some ([], r) := by
  unfold latency_Of
  rw [e, Option.bind_some]
  simp [h]
theorem all_loop (w : List api_State) (h : w.length ≤ 1000000) : loop (latency_All_L1 w) ([], 0) = some (w.map lenT) := by
  have : Ok (loop (latency_All_L1 w) ([], 0)) (fun r => r = w.map lenT) := by
    refine ok_up2M w.length (fun x n => x = (w.take n).map lenT) (by omega) (by simp) (fun x i hI h2 => ?_)
    have hxl : x.length ≤ i := by rw [hI, List.length_map, List.length_take]; omega
    unfold latency_All_L1
    dsimp only
    refine ok_ite (fun hi => ?_) (fun hi => ok_inr (by rw [hI, List.take_of_length_le (by omega)]))
    obtain ⟨y, hiy, hy⟩ := ok_ixM (xs := w) (i := i) (by omega)
    rw [hiy, Option.bind_some]
    unfold latency_length
    rw [Option.bind_some, room_ok (by simp; omega) (by simp; omega)]
    simp only [cond_true]
    rw [w64_M (n := w.length) (by omega) (by omega)]
    exact ok_inl ⟨by omega, rfl, by rw [hI, List.take_add_one, hy]; simp [lenT]⟩
  obtain ⟨r, h1, h2⟩ := this
  rw [h1, h2]
def allL (l : List api_State) : List Int := sortI ((waitsL l).map lenT)
theorem allL_len (l : List api_State) : (allL l).length = (waitsL l).length := by
  unfold allL; rw [(sortI_perm _).length_eq, List.length_map]
theorem All_p (t : api_Trace) (e : trace_Check t = some 0) (hs : t.fStates.length ≤ 300) : latency_All t = some (allL t.fStates, 0) := by
  have := waitsN_len t.fStates t.fStates.length
  unfold latency_All
  rw [e, Option.bind_some]
  simp only [decide_true, Bool.not_true, cond_false]
  rw [waits_p t (by omega), Option.bind_some, all_loop _ (by unfold waitsL; omega), Option.bind_some]
  unfold slices_Sort_int_int_k1
  have hl : sortN ((waitsL t.fStates).map lenT) = true := decide_eq_true (by rw [List.length_map]; unfold waitsL; omega)
  rw [hl]
  rfl
theorem All_err (t : api_Trace) {r : Int} (e : trace_Check t = some r) (h : r ≠ 0) : latency_All t = some ([], r) := by
  unfold latency_All
  rw [e, Option.bind_some]
  simp [h]
theorem awake49 : tracebooklaw49_awake = some true := by kernel_rfl
theorem siz49 {t : api_Trace} (h : okr_api_Trace t) : Siz t := by
  have e : reachBytes = 140737488351232 := by decide
  unfold okr_api_Trace okL okr_api_Thread okr_api_Slice okr_api_Sample okr_api_Step okr_api_Block okr_str okL at h
  rw [e] at h
  obtain ⟨_, _, h1, h2, h3, h4, h5, h6, h7, h8⟩ := h
  refine ⟨by omega, by omega, by omega, by omega, by omega, by omega, by omega, by omega, fun x hx => ?_, fun x hx => ?_, fun x hx => ?_, fun x hx => ?_, fun x hx => ?_⟩
  · have := (h1.2 x hx).2.1; unfold okN; omega
  · have := (h2.2 x hx).2.2.2.1; unfold okN; omega
  · have := (h5.2 x hx).2.2.2; exact ⟨by omega, fun y hy => by have := this.2 y hy; unfold okN; omega⟩
  · have := (h6.2 x hx).1; unfold okN; omega
  · have := (h7.2 x hx).2.2.2.2.2.1; exact ⟨by omega, fun y hy => by have := this.2 y hy; unfold okN; omega⟩
theorem small_ok {t : api_Trace} (h : okr_api_Trace t) : Ok (tracebooklaw49_small t) (fun b => b = true → t.fThreads.length ≤ 1000000 ∧ t.fStates.length ≤ 300) := by
  have e : reachBytes = 140737488351232 := by decide
  unfold okr_api_Trace okL at h
  rw [e] at h
  obtain ⟨_, _, h1, h2, h3, h4, h5, h6, h7, h8⟩ := h
  have g2 := h2.1; have g3 := h3.1; have g4 := h4.1; have g5 := h5.1; have g6 := h6.1; have g7 := h7.1; have g8 := h8.1
  unfold tracebooklaw49_small
  refine ok_bind (Q := fun b => b = true → t.fThreads.length ≤ 1000000 ∧ t.fStates.length ≤ 300) ?_ (fun b hb => ok_some hb)
  refine ok_ite (fun hth => ok_some (fun hb => ?_)) (fun _ => ok_some (by simp))
  have hb := of_decide_eq_true hb
  clear h2 h3 h4 h5 h6 h7 h8 h1
  generalize t.fSlices.length = a at *
  generalize t.fStates.length = b at *
  generalize t.fFlows.length = c at *
  generalize t.fSamples.length = d at *
  generalize t.fSteps.length = f at *
  generalize t.fBlocks.length = g at *
  generalize t.fLost.length = k at *
  rw [w64_of (n := (a : Int) + b) (by omega), w64_of (n := (a : Int) + b + c) (by omega), w64_of (n := (a : Int) + b + c + d) (by omega), w64_of (n := (a : Int) + b + c + d + f) (by omega), w64_of (n := (a : Int) + b + c + d + f + g) (by omega), w64_of (n := (a : Int) + b + c + d + f + g + k) (by omega)] at hb
  exact ⟨by omega, by omega⟩
def sumL : List Int → Int
  | [] => 0
  | x :: l => x + sumL l
theorem sumL_append (a b : List Int) : sumL (a ++ b) = sumL a + sumL b := by
  induction a with
  | nil => simp [sumL]
  | cons x a ih => simp only [List.cons_append, sumL, ih]; omega
theorem sumL_pos {l : List Int} (h : ∀ x ∈ l, 0 ≤ x) : 0 ≤ sumL l := by
  induction l with
  | nil => simp [sumL]
  | cons x l ih =>
    have := h x (by simp)
    have := ih (fun y hy => h y (by simp [hy]))
    simp only [sumL]; omega
theorem sumL_top {l : List Int} {m : Int} (h : ∀ x ∈ l, x ≤ m) : sumL l ≤ l.length * m := by
  induction l with
  | nil => simp [sumL]
  | cons x l ih =>
    have h1 := h x (by simp)
    have h2 := ih (fun y hy => h y (by simp [hy]))
    simp only [sumL, List.length_cons]
    have : ((l.length + 1 : Nat) : Int) * m = l.length * m + m := by rw [Int.natCast_add, Int.add_mul]; simp
    omega
theorem sumL_sub {a b : List Int} (hs : a.Sublist b) (h : ∀ x ∈ b, 0 ≤ x) : sumL a ≤ sumL b := by
  induction hs with
  | slnil => simp
  | cons x _ ih =>
    have := h x (by simp)
    have := ih (fun y hy => h y (by simp [hy]))
    simp only [sumL]; omega
  | cons_cons x _ ih =>
    have := ih (fun y hy => h y (by simp [hy]))
    simp only [sumL]; omega
theorem waits_sub (l : List api_State) : ∀ n, (waitsN l n).Sublist ((l.take n).filter (fun s => decide (s.fState = 0)))
  | 0 => by simp [waitsN]
  | n + 1 => by
    have ih := waits_sub l n
    simp only [waitsN]
    rw [List.take_add_one, List.filter_append]
    refine ih.append ?_
    unfold waitO
    by_cases e : waitB l n = true
    · rw [if_pos e]
      cases hs : l[n]? with
      | none => simp
      | some x =>
        have : x.fState = 0 := by
          unfold waitB at e
          rw [hs] at e
          cases e2 : l[n + 1]? with
          | none => rw [e2] at e; simp at e
          | some z => rw [e2] at e; simp at e; exact e.1
        simp [this]
    · rw [if_neg e]; simp
def totL (l : List api_State) (a b : Int) : Int := sumL ((l.filter (fun s => decide (s.fThread = a) && decide (s.fState = b))).map lenT)
theorem ofL_val {l : List api_State} (hg : Gd l) (a : Int) : ∀ x ∈ ofL (waitsL l) a, 0 < x ∧ x ≤ 1000000000000 := by
  intro x hx
  obtain ⟨s, hs, rfl⟩ := List.mem_map.1 hx
  have := lenT_v hg (waits_st (List.mem_filter.1 hs).1).1
  omega
theorem ofL_sub (l : List api_State) (a : Int) : (ofL (waitsL l) a).Sublist ((l.filter (fun s => decide (s.fThread = a) && decide (s.fState = 0))).map lenT) := by
  unfold ofL
  refine List.Sublist.map _ ?_
  have h := (waits_sub l l.length).filter (fun s => decide (s.fThread = a))
  rw [List.take_length, List.filter_filter] at h
  exact h
theorem flat_one {α β : Type} [DecidableEq β] (k : α → β) (s : α) (f : β → List α) : ∀ ids : List β, ids.Nodup → k s ∈ ids → (ids.flatMap (fun a => (if k s = a then [s] else []) ++ f a)).Perm (s :: ids.flatMap f)
  | [], _, h => by simp at h
  | b :: ids, hn, hm => by
    have hn' := List.nodup_cons.1 hn
    simp only [List.flatMap_cons]
    by_cases e : k s = b
    · have rest : ids.flatMap (fun a => (if k s = a then [s] else []) ++ f a) = ids.flatMap f := by
        have : ∀ a ∈ ids, (if k s = a then [s] else []) ++ f a = f a := by
          intro a ha
          have : k s ≠ a := fun h => hn'.1 (by rw [← e, h]; exact ha)
          simp [this]
        clear hn hn' hm
        induction ids with
        | nil => rfl
        | cons c ids ih => simp only [List.flatMap_cons]; rw [this c (by simp), ih (fun a ha => this a (by simp [ha]))]
      rw [rest, if_pos e]
      simp
    · have hm' : k s ∈ ids := by
        rcases List.mem_cons.1 hm with h | h
        · exact absurd h e
        · exact h
      have ih := flat_one k s f ids hn'.2 hm'
      rw [if_neg e, List.nil_append]
      exact (ih.append_left (f b)).trans List.perm_middle
theorem flat_perm {α β : Type} [DecidableEq β] (k : α → β) (ids : List β) (hn : ids.Nodup) : ∀ w : List α, (∀ s ∈ w, k s ∈ ids) → (ids.flatMap (fun a => w.filter (fun s => decide (k s = a)))).Perm w
  | [], _ => by
    have : ids.flatMap (fun a => ([] : List α).filter (fun s => decide (k s = a))) = [] := by
      induction ids with
      | nil => rfl
      | cons c ids ih => simp
    rw [this]
  | s :: w, h => by
    have ih := flat_perm k ids hn w (fun z hz => h z (by simp [hz]))
    have e : (fun a => (s :: w).filter (fun z => decide (k z = a))) = (fun a => (if k s = a then [s] else []) ++ w.filter (fun z => decide (k z = a))) := by
      funext a
      by_cases g : k s = a <;> simp [List.filter_cons, g]
    rw [e]
    exact (flat_one k s _ ids hn (h s (by simp))).trans (ih.cons s)
theorem count_p49 (l : List Int) (v : Int) (h : l.length ≤ 1000000) : tracebooklaw49_count l v = some (l.count v : Int) := by
  have : Ok (tracebooklaw49_count l v) (fun r => r = (l.count v : Int)) := by
    unfold tracebooklaw49_count
    refine ok_bind (Q := fun r => r = (l.count v : Int)) (ok_up2M l.length (fun x n => x = ((l.take n).count v : Int)) (by omega) (by simp) (fun x i hI h2 => ?_)) (fun r hr => ok_some hr)
    unfold tracebooklaw49_count_L1
    dsimp only
    refine ok_ite (fun hi => ?_) (fun hi => ok_inr (by rw [hI, List.take_of_length_le (by omega)]))
    obtain ⟨y, hiy, hy⟩ := ok_ixM (xs := l) (i := i) (by omega)
    refine ok_bind (Q := fun r => r = ((l.take (i + 1)).count v : Int)) ?_ (fun r hr => ?_)
    · rw [hiy, Option.bind_some]
      have hle : (l.take i).count v ≤ i := by
        have := List.count_le_length (a := v) (l := l.take i)
        rw [List.length_take] at this; omega
      have step : (l.take (i + 1)).count v = (l.take i).count v + (if y = v then 1 else 0) := by
        rw [List.take_add_one, hy]
        simp only [Option.toList_some, List.count_append, List.count_cons, List.count_nil]
        by_cases g : y = v <;> simp [g]
      refine ok_ite (fun e => ok_some ?_) (fun e => ok_some ?_)
      · rw [step, if_pos e, hI, w64_of (by omega)]; omega
      · rw [step, if_neg e, hI]; rfl
    · rw [w64_M (n := l.length) (by omega) (by omega)]
      exact ok_inl ⟨by omega, rfl, hr⟩
  obtain ⟨r, h1, h2⟩ := this
  rw [h1, h2]
def eachN (t : api_Trace) (n : Nat) : List Int := (t.fThreads.take n).flatMap (fun x => ofL (waitsL t.fStates) x.fId)
theorem eachN_len (t : api_Trace) (hs : t.fStates.length ≤ 300) : ∀ n, (eachN t n).length ≤ 300 * n
  | 0 => by simp [eachN]
  | n + 1 => by
    have ih := eachN_len t hs n
    unfold eachN at ih ⊢
    rw [List.take_add_one]
    cases e : t.fThreads[n]? with
    | none => simp only [Option.toList_none, List.append_nil]; omega
    | some y =>
      simp only [Option.toList_some, List.flatMap_append, List.length_append, List.flatMap_cons, List.flatMap_nil, List.append_nil]
      have h1 := ofL_len (waitsL t.fStates) y.fId
      have h2 := waitsN_len t.fStates t.fStates.length
      unfold waitsL at *
      omega
theorem each_perm (t : api_Trace) (fx : Fx t) : (eachN t t.fThreads.length).Perm ((waitsL t.fStates).map lenT) := by
  unfold eachN ofL
  rw [List.take_length]
  have h := (flat_perm (fun s : api_State => s.fThread) (t.fThreads.map (·.fId)) fx.nd (waitsL t.fStates) (fun s hs => fx.mem s (waits_st hs).1)).map lenT
  rw [List.map_flatMap, List.flatMap_map] at h
  exact h
theorem allL_eq_len (t : api_Trace) (fx : Fx t) : (eachN t t.fThreads.length).length = (allL t.fStates).length := by
  rw [(each_perm t fx).length_eq, allL_len, List.length_map]
theorem latencyAll_holds (t : api_Trace) (h : okr_api_Trace t) : tracebooklaw49_LatencyAll t = some true := by
  have hz := siz49 h
  unfold tracebooklaw49_LatencyAll
  rw [awake49]
  obtain ⟨b, hb1, hb2⟩ := small_ok h
  rw [hb1, Option.bind_some]
  cases b with
  | false => rfl
  | true =>
    obtain ⟨ht, hs⟩ := hb2 rfl
    simp only [Bool.not_true, cond_false]
    obtain ⟨r, hr, _⟩ := trace_Check_ok t hz ht
    by_cases e : r = 0
    · subst e
      have fx := trace_Fx t hz ht hr
      rw [All_p t hr hs, Option.bind_some, hr, Option.bind_some]
      simp only [decide_true, Bool.not_true, cond_false]
      have l2 : loop (tracebooklaw49_LatencyAll_L2 t) ([], 0) = some (.inl (eachN t t.fThreads.length)) := by
        have : Ok (loop (tracebooklaw49_LatencyAll_L2 t) ([], 0)) (fun q => q = .inl (eachN t t.fThreads.length)) := by
          refine ok_up2M t.fThreads.length (fun x n => x = eachN t n) (by omega) (by simp [eachN]) (fun x i hI h2 => ?_)
          unfold tracebooklaw49_LatencyAll_L2
          dsimp only
          refine ok_ite (fun hi => ?_) (fun hi => ok_inr (by rw [hI, show i = t.fThreads.length by omega]))
          obtain ⟨y, hiy, hy⟩ := ok_ixM (xs := t.fThreads) (i := i) (by omega)
          have hb : hasB t y.fId = true := by
            rw [hasB_any]
            exact List.any_eq_true.2 ⟨y, List.mem_of_getElem? hy, decide_eq_true rfl⟩
          rw [hiy, Option.bind_some, Of_k2_eq, Of_p t _ hr hs ht, if_pos hb, Option.bind_some]
          have h1 := ofL_len (waitsL t.fStates) y.fId
          have h3 := waitsN_len t.fStates t.fStates.length
          have h4 := eachN_len t hs i
          have h5 : (waitsL t.fStates).length ≤ 300 := by unfold waitsL; omega
          simp only [decide_true, Bool.not_true, cond_false]
          rw [hI, room_ok (by omega) (by omega)]
          simp only [cond_true]
          rw [w64_M (n := t.fThreads.length) (by omega) (by omega)]
          refine ok_inl ⟨by omega, rfl, ?_⟩
          simp only [eachN]
          rw [List.take_add_one, hy]
          simp
        obtain ⟨q, h1, h2⟩ := this
        rw [h1, h2]
      rw [l2]
      simp only [Option.bind_some, allL_eq_len t fx, decide_true, Bool.not_true, cond_false]
      have hal : (allL t.fStates).length ≤ 300 := by
        rw [allL_len]
        have h3 := waitsN_len t.fStates t.fStates.length
        unfold waitsL; omega
      have hpm : (allL t.fStates).Perm (eachN t t.fThreads.length) := (sortI_perm _).trans (each_perm t fx).symm
      have l1 : loop (tracebooklaw49_LatencyAll_L1 (allL t.fStates, 0) (eachN t t.fThreads.length)) 0 = some (.inl ()) := by
        have srt : (allL t.fStates).Pairwise (· ≤ ·) := sortI_sorted _
        have hel : (eachN t t.fThreads.length).length ≤ 300 := by rw [allL_eq_len t fx]; exact hal
        generalize allL t.fStates = w at *
        generalize eachN t t.fThreads.length = v at *
        have : Ok (loop (tracebooklaw49_LatencyAll_L1 (w, 0) v) 0) (fun q => q = .inl ()) := by
          refine ok_upM w.length (fun _ => True) (by omega) trivial (fun i _ h2 => ?_)
          unfold tracebooklaw49_LatencyAll_L1
          dsimp only
          refine ok_ite (fun hi => ?_) (fun hi => ok_inr rfl)
          obtain ⟨y, hiy, hy⟩ := ok_ixM (xs := w) (i := i) (by omega)
          have hc : (w.count y : Int) = (v.count y : Int) := by rw [hpm.count_eq]
          refine ok_bind (Q := fun v => v = false) ?_ (fun v hv => ?_)
          · refine ok_ite (fun h0 => ?_) (fun h0 => ?_)
            · have hi1 : w64 ((i : Int) - 1) = ((i - 1 : Nat) : Int) := by rw [w64_of (by omega)]; omega
              obtain ⟨x, hix, hx⟩ := ok_ixM (xs := w) (i := i - 1) (by omega)
              have hxy : x ≤ y := by
                have h3 := List.pairwise_iff_getElem.1 srt (i - 1) i (by omega) (by omega) (by omega)
                rw [List.getElem?_eq_getElem (by omega)] at hx hy
                have e1 := Option.some.inj hx
                have e2 := Option.some.inj hy
                rw [← e1, ← e2]; exact h3
              rw [hi1, hix, Option.bind_some, hiy, Option.bind_some]
              refine ok_ite (fun g => by omega) (fun _ => ?_)
              simp only [Option.bind_some]
              rw [count_p49 _ _ (by omega), Option.bind_some, count_p49 _ _ (by omega), Option.bind_some]
              exact ok_some (by rw [hc]; simp)
            · rw [hiy]
              simp only [Option.bind_some]
              rw [count_p49 _ _ (by omega), Option.bind_some, count_p49 _ _ (by omega), Option.bind_some]
              exact ok_some (by rw [hc]; simp)
          · rw [hv, cond_false, w64_M (n := w.length) (by omega) (by omega)]
            exact ok_inl ⟨by omega, rfl, trivial⟩
        obtain ⟨q, h1, h2⟩ := this
        rw [h1, h2]
      rw [l1]
      rfl
    · rw [All_err t hr e, Option.bind_some, hr, Option.bind_some]
      simp [e]
end Go.VM
