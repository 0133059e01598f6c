/- The law holds: plain mathematics on what the functions compute. -/
import Derived.Test.YtdpnoiebfagmfaaL48B
namespace Go.VM
def firstL {α ρ : Type} (g : Nat → α → Option ρ) : List α → Nat → Option ρ
  | [], _ => none
  | y :: ys, i => match g i y with
    | some r => some r
    | none => firstL g ys (i + 1)
theorem firstL_find {α ρ : Type} (p : α → Bool) (f : α → ρ) : ∀ (xs : List α) (i : Nat), firstL (fun _ y => if p y = true then some (f y) else none) xs i = (xs.find? p).map f
  | [], _ => rfl
  | y :: ys, i => by
    simp only [firstL, List.find?_cons]
    cases h : p y with
    | true => simp
    | false => simp [firstL_find p f ys]
theorem firstL_none {α ρ : Type} {g : Nat → α → Option ρ} : ∀ {xs : List α} {i : Nat}, firstL g xs i = none ↔ ∀ j y, xs[j]? = some y → g (i + j) y = none
  | [], i => by simp [firstL]
  | y :: ys, i => by
    simp only [firstL]
    cases h : g i y with
    | some r =>
      simp only [reduceCtorEq, false_iff]
      intro hx
      have := hx 0 y rfl
      rw [Nat.add_zero, h] at this; simp at this
    | none =>
      rw [firstL_none (xs := ys) (i := i + 1)]
      constructor
      · intro hx j y' hj
        cases j with
        | zero => simp at hj; subst hj; exact h
        | succ j => have := hx j y' (by simpa using hj); rwa [show i + 1 + j = i + (j + 1) from by omega] at this
      · intro hx j y' hj
        have := hx (j + 1) y' (by simpa using hj)
        rwa [show i + (j + 1) = i + 1 + j from by omega] at this
theorem firstL_some {α ρ : Type} {g : Nat → α → Option ρ} {r : ρ} : ∀ {xs : List α} {i : Nat}, firstL g xs i = some r → ∃ j y, xs[j]? = some y ∧ g (i + j) y = some r ∧ ∀ k z, k < j → xs[k]? = some z → g (i + k) z = none
  | [], i, h => by simp [firstL] at h
  | y :: ys, i, h => by
    simp only [firstL] at h
    cases hg : g i y with
    | some r' =>
      rw [hg] at h; cases h
      exact ⟨0, y, rfl, hg, fun k z hk => by omega⟩
    | none =>
      rw [hg] at h
      obtain ⟨j, z, h1, h2, h3⟩ := firstL_some h
      refine ⟨j + 1, z, by simpa using h1, by rw [← h2]; congr 1; omega, fun k u hk hu => ?_⟩
      cases k with
      | zero => simp at hu; subst hu; exact hg
      | succ k => have := h3 k u (by omega) (by simpa using hu); rwa [show i + 1 + k = i + (k + 1) from by omega] at this
theorem forL_first {α ρ : Type} (g : Nat → α → Option ρ) (e : ρ) : ∀ (xs : List α) (i : Nat), forL (fun i y (_ : Unit) => match g i y with | some r => Sum.inr r | none => .inl ()) (fun _ => e) xs i () = (firstL g xs i).getD e
  | [], _ => rfl
  | y :: ys, i => by
    simp only [forL, firstL]
    cases g i y with
    | some r => rfl
    | none => exact forL_first g e ys (i + 1)
theorem loop_first {α ρ : Type} {step : Int → Option (Int ⊕ ρ)} (xs : List α) (g : Nat → α → Option ρ) (e : ρ) (hl : xs.length < manyRounds)
    (h1 : ∀ (i : Nat) y, xs[i]? = some y → step (i : Int) = some (match g i y with | some r => .inr r | none => .inl ((i : Int) + 1))) (h2 : step (xs.length : Int) = some (.inr e)) : loop step 0 = some ((firstL g xs 0).getD e) := by
  have := loop_for0 (σ := Unit) (step := step) xs (fun i _ => (i : Int)) (fun i y _ => match g i y with | some r => .inr r | none => .inl ()) (fun _ => e) hl
    (fun i y s hy => by
      rw [h1 i y hy]
      cases g i y <;> simp)
    (fun _ => h2) ()
  rw [show (0 : Int) = ((0 : Nat) : Int) from rfl, this, forL_first]
theorem lt_of_get {α : Type} {xs : List α} {i : Nat} {y : α} (h : xs[i]? = some y) : i < xs.length := (List.getElem?_eq_some_iff.1 h).1
theorem w64_nat {i : Nat} (h : i < 9223372036854775807) : w64 ((i : Int) + 1) = (i : Int) + 1 := w64_of (by omega)
end Go.VM
namespace Go.VM
def Ok {α : Type} (x : Option α) (P : α → Prop) : Prop := ∃ r, x = some r ∧ P r
def Yes {α : Type} : α → Prop := fun _ => True
def InlR {α β : Type} (A : α → Prop) (B : β → Prop) : α ⊕ β → Prop
  | .inl a => A a
  | .inr b => B b
theorem ok_some {α : Type} {P : α → Prop} {r : α} (h : P r) : Ok (some r) P := ⟨r, rfl, h⟩
theorem ok_inl {α β : Type} {A : α → Prop} {B : β → Prop} {a : α} (h : A a) : Ok (some (.inl a)) (InlR A B) := ⟨_, rfl, h⟩
theorem ok_inr {α β : Type} {A : α → Prop} {B : β → Prop} {b : β} (h : B b) : Ok (some (.inr b)) (InlR A B) := ⟨_, rfl, h⟩
theorem ok_bind {α β : Type} {x : Option α} {f : α → Option β} {Q : α → Prop} {P : β → Prop} (hx : Ok x Q) (hf : ∀ r, Q r → Ok (f r) P) : Ok (x.bind f) P := by
  obtain ⟨r, h1, h2⟩ := hx
  subst h1; exact hf r h2
theorem ok_bindS {α β γ : Type} {x : Option (α ⊕ γ)} {f : α ⊕ γ → Option β} {Q : α ⊕ γ → Prop} {P : β → Prop} (hx : Ok x Q) (hf : ∀ r, Q (.inl r) → Ok (f (.inl r)) P) (hg : ∀ r, Q (.inr r) → Ok (f (.inr r)) P) : Ok (x.bind f) P :=
  ok_bind hx (fun r => match r with | .inl a => hf a | .inr b => hg b)
theorem ok_bindE {α β : Type} {x : Option α} {f : α → Option β} {P : β → Prop} (hx : Ok x Yes) (hf : ∀ r, x = some r → Ok (f r) P) : Ok (x.bind f) P := by
  obtain ⟨r, h1, h2⟩ := hx
  subst h1; exact hf r rfl
theorem ok_cond {α : Type} {b : Bool} {x y : Option α} {P : α → Prop} (h1 : b = true → Ok x P) (h2 : b = false → Ok y P) : Ok (cond b x y) P := by
  cases b
  · exact h2 rfl
  · exact h1 rfl
theorem Ok.mono {α : Type} {x : Option α} {P Q : α → Prop} (h : Ok x P) (hq : ∀ r, P r → Q r) : Ok x Q := by
  obtain ⟨r, h1, h2⟩ := h; exact ⟨r, h1, hq r h2⟩
theorem Ok.yes {α : Type} {x : Option α} {P : α → Prop} (h : Ok x P) : Ok x Yes := h.mono (fun _ _ => trivial)
theorem Ok.of_eq {α : Type} {x : Option α} {P : α → Prop} {r : α} (h : Ok x P) (e : x = some r) : P r := by
  obtain ⟨r', h1, h2⟩ := h; rw [e] at h1; cases h1; exact h2
theorem ok_idx {α : Type} {xs : List α} {i : Int} (h1 : 0 ≤ i) (h2 : i < xs.length) : Ok (idx xs i) (fun y => xs[i.toNat]? = some y) := by
  obtain ⟨n, rfl⟩ := Int.eq_ofNat_of_zero_le h1
  have h3 : n < xs.length := by omega
  rw [idx_nat]
  exact ⟨xs[n], by simp [h3], by simp [h3]⟩
theorem ok_loop {S ρ : Type} {step : S → Option (S ⊕ ρ)} (Inv : S → Prop) (m : S → Nat) {Post : ρ → Prop}
    (h : ∀ s, Inv s → Ok (step s) (InlR (fun s' => Inv s' ∧ m s' < m s) Post)) {s : S} (hs : Inv s) (hm : m s < manyRounds) : Ok (loop step s) Post := by
  refine loop_inv Inv m Post (fun s hs => ?_) hs hm
  obtain ⟨r, h1, h2⟩ := h s hs
  cases r with
  | inl a => exact Or.inl ⟨a, h1, h2⟩
  | inr b => exact Or.inr ⟨b, h1, h2⟩
theorem ok_up {ρ : Type} {step : Int → Option (Int ⊕ ρ)} (n : Nat) {Post : ρ → Prop} (hn : n ≤ 9223372036854775807)
    (h : ∀ i : Int, 0 ≤ i → i ≤ n → Ok (step i) (InlR (fun a => i < n ∧ a = i + 1) Post)) : Ok (loop step 0) Post := by
  refine ok_loop (fun i : Int => 0 ≤ i ∧ i ≤ (n : Int)) (fun i : Int => ((n : Int) - i).toNat) (fun i hi => (h i hi.1 hi.2).mono ?_) ⟨by omega, by omega⟩ (by simp [manyRounds]; omega)
  rintro (a | b) hr
  · obtain ⟨h1, rfl⟩ : i < n ∧ a = i + 1 := hr
    exact ⟨⟨by omega, by omega⟩, by omega⟩
  · exact hr
theorem ok_yes {α : Type} {r : α} : Ok (some r) Yes := ⟨r, rfl, trivial⟩
theorem ok_inlY {α β : Type} {B : β → Prop} {a : α} : Ok (some (.inl a)) (InlR Yes B) := ⟨_, rfl, trivial⟩
theorem ok_inrY {α β : Type} {A : α → Prop} {b : β} : Ok (some (.inr b)) (InlR A Yes) := ⟨_, rfl, trivial⟩
theorem ok_next {ρ : Type} {i : Int} {n : Nat} {P : ρ → Prop} (h1 : 0 ≤ i) (h2 : i < (n : Int)) (h3 : n ≤ 9223372036854775807) : Ok (some (.inl (w64 (i + 1)))) (InlR (fun a : Int => i < (n : Int) ∧ a = i + 1) P) :=
  ok_inl ⟨h2, w64_of (by omega)⟩
theorem ok_ite {α : Type} {p : Prop} [Decidable p] {x y : Option α} {P : α → Prop} (h1 : p → Ok x P) (h2 : ¬p → Ok y P) : Ok (cond (decide p) x y) P :=
  ok_cond (fun h => h1 (of_decide_eq_true h)) (fun h => h2 (of_decide_eq_false h))
theorem ok_nite {α : Type} {p : Prop} [Decidable p] {x y : Option α} {P : α → Prop} (h1 : ¬p → Ok x P) (h2 : p → Ok y P) : Ok (cond (!decide p) x y) P := by
  by_cases h : p
  · simpa [h] using h2 h
  · simpa [h] using h1 h
theorem ok_not {α : Type} {b : Bool} {x y : Option α} {P : α → Prop} (h1 : b = false → Ok x P) (h2 : b = true → Ok y P) : Ok (cond (!b) x y) P := by
  cases b
  · exact h1 rfl
  · exact h2 rfl
theorem yes_of {α : Type} {x : Option α} {P : α → Prop} (h : Ok x P) : Ok x Yes := h.yes
abbrev Tot {α : Type} (x : Option α) : Prop := Ok x Yes
theorem ok_up2 {σ ρ : Type} {step : σ × Int → Option ((σ × Int) ⊕ ρ)} (n : Nat) (Inv : σ → Int → Prop) {Post : ρ → Prop} (hn : n ≤ 9223372036854775807) {s0 : σ} (h0 : Inv s0 0)
    (h : ∀ (s : σ) (i : Int), Inv s i → 0 ≤ i → i ≤ n → Ok (step (s, i)) (InlR (fun a => i < n ∧ a.2 = i + 1 ∧ Inv a.1 (i + 1)) Post)) : Ok (loop step (s0, 0)) Post := by
  refine ok_loop (fun s : σ × Int => Inv s.1 s.2 ∧ 0 ≤ s.2 ∧ s.2 ≤ (n : Int)) (fun s : σ × Int => ((n : Int) - s.2).toNat) (fun s hi => (h s.1 s.2 hi.1 hi.2.1 hi.2.2).mono ?_) ⟨h0, by simp, by simp⟩ (by simp [manyRounds]; omega)
  rintro (⟨a, j⟩ | b) hr
  · obtain ⟨h1, h2, h3⟩ : s.2 < n ∧ j = s.2 + 1 ∧ Inv a (s.2 + 1) := hr
    subst h2
    exact ⟨⟨h3, by simp; omega, by simp; omega⟩, by simp; omega⟩
  · exact hr
theorem ok_next2 {σ ρ : Type} {s : σ} {i : Int} {n : Nat} {Inv : σ → Int → Prop} {P : ρ → Prop} (hI : Inv s (i + 1)) (h1 : 0 ≤ i) (h2 : i < (n : Int)) (h3 : n ≤ 9223372036854775807) : Ok (some (.inl (s, w64 (i + 1)))) (InlR (fun a : σ × Int => i < (n : Int) ∧ a.2 = i + 1 ∧ Inv a.1 (i + 1)) P) :=
  ok_inl ⟨h2, w64_of (by omega), hI⟩
theorem ok_upI {ρ : Type} {step : Int → Option (Int ⊕ ρ)} (n : Nat) (Inv : Int → Prop) {Post : ρ → Prop} (hn : n ≤ 9223372036854775807) (h0 : Inv 0)
    (h : ∀ i : Int, Inv i → 0 ≤ i → i ≤ n → Ok (step i) (InlR (fun a => i < n ∧ a = i + 1 ∧ Inv (i + 1)) Post)) : Ok (loop step 0) Post := by
  refine ok_loop (fun i : Int => Inv i ∧ 0 ≤ i ∧ i ≤ (n : Int)) (fun i : Int => ((n : Int) - i).toNat) (fun i hi => (h i hi.1 hi.2.1 hi.2.2).mono ?_) ⟨h0, by omega, by omega⟩ (by simp [manyRounds]; omega)
  rintro (a | b) hr
  · obtain ⟨h1, rfl, h3⟩ : i < n ∧ a = i + 1 ∧ Inv (i + 1) := hr
    exact ⟨⟨h3, by omega, by omega⟩, by omega⟩
  · exact hr
theorem ok_nextI {ρ : Type} {i : Int} {n : Nat} {Inv : Int → Prop} {P : ρ → Prop} (hI : Inv (i + 1)) (h1 : 0 ≤ i) (h2 : i < (n : Int)) (h3 : n ≤ 9223372036854775807) : Ok (some (.inl (w64 (i + 1)))) (InlR (fun a : Int => i < (n : Int) ∧ a = i + 1 ∧ Inv (i + 1)) P) :=
  ok_inl ⟨h2, w64_of (by omega), hI⟩
theorem room_ok {b n : Nat} (h1 : n * b ≤ 140737488355328) (h2 : n ≤ 9223372036854775807) : room b n = true := by
  simp only [room, Bool.and_eq_true]
  exact ⟨Nat.ble_eq_true_of_le h1, Nat.ble_eq_true_of_le h2⟩
end Go.VM
namespace Go.VM
theorem spans_Valid_eq (s : api_Span) : spans_Valid s = some (decide (0 ≤ s.fFrom ∧ s.fFrom < s.fTo ∧ s.fTo ≤ 1000000000000)) := by
  unfold spans_Valid
  by_cases h1 : 0 ≤ s.fFrom <;> by_cases h2 : s.fFrom < s.fTo <;> by_cases h3 : s.fTo ≤ 1000000000000 <;> simp [h1, h2, h3]
def zeroState : api_State := { fThread := 0, fState := 0, fSpan := { fFrom := 0, fTo := 0 }, fCpu := 0, fOn := 0, fBy := 0 }
def atB (th t : Int) (s : api_State) : Bool := decide (s.fThread = th ∧ s.fSpan.fFrom ≤ t ∧ t < s.fSpan.fTo)
def stAt (l : List api_State) (th t : Int) : api_State × Bool := match l.find? (atB th t) with
  | some s => (s, true)
  | none => (zeroState, false)
theorem state_At_eq (l : List api_State) (th t : Int) (hl : l.length ≤ 9223372036854775807) : state_At l th t = some (stAt l th t) := by
  unfold state_At
  rw [loop_first l (fun _ y => if atB th t y = true then some (.inr (y, true)) else none) (.inl ()) (by simp [manyRounds]; omega) ?_ ?_, firstL_find]
  · unfold stAt
    cases l.find? (atB th t) <;> simp [zeroState]
  · intro i y hy
    have hi := lt_of_get hy
    have h1 : (i : Int) < l.length := by omega
    simp only [state_At_L1, h1, decide_true, cond_true, idx_nat, hy, Option.bind_some]
    have hw := w64_nat (i := i) (by omega)
    by_cases a : y.fThread = th <;> by_cases b : y.fSpan.fFrom ≤ t <;> by_cases c : t < y.fSpan.fTo <;> simp [a, b, c, atB, hw]
  · simp [state_At_L1]
end Go.VM
namespace Go.VM
theorem intern_letter_ok (c : Int) : Ok (intern_letter c) Yes := by
  unfold intern_letter strings_IndexByte internal_stringslite_IndexByte
  repeat' (first | with_reducible exact ok_yes | with_reducible exact ok_inrY | with_reducible exact ok_inlY | (with_reducible refine ok_next ?_ ?_ ?_ <;> (first | assumption | omega | (rw [w64_of] <;> omega))) | (with_reducible refine ok_nite (fun _ => ?_) (fun _ => ?_)) | (with_reducible refine ok_ite (fun _ => ?_) (fun _ => ?_)) | (with_reducible refine ok_not (fun _ => ?_) (fun _ => ?_)) | (with_reducible refine ok_cond (fun _ => ?_) (fun _ => ?_)) | with_reducible refine ok_bind (ok_idx (by (first | assumption | omega | (rw [w64_of] <;> omega))) (by (first | assumption | omega | (rw [w64_of] <;> omega)))) (fun _ _ => ?_) | (with_reducible refine ok_bind (Q := Yes) ?_ (fun _ _ => ?_)) | dsimp only)
theorem intern_Name_ok (s : ByteArray) (h : s.size ≤ 9223372036854775807) : Ok (intern_Name s) Yes := by
  unfold intern_Name
  refine ok_bind (Q := Yes) ?_ (fun v _ => ?_)
  · repeat' (first | with_reducible exact ok_yes | with_reducible exact ok_inrY | with_reducible exact ok_inlY | (with_reducible refine ok_next ?_ ?_ ?_ <;> (first | assumption | omega | (rw [w64_of] <;> omega))) | (with_reducible refine ok_nite (fun _ => ?_) (fun _ => ?_)) | (with_reducible refine ok_ite (fun _ => ?_) (fun _ => ?_)) | (with_reducible refine ok_not (fun _ => ?_) (fun _ => ?_)) | (with_reducible refine ok_cond (fun _ => ?_) (fun _ => ?_)) | with_reducible refine ok_bind (ok_idx (by (first | assumption | omega | (rw [w64_of] <;> omega))) (by (first | assumption | omega | (rw [w64_of] <;> omega)))) (fun _ _ => ?_) | (with_reducible refine ok_bind (Q := Yes) ?_ (fun _ _ => ?_)) | dsimp only)
  refine ok_cond (fun _ => ok_some trivial) (fun _ => ?_)
  have e : s.data.toList.length = s.size := by rw [Array.length_toList]; rfl
  refine ok_bindS (Q := Yes) (ok_up s.size h fun i h1 h2 => ?_) (fun _ _ => ?_) (fun _ _ => ?_)
  · unfold intern_Name_L1
    repeat' (first | with_reducible exact ok_yes | with_reducible exact ok_inrY | with_reducible exact ok_inlY | (with_reducible refine ok_next ?_ ?_ ?_ <;> (first | assumption | omega | (rw [w64_of] <;> omega))) | (with_reducible refine ok_nite (fun _ => ?_) (fun _ => ?_)) | (with_reducible refine ok_ite (fun _ => ?_) (fun _ => ?_)) | (with_reducible refine ok_not (fun _ => ?_) (fun _ => ?_)) | (with_reducible refine ok_cond (fun _ => ?_) (fun _ => ?_)) | with_reducible refine ok_bind (ok_idx (by (first | assumption | omega | (rw [w64_of] <;> omega))) (by (first | assumption | omega | (rw [w64_of] <;> omega)))) (fun _ _ => ?_) | (with_reducible refine Ok.yes (ok_idx ?_ (by rw [e]; (first | assumption | omega | (rw [w64_of] <;> omega)))) <;> (first | assumption | omega | (rw [w64_of] <;> omega))) | (with_reducible refine Ok.yes (intern_letter_ok _) <;> (first | assumption | omega | (rw [w64_of] <;> omega))) | (with_reducible refine ok_bind (Q := Yes) ?_ (fun _ _ => ?_)) | dsimp only)
  · repeat' (first | with_reducible exact ok_yes | with_reducible exact ok_inrY | with_reducible exact ok_inlY | (with_reducible refine ok_next ?_ ?_ ?_ <;> (first | assumption | omega | (rw [w64_of] <;> omega))) | (with_reducible refine ok_nite (fun _ => ?_) (fun _ => ?_)) | (with_reducible refine ok_ite (fun _ => ?_) (fun _ => ?_)) | (with_reducible refine ok_not (fun _ => ?_) (fun _ => ?_)) | (with_reducible refine ok_cond (fun _ => ?_) (fun _ => ?_)) | with_reducible refine ok_bind (ok_idx (by (first | assumption | omega | (rw [w64_of] <;> omega))) (by (first | assumption | omega | (rw [w64_of] <;> omega)))) (fun _ _ => ?_) | (with_reducible refine ok_bind (Q := Yes) ?_ (fun _ _ => ?_)) | dsimp only)
  · repeat' (first | with_reducible exact ok_yes | with_reducible exact ok_inrY | with_reducible exact ok_inlY | (with_reducible refine ok_next ?_ ?_ ?_ <;> (first | assumption | omega | (rw [w64_of] <;> omega))) | (with_reducible refine ok_nite (fun _ => ?_) (fun _ => ?_)) | (with_reducible refine ok_ite (fun _ => ?_) (fun _ => ?_)) | (with_reducible refine ok_not (fun _ => ?_) (fun _ => ?_)) | (with_reducible refine ok_cond (fun _ => ?_) (fun _ => ?_)) | with_reducible refine ok_bind (ok_idx (by (first | assumption | omega | (rw [w64_of] <;> omega))) (by (first | assumption | omega | (rw [w64_of] <;> omega)))) (fun _ _ => ?_) | (with_reducible refine ok_bind (Q := Yes) ?_ (fun _ _ => ?_)) | dsimp only)
abbrev okN (s : ByteArray) : Prop := s.size ≤ 9223372036854775807
theorem producer_Thread_ok (t : api_Thread) (h : okN t.fName) : Ok (producer_Thread t) Yes := by
  unfold producer_Thread
  repeat' (first | with_reducible exact ok_yes | with_reducible exact ok_inrY | with_reducible exact ok_inlY | (with_reducible refine ok_next ?_ ?_ ?_ <;> (first | assumption | omega | (rw [w64_of] <;> omega))) | (with_reducible refine ok_nite (fun _ => ?_) (fun _ => ?_)) | (with_reducible refine ok_ite (fun _ => ?_) (fun _ => ?_)) | (with_reducible refine ok_not (fun _ => ?_) (fun _ => ?_)) | (with_reducible refine ok_cond (fun _ => ?_) (fun _ => ?_)) | with_reducible refine ok_bind (ok_idx (by (first | assumption | omega | (rw [w64_of] <;> omega))) (by (first | assumption | omega | (rw [w64_of] <;> omega)))) (fun _ _ => ?_) | (with_reducible refine Ok.yes (intern_Name_ok _ h) <;> (first | assumption | omega | (rw [w64_of] <;> omega))) | (with_reducible refine ok_bind (Q := Yes) ?_ (fun _ _ => ?_)) | dsimp only)
theorem spans_Valid_ok (s : api_Span) : Ok (spans_Valid s) Yes := by
  unfold spans_Valid
  repeat' (first | with_reducible exact ok_yes | with_reducible exact ok_inrY | with_reducible exact ok_inlY | (with_reducible refine ok_next ?_ ?_ ?_ <;> (first | assumption | omega | (rw [w64_of] <;> omega))) | (with_reducible refine ok_nite (fun _ => ?_) (fun _ => ?_)) | (with_reducible refine ok_ite (fun _ => ?_) (fun _ => ?_)) | (with_reducible refine ok_not (fun _ => ?_) (fun _ => ?_)) | (with_reducible refine ok_cond (fun _ => ?_) (fun _ => ?_)) | with_reducible refine ok_bind (ok_idx (by (first | assumption | omega | (rw [w64_of] <;> omega))) (by (first | assumption | omega | (rw [w64_of] <;> omega)))) (fun _ _ => ?_) | (with_reducible refine ok_bind (Q := Yes) ?_ (fun _ _ => ?_)) | dsimp only)
theorem cmp_Compare_int_ok (a b : Int) : Ok (cmp_Compare_int a b) Yes := by
  unfold cmp_Compare_int cmp_isNaN_int
  repeat' (first | with_reducible exact ok_yes | with_reducible exact ok_inrY | with_reducible exact ok_inlY | (with_reducible refine ok_next ?_ ?_ ?_ <;> (first | assumption | omega | (rw [w64_of] <;> omega))) | (with_reducible refine ok_nite (fun _ => ?_) (fun _ => ?_)) | (with_reducible refine ok_ite (fun _ => ?_) (fun _ => ?_)) | (with_reducible refine ok_not (fun _ => ?_) (fun _ => ?_)) | (with_reducible refine ok_cond (fun _ => ?_) (fun _ => ?_)) | with_reducible refine ok_bind (ok_idx (by (first | assumption | omega | (rw [w64_of] <;> omega))) (by (first | assumption | omega | (rw [w64_of] <;> omega)))) (fun _ _ => ?_) | (with_reducible refine ok_bind (Q := Yes) ?_ (fun _ _ => ?_)) | dsimp only)
theorem cmp_Or_int_ok (l : List Int) (h : l.length ≤ 9223372036854775807) : Ok (cmp_Or_int l) Yes := by
  unfold cmp_Or_int
  refine ok_bindS (Q := Yes) (ok_up l.length (by omega) fun i h1 h2 => ?_) (fun _ _ => ?_) (fun _ _ => ?_)
  · unfold cmp_Or_int_L1
    repeat' (first | with_reducible exact ok_yes | with_reducible exact ok_inrY | with_reducible exact ok_inlY | (with_reducible refine ok_next ?_ ?_ ?_ <;> (first | assumption | omega | (rw [w64_of] <;> omega))) | (with_reducible refine ok_nite (fun _ => ?_) (fun _ => ?_)) | (with_reducible refine ok_ite (fun _ => ?_) (fun _ => ?_)) | (with_reducible refine ok_not (fun _ => ?_) (fun _ => ?_)) | (with_reducible refine ok_cond (fun _ => ?_) (fun _ => ?_)) | with_reducible refine ok_bind (ok_idx (by (first | assumption | omega | (rw [w64_of] <;> omega))) (by (first | assumption | omega | (rw [w64_of] <;> omega)))) (fun _ _ => ?_) | (with_reducible refine ok_bind (Q := Yes) ?_ (fun _ _ => ?_)) | dsimp only)
  · repeat' (first | with_reducible exact ok_yes | with_reducible exact ok_inrY | with_reducible exact ok_inlY | (with_reducible refine ok_next ?_ ?_ ?_ <;> (first | assumption | omega | (rw [w64_of] <;> omega))) | (with_reducible refine ok_nite (fun _ => ?_) (fun _ => ?_)) | (with_reducible refine ok_ite (fun _ => ?_) (fun _ => ?_)) | (with_reducible refine ok_not (fun _ => ?_) (fun _ => ?_)) | (with_reducible refine ok_cond (fun _ => ?_) (fun _ => ?_)) | with_reducible refine ok_bind (ok_idx (by (first | assumption | omega | (rw [w64_of] <;> omega))) (by (first | assumption | omega | (rw [w64_of] <;> omega)))) (fun _ _ => ?_) | (with_reducible refine ok_bind (Q := Yes) ?_ (fun _ _ => ?_)) | dsimp only)
  · repeat' (first | with_reducible exact ok_yes | with_reducible exact ok_inrY | with_reducible exact ok_inlY | (with_reducible refine ok_next ?_ ?_ ?_ <;> (first | assumption | omega | (rw [w64_of] <;> omega))) | (with_reducible refine ok_nite (fun _ => ?_) (fun _ => ?_)) | (with_reducible refine ok_ite (fun _ => ?_) (fun _ => ?_)) | (with_reducible refine ok_not (fun _ => ?_) (fun _ => ?_)) | (with_reducible refine ok_cond (fun _ => ?_) (fun _ => ?_)) | with_reducible refine ok_bind (ok_idx (by (first | assumption | omega | (rw [w64_of] <;> omega))) (by (first | assumption | omega | (rw [w64_of] <;> omega)))) (fun _ _ => ?_) | (with_reducible refine ok_bind (Q := Yes) ?_ (fun _ _ => ?_)) | dsimp only)
theorem slice_compare_ok (a b : api_Slice) : Ok (slice_compare a b) Yes := by
  unfold slice_compare
  repeat' (first | with_reducible exact ok_yes | with_reducible exact ok_inrY | with_reducible exact ok_inlY | (with_reducible refine ok_next ?_ ?_ ?_ <;> (first | assumption | omega | (rw [w64_of] <;> omega))) | (with_reducible refine ok_nite (fun _ => ?_) (fun _ => ?_)) | (with_reducible refine ok_ite (fun _ => ?_) (fun _ => ?_)) | (with_reducible refine ok_not (fun _ => ?_) (fun _ => ?_)) | (with_reducible refine ok_cond (fun _ => ?_) (fun _ => ?_)) | with_reducible refine ok_bind (ok_idx (by (first | assumption | omega | (rw [w64_of] <;> omega))) (by (first | assumption | omega | (rw [w64_of] <;> omega)))) (fun _ _ => ?_) | (with_reducible refine Ok.yes (cmp_Compare_int_ok _ _) <;> (first | assumption | omega | (rw [w64_of] <;> omega))) | (with_reducible refine Ok.yes (cmp_Or_int_ok _ (Nat.le_of_ble_eq_true rfl)) <;> (first | assumption | omega | (rw [w64_of] <;> omega))) | (with_reducible refine ok_bind (Q := Yes) ?_ (fun _ _ => ?_)) | dsimp only)
theorem intern_Frames_ok (l : List ByteArray) (h : l.length ≤ 9223372036854775807) (hx : ∀ x ∈ l, okN x) : Ok (intern_Frames l) Yes := by
  unfold intern_Frames
  refine ok_ite (fun _ => ok_yes) (fun _ => ?_)
  refine ok_bindS (Q := Yes) (ok_up l.length (by omega) fun i h1 h2 => ?_) (fun _ _ => ?_) (fun _ _ => ?_)
  · unfold intern_Frames_L1
    repeat' (first | with_reducible exact ok_yes | with_reducible exact ok_inrY | with_reducible exact ok_inlY | (with_reducible refine ok_next ?_ ?_ ?_ <;> (first | assumption | omega | (rw [w64_of] <;> omega))) | (with_reducible refine ok_nite (fun _ => ?_) (fun _ => ?_)) | (with_reducible refine ok_ite (fun _ => ?_) (fun _ => ?_)) | (with_reducible refine ok_not (fun _ => ?_) (fun _ => ?_)) | (with_reducible refine ok_cond (fun _ => ?_) (fun _ => ?_)) | with_reducible refine ok_bind (ok_idx (by (first | assumption | omega | (rw [w64_of] <;> omega))) (by (first | assumption | omega | (rw [w64_of] <;> omega)))) (fun _ _ => ?_) | (with_reducible refine Ok.yes (intern_Name_ok _ (hx _ (List.mem_of_getElem? (by assumption)))) <;> (first | assumption | omega | (rw [w64_of] <;> omega))) | (with_reducible refine ok_bind (Q := Yes) ?_ (fun _ _ => ?_)) | dsimp only)
  · repeat' (first | with_reducible exact ok_yes | with_reducible exact ok_inrY | with_reducible exact ok_inlY | (with_reducible refine ok_next ?_ ?_ ?_ <;> (first | assumption | omega | (rw [w64_of] <;> omega))) | (with_reducible refine ok_nite (fun _ => ?_) (fun _ => ?_)) | (with_reducible refine ok_ite (fun _ => ?_) (fun _ => ?_)) | (with_reducible refine ok_not (fun _ => ?_) (fun _ => ?_)) | (with_reducible refine ok_cond (fun _ => ?_) (fun _ => ?_)) | with_reducible refine ok_bind (ok_idx (by (first | assumption | omega | (rw [w64_of] <;> omega))) (by (first | assumption | omega | (rw [w64_of] <;> omega)))) (fun _ _ => ?_) | (with_reducible refine Ok.yes (intern_Name_ok _ (hx _ (List.mem_of_getElem? (by assumption)))) <;> (first | assumption | omega | (rw [w64_of] <;> omega))) | (with_reducible refine ok_bind (Q := Yes) ?_ (fun _ _ => ?_)) | dsimp only)
  · repeat' (first | with_reducible exact ok_yes | with_reducible exact ok_inrY | with_reducible exact ok_inlY | (with_reducible refine ok_next ?_ ?_ ?_ <;> (first | assumption | omega | (rw [w64_of] <;> omega))) | (with_reducible refine ok_nite (fun _ => ?_) (fun _ => ?_)) | (with_reducible refine ok_ite (fun _ => ?_) (fun _ => ?_)) | (with_reducible refine ok_not (fun _ => ?_) (fun _ => ?_)) | (with_reducible refine ok_cond (fun _ => ?_) (fun _ => ?_)) | with_reducible refine ok_bind (ok_idx (by (first | assumption | omega | (rw [w64_of] <;> omega))) (by (first | assumption | omega | (rw [w64_of] <;> omega)))) (fun _ _ => ?_) | (with_reducible refine Ok.yes (intern_Name_ok _ (hx _ (List.mem_of_getElem? (by assumption)))) <;> (first | assumption | omega | (rw [w64_of] <;> omega))) | (with_reducible refine ok_bind (Q := Yes) ?_ (fun _ _ => ?_)) | dsimp only)
structure Siz (t : api_Trace) : Prop where
  th : t.fThreads.length ≤ 9223372036854775807
  sl : t.fSlices.length ≤ 9223372036854775807
  st : t.fStates.length ≤ 9223372036854775807
  fl : t.fFlows.length ≤ 9223372036854775807
  sa : t.fSamples.length ≤ 9223372036854775807
  sp : t.fSteps.length ≤ 9223372036854775807
  bl : t.fBlocks.length ≤ 9223372036854775807
  lo : t.fLost.length ≤ 9223372036854775807
  nTh : ∀ x ∈ t.fThreads, okN x.fName
  nSl : ∀ x ∈ t.fSlices, okN x.fName
  nSa : ∀ x ∈ t.fSamples, x.fStack.length ≤ 9223372036854775807 ∧ ∀ y ∈ x.fStack, okN y
  nSp : ∀ x ∈ t.fSteps, okN x.fName
  nBl : ∀ x ∈ t.fBlocks, x.fStack.length ≤ 9223372036854775807 ∧ ∀ y ∈ x.fStack, okN y
theorem trace_threads_ok (t : api_Trace) (hl : t.fThreads.length ≤ 9223372036854775807) (hn : ∀ x ∈ t.fThreads, okN x.fName) : Ok (trace_threads t) (InlR (fun r => r.2 ≠ 0) Yes) := by
  unfold trace_threads
  refine ok_ite (fun _ => ok_inl (by simp)) (fun _ => ?_)
  refine ok_bindS (Q := InlR Yes (InlR (fun r => r.2 ≠ 0) Yes)) (ok_up2 t.fThreads.length (fun _ _ => True) hl trivial (fun a i _ h1 h2 => ?_)) (fun _ _ => ?_) (fun r hr => ?_)
  · unfold trace_threads_L1
    dsimp only
    refine ok_ite (fun h => ?_) (fun _ => ok_inr trivial)
    refine ok_bind (ok_idx h1 h) (fun y hy => ?_)
    refine ok_bind (producer_Thread_ok _ (hn _ (List.mem_of_getElem? hy))) (fun r _ => ?_)
    refine ok_nite (fun h0 => ok_inr h0) (fun _ => ?_)
    refine ok_cond (fun _ => ok_inr (by simp [InlR])) (fun _ => ?_)
    exact ok_next2 (Inv := fun _ _ => True) trivial h1 h hl
  · exact ok_inr trivial
  · exact ⟨_, rfl, hr⟩
theorem trace_tables_1_ok (a) : Tot (trace_tables_1 a) := ⟨_, rfl, trivial⟩
theorem trace_known_api_Slice_k1_ok (e : Int) (m) (l : List api_Slice) (h : l.length ≤ 9223372036854775807) : Tot (trace_known_api_Slice_k1 e m l) := by
  unfold trace_known_api_Slice_k1
  refine ok_nite (fun _ => ok_yes) (fun _ => ?_)
  refine ok_bindS (Q := Yes) (ok_up l.length (by omega) fun i h1 h2 => ?_) (fun _ _ => ?_) (fun _ _ => ?_)
  · unfold trace_known_api_Slice_k1_L1
    repeat' (first | with_reducible exact ok_yes | with_reducible exact ok_inrY | with_reducible exact ok_inlY | (with_reducible refine ok_next ?_ ?_ ?_ <;> (first | assumption | omega | (rw [w64_of] <;> omega))) | (with_reducible refine ok_nite (fun _ => ?_) (fun _ => ?_)) | (with_reducible refine ok_ite (fun _ => ?_) (fun _ => ?_)) | (with_reducible refine ok_not (fun _ => ?_) (fun _ => ?_)) | (with_reducible refine ok_cond (fun _ => ?_) (fun _ => ?_)) | with_reducible refine ok_bind (ok_idx (by (first | assumption | omega | (rw [w64_of] <;> omega))) (by (first | assumption | omega | (rw [w64_of] <;> omega)))) (fun _ _ => ?_) | (with_reducible refine Ok.yes (trace_tables_1_ok _) <;> (first | assumption | omega | (rw [w64_of] <;> omega))) | (with_reducible refine ok_bind (Q := Yes) ?_ (fun _ _ => ?_)) | dsimp only)
  · repeat' (first | with_reducible exact ok_yes | with_reducible exact ok_inrY | with_reducible exact ok_inlY | (with_reducible refine ok_next ?_ ?_ ?_ <;> (first | assumption | omega | (rw [w64_of] <;> omega))) | (with_reducible refine ok_nite (fun _ => ?_) (fun _ => ?_)) | (with_reducible refine ok_ite (fun _ => ?_) (fun _ => ?_)) | (with_reducible refine ok_not (fun _ => ?_) (fun _ => ?_)) | (with_reducible refine ok_cond (fun _ => ?_) (fun _ => ?_)) | with_reducible refine ok_bind (ok_idx (by (first | assumption | omega | (rw [w64_of] <;> omega))) (by (first | assumption | omega | (rw [w64_of] <;> omega)))) (fun _ _ => ?_) | (with_reducible refine Ok.yes (trace_tables_1_ok _) <;> (first | assumption | omega | (rw [w64_of] <;> omega))) | (with_reducible refine ok_bind (Q := Yes) ?_ (fun _ _ => ?_)) | dsimp only)
  · repeat' (first | with_reducible exact ok_yes | with_reducible exact ok_inrY | with_reducible exact ok_inlY | (with_reducible refine ok_next ?_ ?_ ?_ <;> (first | assumption | omega | (rw [w64_of] <;> omega))) | (with_reducible refine ok_nite (fun _ => ?_) (fun _ => ?_)) | (with_reducible refine ok_ite (fun _ => ?_) (fun _ => ?_)) | (with_reducible refine ok_not (fun _ => ?_) (fun _ => ?_)) | (with_reducible refine ok_cond (fun _ => ?_) (fun _ => ?_)) | with_reducible refine ok_bind (ok_idx (by (first | assumption | omega | (rw [w64_of] <;> omega))) (by (first | assumption | omega | (rw [w64_of] <;> omega)))) (fun _ _ => ?_) | (with_reducible refine Ok.yes (trace_tables_1_ok _) <;> (first | assumption | omega | (rw [w64_of] <;> omega))) | (with_reducible refine ok_bind (Q := Yes) ?_ (fun _ _ => ?_)) | dsimp only)
theorem trace_tables_2_ok (a) : Tot (trace_tables_2 a) := ⟨_, rfl, trivial⟩
theorem trace_known_api_Flow_k1_ok (e : Int) (m) (l : List api_Flow) (h : l.length ≤ 9223372036854775807) : Tot (trace_known_api_Flow_k1 e m l) := by
  unfold trace_known_api_Flow_k1
  refine ok_nite (fun _ => ok_yes) (fun _ => ?_)
  refine ok_bindS (Q := Yes) (ok_up l.length (by omega) fun i h1 h2 => ?_) (fun _ _ => ?_) (fun _ _ => ?_)
  · unfold trace_known_api_Flow_k1_L1
    repeat' (first | with_reducible exact ok_yes | with_reducible exact ok_inrY | with_reducible exact ok_inlY | (with_reducible refine ok_next ?_ ?_ ?_ <;> (first | assumption | omega | (rw [w64_of] <;> omega))) | (with_reducible refine ok_nite (fun _ => ?_) (fun _ => ?_)) | (with_reducible refine ok_ite (fun _ => ?_) (fun _ => ?_)) | (with_reducible refine ok_not (fun _ => ?_) (fun _ => ?_)) | (with_reducible refine ok_cond (fun _ => ?_) (fun _ => ?_)) | with_reducible refine ok_bind (ok_idx (by (first | assumption | omega | (rw [w64_of] <;> omega))) (by (first | assumption | omega | (rw [w64_of] <;> omega)))) (fun _ _ => ?_) | (with_reducible refine Ok.yes (trace_tables_2_ok _) <;> (first | assumption | omega | (rw [w64_of] <;> omega))) | (with_reducible refine ok_bind (Q := Yes) ?_ (fun _ _ => ?_)) | dsimp only)
  · repeat' (first | with_reducible exact ok_yes | with_reducible exact ok_inrY | with_reducible exact ok_inlY | (with_reducible refine ok_next ?_ ?_ ?_ <;> (first | assumption | omega | (rw [w64_of] <;> omega))) | (with_reducible refine ok_nite (fun _ => ?_) (fun _ => ?_)) | (with_reducible refine ok_ite (fun _ => ?_) (fun _ => ?_)) | (with_reducible refine ok_not (fun _ => ?_) (fun _ => ?_)) | (with_reducible refine ok_cond (fun _ => ?_) (fun _ => ?_)) | with_reducible refine ok_bind (ok_idx (by (first | assumption | omega | (rw [w64_of] <;> omega))) (by (first | assumption | omega | (rw [w64_of] <;> omega)))) (fun _ _ => ?_) | (with_reducible refine Ok.yes (trace_tables_2_ok _) <;> (first | assumption | omega | (rw [w64_of] <;> omega))) | (with_reducible refine ok_bind (Q := Yes) ?_ (fun _ _ => ?_)) | dsimp only)
  · repeat' (first | with_reducible exact ok_yes | with_reducible exact ok_inrY | with_reducible exact ok_inlY | (with_reducible refine ok_next ?_ ?_ ?_ <;> (first | assumption | omega | (rw [w64_of] <;> omega))) | (with_reducible refine ok_nite (fun _ => ?_) (fun _ => ?_)) | (with_reducible refine ok_ite (fun _ => ?_) (fun _ => ?_)) | (with_reducible refine ok_not (fun _ => ?_) (fun _ => ?_)) | (with_reducible refine ok_cond (fun _ => ?_) (fun _ => ?_)) | with_reducible refine ok_bind (ok_idx (by (first | assumption | omega | (rw [w64_of] <;> omega))) (by (first | assumption | omega | (rw [w64_of] <;> omega)))) (fun _ _ => ?_) | (with_reducible refine Ok.yes (trace_tables_2_ok _) <;> (first | assumption | omega | (rw [w64_of] <;> omega))) | (with_reducible refine ok_bind (Q := Yes) ?_ (fun _ _ => ?_)) | dsimp only)
theorem trace_tables_3_ok (a) : Tot (trace_tables_3 a) := ⟨_, rfl, trivial⟩
theorem trace_known_api_Flow_k2_ok (e : Int) (m) (l : List api_Flow) (h : l.length ≤ 9223372036854775807) : Tot (trace_known_api_Flow_k2 e m l) := by
  unfold trace_known_api_Flow_k2
  refine ok_nite (fun _ => ok_yes) (fun _ => ?_)
  refine ok_bindS (Q := Yes) (ok_up l.length (by omega) fun i h1 h2 => ?_) (fun _ _ => ?_) (fun _ _ => ?_)
  · unfold trace_known_api_Flow_k2_L1
    repeat' (first | with_reducible exact ok_yes | with_reducible exact ok_inrY | with_reducible exact ok_inlY | (with_reducible refine ok_next ?_ ?_ ?_ <;> (first | assumption | omega | (rw [w64_of] <;> omega))) | (with_reducible refine ok_nite (fun _ => ?_) (fun _ => ?_)) | (with_reducible refine ok_ite (fun _ => ?_) (fun _ => ?_)) | (with_reducible refine ok_not (fun _ => ?_) (fun _ => ?_)) | (with_reducible refine ok_cond (fun _ => ?_) (fun _ => ?_)) | with_reducible refine ok_bind (ok_idx (by (first | assumption | omega | (rw [w64_of] <;> omega))) (by (first | assumption | omega | (rw [w64_of] <;> omega)))) (fun _ _ => ?_) | (with_reducible refine Ok.yes (trace_tables_3_ok _) <;> (first | assumption | omega | (rw [w64_of] <;> omega))) | (with_reducible refine ok_bind (Q := Yes) ?_ (fun _ _ => ?_)) | dsimp only)
  · repeat' (first | with_reducible exact ok_yes | with_reducible exact ok_inrY | with_reducible exact ok_inlY | (with_reducible refine ok_next ?_ ?_ ?_ <;> (first | assumption | omega | (rw [w64_of] <;> omega))) | (with_reducible refine ok_nite (fun _ => ?_) (fun _ => ?_)) | (with_reducible refine ok_ite (fun _ => ?_) (fun _ => ?_)) | (with_reducible refine ok_not (fun _ => ?_) (fun _ => ?_)) | (with_reducible refine ok_cond (fun _ => ?_) (fun _ => ?_)) | with_reducible refine ok_bind (ok_idx (by (first | assumption | omega | (rw [w64_of] <;> omega))) (by (first | assumption | omega | (rw [w64_of] <;> omega)))) (fun _ _ => ?_) | (with_reducible refine Ok.yes (trace_tables_3_ok _) <;> (first | assumption | omega | (rw [w64_of] <;> omega))) | (with_reducible refine ok_bind (Q := Yes) ?_ (fun _ _ => ?_)) | dsimp only)
  · repeat' (first | with_reducible exact ok_yes | with_reducible exact ok_inrY | with_reducible exact ok_inlY | (with_reducible refine ok_next ?_ ?_ ?_ <;> (first | assumption | omega | (rw [w64_of] <;> omega))) | (with_reducible refine ok_nite (fun _ => ?_) (fun _ => ?_)) | (with_reducible refine ok_ite (fun _ => ?_) (fun _ => ?_)) | (with_reducible refine ok_not (fun _ => ?_) (fun _ => ?_)) | (with_reducible refine ok_cond (fun _ => ?_) (fun _ => ?_)) | with_reducible refine ok_bind (ok_idx (by (first | assumption | omega | (rw [w64_of] <;> omega))) (by (first | assumption | omega | (rw [w64_of] <;> omega)))) (fun _ _ => ?_) | (with_reducible refine Ok.yes (trace_tables_3_ok _) <;> (first | assumption | omega | (rw [w64_of] <;> omega))) | (with_reducible refine ok_bind (Q := Yes) ?_ (fun _ _ => ?_)) | dsimp only)
theorem trace_tables_4_ok (a) : Tot (trace_tables_4 a) := ⟨_, rfl, trivial⟩
theorem trace_known_api_Sample_k1_ok (e : Int) (m) (l : List api_Sample) (h : l.length ≤ 9223372036854775807) : Tot (trace_known_api_Sample_k1 e m l) := by
  unfold trace_known_api_Sample_k1
  refine ok_nite (fun _ => ok_yes) (fun _ => ?_)
  refine ok_bindS (Q := Yes) (ok_up l.length (by omega) fun i h1 h2 => ?_) (fun _ _ => ?_) (fun _ _ => ?_)
  · unfold trace_known_api_Sample_k1_L1
    repeat' (first | with_reducible exact ok_yes | with_reducible exact ok_inrY | with_reducible exact ok_inlY | (with_reducible refine ok_next ?_ ?_ ?_ <;> (first | assumption | omega | (rw [w64_of] <;> omega))) | (with_reducible refine ok_nite (fun _ => ?_) (fun _ => ?_)) | (with_reducible refine ok_ite (fun _ => ?_) (fun _ => ?_)) | (with_reducible refine ok_not (fun _ => ?_) (fun _ => ?_)) | (with_reducible refine ok_cond (fun _ => ?_) (fun _ => ?_)) | with_reducible refine ok_bind (ok_idx (by (first | assumption | omega | (rw [w64_of] <;> omega))) (by (first | assumption | omega | (rw [w64_of] <;> omega)))) (fun _ _ => ?_) | (with_reducible refine Ok.yes (trace_tables_4_ok _) <;> (first | assumption | omega | (rw [w64_of] <;> omega))) | (with_reducible refine ok_bind (Q := Yes) ?_ (fun _ _ => ?_)) | dsimp only)
  · repeat' (first | with_reducible exact ok_yes | with_reducible exact ok_inrY | with_reducible exact ok_inlY | (with_reducible refine ok_next ?_ ?_ ?_ <;> (first | assumption | omega | (rw [w64_of] <;> omega))) | (with_reducible refine ok_nite (fun _ => ?_) (fun _ => ?_)) | (with_reducible refine ok_ite (fun _ => ?_) (fun _ => ?_)) | (with_reducible refine ok_not (fun _ => ?_) (fun _ => ?_)) | (with_reducible refine ok_cond (fun _ => ?_) (fun _ => ?_)) | with_reducible refine ok_bind (ok_idx (by (first | assumption | omega | (rw [w64_of] <;> omega))) (by (first | assumption | omega | (rw [w64_of] <;> omega)))) (fun _ _ => ?_) | (with_reducible refine Ok.yes (trace_tables_4_ok _) <;> (first | assumption | omega | (rw [w64_of] <;> omega))) | (with_reducible refine ok_bind (Q := Yes) ?_ (fun _ _ => ?_)) | dsimp only)
  · repeat' (first | with_reducible exact ok_yes | with_reducible exact ok_inrY | with_reducible exact ok_inlY | (with_reducible refine ok_next ?_ ?_ ?_ <;> (first | assumption | omega | (rw [w64_of] <;> omega))) | (with_reducible refine ok_nite (fun _ => ?_) (fun _ => ?_)) | (with_reducible refine ok_ite (fun _ => ?_) (fun _ => ?_)) | (with_reducible refine ok_not (fun _ => ?_) (fun _ => ?_)) | (with_reducible refine ok_cond (fun _ => ?_) (fun _ => ?_)) | with_reducible refine ok_bind (ok_idx (by (first | assumption | omega | (rw [w64_of] <;> omega))) (by (first | assumption | omega | (rw [w64_of] <;> omega)))) (fun _ _ => ?_) | (with_reducible refine Ok.yes (trace_tables_4_ok _) <;> (first | assumption | omega | (rw [w64_of] <;> omega))) | (with_reducible refine ok_bind (Q := Yes) ?_ (fun _ _ => ?_)) | dsimp only)
theorem trace_tables_5_ok (a) : Tot (trace_tables_5 a) := ⟨_, rfl, trivial⟩
theorem trace_known_api_Block_k1_ok (e : Int) (m) (l : List api_Block) (h : l.length ≤ 9223372036854775807) : Tot (trace_known_api_Block_k1 e m l) := by
  unfold trace_known_api_Block_k1
  refine ok_nite (fun _ => ok_yes) (fun _ => ?_)
  refine ok_bindS (Q := Yes) (ok_up l.length (by omega) fun i h1 h2 => ?_) (fun _ _ => ?_) (fun _ _ => ?_)
  · unfold trace_known_api_Block_k1_L1
    repeat' (first | with_reducible exact ok_yes | with_reducible exact ok_inrY | with_reducible exact ok_inlY | (with_reducible refine ok_next ?_ ?_ ?_ <;> (first | assumption | omega | (rw [w64_of] <;> omega))) | (with_reducible refine ok_nite (fun _ => ?_) (fun _ => ?_)) | (with_reducible refine ok_ite (fun _ => ?_) (fun _ => ?_)) | (with_reducible refine ok_not (fun _ => ?_) (fun _ => ?_)) | (with_reducible refine ok_cond (fun _ => ?_) (fun _ => ?_)) | with_reducible refine ok_bind (ok_idx (by (first | assumption | omega | (rw [w64_of] <;> omega))) (by (first | assumption | omega | (rw [w64_of] <;> omega)))) (fun _ _ => ?_) | (with_reducible refine Ok.yes (trace_tables_5_ok _) <;> (first | assumption | omega | (rw [w64_of] <;> omega))) | (with_reducible refine ok_bind (Q := Yes) ?_ (fun _ _ => ?_)) | dsimp only)
  · repeat' (first | with_reducible exact ok_yes | with_reducible exact ok_inrY | with_reducible exact ok_inlY | (with_reducible refine ok_next ?_ ?_ ?_ <;> (first | assumption | omega | (rw [w64_of] <;> omega))) | (with_reducible refine ok_nite (fun _ => ?_) (fun _ => ?_)) | (with_reducible refine ok_ite (fun _ => ?_) (fun _ => ?_)) | (with_reducible refine ok_not (fun _ => ?_) (fun _ => ?_)) | (with_reducible refine ok_cond (fun _ => ?_) (fun _ => ?_)) | with_reducible refine ok_bind (ok_idx (by (first | assumption | omega | (rw [w64_of] <;> omega))) (by (first | assumption | omega | (rw [w64_of] <;> omega)))) (fun _ _ => ?_) | (with_reducible refine Ok.yes (trace_tables_5_ok _) <;> (first | assumption | omega | (rw [w64_of] <;> omega))) | (with_reducible refine ok_bind (Q := Yes) ?_ (fun _ _ => ?_)) | dsimp only)
  · repeat' (first | with_reducible exact ok_yes | with_reducible exact ok_inrY | with_reducible exact ok_inlY | (with_reducible refine ok_next ?_ ?_ ?_ <;> (first | assumption | omega | (rw [w64_of] <;> omega))) | (with_reducible refine ok_nite (fun _ => ?_) (fun _ => ?_)) | (with_reducible refine ok_ite (fun _ => ?_) (fun _ => ?_)) | (with_reducible refine ok_not (fun _ => ?_) (fun _ => ?_)) | (with_reducible refine ok_cond (fun _ => ?_) (fun _ => ?_)) | with_reducible refine ok_bind (ok_idx (by (first | assumption | omega | (rw [w64_of] <;> omega))) (by (first | assumption | omega | (rw [w64_of] <;> omega)))) (fun _ _ => ?_) | (with_reducible refine Ok.yes (trace_tables_5_ok _) <;> (first | assumption | omega | (rw [w64_of] <;> omega))) | (with_reducible refine ok_bind (Q := Yes) ?_ (fun _ _ => ?_)) | dsimp only)
theorem trace_losses_k1_ok (m) (l : List api_Loss) (h : l.length ≤ 9223372036854775807) : Tot (trace_losses_k1 m l) := by
  unfold trace_losses_k1
  refine ok_bindS (Q := Yes) (ok_up l.length (by omega) fun i h1 h2 => ?_) (fun _ _ => ?_) (fun _ _ => ?_)
  · unfold trace_losses_k1_L1
    repeat' (first | with_reducible exact ok_yes | with_reducible exact ok_inrY | with_reducible exact ok_inlY | (with_reducible refine ok_next ?_ ?_ ?_ <;> (first | assumption | omega | (rw [w64_of] <;> omega))) | (with_reducible refine ok_nite (fun _ => ?_) (fun _ => ?_)) | (with_reducible refine ok_ite (fun _ => ?_) (fun _ => ?_)) | (with_reducible refine ok_not (fun _ => ?_) (fun _ => ?_)) | (with_reducible refine ok_cond (fun _ => ?_) (fun _ => ?_)) | with_reducible refine ok_bind (ok_idx (by (first | assumption | omega | (rw [w64_of] <;> omega))) (by (first | assumption | omega | (rw [w64_of] <;> omega)))) (fun _ _ => ?_) | (with_reducible refine Ok.yes (spans_Valid_ok _) <;> (first | assumption | omega | (rw [w64_of] <;> omega))) | (with_reducible refine ok_bind (Q := Yes) ?_ (fun _ _ => ?_)) | dsimp only)
  · repeat' (first | with_reducible exact ok_yes | with_reducible exact ok_inrY | with_reducible exact ok_inlY | (with_reducible refine ok_next ?_ ?_ ?_ <;> (first | assumption | omega | (rw [w64_of] <;> omega))) | (with_reducible refine ok_nite (fun _ => ?_) (fun _ => ?_)) | (with_reducible refine ok_ite (fun _ => ?_) (fun _ => ?_)) | (with_reducible refine ok_not (fun _ => ?_) (fun _ => ?_)) | (with_reducible refine ok_cond (fun _ => ?_) (fun _ => ?_)) | with_reducible refine ok_bind (ok_idx (by (first | assumption | omega | (rw [w64_of] <;> omega))) (by (first | assumption | omega | (rw [w64_of] <;> omega)))) (fun _ _ => ?_) | (with_reducible refine Ok.yes (spans_Valid_ok _) <;> (first | assumption | omega | (rw [w64_of] <;> omega))) | (with_reducible refine ok_bind (Q := Yes) ?_ (fun _ _ => ?_)) | dsimp only)
  · repeat' (first | with_reducible exact ok_yes | with_reducible exact ok_inrY | with_reducible exact ok_inlY | (with_reducible refine ok_next ?_ ?_ ?_ <;> (first | assumption | omega | (rw [w64_of] <;> omega))) | (with_reducible refine ok_nite (fun _ => ?_) (fun _ => ?_)) | (with_reducible refine ok_ite (fun _ => ?_) (fun _ => ?_)) | (with_reducible refine ok_not (fun _ => ?_) (fun _ => ?_)) | (with_reducible refine ok_cond (fun _ => ?_) (fun _ => ?_)) | with_reducible refine ok_bind (ok_idx (by (first | assumption | omega | (rw [w64_of] <;> omega))) (by (first | assumption | omega | (rw [w64_of] <;> omega)))) (fun _ _ => ?_) | (with_reducible refine Ok.yes (spans_Valid_ok _) <;> (first | assumption | omega | (rw [w64_of] <;> omega))) | (with_reducible refine ok_bind (Q := Yes) ?_ (fun _ _ => ?_)) | dsimp only)
theorem flow_bad_ok (a b : Int) : Tot (flow_bad a b) := by
  unfold flow_bad
  repeat' (first | with_reducible exact ok_yes | with_reducible exact ok_inrY | with_reducible exact ok_inlY | (with_reducible refine ok_next ?_ ?_ ?_ <;> (first | assumption | omega | (rw [w64_of] <;> omega))) | (with_reducible refine ok_nite (fun _ => ?_) (fun _ => ?_)) | (with_reducible refine ok_ite (fun _ => ?_) (fun _ => ?_)) | (with_reducible refine ok_not (fun _ => ?_) (fun _ => ?_)) | (with_reducible refine ok_cond (fun _ => ?_) (fun _ => ?_)) | with_reducible refine ok_bind (ok_idx (by (first | assumption | omega | (rw [w64_of] <;> omega))) (by (first | assumption | omega | (rw [w64_of] <;> omega)))) (fun _ _ => ?_) | (with_reducible refine ok_bind (Q := Yes) ?_ (fun _ _ => ?_)) | dsimp only)
theorem sample_good_ok (a) : Tot (sample_good a) := by
  unfold sample_good
  repeat' (first | with_reducible exact ok_yes | with_reducible exact ok_inrY | with_reducible exact ok_inlY | (with_reducible refine ok_next ?_ ?_ ?_ <;> (first | assumption | omega | (rw [w64_of] <;> omega))) | (with_reducible refine ok_nite (fun _ => ?_) (fun _ => ?_)) | (with_reducible refine ok_ite (fun _ => ?_) (fun _ => ?_)) | (with_reducible refine ok_not (fun _ => ?_) (fun _ => ?_)) | (with_reducible refine ok_cond (fun _ => ?_) (fun _ => ?_)) | with_reducible refine ok_bind (ok_idx (by (first | assumption | omega | (rw [w64_of] <;> omega))) (by (first | assumption | omega | (rw [w64_of] <;> omega)))) (fun _ _ => ?_) | (with_reducible refine ok_bind (Q := Yes) ?_ (fun _ _ => ?_)) | dsimp only)
theorem num_In_ok (a) : Tot (num_In a) := by
  unfold num_In
  repeat' (first | with_reducible exact ok_yes | with_reducible exact ok_inrY | with_reducible exact ok_inlY | (with_reducible refine ok_next ?_ ?_ ?_ <;> (first | assumption | omega | (rw [w64_of] <;> omega))) | (with_reducible refine ok_nite (fun _ => ?_) (fun _ => ?_)) | (with_reducible refine ok_ite (fun _ => ?_) (fun _ => ?_)) | (with_reducible refine ok_not (fun _ => ?_) (fun _ => ?_)) | (with_reducible refine ok_cond (fun _ => ?_) (fun _ => ?_)) | with_reducible refine ok_bind (ok_idx (by (first | assumption | omega | (rw [w64_of] <;> omega))) (by (first | assumption | omega | (rw [w64_of] <;> omega)))) (fun _ _ => ?_) | (with_reducible refine ok_bind (Q := Yes) ?_ (fun _ _ => ?_)) | dsimp only)
theorem cmp_Compare_string_ok (a b) : Tot (cmp_Compare_string a b) := by
  unfold cmp_Compare_string cmp_isNaN_string
  repeat' (first | with_reducible exact ok_yes | with_reducible exact ok_inrY | with_reducible exact ok_inlY | (with_reducible refine ok_next ?_ ?_ ?_ <;> (first | assumption | omega | (rw [w64_of] <;> omega))) | (with_reducible refine ok_nite (fun _ => ?_) (fun _ => ?_)) | (with_reducible refine ok_ite (fun _ => ?_) (fun _ => ?_)) | (with_reducible refine ok_not (fun _ => ?_) (fun _ => ?_)) | (with_reducible refine ok_cond (fun _ => ?_) (fun _ => ?_)) | with_reducible refine ok_bind (ok_idx (by (first | assumption | omega | (rw [w64_of] <;> omega))) (by (first | assumption | omega | (rw [w64_of] <;> omega)))) (fun _ _ => ?_) | (with_reducible refine ok_bind (Q := Yes) ?_ (fun _ _ => ?_)) | dsimp only)
theorem counter_order_ok (a b) : Tot (counter_order a b) := by
  unfold counter_order
  repeat' (first | with_reducible exact ok_yes | with_reducible exact ok_inrY | with_reducible exact ok_inlY | (with_reducible refine ok_next ?_ ?_ ?_ <;> (first | assumption | omega | (rw [w64_of] <;> omega))) | (with_reducible refine ok_nite (fun _ => ?_) (fun _ => ?_)) | (with_reducible refine ok_ite (fun _ => ?_) (fun _ => ?_)) | (with_reducible refine ok_not (fun _ => ?_) (fun _ => ?_)) | (with_reducible refine ok_cond (fun _ => ?_) (fun _ => ?_)) | with_reducible refine ok_bind (ok_idx (by (first | assumption | omega | (rw [w64_of] <;> omega))) (by (first | assumption | omega | (rw [w64_of] <;> omega)))) (fun _ _ => ?_) | (with_reducible refine Ok.yes (cmp_Compare_string_ok _ _) <;> (first | assumption | omega | (rw [w64_of] <;> omega))) | (with_reducible refine Ok.yes (cmp_Compare_int_ok _ _) <;> (first | assumption | omega | (rw [w64_of] <;> omega))) | (with_reducible refine Ok.yes (cmp_Or_int_ok _ (Nat.le_of_ble_eq_true rfl)) <;> (first | assumption | omega | (rw [w64_of] <;> omega))) | (with_reducible refine ok_bind (Q := Yes) ?_ (fun _ _ => ?_)) | dsimp only)
theorem flow_Check_ok (l : List api_Flow) (h : l.length ≤ 9223372036854775807) : Tot (flow_Check l) := by
  unfold flow_Check
  refine ok_bindS (Q := Yes) (ok_up l.length (by omega) fun i h1 h2 => ?_) (fun _ _ => ?_) (fun _ _ => ?_)
  · unfold flow_Check_L1
    repeat' (first | with_reducible exact ok_yes | with_reducible exact ok_inrY | with_reducible exact ok_inlY | (with_reducible refine ok_next ?_ ?_ ?_ <;> (first | assumption | omega | (rw [w64_of] <;> omega))) | (with_reducible refine ok_nite (fun _ => ?_) (fun _ => ?_)) | (with_reducible refine ok_ite (fun _ => ?_) (fun _ => ?_)) | (with_reducible refine ok_not (fun _ => ?_) (fun _ => ?_)) | (with_reducible refine ok_cond (fun _ => ?_) (fun _ => ?_)) | with_reducible refine ok_bind (ok_idx (by (first | assumption | omega | (rw [w64_of] <;> omega))) (by (first | assumption | omega | (rw [w64_of] <;> omega)))) (fun _ _ => ?_) | (with_reducible refine Ok.yes (flow_bad_ok _ _) <;> (first | assumption | omega | (rw [w64_of] <;> omega))) | (with_reducible refine ok_bind (Q := Yes) ?_ (fun _ _ => ?_)) | dsimp only)
  · repeat' (first | with_reducible exact ok_yes | with_reducible exact ok_inrY | with_reducible exact ok_inlY | (with_reducible refine ok_next ?_ ?_ ?_ <;> (first | assumption | omega | (rw [w64_of] <;> omega))) | (with_reducible refine ok_nite (fun _ => ?_) (fun _ => ?_)) | (with_reducible refine ok_ite (fun _ => ?_) (fun _ => ?_)) | (with_reducible refine ok_not (fun _ => ?_) (fun _ => ?_)) | (with_reducible refine ok_cond (fun _ => ?_) (fun _ => ?_)) | with_reducible refine ok_bind (ok_idx (by (first | assumption | omega | (rw [w64_of] <;> omega))) (by (first | assumption | omega | (rw [w64_of] <;> omega)))) (fun _ _ => ?_) | (with_reducible refine Ok.yes (flow_bad_ok _ _) <;> (first | assumption | omega | (rw [w64_of] <;> omega))) | (with_reducible refine ok_bind (Q := Yes) ?_ (fun _ _ => ?_)) | dsimp only)
  · repeat' (first | with_reducible exact ok_yes | with_reducible exact ok_inrY | with_reducible exact ok_inlY | (with_reducible refine ok_next ?_ ?_ ?_ <;> (first | assumption | omega | (rw [w64_of] <;> omega))) | (with_reducible refine ok_nite (fun _ => ?_) (fun _ => ?_)) | (with_reducible refine ok_ite (fun _ => ?_) (fun _ => ?_)) | (with_reducible refine ok_not (fun _ => ?_) (fun _ => ?_)) | (with_reducible refine ok_cond (fun _ => ?_) (fun _ => ?_)) | with_reducible refine ok_bind (ok_idx (by (first | assumption | omega | (rw [w64_of] <;> omega))) (by (first | assumption | omega | (rw [w64_of] <;> omega)))) (fun _ _ => ?_) | (with_reducible refine Ok.yes (flow_bad_ok _ _) <;> (first | assumption | omega | (rw [w64_of] <;> omega))) | (with_reducible refine ok_bind (Q := Yes) ?_ (fun _ _ => ?_)) | dsimp only)
theorem sample_Check_ok (l : List api_Sample) (h : l.length ≤ 9223372036854775807) (hx : ∀ x ∈ l, x.fStack.length ≤ 9223372036854775807 ∧ ∀ y ∈ x.fStack, okN y) : Tot (sample_Check l) := by
  unfold sample_Check
  refine ok_bindS (Q := Yes) (ok_up l.length (by omega) fun i h1 h2 => ?_) (fun _ _ => ?_) (fun _ _ => ?_)
  · unfold sample_Check_L1
    repeat' (first | with_reducible exact ok_yes | with_reducible exact ok_inrY | with_reducible exact ok_inlY | (with_reducible refine ok_next ?_ ?_ ?_ <;> (first | assumption | omega | (rw [w64_of] <;> omega))) | (with_reducible refine ok_nite (fun _ => ?_) (fun _ => ?_)) | (with_reducible refine ok_ite (fun _ => ?_) (fun _ => ?_)) | (with_reducible refine ok_not (fun _ => ?_) (fun _ => ?_)) | (with_reducible refine ok_cond (fun _ => ?_) (fun _ => ?_)) | with_reducible refine ok_bind (ok_idx (by (first | assumption | omega | (rw [w64_of] <;> omega))) (by (first | assumption | omega | (rw [w64_of] <;> omega)))) (fun _ _ => ?_) | (with_reducible refine Ok.yes (sample_good_ok _) <;> (first | assumption | omega | (rw [w64_of] <;> omega))) | (with_reducible refine Ok.yes (intern_Frames_ok _ (hx _ (List.mem_of_getElem? (by assumption))).1 (hx _ (List.mem_of_getElem? (by assumption))).2) <;> (first | assumption | omega | (rw [w64_of] <;> omega))) | (with_reducible refine ok_bind (Q := Yes) ?_ (fun _ _ => ?_)) | dsimp only)
  · repeat' (first | with_reducible exact ok_yes | with_reducible exact ok_inrY | with_reducible exact ok_inlY | (with_reducible refine ok_next ?_ ?_ ?_ <;> (first | assumption | omega | (rw [w64_of] <;> omega))) | (with_reducible refine ok_nite (fun _ => ?_) (fun _ => ?_)) | (with_reducible refine ok_ite (fun _ => ?_) (fun _ => ?_)) | (with_reducible refine ok_not (fun _ => ?_) (fun _ => ?_)) | (with_reducible refine ok_cond (fun _ => ?_) (fun _ => ?_)) | with_reducible refine ok_bind (ok_idx (by (first | assumption | omega | (rw [w64_of] <;> omega))) (by (first | assumption | omega | (rw [w64_of] <;> omega)))) (fun _ _ => ?_) | (with_reducible refine Ok.yes (sample_good_ok _) <;> (first | assumption | omega | (rw [w64_of] <;> omega))) | (with_reducible refine Ok.yes (intern_Frames_ok _ (hx _ (List.mem_of_getElem? (by assumption))).1 (hx _ (List.mem_of_getElem? (by assumption))).2) <;> (first | assumption | omega | (rw [w64_of] <;> omega))) | (with_reducible refine ok_bind (Q := Yes) ?_ (fun _ _ => ?_)) | dsimp only)
  · repeat' (first | with_reducible exact ok_yes | with_reducible exact ok_inrY | with_reducible exact ok_inlY | (with_reducible refine ok_next ?_ ?_ ?_ <;> (first | assumption | omega | (rw [w64_of] <;> omega))) | (with_reducible refine ok_nite (fun _ => ?_) (fun _ => ?_)) | (with_reducible refine ok_ite (fun _ => ?_) (fun _ => ?_)) | (with_reducible refine ok_not (fun _ => ?_) (fun _ => ?_)) | (with_reducible refine ok_cond (fun _ => ?_) (fun _ => ?_)) | with_reducible refine ok_bind (ok_idx (by (first | assumption | omega | (rw [w64_of] <;> omega))) (by (first | assumption | omega | (rw [w64_of] <;> omega)))) (fun _ _ => ?_) | (with_reducible refine Ok.yes (sample_good_ok _) <;> (first | assumption | omega | (rw [w64_of] <;> omega))) | (with_reducible refine Ok.yes (intern_Frames_ok _ (hx _ (List.mem_of_getElem? (by assumption))).1 (hx _ (List.mem_of_getElem? (by assumption))).2) <;> (first | assumption | omega | (rw [w64_of] <;> omega))) | (with_reducible refine ok_bind (Q := Yes) ?_ (fun _ _ => ?_)) | dsimp only)
theorem counter_Check_ok (l : List api_Step) (h : l.length ≤ 9223372036854775807) (hx : ∀ x ∈ l, okN x.fName) : Tot (counter_Check l) := by
  unfold counter_Check
  refine ok_bindS (Q := Yes) (ok_up l.length (by omega) fun i h1 h2 => ?_) (fun _ _ => ?_) (fun _ _ => ?_)
  · unfold counter_Check_L1
    repeat' (first | with_reducible exact ok_yes | with_reducible exact ok_inrY | with_reducible exact ok_inlY | (with_reducible refine ok_next ?_ ?_ ?_ <;> (first | assumption | omega | (rw [w64_of] <;> omega))) | (with_reducible refine ok_nite (fun _ => ?_) (fun _ => ?_)) | (with_reducible refine ok_ite (fun _ => ?_) (fun _ => ?_)) | (with_reducible refine ok_not (fun _ => ?_) (fun _ => ?_)) | (with_reducible refine ok_cond (fun _ => ?_) (fun _ => ?_)) | with_reducible refine ok_bind (ok_idx (by (first | assumption | omega | (rw [w64_of] <;> omega))) (by (first | assumption | omega | (rw [w64_of] <;> omega)))) (fun _ _ => ?_) | (with_reducible refine Ok.yes (num_In_ok _) <;> (first | assumption | omega | (rw [w64_of] <;> omega))) | (with_reducible refine Ok.yes (counter_order_ok _ _) <;> (first | assumption | omega | (rw [w64_of] <;> omega))) | (with_reducible refine Ok.yes (intern_Name_ok _ (hx _ (List.mem_of_getElem? (by assumption)))) <;> (first | assumption | omega | (rw [w64_of] <;> omega))) | (with_reducible refine ok_bind (Q := Yes) ?_ (fun _ _ => ?_)) | dsimp only)
  · repeat' (first | with_reducible exact ok_yes | with_reducible exact ok_inrY | with_reducible exact ok_inlY | (with_reducible refine ok_next ?_ ?_ ?_ <;> (first | assumption | omega | (rw [w64_of] <;> omega))) | (with_reducible refine ok_nite (fun _ => ?_) (fun _ => ?_)) | (with_reducible refine ok_ite (fun _ => ?_) (fun _ => ?_)) | (with_reducible refine ok_not (fun _ => ?_) (fun _ => ?_)) | (with_reducible refine ok_cond (fun _ => ?_) (fun _ => ?_)) | with_reducible refine ok_bind (ok_idx (by (first | assumption | omega | (rw [w64_of] <;> omega))) (by (first | assumption | omega | (rw [w64_of] <;> omega)))) (fun _ _ => ?_) | (with_reducible refine Ok.yes (num_In_ok _) <;> (first | assumption | omega | (rw [w64_of] <;> omega))) | (with_reducible refine Ok.yes (counter_order_ok _ _) <;> (first | assumption | omega | (rw [w64_of] <;> omega))) | (with_reducible refine Ok.yes (intern_Name_ok _ (hx _ (List.mem_of_getElem? (by assumption)))) <;> (first | assumption | omega | (rw [w64_of] <;> omega))) | (with_reducible refine ok_bind (Q := Yes) ?_ (fun _ _ => ?_)) | dsimp only)
  · repeat' (first | with_reducible exact ok_yes | with_reducible exact ok_inrY | with_reducible exact ok_inlY | (with_reducible refine ok_next ?_ ?_ ?_ <;> (first | assumption | omega | (rw [w64_of] <;> omega))) | (with_reducible refine ok_nite (fun _ => ?_) (fun _ => ?_)) | (with_reducible refine ok_ite (fun _ => ?_) (fun _ => ?_)) | (with_reducible refine ok_not (fun _ => ?_) (fun _ => ?_)) | (with_reducible refine ok_cond (fun _ => ?_) (fun _ => ?_)) | with_reducible refine ok_bind (ok_idx (by (first | assumption | omega | (rw [w64_of] <;> omega))) (by (first | assumption | omega | (rw [w64_of] <;> omega)))) (fun _ _ => ?_) | (with_reducible refine Ok.yes (num_In_ok _) <;> (first | assumption | omega | (rw [w64_of] <;> omega))) | (with_reducible refine Ok.yes (counter_order_ok _ _) <;> (first | assumption | omega | (rw [w64_of] <;> omega))) | (with_reducible refine Ok.yes (intern_Name_ok _ (hx _ (List.mem_of_getElem? (by assumption)))) <;> (first | assumption | omega | (rw [w64_of] <;> omega))) | (with_reducible refine ok_bind (Q := Yes) ?_ (fun _ _ => ?_)) | dsimp only)
theorem trace_within_ok (a b) : Tot (trace_within a b) := by
  unfold trace_within
  repeat' (first | with_reducible exact ok_yes | with_reducible exact ok_inrY | with_reducible exact ok_inlY | (with_reducible refine ok_next ?_ ?_ ?_ <;> (first | assumption | omega | (rw [w64_of] <;> omega))) | (with_reducible refine ok_nite (fun _ => ?_) (fun _ => ?_)) | (with_reducible refine ok_ite (fun _ => ?_) (fun _ => ?_)) | (with_reducible refine ok_not (fun _ => ?_) (fun _ => ?_)) | (with_reducible refine ok_cond (fun _ => ?_) (fun _ => ?_)) | with_reducible refine ok_bind (ok_idx (by (first | assumption | omega | (rw [w64_of] <;> omega))) (by (first | assumption | omega | (rw [w64_of] <;> omega)))) (fun _ _ => ?_) | (with_reducible refine ok_bind (Q := Yes) ?_ (fun _ _ => ?_)) | dsimp only)
theorem trace_inside_ok (a b) : Tot (trace_inside a b) := by
  unfold trace_inside
  repeat' (first | with_reducible exact ok_yes | with_reducible exact ok_inrY | with_reducible exact ok_inlY | (with_reducible refine ok_next ?_ ?_ ?_ <;> (first | assumption | omega | (rw [w64_of] <;> omega))) | (with_reducible refine ok_nite (fun _ => ?_) (fun _ => ?_)) | (with_reducible refine ok_ite (fun _ => ?_) (fun _ => ?_)) | (with_reducible refine ok_not (fun _ => ?_) (fun _ => ?_)) | (with_reducible refine ok_cond (fun _ => ?_) (fun _ => ?_)) | with_reducible refine ok_bind (ok_idx (by (first | assumption | omega | (rw [w64_of] <;> omega))) (by (first | assumption | omega | (rw [w64_of] <;> omega)))) (fun _ _ => ?_) | (with_reducible refine ok_bind (Q := Yes) ?_ (fun _ _ => ?_)) | dsimp only)
theorem critical_known_1_k1_ok (a b) : Tot (critical_known_1_k1 a b) := ⟨_, rfl, trivial⟩
theorem critical_known_ok (t : api_Trace) (a : Int) (h : t.fThreads.length ≤ 9223372036854775807) : Tot (critical_known t a) := by
  unfold critical_known slices_ContainsFunc_api_Thread_api_Thread_k1
  refine ok_bind (Q := Yes) (ok_bind (Q := Yes) ?_ (fun _ _ => ok_yes)) (fun _ _ => ok_yes)
  unfold slices_IndexFunc_api_Thread_api_Thread_k1
  refine ok_bindS (Q := Yes) (ok_up t.fThreads.length (by omega) fun i h1 h2 => ?_) (fun _ _ => ?_) (fun _ _ => ?_)
  · unfold slices_IndexFunc_api_Thread_api_Thread_k1_L1
    repeat' (first | with_reducible exact ok_yes | with_reducible exact ok_inrY | with_reducible exact ok_inlY | (with_reducible refine ok_next ?_ ?_ ?_ <;> (first | assumption | omega | (rw [w64_of] <;> omega))) | (with_reducible refine ok_nite (fun _ => ?_) (fun _ => ?_)) | (with_reducible refine ok_ite (fun _ => ?_) (fun _ => ?_)) | (with_reducible refine ok_not (fun _ => ?_) (fun _ => ?_)) | (with_reducible refine ok_cond (fun _ => ?_) (fun _ => ?_)) | with_reducible refine ok_bind (ok_idx (by (first | assumption | omega | (rw [w64_of] <;> omega))) (by (first | assumption | omega | (rw [w64_of] <;> omega)))) (fun _ _ => ?_) | (with_reducible refine Ok.yes (critical_known_1_k1_ok _ _) <;> (first | assumption | omega | (rw [w64_of] <;> omega))) | (with_reducible refine ok_bind (Q := Yes) ?_ (fun _ _ => ?_)) | dsimp only)
  · repeat' (first | with_reducible exact ok_yes | with_reducible exact ok_inrY | with_reducible exact ok_inlY | (with_reducible refine ok_next ?_ ?_ ?_ <;> (first | assumption | omega | (rw [w64_of] <;> omega))) | (with_reducible refine ok_nite (fun _ => ?_) (fun _ => ?_)) | (with_reducible refine ok_ite (fun _ => ?_) (fun _ => ?_)) | (with_reducible refine ok_not (fun _ => ?_) (fun _ => ?_)) | (with_reducible refine ok_cond (fun _ => ?_) (fun _ => ?_)) | with_reducible refine ok_bind (ok_idx (by (first | assumption | omega | (rw [w64_of] <;> omega))) (by (first | assumption | omega | (rw [w64_of] <;> omega)))) (fun _ _ => ?_) | (with_reducible refine Ok.yes (critical_known_1_k1_ok _ _) <;> (first | assumption | omega | (rw [w64_of] <;> omega))) | (with_reducible refine ok_bind (Q := Yes) ?_ (fun _ _ => ?_)) | dsimp only)
  · repeat' (first | with_reducible exact ok_yes | with_reducible exact ok_inrY | with_reducible exact ok_inlY | (with_reducible refine ok_next ?_ ?_ ?_ <;> (first | assumption | omega | (rw [w64_of] <;> omega))) | (with_reducible refine ok_nite (fun _ => ?_) (fun _ => ?_)) | (with_reducible refine ok_ite (fun _ => ?_) (fun _ => ?_)) | (with_reducible refine ok_not (fun _ => ?_) (fun _ => ?_)) | (with_reducible refine ok_cond (fun _ => ?_) (fun _ => ?_)) | with_reducible refine ok_bind (ok_idx (by (first | assumption | omega | (rw [w64_of] <;> omega))) (by (first | assumption | omega | (rw [w64_of] <;> omega)))) (fun _ _ => ?_) | (with_reducible refine Ok.yes (critical_known_1_k1_ok _ _) <;> (first | assumption | omega | (rw [w64_of] <;> omega))) | (with_reducible refine ok_bind (Q := Yes) ?_ (fun _ _ => ?_)) | dsimp only)
theorem trace_outside_1_k1_ok (a b) : Tot (trace_outside_1_k1 a b) := by
  unfold trace_outside_1_k1
  repeat' (first | with_reducible exact ok_yes | with_reducible exact ok_inrY | with_reducible exact ok_inlY | (with_reducible refine ok_next ?_ ?_ ?_ <;> (first | assumption | omega | (rw [w64_of] <;> omega))) | (with_reducible refine ok_nite (fun _ => ?_) (fun _ => ?_)) | (with_reducible refine ok_ite (fun _ => ?_) (fun _ => ?_)) | (with_reducible refine ok_not (fun _ => ?_) (fun _ => ?_)) | (with_reducible refine ok_cond (fun _ => ?_) (fun _ => ?_)) | with_reducible refine ok_bind (ok_idx (by (first | assumption | omega | (rw [w64_of] <;> omega))) (by (first | assumption | omega | (rw [w64_of] <;> omega)))) (fun _ _ => ?_) | (with_reducible refine Ok.yes (trace_within_ok _ _) <;> (first | assumption | omega | (rw [w64_of] <;> omega))) | (with_reducible refine Ok.yes (trace_inside_ok _ _) <;> (first | assumption | omega | (rw [w64_of] <;> omega))) | (with_reducible refine ok_bind (Q := Yes) ?_ (fun _ _ => ?_)) | dsimp only)
theorem slices_ContainsFunc_api_Slice_api_Slice_k1_ok (l : List api_Slice) (a) (h : l.length ≤ 9223372036854775807) : Tot (slices_ContainsFunc_api_Slice_api_Slice_k1 l a) := by
  unfold slices_ContainsFunc_api_Slice_api_Slice_k1
  refine ok_bind (Q := Yes) ?_ (fun _ _ => ok_yes)
  unfold slices_IndexFunc_api_Slice_api_Slice_k1
  refine ok_bindS (Q := Yes) (ok_up l.length (by omega) fun i h1 h2 => ?_) (fun _ _ => ?_) (fun _ _ => ?_)
  · unfold slices_IndexFunc_api_Slice_api_Slice_k1_L1
    repeat' (first | with_reducible exact ok_yes | with_reducible exact ok_inrY | with_reducible exact ok_inlY | (with_reducible refine ok_next ?_ ?_ ?_ <;> (first | assumption | omega | (rw [w64_of] <;> omega))) | (with_reducible refine ok_nite (fun _ => ?_) (fun _ => ?_)) | (with_reducible refine ok_ite (fun _ => ?_) (fun _ => ?_)) | (with_reducible refine ok_not (fun _ => ?_) (fun _ => ?_)) | (with_reducible refine ok_cond (fun _ => ?_) (fun _ => ?_)) | with_reducible refine ok_bind (ok_idx (by (first | assumption | omega | (rw [w64_of] <;> omega))) (by (first | assumption | omega | (rw [w64_of] <;> omega)))) (fun _ _ => ?_) | (with_reducible refine Ok.yes (trace_outside_1_k1_ok _ _) <;> (first | assumption | omega | (rw [w64_of] <;> omega))) | (with_reducible refine ok_bind (Q := Yes) ?_ (fun _ _ => ?_)) | dsimp only)
  · repeat' (first | with_reducible exact ok_yes | with_reducible exact ok_inrY | with_reducible exact ok_inlY | (with_reducible refine ok_next ?_ ?_ ?_ <;> (first | assumption | omega | (rw [w64_of] <;> omega))) | (with_reducible refine ok_nite (fun _ => ?_) (fun _ => ?_)) | (with_reducible refine ok_ite (fun _ => ?_) (fun _ => ?_)) | (with_reducible refine ok_not (fun _ => ?_) (fun _ => ?_)) | (with_reducible refine ok_cond (fun _ => ?_) (fun _ => ?_)) | with_reducible refine ok_bind (ok_idx (by (first | assumption | omega | (rw [w64_of] <;> omega))) (by (first | assumption | omega | (rw [w64_of] <;> omega)))) (fun _ _ => ?_) | (with_reducible refine Ok.yes (trace_outside_1_k1_ok _ _) <;> (first | assumption | omega | (rw [w64_of] <;> omega))) | (with_reducible refine ok_bind (Q := Yes) ?_ (fun _ _ => ?_)) | dsimp only)
  · repeat' (first | with_reducible exact ok_yes | with_reducible exact ok_inrY | with_reducible exact ok_inlY | (with_reducible refine ok_next ?_ ?_ ?_ <;> (first | assumption | omega | (rw [w64_of] <;> omega))) | (with_reducible refine ok_nite (fun _ => ?_) (fun _ => ?_)) | (with_reducible refine ok_ite (fun _ => ?_) (fun _ => ?_)) | (with_reducible refine ok_not (fun _ => ?_) (fun _ => ?_)) | (with_reducible refine ok_cond (fun _ => ?_) (fun _ => ?_)) | with_reducible refine ok_bind (ok_idx (by (first | assumption | omega | (rw [w64_of] <;> omega))) (by (first | assumption | omega | (rw [w64_of] <;> omega)))) (fun _ _ => ?_) | (with_reducible refine Ok.yes (trace_outside_1_k1_ok _ _) <;> (first | assumption | omega | (rw [w64_of] <;> omega))) | (with_reducible refine ok_bind (Q := Yes) ?_ (fun _ _ => ?_)) | dsimp only)
theorem trace_outside_2_k1_ok (a b) : Tot (trace_outside_2_k1 a b) := by
  unfold trace_outside_2_k1
  repeat' (first | with_reducible exact ok_yes | with_reducible exact ok_inrY | with_reducible exact ok_inlY | (with_reducible refine ok_next ?_ ?_ ?_ <;> (first | assumption | omega | (rw [w64_of] <;> omega))) | (with_reducible refine ok_nite (fun _ => ?_) (fun _ => ?_)) | (with_reducible refine ok_ite (fun _ => ?_) (fun _ => ?_)) | (with_reducible refine ok_not (fun _ => ?_) (fun _ => ?_)) | (with_reducible refine ok_cond (fun _ => ?_) (fun _ => ?_)) | with_reducible refine ok_bind (ok_idx (by (first | assumption | omega | (rw [w64_of] <;> omega))) (by (first | assumption | omega | (rw [w64_of] <;> omega)))) (fun _ _ => ?_) | (with_reducible refine Ok.yes (trace_within_ok _ _) <;> (first | assumption | omega | (rw [w64_of] <;> omega))) | (with_reducible refine Ok.yes (trace_inside_ok _ _) <;> (first | assumption | omega | (rw [w64_of] <;> omega))) | (with_reducible refine ok_bind (Q := Yes) ?_ (fun _ _ => ?_)) | dsimp only)
theorem slices_ContainsFunc_api_State_api_State_k1_ok (l : List api_State) (a) (h : l.length ≤ 9223372036854775807) : Tot (slices_ContainsFunc_api_State_api_State_k1 l a) := by
  unfold slices_ContainsFunc_api_State_api_State_k1
  refine ok_bind (Q := Yes) ?_ (fun _ _ => ok_yes)
  unfold slices_IndexFunc_api_State_api_State_k1
  refine ok_bindS (Q := Yes) (ok_up l.length (by omega) fun i h1 h2 => ?_) (fun _ _ => ?_) (fun _ _ => ?_)
  · unfold slices_IndexFunc_api_State_api_State_k1_L1
    repeat' (first | with_reducible exact ok_yes | with_reducible exact ok_inrY | with_reducible exact ok_inlY | (with_reducible refine ok_next ?_ ?_ ?_ <;> (first | assumption | omega | (rw [w64_of] <;> omega))) | (with_reducible refine ok_nite (fun _ => ?_) (fun _ => ?_)) | (with_reducible refine ok_ite (fun _ => ?_) (fun _ => ?_)) | (with_reducible refine ok_not (fun _ => ?_) (fun _ => ?_)) | (with_reducible refine ok_cond (fun _ => ?_) (fun _ => ?_)) | with_reducible refine ok_bind (ok_idx (by (first | assumption | omega | (rw [w64_of] <;> omega))) (by (first | assumption | omega | (rw [w64_of] <;> omega)))) (fun _ _ => ?_) | (with_reducible refine Ok.yes (trace_outside_2_k1_ok _ _) <;> (first | assumption | omega | (rw [w64_of] <;> omega))) | (with_reducible refine ok_bind (Q := Yes) ?_ (fun _ _ => ?_)) | dsimp only)
  · repeat' (first | with_reducible exact ok_yes | with_reducible exact ok_inrY | with_reducible exact ok_inlY | (with_reducible refine ok_next ?_ ?_ ?_ <;> (first | assumption | omega | (rw [w64_of] <;> omega))) | (with_reducible refine ok_nite (fun _ => ?_) (fun _ => ?_)) | (with_reducible refine ok_ite (fun _ => ?_) (fun _ => ?_)) | (with_reducible refine ok_not (fun _ => ?_) (fun _ => ?_)) | (with_reducible refine ok_cond (fun _ => ?_) (fun _ => ?_)) | with_reducible refine ok_bind (ok_idx (by (first | assumption | omega | (rw [w64_of] <;> omega))) (by (first | assumption | omega | (rw [w64_of] <;> omega)))) (fun _ _ => ?_) | (with_reducible refine Ok.yes (trace_outside_2_k1_ok _ _) <;> (first | assumption | omega | (rw [w64_of] <;> omega))) | (with_reducible refine ok_bind (Q := Yes) ?_ (fun _ _ => ?_)) | dsimp only)
  · repeat' (first | with_reducible exact ok_yes | with_reducible exact ok_inrY | with_reducible exact ok_inlY | (with_reducible refine ok_next ?_ ?_ ?_ <;> (first | assumption | omega | (rw [w64_of] <;> omega))) | (with_reducible refine ok_nite (fun _ => ?_) (fun _ => ?_)) | (with_reducible refine ok_ite (fun _ => ?_) (fun _ => ?_)) | (with_reducible refine ok_not (fun _ => ?_) (fun _ => ?_)) | (with_reducible refine ok_cond (fun _ => ?_) (fun _ => ?_)) | with_reducible refine ok_bind (ok_idx (by (first | assumption | omega | (rw [w64_of] <;> omega))) (by (first | assumption | omega | (rw [w64_of] <;> omega)))) (fun _ _ => ?_) | (with_reducible refine Ok.yes (trace_outside_2_k1_ok _ _) <;> (first | assumption | omega | (rw [w64_of] <;> omega))) | (with_reducible refine ok_bind (Q := Yes) ?_ (fun _ _ => ?_)) | dsimp only)
theorem trace_outside_3_k1_ok (a b) : Tot (trace_outside_3_k1 a b) := by
  unfold trace_outside_3_k1
  repeat' (first | with_reducible exact ok_yes | with_reducible exact ok_inrY | with_reducible exact ok_inlY | (with_reducible refine ok_next ?_ ?_ ?_ <;> (first | assumption | omega | (rw [w64_of] <;> omega))) | (with_reducible refine ok_nite (fun _ => ?_) (fun _ => ?_)) | (with_reducible refine ok_ite (fun _ => ?_) (fun _ => ?_)) | (with_reducible refine ok_not (fun _ => ?_) (fun _ => ?_)) | (with_reducible refine ok_cond (fun _ => ?_) (fun _ => ?_)) | with_reducible refine ok_bind (ok_idx (by (first | assumption | omega | (rw [w64_of] <;> omega))) (by (first | assumption | omega | (rw [w64_of] <;> omega)))) (fun _ _ => ?_) | (with_reducible refine Ok.yes (trace_within_ok _ _) <;> (first | assumption | omega | (rw [w64_of] <;> omega))) | (with_reducible refine Ok.yes (trace_inside_ok _ _) <;> (first | assumption | omega | (rw [w64_of] <;> omega))) | (with_reducible refine ok_bind (Q := Yes) ?_ (fun _ _ => ?_)) | dsimp only)
theorem slices_ContainsFunc_api_Block_api_Block_k1_ok (l : List api_Block) (a) (h : l.length ≤ 9223372036854775807) : Tot (slices_ContainsFunc_api_Block_api_Block_k1 l a) := by
  unfold slices_ContainsFunc_api_Block_api_Block_k1
  refine ok_bind (Q := Yes) ?_ (fun _ _ => ok_yes)
  unfold slices_IndexFunc_api_Block_api_Block_k1
  refine ok_bindS (Q := Yes) (ok_up l.length (by omega) fun i h1 h2 => ?_) (fun _ _ => ?_) (fun _ _ => ?_)
  · unfold slices_IndexFunc_api_Block_api_Block_k1_L1
    repeat' (first | with_reducible exact ok_yes | with_reducible exact ok_inrY | with_reducible exact ok_inlY | (with_reducible refine ok_next ?_ ?_ ?_ <;> (first | assumption | omega | (rw [w64_of] <;> omega))) | (with_reducible refine ok_nite (fun _ => ?_) (fun _ => ?_)) | (with_reducible refine ok_ite (fun _ => ?_) (fun _ => ?_)) | (with_reducible refine ok_not (fun _ => ?_) (fun _ => ?_)) | (with_reducible refine ok_cond (fun _ => ?_) (fun _ => ?_)) | with_reducible refine ok_bind (ok_idx (by (first | assumption | omega | (rw [w64_of] <;> omega))) (by (first | assumption | omega | (rw [w64_of] <;> omega)))) (fun _ _ => ?_) | (with_reducible refine Ok.yes (trace_outside_3_k1_ok _ _) <;> (first | assumption | omega | (rw [w64_of] <;> omega))) | (with_reducible refine ok_bind (Q := Yes) ?_ (fun _ _ => ?_)) | dsimp only)
  · repeat' (first | with_reducible exact ok_yes | with_reducible exact ok_inrY | with_reducible exact ok_inlY | (with_reducible refine ok_next ?_ ?_ ?_ <;> (first | assumption | omega | (rw [w64_of] <;> omega))) | (with_reducible refine ok_nite (fun _ => ?_) (fun _ => ?_)) | (with_reducible refine ok_ite (fun _ => ?_) (fun _ => ?_)) | (with_reducible refine ok_not (fun _ => ?_) (fun _ => ?_)) | (with_reducible refine ok_cond (fun _ => ?_) (fun _ => ?_)) | with_reducible refine ok_bind (ok_idx (by (first | assumption | omega | (rw [w64_of] <;> omega))) (by (first | assumption | omega | (rw [w64_of] <;> omega)))) (fun _ _ => ?_) | (with_reducible refine Ok.yes (trace_outside_3_k1_ok _ _) <;> (first | assumption | omega | (rw [w64_of] <;> omega))) | (with_reducible refine ok_bind (Q := Yes) ?_ (fun _ _ => ?_)) | dsimp only)
  · repeat' (first | with_reducible exact ok_yes | with_reducible exact ok_inrY | with_reducible exact ok_inlY | (with_reducible refine ok_next ?_ ?_ ?_ <;> (first | assumption | omega | (rw [w64_of] <;> omega))) | (with_reducible refine ok_nite (fun _ => ?_) (fun _ => ?_)) | (with_reducible refine ok_ite (fun _ => ?_) (fun _ => ?_)) | (with_reducible refine ok_not (fun _ => ?_) (fun _ => ?_)) | (with_reducible refine ok_cond (fun _ => ?_) (fun _ => ?_)) | with_reducible refine ok_bind (ok_idx (by (first | assumption | omega | (rw [w64_of] <;> omega))) (by (first | assumption | omega | (rw [w64_of] <;> omega)))) (fun _ _ => ?_) | (with_reducible refine Ok.yes (trace_outside_3_k1_ok _ _) <;> (first | assumption | omega | (rw [w64_of] <;> omega))) | (with_reducible refine ok_bind (Q := Yes) ?_ (fun _ _ => ?_)) | dsimp only)
theorem trace_outside_4_k1_ok (a b) : Tot (trace_outside_4_k1 a b) := by
  unfold trace_outside_4_k1
  repeat' (first | with_reducible exact ok_yes | with_reducible exact ok_inrY | with_reducible exact ok_inlY | (with_reducible refine ok_next ?_ ?_ ?_ <;> (first | assumption | omega | (rw [w64_of] <;> omega))) | (with_reducible refine ok_nite (fun _ => ?_) (fun _ => ?_)) | (with_reducible refine ok_ite (fun _ => ?_) (fun _ => ?_)) | (with_reducible refine ok_not (fun _ => ?_) (fun _ => ?_)) | (with_reducible refine ok_cond (fun _ => ?_) (fun _ => ?_)) | with_reducible refine ok_bind (ok_idx (by (first | assumption | omega | (rw [w64_of] <;> omega))) (by (first | assumption | omega | (rw [w64_of] <;> omega)))) (fun _ _ => ?_) | (with_reducible refine Ok.yes (trace_within_ok _ _) <;> (first | assumption | omega | (rw [w64_of] <;> omega))) | (with_reducible refine Ok.yes (trace_inside_ok _ _) <;> (first | assumption | omega | (rw [w64_of] <;> omega))) | (with_reducible refine ok_bind (Q := Yes) ?_ (fun _ _ => ?_)) | dsimp only)
theorem slices_ContainsFunc_api_Flow_api_Flow_k1_ok (l : List api_Flow) (a) (h : l.length ≤ 9223372036854775807) : Tot (slices_ContainsFunc_api_Flow_api_Flow_k1 l a) := by
  unfold slices_ContainsFunc_api_Flow_api_Flow_k1
  refine ok_bind (Q := Yes) ?_ (fun _ _ => ok_yes)
  unfold slices_IndexFunc_api_Flow_api_Flow_k1
  refine ok_bindS (Q := Yes) (ok_up l.length (by omega) fun i h1 h2 => ?_) (fun _ _ => ?_) (fun _ _ => ?_)
  · unfold slices_IndexFunc_api_Flow_api_Flow_k1_L1
    repeat' (first | with_reducible exact ok_yes | with_reducible exact ok_inrY | with_reducible exact ok_inlY | (with_reducible refine ok_next ?_ ?_ ?_ <;> (first | assumption | omega | (rw [w64_of] <;> omega))) | (with_reducible refine ok_nite (fun _ => ?_) (fun _ => ?_)) | (with_reducible refine ok_ite (fun _ => ?_) (fun _ => ?_)) | (with_reducible refine ok_not (fun _ => ?_) (fun _ => ?_)) | (with_reducible refine ok_cond (fun _ => ?_) (fun _ => ?_)) | with_reducible refine ok_bind (ok_idx (by (first | assumption | omega | (rw [w64_of] <;> omega))) (by (first | assumption | omega | (rw [w64_of] <;> omega)))) (fun _ _ => ?_) | (with_reducible refine Ok.yes (trace_outside_4_k1_ok _ _) <;> (first | assumption | omega | (rw [w64_of] <;> omega))) | (with_reducible refine ok_bind (Q := Yes) ?_ (fun _ _ => ?_)) | dsimp only)
  · repeat' (first | with_reducible exact ok_yes | with_reducible exact ok_inrY | with_reducible exact ok_inlY | (with_reducible refine ok_next ?_ ?_ ?_ <;> (first | assumption | omega | (rw [w64_of] <;> omega))) | (with_reducible refine ok_nite (fun _ => ?_) (fun _ => ?_)) | (with_reducible refine ok_ite (fun _ => ?_) (fun _ => ?_)) | (with_reducible refine ok_not (fun _ => ?_) (fun _ => ?_)) | (with_reducible refine ok_cond (fun _ => ?_) (fun _ => ?_)) | with_reducible refine ok_bind (ok_idx (by (first | assumption | omega | (rw [w64_of] <;> omega))) (by (first | assumption | omega | (rw [w64_of] <;> omega)))) (fun _ _ => ?_) | (with_reducible refine Ok.yes (trace_outside_4_k1_ok _ _) <;> (first | assumption | omega | (rw [w64_of] <;> omega))) | (with_reducible refine ok_bind (Q := Yes) ?_ (fun _ _ => ?_)) | dsimp only)
  · repeat' (first | with_reducible exact ok_yes | with_reducible exact ok_inrY | with_reducible exact ok_inlY | (with_reducible refine ok_next ?_ ?_ ?_ <;> (first | assumption | omega | (rw [w64_of] <;> omega))) | (with_reducible refine ok_nite (fun _ => ?_) (fun _ => ?_)) | (with_reducible refine ok_ite (fun _ => ?_) (fun _ => ?_)) | (with_reducible refine ok_not (fun _ => ?_) (fun _ => ?_)) | (with_reducible refine ok_cond (fun _ => ?_) (fun _ => ?_)) | with_reducible refine ok_bind (ok_idx (by (first | assumption | omega | (rw [w64_of] <;> omega))) (by (first | assumption | omega | (rw [w64_of] <;> omega)))) (fun _ _ => ?_) | (with_reducible refine Ok.yes (trace_outside_4_k1_ok _ _) <;> (first | assumption | omega | (rw [w64_of] <;> omega))) | (with_reducible refine ok_bind (Q := Yes) ?_ (fun _ _ => ?_)) | dsimp only)
theorem trace_outside_5_k1_ok (a b) : Tot (trace_outside_5_k1 a b) := by
  unfold trace_outside_5_k1
  repeat' (first | with_reducible exact ok_yes | with_reducible exact ok_inrY | with_reducible exact ok_inlY | (with_reducible refine ok_next ?_ ?_ ?_ <;> (first | assumption | omega | (rw [w64_of] <;> omega))) | (with_reducible refine ok_nite (fun _ => ?_) (fun _ => ?_)) | (with_reducible refine ok_ite (fun _ => ?_) (fun _ => ?_)) | (with_reducible refine ok_not (fun _ => ?_) (fun _ => ?_)) | (with_reducible refine ok_cond (fun _ => ?_) (fun _ => ?_)) | with_reducible refine ok_bind (ok_idx (by (first | assumption | omega | (rw [w64_of] <;> omega))) (by (first | assumption | omega | (rw [w64_of] <;> omega)))) (fun _ _ => ?_) | (with_reducible refine Ok.yes (trace_within_ok _ _) <;> (first | assumption | omega | (rw [w64_of] <;> omega))) | (with_reducible refine Ok.yes (trace_inside_ok _ _) <;> (first | assumption | omega | (rw [w64_of] <;> omega))) | (with_reducible refine ok_bind (Q := Yes) ?_ (fun _ _ => ?_)) | dsimp only)
theorem slices_ContainsFunc_api_Sample_api_Sample_k1_ok (l : List api_Sample) (a) (h : l.length ≤ 9223372036854775807) : Tot (slices_ContainsFunc_api_Sample_api_Sample_k1 l a) := by
  unfold slices_ContainsFunc_api_Sample_api_Sample_k1
  refine ok_bind (Q := Yes) ?_ (fun _ _ => ok_yes)
  unfold slices_IndexFunc_api_Sample_api_Sample_k1
  refine ok_bindS (Q := Yes) (ok_up l.length (by omega) fun i h1 h2 => ?_) (fun _ _ => ?_) (fun _ _ => ?_)
  · unfold slices_IndexFunc_api_Sample_api_Sample_k1_L1
    repeat' (first | with_reducible exact ok_yes | with_reducible exact ok_inrY | with_reducible exact ok_inlY | (with_reducible refine ok_next ?_ ?_ ?_ <;> (first | assumption | omega | (rw [w64_of] <;> omega))) | (with_reducible refine ok_nite (fun _ => ?_) (fun _ => ?_)) | (with_reducible refine ok_ite (fun _ => ?_) (fun _ => ?_)) | (with_reducible refine ok_not (fun _ => ?_) (fun _ => ?_)) | (with_reducible refine ok_cond (fun _ => ?_) (fun _ => ?_)) | with_reducible refine ok_bind (ok_idx (by (first | assumption | omega | (rw [w64_of] <;> omega))) (by (first | assumption | omega | (rw [w64_of] <;> omega)))) (fun _ _ => ?_) | (with_reducible refine Ok.yes (trace_outside_5_k1_ok _ _) <;> (first | assumption | omega | (rw [w64_of] <;> omega))) | (with_reducible refine ok_bind (Q := Yes) ?_ (fun _ _ => ?_)) | dsimp only)
  · repeat' (first | with_reducible exact ok_yes | with_reducible exact ok_inrY | with_reducible exact ok_inlY | (with_reducible refine ok_next ?_ ?_ ?_ <;> (first | assumption | omega | (rw [w64_of] <;> omega))) | (with_reducible refine ok_nite (fun _ => ?_) (fun _ => ?_)) | (with_reducible refine ok_ite (fun _ => ?_) (fun _ => ?_)) | (with_reducible refine ok_not (fun _ => ?_) (fun _ => ?_)) | (with_reducible refine ok_cond (fun _ => ?_) (fun _ => ?_)) | with_reducible refine ok_bind (ok_idx (by (first | assumption | omega | (rw [w64_of] <;> omega))) (by (first | assumption | omega | (rw [w64_of] <;> omega)))) (fun _ _ => ?_) | (with_reducible refine Ok.yes (trace_outside_5_k1_ok _ _) <;> (first | assumption | omega | (rw [w64_of] <;> omega))) | (with_reducible refine ok_bind (Q := Yes) ?_ (fun _ _ => ?_)) | dsimp only)
  · repeat' (first | with_reducible exact ok_yes | with_reducible exact ok_inrY | with_reducible exact ok_inlY | (with_reducible refine ok_next ?_ ?_ ?_ <;> (first | assumption | omega | (rw [w64_of] <;> omega))) | (with_reducible refine ok_nite (fun _ => ?_) (fun _ => ?_)) | (with_reducible refine ok_ite (fun _ => ?_) (fun _ => ?_)) | (with_reducible refine ok_not (fun _ => ?_) (fun _ => ?_)) | (with_reducible refine ok_cond (fun _ => ?_) (fun _ => ?_)) | with_reducible refine ok_bind (ok_idx (by (first | assumption | omega | (rw [w64_of] <;> omega))) (by (first | assumption | omega | (rw [w64_of] <;> omega)))) (fun _ _ => ?_) | (with_reducible refine Ok.yes (trace_outside_5_k1_ok _ _) <;> (first | assumption | omega | (rw [w64_of] <;> omega))) | (with_reducible refine ok_bind (Q := Yes) ?_ (fun _ _ => ?_)) | dsimp only)
theorem trace_outside_6_k1_ok (a b) : Tot (trace_outside_6_k1 a b) := by
  unfold trace_outside_6_k1
  repeat' (first | with_reducible exact ok_yes | with_reducible exact ok_inrY | with_reducible exact ok_inlY | (with_reducible refine ok_next ?_ ?_ ?_ <;> (first | assumption | omega | (rw [w64_of] <;> omega))) | (with_reducible refine ok_nite (fun _ => ?_) (fun _ => ?_)) | (with_reducible refine ok_ite (fun _ => ?_) (fun _ => ?_)) | (with_reducible refine ok_not (fun _ => ?_) (fun _ => ?_)) | (with_reducible refine ok_cond (fun _ => ?_) (fun _ => ?_)) | with_reducible refine ok_bind (ok_idx (by (first | assumption | omega | (rw [w64_of] <;> omega))) (by (first | assumption | omega | (rw [w64_of] <;> omega)))) (fun _ _ => ?_) | (with_reducible refine Ok.yes (trace_within_ok _ _) <;> (first | assumption | omega | (rw [w64_of] <;> omega))) | (with_reducible refine Ok.yes (trace_inside_ok _ _) <;> (first | assumption | omega | (rw [w64_of] <;> omega))) | (with_reducible refine ok_bind (Q := Yes) ?_ (fun _ _ => ?_)) | dsimp only)
theorem slices_ContainsFunc_api_Step_api_Step_k1_ok (l : List api_Step) (a) (h : l.length ≤ 9223372036854775807) : Tot (slices_ContainsFunc_api_Step_api_Step_k1 l a) := by
  unfold slices_ContainsFunc_api_Step_api_Step_k1
  refine ok_bind (Q := Yes) ?_ (fun _ _ => ok_yes)
  unfold slices_IndexFunc_api_Step_api_Step_k1
  refine ok_bindS (Q := Yes) (ok_up l.length (by omega) fun i h1 h2 => ?_) (fun _ _ => ?_) (fun _ _ => ?_)
  · unfold slices_IndexFunc_api_Step_api_Step_k1_L1
    repeat' (first | with_reducible exact ok_yes | with_reducible exact ok_inrY | with_reducible exact ok_inlY | (with_reducible refine ok_next ?_ ?_ ?_ <;> (first | assumption | omega | (rw [w64_of] <;> omega))) | (with_reducible refine ok_nite (fun _ => ?_) (fun _ => ?_)) | (with_reducible refine ok_ite (fun _ => ?_) (fun _ => ?_)) | (with_reducible refine ok_not (fun _ => ?_) (fun _ => ?_)) | (with_reducible refine ok_cond (fun _ => ?_) (fun _ => ?_)) | with_reducible refine ok_bind (ok_idx (by (first | assumption | omega | (rw [w64_of] <;> omega))) (by (first | assumption | omega | (rw [w64_of] <;> omega)))) (fun _ _ => ?_) | (with_reducible refine Ok.yes (trace_outside_6_k1_ok _ _) <;> (first | assumption | omega | (rw [w64_of] <;> omega))) | (with_reducible refine ok_bind (Q := Yes) ?_ (fun _ _ => ?_)) | dsimp only)
  · repeat' (first | with_reducible exact ok_yes | with_reducible exact ok_inrY | with_reducible exact ok_inlY | (with_reducible refine ok_next ?_ ?_ ?_ <;> (first | assumption | omega | (rw [w64_of] <;> omega))) | (with_reducible refine ok_nite (fun _ => ?_) (fun _ => ?_)) | (with_reducible refine ok_ite (fun _ => ?_) (fun _ => ?_)) | (with_reducible refine ok_not (fun _ => ?_) (fun _ => ?_)) | (with_reducible refine ok_cond (fun _ => ?_) (fun _ => ?_)) | with_reducible refine ok_bind (ok_idx (by (first | assumption | omega | (rw [w64_of] <;> omega))) (by (first | assumption | omega | (rw [w64_of] <;> omega)))) (fun _ _ => ?_) | (with_reducible refine Ok.yes (trace_outside_6_k1_ok _ _) <;> (first | assumption | omega | (rw [w64_of] <;> omega))) | (with_reducible refine ok_bind (Q := Yes) ?_ (fun _ _ => ?_)) | dsimp only)
  · repeat' (first | with_reducible exact ok_yes | with_reducible exact ok_inrY | with_reducible exact ok_inlY | (with_reducible refine ok_next ?_ ?_ ?_ <;> (first | assumption | omega | (rw [w64_of] <;> omega))) | (with_reducible refine ok_nite (fun _ => ?_) (fun _ => ?_)) | (with_reducible refine ok_ite (fun _ => ?_) (fun _ => ?_)) | (with_reducible refine ok_not (fun _ => ?_) (fun _ => ?_)) | (with_reducible refine ok_cond (fun _ => ?_) (fun _ => ?_)) | with_reducible refine ok_bind (ok_idx (by (first | assumption | omega | (rw [w64_of] <;> omega))) (by (first | assumption | omega | (rw [w64_of] <;> omega)))) (fun _ _ => ?_) | (with_reducible refine Ok.yes (trace_outside_6_k1_ok _ _) <;> (first | assumption | omega | (rw [w64_of] <;> omega))) | (with_reducible refine ok_bind (Q := Yes) ?_ (fun _ _ => ?_)) | dsimp only)
theorem trace_outside_ok (t : api_Trace) (h : Siz t) : Tot (trace_outside t) := by
  unfold trace_outside
  repeat' (first | with_reducible exact ok_yes | with_reducible exact ok_inrY | with_reducible exact ok_inlY | (with_reducible refine ok_next ?_ ?_ ?_ <;> (first | assumption | omega | (rw [w64_of] <;> omega))) | (with_reducible refine ok_nite (fun _ => ?_) (fun _ => ?_)) | (with_reducible refine ok_ite (fun _ => ?_) (fun _ => ?_)) | (with_reducible refine ok_not (fun _ => ?_) (fun _ => ?_)) | (with_reducible refine ok_cond (fun _ => ?_) (fun _ => ?_)) | with_reducible refine ok_bind (ok_idx (by (first | assumption | omega | (rw [w64_of] <;> omega))) (by (first | assumption | omega | (rw [w64_of] <;> omega)))) (fun _ _ => ?_) | (with_reducible refine Ok.yes (slices_ContainsFunc_api_Slice_api_Slice_k1_ok _ _ h.sl) <;> (first | assumption | omega | (rw [w64_of] <;> omega))) | (with_reducible refine Ok.yes (slices_ContainsFunc_api_State_api_State_k1_ok _ _ h.st) <;> (first | assumption | omega | (rw [w64_of] <;> omega))) | (with_reducible refine Ok.yes (slices_ContainsFunc_api_Block_api_Block_k1_ok _ _ h.bl) <;> (first | assumption | omega | (rw [w64_of] <;> omega))) | (with_reducible refine Ok.yes (slices_ContainsFunc_api_Flow_api_Flow_k1_ok _ _ h.fl) <;> (first | assumption | omega | (rw [w64_of] <;> omega))) | (with_reducible refine Ok.yes (slices_ContainsFunc_api_Sample_api_Sample_k1_ok _ _ h.sa) <;> (first | assumption | omega | (rw [w64_of] <;> omega))) | (with_reducible refine Ok.yes (slices_ContainsFunc_api_Step_api_Step_k1_ok _ _ h.sp) <;> (first | assumption | omega | (rw [w64_of] <;> omega))) | (with_reducible refine ok_bind (Q := Yes) ?_ (fun _ _ => ?_)) | dsimp only)
theorem slices_Index_int_int_ok (l : List Int) (a : Int) (h : l.length ≤ 9223372036854775807) : Tot (slices_Index_int_int l a) := by
  unfold slices_Index_int_int
  refine ok_bindS (Q := Yes) (ok_up l.length (by omega) fun i h1 h2 => ?_) (fun _ _ => ?_) (fun _ _ => ?_)
  · unfold slices_Index_int_int_L1
    repeat' (first | with_reducible exact ok_yes | with_reducible exact ok_inrY | with_reducible exact ok_inlY | (with_reducible refine ok_next ?_ ?_ ?_ <;> (first | assumption | omega | (rw [w64_of] <;> omega))) | (with_reducible refine ok_nite (fun _ => ?_) (fun _ => ?_)) | (with_reducible refine ok_ite (fun _ => ?_) (fun _ => ?_)) | (with_reducible refine ok_not (fun _ => ?_) (fun _ => ?_)) | (with_reducible refine ok_cond (fun _ => ?_) (fun _ => ?_)) | with_reducible refine ok_bind (ok_idx (by (first | assumption | omega | (rw [w64_of] <;> omega))) (by (first | assumption | omega | (rw [w64_of] <;> omega)))) (fun _ _ => ?_) | (with_reducible refine ok_bind (Q := Yes) ?_ (fun _ _ => ?_)) | dsimp only)
  · repeat' (first | with_reducible exact ok_yes | with_reducible exact ok_inrY | with_reducible exact ok_inlY | (with_reducible refine ok_next ?_ ?_ ?_ <;> (first | assumption | omega | (rw [w64_of] <;> omega))) | (with_reducible refine ok_nite (fun _ => ?_) (fun _ => ?_)) | (with_reducible refine ok_ite (fun _ => ?_) (fun _ => ?_)) | (with_reducible refine ok_not (fun _ => ?_) (fun _ => ?_)) | (with_reducible refine ok_cond (fun _ => ?_) (fun _ => ?_)) | with_reducible refine ok_bind (ok_idx (by (first | assumption | omega | (rw [w64_of] <;> omega))) (by (first | assumption | omega | (rw [w64_of] <;> omega)))) (fun _ _ => ?_) | (with_reducible refine ok_bind (Q := Yes) ?_ (fun _ _ => ?_)) | dsimp only)
  · repeat' (first | with_reducible exact ok_yes | with_reducible exact ok_inrY | with_reducible exact ok_inlY | (with_reducible refine ok_next ?_ ?_ ?_ <;> (first | assumption | omega | (rw [w64_of] <;> omega))) | (with_reducible refine ok_nite (fun _ => ?_) (fun _ => ?_)) | (with_reducible refine ok_ite (fun _ => ?_) (fun _ => ?_)) | (with_reducible refine ok_not (fun _ => ?_) (fun _ => ?_)) | (with_reducible refine ok_cond (fun _ => ?_) (fun _ => ?_)) | with_reducible refine ok_bind (ok_idx (by (first | assumption | omega | (rw [w64_of] <;> omega))) (by (first | assumption | omega | (rw [w64_of] <;> omega)))) (fun _ _ => ?_) | (with_reducible refine ok_bind (Q := Yes) ?_ (fun _ _ => ?_)) | dsimp only)
theorem slices_Contains_int_int_ok (l : List Int) (a : Int) (h : l.length ≤ 9223372036854775807) : Tot (slices_Contains_int_int l a) := by
  unfold slices_Contains_int_int
  repeat' (first | with_reducible exact ok_yes | with_reducible exact ok_inrY | with_reducible exact ok_inlY | (with_reducible refine ok_next ?_ ?_ ?_ <;> (first | assumption | omega | (rw [w64_of] <;> omega))) | (with_reducible refine ok_nite (fun _ => ?_) (fun _ => ?_)) | (with_reducible refine ok_ite (fun _ => ?_) (fun _ => ?_)) | (with_reducible refine ok_not (fun _ => ?_) (fun _ => ?_)) | (with_reducible refine ok_cond (fun _ => ?_) (fun _ => ?_)) | with_reducible refine ok_bind (ok_idx (by (first | assumption | omega | (rw [w64_of] <;> omega))) (by (first | assumption | omega | (rw [w64_of] <;> omega)))) (fun _ _ => ?_) | (with_reducible refine Ok.yes (slices_Index_int_int_ok _ _ h) <;> (first | assumption | omega | (rw [w64_of] <;> omega))) | (with_reducible refine ok_bind (Q := Yes) ?_ (fun _ _ => ?_)) | dsimp only)
theorem state_fields_ok (a) : Tot (state_fields a) := by
  unfold state_fields
  repeat' (first | with_reducible exact ok_yes | with_reducible exact ok_inrY | with_reducible exact ok_inlY | (with_reducible refine ok_next ?_ ?_ ?_ <;> (first | assumption | omega | (rw [w64_of] <;> omega))) | (with_reducible refine ok_nite (fun _ => ?_) (fun _ => ?_)) | (with_reducible refine ok_ite (fun _ => ?_) (fun _ => ?_)) | (with_reducible refine ok_not (fun _ => ?_) (fun _ => ?_)) | (with_reducible refine ok_cond (fun _ => ?_) (fun _ => ?_)) | with_reducible refine ok_bind (ok_idx (by (first | assumption | omega | (rw [w64_of] <;> omega))) (by (first | assumption | omega | (rw [w64_of] <;> omega)))) (fun _ _ => ?_) | (with_reducible refine ok_bind (Q := Yes) ?_ (fun _ _ => ?_)) | dsimp only)
theorem state_same_ok (a b) : Tot (state_same a b) := by
  unfold state_same
  repeat' (first | with_reducible exact ok_yes | with_reducible exact ok_inrY | with_reducible exact ok_inlY | (with_reducible refine ok_next ?_ ?_ ?_ <;> (first | assumption | omega | (rw [w64_of] <;> omega))) | (with_reducible refine ok_nite (fun _ => ?_) (fun _ => ?_)) | (with_reducible refine ok_ite (fun _ => ?_) (fun _ => ?_)) | (with_reducible refine ok_not (fun _ => ?_) (fun _ => ?_)) | (with_reducible refine ok_cond (fun _ => ?_) (fun _ => ?_)) | with_reducible refine ok_bind (ok_idx (by (first | assumption | omega | (rw [w64_of] <;> omega))) (by (first | assumption | omega | (rw [w64_of] <;> omega)))) (fun _ _ => ?_) | (with_reducible refine ok_bind (Q := Yes) ?_ (fun _ _ => ?_)) | dsimp only)
end Go.VM
namespace Go.VM
def Up (l : List api_Slice) (n : Int) : Prop := ∀ (j : Nat) y, (j : Int) < n → l[j]? = some y → -1 ≤ y.fParent ∧ y.fParent < (j : Int)
theorem slice_nested_ok (l : List api_Slice) (h : l.length ≤ 9223372036854775807) : Ok (slice_nested l) (fun b => b = true → Up l l.length) := by
  unfold slice_nested
  refine ok_bindS (Q := InlR (fun _ => Up l l.length) (fun b => b = false)) (ok_upI l.length (Up l) h (by intro j y hj; omega) (fun i hI h1 h2 => ?_)) (fun _ hq => ok_some (fun _ => hq)) (fun r hr => ok_some (fun e => ?_))
  · unfold slice_nested_L1
    refine ok_ite (fun hi => ?_) (fun hi => ok_inr (by have : i = l.length := by omega
                                                       subst this; exact hI))
    refine ok_bind (ok_idx h1 hi) (fun y hy => ?_)
    have no : InlR (fun _ : Unit => Up l l.length) (fun b => b = false) (.inr false) := rfl
    refine ok_bind (Q := fun v => v = false → -1 ≤ y.fParent ∧ y.fParent < i) ?_ (fun v hv => ?_)
    · refine ok_ite (fun _ => ok_some (by simp)) (fun h3 => ok_some (fun h4 => ?_))
      have := of_decide_eq_false h4
      omega
    refine ok_cond (fun _ => ok_inr no) (fun h0 => ?_)
    have hp := hv h0
    have nx : Up l (i + 1) := by
      intro j z hj hz
      by_cases e : (j : Int) = i
      · have : i.toNat = j := by omega
        rw [this] at hy
        rw [hy] at hz; cases hz
        omega
      · exact hI j z (by omega) hz
    refine ok_ite (fun _ => ?_) (fun hne => ?_)
    · refine ok_nite (fun _ => ok_inr no) (fun _ => ok_nextI nx h1 hi h)
    · refine ok_bind (ok_idx (by omega) (by omega)) (fun z _ => ?_)
      refine ok_bind (Q := Yes) (by repeat' (first | with_reducible exact ok_yes | with_reducible exact ok_inrY | with_reducible exact ok_inlY | (with_reducible refine ok_next ?_ ?_ ?_ <;> (first | assumption | omega | (rw [w64_of] <;> omega))) | (with_reducible refine ok_nite (fun _ => ?_) (fun _ => ?_)) | (with_reducible refine ok_ite (fun _ => ?_) (fun _ => ?_)) | (with_reducible refine ok_not (fun _ => ?_) (fun _ => ?_)) | (with_reducible refine ok_cond (fun _ => ?_) (fun _ => ?_)) | with_reducible refine ok_bind (ok_idx (by (first | assumption | omega | (rw [w64_of] <;> omega))) (by (first | assumption | omega | (rw [w64_of] <;> omega)))) (fun _ _ => ?_) | (with_reducible refine ok_bind (Q := Yes) ?_ (fun _ _ => ?_)) | dsimp only)) (fun v _ => ?_)
      refine ok_cond (fun _ => ok_inr no) (fun _ => ok_nextI nx h1 hi h)
  · have : r = false := hr
    simp [this] at e
theorem slice_under_ok (l : List api_Slice) (h : l.length ≤ 9223372036854775807) (hu : Up l l.length) (a b : Int) (hb : b < l.length) : Tot (slice_under l a b) := by
  unfold slice_under
  refine ok_bindS (Q := Yes) (ok_loop (fun i : Int => i < l.length) (fun i : Int => (i + 1).toNat) (fun i hi => ?_) hb (by simp [manyRounds]; omega)) (fun _ _ => ok_yes) (fun _ _ => ok_yes)
  unfold slice_under_L1
  refine ok_ite (fun h0 => ?_) (fun _ => ok_inrY)
  refine ok_ite (fun _ => ok_inrY) (fun _ => ?_)
  refine ok_bind (ok_idx h0 hi) (fun y hy => ?_)
  have := hu i.toNat y (by omega) hy
  exact ok_inl ⟨by omega, by omega⟩
theorem slice_apart_ok (l : List api_Slice) (h : l.length ≤ 9223372036854775807) (hu : Up l l.length) : Tot (slice_apart l) := by
  unfold slice_apart
  refine ok_bindS (Q := Yes) (ok_up l.length h fun i h1 h2 => ?_) (fun _ _ => ok_yes) (fun _ _ => ok_yes)
  unfold slice_apart_L2
  refine ok_ite (fun hi => ?_) (fun _ => ok_inrY)
  refine ok_bind (ok_idx h1 hi) (fun y hy => ?_)
  refine ok_bindS (Q := InlR Yes (InlR (fun _ => False) Yes)) (ok_up2 l.length (fun _ _ => True) h trivial (fun a j _ h3 h4 => ?_)) (fun _ _ => ?_) (fun r hr => ?_)
  · unfold slice_apart_L1
    dsimp only
    refine ok_ite (fun hj => ?_) (fun _ => ok_inr trivial)
    refine ok_bind (ok_idx h3 hj) (fun z hz => ?_)
    refine ok_bind (Q := Yes) (by repeat' (first | with_reducible exact ok_yes | with_reducible exact ok_inrY | with_reducible exact ok_inlY | (with_reducible refine ok_next ?_ ?_ ?_ <;> (first | assumption | omega | (rw [w64_of] <;> omega))) | (with_reducible refine ok_nite (fun _ => ?_) (fun _ => ?_)) | (with_reducible refine ok_ite (fun _ => ?_) (fun _ => ?_)) | (with_reducible refine ok_not (fun _ => ?_) (fun _ => ?_)) | (with_reducible refine ok_cond (fun _ => ?_) (fun _ => ?_)) | with_reducible refine ok_bind (ok_idx (by (first | assumption | omega | (rw [w64_of] <;> omega))) (by (first | assumption | omega | (rw [w64_of] <;> omega)))) (fun _ _ => ?_) | (with_reducible refine ok_bind (Q := Yes) ?_ (fun _ _ => ?_)) | dsimp only)) (fun v _ => ?_)
    refine ok_bind (Q := Yes) (by repeat' (first | with_reducible exact ok_yes | with_reducible exact ok_inrY | with_reducible exact ok_inlY | (with_reducible refine ok_next ?_ ?_ ?_ <;> (first | assumption | omega | (rw [w64_of] <;> omega))) | (with_reducible refine ok_nite (fun _ => ?_) (fun _ => ?_)) | (with_reducible refine ok_ite (fun _ => ?_) (fun _ => ?_)) | (with_reducible refine ok_not (fun _ => ?_) (fun _ => ?_)) | (with_reducible refine ok_cond (fun _ => ?_) (fun _ => ?_)) | with_reducible refine ok_bind (ok_idx (by (first | assumption | omega | (rw [w64_of] <;> omega))) (by (first | assumption | omega | (rw [w64_of] <;> omega)))) (fun _ _ => ?_) | (with_reducible refine Ok.yes (slice_under_ok l h hu _ _ hi) <;> (first | assumption | omega | (rw [w64_of] <;> omega))) | (with_reducible refine ok_bind (Q := Yes) ?_ (fun _ _ => ?_)) | dsimp only)) (fun v _ => ?_)
    refine ok_cond (fun _ => ok_inr trivial) (fun _ => ok_next2 (Inv := fun _ _ => True) trivial h3 hj h)
  · dsimp only
    repeat' (first | with_reducible exact ok_yes | with_reducible exact ok_inrY | with_reducible exact ok_inlY | (with_reducible refine ok_next ?_ ?_ ?_ <;> (first | assumption | omega | (rw [w64_of] <;> omega))) | (with_reducible refine ok_nite (fun _ => ?_) (fun _ => ?_)) | (with_reducible refine ok_ite (fun _ => ?_) (fun _ => ?_)) | (with_reducible refine ok_not (fun _ => ?_) (fun _ => ?_)) | (with_reducible refine ok_cond (fun _ => ?_) (fun _ => ?_)) | with_reducible refine ok_bind (ok_idx (by (first | assumption | omega | (rw [w64_of] <;> omega))) (by (first | assumption | omega | (rw [w64_of] <;> omega)))) (fun _ _ => ?_) | (with_reducible refine ok_bind (Q := Yes) ?_ (fun _ _ => ?_)) | dsimp only)
  · rcases r with r | r
    · exact (hr : False).elim
    · exact ok_inrY
theorem slice_Check_ok (l : List api_Slice) (h : l.length ≤ 9223372036854775807) (hx : ∀ x ∈ l, okN x.fName) : Tot (slice_Check l) := by
  unfold slice_Check
  refine ok_bindS (Q := Yes) (ok_up l.length h fun i h1 h2 => ?_) (fun _ _ => ?_) (fun _ _ => ok_yes)
  · unfold slice_Check_L1
    repeat' (first | with_reducible exact ok_yes | with_reducible exact ok_inrY | with_reducible exact ok_inlY | (with_reducible refine ok_next ?_ ?_ ?_ <;> (first | assumption | omega | (rw [w64_of] <;> omega))) | (with_reducible refine ok_nite (fun _ => ?_) (fun _ => ?_)) | (with_reducible refine ok_ite (fun _ => ?_) (fun _ => ?_)) | (with_reducible refine ok_not (fun _ => ?_) (fun _ => ?_)) | (with_reducible refine ok_cond (fun _ => ?_) (fun _ => ?_)) | with_reducible refine ok_bind (ok_idx (by (first | assumption | omega | (rw [w64_of] <;> omega))) (by (first | assumption | omega | (rw [w64_of] <;> omega)))) (fun _ _ => ?_) | (with_reducible refine Ok.yes (slice_compare_ok _ _) <;> (first | assumption | omega | (rw [w64_of] <;> omega))) | (with_reducible refine Ok.yes (spans_Valid_ok _) <;> (first | assumption | omega | (rw [w64_of] <;> omega))) | (with_reducible refine Ok.yes (intern_Name_ok _ (hx _ (List.mem_of_getElem? (by assumption)))) <;> (first | assumption | omega | (rw [w64_of] <;> omega))) | (with_reducible refine ok_bind (Q := Yes) ?_ (fun _ _ => ?_)) | dsimp only)
  · dsimp only
    refine ok_bind (Q := Yes) ?_ (fun _ _ => by repeat' (first | with_reducible exact ok_yes | with_reducible exact ok_inrY | with_reducible exact ok_inlY | (with_reducible refine ok_next ?_ ?_ ?_ <;> (first | assumption | omega | (rw [w64_of] <;> omega))) | (with_reducible refine ok_nite (fun _ => ?_) (fun _ => ?_)) | (with_reducible refine ok_ite (fun _ => ?_) (fun _ => ?_)) | (with_reducible refine ok_not (fun _ => ?_) (fun _ => ?_)) | (with_reducible refine ok_cond (fun _ => ?_) (fun _ => ?_)) | with_reducible refine ok_bind (ok_idx (by (first | assumption | omega | (rw [w64_of] <;> omega))) (by (first | assumption | omega | (rw [w64_of] <;> omega)))) (fun _ _ => ?_) | (with_reducible refine ok_bind (Q := Yes) ?_ (fun _ _ => ?_)) | dsimp only))
    refine ok_bind (slice_nested_ok l h) (fun b hb => ?_)
    refine ok_not (fun _ => ok_yes) (fun e => ?_)
    repeat' (first | with_reducible exact ok_yes | with_reducible exact ok_inrY | with_reducible exact ok_inlY | (with_reducible refine ok_next ?_ ?_ ?_ <;> (first | assumption | omega | (rw [w64_of] <;> omega))) | (with_reducible refine ok_nite (fun _ => ?_) (fun _ => ?_)) | (with_reducible refine ok_ite (fun _ => ?_) (fun _ => ?_)) | (with_reducible refine ok_not (fun _ => ?_) (fun _ => ?_)) | (with_reducible refine ok_cond (fun _ => ?_) (fun _ => ?_)) | with_reducible refine ok_bind (ok_idx (by (first | assumption | omega | (rw [w64_of] <;> omega))) (by (first | assumption | omega | (rw [w64_of] <;> omega)))) (fun _ _ => ?_) | (with_reducible refine Ok.yes (slice_apart_ok l h (hb e)) <;> (first | assumption | omega | (rw [w64_of] <;> omega))) | (with_reducible refine ok_bind (Q := Yes) ?_ (fun _ _ => ?_)) | dsimp only)
theorem memory_Check_ok (l : List api_Block) (h : l.length ≤ 9223372036854775807) (hx : ∀ x ∈ l, x.fStack.length ≤ 9223372036854775807 ∧ ∀ y ∈ x.fStack, okN y) : Tot (memory_Check l) := by
  unfold memory_Check
  refine ok_bindS (Q := Yes) (ok_up l.length h fun i h1 h2 => ?_) (fun _ _ => ok_yes) (fun _ _ => ok_yes)
  unfold memory_Check_L2
  refine ok_ite (fun hi => ?_) (fun _ => ok_inrY)
  refine ok_bind (ok_idx h1 hi) (fun y hy => ?_)
  refine ok_bind (Q := Yes) (by repeat' (first | with_reducible exact ok_yes | with_reducible exact ok_inrY | with_reducible exact ok_inlY | (with_reducible refine ok_next ?_ ?_ ?_ <;> (first | assumption | omega | (rw [w64_of] <;> omega))) | (with_reducible refine ok_nite (fun _ => ?_) (fun _ => ?_)) | (with_reducible refine ok_ite (fun _ => ?_) (fun _ => ?_)) | (with_reducible refine ok_not (fun _ => ?_) (fun _ => ?_)) | (with_reducible refine ok_cond (fun _ => ?_) (fun _ => ?_)) | with_reducible refine ok_bind (ok_idx (by (first | assumption | omega | (rw [w64_of] <;> omega))) (by (first | assumption | omega | (rw [w64_of] <;> omega)))) (fun _ _ => ?_) | (with_reducible refine Ok.yes (spans_Valid_ok _) <;> (first | assumption | omega | (rw [w64_of] <;> omega))) | (with_reducible refine ok_bind (Q := Yes) ?_ (fun _ _ => ?_)) | dsimp only)) (fun v _ => ?_)
  refine ok_cond (fun _ => ok_inrY) (fun _ => ?_)
  refine ok_bind (Q := Yes) (intern_Frames_ok _ (hx _ (List.mem_of_getElem? hy)).1 (hx _ (List.mem_of_getElem? hy)).2) (fun v _ => ?_)
  refine ok_nite (fun _ => ok_inrY) (fun _ => ?_)
  refine ok_bind (Q := Yes) (by repeat' (first | with_reducible exact ok_yes | with_reducible exact ok_inrY | with_reducible exact ok_inlY | (with_reducible refine ok_next ?_ ?_ ?_ <;> (first | assumption | omega | (rw [w64_of] <;> omega))) | (with_reducible refine ok_nite (fun _ => ?_) (fun _ => ?_)) | (with_reducible refine ok_ite (fun _ => ?_) (fun _ => ?_)) | (with_reducible refine ok_not (fun _ => ?_) (fun _ => ?_)) | (with_reducible refine ok_cond (fun _ => ?_) (fun _ => ?_)) | with_reducible refine ok_bind (ok_idx (by (first | assumption | omega | (rw [w64_of] <;> omega))) (by (first | assumption | omega | (rw [w64_of] <;> omega)))) (fun _ _ => ?_) | (with_reducible refine ok_bind (Q := Yes) ?_ (fun _ _ => ?_)) | dsimp only)) (fun v _ => ?_)
  refine ok_cond (fun _ => ok_inrY) (fun _ => ?_)
  refine ok_bind (Q := fun ys => ys.length ≤ 9223372036854775807) ?_ (fun ys hys => ?_)
  · unfold slcPart
    rw [if_pos ⟨by omega, by omega, by omega⟩]
    exact ok_some (by simp; omega)
  refine ok_bindS (Q := InlR Yes (InlR (fun _ => False) Yes)) (ok_up ys.length hys fun j h3 h4 => ?_) (fun _ _ => ok_next h1 hi h) (fun r hr => ?_)
  · unfold memory_Check_L1
    refine ok_ite (fun hj => ?_) (fun _ => ok_inr trivial)
    refine ok_bind (ok_idx h3 hj) (fun z hz => ?_)
    refine ok_bind (Q := Yes) (by repeat' (first | with_reducible exact ok_yes | with_reducible exact ok_inrY | with_reducible exact ok_inlY | (with_reducible refine ok_next ?_ ?_ ?_ <;> (first | assumption | omega | (rw [w64_of] <;> omega))) | (with_reducible refine ok_nite (fun _ => ?_) (fun _ => ?_)) | (with_reducible refine ok_ite (fun _ => ?_) (fun _ => ?_)) | (with_reducible refine ok_not (fun _ => ?_) (fun _ => ?_)) | (with_reducible refine ok_cond (fun _ => ?_) (fun _ => ?_)) | with_reducible refine ok_bind (ok_idx (by (first | assumption | omega | (rw [w64_of] <;> omega))) (by (first | assumption | omega | (rw [w64_of] <;> omega)))) (fun _ _ => ?_) | (with_reducible refine ok_bind (Q := Yes) ?_ (fun _ _ => ?_)) | dsimp only)) (fun v _ => ?_)
    refine ok_cond (fun _ => ok_inr trivial) (fun _ => ok_next h3 hj hys)
  · rcases r with r | r
    · exact (hr : False).elim
    · exact ok_inrY
end Go.VM
namespace Go.VM
theorem slices_Index_int_int_lt (l : List Int) (a : Int) (h : l.length ≤ 9223372036854775807) : Ok (slices_Index_int_int l a) (fun r => (0 ≤ r → l[r.toNat]? = some a) ∧ r < l.length) := by
  unfold slices_Index_int_int
  refine ok_bindS (Q := InlR Yes (fun r : Int => (0 ≤ r → l[r.toNat]? = some a) ∧ r < l.length)) (ok_up l.length h fun i h1 h2 => ?_) (fun _ _ => ok_some (And.intro (by omega) (by omega))) (fun _ hr => ?_)
  rotate_left
  · exact ok_some hr
  unfold slices_Index_int_int_L1
  refine ok_ite (fun hi => ?_) (fun _ => ok_inr trivial)
  refine ok_bind (ok_idx h1 hi) (fun y hy => ?_)
  exact ok_ite (fun e => ok_inr ⟨fun _ => by rw [hy, e], hi⟩) (fun _ => ok_next h1 hi h)
theorem state_distinct_ok (l : List api_Thread) (h : l.length ≤ 1000000) : Ok (state_distinct l) (fun r => r.length ≤ l.length) := by
  unfold state_distinct
  refine ok_bind (Q := fun r => r.length ≤ l.length) (ok_up2 l.length (fun a i => (a.length : Int) ≤ i) (by omega) (by simp) (fun a i hI h1 h2 => ?_)) (fun r hr => ok_some hr)
  unfold state_distinct_L1
  dsimp only
  refine ok_ite (fun hi => ?_) (fun _ => ok_inr (by omega))
  refine ok_bind (Q := fun r : List Int => (r.length : Int) ≤ i + 1) ?_ (fun r hr => ok_next2 (Inv := fun (a : List Int) i => (a.length : Int) ≤ i) hr h1 hi (by omega))
  refine ok_bind (ok_idx h1 hi) (fun y hy => ?_)
  refine ok_bind (slices_Contains_int_int_ok a y.fId (by omega)) (fun v _ => ?_)
  refine ok_not (fun _ => ?_) (fun _ => ok_some (by omega))
  rw [room_ok (by simp; omega) (by simp; omega)]
  exact ok_some (by simp; omega)
def Disj (l : List api_State) (n : Int) : Prop := ∀ (j k : Nat) s s', j < k → (k : Int) < n → l[j]? = some s → l[k]? = some s' → s.fThread = s'.fThread → s.fSpan.fTo ≤ s'.fSpan.fFrom
def Vald (l : List api_State) (n : Int) : Prop := ∀ (j : Nat) s, (j : Int) < n → l[j]? = some s → 0 ≤ s.fSpan.fFrom ∧ s.fSpan.fFrom < s.fSpan.fTo ∧ s.fSpan.fTo ≤ 1000000000000
def Gd (l : List api_State) : Prop := Disj l l.length ∧ Vald l l.length
structure Tab (l : List api_State) (ix : List Int) (r i : Int) : Prop where
  le : ∀ (j : Nat) s, (j : Int) < i → l[j]? = some s → ∃ x, slices_Index_int_int ix s.fThread = some x ∧ x ≤ r
  last : ∀ s, 0 < i → l[(i - 1).toNat]? = some s → slices_Index_int_int ix s.fThread = some r
  pos : 0 ≤ r → 0 < i
  neg : i = 0 → r = -1
  rng : -1 ≤ r ∧ r < ix.length
  v : Vald l i
  d : Disj l i
theorem rows_next {l : List api_State} {ix : List Int} {r r' i : Int} {y : api_State} (hix : ix.length ≤ 9223372036854775807) (H : Tab l ix r i) (h1 : 0 ≤ i) (hy : l[i.toNat]? = some y) (hr : slices_Index_int_int ix y.fThread = some r') (h0 : 0 ≤ r') (hv : 0 ≤ y.fSpan.fFrom ∧ y.fSpan.fFrom < y.fSpan.fTo ∧ y.fSpan.fTo ≤ 1000000000000)
    (hs : r' = r → ∀ s, l[(i - 1).toNat]? = some s → y.fSpan.fFrom = s.fSpan.fTo) (hn : r' ≠ r → r' = r + 1) : Tab l ix r' (i + 1) := by
  have hle : r ≤ r' := by
    by_cases e : r' = r
    · omega
    · have := hn e; omega
  refine ⟨fun j s hj hs' => ?_, fun s _ hs' => ?_, fun _ => by omega, fun _ => by omega, ⟨by omega, ((slices_Index_int_int_lt ix _ hix).of_eq hr).2⟩, fun j s hj hs' => ?_, fun j k s s' hjk hk hj' hk' ht => ?_⟩
  · by_cases e : (j : Int) = i
    · have : i.toNat = j := by omega
      rw [this, hs'] at hy; cases hy
      exact ⟨r', hr, by omega⟩
    · obtain ⟨x, h2, h3⟩ := H.le j s (by omega) hs'
      exact ⟨x, h2, by omega⟩
  · rw [show i + 1 - 1 = i by omega, hy] at hs'; cases hs'
    exact hr
  · by_cases e : (j : Int) = i
    · have : i.toNat = j := by omega
      rw [this, hs'] at hy; cases hy
      exact hv
    · exact H.v j s (by omega) hs'
  · by_cases e : (k : Int) = i
    · have : i.toNat = k := by omega
      rw [this, hk'] at hy; cases hy
      obtain ⟨x, h2, h3⟩ := H.le j s (by omega) hj'
      rw [ht, hr] at h2; cases h2
      by_cases e' : r' = r
      · obtain ⟨u, hu⟩ : ∃ u, l[(i - 1).toNat]? = some u := by
          have := lt_of_get hk'
          exact ⟨_, List.getElem?_eq_getElem (by omega)⟩
        have h5 := hs e' u hu
        by_cases e2 : j = (i - 1).toNat
        · subst e2; rw [hj'] at hu; cases hu; omega
        · have hlu := H.last u (by omega) hu
          have hh : s.fThread = u.fThread → s.fSpan.fTo ≤ u.fSpan.fFrom := H.d j (i - 1).toNat s u (by omega) (by omega) hj' hu
          have hvu := H.v (i - 1).toNat u (by omega) hu
          have a1 := (slices_Index_int_int_lt ix _ hix).of_eq hlu |>.1 (by omega)
          have a2 := (slices_Index_int_int_lt ix _ hix).of_eq hr |>.1 h0
          rw [e', a1] at a2
          injection a2 with a2
          have := hh (by rw [ht, ← a2])
          omega
      · have := hn e'; omega
    · exact H.d j k s s' hjk (by omega) hj' hk' ht
theorem spans_Valid_val (s : api_Span) : Ok (spans_Valid s) (fun b => b = true → 0 ≤ s.fFrom ∧ s.fFrom < s.fTo ∧ s.fTo ≤ 1000000000000) := by
  rw [spans_Valid_eq]
  exact ok_some (fun h => of_decide_eq_true h)
theorem state_Check_ok (ths : List api_Thread) (l : List api_State) (ht : ths.length ≤ 1000000) (h : l.length ≤ 9223372036854775807) : Ok (state_Check ths l) (fun r => r = 0 → Gd l) := by
  unfold state_Check
  refine ok_bind (state_distinct_ok ths ht) (fun ix hix => ?_)
  have hix' : ix.length ≤ 9223372036854775807 := by omega
  refine ok_bindS (Q := InlR (fun _ => Gd l) (fun r => r ≠ 0)) (ok_up2 l.length (fun r i => Tab l ix r i) h ⟨by intro j s hj; omega, by intro s hj; omega, by omega, by simp, ⟨by omega, by omega⟩, by intro j s hj; omega, by intro j k s s' _ hj; omega⟩ (fun r i hI h1 h2 => ?_)) (fun r hd => ?_) (fun r hr => ?_)
  · unfold state_Check_L2
    dsimp only
    have no : ∀ n : Int, n ≠ 0 → InlR (fun _ : Int => Gd l) (fun r => r ≠ 0) (.inr n) := fun n h => h
    refine ok_ite (fun hi => ?_) (fun hi => ok_inr (by have e : i = l.length := by omega
                                                       have g1 := hI.d
                                                       have g2 := hI.v
                                                       rw [e] at g1 g2; exact ⟨g1, g2⟩))
    refine ok_bind (ok_idx h1 hi) (fun y hy => ?_)
    refine ok_bindE (slices_Index_int_int_ok ix y.fThread hix') (fun x hx => ?_)
    refine ok_ite (fun _ => ok_inr (no _ (by simp))) (fun h0 => ?_)
    refine ok_bind (spans_Valid_val y.fSpan) (fun v hv => ?_)
    refine ok_not (fun _ => ok_inr (no _ (by simp))) (fun ev => ?_)
    refine ok_bind (state_fields_ok y) (fun _ _ => ?_)
    refine ok_not (fun _ => ok_inr (no _ (by simp))) (fun _ => ?_)
    refine ok_bind (Q := fun v => v = false → x = r → ∀ s, l[(i - 1).toNat]? = some s → y.fSpan.fFrom = s.fSpan.fTo) ?_ (fun v1 hv1 => ?_)
    · refine ok_ite (fun e => ?_) (fun e => ok_some (fun _ e' => absurd e' e))
      have hpos := hI.pos (by omega)
      rw [show w64 (i - 1) = i - 1 from w64_of (by omega)]
      refine ok_bind (ok_idx (by omega) (by omega)) (fun z hz => ?_)
      refine ok_nite (fun _ => ok_some (by simp)) (fun e2 => ?_)
      refine ok_bind (Q := Yes) ⟨z, hz ▸ by simp [idx, hz]; omega, trivial⟩ (fun w _ => ?_)
      refine (ok_bind (Q := Yes) (state_same_ok _ _) (fun b _ => ok_some (P := fun v => v = false → x = r → ∀ s, l[(i - 1).toNat]? = some s → y.fSpan.fFrom = s.fSpan.fTo) (fun _ _ s hs => ?_)))
      rw [hz] at hs; cases hs; exact e2
    refine ok_cond (fun _ => ok_inr (no _ (by simp))) (fun e1 => ?_)
    refine ok_bind (Q := fun v => v = false → x ≠ r → x = r + 1) ?_ (fun v2 hv2 => ?_)
    · refine ok_nite (fun e => ?_) (fun e => ok_some (fun _ e' => absurd e e'))
      have hb := hI.rng
      rw [w64_of (n := r + 1) (by omega)]
      refine ok_nite (fun _ => ok_some (by simp)) (fun e3 => ok_some (fun _ _ => e3))
    refine ok_cond (fun _ => ok_inr (no _ (by simp))) (fun e2 => ?_)
    exact ok_next2 (Inv := fun r i => Tab l ix r i) (rows_next hix' hI h1 hy hx (by omega) (hv ev) (hv1 e1) (hv2 e2)) h1 hi h
  · dsimp only
    refine ok_ite (fun _ => ok_some (fun _ => hd)) (fun hne => ?_)
    rw [show w64 ((l.length : Int) - 1) = (l.length : Int) - 1 from w64_of (by omega)]
    refine ok_bind (ok_idx (by omega) (by omega)) (fun y _ => ?_)
    refine ok_bindS (Q := Yes) (ok_up l.length h fun j h3 h4 => ?_) (fun _ _ => ?_) (fun r hr => ok_some (fun _ => hd))
    · unfold state_Check_L1
      refine ok_ite (fun hj => ?_) (fun _ => ok_inrY)
      refine ok_bind (ok_idx h3 hj) (fun z hz => ?_)
      have e : w64 (j + 1) = j + 1 := w64_of (by omega)
      rw [e]
      refine ok_bind (Q := Yes) ?_ (fun v _ => ?_)
      · refine ok_ite (fun _ => ok_yes) (fun hne => ?_)
        exact ok_bind (ok_idx (by omega) (by omega)) (fun _ _ => ok_yes)
      · refine ok_bind (Q := Yes) (by repeat' (first | with_reducible exact ok_yes | with_reducible exact ok_inrY | with_reducible exact ok_inlY | (with_reducible refine ok_next ?_ ?_ ?_ <;> (first | assumption | omega | (rw [w64_of] <;> omega))) | (with_reducible refine ok_nite (fun _ => ?_) (fun _ => ?_)) | (with_reducible refine ok_ite (fun _ => ?_) (fun _ => ?_)) | (with_reducible refine ok_not (fun _ => ?_) (fun _ => ?_)) | (with_reducible refine ok_cond (fun _ => ?_) (fun _ => ?_)) | with_reducible refine ok_bind (ok_idx (by (first | assumption | omega | (rw [w64_of] <;> omega))) (by (first | assumption | omega | (rw [w64_of] <;> omega)))) (fun _ _ => ?_) | (with_reducible refine ok_bind (Q := Yes) ?_ (fun _ _ => ?_)) | dsimp only)) (fun v _ => ?_)
        exact ok_cond (fun _ => ok_inrY) (fun _ => ok_inl ⟨hj, rfl⟩)
    · exact ok_nite (fun _ => ok_some (fun _ => hd)) (fun _ => ok_some (fun _ => hd))
  · exact ok_some (fun e => absurd e hr)
end Go.VM
namespace Go.VM
theorem trace_tables_ok (t : api_Trace) (h : Siz t) (ht : t.fThreads.length ≤ 1000000) : Ok (trace_tables t) (fun r => r = 0 → Gd t.fStates) := by
  unfold trace_tables
  refine ok_bindS (trace_threads_ok t h.th h.nTh) (fun r hr => ?_) (fun r _ => ?_)
  · exact ok_nite (fun h0 => ok_some (fun e => absurd e h0)) (fun h0 => absurd h0 hr)
  · dsimp only
    refine ok_nite (fun h0 => ok_some (fun e => absurd e h0)) (fun _ => ?_)
    refine ok_bind (slice_Check_ok _ h.sl h.nSl) (fun r4 _ => ?_)
    refine ok_bind (trace_known_api_Slice_k1_ok _ _ _ h.sl) (fun r5 _ => ?_)
    refine ok_nite (fun h0 => ok_some (fun e => absurd e h0)) (fun _ => ?_)
    refine ok_bind (state_Check_ok _ _ ht h.st) (fun r6 h6 => ?_)
    refine ok_nite (fun h0 => ok_some (fun e => absurd e h0)) (fun e6 => ?_)
    have hd := h6 e6
    refine ok_bind (flow_Check_ok _ h.fl) (fun r7 _ => ?_)
    refine ok_bind (trace_known_api_Flow_k1_ok _ _ _ h.fl) (fun r8 _ => ?_)
    refine ok_bind (trace_known_api_Flow_k2_ok _ _ _ h.fl) (fun r9 _ => ?_)
    refine ok_nite (fun h0 => ok_some (fun e => absurd e h0)) (fun _ => ?_)
    refine ok_bind (sample_Check_ok _ h.sa h.nSa) (fun r10 _ => ?_)
    refine ok_bind (trace_known_api_Sample_k1_ok _ _ _ h.sa) (fun r11 _ => ?_)
    refine ok_nite (fun h0 => ok_some (fun e => absurd e h0)) (fun _ => ?_)
    refine ok_bind (counter_Check_ok _ h.sp h.nSp) (fun r12 _ => ?_)
    refine ok_nite (fun h0 => ok_some (fun e => absurd e h0)) (fun _ => ?_)
    refine ok_bind (memory_Check_ok _ h.bl h.nBl) (fun r13 _ => ?_)
    refine ok_bind (trace_known_api_Block_k1_ok _ _ _ h.bl) (fun r14 _ => ?_)
    refine ok_nite (fun h0 => ok_some (fun e => absurd e h0)) (fun _ => ?_)
    refine ok_bind (trace_losses_k1_ok _ _ h.lo) (fun r15 _ => ?_)
    exact ok_some (fun _ => hd)
theorem trace_Check_ok (t : api_Trace) (h : Siz t) (ht : t.fThreads.length ≤ 1000000) : Ok (trace_Check t) (fun r => r = 0 → Gd t.fStates) := by
  unfold trace_Check
  refine ok_bind (trace_tables_ok t h ht) (fun r hr => ?_)
  refine ok_nite (fun h0 => ok_some (fun e => absurd e h0)) (fun e => ?_)
  have hd := hr e
  refine ok_bind (Q := Yes) (by repeat' (first | with_reducible exact ok_yes | with_reducible exact ok_inrY | with_reducible exact ok_inlY | (with_reducible refine ok_next ?_ ?_ ?_ <;> (first | assumption | omega | (rw [w64_of] <;> omega))) | (with_reducible refine ok_nite (fun _ => ?_) (fun _ => ?_)) | (with_reducible refine ok_ite (fun _ => ?_) (fun _ => ?_)) | (with_reducible refine ok_not (fun _ => ?_) (fun _ => ?_)) | (with_reducible refine ok_cond (fun _ => ?_) (fun _ => ?_)) | with_reducible refine ok_bind (ok_idx (by (first | assumption | omega | (rw [w64_of] <;> omega))) (by (first | assumption | omega | (rw [w64_of] <;> omega)))) (fun _ _ => ?_) | (with_reducible refine ok_bind (Q := Yes) ?_ (fun _ _ => ?_)) | dsimp only)) (fun v _ => ?_)
  refine ok_cond (fun _ => ok_some (fun _ => hd)) (fun _ => ?_)
  refine ok_bind (trace_outside_ok t h) (fun v _ => ?_)
  exact ok_cond (fun _ => ok_some (fun _ => hd)) (fun _ => ok_some (fun _ => hd))
theorem critical_check_ok (t : api_Trace) (a : Int) (p : api_Span) (h : Siz t) (ht : t.fThreads.length ≤ 1000000) : Ok (critical_check t a p) (fun r => r = 0 → Gd t.fStates ∧ 0 ≤ p.fFrom ∧ p.fFrom < p.fTo ∧ p.fTo ≤ 1000000000000) := by
  unfold critical_check
  refine ok_bind (trace_Check_ok t h ht) (fun r hr => ?_)
  refine ok_nite (fun h0 => ok_some (fun e => absurd e h0)) (fun e => ?_)
  have hd := hr e
  refine ok_bind (critical_known_ok t a h.th) (fun v _ => ?_)
  refine ok_not (fun _ => ok_some (by simp)) (fun _ => ?_)
  rw [state_At_eq _ _ _ h.st, state_At_eq _ _ _ h.st]
  simp only [Option.bind_some]
  refine ok_bind (Q := fun v => v = false → 0 ≤ p.fFrom ∧ p.fFrom < p.fTo ∧ p.fTo ≤ 1000000000000) ?_ (fun v hv => ok_cond (fun _ => ok_some (by simp)) (fun e => ok_some (fun _ => ⟨hd, hv e⟩)))
  refine ok_bind (spans_Valid_val p) (fun b hb => ?_)
  refine ok_not (fun _ => ok_some (by simp)) (fun e => ?_)
  exact ok_not (fun _ => ok_some (by simp)) (fun _ => ok_some (fun _ => hb e))
def Alone (t : api_Trace) : Prop := ∀ s ∈ t.fStates, 0 ≤ s.fBy → tracebookref32_Has t s.fBy = some false
theorem tracebookref32_Has_ok (t : api_Trace) (a : Int) (h : t.fThreads.length ≤ 9223372036854775807) : Ok (tracebookref32_Has t a) (fun b => b = false → ∀ x ∈ t.fThreads, x.fId ≠ a) := by
  unfold tracebookref32_Has
  refine ok_bindS (Q := InlR (fun _ => ∀ x ∈ t.fThreads, x.fId ≠ a) (fun b => b = true)) (ok_upI t.fThreads.length (fun i => ∀ (j : Nat) x, (j : Int) < i → t.fThreads[j]? = some x → x.fId ≠ a) h (by intro j x hj; omega) (fun i hI h1 h2 => ?_)) (fun _ hq => ok_some (fun _ => hq)) (fun r hr => ok_some (fun e => ?_))
  · unfold tracebookref32_Has_L1
    refine ok_ite (fun hi => ?_) (fun hi => ok_inr ?_)
    · refine ok_bind (ok_idx h1 hi) (fun y hy => ?_)
      refine ok_ite (fun _ => ok_inr (rfl : true = true)) (fun hne => ?_)
      refine ok_nextI (Inv := fun i => ∀ (j : Nat) x, (j : Int) < i → t.fThreads[j]? = some x → x.fId ≠ a) (fun j x hj hx => ?_) h1 hi h
      by_cases e : (j : Int) = i
      · have : i.toNat = j := by omega
        rw [this, hx] at hy; cases hy; exact hne
      · exact hI j x (by omega) hx
    · intro x hx
      obtain ⟨j, hj⟩ := List.getElem?_of_mem hx
      exact hI j x (by have := lt_of_get hj; omega) hj
  · have : r = true := hr
    simp [this] at e
theorem critical_known_no (t : api_Trace) (a : Int) (h : t.fThreads.length ≤ 9223372036854775807) (hn : ∀ x ∈ t.fThreads, x.fId ≠ a) : critical_known t a = some false := by
  have : Ok (critical_known t a) (fun b => b = false) := by
    unfold critical_known slices_ContainsFunc_api_Thread_api_Thread_k1
    refine ok_bind (Q := fun b => b = false) (ok_bind (Q := fun r => r < 0) ?_ (fun r hr => ok_some (by simp; omega))) (fun _ hb => ok_some hb)
    unfold slices_IndexFunc_api_Thread_api_Thread_k1
    refine ok_bindS (Q := InlR Yes (fun _ => False)) (ok_up t.fThreads.length h fun i h1 h2 => ?_) (fun _ _ => ok_some (by omega)) (fun _ hr => hr.elim)
    unfold slices_IndexFunc_api_Thread_api_Thread_k1_L1 critical_known_1_k1
    refine ok_ite (fun hi => ?_) (fun _ => ok_inr trivial)
    refine ok_bind (ok_idx h1 hi) (fun y hy => ?_)
    simp only [Option.bind_some]
    exact ok_ite (fun e => absurd e (hn y (List.mem_of_getElem? hy))) (fun _ => ok_next h1 hi h)
  obtain ⟨r, h1, h2⟩ := this
  rw [h1, h2]
end Go.VM
namespace Go.VM
theorem producer_Thread_pos (t : api_Thread) (h : okN t.fName) : Ok (producer_Thread t) (fun r => r = 0 → 0 ≤ t.fId) := by
  unfold producer_Thread
  refine ok_bind (Q := fun v => v = false → 0 ≤ t.fId) ?_ (fun v hv => ?_)
  · refine ok_ite (fun _ => ok_some (by simp)) (fun h0 => ?_)
    have : 0 ≤ t.fId := by omega
    refine ok_ite (fun _ => ok_some (by simp)) (fun _ => ?_)
    exact ok_ite (fun _ => ok_some (by simp)) (fun _ => ok_some (fun _ => this))
  · refine ok_cond (fun _ => ok_some (by simp)) (fun e => ?_)
    exact ok_bind (intern_Name_ok _ h) (fun _ _ => ok_some (fun _ => hv e))
theorem trace_threads_pos (t : api_Trace) (hl : t.fThreads.length ≤ 9223372036854775807) (hn : ∀ x ∈ t.fThreads, okN x.fName) : Ok (trace_threads t) (InlR (fun r => r.2 ≠ 0) (fun r => r.2 = 0 → ∀ x ∈ t.fThreads, 0 ≤ x.fId)) := by
  unfold trace_threads
  refine ok_ite (fun _ => ok_inl (by simp)) (fun _ => ?_)
  refine ok_bindS (Q := InlR (fun _ => ∀ x ∈ t.fThreads, 0 ≤ x.fId) (InlR (fun r => r.2 ≠ 0) (fun r => r.2 = 0 → ∀ x ∈ t.fThreads, 0 ≤ x.fId))) (ok_up2 t.fThreads.length (fun _ i => ∀ (j : Nat) x, (j : Int) < i → t.fThreads[j]? = some x → 0 ≤ x.fId) hl (by intro j x hj; omega) (fun a i hI h1 h2 => ?_)) (fun _ hq => ?_) (fun r hr => ?_)
  · unfold trace_threads_L1
    dsimp only
    refine ok_ite (fun h => ?_) (fun h => ok_inr ?_)
    · refine ok_bind (ok_idx h1 h) (fun y hy => ?_)
      refine ok_bind (producer_Thread_pos _ (hn _ (List.mem_of_getElem? hy))) (fun r hr => ?_)
      refine ok_nite (fun h0 => ok_inr h0) (fun h0 => ?_)
      refine ok_cond (fun _ => ok_inr (by simp [InlR])) (fun _ => ?_)
      refine ok_next2 (Inv := fun _ i => ∀ (j : Nat) x, (j : Int) < i → t.fThreads[j]? = some x → 0 ≤ x.fId) (fun j x hj hx => ?_) h1 h hl
      by_cases e : (j : Int) = i
      · have : i.toNat = j := by omega
        rw [this, hx] at hy; cases hy; exact hr h0
      · exact hI j x (by omega) hx
    · intro x hx
      obtain ⟨j, hj⟩ := List.getElem?_of_mem hx
      exact hI j x (by have := lt_of_get hj; omega) hj
  · exact ok_inr (fun _ => hq)
  · exact ⟨_, rfl, hr⟩
theorem trace_Check_pos (t : api_Trace) (h : Siz t) (e : trace_Check t = some 0) : ∀ x ∈ t.fThreads, 0 ≤ x.fId := by
  have h1 : ∃ r, trace_threads t = some r ∧ InlR (fun r => r.2 ≠ 0) (fun r => r.2 = 0 → ∀ x ∈ t.fThreads, 0 ≤ x.fId) r := trace_threads_pos t h.th h.nTh
  obtain ⟨r, h2, h3⟩ := h1
  unfold trace_Check trace_tables at e
  rw [h2] at e
  cases r with
  | inl r =>
    have h4 : r.2 ≠ 0 := h3
    simp [h4] at e
  | inr r =>
    have h4 : r.2 = 0 → ∀ x ∈ t.fThreads, 0 ≤ x.fId := h3
    by_cases h5 : r.2 = 0
    · exact h4 h5
    · simp [h5] at e
theorem stAt_some {l : List api_State} {a b : Int} (h : (stAt l a b).2 = true) : (stAt l a b).1 ∈ l ∧ atB a b (stAt l a b).1 = true := by
  unfold stAt at h ⊢
  cases e : l.find? (atB a b) with
  | none => rw [e] at h; simp at h
  | some s => exact ⟨List.mem_of_find?_eq_some e, List.find?_some e⟩
theorem critical_waker_no (t : api_Trace) (a b : Int) (hs : t.fStates.length ≤ 9223372036854775807) (h : t.fThreads.length ≤ 9223372036854775807) (hp : ∀ x ∈ t.fThreads, 0 ≤ x.fId) (hA : Alone t) : critical_waker t a b = some (0, false) := by
  unfold critical_waker
  rw [state_At_eq _ _ _ hs]
  simp only [Option.bind_some]
  by_cases hf : (stAt t.fStates a (w64 (b - 1))).2 = true
  · obtain ⟨hm, _⟩ := stAt_some hf
    generalize stAt t.fStates a (w64 (b - 1)) = r at *
    have hk : critical_known t r.1.fBy = some false := by
      apply critical_known_no t _ h
      by_cases h0 : 0 ≤ r.1.fBy
      · exact (tracebookref32_Has_ok t r.1.fBy h).of_eq (hA _ hm h0) rfl
      · intro x hx; have := hp x hx; omega
    rw [hk]
    have : ∀ (v : Option Bool), (∃ b, v = some b) → (v.bind fun v2 => (bif !r.2 then some true else bif !v2 then some true else bif !decide (r.1.fSpan.fTo = b) then some true else (some false).bind fun r8 => some (!r8)).bind fun v3 => bif v3 then some (0, false) else some (r.1.fBy, true)) = some (0, false) := by
      rintro v ⟨c, rfl⟩
      cases c <;> by_cases h9 : r.1.fSpan.fTo = b <;> simp [hf, h9]
    apply this
    by_cases h9 : r.1.fState = 1 <;> simp [h9]
  · have hf' : (stAt t.fStates a (w64 (b - 1))).2 = false := by simpa using hf
    generalize stAt t.fStates a (w64 (b - 1)) = r at *
    by_cases h9 : r.1.fState = 1 <;> simp [h9, hf']
theorem critical_Path_L1_no (t : api_Trace) (b x c : Int) (m : List (Int × Bool)) : loop (critical_Path_L1 t b) (x, m, c, false) = some x := by
  have : Ok (loop (critical_Path_L1 t b) (x, m, c, false)) (fun r => r = x) := by
    refine ok_loop (fun s => s.1 = x ∧ s.2.2.2 = false) (fun _ => 0) (fun s hs => ?_) ⟨rfl, rfl⟩ (by simp [manyRounds])
    obtain ⟨a1, a2, a3, a4⟩ := s
    obtain ⟨e1, e2⟩ := hs
    simp only at e1 e2
    subst e1 e2
    unfold critical_Path_L1
    simp only [cond_false, Option.bind_some]
    exact ok_inr rfl
  obtain ⟨r, h1, h2⟩ := this
  rw [h1, h2]
theorem disj_one {l : List api_State} (hd : Disj l l.length) {s s' : api_State} {a b : Int} (hs : s ∈ l) (hs' : s' ∈ l) (h1 : atB a b s = true) (h2 : atB a b s' = true) : s = s' := by
  obtain ⟨j, hj⟩ := List.getElem?_of_mem hs
  obtain ⟨k, hk⟩ := List.getElem?_of_mem hs'
  simp only [atB, decide_eq_true_eq] at h1 h2
  have lj := lt_of_get hj
  have lk := lt_of_get hk
  rcases Nat.lt_trichotomy j k with h | h | h
  · have := hd j k s s' h (by omega) hj hk (by omega); omega
  · subst h; rw [hj] at hk; exact Option.some.inj hk
  · have := hd k j s' s h (by omega) hk hj (by omega); omega
theorem stAt_of {l : List api_State} (hd : Disj l l.length) {s : api_State} {a b : Int} (hs : s ∈ l) (h1 : atB a b s = true) : stAt l a b = (s, true) := by
  unfold stAt
  cases e : l.find? (atB a b) with
  | none =>
    have := List.find?_eq_none.1 e s hs
    exact absurd h1 this
  | some s' =>
    rw [disj_one hd hs (List.mem_of_find?_eq_some e) h1 (List.find?_some e)]
end Go.VM
namespace Go.VM
def HopAt (t : api_Trace) (a : Int) (h : api_Hop) (s : api_State) : Prop := s ∈ t.fStates ∧ atB a h.fSpan.fFrom s = true ∧ h.fThread = a ∧ h.fState = s.fState
structure Chn (t : api_Trace) (a : Int) (p : api_Span) (hs : List api_Hop) (to : Int) : Prop where
  all : ∀ (k : Nat) h, hs[k]? = some h → ∃ s, HopAt t a h s ∧ (0 < k → h.fSpan.fTo = s.fSpan.fTo) ∧ (k + 1 < hs.length → h.fSpan.fFrom = s.fSpan.fFrom) ∧ (k + 1 = hs.length → h.fSpan.fFrom = max s.fSpan.fFrom p.fFrom ∧ to = h.fSpan.fFrom)
  len : (hs.length : Int) + (to - p.fFrom) ≤ 1000000000000
  rng : p.fFrom ≤ to ∧ to ≤ 1000000000000
theorem chn_next {t : api_Trace} {a : Int} {p : api_Span} {hs : List api_Hop} {to : Int} (hd : Disj t.fStates t.fStates.length) (H : Chn t a p hs to) (hto : p.fFrom < to) {s : api_State} (hs' : s ∈ t.fStates) (hat : atB a (to - 1) s = true) :
    Chn t a p (hs ++ [{ fThread := a, fState := s.fState, fSpan := { fFrom := max s.fSpan.fFrom p.fFrom, fTo := to } }]) (max s.fSpan.fFrom p.fFrom) := by
  have hat' := hat
  simp only [atB, decide_eq_true_eq] at hat'
  have hnew : atB a (max s.fSpan.fFrom p.fFrom) s = true := by
    simp only [atB, decide_eq_true_eq]; omega
  refine ⟨fun k h hk => ?_, ?_, by omega, by have := H.rng; omega⟩
  · by_cases e : k < hs.length
    · rw [List.getElem?_append_left e] at hk
      obtain ⟨u, h1, h2, h3, h4⟩ := H.all k h hk
      refine ⟨u, h1, h2, fun _ => ?_, fun hl => ?_⟩
      · by_cases e2 : k + 1 < hs.length
        · exact h3 e2
        · have := h4 (by omega); omega
      · simp at hl; omega
    · have hkl := lt_of_get hk
      have : k = hs.length := by simp at hkl; omega
      subst this
      simp at hk
      subst hk
      refine ⟨s, ⟨hs', hnew, rfl, rfl⟩, fun h0 => ?_, fun hl => ?_, fun _ => ⟨rfl, rfl⟩⟩
      · obtain ⟨g, hg⟩ : ∃ g, hs[hs.length - 1]? = some g := ⟨_, List.getElem?_eq_getElem (by omega)⟩
        obtain ⟨u, h1, h2, h3, h4⟩ := H.all _ g hg
        have h5 := h4 (by omega)
        show to = s.fSpan.fTo
        by_cases e3 : s.fSpan.fTo = to
        · exact e3.symm
        · exfalso
          have h6 : atB a to s = true := by simp only [atB, decide_eq_true_eq]; omega
          have h7 := h1.2.1
          rw [← h5.2] at h7
          have := disj_one hd hs' h1.1 h6 h7
          subst this
          omega
      · simp at hl
  · have := H.len
    simp only [List.length_append, List.length_cons, List.length_nil]
    omega
theorem slices_Reverse_eq (l : List api_Hop) (hl : l.length ≤ 9223372036854775807) : slices_Reverse_api_Hop_api_Hop_k1 l = some l.reverse := by
  have : Ok (slices_Reverse_api_Hop_api_Hop_k1 l) (fun r => r = l.reverse) := by
    unfold slices_Reverse_api_Hop_api_Hop_k1
    rw [show w64 ((l.length : Int) - 1) = (l.length : Int) - 1 from w64_of (by omega)]
    refine ok_loop (fun s : List api_Hop × Int × Int => 0 ≤ s.2.1 ∧ s.2.1 + s.2.2 = (l.length : Int) - 1 ∧ s.2.1 ≤ s.2.2 + 1 ∧ s.1.length = l.length ∧ ∀ k : Nat, k < l.length → s.1[k]? = if (k : Int) < s.2.1 ∨ s.2.2 < (k : Int) then l[l.length - 1 - k]? else l[k]?) (fun s => (s.2.2 + 1).toNat) (fun s hs => ?_) ⟨by simp, by simp, by simp, by simp, fun k hk => ?_⟩ (by simp [manyRounds]; omega)
    · obtain ⟨c, i, j⟩ := s
      obtain ⟨h1, h2, h3, h4, h5⟩ := hs
      simp only at h1 h2 h3 h4 h5
      unfold slices_Reverse_api_Hop_api_Hop_k1_L1
      dsimp only
      refine ok_ite (fun hi => ?_) (fun hi => ok_inr ?_)
      · refine ok_bind (ok_idx (by omega) (by omega)) (fun y hy => ?_)
        refine ok_bind (ok_idx (by omega) (by omega)) (fun z hz => ?_)
        refine ok_bind (Q := Yes) (ok_idx (by omega) (by omega)).yes (fun _ _ => ?_)
        refine ok_bind (Q := Yes) (ok_idx (by omega) (by simp; omega)).yes (fun _ _ => ?_)
        rw [show w64 (i + 1) = i + 1 from w64_of (by omega), show w64 (j - 1) = j - 1 from w64_of (by omega)]
        refine ok_inl ⟨⟨by simp; omega, by simp; omega, by simp; omega, by simp; omega, fun k hk => ?_⟩, by simp; omega⟩
        simp only [List.getElem?_set, List.length_set]
        have hy' := h5 j.toNat (by omega)
        have hz' := h5 i.toNat (by omega)
        rw [hy, if_neg (by omega)] at hy'
        rw [hz, if_neg (by omega)] at hz'
        by_cases e1 : j.toNat = k
        · rw [if_pos e1, if_pos (by omega), if_pos (by omega), hz']
          congr 1; omega
        · rw [if_neg e1]
          by_cases e2 : i.toNat = k
          · rw [if_pos e2, if_pos (by omega), if_pos (by omega), hy']
            congr 1; omega
          · rw [if_neg e2, h5 k hk]
            by_cases e3 : (k : Int) < i ∨ j < (k : Int)
            · rw [if_pos e3, if_pos (by omega)]
            · rw [if_neg e3, if_neg (by omega)]
      · apply List.ext_getElem?
        intro k
        by_cases hk : k < l.length
        · rw [h5 k hk, List.getElem?_reverse hk]
          split
          · rfl
          · congr 1; omega
        · rw [List.getElem?_eq_none (by omega), List.getElem?_eq_none (by simp; omega)]
    · simp only
      rw [if_neg (by omega)]
  obtain ⟨r, h1, h2⟩ := this
  rw [h1, h2]
def HopsOk (t : api_Trace) (a : Int) (r : List api_Hop) : Prop := r.length ≤ 1000000000000 ∧ ∀ (i : Nat) h, r[i]? = some h → ∃ s, HopAt t a h s ∧ (i + 1 < r.length → h.fSpan.fTo = s.fSpan.fTo) ∧ (0 < i → h.fSpan.fFrom = s.fSpan.fFrom)
theorem hops_of {t : api_Trace} {a : Int} {p : api_Span} {hs : List api_Hop} {to : Int} (H : Chn t a p hs to) : HopsOk t a hs.reverse := by
  refine ⟨by have := H.len; have := H.rng; simp; omega, fun i h hi => ?_⟩
  have hl := lt_of_get hi
  simp at hl
  rw [List.getElem?_reverse hl] at hi
  obtain ⟨s, h1, h2, h3, h4⟩ := H.all _ h hi
  refine ⟨s, h1, fun h5 => h2 (by simp at h5; omega), fun h5 => h3 (by omega)⟩
theorem critical_Path_ok (t : api_Trace) (a : Int) (p : api_Span) (h : Siz t) (ht : t.fThreads.length ≤ 1000000) (hA : Alone t) : Ok (critical_Path t a p) (fun r => r.2 = 0 → Gd t.fStates ∧ HopsOk t a r.1) := by
  unfold critical_Path
  obtain ⟨r, h1, h2⟩ := critical_check_ok t a p h ht
  rw [h1, Option.bind_some]
  refine ok_nite (fun h0 => ok_some (fun e => absurd e h0)) (fun e => ?_)
  obtain ⟨hd, hp1, hp2, hp3⟩ := h2 e
  have hpos : ∀ x ∈ t.fThreads, 0 ≤ x.fId := by
    apply trace_Check_pos t h
    obtain ⟨q, h3, _⟩ := trace_Check_ok t h ht
    unfold critical_check at h1
    rw [h3, Option.bind_some] at h1
    by_cases hq : q = 0
    · rw [h3, hq]
    · simp [hq] at h1; omega
  refine ok_bindS (Q := InlR (fun hs => HopsOk t a hs.reverse) (fun r => r.2 ≠ 0)) (ok_loop (fun s : Int × List api_Hop × Int => s.1 = a ∧ Chn t a p s.2.1 s.2.2) (fun s => (s.2.2 - p.fFrom).toNat) (fun s hs => ?_) ⟨rfl, ⟨by simp, by simp; omega, by simp; omega⟩⟩ (by simp [manyRounds]; omega)) (fun hs hh => ?_) (fun r hr => ok_some (fun e => absurd e hr))
  · obtain ⟨x, hs', to⟩ := s
    obtain ⟨e1, H⟩ := hs
    simp only at e1 H
    subst e1
    unfold critical_Path_L2
    dsimp only
    refine ok_ite (fun hto => ?_) (fun _ => ok_inr (hops_of H))
    have hr := H.rng
    rw [critical_waker_no t _ _ h.st h.th hpos hA, Option.bind_some, critical_Path_L1_no, Option.bind_some, state_At_eq _ _ _ h.st, Option.bind_some, show w64 (to - 1) = to - 1 from w64_of (by omega)]
    refine ok_not (fun _ => ok_inr (by simp [InlR])) (fun hf => ?_)
    obtain ⟨hm, hat⟩ := stAt_some hf
    have hl := H.len
    rw [room_ok (by simp; omega) (by simp; omega)]
    have hn := chn_next hd.1 H hto hm hat
    refine ok_inl ⟨⟨rfl, hn⟩, ?_⟩
    simp only [atB, decide_eq_true_eq] at hat
    show (max _ _ - _ : Int).toNat < (to - p.fFrom).toNat
    omega
  · have hh' : HopsOk t a hs.reverse := hh
    dsimp only
    rw [slices_Reverse_eq hs (by have := hh'.1; simp at this; omega)]
    exact ok_some (fun _ => ⟨hd, hh'⟩)
end Go.VM
namespace Go.VM
theorem state_Total_one (l : List api_State) (hl : l.length ≤ 9223372036854775807) (hd : Gd l) (k0 : Nat) (s : api_State) (hs : l[k0]? = some s) (p : api_Span) (h0 : 0 ≤ p.fFrom) (h1 : p.fFrom < p.fTo) (h2 : p.fTo ≤ 1000000000000) (h3 : s.fSpan.fFrom ≤ p.fFrom) (h4 : p.fTo ≤ s.fSpan.fTo) :
    state_Total l s.fThread s.fState p = some (p.fTo - p.fFrom) := by
  have : Ok (state_Total l s.fThread s.fState p) (fun r => r = p.fTo - p.fFrom) := by
    unfold state_Total
    rw [spans_Valid_eq, Option.bind_some]
    refine ok_not (fun e => absurd (⟨h0, h1, h2⟩ : _ ∧ _ ∧ _) (of_decide_eq_false e)) (fun _ => ?_)
    have hk0 := lt_of_get hs
    refine ok_bind (Q := fun r => r = p.fTo - p.fFrom) (ok_up2 l.length (fun a i => a = if (k0 : Int) < i then p.fTo - p.fFrom else 0) hl (by rw [if_neg (by omega)]) (fun a i hI g1 g2 => ?_)) (fun r hr => ok_some hr)
    unfold state_Total_L1
    dsimp only
    refine ok_ite (fun hi => ?_) (fun hi => ok_inr (by rw [hI, if_pos (by omega)]))
    refine ok_bind (Q := fun r => r = if (k0 : Int) < i + 1 then p.fTo - p.fFrom else 0) ?_ (fun r hr => ok_next2 (Inv := fun a i => a = if (k0 : Int) < i then p.fTo - p.fFrom else 0) hr g1 hi hl)
    refine ok_bind (ok_idx g1 hi) (fun y hy => ?_)
    have hv := hd.2 i.toNat y (by omega) hy
    have hvs := hd.2 k0 s (by omega) hs
    refine ok_bind (Q := fun v => (v = true ↔ y.fThread = s.fThread ∧ y.fState = s.fState)) ?_ (fun v hv2 => ?_)
    · by_cases e1 : y.fThread = s.fThread <;> by_cases e2 : y.fState = s.fState <;> simp [e1, e2, Ok]
    by_cases e : (k0 : Int) = i
    · have : i.toNat = k0 := by omega
      rw [this, hs] at hy; cases hy
      rw [hv2.2 ⟨rfl, rfl⟩]
      rw [hI, if_neg (by omega), if_pos (by omega)]
      have q : min s.fSpan.fTo p.fTo - max s.fSpan.fFrom p.fFrom = p.fTo - p.fFrom := by omega
      rw [q, w64_of (n := p.fTo - p.fFrom) (by omega)]
      have q2 : (0 : Int) + max 0 (p.fTo - p.fFrom) = p.fTo - p.fFrom := by omega
      rw [q2]
      exact ok_some (w64_of (by omega))
    · have q3 : (if (k0 : Int) < i + 1 then p.fTo - p.fFrom else 0) = a := by
        rw [hI]
        by_cases e4 : (k0 : Int) < i
        · rw [if_pos e4, if_pos (by omega)]
        · rw [if_neg e4, if_neg (by omega)]
      rw [q3]
      have ha : 0 ≤ a ∧ a ≤ 1000000000000 := by
        rw [hI]; split <;> omega
      refine ok_cond (fun ev => ok_some ?_) (fun _ => ok_some rfl)
      have ev2 := hv2.1 ev
      have q4 : y.fSpan.fTo ≤ s.fSpan.fFrom ∨ s.fSpan.fTo ≤ y.fSpan.fFrom := by
        rcases Nat.lt_trichotomy i.toNat k0 with h | h | h
        · exact .inl (hd.1 _ _ y s h (by omega) hy hs ev2.1)
        · omega
        · exact .inr (hd.1 _ _ s y h (by omega) hs hy ev2.1.symm)
      rw [w64_of (n := min y.fSpan.fTo p.fTo - max y.fSpan.fFrom p.fFrom) (by omega)]
      have q5 : a + max 0 (min y.fSpan.fTo p.fTo - max y.fSpan.fFrom p.fFrom) = a := by omega
      rw [q5]
      exact w64_of (by omega)
  obtain ⟨r, h5, h6⟩ := this
  rw [h5, h6]
end Go.VM
namespace Go.VM
theorem nodup_le {α : Type} [DecidableEq α] : ∀ (xs ys : List α), xs.Nodup → (∀ x ∈ xs, x ∈ ys) → xs.length ≤ ys.length
  | [], _, _, _ => by simp
  | x :: xs, ys, hn, hs => by
    have hx : x ∈ ys := hs x (by simp)
    have h1 := nodup_le xs (ys.erase x) (List.nodup_cons.1 hn).2 (fun z hz => by
      have hne : z ≠ x := fun e => (List.nodup_cons.1 hn).1 (e ▸ hz)
      exact (List.mem_erase_of_ne hne).2 (hs z (by simp [hz])))
    have h2 := List.length_erase_of_mem hx
    have h3 := List.length_pos_of_mem hx
    simp only [List.length_cons]; omega
theorem mget_mput {κ ν : Type} [DecidableEq κ] (k k' : κ) (v : ν) : ∀ (m : List (κ × ν)), mget k (mput k' v m) = if k = k' then some v else mget k m
  | [] => by simp [mput, mget]
  | p :: r => by
    simp only [mput]
    by_cases e : k' = p.1
    · subst e
      simp only [if_true, mget]
      by_cases e2 : k = p.1 <;> simp [e2]
    · rw [if_neg e]
      simp only [mget]
      rw [mget_mput k k' v r]
      by_cases e2 : k = p.1
      · subst e2
        rw [if_pos rfl, if_pos rfl, if_neg (fun h => e h.symm)]
      · rw [if_neg e2, if_neg e2]
end Go.VM
namespace Go.VM
theorem critical_known_yes (t : api_Trace) (a : Int) (h : t.fThreads.length ≤ 9223372036854775807) : Ok (critical_known t a) (fun b => b = true → a ∈ t.fThreads.map (·.fId)) := by
  unfold critical_known slices_ContainsFunc_api_Thread_api_Thread_k1
  refine ok_bind (Q := fun b => b = true → a ∈ t.fThreads.map (·.fId)) (ok_bind (Q := fun r => 0 ≤ r → a ∈ t.fThreads.map (·.fId)) ?_ (fun r hr => ok_some (fun e => hr (of_decide_eq_true e)))) (fun _ hb => ok_some hb)
  unfold slices_IndexFunc_api_Thread_api_Thread_k1
  refine ok_bindS (Q := InlR Yes (fun _ : Int => a ∈ t.fThreads.map (fun x : api_Thread => x.fId))) (ok_up t.fThreads.length h fun i h1 h2 => ?_) (fun _ _ => ok_some (by omega)) (fun _ hr => ok_some (fun _ => (show a ∈ t.fThreads.map (fun x : api_Thread => x.fId) from hr)))
  unfold slices_IndexFunc_api_Thread_api_Thread_k1_L1 critical_known_1_k1
  refine ok_ite (fun hi => ?_) (fun _ => ok_inr trivial)
  refine ok_bind (ok_idx h1 hi) (fun y hy => ?_)
  simp only [Option.bind_some]
  exact ok_ite (fun e => ok_inr (by
    have := List.mem_of_getElem? hy
    exact List.mem_map.2 ⟨y, this, e⟩)) (fun _ => ok_next h1 hi h)
def wkr (t : api_Trace) (a b : Int) : Int × Bool := (critical_waker t a b).getD (0, false)
theorem critical_waker_ok (t : api_Trace) (a b : Int) (hz : Siz t) : Ok (critical_waker t a b) (fun r => r.2 = true → r.1 ∈ t.fThreads.map (·.fId)) := by
  unfold critical_waker
  rw [state_At_eq _ _ _ hz.st, Option.bind_some]
  refine ok_bind (Q := Yes) (by repeat' (first | with_reducible exact ok_yes | with_reducible exact ok_inrY | with_reducible exact ok_inlY | (with_reducible refine ok_next ?_ ?_ ?_ <;> (first | assumption | omega | (rw [w64_of] <;> omega))) | (with_reducible refine ok_nite (fun _ => ?_) (fun _ => ?_)) | (with_reducible refine ok_ite (fun _ => ?_) (fun _ => ?_)) | (with_reducible refine ok_not (fun _ => ?_) (fun _ => ?_)) | (with_reducible refine ok_cond (fun _ => ?_) (fun _ => ?_)) | with_reducible refine ok_bind (ok_idx (by (first | assumption | omega | (rw [w64_of] <;> omega))) (by (first | assumption | omega | (rw [w64_of] <;> omega)))) (fun _ _ => ?_) | (with_reducible refine ok_bind (Q := Yes) ?_ (fun _ _ => ?_)) | dsimp only)) (fun v2 _ => ?_)
  refine ok_bind (Q := fun v => v = false → (stAt t.fStates a (w64 (b - 1))).1.fBy ∈ t.fThreads.map (·.fId)) ?_ (fun v hv => ok_cond (fun _ => ok_some (by simp)) (fun e => ok_some (fun _ => hv e)))
  refine ok_not (fun _ => ok_some (by simp)) (fun _ => ?_)
  refine ok_not (fun _ => ok_some (by simp)) (fun _ => ?_)
  refine ok_nite (fun _ => ok_some (by simp)) (fun _ => ?_)
  refine ok_bind (critical_known_yes t _ hz.th) (fun r hr => ok_some (fun e => hr (by simpa using e)))
theorem critical_waker_eq (t : api_Trace) (a b : Int) (hz : Siz t) : critical_waker t a b = some (wkr t a b) := by
  obtain ⟨r, h1, _⟩ := critical_waker_ok t a b hz
  unfold wkr; rw [h1]; rfl
theorem wkr_known {t : api_Trace} {a b : Int} (hz : Siz t) (h : (wkr t a b).2 = true) : (wkr t a b).1 ∈ t.fThreads.map (·.fId) :=
  (critical_waker_ok t a b hz).of_eq (critical_waker_eq t a b hz) h
structure Wk (t : api_Trace) (b a : Int) (cs : List Int) (x : Int) : Prop where
  first : cs[0]? = some a
  last : cs[cs.length - 1]? = some x
  step : ∀ (k : Nat) y z, cs[k]? = some y → cs[k + 1]? = some z → wkr t y b = (z, true)
  nd : cs.Nodup
  kn : ∀ y ∈ cs, y ∈ a :: t.fThreads.map (·.fId)
theorem Wk.pos {t b a cs x} (h : Wk t b a cs x) : 0 < cs.length := by have := lt_of_get h.first; omega
theorem Wk.len {t b a cs x} (h : Wk t b a cs x) : cs.length ≤ t.fThreads.length + 1 := by
  have := nodup_le cs _ h.nd h.kn
  simpa using this
theorem Wk.one (t : api_Trace) (b a : Int) : Wk t b a [a] a :=
  ⟨rfl, rfl, fun k y z _ h => by simp at h, by simp, by simp⟩
theorem Wk.more {t : api_Trace} {b a : Int} {cs : List Int} {x : Int} (hz : Siz t) (h : Wk t b a cs x) (hw : (wkr t x b).2 = true) (hn : (wkr t x b).1 ∉ cs) : Wk t b a (cs ++ [(wkr t x b).1]) (wkr t x b).1 := by
  have hp := h.pos
  refine ⟨by rw [List.getElem?_append_left hp]; exact h.first, by simp, fun k y z hy hz' => ?_, ?_, fun y hy => ?_⟩
  · have hl := lt_of_get hz'
    simp at hl
    rw [List.getElem?_append_left (by omega)] at hy
    by_cases e : k + 1 < cs.length
    · rw [List.getElem?_append_left e] at hz'
      exact h.step k y z hy hz'
    · have e2 : k + 1 = cs.length := by omega
      rw [List.getElem?_append_right (by omega), e2] at hz'
      simp at hz'
      have e3 : k = cs.length - 1 := by omega
      rw [e3, h.last] at hy
      cases hy; subst hz'
      rw [← hw]
  · exact List.nodup_append.2 ⟨h.nd, by simp, fun y hy z hz' e => by simp at hz'; subst hz' e; exact hn hy⟩
  · rcases List.mem_append.1 hy with hy | hy
    · exact h.kn y hy
    · simp at hy; subst hy
      exact List.mem_cons_of_mem _ (wkr_known hz hw)
theorem mput_length {κ ν : Type} [DecidableEq κ] (k : κ) (v : ν) : ∀ (m : List (κ × ν)), mget k m = none → (mput k v m).length = m.length + 1
  | [], _ => rfl
  | p :: r, h => by
    simp only [mget] at h
    by_cases e : k = p.1
    · rw [if_pos e] at h; simp at h
    · rw [if_neg e] at h
      simp only [mput, if_neg e, List.length_cons]
      rw [mput_length k v r h]
end Go.VM
namespace Go.VM
theorem path_L1_ok (t : api_Trace) (a b : Int) (hz : Siz t) (ht : t.fThreads.length ≤ 1000000) : Ok (loop (critical_Path_L1 t b) (a, mput a true [], (wkr t a b).1, (wkr t a b).2)) (fun x => ∃ cs, Wk t b a cs x) := by
  refine ok_loop (fun s => ∃ cs, Wk t b a cs s.1 ∧ (∀ k, mget k s.2.1 = if k ∈ cs then some true else none) ∧ s.2.1.length = cs.length ∧ wkr t s.1 b = (s.2.2.1, s.2.2.2)) (fun s => t.fThreads.length + 2 - s.2.1.length) (fun s hs => ?_) ⟨[a], Wk.one t b a, fun k => ?_, rfl, rfl⟩ (by simp [manyRounds]; omega)
  · obtain ⟨x, m, w, o⟩ := s
    obtain ⟨cs, h1, h2, h3, h4⟩ := hs
    simp only at h1 h2 h3 h4
    unfold critical_Path_L1
    dsimp only
    refine ok_bind (Q := fun v => v = true → o = true ∧ w ∉ cs) ?_ (fun v hv => ok_cond (fun e => ?_) (fun _ => ok_inr ⟨cs, h1⟩))
    · refine ok_cond (fun e => ok_some (fun e2 => ⟨e, fun hm => ?_⟩)) (fun _ => ok_some (by simp))
      rw [h2 w, if_pos hm] at e2
      simp at e2
    · obtain ⟨e1, e2⟩ := hv e
      rw [critical_waker_eq t w b hz, Option.bind_some]
      have hw : (wkr t x b).2 = true := by rw [h4]; exact e1
      have hx : (wkr t x b).1 = w := by rw [h4]
      have hn := h1.more hz hw (by rw [hx]; exact e2)
      rw [hx] at hn
      have hl := hn.len
      have hg : mget w m = none := by rw [h2 w, if_neg e2]
      have hml := mput_length w true m hg
      refine ok_inl ⟨⟨cs ++ [w], hn, fun k => ?_, by simp [hml, h3], rfl⟩, ?_⟩
      · rw [mget_mput, h2 k]
        by_cases e3 : k = w
        · simp [e3]
        · simp [e3]
      · simp only [hml]
        simp at hl
        omega
  · rw [mget_mput]
    by_cases e : k = a <;> simp [e, mget]
structure HopG (t : api_Trace) (h : api_Hop) : Prop where
  s : ∃ (k : Nat) (s : api_State), t.fStates[k]? = some s ∧ atB h.fThread h.fSpan.fFrom s = true ∧ s.fState = h.fState ∧ h.fSpan.fTo ≤ s.fSpan.fTo
  v : 0 ≤ h.fSpan.fFrom ∧ h.fSpan.fFrom < h.fSpan.fTo ∧ h.fSpan.fTo ≤ 1000000000000
structure Chg (t : api_Trace) (a : Int) (p : api_Span) (hs : List api_Hop) (th to : Int) : Prop where
  all : ∀ (k : Nat) h, hs[k]? = some h → HopG t h
  st : ∀ h, hs[0]? = some h → h.fSpan.fTo = p.fTo ∧ ∃ cs, Wk t h.fSpan.fTo a cs h.fThread
  nx : ∀ (k : Nat) g h, hs[k]? = some g → hs[k + 1]? = some h → g.fSpan.fFrom = h.fSpan.fTo ∧ ∃ cs, Wk t h.fSpan.fTo g.fThread cs h.fThread
  e0 : hs = [] → th = a ∧ to = p.fTo
  e1 : ∀ h, hs[hs.length - 1]? = some h → h.fThread = th ∧ h.fSpan.fFrom = to
  len : (hs.length : Int) + (to - p.fFrom) ≤ 1000000000000
  rng : p.fFrom ≤ to ∧ to ≤ 1000000000000
theorem chg_next {t : api_Trace} {a : Int} {p : api_Span} {hs : List api_Hop} {th to th' : Int} (H : Chg t a p hs th to) (h0 : 0 ≤ p.fFrom) (hto : p.fFrom < to) {cs : List Int} (hw : Wk t to th cs th') {s : api_State} (hs' : s ∈ t.fStates) (hat : atB th' (to - 1) s = true) :
    Chg t a p (hs ++ [{ fThread := th', fState := s.fState, fSpan := { fFrom := max s.fSpan.fFrom p.fFrom, fTo := to } }]) th' (max s.fSpan.fFrom p.fFrom) := by
  have hat' := hat
  simp only [atB, decide_eq_true_eq] at hat'
  have hr := H.rng
  refine ⟨fun k h hk => ?_, fun h hh => ?_, fun k g h hg hh => ?_, fun e => by simp at e, fun h hh => ?_, ?_, by omega⟩
  · by_cases e : k < hs.length
    · rw [List.getElem?_append_left e] at hk
      exact H.all k h hk
    · have hkl := lt_of_get hk
      have : k = hs.length := by simp at hkl; omega
      subst this
      simp at hk
      subst hk
      obtain ⟨j, hj⟩ := List.getElem?_of_mem hs'
      refine ⟨⟨j, s, hj, ?_, rfl, ?_⟩, ?_⟩
      · simp only [atB, decide_eq_true_eq]; omega
      · show to ≤ s.fSpan.fTo
        omega
      · show 0 ≤ max s.fSpan.fFrom p.fFrom ∧ max s.fSpan.fFrom p.fFrom < to ∧ to ≤ _
        omega
  · cases hs with
    | nil =>
      simp at hh; subst hh
      obtain ⟨e1, e2⟩ := H.e0 rfl
      subst e1
      exact ⟨e2, cs, hw⟩
    | cons g gs =>
      simp at hh; subst hh
      exact H.st g rfl
  · by_cases e : k + 1 < hs.length
    · rw [List.getElem?_append_left e] at hh
      rw [List.getElem?_append_left (by omega)] at hg
      exact H.nx k g h hg hh
    · have hkl := lt_of_get hh
      have : k + 1 = hs.length := by simp at hkl; omega
      rw [List.getElem?_append_left (by omega)] at hg
      rw [List.getElem?_append_right (by omega), this] at hh
      simp at hh
      subst hh
      obtain ⟨e2, e3⟩ := H.e1 g (by rw [show hs.length - 1 = k by omega]; exact hg)
      subst e2
      exact ⟨e3, cs, hw⟩
  · simp at hh
    subst hh
    exact ⟨rfl, rfl⟩
  · have := H.len
    simp only [List.length_append, List.length_cons, List.length_nil]
    omega
structure PathG (t : api_Trace) (a : Int) (p : api_Span) (r : List api_Hop) : Prop where
  pos : 0 < r.length
  len : r.length ≤ 1000000000000
  all : ∀ (i : Nat) h, r[i]? = some h → HopG t h
  fst : ∀ h, r[0]? = some h → h.fSpan.fFrom = p.fFrom
  lst : ∀ h, r[r.length - 1]? = some h → h.fSpan.fTo = p.fTo ∧ ∃ cs, Wk t h.fSpan.fTo a cs h.fThread
  nx : ∀ (i : Nat) g h, r[i]? = some h → r[i + 1]? = some g → g.fSpan.fFrom = h.fSpan.fTo ∧ ∃ cs, Wk t h.fSpan.fTo g.fThread cs h.fThread
theorem pathg_of {t : api_Trace} {a : Int} {p : api_Span} {hs : List api_Hop} {th to : Int} (H : Chg t a p hs th to) (hp : p.fFrom < p.fTo) (he : ¬ p.fFrom < to) : PathG t a p hs.reverse := by
  have hr := H.rng
  have hn : 0 < hs.length := by
    cases hs with
    | nil => have := (H.e0 rfl).2; omega
    | cons => simp
  refine ⟨by simpa using hn, by have := H.len; simp; omega, fun i h hi => ?_, fun h hh => ?_, fun h hh => ?_, fun i g h hh hg => ?_⟩
  · have hl := lt_of_get hi
    simp at hl
    rw [List.getElem?_reverse hl] at hi
    exact H.all _ h hi
  · rw [List.getElem?_reverse hn] at hh
    have := (H.e1 h (by simpa using hh)).2
    omega
  · rw [List.getElem?_reverse (by simp; omega)] at hh
    simp only [List.length_reverse] at hh
    rw [show hs.length - 1 - (hs.length - 1) = 0 by omega] at hh
    exact H.st h hh
  · have hl := lt_of_get hg
    simp at hl
    rw [List.getElem?_reverse (by omega)] at hh hg
    rw [show hs.length - 1 - i = hs.length - 1 - (i + 1) + 1 by omega] at hh
    exact H.nx _ g h hg hh
theorem critical_Path_gen (t : api_Trace) (a : Int) (p : api_Span) (h : Siz t) (ht : t.fThreads.length ≤ 1000000) : Ok (critical_Path t a p) (fun r => r.2 = 0 → Gd t.fStates ∧ critical_check t a p = some 0 ∧ PathG t a p r.1) := by
  unfold critical_Path
  obtain ⟨r, h1, h2⟩ := critical_check_ok t a p h ht
  rw [h1, Option.bind_some]
  refine ok_nite (fun h0 => ok_some (fun e => absurd e h0)) (fun e => ?_)
  obtain ⟨hd, hp1, hp2, hp3⟩ := h2 e
  subst e
  refine ok_bindS (Q := InlR (fun hs => PathG t a p hs.reverse) (fun r => r.2 ≠ 0)) (ok_loop (fun s : Int × List api_Hop × Int => Chg t a p s.2.1 s.1 s.2.2) (fun s => (s.2.2 - p.fFrom).toNat) (fun s H => ?_) ⟨by simp, by simp, by simp, by simp, by simp, by simp; omega, by simp; omega⟩ (by simp [manyRounds]; omega)) (fun hs hh => ?_) (fun r hr => ok_some (fun e => absurd e hr))
  · obtain ⟨x, hs', to⟩ := s
    simp only at H
    unfold critical_Path_L2
    dsimp only
    refine ok_ite (fun hto => ?_) (fun hn => ok_inr (pathg_of H hp2 hn))
    have hr := H.rng
    rw [critical_waker_eq t _ _ h, Option.bind_some]
    refine ok_bind (path_L1_ok t x to h ht) (fun x' hx' => ?_)
    obtain ⟨cs, hw⟩ := hx'
    rw [state_At_eq _ _ _ h.st, Option.bind_some, show w64 (to - 1) = to - 1 from w64_of (by omega)]
    refine ok_not (fun _ => ok_inr (by simp [InlR])) (fun hf => ?_)
    obtain ⟨hm, hat⟩ := stAt_some hf
    have hl := H.len
    rw [room_ok (by simp; omega) (by simp; omega)]
    have hn := chg_next H hp1 hto hw hm hat
    refine ok_inl ⟨hn, ?_⟩
    simp only [atB, decide_eq_true_eq] at hat
    show (max _ _ - _ : Int).toNat < (to - p.fFrom).toNat
    omega
  · have hh' : PathG t a p hs.reverse := hh
    dsimp only
    rw [slices_Reverse_eq hs (by have := hh'.len; simp at this; omega)]
    exact ok_some (fun _ => ⟨hd, rfl, hh'⟩)
theorem critical_comes_yes (t : api_Trace) (a x b : Int) (hz : Siz t) (ht : t.fThreads.length ≤ 1000000) (cs : List Int) (H : Wk t b a cs x) : Ok (critical_comes t a x b) (fun r => r = true) := by
  unfold critical_comes
  have hl := H.len
  refine ok_bindS (Q := InlR (fun _ => False) (fun r => r = true)) (ok_loop (fun s => ∃ k, cs[k]? = some s.1 ∧ (∀ y, mget y s.2 = if y ∈ cs.take k then some true else none) ∧ s.2.length = k) (fun s => cs.length - s.2.length) (fun s hs => ?_) ⟨0, H.first, by simp [mget], rfl⟩ (by simp [manyRounds]; omega)) (fun _ h => h.elim) (fun r hr => ok_some hr)
  obtain ⟨y, m⟩ := s
  obtain ⟨k, h1, h2, h3⟩ := hs
  simp only at h1 h2 h3
  unfold critical_comes_L1
  dsimp only
  have hk := lt_of_get h1
  have hnt : y ∉ cs.take k := by
    intro hm
    obtain ⟨j, hj, e⟩ := List.mem_take_iff_getElem.1 hm
    have h5 : cs[k] = y := by
      have := List.getElem?_eq_getElem hk; rw [this] at h1; exact Option.some.inj h1
    have := (List.getElem_inj (h₀ := by omega) (h₁ := hk) H.nd).1 (e.trans h5.symm)
    omega
  rw [h2 y, if_neg hnt]
  refine ok_not (fun _ => ?_) (fun e => by simp at e)
  refine ok_ite (fun _ => ok_inr (rfl : true = true)) (fun hne => ?_)
  rw [critical_waker_eq t _ _ hz, Option.bind_some]
  have hk1 : k + 1 < cs.length := by
    by_cases e : k + 1 < cs.length
    · exact e
    · exfalso
      have e2 : k = cs.length - 1 := by omega
      rw [e2, H.last] at h1
      exact hne (Option.some.inj h1).symm
  have hs1 := H.step k y cs[k + 1] h1 (List.getElem?_eq_getElem hk1)
  rw [hs1]
  refine ok_not (fun e => by simp at e) (fun _ => ?_)
  have hg : mget y m = none := by rw [h2 y, if_neg hnt]
  have hml := mput_length y true m hg
  refine ok_inl ⟨⟨k + 1, List.getElem?_eq_getElem hk1, fun z => ?_, by simp [hml, h3]⟩, by simp [hml]; omega⟩
  rw [mget_mput, h2 z]
  have h5 : cs[k] = y := by
    have := List.getElem?_eq_getElem hk; rw [this] at h1; exact Option.some.inj h1
  rw [List.take_succ_eq_append_getElem hk, h5]
  by_cases e3 : z = y <;> simp [e3]
end Go.VM
namespace Go.VM
theorem critical_within_yes (t : api_Trace) (h : api_Hop) (hz : Siz t) (hd : Gd t.fStates) (H : HopG t h) : critical_within t h = some true := by
  obtain ⟨k, s, h1, h2, h3, h4⟩ := H.s
  unfold critical_within
  rw [state_At_eq _ _ _ hz.st, Option.bind_some, stAt_of hd.1 (List.mem_of_getElem? h1) h2]
  simp [h3, h4]
theorem critical_Check_yes (t : api_Trace) (a : Int) (p : api_Span) (r : List api_Hop) (hz : Siz t) (ht : t.fThreads.length ≤ 1000000) (hd : Gd t.fStates) (hc : critical_check t a p = some 0) (H : PathG t a p r) : Ok (critical_Check t a p r) (fun b => b = true) := by
  unfold critical_Check
  rw [hc, Option.bind_some]
  have hl := H.len
  have hp := H.pos
  refine ok_bind (Q := fun v => v = false) ?_ (fun v hv => ?_)
  · refine ok_nite (fun e => absurd rfl e) (fun _ => ?_)
    refine ok_ite (fun e => absurd e (by omega)) (fun _ => ?_)
    refine ok_bind (ok_idx (by omega) (by omega)) (fun y hy => ?_)
    refine ok_nite (fun e => absurd (H.fst y (by simpa using hy)) e) (fun _ => ?_)
    rw [show w64 ((r.length : Int) - 1) = (r.length : Int) - 1 from w64_of (by omega)]
    refine ok_bind (ok_idx (by omega) (by omega)) (fun z hz' => ok_some ?_)
    rw [(H.lst z (by rw [show r.length - 1 = ((r.length : Int) - 1).toNat by omega]; exact hz')).1]
    simp
  · subst hv
    refine ok_cond (fun e => by simp at e) (fun _ => ?_)
    refine ok_bindS (Q := InlR Yes (fun b => b = true)) (ok_up r.length (by omega) fun i h1 h2 => ?_) (fun _ _ => ok_some rfl) (fun _ hr => ok_some hr)
    unfold critical_Check_L1
    refine ok_ite (fun hi => ?_) (fun _ => ok_inr trivial)
    refine ok_bind (ok_idx h1 hi) (fun y hy => ?_)
    have e3 : w64 (i + 1) = i + 1 := w64_of (by omega)
    rw [e3]
    have hg := H.all _ y hy
    have hv : spans_Valid y.fSpan = some true := by
      rw [spans_Valid_eq]; simp [hg.v]
    rw [hv, critical_within_yes t y hz hd hg]
    simp only [Option.bind_some, Bool.not_true, cond_false]
    refine ok_ite (fun h => ?_) (fun h => ?_)
    · refine ok_bind (ok_idx (by omega) h) (fun g hgx => ?_)
      refine ok_bind (ok_idx (by omega) h) (fun g' hgx' => ?_)
      rw [hgx] at hgx'; cases hgx'
      obtain ⟨e4, cs, hw⟩ := H.nx i.toNat g y hy (by rw [show i.toNat + 1 = (i + 1).toNat by omega]; exact hgx)
      refine ok_nite (fun e => absurd e4 e) (fun _ => ?_)
      obtain ⟨b, h5, h6⟩ := critical_comes_yes t _ _ _ hz ht cs hw
      rw [h5, h6]
      exact ok_inl ⟨hi, rfl⟩
    · have e5 : i.toNat = r.length - 1 := by omega
      obtain ⟨e4, cs, hw⟩ := H.lst y (by rw [← e5]; exact hy)
      obtain ⟨b, h5, h6⟩ := critical_comes_yes t _ _ _ hz ht cs hw
      rw [h5, h6]
      exact ok_inl ⟨hi, rfl⟩
end Go.VM
namespace Go.VM
theorem awake48 : tracebooklaw48_awake = some true := by kernel_rfl
theorem siz_of {t : api_Trace} (h : okr_api_Trace t) : Siz t := by
  have e : maxLen = 9223372036854775807 := by decide
  unfold okr_api_Trace okL okr_api_Thread okr_api_Slice okr_api_Sample okr_api_Step okr_api_Block okr_str okL at h
  rw [e] at h
  obtain ⟨_, _, h1, h2, h3, h4, h5, h6, h7, h8⟩ := h
  exact ⟨h1.1, h2.1, h3.1, h4.1, h5.1, h6.1, h7.1, h8.1, fun x hx => (h1.2 x hx).2.1, fun x hx => (h2.2 x hx).2.2.2.1, fun x hx => (h5.2 x hx).2.2.2, fun x hx => (h6.2 x hx).1, fun x hx => (h7.2 x hx).2.2.2.2.2.1⟩
theorem few_ok (t : api_Trace) : Ok (tracebooklaw48_few t) (fun b => b = true → t.fThreads.length ≤ 1000000) := by
  unfold tracebooklaw48_few
  refine ok_bind (Q := fun b => b = true → t.fThreads.length ≤ 1000000) ?_ (fun b hb => ok_some hb)
  refine ok_ite (fun h => ?_) (fun _ => ok_some (by simp))
  have : t.fThreads.length ≤ 1000000 := by omega
  refine Ok.mono (P := Yes) ?_ (fun _ _ _ => this)
  repeat' (first | with_reducible exact ok_yes | with_reducible exact ok_inrY | with_reducible exact ok_inlY | (with_reducible refine ok_next ?_ ?_ ?_ <;> (first | assumption | omega | (rw [w64_of] <;> omega))) | (with_reducible refine ok_nite (fun _ => ?_) (fun _ => ?_)) | (with_reducible refine ok_ite (fun _ => ?_) (fun _ => ?_)) | (with_reducible refine ok_not (fun _ => ?_) (fun _ => ?_)) | (with_reducible refine ok_cond (fun _ => ?_) (fun _ => ?_)) | with_reducible refine ok_bind (ok_idx (by (first | assumption | omega | (rw [w64_of] <;> omega))) (by (first | assumption | omega | (rw [w64_of] <;> omega)))) (fun _ _ => ?_) | (with_reducible refine ok_bind (Q := Yes) ?_ (fun _ _ => ?_)) | dsimp only)
theorem criticalAlone_holds (t : api_Trace) (a : Int) (p : api_Span) (h : okr_api_Trace t) : tracebooklaw48_CriticalAlone t a p = some true := by
  have hz := siz_of h
  have : Ok (tracebooklaw48_CriticalAlone t a p) (fun b => b = true) := by
    unfold tracebooklaw48_CriticalAlone
    rw [awake48]
    simp only [Option.bind_some]
    refine ok_bind (few_ok t) (fun b hb => ?_)
    refine ok_not (fun _ => ok_some rfl) (fun e => ?_)
    have ht := hb e
    refine ok_bindS (Q := InlR (fun _ => Alone t) (fun b => b = true)) (ok_upI t.fStates.length (fun i => ∀ (j : Nat) x, (j : Int) < i → t.fStates[j]? = some x → 0 ≤ x.fBy → tracebookref32_Has t x.fBy = some false) hz.st (by intro j x hj; omega) (fun i hI h1 h2 => ?_)) (fun _ hA => ?_) (fun r hr => ok_some hr)
    · unfold tracebooklaw48_CriticalAlone_L2
      rw [awake48]
      refine ok_ite (fun hi => ?_) (fun hi => ok_inr ?_)
      · refine ok_bind (ok_idx h1 hi) (fun y hy => ?_)
        refine ok_bind (Q := fun v => v = false → 0 ≤ y.fBy → tracebookref32_Has t y.fBy = some false) ?_ (fun v hv => ?_)
        · refine ok_ite (fun _ => ?_) (fun h0 => ok_some (fun _ h0' => absurd h0' h0))
          obtain ⟨c, h3, _⟩ := tracebookref32_Has_ok t y.fBy hz.th
          rw [h3, Option.bind_some]
          exact ok_some (fun e _ => by rw [e])
        · refine ok_cond (fun _ => ?_) (fun e => ?_)
          · simp only [Option.bind_some]
            exact ok_inr (rfl : true = true)
          · refine ok_nextI (Inv := fun i => ∀ (j : Nat) x, (j : Int) < i → t.fStates[j]? = some x → 0 ≤ x.fBy → tracebookref32_Has t x.fBy = some false) (fun j x hj hx => ?_) h1 hi hz.st
            by_cases e2 : (j : Int) = i
            · have : i.toNat = j := by omega
              rw [this, hx] at hy; cases hy; exact hv e
            · exact hI j x (by omega) hx
      · intro x hx
        obtain ⟨j, hj⟩ := List.getElem?_of_mem hx
        exact hI j x (by have := lt_of_get hj; omega) hj
    · have hA' : Alone t := hA
      dsimp only
      refine ok_bind (critical_Path_ok t a p hz ht hA') (fun r hr => ?_)
      refine ok_nite (fun _ => ok_some rfl) (fun e2 => ?_)
      obtain ⟨hd, hlen, hops⟩ := hr e2
      refine ok_bindS (Q := InlR Yes (fun b => b = true)) (ok_up r.1.length (by omega) fun i h1 h2 => ?_) (fun _ _ => ok_some rfl) (fun r hr => ok_some hr)
      unfold tracebooklaw48_CriticalAlone_L1
      refine ok_ite (fun hi => ?_) (fun _ => ok_inr trivial)
      refine ok_bind (ok_idx h1 hi) (fun y hy => ?_)
      obtain ⟨s, ⟨g1, g2, g3, g4⟩, g5, g6⟩ := hops _ y hy
      rw [state_At_eq _ _ _ hz.st, Option.bind_some, ← g3, g3, stAt_of hd.1 g1 g2]
      have e3 : w64 (i + 1) = i + 1 := w64_of (by omega)
      rw [e3]
      refine ok_bind (Q := fun v => v = false) ?_ (fun v hv => ?_)
      · refine ok_not (fun h => by simp at h) (fun _ => ?_)
        refine ok_nite (fun h => absurd rfl h) (fun _ => ?_)
        refine ok_nite (fun h => absurd g4 h) (fun _ => ?_)
        have last : Ok (bif decide (i + 1 < (r.1.length : Int)) then some (!decide (y.fSpan.fTo = s.fSpan.fTo)) else some false) (fun v => v = false) := by
          refine ok_ite (fun h => ok_some ?_) (fun _ => ok_some rfl)
          rw [g5 (by omega)]; simp
        refine ok_ite (fun h => ?_) (fun _ => last)
        exact ok_nite (fun h5 => absurd (g6 (by omega)) h5) (fun _ => last)
      · rw [hv]
        exact ok_inl ⟨hi, rfl⟩
  obtain ⟨r, h1, h2⟩ := this
  rw [h1, h2]
end Go.VM
namespace Go.VM
theorem criticalCaused_holds (t : api_Trace) (a : Int) (p : api_Span) (h : okr_api_Trace t) : tracebooklaw48_CriticalCaused t a p = some true := by
  have hz := siz_of h
  have : Ok (tracebooklaw48_CriticalCaused t a p) (fun b => b = true) := by
    unfold tracebooklaw48_CriticalCaused
    rw [awake48]
    simp only [Option.bind_some]
    refine ok_bind (few_ok t) (fun b hb => ?_)
    refine ok_not (fun _ => ok_some rfl) (fun e => ?_)
    have ht := hb e
    refine ok_bind (critical_Path_gen t a p hz ht) (fun r hr => ?_)
    refine ok_nite (fun _ => ok_some rfl) (fun e2 => ?_)
    obtain ⟨hd, hc, H⟩ := hr e2
    have hl := H.len
    refine ok_bindS (Q := InlR Yes (fun b => b = true)) (ok_up r.1.length (by omega) fun i h1 h2 => ?_) (fun _ _ => ?_) (fun r hr => ok_some hr)
    · unfold tracebooklaw48_CriticalCaused_L1
      refine ok_ite (fun hi => ?_) (fun _ => ok_inr trivial)
      refine ok_bind (ok_idx h1 hi) (fun y hy => ?_)
      have hg := H.all _ y hy
      obtain ⟨k, s, g1, g2, g3, g4⟩ := hg.s
      have hv := hg.v
      have g2' := g2
      simp only [atB, decide_eq_true_eq] at g2'
      rw [← g2'.1, ← g3, state_Total_one t.fStates hz.st hd k s g1 y.fSpan hv.1 hv.2.1 hv.2.2 g2'.2.1 g4, Option.bind_some, w64_of (n := y.fSpan.fTo - y.fSpan.fFrom) (by omega)]
      refine ok_nite (fun e => absurd rfl e) (fun _ => ?_)
      exact ok_inl ⟨hi, w64_of (by omega)⟩
    · dsimp only
      obtain ⟨c, h5, h6⟩ := critical_Check_yes t a p r.1 hz ht hd hc H
      rw [h5, h6]
      exact ok_some rfl
  obtain ⟨r, h1, h2⟩ := this
  rw [h1, h2]
end Go.VM
