/- The law holds: plain mathematics on what the functions compute. -/
import Derived.Test.YtdpnoiebfagmfaaGreatL48rB
namespace Go.VM
def firstL {α ρ : Type} (g : Nat → α → Option ρ) : List α → Nat → Option ρ
 | [], _ => none
 | y :: ys, i => match g i y with
  | some r => some r
  | none => firstL g ys (i + 1)
theorem firstL_find {α ρ : Type} (p : α → Bool) (f : α → ρ) : ∀ (xs : List α) (i : Nat), firstL (fun _ y => if p y = true then some (f y) else none) xs i = (xs.find? p).map f
 | [], _ => rfl
 | y :: ys, i => by
  simp only [firstL, List.find?_cons]
  cases h : p y with
  | true => simp
  | false => simp [firstL_find p f ys]
theorem forL_first {α ρ : Type} (g : Nat → α → Option ρ) (e : ρ) : ∀ (xs : List α) (i : Nat), forL (fun i y (_ : Unit) => match g i y with | some r => Sum.inr r | none => .inl ()) (fun _ => e) xs i () = (firstL g xs i).getD e
 | [], _ => rfl
 | y :: ys, i => by
  simp only [forL, firstL]
  cases g i y with
  | some r => rfl
  | none => exact forL_first g e ys (i + 1)
theorem loop_first {α ρ : Type} {step : Int → Option (Int ⊕ ρ)} (xs : List α) (g : Nat → α → Option ρ) (e : ρ) (hl : xs.length < manyRounds)
  (h1 : ∀ (i : Nat) y, xs[i]? = some y → step (i : Int) = some (match g i y with | some r => .inr r | none => .inl ((i : Int) + 1))) (h2 : step (xs.length : Int) = some (.inr e)) : loop step 0 = some ((firstL g xs 0).getD e) := by
 have := loop_for0 (σ := Unit) (step := step) xs (fun i _ => (i : Int)) (fun i y _ => match g i y with | some r => .inr r | none => .inl ()) (fun _ => e) hl
  (fun i y s hy => by
   rw [h1 i y hy]
   cases g i y <;> simp)
  (fun _ => h2) ()
 rw [show (0 : Int) = ((0 : Nat) : Int) from rfl, this, forL_first]
theorem lt_of_get {α : Type} {xs : List α} {i : Nat} {y : α} (h : xs[i]? = some y) : i < xs.length := (List.getElem?_eq_some_iff.1 h).1
theorem w64_nat {i : Nat} (h : i < 9223372036854775807) : w64 ((i : Int) + 1) = (i : Int) + 1 := w64_of (by omega)
end Go.VM
namespace Go.VM
def Ok {α : Type} (x : Option α) (P : α → Prop) : Prop := ∃ r, x = some r ∧ P r
def Yes {α : Type} : α → Prop := fun _ => True
def InlR {α β : Type} (A : α → Prop) (B : β → Prop) : α ⊕ β → Prop
 | .inl a => A a
 | .inr b => B b
theorem ok_some {α : Type} {P : α → Prop} {r : α} (h : P r) : Ok (some r) P := ⟨r, rfl, h⟩
theorem ok_inl {α β : Type} {A : α → Prop} {B : β → Prop} {a : α} (h : A a) : Ok (some (.inl a)) (InlR A B) := ⟨_, rfl, h⟩
theorem ok_inr {α β : Type} {A : α → Prop} {B : β → Prop} {b : β} (h : B b) : Ok (some (.inr b)) (InlR A B) := ⟨_, rfl, h⟩
theorem ok_bind {α β : Type} {x : Option α} {f : α → Option β} {Q : α → Prop} {P : β → Prop} (hx : Ok x Q) (hf : ∀ r, Q r → Ok (f r) P) : Ok (x.bind f) P := by
 obtain ⟨r, h1, h2⟩ := hx
 subst h1; exact hf r h2
theorem ok_bindS {α β γ : Type} {x : Option (α ⊕ γ)} {f : α ⊕ γ → Option β} {Q : α ⊕ γ → Prop} {P : β → Prop} (hx : Ok x Q) (hf : ∀ r, Q (.inl r) → Ok (f (.inl r)) P) (hg : ∀ r, Q (.inr r) → Ok (f (.inr r)) P) : Ok (x.bind f) P :=
 ok_bind hx (fun r => match r with | .inl a => hf a | .inr b => hg b)
theorem ok_bindE {α β : Type} {x : Option α} {f : α → Option β} {P : β → Prop} (hx : Ok x Yes) (hf : ∀ r, x = some r → Ok (f r) P) : Ok (x.bind f) P := by
 obtain ⟨r, h1, h2⟩ := hx
 subst h1; exact hf r rfl
theorem ok_cond {α : Type} {b : Bool} {x y : Option α} {P : α → Prop} (h1 : b = true → Ok x P) (h2 : b = false → Ok y P) : Ok (cond b x y) P := by
 cases b
 ·exact h2 rfl
 ·exact h1 rfl
theorem Ok.mono {α : Type} {x : Option α} {P Q : α → Prop} (h : Ok x P) (hq : ∀ r, P r → Q r) : Ok x Q := by
 obtain ⟨r, h1, h2⟩ := h; exact ⟨r, h1, hq r h2⟩
theorem Ok.yes {α : Type} {x : Option α} {P : α → Prop} (h : Ok x P) : Ok x Yes := h.mono (fun _ _ => trivial)
theorem Ok.of_eq {α : Type} {x : Option α} {P : α → Prop} {r : α} (h : Ok x P) (e : x = some r) : P r := by
 obtain ⟨r', h1, h2⟩ := h; rw [e] at h1; cases h1; exact h2
theorem ok_idx {α : Type} {xs : List α} {i : Int} (h1 : 0 ≤ i) (h2 : i < xs.length) : Ok (idx xs i) (fun y => xs[i.toNat]? = some y) := by
 obtain ⟨n, rfl⟩ := Int.eq_ofNat_of_zero_le h1
 have h3 : n < xs.length := by omega
 rw [idx_nat]
 exact ⟨xs[n], by simp [h3], by simp [h3]⟩
theorem ok_loop {S ρ : Type} {step : S → Option (S ⊕ ρ)} (Inv : S → Prop) (m : S → Nat) {Post : ρ → Prop}
  (h : ∀ s, Inv s → Ok (step s) (InlR (fun s' => Inv s' ∧ m s' < m s) Post)) {s : S} (hs : Inv s) (hm : m s < manyRounds) : Ok (loop step s) Post := by
 refine loop_inv Inv m Post (fun s hs => ?_) hs hm
 obtain ⟨r, h1, h2⟩ := h s hs
 cases r with
 | inl a => exact Or.inl ⟨a, h1, h2⟩
 | inr b => exact Or.inr ⟨b, h1, h2⟩
theorem ok_up {ρ : Type} {step : Int → Option (Int ⊕ ρ)} (n : Nat) {Post : ρ → Prop} (hn : n ≤ 9223372036854775807)
  (h : ∀ i : Int, 0 ≤ i → i ≤ n → Ok (step i) (InlR (fun a => i < n ∧ a = i + 1) Post)) : Ok (loop step 0) Post := by
 refine ok_loop (fun i : Int => 0 ≤ i ∧ i ≤ (n : Int)) (fun i : Int => ((n : Int) - i).toNat) (fun i hi => (h i hi.1 hi.2).mono ?_) ⟨by omega, by omega⟩ (by simp [manyRounds]; omega)
 rintro (a | b) hr
 ·obtain ⟨h1, rfl⟩ : i < n ∧ a = i + 1 := hr
  exact ⟨⟨by omega, by omega⟩, by omega⟩
 ·exact hr
theorem ok_yes {α : Type} {r : α} : Ok (some r) Yes := ⟨r, rfl, trivial⟩
theorem ok_inlY {α β : Type} {B : β → Prop} {a : α} : Ok (some (.inl a)) (InlR Yes B) := ⟨_, rfl, trivial⟩
theorem ok_inrY {α β : Type} {A : α → Prop} {b : β} : Ok (some (.inr b)) (InlR A Yes) := ⟨_, rfl, trivial⟩
theorem ok_next {ρ : Type} {i : Int} {n : Nat} {P : ρ → Prop} (h1 : 0 ≤ i) (h2 : i < (n : Int)) (h3 : n ≤ 9223372036854775807) : Ok (some (.inl (w64 (i + 1)))) (InlR (fun a : Int => i < (n : Int) ∧ a = i + 1) P) :=
 ok_inl ⟨h2, w64_of (by omega)⟩
theorem ok_ite {α : Type} {p : Prop} [Decidable p] {x y : Option α} {P : α → Prop} (h1 : p → Ok x P) (h2 : ¬p → Ok y P) : Ok (cond (decide p) x y) P :=
 ok_cond (fun h => h1 (of_decide_eq_true h)) (fun h => h2 (of_decide_eq_false h))
theorem ok_nite {α : Type} {p : Prop} [Decidable p] {x y : Option α} {P : α → Prop} (h1 : ¬p → Ok x P) (h2 : p → Ok y P) : Ok (cond (!decide p) x y) P := by
 by_cases h : p
 ·simpa [h] using h2 h
 ·simpa [h] using h1 h
theorem ok_not {α : Type} {b : Bool} {x y : Option α} {P : α → Prop} (h1 : b = false → Ok x P) (h2 : b = true → Ok y P) : Ok (cond (!b) x y) P := by
 cases b
 ·exact h1 rfl
 ·exact h2 rfl
abbrev Tot {α : Type} (x : Option α) : Prop := Ok x Yes
theorem ok_up2 {σ ρ : Type} {step : σ × Int → Option ((σ × Int) ⊕ ρ)} (n : Nat) (Inv : σ → Int → Prop) {Post : ρ → Prop} (hn : n ≤ 9223372036854775807) {s0 : σ} (h0 : Inv s0 0)
  (h : ∀ (s : σ) (i : Int), Inv s i → 0 ≤ i → i ≤ n → Ok (step (s, i)) (InlR (fun a => i < n ∧ a.2 = i + 1 ∧ Inv a.1 (i + 1)) Post)) : Ok (loop step (s0, 0)) Post := by
 refine ok_loop (fun s : σ × Int => Inv s.1 s.2 ∧ 0 ≤ s.2 ∧ s.2 ≤ (n : Int)) (fun s : σ × Int => ((n : Int) - s.2).toNat) (fun s hi => (h s.1 s.2 hi.1 hi.2.1 hi.2.2).mono ?_) ⟨h0, by simp, by simp⟩ (by simp [manyRounds]; omega)
 rintro (⟨a, j⟩ | b) hr
 ·obtain ⟨h1, h2, h3⟩ : s.2 < n ∧ j = s.2 + 1 ∧ Inv a (s.2 + 1) := hr
  subst h2
  exact ⟨⟨h3, by simp; omega, by simp; omega⟩, by simp; omega⟩
 ·exact hr
theorem ok_next2 {σ ρ : Type} {s : σ} {i : Int} {n : Nat} {Inv : σ → Int → Prop} {P : ρ → Prop} (hI : Inv s (i + 1)) (h1 : 0 ≤ i) (h2 : i < (n : Int)) (h3 : n ≤ 9223372036854775807) : Ok (some (.inl (s, w64 (i + 1)))) (InlR (fun a : σ × Int => i < (n : Int) ∧ a.2 = i + 1 ∧ Inv a.1 (i + 1)) P) :=
 ok_inl ⟨h2, w64_of (by omega), hI⟩
theorem ok_upI {ρ : Type} {step : Int → Option (Int ⊕ ρ)} (n : Nat) (Inv : Int → Prop) {Post : ρ → Prop} (hn : n ≤ 9223372036854775807) (h0 : Inv 0)
  (h : ∀ i : Int, Inv i → 0 ≤ i → i ≤ n → Ok (step i) (InlR (fun a => i < n ∧ a = i + 1 ∧ Inv (i + 1)) Post)) : Ok (loop step 0) Post := by
 refine ok_loop (fun i : Int => Inv i ∧ 0 ≤ i ∧ i ≤ (n : Int)) (fun i : Int => ((n : Int) - i).toNat) (fun i hi => (h i hi.1 hi.2.1 hi.2.2).mono ?_) ⟨h0, by omega, by omega⟩ (by simp [manyRounds]; omega)
 rintro (a | b) hr
 ·obtain ⟨h1, rfl, h3⟩ : i < n ∧ a = i + 1 ∧ Inv (i + 1) := hr
  exact ⟨⟨h3, by omega, by omega⟩, by omega⟩
 ·exact hr
theorem ok_nextI {ρ : Type} {i : Int} {n : Nat} {Inv : Int → Prop} {P : ρ → Prop} (hI : Inv (i + 1)) (h1 : 0 ≤ i) (h2 : i < (n : Int)) (h3 : n ≤ 9223372036854775807) : Ok (some (.inl (w64 (i + 1)))) (InlR (fun a : Int => i < (n : Int) ∧ a = i + 1 ∧ Inv (i + 1)) P) :=
 ok_inl ⟨h2, w64_of (by omega), hI⟩
theorem room_ok {b n : Nat} (h1 : n * b ≤ 140737488355328) (h2 : n ≤ 9223372036854775807) : room b n = true := by
 simp only [room, Bool.and_eq_true]
 exact ⟨Nat.ble_eq_true_of_le h1, Nat.ble_eq_true_of_le h2⟩
theorem spans_Valid_eq (s : api_Span) : spans_Valid s = some (decide (0 ≤ s.fFrom ∧ s.fFrom < s.fTo ∧ s.fTo ≤ 1000000000000)) := by
 unfold spans_Valid
 by_cases h1 : 0 ≤ s.fFrom <;> by_cases h2 : s.fFrom < s.fTo <;> by_cases h3 : s.fTo ≤ 1000000000000 <;> simp [h1, h2, h3]
def zeroState : api_State := { fThread := 0, fState := 0, fSpan := { fFrom := 0, fTo := 0 }, fCpu := 0, fOn := 0, fBy := 0 }
def atB (th t : Int) (s : api_State) : Bool := decide (s.fThread = th ∧ s.fSpan.fFrom ≤ t ∧ t < s.fSpan.fTo)
def stAt (l : List api_State) (th t : Int) : api_State × Bool := match l.find? (atB th t) with
 | some s => (s, true)
 | none => (zeroState, false)
theorem state_At_eq (l : List api_State) (th t : Int) (hl : l.length ≤ 9223372036854775807) : state_At l th t = some (stAt l th t) := by
 unfold state_At
 rw [loop_first l (fun _ y => if atB th t y = true then some (.inr (y, true)) else none) (.inl ()) (by simp [manyRounds]; omega) ?_ ?_, firstL_find]
 ·unfold stAt
  cases l.find? (atB th t) <;> simp [zeroState]
 ·intro i y hy
  have hi := lt_of_get hy
  have h1 : (i : Int) < l.length := by omega
  simp only [state_At_L1, h1, decide_true, cond_true, idx_nat, hy, Option.bind_some]
  have hw := w64_nat (i := i) (by omega)
  by_cases a : y.fThread = th <;> by_cases b : y.fSpan.fFrom ≤ t <;> by_cases c : t < y.fSpan.fTo <;> simp [a, b, c, atB, hw]
 ·simp [state_At_L1]
theorem intern_letter_ok (c : Int) : Ok (intern_letter c) Yes := by
 unfold intern_letter strings_IndexByte internal_stringslite_IndexByte
 repeat' (first | (with_reducible first | exact ok_yes | exact ok_inrY | exact ok_inlY | refine ok_nite (fun _ => ?_) fun _ => ?_ | refine ok_ite (fun _ => ?_) fun _ => ?_ | refine ok_not (fun _ => ?_) fun _ => ?_ | refine ok_cond (fun _ => ?_) fun _ => ?_) | (with_reducible refine ok_next ?_ ?_ ?_ <;> (first | assumption | omega | rw [w64_of] <;> omega)) | with_reducible refine ok_bind (ok_idx (by (first | assumption | omega | rw [w64_of] <;> omega)) (by (first | assumption | omega | rw [w64_of] <;> omega))) (fun _ _ => ?_) | (with_reducible refine ok_bind (Q := Yes) ?_ fun _ _ => ?_) | dsimp only)
theorem intern_Name_ok (s : ByteArray) (h : s.size ≤ 9223372036854775807) : Ok (intern_Name s) Yes := by
 unfold intern_Name
 refine ok_bind (Q := Yes) ?_ (fun v _ => ?_)
 ·repeat' (first | (with_reducible first | exact ok_yes | exact ok_inrY | exact ok_inlY | refine ok_nite (fun _ => ?_) fun _ => ?_ | refine ok_ite (fun _ => ?_) fun _ => ?_ | refine ok_not (fun _ => ?_) fun _ => ?_ | refine ok_cond (fun _ => ?_) fun _ => ?_) | (with_reducible refine ok_next ?_ ?_ ?_ <;> (first | assumption | omega | rw [w64_of] <;> omega)) | with_reducible refine ok_bind (ok_idx (by (first | assumption | omega | rw [w64_of] <;> omega)) (by (first | assumption | omega | rw [w64_of] <;> omega))) (fun _ _ => ?_) | (with_reducible refine ok_bind (Q := Yes) ?_ fun _ _ => ?_) | dsimp only)
 refine ok_cond (fun _ => ok_some trivial) (fun _ => ?_)
 have e : s.data.toList.length = s.size := by rw [Array.length_toList]; rfl
 refine ok_bindS (Q := Yes) (ok_up s.size h fun i h1 h2 => ?_) (fun _ _ => ?_) (fun _ _ => ?_)
 ·unfold intern_Name_L1
  repeat' (first | (with_reducible first | exact ok_yes | exact ok_inrY | exact ok_inlY | refine ok_nite (fun _ => ?_) fun _ => ?_ | refine ok_ite (fun _ => ?_) fun _ => ?_ | refine ok_not (fun _ => ?_) fun _ => ?_ | refine ok_cond (fun _ => ?_) fun _ => ?_) | (with_reducible refine ok_next ?_ ?_ ?_ <;> (first | assumption | omega | rw [w64_of] <;> omega)) | with_reducible refine ok_bind (ok_idx (by (first | assumption | omega | rw [w64_of] <;> omega)) (by (first | assumption | omega | rw [w64_of] <;> omega))) (fun _ _ => ?_) | (with_reducible refine Ok.yes (ok_idx ?_ (by rw [e]; (first | assumption | omega | rw [w64_of] <;> omega))) <;> (first | assumption | omega | rw [w64_of] <;> omega)) | (with_reducible refine Ok.yes (intern_letter_ok _) <;> (first | assumption | omega | rw [w64_of] <;> omega)) | (with_reducible refine ok_bind (Q := Yes) ?_ fun _ _ => ?_) | dsimp only)
 ·repeat' (first | (with_reducible first | exact ok_yes | exact ok_inrY | exact ok_inlY | refine ok_nite (fun _ => ?_) fun _ => ?_ | refine ok_ite (fun _ => ?_) fun _ => ?_ | refine ok_not (fun _ => ?_) fun _ => ?_ | refine ok_cond (fun _ => ?_) fun _ => ?_) | (with_reducible refine ok_next ?_ ?_ ?_ <;> (first | assumption | omega | rw [w64_of] <;> omega)) | with_reducible refine ok_bind (ok_idx (by (first | assumption | omega | rw [w64_of] <;> omega)) (by (first | assumption | omega | rw [w64_of] <;> omega))) (fun _ _ => ?_) | (with_reducible refine ok_bind (Q := Yes) ?_ fun _ _ => ?_) | dsimp only)
 ·repeat' (first | (with_reducible first | exact ok_yes | exact ok_inrY | exact ok_inlY | refine ok_nite (fun _ => ?_) fun _ => ?_ | refine ok_ite (fun _ => ?_) fun _ => ?_ | refine ok_not (fun _ => ?_) fun _ => ?_ | refine ok_cond (fun _ => ?_) fun _ => ?_) | (with_reducible refine ok_next ?_ ?_ ?_ <;> (first | assumption | omega | rw [w64_of] <;> omega)) | with_reducible refine ok_bind (ok_idx (by (first | assumption | omega | rw [w64_of] <;> omega)) (by (first | assumption | omega | rw [w64_of] <;> omega))) (fun _ _ => ?_) | (with_reducible refine ok_bind (Q := Yes) ?_ fun _ _ => ?_) | dsimp only)
abbrev okN (s : ByteArray) : Prop := s.size ≤ 9223372036854775807
theorem producer_Thread_ok (t : api_Thread) (h : okN t.fName) : Ok (producer_Thread t) Yes := by
 unfold producer_Thread
 repeat' (first | (with_reducible first | exact ok_yes | exact ok_inrY | exact ok_inlY | refine ok_nite (fun _ => ?_) fun _ => ?_ | refine ok_ite (fun _ => ?_) fun _ => ?_ | refine ok_not (fun _ => ?_) fun _ => ?_ | refine ok_cond (fun _ => ?_) fun _ => ?_) | (with_reducible refine ok_next ?_ ?_ ?_ <;> (first | assumption | omega | rw [w64_of] <;> omega)) | with_reducible refine ok_bind (ok_idx (by (first | assumption | omega | rw [w64_of] <;> omega)) (by (first | assumption | omega | rw [w64_of] <;> omega))) (fun _ _ => ?_) | (with_reducible refine Ok.yes (intern_Name_ok _ h) <;> (first | assumption | omega | rw [w64_of] <;> omega)) | (with_reducible refine ok_bind (Q := Yes) ?_ fun _ _ => ?_) | dsimp only)
theorem spans_Valid_ok (s : api_Span) : Ok (spans_Valid s) Yes := by
 unfold spans_Valid
 repeat' (first | (with_reducible first | exact ok_yes | exact ok_inrY | exact ok_inlY | refine ok_nite (fun _ => ?_) fun _ => ?_ | refine ok_ite (fun _ => ?_) fun _ => ?_ | refine ok_not (fun _ => ?_) fun _ => ?_ | refine ok_cond (fun _ => ?_) fun _ => ?_) | (with_reducible refine ok_next ?_ ?_ ?_ <;> (first | assumption | omega | rw [w64_of] <;> omega)) | with_reducible refine ok_bind (ok_idx (by (first | assumption | omega | rw [w64_of] <;> omega)) (by (first | assumption | omega | rw [w64_of] <;> omega))) (fun _ _ => ?_) | (with_reducible refine ok_bind (Q := Yes) ?_ fun _ _ => ?_) | dsimp only)
theorem cmp_Compare_int_ok (a b : Int) : Ok (cmp_Compare_int a b) Yes := by
 unfold cmp_Compare_int cmp_isNaN_int
 repeat' (first | (with_reducible first | exact ok_yes | exact ok_inrY | exact ok_inlY | refine ok_nite (fun _ => ?_) fun _ => ?_ | refine ok_ite (fun _ => ?_) fun _ => ?_ | refine ok_not (fun _ => ?_) fun _ => ?_ | refine ok_cond (fun _ => ?_) fun _ => ?_) | (with_reducible refine ok_next ?_ ?_ ?_ <;> (first | assumption | omega | rw [w64_of] <;> omega)) | with_reducible refine ok_bind (ok_idx (by (first | assumption | omega | rw [w64_of] <;> omega)) (by (first | assumption | omega | rw [w64_of] <;> omega))) (fun _ _ => ?_) | (with_reducible refine ok_bind (Q := Yes) ?_ fun _ _ => ?_) | dsimp only)
theorem cmp_Or_int_ok (l : List Int) (h : l.length ≤ 9223372036854775807) : Ok (cmp_Or_int l) Yes := by
 unfold cmp_Or_int
 refine ok_bindS (Q := Yes) (ok_up l.length (by omega) fun i h1 h2 => ?_) (fun _ _ => ?_) (fun _ _ => ?_)
 ·unfold cmp_Or_int_L1
  repeat' (first | (with_reducible first | exact ok_yes | exact ok_inrY | exact ok_inlY | refine ok_nite (fun _ => ?_) fun _ => ?_ | refine ok_ite (fun _ => ?_) fun _ => ?_ | refine ok_not (fun _ => ?_) fun _ => ?_ | refine ok_cond (fun _ => ?_) fun _ => ?_) | (with_reducible refine ok_next ?_ ?_ ?_ <;> (first | assumption | omega | rw [w64_of] <;> omega)) | with_reducible refine ok_bind (ok_idx (by (first | assumption | omega | rw [w64_of] <;> omega)) (by (first | assumption | omega | rw [w64_of] <;> omega))) (fun _ _ => ?_) | (with_reducible refine ok_bind (Q := Yes) ?_ fun _ _ => ?_) | dsimp only)
 ·repeat' (first | (with_reducible first | exact ok_yes | exact ok_inrY | exact ok_inlY | refine ok_nite (fun _ => ?_) fun _ => ?_ | refine ok_ite (fun _ => ?_) fun _ => ?_ | refine ok_not (fun _ => ?_) fun _ => ?_ | refine ok_cond (fun _ => ?_) fun _ => ?_) | (with_reducible refine ok_next ?_ ?_ ?_ <;> (first | assumption | omega | rw [w64_of] <;> omega)) | with_reducible refine ok_bind (ok_idx (by (first | assumption | omega | rw [w64_of] <;> omega)) (by (first | assumption | omega | rw [w64_of] <;> omega))) (fun _ _ => ?_) | (with_reducible refine ok_bind (Q := Yes) ?_ fun _ _ => ?_) | dsimp only)
 ·repeat' (first | (with_reducible first | exact ok_yes | exact ok_inrY | exact ok_inlY | refine ok_nite (fun _ => ?_) fun _ => ?_ | refine ok_ite (fun _ => ?_) fun _ => ?_ | refine ok_not (fun _ => ?_) fun _ => ?_ | refine ok_cond (fun _ => ?_) fun _ => ?_) | (with_reducible refine ok_next ?_ ?_ ?_ <;> (first | assumption | omega | rw [w64_of] <;> omega)) | with_reducible refine ok_bind (ok_idx (by (first | assumption | omega | rw [w64_of] <;> omega)) (by (first | assumption | omega | rw [w64_of] <;> omega))) (fun _ _ => ?_) | (with_reducible refine ok_bind (Q := Yes) ?_ fun _ _ => ?_) | dsimp only)
theorem slice_compare_ok (a b : api_Slice) : Ok (slice_compare a b) Yes := by
 unfold slice_compare
 repeat' (first | (with_reducible first | exact ok_yes | exact ok_inrY | exact ok_inlY | refine ok_nite (fun _ => ?_) fun _ => ?_ | refine ok_ite (fun _ => ?_) fun _ => ?_ | refine ok_not (fun _ => ?_) fun _ => ?_ | refine ok_cond (fun _ => ?_) fun _ => ?_) | (with_reducible refine ok_next ?_ ?_ ?_ <;> (first | assumption | omega | rw [w64_of] <;> omega)) | with_reducible refine ok_bind (ok_idx (by (first | assumption | omega | rw [w64_of] <;> omega)) (by (first | assumption | omega | rw [w64_of] <;> omega))) (fun _ _ => ?_) | (with_reducible refine Ok.yes (cmp_Compare_int_ok _ _) <;> (first | assumption | omega | rw [w64_of] <;> omega)) | (with_reducible refine Ok.yes (cmp_Or_int_ok _ (Nat.le_of_ble_eq_true rfl)) <;> (first | assumption | omega | rw [w64_of] <;> omega)) | (with_reducible refine ok_bind (Q := Yes) ?_ fun _ _ => ?_) | dsimp only)
theorem intern_Frames_ok (l : List ByteArray) (h : l.length ≤ 9223372036854775807) (hx : ∀ x ∈ l, okN x) : Ok (intern_Frames l) Yes := by
 unfold intern_Frames
 refine ok_ite (fun _ => ok_yes) (fun _ => ?_)
 refine ok_bindS (Q := Yes) (ok_up l.length (by omega) fun i h1 h2 => ?_) (fun _ _ => ?_) (fun _ _ => ?_)
 ·unfold intern_Frames_L1
  repeat' (first | (with_reducible first | exact ok_yes | exact ok_inrY | exact ok_inlY | refine ok_nite (fun _ => ?_) fun _ => ?_ | refine ok_ite (fun _ => ?_) fun _ => ?_ | refine ok_not (fun _ => ?_) fun _ => ?_ | refine ok_cond (fun _ => ?_) fun _ => ?_) | (with_reducible refine ok_next ?_ ?_ ?_ <;> (first | assumption | omega | rw [w64_of] <;> omega)) | with_reducible refine ok_bind (ok_idx (by (first | assumption | omega | rw [w64_of] <;> omega)) (by (first | assumption | omega | rw [w64_of] <;> omega))) (fun _ _ => ?_) | (with_reducible refine Ok.yes (intern_Name_ok _ (hx _ (List.mem_of_getElem? (by assumption)))) <;> (first | assumption | omega | rw [w64_of] <;> omega)) | (with_reducible refine ok_bind (Q := Yes) ?_ fun _ _ => ?_) | dsimp only)
 ·repeat' (first | (with_reducible first | exact ok_yes | exact ok_inrY | exact ok_inlY | refine ok_nite (fun _ => ?_) fun _ => ?_ | refine ok_ite (fun _ => ?_) fun _ => ?_ | refine ok_not (fun _ => ?_) fun _ => ?_ | refine ok_cond (fun _ => ?_) fun _ => ?_) | (with_reducible refine ok_next ?_ ?_ ?_ <;> (first | assumption | omega | rw [w64_of] <;> omega)) | with_reducible refine ok_bind (ok_idx (by (first | assumption | omega | rw [w64_of] <;> omega)) (by (first | assumption | omega | rw [w64_of] <;> omega))) (fun _ _ => ?_) | (with_reducible refine Ok.yes (intern_Name_ok _ (hx _ (List.mem_of_getElem? (by assumption)))) <;> (first | assumption | omega | rw [w64_of] <;> omega)) | (with_reducible refine ok_bind (Q := Yes) ?_ fun _ _ => ?_) | dsimp only)
 ·repeat' (first | (with_reducible first | exact ok_yes | exact ok_inrY | exact ok_inlY | refine ok_nite (fun _ => ?_) fun _ => ?_ | refine ok_ite (fun _ => ?_) fun _ => ?_ | refine ok_not (fun _ => ?_) fun _ => ?_ | refine ok_cond (fun _ => ?_) fun _ => ?_) | (with_reducible refine ok_next ?_ ?_ ?_ <;> (first | assumption | omega | rw [w64_of] <;> omega)) | with_reducible refine ok_bind (ok_idx (by (first | assumption | omega | rw [w64_of] <;> omega)) (by (first | assumption | omega | rw [w64_of] <;> omega))) (fun _ _ => ?_) | (with_reducible refine Ok.yes (intern_Name_ok _ (hx _ (List.mem_of_getElem? (by assumption)))) <;> (first | assumption | omega | rw [w64_of] <;> omega)) | (with_reducible refine ok_bind (Q := Yes) ?_ fun _ _ => ?_) | dsimp only)
structure Siz (t : api_Trace) : Prop where
 th : t.fThreads.length ≤ 9223372036854775807
 sl : t.fSlices.length ≤ 9223372036854775807
 st : t.fStates.length ≤ 9223372036854775807
 fl : t.fFlows.length ≤ 9223372036854775807
 sa : t.fSamples.length ≤ 9223372036854775807
 sp : t.fSteps.length ≤ 9223372036854775807
 bl : t.fBlocks.length ≤ 9223372036854775807
 lo : t.fLost.length ≤ 9223372036854775807
 nTh : ∀ x ∈ t.fThreads, okN x.fName
 nSl : ∀ x ∈ t.fSlices, okN x.fName
 nSa : ∀ x ∈ t.fSamples, x.fStack.length ≤ 9223372036854775807 ∧ ∀ y ∈ x.fStack, okN y
 nSp : ∀ x ∈ t.fSteps, okN x.fName
 nBl : ∀ x ∈ t.fBlocks, x.fStack.length ≤ 9223372036854775807 ∧ ∀ y ∈ x.fStack, okN y
theorem trace_threads_ok (t : api_Trace) (hl : t.fThreads.length ≤ 9223372036854775807) (hn : ∀ x ∈ t.fThreads, okN x.fName) : Ok (trace_threads t) (InlR (fun r => r.2 ≠ 0) Yes) := by
 unfold trace_threads
 refine ok_ite (fun _ => ok_inl (by simp)) (fun _ => ?_)
 refine ok_bindS (Q := InlR Yes (InlR (fun r => r.2 ≠ 0) Yes)) (ok_up2 t.fThreads.length (fun _ _ => True) hl trivial (fun a i _ h1 h2 => ?_)) (fun _ _ => ?_) (fun r hr => ?_)
 ·unfold trace_threads_L1
  dsimp only
  refine ok_ite (fun h => ?_) (fun _ => ok_inr trivial)
  refine ok_bind (ok_idx h1 h) (fun y hy => ?_)
  refine ok_bind (producer_Thread_ok _ (hn _ (List.mem_of_getElem? hy))) (fun r _ => ?_)
  refine ok_nite (fun h0 => ok_inr h0) (fun _ => ?_)
  refine ok_cond (fun _ => ok_inr (by simp [InlR])) (fun _ => ?_)
  exact ok_next2 (Inv := fun _ _ => True) trivial h1 h hl
 ·exact ok_inr trivial
 ·exact ⟨_, rfl, hr⟩
theorem trace_tables_1_ok (a) : Tot (trace_tables_1 a) := ⟨_, rfl, trivial⟩
theorem trace_known_api_Slice_k1_ok (e : Int) (m) (l : List api_Slice) (h : l.length ≤ 9223372036854775807) : Tot (trace_known_api_Slice_k1 e m l) := by
 unfold trace_known_api_Slice_k1
 refine ok_nite (fun _ => ok_yes) (fun _ => ?_)
 refine ok_bindS (Q := Yes) (ok_up l.length (by omega) fun i h1 h2 => ?_) (fun _ _ => ?_) (fun _ _ => ?_)
 ·unfold trace_known_api_Slice_k1_L1
  repeat' (first | (with_reducible first | exact ok_yes | exact ok_inrY | exact ok_inlY | refine ok_nite (fun _ => ?_) fun _ => ?_ | refine ok_ite (fun _ => ?_) fun _ => ?_ | refine ok_not (fun _ => ?_) fun _ => ?_ | refine ok_cond (fun _ => ?_) fun _ => ?_) | (with_reducible refine ok_next ?_ ?_ ?_ <;> (first | assumption | omega | rw [w64_of] <;> omega)) | with_reducible refine ok_bind (ok_idx (by (first | assumption | omega | rw [w64_of] <;> omega)) (by (first | assumption | omega | rw [w64_of] <;> omega))) (fun _ _ => ?_) | (with_reducible refine Ok.yes (trace_tables_1_ok _) <;> (first | assumption | omega | rw [w64_of] <;> omega)) | (with_reducible refine ok_bind (Q := Yes) ?_ fun _ _ => ?_) | dsimp only)
 ·repeat' (first | (with_reducible first | exact ok_yes | exact ok_inrY | exact ok_inlY | refine ok_nite (fun _ => ?_) fun _ => ?_ | refine ok_ite (fun _ => ?_) fun _ => ?_ | refine ok_not (fun _ => ?_) fun _ => ?_ | refine ok_cond (fun _ => ?_) fun _ => ?_) | (with_reducible refine ok_next ?_ ?_ ?_ <;> (first | assumption | omega | rw [w64_of] <;> omega)) | with_reducible refine ok_bind (ok_idx (by (first | assumption | omega | rw [w64_of] <;> omega)) (by (first | assumption | omega | rw [w64_of] <;> omega))) (fun _ _ => ?_) | (with_reducible refine Ok.yes (trace_tables_1_ok _) <;> (first | assumption | omega | rw [w64_of] <;> omega)) | (with_reducible refine ok_bind (Q := Yes) ?_ fun _ _ => ?_) | dsimp only)
 ·repeat' (first | (with_reducible first | exact ok_yes | exact ok_inrY | exact ok_inlY | refine ok_nite (fun _ => ?_) fun _ => ?_ | refine ok_ite (fun _ => ?_) fun _ => ?_ | refine ok_not (fun _ => ?_) fun _ => ?_ | refine ok_cond (fun _ => ?_) fun _ => ?_) | (with_reducible refine ok_next ?_ ?_ ?_ <;> (first | assumption | omega | rw [w64_of] <;> omega)) | with_reducible refine ok_bind (ok_idx (by (first | assumption | omega | rw [w64_of] <;> omega)) (by (first | assumption | omega | rw [w64_of] <;> omega))) (fun _ _ => ?_) | (with_reducible refine Ok.yes (trace_tables_1_ok _) <;> (first | assumption | omega | rw [w64_of] <;> omega)) | (with_reducible refine ok_bind (Q := Yes) ?_ fun _ _ => ?_) | dsimp only)
theorem trace_tables_2_ok (a) : Tot (trace_tables_2 a) := ⟨_, rfl, trivial⟩
theorem trace_known_api_Flow_k1_ok (e : Int) (m) (l : List api_Flow) (h : l.length ≤ 9223372036854775807) : Tot (trace_known_api_Flow_k1 e m l) := by
 unfold trace_known_api_Flow_k1
 refine ok_nite (fun _ => ok_yes) (fun _ => ?_)
 refine ok_bindS (Q := Yes) (ok_up l.length (by omega) fun i h1 h2 => ?_) (fun _ _ => ?_) (fun _ _ => ?_)
 ·unfold trace_known_api_Flow_k1_L1
  repeat' (first | (with_reducible first | exact ok_yes | exact ok_inrY | exact ok_inlY | refine ok_nite (fun _ => ?_) fun _ => ?_ | refine ok_ite (fun _ => ?_) fun _ => ?_ | refine ok_not (fun _ => ?_) fun _ => ?_ | refine ok_cond (fun _ => ?_) fun _ => ?_) | (with_reducible refine ok_next ?_ ?_ ?_ <;> (first | assumption | omega | rw [w64_of] <;> omega)) | with_reducible refine ok_bind (ok_idx (by (first | assumption | omega | rw [w64_of] <;> omega)) (by (first | assumption | omega | rw [w64_of] <;> omega))) (fun _ _ => ?_) | (with_reducible refine Ok.yes (trace_tables_2_ok _) <;> (first | assumption | omega | rw [w64_of] <;> omega)) | (with_reducible refine ok_bind (Q := Yes) ?_ fun _ _ => ?_) | dsimp only)
 ·repeat' (first | (with_reducible first | exact ok_yes | exact ok_inrY | exact ok_inlY | refine ok_nite (fun _ => ?_) fun _ => ?_ | refine ok_ite (fun _ => ?_) fun _ => ?_ | refine ok_not (fun _ => ?_) fun _ => ?_ | refine ok_cond (fun _ => ?_) fun _ => ?_) | (with_reducible refine ok_next ?_ ?_ ?_ <;> (first | assumption | omega | rw [w64_of] <;> omega)) | with_reducible refine ok_bind (ok_idx (by (first | assumption | omega | rw [w64_of] <;> omega)) (by (first | assumption | omega | rw [w64_of] <;> omega))) (fun _ _ => ?_) | (with_reducible refine Ok.yes (trace_tables_2_ok _) <;> (first | assumption | omega | rw [w64_of] <;> omega)) | (with_reducible refine ok_bind (Q := Yes) ?_ fun _ _ => ?_) | dsimp only)
 ·repeat' (first | (with_reducible first | exact ok_yes | exact ok_inrY | exact ok_inlY | refine ok_nite (fun _ => ?_) fun _ => ?_ | refine ok_ite (fun _ => ?_) fun _ => ?_ | refine ok_not (fun _ => ?_) fun _ => ?_ | refine ok_cond (fun _ => ?_) fun _ => ?_) | (with_reducible refine ok_next ?_ ?_ ?_ <;> (first | assumption | omega | rw [w64_of] <;> omega)) | with_reducible refine ok_bind (ok_idx (by (first | assumption | omega | rw [w64_of] <;> omega)) (by (first | assumption | omega | rw [w64_of] <;> omega))) (fun _ _ => ?_) | (with_reducible refine Ok.yes (trace_tables_2_ok _) <;> (first | assumption | omega | rw [w64_of] <;> omega)) | (with_reducible refine ok_bind (Q := Yes) ?_ fun _ _ => ?_) | dsimp only)
theorem trace_tables_3_ok (a) : Tot (trace_tables_3 a) := ⟨_, rfl, trivial⟩
theorem trace_known_api_Flow_k2_ok (e : Int) (m) (l : List api_Flow) (h : l.length ≤ 9223372036854775807) : Tot (trace_known_api_Flow_k2 e m l) := by
 unfold trace_known_api_Flow_k2
 refine ok_nite (fun _ => ok_yes) (fun _ => ?_)
 refine ok_bindS (Q := Yes) (ok_up l.length (by omega) fun i h1 h2 => ?_) (fun _ _ => ?_) (fun _ _ => ?_)
 ·unfold trace_known_api_Flow_k2_L1
  repeat' (first | (with_reducible first | exact ok_yes | exact ok_inrY | exact ok_inlY | refine ok_nite (fun _ => ?_) fun _ => ?_ | refine ok_ite (fun _ => ?_) fun _ => ?_ | refine ok_not (fun _ => ?_) fun _ => ?_ | refine ok_cond (fun _ => ?_) fun _ => ?_) | (with_reducible refine ok_next ?_ ?_ ?_ <;> (first | assumption | omega | rw [w64_of] <;> omega)) | with_reducible refine ok_bind (ok_idx (by (first | assumption | omega | rw [w64_of] <;> omega)) (by (first | assumption | omega | rw [w64_of] <;> omega))) (fun _ _ => ?_) | (with_reducible refine Ok.yes (trace_tables_3_ok _) <;> (first | assumption | omega | rw [w64_of] <;> omega)) | (with_reducible refine ok_bind (Q := Yes) ?_ fun _ _ => ?_) | dsimp only)
 ·repeat' (first | (with_reducible first | exact ok_yes | exact ok_inrY | exact ok_inlY | refine ok_nite (fun _ => ?_) fun _ => ?_ | refine ok_ite (fun _ => ?_) fun _ => ?_ | refine ok_not (fun _ => ?_) fun _ => ?_ | refine ok_cond (fun _ => ?_) fun _ => ?_) | (with_reducible refine ok_next ?_ ?_ ?_ <;> (first | assumption | omega | rw [w64_of] <;> omega)) | with_reducible refine ok_bind (ok_idx (by (first | assumption | omega | rw [w64_of] <;> omega)) (by (first | assumption | omega | rw [w64_of] <;> omega))) (fun _ _ => ?_) | (with_reducible refine Ok.yes (trace_tables_3_ok _) <;> (first | assumption | omega | rw [w64_of] <;> omega)) | (with_reducible refine ok_bind (Q := Yes) ?_ fun _ _ => ?_) | dsimp only)
 ·repeat' (first | (with_reducible first | exact ok_yes | exact ok_inrY | exact ok_inlY | refine ok_nite (fun _ => ?_) fun _ => ?_ | refine ok_ite (fun _ => ?_) fun _ => ?_ | refine ok_not (fun _ => ?_) fun _ => ?_ | refine ok_cond (fun _ => ?_) fun _ => ?_) | (with_reducible refine ok_next ?_ ?_ ?_ <;> (first | assumption | omega | rw [w64_of] <;> omega)) | with_reducible refine ok_bind (ok_idx (by (first | assumption | omega | rw [w64_of] <;> omega)) (by (first | assumption | omega | rw [w64_of] <;> omega))) (fun _ _ => ?_) | (with_reducible refine Ok.yes (trace_tables_3_ok _) <;> (first | assumption | omega | rw [w64_of] <;> omega)) | (with_reducible refine ok_bind (Q := Yes) ?_ fun _ _ => ?_) | dsimp only)
theorem trace_tables_4_ok (a) : Tot (trace_tables_4 a) := ⟨_, rfl, trivial⟩
theorem trace_known_api_Sample_k1_ok (e : Int) (m) (l : List api_Sample) (h : l.length ≤ 9223372036854775807) : Tot (trace_known_api_Sample_k1 e m l) := by
 unfold trace_known_api_Sample_k1
 refine ok_nite (fun _ => ok_yes) (fun _ => ?_)
 refine ok_bindS (Q := Yes) (ok_up l.length (by omega) fun i h1 h2 => ?_) (fun _ _ => ?_) (fun _ _ => ?_)
 ·unfold trace_known_api_Sample_k1_L1
  repeat' (first | (with_reducible first | exact ok_yes | exact ok_inrY | exact ok_inlY | refine ok_nite (fun _ => ?_) fun _ => ?_ | refine ok_ite (fun _ => ?_) fun _ => ?_ | refine ok_not (fun _ => ?_) fun _ => ?_ | refine ok_cond (fun _ => ?_) fun _ => ?_) | (with_reducible refine ok_next ?_ ?_ ?_ <;> (first | assumption | omega | rw [w64_of] <;> omega)) | with_reducible refine ok_bind (ok_idx (by (first | assumption | omega | rw [w64_of] <;> omega)) (by (first | assumption | omega | rw [w64_of] <;> omega))) (fun _ _ => ?_) | (with_reducible refine Ok.yes (trace_tables_4_ok _) <;> (first | assumption | omega | rw [w64_of] <;> omega)) | (with_reducible refine ok_bind (Q := Yes) ?_ fun _ _ => ?_) | dsimp only)
 ·repeat' (first | (with_reducible first | exact ok_yes | exact ok_inrY | exact ok_inlY | refine ok_nite (fun _ => ?_) fun _ => ?_ | refine ok_ite (fun _ => ?_) fun _ => ?_ | refine ok_not (fun _ => ?_) fun _ => ?_ | refine ok_cond (fun _ => ?_) fun _ => ?_) | (with_reducible refine ok_next ?_ ?_ ?_ <;> (first | assumption | omega | rw [w64_of] <;> omega)) | with_reducible refine ok_bind (ok_idx (by (first | assumption | omega | rw [w64_of] <;> omega)) (by (first | assumption | omega | rw [w64_of] <;> omega))) (fun _ _ => ?_) | (with_reducible refine Ok.yes (trace_tables_4_ok _) <;> (first | assumption | omega | rw [w64_of] <;> omega)) | (with_reducible refine ok_bind (Q := Yes) ?_ fun _ _ => ?_) | dsimp only)
 ·repeat' (first | (with_reducible first | exact ok_yes | exact ok_inrY | exact ok_inlY | refine ok_nite (fun _ => ?_) fun _ => ?_ | refine ok_ite (fun _ => ?_) fun _ => ?_ | refine ok_not (fun _ => ?_) fun _ => ?_ | refine ok_cond (fun _ => ?_) fun _ => ?_) | (with_reducible refine ok_next ?_ ?_ ?_ <;> (first | assumption | omega | rw [w64_of] <;> omega)) | with_reducible refine ok_bind (ok_idx (by (first | assumption | omega | rw [w64_of] <;> omega)) (by (first | assumption | omega | rw [w64_of] <;> omega))) (fun _ _ => ?_) | (with_reducible refine Ok.yes (trace_tables_4_ok _) <;> (first | assumption | omega | rw [w64_of] <;> omega)) | (with_reducible refine ok_bind (Q := Yes) ?_ fun _ _ => ?_) | dsimp only)
theorem trace_tables_5_ok (a) : Tot (trace_tables_5 a) := ⟨_, rfl, trivial⟩
theorem trace_known_api_Block_k1_ok (e : Int) (m) (l : List api_Block) (h : l.length ≤ 9223372036854775807) : Tot (trace_known_api_Block_k1 e m l) := by
 unfold trace_known_api_Block_k1
 refine ok_nite (fun _ => ok_yes) (fun _ => ?_)
 refine ok_bindS (Q := Yes) (ok_up l.length (by omega) fun i h1 h2 => ?_) (fun _ _ => ?_) (fun _ _ => ?_)
 ·unfold trace_known_api_Block_k1_L1
  repeat' (first | (with_reducible first | exact ok_yes | exact ok_inrY | exact ok_inlY | refine ok_nite (fun _ => ?_) fun _ => ?_ | refine ok_ite (fun _ => ?_) fun _ => ?_ | refine ok_not (fun _ => ?_) fun _ => ?_ | refine ok_cond (fun _ => ?_) fun _ => ?_) | (with_reducible refine ok_next ?_ ?_ ?_ <;> (first | assumption | omega | rw [w64_of] <;> omega)) | with_reducible refine ok_bind (ok_idx (by (first | assumption | omega | rw [w64_of] <;> omega)) (by (first | assumption | omega | rw [w64_of] <;> omega))) (fun _ _ => ?_) | (with_reducible refine Ok.yes (trace_tables_5_ok _) <;> (first | assumption | omega | rw [w64_of] <;> omega)) | (with_reducible refine ok_bind (Q := Yes) ?_ fun _ _ => ?_) | dsimp only)
 ·repeat' (first | (with_reducible first | exact ok_yes | exact ok_inrY | exact ok_inlY | refine ok_nite (fun _ => ?_) fun _ => ?_ | refine ok_ite (fun _ => ?_) fun _ => ?_ | refine ok_not (fun _ => ?_) fun _ => ?_ | refine ok_cond (fun _ => ?_) fun _ => ?_) | (with_reducible refine ok_next ?_ ?_ ?_ <;> (first | assumption | omega | rw [w64_of] <;> omega)) | with_reducible refine ok_bind (ok_idx (by (first | assumption | omega | rw [w64_of] <;> omega)) (by (first | assumption | omega | rw [w64_of] <;> omega))) (fun _ _ => ?_) | (with_reducible refine Ok.yes (trace_tables_5_ok _) <;> (first | assumption | omega | rw [w64_of] <;> omega)) | (with_reducible refine ok_bind (Q := Yes) ?_ fun _ _ => ?_) | dsimp only)
 ·repeat' (first | (with_reducible first | exact ok_yes | exact ok_inrY | exact ok_inlY | refine ok_nite (fun _ => ?_) fun _ => ?_ | refine ok_ite (fun _ => ?_) fun _ => ?_ | refine ok_not (fun _ => ?_) fun _ => ?_ | refine ok_cond (fun _ => ?_) fun _ => ?_) | (with_reducible refine ok_next ?_ ?_ ?_ <;> (first | assumption | omega | rw [w64_of] <;> omega)) | with_reducible refine ok_bind (ok_idx (by (first | assumption | omega | rw [w64_of] <;> omega)) (by (first | assumption | omega | rw [w64_of] <;> omega))) (fun _ _ => ?_) | (with_reducible refine Ok.yes (trace_tables_5_ok _) <;> (first | assumption | omega | rw [w64_of] <;> omega)) | (with_reducible refine ok_bind (Q := Yes) ?_ fun _ _ => ?_) | dsimp only)
theorem trace_losses_k1_ok (m) (l : List api_Loss) (h : l.length ≤ 9223372036854775807) : Tot (trace_losses_k1 m l) := by
 unfold trace_losses_k1
 refine ok_bindS (Q := Yes) (ok_up l.length (by omega) fun i h1 h2 => ?_) (fun _ _ => ?_) (fun _ _ => ?_)
 ·unfold trace_losses_k1_L1
  repeat' (first | (with_reducible first | exact ok_yes | exact ok_inrY | exact ok_inlY | refine ok_nite (fun _ => ?_) fun _ => ?_ | refine ok_ite (fun _ => ?_) fun _ => ?_ | refine ok_not (fun _ => ?_) fun _ => ?_ | refine ok_cond (fun _ => ?_) fun _ => ?_) | (with_reducible refine ok_next ?_ ?_ ?_ <;> (first | assumption | omega | rw [w64_of] <;> omega)) | with_reducible refine ok_bind (ok_idx (by (first | assumption | omega | rw [w64_of] <;> omega)) (by (first | assumption | omega | rw [w64_of] <;> omega))) (fun _ _ => ?_) | (with_reducible refine Ok.yes (spans_Valid_ok _) <;> (first | assumption | omega | rw [w64_of] <;> omega)) | (with_reducible refine ok_bind (Q := Yes) ?_ fun _ _ => ?_) | dsimp only)
 ·repeat' (first | (with_reducible first | exact ok_yes | exact ok_inrY | exact ok_inlY | refine ok_nite (fun _ => ?_) fun _ => ?_ | refine ok_ite (fun _ => ?_) fun _ => ?_ | refine ok_not (fun _ => ?_) fun _ => ?_ | refine ok_cond (fun _ => ?_) fun _ => ?_) | (with_reducible refine ok_next ?_ ?_ ?_ <;> (first | assumption | omega | rw [w64_of] <;> omega)) | with_reducible refine ok_bind (ok_idx (by (first | assumption | omega | rw [w64_of] <;> omega)) (by (first | assumption | omega | rw [w64_of] <;> omega))) (fun _ _ => ?_) | (with_reducible refine Ok.yes (spans_Valid_ok _) <;> (first | assumption | omega | rw [w64_of] <;> omega)) | (with_reducible refine ok_bind (Q := Yes) ?_ fun _ _ => ?_) | dsimp only)
 ·repeat' (first | (with_reducible first | exact ok_yes | exact ok_inrY | exact ok_inlY | refine ok_nite (fun _ => ?_) fun _ => ?_ | refine ok_ite (fun _ => ?_) fun _ => ?_ | refine ok_not (fun _ => ?_) fun _ => ?_ | refine ok_cond (fun _ => ?_) fun _ => ?_) | (with_reducible refine ok_next ?_ ?_ ?_ <;> (first | assumption | omega | rw [w64_of] <;> omega)) | with_reducible refine ok_bind (ok_idx (by (first | assumption | omega | rw [w64_of] <;> omega)) (by (first | assumption | omega | rw [w64_of] <;> omega))) (fun _ _ => ?_) | (with_reducible refine Ok.yes (spans_Valid_ok _) <;> (first | assumption | omega | rw [w64_of] <;> omega)) | (with_reducible refine ok_bind (Q := Yes) ?_ fun _ _ => ?_) | dsimp only)
theorem flow_bad_ok (a b : Int) : Tot (flow_bad a b) := by
 unfold flow_bad
 repeat' (first | (with_reducible first | exact ok_yes | exact ok_inrY | exact ok_inlY | refine ok_nite (fun _ => ?_) fun _ => ?_ | refine ok_ite (fun _ => ?_) fun _ => ?_ | refine ok_not (fun _ => ?_) fun _ => ?_ | refine ok_cond (fun _ => ?_) fun _ => ?_) | (with_reducible refine ok_next ?_ ?_ ?_ <;> (first | assumption | omega | rw [w64_of] <;> omega)) | with_reducible refine ok_bind (ok_idx (by (first | assumption | omega | rw [w64_of] <;> omega)) (by (first | assumption | omega | rw [w64_of] <;> omega))) (fun _ _ => ?_) | (with_reducible refine ok_bind (Q := Yes) ?_ fun _ _ => ?_) | dsimp only)
theorem sample_good_ok (a) : Tot (sample_good a) := by
 unfold sample_good
 repeat' (first | (with_reducible first | exact ok_yes | exact ok_inrY | exact ok_inlY | refine ok_nite (fun _ => ?_) fun _ => ?_ | refine ok_ite (fun _ => ?_) fun _ => ?_ | refine ok_not (fun _ => ?_) fun _ => ?_ | refine ok_cond (fun _ => ?_) fun _ => ?_) | (with_reducible refine ok_next ?_ ?_ ?_ <;> (first | assumption | omega | rw [w64_of] <;> omega)) | with_reducible refine ok_bind (ok_idx (by (first | assumption | omega | rw [w64_of] <;> omega)) (by (first | assumption | omega | rw [w64_of] <;> omega))) (fun _ _ => ?_) | (with_reducible refine ok_bind (Q := Yes) ?_ fun _ _ => ?_) | dsimp only)
theorem num_In_ok (a) : Tot (num_In a) := by
 unfold num_In
 repeat' (first | (with_reducible first | exact ok_yes | exact ok_inrY | exact ok_inlY | refine ok_nite (fun _ => ?_) fun _ => ?_ | refine ok_ite (fun _ => ?_) fun _ => ?_ | refine ok_not (fun _ => ?_) fun _ => ?_ | refine ok_cond (fun _ => ?_) fun _ => ?_) | (with_reducible refine ok_next ?_ ?_ ?_ <;> (first | assumption | omega | rw [w64_of] <;> omega)) | with_reducible refine ok_bind (ok_idx (by (first | assumption | omega | rw [w64_of] <;> omega)) (by (first | assumption | omega | rw [w64_of] <;> omega))) (fun _ _ => ?_) | (with_reducible refine ok_bind (Q := Yes) ?_ fun _ _ => ?_) | dsimp only)
theorem cmp_Compare_string_ok (a b) : Tot (cmp_Compare_string a b) := by
 unfold cmp_Compare_string cmp_isNaN_string
 repeat' (first | (with_reducible first | exact ok_yes | exact ok_inrY | exact ok_inlY | refine ok_nite (fun _ => ?_) fun _ => ?_ | refine ok_ite (fun _ => ?_) fun _ => ?_ | refine ok_not (fun _ => ?_) fun _ => ?_ | refine ok_cond (fun _ => ?_) fun _ => ?_) | (with_reducible refine ok_next ?_ ?_ ?_ <;> (first | assumption | omega | rw [w64_of] <;> omega)) | with_reducible refine ok_bind (ok_idx (by (first | assumption | omega | rw [w64_of] <;> omega)) (by (first | assumption | omega | rw [w64_of] <;> omega))) (fun _ _ => ?_) | (with_reducible refine ok_bind (Q := Yes) ?_ fun _ _ => ?_) | dsimp only)
theorem counter_order_ok (a b) : Tot (counter_order a b) := by
 unfold counter_order
 repeat' (first | (with_reducible first | exact ok_yes | exact ok_inrY | exact ok_inlY | refine ok_nite (fun _ => ?_) fun _ => ?_ | refine ok_ite (fun _ => ?_) fun _ => ?_ | refine ok_not (fun _ => ?_) fun _ => ?_ | refine ok_cond (fun _ => ?_) fun _ => ?_) | (with_reducible refine ok_next ?_ ?_ ?_ <;> (first | assumption | omega | rw [w64_of] <;> omega)) | with_reducible refine ok_bind (ok_idx (by (first | assumption | omega | rw [w64_of] <;> omega)) (by (first | assumption | omega | rw [w64_of] <;> omega))) (fun _ _ => ?_) | (with_reducible refine Ok.yes (cmp_Compare_string_ok _ _) <;> (first | assumption | omega | rw [w64_of] <;> omega)) | (with_reducible refine Ok.yes (cmp_Compare_int_ok _ _) <;> (first | assumption | omega | rw [w64_of] <;> omega)) | (with_reducible refine Ok.yes (cmp_Or_int_ok _ (Nat.le_of_ble_eq_true rfl)) <;> (first | assumption | omega | rw [w64_of] <;> omega)) | (with_reducible refine ok_bind (Q := Yes) ?_ fun _ _ => ?_) | dsimp only)
theorem flow_Check_ok (l : List api_Flow) (h : l.length ≤ 9223372036854775807) : Tot (flow_Check l) := by
 unfold flow_Check
 refine ok_bindS (Q := Yes) (ok_up l.length (by omega) fun i h1 h2 => ?_) (fun _ _ => ?_) (fun _ _ => ?_)
 ·unfold flow_Check_L1
  repeat' (first | (with_reducible first | exact ok_yes | exact ok_inrY | exact ok_inlY | refine ok_nite (fun _ => ?_) fun _ => ?_ | refine ok_ite (fun _ => ?_) fun _ => ?_ | refine ok_not (fun _ => ?_) fun _ => ?_ | refine ok_cond (fun _ => ?_) fun _ => ?_) | (with_reducible refine ok_next ?_ ?_ ?_ <;> (first | assumption | omega | rw [w64_of] <;> omega)) | with_reducible refine ok_bind (ok_idx (by (first | assumption | omega | rw [w64_of] <;> omega)) (by (first | assumption | omega | rw [w64_of] <;> omega))) (fun _ _ => ?_) | (with_reducible refine Ok.yes (flow_bad_ok _ _) <;> (first | assumption | omega | rw [w64_of] <;> omega)) | (with_reducible refine ok_bind (Q := Yes) ?_ fun _ _ => ?_) | dsimp only)
 ·repeat' (first | (with_reducible first | exact ok_yes | exact ok_inrY | exact ok_inlY | refine ok_nite (fun _ => ?_) fun _ => ?_ | refine ok_ite (fun _ => ?_) fun _ => ?_ | refine ok_not (fun _ => ?_) fun _ => ?_ | refine ok_cond (fun _ => ?_) fun _ => ?_) | (with_reducible refine ok_next ?_ ?_ ?_ <;> (first | assumption | omega | rw [w64_of] <;> omega)) | with_reducible refine ok_bind (ok_idx (by (first | assumption | omega | rw [w64_of] <;> omega)) (by (first | assumption | omega | rw [w64_of] <;> omega))) (fun _ _ => ?_) | (with_reducible refine Ok.yes (flow_bad_ok _ _) <;> (first | assumption | omega | rw [w64_of] <;> omega)) | (with_reducible refine ok_bind (Q := Yes) ?_ fun _ _ => ?_) | dsimp only)
 ·repeat' (first | (with_reducible first | exact ok_yes | exact ok_inrY | exact ok_inlY | refine ok_nite (fun _ => ?_) fun _ => ?_ | refine ok_ite (fun _ => ?_) fun _ => ?_ | refine ok_not (fun _ => ?_) fun _ => ?_ | refine ok_cond (fun _ => ?_) fun _ => ?_) | (with_reducible refine ok_next ?_ ?_ ?_ <;> (first | assumption | omega | rw [w64_of] <;> omega)) | with_reducible refine ok_bind (ok_idx (by (first | assumption | omega | rw [w64_of] <;> omega)) (by (first | assumption | omega | rw [w64_of] <;> omega))) (fun _ _ => ?_) | (with_reducible refine Ok.yes (flow_bad_ok _ _) <;> (first | assumption | omega | rw [w64_of] <;> omega)) | (with_reducible refine ok_bind (Q := Yes) ?_ fun _ _ => ?_) | dsimp only)
theorem sample_Check_ok (l : List api_Sample) (h : l.length ≤ 9223372036854775807) (hx : ∀ x ∈ l, x.fStack.length ≤ 9223372036854775807 ∧ ∀ y ∈ x.fStack, okN y) : Tot (sample_Check l) := by
 unfold sample_Check
 refine ok_bindS (Q := Yes) (ok_up l.length (by omega) fun i h1 h2 => ?_) (fun _ _ => ?_) (fun _ _ => ?_)
 ·unfold sample_Check_L1
  repeat' (first | (with_reducible first | exact ok_yes | exact ok_inrY | exact ok_inlY | refine ok_nite (fun _ => ?_) fun _ => ?_ | refine ok_ite (fun _ => ?_) fun _ => ?_ | refine ok_not (fun _ => ?_) fun _ => ?_ | refine ok_cond (fun _ => ?_) fun _ => ?_) | (with_reducible refine ok_next ?_ ?_ ?_ <;> (first | assumption | omega | rw [w64_of] <;> omega)) | with_reducible refine ok_bind (ok_idx (by (first | assumption | omega | rw [w64_of] <;> omega)) (by (first | assumption | omega | rw [w64_of] <;> omega))) (fun _ _ => ?_) | (with_reducible refine Ok.yes (sample_good_ok _) <;> (first | assumption | omega | rw [w64_of] <;> omega)) | (with_reducible refine Ok.yes (intern_Frames_ok _ (hx _ (List.mem_of_getElem? (by assumption))).1 (hx _ (List.mem_of_getElem? (by assumption))).2) <;> (first | assumption | omega | rw [w64_of] <;> omega)) | (with_reducible refine ok_bind (Q := Yes) ?_ fun _ _ => ?_) | dsimp only)
 ·repeat' (first | (with_reducible first | exact ok_yes | exact ok_inrY | exact ok_inlY | refine ok_nite (fun _ => ?_) fun _ => ?_ | refine ok_ite (fun _ => ?_) fun _ => ?_ | refine ok_not (fun _ => ?_) fun _ => ?_ | refine ok_cond (fun _ => ?_) fun _ => ?_) | (with_reducible refine ok_next ?_ ?_ ?_ <;> (first | assumption | omega | rw [w64_of] <;> omega)) | with_reducible refine ok_bind (ok_idx (by (first | assumption | omega | rw [w64_of] <;> omega)) (by (first | assumption | omega | rw [w64_of] <;> omega))) (fun _ _ => ?_) | (with_reducible refine Ok.yes (sample_good_ok _) <;> (first | assumption | omega | rw [w64_of] <;> omega)) | (with_reducible refine Ok.yes (intern_Frames_ok _ (hx _ (List.mem_of_getElem? (by assumption))).1 (hx _ (List.mem_of_getElem? (by assumption))).2) <;> (first | assumption | omega | rw [w64_of] <;> omega)) | (with_reducible refine ok_bind (Q := Yes) ?_ fun _ _ => ?_) | dsimp only)
 ·repeat' (first | (with_reducible first | exact ok_yes | exact ok_inrY | exact ok_inlY | refine ok_nite (fun _ => ?_) fun _ => ?_ | refine ok_ite (fun _ => ?_) fun _ => ?_ | refine ok_not (fun _ => ?_) fun _ => ?_ | refine ok_cond (fun _ => ?_) fun _ => ?_) | (with_reducible refine ok_next ?_ ?_ ?_ <;> (first | assumption | omega | rw [w64_of] <;> omega)) | with_reducible refine ok_bind (ok_idx (by (first | assumption | omega | rw [w64_of] <;> omega)) (by (first | assumption | omega | rw [w64_of] <;> omega))) (fun _ _ => ?_) | (with_reducible refine Ok.yes (sample_good_ok _) <;> (first | assumption | omega | rw [w64_of] <;> omega)) | (with_reducible refine Ok.yes (intern_Frames_ok _ (hx _ (List.mem_of_getElem? (by assumption))).1 (hx _ (List.mem_of_getElem? (by assumption))).2) <;> (first | assumption | omega | rw [w64_of] <;> omega)) | (with_reducible refine ok_bind (Q := Yes) ?_ fun _ _ => ?_) | dsimp only)
theorem counter_Check_ok (l : List api_Step) (h : l.length ≤ 9223372036854775807) (hx : ∀ x ∈ l, okN x.fName) : Tot (counter_Check l) := by
 unfold counter_Check
 refine ok_bindS (Q := Yes) (ok_up l.length (by omega) fun i h1 h2 => ?_) (fun _ _ => ?_) (fun _ _ => ?_)
 ·unfold counter_Check_L1
  repeat' (first | (with_reducible first | exact ok_yes | exact ok_inrY | exact ok_inlY | refine ok_nite (fun _ => ?_) fun _ => ?_ | refine ok_ite (fun _ => ?_) fun _ => ?_ | refine ok_not (fun _ => ?_) fun _ => ?_ | refine ok_cond (fun _ => ?_) fun _ => ?_) | (with_reducible refine ok_next ?_ ?_ ?_ <;> (first | assumption | omega | rw [w64_of] <;> omega)) | with_reducible refine ok_bind (ok_idx (by (first | assumption | omega | rw [w64_of] <;> omega)) (by (first | assumption | omega | rw [w64_of] <;> omega))) (fun _ _ => ?_) | (with_reducible refine Ok.yes (num_In_ok _) <;> (first | assumption | omega | rw [w64_of] <;> omega)) | (with_reducible refine Ok.yes (counter_order_ok _ _) <;> (first | assumption | omega | rw [w64_of] <;> omega)) | (with_reducible refine Ok.yes (intern_Name_ok _ (hx _ (List.mem_of_getElem? (by assumption)))) <;> (first | assumption | omega | rw [w64_of] <;> omega)) | (with_reducible refine ok_bind (Q := Yes) ?_ fun _ _ => ?_) | dsimp only)
 ·repeat' (first | (with_reducible first | exact ok_yes | exact ok_inrY | exact ok_inlY | refine ok_nite (fun _ => ?_) fun _ => ?_ | refine ok_ite (fun _ => ?_) fun _ => ?_ | refine ok_not (fun _ => ?_) fun _ => ?_ | refine ok_cond (fun _ => ?_) fun _ => ?_) | (with_reducible refine ok_next ?_ ?_ ?_ <;> (first | assumption | omega | rw [w64_of] <;> omega)) | with_reducible refine ok_bind (ok_idx (by (first | assumption | omega | rw [w64_of] <;> omega)) (by (first | assumption | omega | rw [w64_of] <;> omega))) (fun _ _ => ?_) | (with_reducible refine Ok.yes (num_In_ok _) <;> (first | assumption | omega | rw [w64_of] <;> omega)) | (with_reducible refine Ok.yes (counter_order_ok _ _) <;> (first | assumption | omega | rw [w64_of] <;> omega)) | (with_reducible refine Ok.yes (intern_Name_ok _ (hx _ (List.mem_of_getElem? (by assumption)))) <;> (first | assumption | omega | rw [w64_of] <;> omega)) | (with_reducible refine ok_bind (Q := Yes) ?_ fun _ _ => ?_) | dsimp only)
 ·repeat' (first | (with_reducible first | exact ok_yes | exact ok_inrY | exact ok_inlY | refine ok_nite (fun _ => ?_) fun _ => ?_ | refine ok_ite (fun _ => ?_) fun _ => ?_ | refine ok_not (fun _ => ?_) fun _ => ?_ | refine ok_cond (fun _ => ?_) fun _ => ?_) | (with_reducible refine ok_next ?_ ?_ ?_ <;> (first | assumption | omega | rw [w64_of] <;> omega)) | with_reducible refine ok_bind (ok_idx (by (first | assumption | omega | rw [w64_of] <;> omega)) (by (first | assumption | omega | rw [w64_of] <;> omega))) (fun _ _ => ?_) | (with_reducible refine Ok.yes (num_In_ok _) <;> (first | assumption | omega | rw [w64_of] <;> omega)) | (with_reducible refine Ok.yes (counter_order_ok _ _) <;> (first | assumption | omega | rw [w64_of] <;> omega)) | (with_reducible refine Ok.yes (intern_Name_ok _ (hx _ (List.mem_of_getElem? (by assumption)))) <;> (first | assumption | omega | rw [w64_of] <;> omega)) | (with_reducible refine ok_bind (Q := Yes) ?_ fun _ _ => ?_) | dsimp only)
theorem trace_within_ok (a b) : Tot (trace_within a b) := by
 unfold trace_within
 repeat' (first | (with_reducible first | exact ok_yes | exact ok_inrY | exact ok_inlY | refine ok_nite (fun _ => ?_) fun _ => ?_ | refine ok_ite (fun _ => ?_) fun _ => ?_ | refine ok_not (fun _ => ?_) fun _ => ?_ | refine ok_cond (fun _ => ?_) fun _ => ?_) | (with_reducible refine ok_next ?_ ?_ ?_ <;> (first | assumption | omega | rw [w64_of] <;> omega)) | with_reducible refine ok_bind (ok_idx (by (first | assumption | omega | rw [w64_of] <;> omega)) (by (first | assumption | omega | rw [w64_of] <;> omega))) (fun _ _ => ?_) | (with_reducible refine ok_bind (Q := Yes) ?_ fun _ _ => ?_) | dsimp only)
theorem trace_inside_ok (a b) : Tot (trace_inside a b) := by
 unfold trace_inside
 repeat' (first | (with_reducible first | exact ok_yes | exact ok_inrY | exact ok_inlY | refine ok_nite (fun _ => ?_) fun _ => ?_ | refine ok_ite (fun _ => ?_) fun _ => ?_ | refine ok_not (fun _ => ?_) fun _ => ?_ | refine ok_cond (fun _ => ?_) fun _ => ?_) | (with_reducible refine ok_next ?_ ?_ ?_ <;> (first | assumption | omega | rw [w64_of] <;> omega)) | with_reducible refine ok_bind (ok_idx (by (first | assumption | omega | rw [w64_of] <;> omega)) (by (first | assumption | omega | rw [w64_of] <;> omega))) (fun _ _ => ?_) | (with_reducible refine ok_bind (Q := Yes) ?_ fun _ _ => ?_) | dsimp only)
theorem critical_known_1_k1_ok (a b) : Tot (critical_known_1_k1 a b) := ⟨_, rfl, trivial⟩
theorem critical_known_ok (t : api_Trace) (a : Int) (h : t.fThreads.length ≤ 9223372036854775807) : Tot (critical_known t a) := by
 unfold critical_known slices_ContainsFunc_api_Thread_api_Thread_k1
 refine ok_bind (Q := Yes) (ok_bind (Q := Yes) ?_ (fun _ _ => ok_yes)) (fun _ _ => ok_yes)
 unfold slices_IndexFunc_api_Thread_api_Thread_k1
 refine ok_bindS (Q := Yes) (ok_up t.fThreads.length (by omega) fun i h1 h2 => ?_) (fun _ _ => ?_) (fun _ _ => ?_)
 ·unfold slices_IndexFunc_api_Thread_api_Thread_k1_L1
  repeat' (first | (with_reducible first | exact ok_yes | exact ok_inrY | exact ok_inlY | refine ok_nite (fun _ => ?_) fun _ => ?_ | refine ok_ite (fun _ => ?_) fun _ => ?_ | refine ok_not (fun _ => ?_) fun _ => ?_ | refine ok_cond (fun _ => ?_) fun _ => ?_) | (with_reducible refine ok_next ?_ ?_ ?_ <;> (first | assumption | omega | rw [w64_of] <;> omega)) | with_reducible refine ok_bind (ok_idx (by (first | assumption | omega | rw [w64_of] <;> omega)) (by (first | assumption | omega | rw [w64_of] <;> omega))) (fun _ _ => ?_) | (with_reducible refine Ok.yes (critical_known_1_k1_ok _ _) <;> (first | assumption | omega | rw [w64_of] <;> omega)) | (with_reducible refine ok_bind (Q := Yes) ?_ fun _ _ => ?_) | dsimp only)
 ·repeat' (first | (with_reducible first | exact ok_yes | exact ok_inrY | exact ok_inlY | refine ok_nite (fun _ => ?_) fun _ => ?_ | refine ok_ite (fun _ => ?_) fun _ => ?_ | refine ok_not (fun _ => ?_) fun _ => ?_ | refine ok_cond (fun _ => ?_) fun _ => ?_) | (with_reducible refine ok_next ?_ ?_ ?_ <;> (first | assumption | omega | rw [w64_of] <;> omega)) | with_reducible refine ok_bind (ok_idx (by (first | assumption | omega | rw [w64_of] <;> omega)) (by (first | assumption | omega | rw [w64_of] <;> omega))) (fun _ _ => ?_) | (with_reducible refine Ok.yes (critical_known_1_k1_ok _ _) <;> (first | assumption | omega | rw [w64_of] <;> omega)) | (with_reducible refine ok_bind (Q := Yes) ?_ fun _ _ => ?_) | dsimp only)
 ·repeat' (first | (with_reducible first | exact ok_yes | exact ok_inrY | exact ok_inlY | refine ok_nite (fun _ => ?_) fun _ => ?_ | refine ok_ite (fun _ => ?_) fun _ => ?_ | refine ok_not (fun _ => ?_) fun _ => ?_ | refine ok_cond (fun _ => ?_) fun _ => ?_) | (with_reducible refine ok_next ?_ ?_ ?_ <;> (first | assumption | omega | rw [w64_of] <;> omega)) | with_reducible refine ok_bind (ok_idx (by (first | assumption | omega | rw [w64_of] <;> omega)) (by (first | assumption | omega | rw [w64_of] <;> omega))) (fun _ _ => ?_) | (with_reducible refine Ok.yes (critical_known_1_k1_ok _ _) <;> (first | assumption | omega | rw [w64_of] <;> omega)) | (with_reducible refine ok_bind (Q := Yes) ?_ fun _ _ => ?_) | dsimp only)
theorem trace_outside_1_k1_ok (a b) : Tot (trace_outside_1_k1 a b) := by
 unfold trace_outside_1_k1
 repeat' (first | (with_reducible first | exact ok_yes | exact ok_inrY | exact ok_inlY | refine ok_nite (fun _ => ?_) fun _ => ?_ | refine ok_ite (fun _ => ?_) fun _ => ?_ | refine ok_not (fun _ => ?_) fun _ => ?_ | refine ok_cond (fun _ => ?_) fun _ => ?_) | (with_reducible refine ok_next ?_ ?_ ?_ <;> (first | assumption | omega | rw [w64_of] <;> omega)) | with_reducible refine ok_bind (ok_idx (by (first | assumption | omega | rw [w64_of] <;> omega)) (by (first | assumption | omega | rw [w64_of] <;> omega))) (fun _ _ => ?_) | (with_reducible refine Ok.yes (trace_within_ok _ _) <;> (first | assumption | omega | rw [w64_of] <;> omega)) | (with_reducible refine Ok.yes (trace_inside_ok _ _) <;> (first | assumption | omega | rw [w64_of] <;> omega)) | (with_reducible refine ok_bind (Q := Yes) ?_ fun _ _ => ?_) | dsimp only)
theorem slices_ContainsFunc_api_Slice_api_Slice_k1_ok (l : List api_Slice) (a) (h : l.length ≤ 9223372036854775807) : Tot (slices_ContainsFunc_api_Slice_api_Slice_k1 l a) := by
 unfold slices_ContainsFunc_api_Slice_api_Slice_k1
 refine ok_bind (Q := Yes) ?_ (fun _ _ => ok_yes)
 unfold slices_IndexFunc_api_Slice_api_Slice_k1
 refine ok_bindS (Q := Yes) (ok_up l.length (by omega) fun i h1 h2 => ?_) (fun _ _ => ?_) (fun _ _ => ?_)
 ·unfold slices_IndexFunc_api_Slice_api_Slice_k1_L1
  repeat' (first | (with_reducible first | exact ok_yes | exact ok_inrY | exact ok_inlY | refine ok_nite (fun _ => ?_) fun _ => ?_ | refine ok_ite (fun _ => ?_) fun _ => ?_ | refine ok_not (fun _ => ?_) fun _ => ?_ | refine ok_cond (fun _ => ?_) fun _ => ?_) | (with_reducible refine ok_next ?_ ?_ ?_ <;> (first | assumption | omega | rw [w64_of] <;> omega)) | with_reducible refine ok_bind (ok_idx (by (first | assumption | omega | rw [w64_of] <;> omega)) (by (first | assumption | omega | rw [w64_of] <;> omega))) (fun _ _ => ?_) | (with_reducible refine Ok.yes (trace_outside_1_k1_ok _ _) <;> (first | assumption | omega | rw [w64_of] <;> omega)) | (with_reducible refine ok_bind (Q := Yes) ?_ fun _ _ => ?_) | dsimp only)
 ·repeat' (first | (with_reducible first | exact ok_yes | exact ok_inrY | exact ok_inlY | refine ok_nite (fun _ => ?_) fun _ => ?_ | refine ok_ite (fun _ => ?_) fun _ => ?_ | refine ok_not (fun _ => ?_) fun _ => ?_ | refine ok_cond (fun _ => ?_) fun _ => ?_) | (with_reducible refine ok_next ?_ ?_ ?_ <;> (first | assumption | omega | rw [w64_of] <;> omega)) | with_reducible refine ok_bind (ok_idx (by (first | assumption | omega | rw [w64_of] <;> omega)) (by (first | assumption | omega | rw [w64_of] <;> omega))) (fun _ _ => ?_) | (with_reducible refine Ok.yes (trace_outside_1_k1_ok _ _) <;> (first | assumption | omega | rw [w64_of] <;> omega)) | (with_reducible refine ok_bind (Q := Yes) ?_ fun _ _ => ?_) | dsimp only)
 ·repeat' (first | (with_reducible first | exact ok_yes | exact ok_inrY | exact ok_inlY | refine ok_nite (fun _ => ?_) fun _ => ?_ | refine ok_ite (fun _ => ?_) fun _ => ?_ | refine ok_not (fun _ => ?_) fun _ => ?_ | refine ok_cond (fun _ => ?_) fun _ => ?_) | (with_reducible refine ok_next ?_ ?_ ?_ <;> (first | assumption | omega | rw [w64_of] <;> omega)) | with_reducible refine ok_bind (ok_idx (by (first | assumption | omega | rw [w64_of] <;> omega)) (by (first | assumption | omega | rw [w64_of] <;> omega))) (fun _ _ => ?_) | (with_reducible refine Ok.yes (trace_outside_1_k1_ok _ _) <;> (first | assumption | omega | rw [w64_of] <;> omega)) | (with_reducible refine ok_bind (Q := Yes) ?_ fun _ _ => ?_) | dsimp only)
theorem trace_outside_2_k1_ok (a b) : Tot (trace_outside_2_k1 a b) := by
 unfold trace_outside_2_k1
 repeat' (first | (with_reducible first | exact ok_yes | exact ok_inrY | exact ok_inlY | refine ok_nite (fun _ => ?_) fun _ => ?_ | refine ok_ite (fun _ => ?_) fun _ => ?_ | refine ok_not (fun _ => ?_) fun _ => ?_ | refine ok_cond (fun _ => ?_) fun _ => ?_) | (with_reducible refine ok_next ?_ ?_ ?_ <;> (first | assumption | omega | rw [w64_of] <;> omega)) | with_reducible refine ok_bind (ok_idx (by (first | assumption | omega | rw [w64_of] <;> omega)) (by (first | assumption | omega | rw [w64_of] <;> omega))) (fun _ _ => ?_) | (with_reducible refine Ok.yes (trace_within_ok _ _) <;> (first | assumption | omega | rw [w64_of] <;> omega)) | (with_reducible refine Ok.yes (trace_inside_ok _ _) <;> (first | assumption | omega | rw [w64_of] <;> omega)) | (with_reducible refine ok_bind (Q := Yes) ?_ fun _ _ => ?_) | dsimp only)
theorem slices_ContainsFunc_api_State_api_State_k1_ok (l : List api_State) (a) (h : l.length ≤ 9223372036854775807) : Tot (slices_ContainsFunc_api_State_api_State_k1 l a) := by
 unfold slices_ContainsFunc_api_State_api_State_k1
 refine ok_bind (Q := Yes) ?_ (fun _ _ => ok_yes)
 unfold slices_IndexFunc_api_State_api_State_k1
 refine ok_bindS (Q := Yes) (ok_up l.length (by omega) fun i h1 h2 => ?_) (fun _ _ => ?_) (fun _ _ => ?_)
 ·unfold slices_IndexFunc_api_State_api_State_k1_L1
  repeat' (first | (with_reducible first | exact ok_yes | exact ok_inrY | exact ok_inlY | refine ok_nite (fun _ => ?_) fun _ => ?_ | refine ok_ite (fun _ => ?_) fun _ => ?_ | refine ok_not (fun _ => ?_) fun _ => ?_ | refine ok_cond (fun _ => ?_) fun _ => ?_) | (with_reducible refine ok_next ?_ ?_ ?_ <;> (first | assumption | omega | rw [w64_of] <;> omega)) | with_reducible refine ok_bind (ok_idx (by (first | assumption | omega | rw [w64_of] <;> omega)) (by (first | assumption | omega | rw [w64_of] <;> omega))) (fun _ _ => ?_) | (with_reducible refine Ok.yes (trace_outside_2_k1_ok _ _) <;> (first | assumption | omega | rw [w64_of] <;> omega)) | (with_reducible refine ok_bind (Q := Yes) ?_ fun _ _ => ?_) | dsimp only)
 ·repeat' (first | (with_reducible first | exact ok_yes | exact ok_inrY | exact ok_inlY | refine ok_nite (fun _ => ?_) fun _ => ?_ | refine ok_ite (fun _ => ?_) fun _ => ?_ | refine ok_not (fun _ => ?_) fun _ => ?_ | refine ok_cond (fun _ => ?_) fun _ => ?_) | (with_reducible refine ok_next ?_ ?_ ?_ <;> (first | assumption | omega | rw [w64_of] <;> omega)) | with_reducible refine ok_bind (ok_idx (by (first | assumption | omega | rw [w64_of] <;> omega)) (by (first | assumption | omega | rw [w64_of] <;> omega))) (fun _ _ => ?_) | (with_reducible refine Ok.yes (trace_outside_2_k1_ok _ _) <;> (first | assumption | omega | rw [w64_of] <;> omega)) | (with_reducible refine ok_bind (Q := Yes) ?_ fun _ _ => ?_) | dsimp only)
 ·repeat' (first | (with_reducible first | exact ok_yes | exact ok_inrY | exact ok_inlY | refine ok_nite (fun _ => ?_) fun _ => ?_ | refine ok_ite (fun _ => ?_) fun _ => ?_ | refine ok_not (fun _ => ?_) fun _ => ?_ | refine ok_cond (fun _ => ?_) fun _ => ?_) | (with_reducible refine ok_next ?_ ?_ ?_ <;> (first | assumption | omega | rw [w64_of] <;> omega)) | with_reducible refine ok_bind (ok_idx (by (first | assumption | omega | rw [w64_of] <;> omega)) (by (first | assumption | omega | rw [w64_of] <;> omega))) (fun _ _ => ?_) | (with_reducible refine Ok.yes (trace_outside_2_k1_ok _ _) <;> (first | assumption | omega | rw [w64_of] <;> omega)) | (with_reducible refine ok_bind (Q := Yes) ?_ fun _ _ => ?_) | dsimp only)
theorem trace_outside_3_k1_ok (a b) : Tot (trace_outside_3_k1 a b) := by
 unfold trace_outside_3_k1
 repeat' (first | (with_reducible first | exact ok_yes | exact ok_inrY | exact ok_inlY | refine ok_nite (fun _ => ?_) fun _ => ?_ | refine ok_ite (fun _ => ?_) fun _ => ?_ | refine ok_not (fun _ => ?_) fun _ => ?_ | refine ok_cond (fun _ => ?_) fun _ => ?_) | (with_reducible refine ok_next ?_ ?_ ?_ <;> (first | assumption | omega | rw [w64_of] <;> omega)) | with_reducible refine ok_bind (ok_idx (by (first | assumption | omega | rw [w64_of] <;> omega)) (by (first | assumption | omega | rw [w64_of] <;> omega))) (fun _ _ => ?_) | (with_reducible refine Ok.yes (trace_within_ok _ _) <;> (first | assumption | omega | rw [w64_of] <;> omega)) | (with_reducible refine Ok.yes (trace_inside_ok _ _) <;> (first | assumption | omega | rw [w64_of] <;> omega)) | (with_reducible refine ok_bind (Q := Yes) ?_ fun _ _ => ?_) | dsimp only)
theorem slices_ContainsFunc_api_Block_api_Block_k1_ok (l : List api_Block) (a) (h : l.length ≤ 9223372036854775807) : Tot (slices_ContainsFunc_api_Block_api_Block_k1 l a) := by
 unfold slices_ContainsFunc_api_Block_api_Block_k1
 refine ok_bind (Q := Yes) ?_ (fun _ _ => ok_yes)
 unfold slices_IndexFunc_api_Block_api_Block_k1
 refine ok_bindS (Q := Yes) (ok_up l.length (by omega) fun i h1 h2 => ?_) (fun _ _ => ?_) (fun _ _ => ?_)
 ·unfold slices_IndexFunc_api_Block_api_Block_k1_L1
  repeat' (first | (with_reducible first | exact ok_yes | exact ok_inrY | exact ok_inlY | refine ok_nite (fun _ => ?_) fun _ => ?_ | refine ok_ite (fun _ => ?_) fun _ => ?_ | refine ok_not (fun _ => ?_) fun _ => ?_ | refine ok_cond (fun _ => ?_) fun _ => ?_) | (with_reducible refine ok_next ?_ ?_ ?_ <;> (first | assumption | omega | rw [w64_of] <;> omega)) | with_reducible refine ok_bind (ok_idx (by (first | assumption | omega | rw [w64_of] <;> omega)) (by (first | assumption | omega | rw [w64_of] <;> omega))) (fun _ _ => ?_) | (with_reducible refine Ok.yes (trace_outside_3_k1_ok _ _) <;> (first | assumption | omega | rw [w64_of] <;> omega)) | (with_reducible refine ok_bind (Q := Yes) ?_ fun _ _ => ?_) | dsimp only)
 ·repeat' (first | (with_reducible first | exact ok_yes | exact ok_inrY | exact ok_inlY | refine ok_nite (fun _ => ?_) fun _ => ?_ | refine ok_ite (fun _ => ?_) fun _ => ?_ | refine ok_not (fun _ => ?_) fun _ => ?_ | refine ok_cond (fun _ => ?_) fun _ => ?_) | (with_reducible refine ok_next ?_ ?_ ?_ <;> (first | assumption | omega | rw [w64_of] <;> omega)) | with_reducible refine ok_bind (ok_idx (by (first | assumption | omega | rw [w64_of] <;> omega)) (by (first | assumption | omega | rw [w64_of] <;> omega))) (fun _ _ => ?_) | (with_reducible refine Ok.yes (trace_outside_3_k1_ok _ _) <;> (first | assumption | omega | rw [w64_of] <;> omega)) | (with_reducible refine ok_bind (Q := Yes) ?_ fun _ _ => ?_) | dsimp only)
 ·repeat' (first | (with_reducible first | exact ok_yes | exact ok_inrY | exact ok_inlY | refine ok_nite (fun _ => ?_) fun _ => ?_ | refine ok_ite (fun _ => ?_) fun _ => ?_ | refine ok_not (fun _ => ?_) fun _ => ?_ | refine ok_cond (fun _ => ?_) fun _ => ?_) | (with_reducible refine ok_next ?_ ?_ ?_ <;> (first | assumption | omega | rw [w64_of] <;> omega)) | with_reducible refine ok_bind (ok_idx (by (first | assumption | omega | rw [w64_of] <;> omega)) (by (first | assumption | omega | rw [w64_of] <;> omega))) (fun _ _ => ?_) | (with_reducible refine Ok.yes (trace_outside_3_k1_ok _ _) <;> (first | assumption | omega | rw [w64_of] <;> omega)) | (with_reducible refine ok_bind (Q := Yes) ?_ fun _ _ => ?_) | dsimp only)
theorem trace_outside_4_k1_ok (a b) : Tot (trace_outside_4_k1 a b) := by
 unfold trace_outside_4_k1
 repeat' (first | (with_reducible first | exact ok_yes | exact ok_inrY | exact ok_inlY | refine ok_nite (fun _ => ?_) fun _ => ?_ | refine ok_ite (fun _ => ?_) fun _ => ?_ | refine ok_not (fun _ => ?_) fun _ => ?_ | refine ok_cond (fun _ => ?_) fun _ => ?_) | (with_reducible refine ok_next ?_ ?_ ?_ <;> (first | assumption | omega | rw [w64_of] <;> omega)) | with_reducible refine ok_bind (ok_idx (by (first | assumption | omega | rw [w64_of] <;> omega)) (by (first | assumption | omega | rw [w64_of] <;> omega))) (fun _ _ => ?_) | (with_reducible refine Ok.yes (trace_within_ok _ _) <;> (first | assumption | omega | rw [w64_of] <;> omega)) | (with_reducible refine Ok.yes (trace_inside_ok _ _) <;> (first | assumption | omega | rw [w64_of] <;> omega)) | (with_reducible refine ok_bind (Q := Yes) ?_ fun _ _ => ?_) | dsimp only)
theorem slices_ContainsFunc_api_Flow_api_Flow_k1_ok (l : List api_Flow) (a) (h : l.length ≤ 9223372036854775807) : Tot (slices_ContainsFunc_api_Flow_api_Flow_k1 l a) := by
 unfold slices_ContainsFunc_api_Flow_api_Flow_k1
 refine ok_bind (Q := Yes) ?_ (fun _ _ => ok_yes)
 unfold slices_IndexFunc_api_Flow_api_Flow_k1
 refine ok_bindS (Q := Yes) (ok_up l.length (by omega) fun i h1 h2 => ?_) (fun _ _ => ?_) (fun _ _ => ?_)
 ·unfold slices_IndexFunc_api_Flow_api_Flow_k1_L1
  repeat' (first | (with_reducible first | exact ok_yes | exact ok_inrY | exact ok_inlY | refine ok_nite (fun _ => ?_) fun _ => ?_ | refine ok_ite (fun _ => ?_) fun _ => ?_ | refine ok_not (fun _ => ?_) fun _ => ?_ | refine ok_cond (fun _ => ?_) fun _ => ?_) | (with_reducible refine ok_next ?_ ?_ ?_ <;> (first | assumption | omega | rw [w64_of] <;> omega)) | with_reducible refine ok_bind (ok_idx (by (first | assumption | omega | rw [w64_of] <;> omega)) (by (first | assumption | omega | rw [w64_of] <;> omega))) (fun _ _ => ?_) | (with_reducible refine Ok.yes (trace_outside_4_k1_ok _ _) <;> (first | assumption | omega | rw [w64_of] <;> omega)) | (with_reducible refine ok_bind (Q := Yes) ?_ fun _ _ => ?_) | dsimp only)
 ·repeat' (first | (with_reducible first | exact ok_yes | exact ok_inrY | exact ok_inlY | refine ok_nite (fun _ => ?_) fun _ => ?_ | refine ok_ite (fun _ => ?_) fun _ => ?_ | refine ok_not (fun _ => ?_) fun _ => ?_ | refine ok_cond (fun _ => ?_) fun _ => ?_) | (with_reducible refine ok_next ?_ ?_ ?_ <;> (first | assumption | omega | rw [w64_of] <;> omega)) | with_reducible refine ok_bind (ok_idx (by (first | assumption | omega | rw [w64_of] <;> omega)) (by (first | assumption | omega | rw [w64_of] <;> omega))) (fun _ _ => ?_) | (with_reducible refine Ok.yes (trace_outside_4_k1_ok _ _) <;> (first | assumption | omega | rw [w64_of] <;> omega)) | (with_reducible refine ok_bind (Q := Yes) ?_ fun _ _ => ?_) | dsimp only)
 ·repeat' (first | (with_reducible first | exact ok_yes | exact ok_inrY | exact ok_inlY | refine ok_nite (fun _ => ?_) fun _ => ?_ | refine ok_ite (fun _ => ?_) fun _ => ?_ | refine ok_not (fun _ => ?_) fun _ => ?_ | refine ok_cond (fun _ => ?_) fun _ => ?_) | (with_reducible refine ok_next ?_ ?_ ?_ <;> (first | assumption | omega | rw [w64_of] <;> omega)) | with_reducible refine ok_bind (ok_idx (by (first | assumption | omega | rw [w64_of] <;> omega)) (by (first | assumption | omega | rw [w64_of] <;> omega))) (fun _ _ => ?_) | (with_reducible refine Ok.yes (trace_outside_4_k1_ok _ _) <;> (first | assumption | omega | rw [w64_of] <;> omega)) | (with_reducible refine ok_bind (Q := Yes) ?_ fun _ _ => ?_) | dsimp only)
theorem trace_outside_5_k1_ok (a b) : Tot (trace_outside_5_k1 a b) := by
 unfold trace_outside_5_k1
 repeat' (first | (with_reducible first | exact ok_yes | exact ok_inrY | exact ok_inlY | refine ok_nite (fun _ => ?_) fun _ => ?_ | refine ok_ite (fun _ => ?_) fun _ => ?_ | refine ok_not (fun _ => ?_) fun _ => ?_ | refine ok_cond (fun _ => ?_) fun _ => ?_) | (with_reducible refine ok_next ?_ ?_ ?_ <;> (first | assumption | omega | rw [w64_of] <;> omega)) | with_reducible refine ok_bind (ok_idx (by (first | assumption | omega | rw [w64_of] <;> omega)) (by (first | assumption | omega | rw [w64_of] <;> omega))) (fun _ _ => ?_) | (with_reducible refine Ok.yes (trace_within_ok _ _) <;> (first | assumption | omega | rw [w64_of] <;> omega)) | (with_reducible refine Ok.yes (trace_inside_ok _ _) <;> (first | assumption | omega | rw [w64_of] <;> omega)) | (with_reducible refine ok_bind (Q := Yes) ?_ fun _ _ => ?_) | dsimp only)
theorem slices_ContainsFunc_api_Sample_api_Sample_k1_ok (l : List api_Sample) (a) (h : l.length ≤ 9223372036854775807) : Tot (slices_ContainsFunc_api_Sample_api_Sample_k1 l a) := by
 unfold slices_ContainsFunc_api_Sample_api_Sample_k1
 refine ok_bind (Q := Yes) ?_ (fun _ _ => ok_yes)
 unfold slices_IndexFunc_api_Sample_api_Sample_k1
 refine ok_bindS (Q := Yes) (ok_up l.length (by omega) fun i h1 h2 => ?_) (fun _ _ => ?_) (fun _ _ => ?_)
 ·unfold slices_IndexFunc_api_Sample_api_Sample_k1_L1
  repeat' (first | (with_reducible first | exact ok_yes | exact ok_inrY | exact ok_inlY | refine ok_nite (fun _ => ?_) fun _ => ?_ | refine ok_ite (fun _ => ?_) fun _ => ?_ | refine ok_not (fun _ => ?_) fun _ => ?_ | refine ok_cond (fun _ => ?_) fun _ => ?_) | (with_reducible refine ok_next ?_ ?_ ?_ <;> (first | assumption | omega | rw [w64_of] <;> omega)) | with_reducible refine ok_bind (ok_idx (by (first | assumption | omega | rw [w64_of] <;> omega)) (by (first | assumption | omega | rw [w64_of] <;> omega))) (fun _ _ => ?_) | (with_reducible refine Ok.yes (trace_outside_5_k1_ok _ _) <;> (first | assumption | omega | rw [w64_of] <;> omega)) | (with_reducible refine ok_bind (Q := Yes) ?_ fun _ _ => ?_) | dsimp only)
 ·repeat' (first | (with_reducible first | exact ok_yes | exact ok_inrY | exact ok_inlY | refine ok_nite (fun _ => ?_) fun _ => ?_ | refine ok_ite (fun _ => ?_) fun _ => ?_ | refine ok_not (fun _ => ?_) fun _ => ?_ | refine ok_cond (fun _ => ?_) fun _ => ?_) | (with_reducible refine ok_next ?_ ?_ ?_ <;> (first | assumption | omega | rw [w64_of] <;> omega)) | with_reducible refine ok_bind (ok_idx (by (first | assumption | omega | rw [w64_of] <;> omega)) (by (first | assumption | omega | rw [w64_of] <;> omega))) (fun _ _ => ?_) | (with_reducible refine Ok.yes (trace_outside_5_k1_ok _ _) <;> (first | assumption | omega | rw [w64_of] <;> omega)) | (with_reducible refine ok_bind (Q := Yes) ?_ fun _ _ => ?_) | dsimp only)
 ·repeat' (first | (with_reducible first | exact ok_yes | exact ok_inrY | exact ok_inlY | refine ok_nite (fun _ => ?_) fun _ => ?_ | refine ok_ite (fun _ => ?_) fun _ => ?_ | refine ok_not (fun _ => ?_) fun _ => ?_ | refine ok_cond (fun _ => ?_) fun _ => ?_) | (with_reducible refine ok_next ?_ ?_ ?_ <;> (first | assumption | omega | rw [w64_of] <;> omega)) | with_reducible refine ok_bind (ok_idx (by (first | assumption | omega | rw [w64_of] <;> omega)) (by (first | assumption | omega | rw [w64_of] <;> omega))) (fun _ _ => ?_) | (with_reducible refine Ok.yes (trace_outside_5_k1_ok _ _) <;> (first | assumption | omega | rw [w64_of] <;> omega)) | (with_reducible refine ok_bind (Q := Yes) ?_ fun _ _ => ?_) | dsimp only)
theorem trace_outside_6_k1_ok (a b) : Tot (trace_outside_6_k1 a b) := by
 unfold trace_outside_6_k1
 repeat' (first | (with_reducible first | exact ok_yes | exact ok_inrY | exact ok_inlY | refine ok_nite (fun _ => ?_) fun _ => ?_ | refine ok_ite (fun _ => ?_) fun _ => ?_ | refine ok_not (fun _ => ?_) fun _ => ?_ | refine ok_cond (fun _ => ?_) fun _ => ?_) | (with_reducible refine ok_next ?_ ?_ ?_ <;> (first | assumption | omega | rw [w64_of] <;> omega)) | with_reducible refine ok_bind (ok_idx (by (first | assumption | omega | rw [w64_of] <;> omega)) (by (first | assumption | omega | rw [w64_of] <;> omega))) (fun _ _ => ?_) | (with_reducible refine Ok.yes (trace_within_ok _ _) <;> (first | assumption | omega | rw [w64_of] <;> omega)) | (with_reducible refine Ok.yes (trace_inside_ok _ _) <;> (first | assumption | omega | rw [w64_of] <;> omega)) | (with_reducible refine ok_bind (Q := Yes) ?_ fun _ _ => ?_) | dsimp only)
theorem slices_ContainsFunc_api_Step_api_Step_k1_ok (l : List api_Step) (a) (h : l.length ≤ 9223372036854775807) : Tot (slices_ContainsFunc_api_Step_api_Step_k1 l a) := by
 unfold slices_ContainsFunc_api_Step_api_Step_k1
 refine ok_bind (Q := Yes) ?_ (fun _ _ => ok_yes)
 unfold slices_IndexFunc_api_Step_api_Step_k1
 refine ok_bindS (Q := Yes) (ok_up l.length (by omega) fun i h1 h2 => ?_) (fun _ _ => ?_) (fun _ _ => ?_)
 ·unfold slices_IndexFunc_api_Step_api_Step_k1_L1
  repeat' (first | (with_reducible first | exact ok_yes | exact ok_inrY | exact ok_inlY | refine ok_nite (fun _ => ?_) fun _ => ?_ | refine ok_ite (fun _ => ?_) fun _ => ?_ | refine ok_not (fun _ => ?_) fun _ => ?_ | refine ok_cond (fun _ => ?_) fun _ => ?_) | (with_reducible refine ok_next ?_ ?_ ?_ <;> (first | assumption | omega | rw [w64_of] <;> omega)) | with_reducible refine ok_bind (ok_idx (by (first | assumption | omega | rw [w64_of] <;> omega)) (by (first | assumption | omega | rw [w64_of] <;> omega))) (fun _ _ => ?_) | (with_reducible refine Ok.yes (trace_outside_6_k1_ok _ _) <;> (first | assumption | omega | rw [w64_of] <;> omega)) | (with_reducible refine ok_bind (Q := Yes) ?_ fun _ _ => ?_) | dsimp only)
 ·repeat' (first | (with_reducible first | exact ok_yes | exact ok_inrY | exact ok_inlY | refine ok_nite (fun _ => ?_) fun _ => ?_ | refine ok_ite (fun _ => ?_) fun _ => ?_ | refine ok_not (fun _ => ?_) fun _ => ?_ | refine ok_cond (fun _ => ?_) fun _ => ?_) | (with_reducible refine ok_next ?_ ?_ ?_ <;> (first | assumption | omega | rw [w64_of] <;> omega)) | with_reducible refine ok_bind (ok_idx (by (first | assumption | omega | rw [w64_of] <;> omega)) (by (first | assumption | omega | rw [w64_of] <;> omega))) (fun _ _ => ?_) | (with_reducible refine Ok.yes (trace_outside_6_k1_ok _ _) <;> (first | assumption | omega | rw [w64_of] <;> omega)) | (with_reducible refine ok_bind (Q := Yes) ?_ fun _ _ => ?_) | dsimp only)
 ·repeat' (first | (with_reducible first | exact ok_yes | exact ok_inrY | exact ok_inlY | refine ok_nite (fun _ => ?_) fun _ => ?_ | refine ok_ite (fun _ => ?_) fun _ => ?_ | refine ok_not (fun _ => ?_) fun _ => ?_ | refine ok_cond (fun _ => ?_) fun _ => ?_) | (with_reducible refine ok_next ?_ ?_ ?_ <;> (first | assumption | omega | rw [w64_of] <;> omega)) | with_reducible refine ok_bind (ok_idx (by (first | assumption | omega | rw [w64_of] <;> omega)) (by (first | assumption | omega | rw [w64_of] <;> omega))) (fun _ _ => ?_) | (with_reducible refine Ok.yes (trace_outside_6_k1_ok _ _) <;> (first | assumption | omega | rw [w64_of] <;> omega)) | (with_reducible refine ok_bind (Q := Yes) ?_ fun _ _ => ?_) | dsimp only)
theorem trace_outside_ok (t : api_Trace) (h : Siz t) : Tot (trace_outside t) := by
 unfold trace_outside
 repeat' (first | (with_reducible first | exact ok_yes | exact ok_inrY | exact ok_inlY | refine ok_nite (fun _ => ?_) fun _ => ?_ | refine ok_ite (fun _ => ?_) fun _ => ?_ | refine ok_not (fun _ => ?_) fun _ => ?_ | refine ok_cond (fun _ => ?_) fun _ => ?_) | (with_reducible refine ok_next ?_ ?_ ?_ <;> (first | assumption | omega | rw [w64_of] <;> omega)) | with_reducible refine ok_bind (ok_idx (by (first | assumption | omega | rw [w64_of] <;> omega)) (by (first | assumption | omega | rw [w64_of] <;> omega))) (fun _ _ => ?_) | (with_reducible refine Ok.yes (slices_ContainsFunc_api_Slice_api_Slice_k1_ok _ _ h.sl) <;> (first | assumption | omega | rw [w64_of] <;> omega)) | (with_reducible refine Ok.yes (slices_ContainsFunc_api_State_api_State_k1_ok _ _ h.st) <;> (first | assumption | omega | rw [w64_of] <;> omega)) | (with_reducible refine Ok.yes (slices_ContainsFunc_api_Block_api_Block_k1_ok _ _ h.bl) <;> (first | assumption | omega | rw [w64_of] <;> omega)) | (with_reducible refine Ok.yes (slices_ContainsFunc_api_Flow_api_Flow_k1_ok _ _ h.fl) <;> (first | assumption | omega | rw [w64_of] <;> omega)) | (with_reducible refine Ok.yes (slices_ContainsFunc_api_Sample_api_Sample_k1_ok _ _ h.sa) <;> (first | assumption | omega | rw [w64_of] <;> omega)) | (with_reducible refine Ok.yes (slices_ContainsFunc_api_Step_api_Step_k1_ok _ _ h.sp) <;> (first | assumption | omega | rw [w64_of] <;> omega)) | (with_reducible refine ok_bind (Q := Yes) ?_ fun _ _ => ?_) | dsimp only)
theorem slices_Index_int_int_ok (l : List Int) (a : Int) (h : l.length ≤ 9223372036854775807) : Tot (slices_Index_int_int l a) := by
 unfold slices_Index_int_int
 refine ok_bindS (Q := Yes) (ok_up l.length (by omega) fun i h1 h2 => ?_) (fun _ _ => ?_) (fun _ _ => ?_)
 ·unfold slices_Index_int_int_L1
  repeat' (first | (with_reducible first | exact ok_yes | exact ok_inrY | exact ok_inlY | refine ok_nite (fun _ => ?_) fun _ => ?_ | refine ok_ite (fun _ => ?_) fun _ => ?_ | refine ok_not (fun _ => ?_) fun _ => ?_ | refine ok_cond (fun _ => ?_) fun _ => ?_) | (with_reducible refine ok_next ?_ ?_ ?_ <;> (first | assumption | omega | rw [w64_of] <;> omega)) | with_reducible refine ok_bind (ok_idx (by (first | assumption | omega | rw [w64_of] <;> omega)) (by (first | assumption | omega | rw [w64_of] <;> omega))) (fun _ _ => ?_) | (with_reducible refine ok_bind (Q := Yes) ?_ fun _ _ => ?_) | dsimp only)
 ·repeat' (first | (with_reducible first | exact ok_yes | exact ok_inrY | exact ok_inlY | refine ok_nite (fun _ => ?_) fun _ => ?_ | refine ok_ite (fun _ => ?_) fun _ => ?_ | refine ok_not (fun _ => ?_) fun _ => ?_ | refine ok_cond (fun _ => ?_) fun _ => ?_) | (with_reducible refine ok_next ?_ ?_ ?_ <;> (first | assumption | omega | rw [w64_of] <;> omega)) | with_reducible refine ok_bind (ok_idx (by (first | assumption | omega | rw [w64_of] <;> omega)) (by (first | assumption | omega | rw [w64_of] <;> omega))) (fun _ _ => ?_) | (with_reducible refine ok_bind (Q := Yes) ?_ fun _ _ => ?_) | dsimp only)
 ·repeat' (first | (with_reducible first | exact ok_yes | exact ok_inrY | exact ok_inlY | refine ok_nite (fun _ => ?_) fun _ => ?_ | refine ok_ite (fun _ => ?_) fun _ => ?_ | refine ok_not (fun _ => ?_) fun _ => ?_ | refine ok_cond (fun _ => ?_) fun _ => ?_) | (with_reducible refine ok_next ?_ ?_ ?_ <;> (first | assumption | omega | rw [w64_of] <;> omega)) | with_reducible refine ok_bind (ok_idx (by (first | assumption | omega | rw [w64_of] <;> omega)) (by (first | assumption | omega | rw [w64_of] <;> omega))) (fun _ _ => ?_) | (with_reducible refine ok_bind (Q := Yes) ?_ fun _ _ => ?_) | dsimp only)
theorem slices_Contains_int_int_ok (l : List Int) (a : Int) (h : l.length ≤ 9223372036854775807) : Tot (slices_Contains_int_int l a) := by
 unfold slices_Contains_int_int
 repeat' (first | (with_reducible first | exact ok_yes | exact ok_inrY | exact ok_inlY | refine ok_nite (fun _ => ?_) fun _ => ?_ | refine ok_ite (fun _ => ?_) fun _ => ?_ | refine ok_not (fun _ => ?_) fun _ => ?_ | refine ok_cond (fun _ => ?_) fun _ => ?_) | (with_reducible refine ok_next ?_ ?_ ?_ <;> (first | assumption | omega | rw [w64_of] <;> omega)) | with_reducible refine ok_bind (ok_idx (by (first | assumption | omega | rw [w64_of] <;> omega)) (by (first | assumption | omega | rw [w64_of] <;> omega))) (fun _ _ => ?_) | (with_reducible refine Ok.yes (slices_Index_int_int_ok _ _ h) <;> (first | assumption | omega | rw [w64_of] <;> omega)) | (with_reducible refine ok_bind (Q := Yes) ?_ fun _ _ => ?_) | dsimp only)
theorem state_fields_ok (a) : Tot (state_fields a) := by
 unfold state_fields
 repeat' (first | (with_reducible first | exact ok_yes | exact ok_inrY | exact ok_inlY | refine ok_nite (fun _ => ?_) fun _ => ?_ | refine ok_ite (fun _ => ?_) fun _ => ?_ | refine ok_not (fun _ => ?_) fun _ => ?_ | refine ok_cond (fun _ => ?_) fun _ => ?_) | (with_reducible refine ok_next ?_ ?_ ?_ <;> (first | assumption | omega | rw [w64_of] <;> omega)) | with_reducible refine ok_bind (ok_idx (by (first | assumption | omega | rw [w64_of] <;> omega)) (by (first | assumption | omega | rw [w64_of] <;> omega))) (fun _ _ => ?_) | (with_reducible refine ok_bind (Q := Yes) ?_ fun _ _ => ?_) | dsimp only)
theorem state_same_ok (a b) : Tot (state_same a b) := by
 unfold state_same
 repeat' (first | (with_reducible first | exact ok_yes | exact ok_inrY | exact ok_inlY | refine ok_nite (fun _ => ?_) fun _ => ?_ | refine ok_ite (fun _ => ?_) fun _ => ?_ | refine ok_not (fun _ => ?_) fun _ => ?_ | refine ok_cond (fun _ => ?_) fun _ => ?_) | (with_reducible refine ok_next ?_ ?_ ?_ <;> (first | assumption | omega | rw [w64_of] <;> omega)) | with_reducible refine ok_bind (ok_idx (by (first | assumption | omega | rw [w64_of] <;> omega)) (by (first | assumption | omega | rw [w64_of] <;> omega))) (fun _ _ => ?_) | (with_reducible refine ok_bind (Q := Yes) ?_ fun _ _ => ?_) | dsimp only)
def Up (l : List api_Slice) (n : Int) : Prop := ∀ (j : Nat) y, (j : Int) < n → l[j]? = some y → -1 ≤ y.fParent ∧ y.fParent < (j : Int)
theorem slice_nested_ok (l : List api_Slice) (h : l.length ≤ 9223372036854775807) : Ok (slice_nested l) (fun b => b = true → Up l l.length) := by
 unfold slice_nested
 refine ok_bindS (Q := InlR (fun _ => Up l l.length) (fun b => b = false)) (ok_upI l.length (Up l) h (by intro j y hj; omega) (fun i hI h1 h2 => ?_)) (fun _ hq => ok_some (fun _ => hq)) (fun r hr => ok_some (fun e => ?_))
 ·unfold slice_nested_L1
  refine ok_ite (fun hi => ?_) (fun hi => ok_inr (by have : i = l.length := (by omega); subst this; exact hI))
  refine ok_bind (ok_idx h1 hi) (fun y hy => ?_)
  have no : InlR (fun _ : Unit => Up l l.length) (fun b => b = false) (.inr false) := rfl
  refine ok_bind (Q := fun v => v = false → -1 ≤ y.fParent ∧ y.fParent < i) ?_ (fun v hv => ?_)
  ·refine ok_ite (fun _ => ok_some (by simp)) (fun h3 => ok_some (fun h4 => ?_))
   have := of_decide_eq_false h4
   omega
  refine ok_cond (fun _ => ok_inr no) (fun h0 => ?_)
  have hp := hv h0
  have nx : Up l (i + 1) := by
   intro j z hj hz
   by_cases e : (j : Int) = i
   ·have : i.toNat = j := by omega
    rw [this] at hy
    rw [hy] at hz; cases hz
    omega
   ·exact hI j z (by omega) hz
  refine ok_ite (fun _ => ?_) (fun hne => ?_)
  ·refine ok_nite (fun _ => ok_inr no) (fun _ => ok_nextI nx h1 hi h)
  ·refine ok_bind (ok_idx (by omega) (by omega)) (fun z _ => ?_)
   refine ok_bind (Q := Yes) (by repeat' (first | (with_reducible first | exact ok_yes | exact ok_inrY | exact ok_inlY | refine ok_nite (fun _ => ?_) fun _ => ?_ | refine ok_ite (fun _ => ?_) fun _ => ?_ | refine ok_not (fun _ => ?_) fun _ => ?_ | refine ok_cond (fun _ => ?_) fun _ => ?_) | (with_reducible refine ok_next ?_ ?_ ?_ <;> (first | assumption | omega | rw [w64_of] <;> omega)) | with_reducible refine ok_bind (ok_idx (by (first | assumption | omega | rw [w64_of] <;> omega)) (by (first | assumption | omega | rw [w64_of] <;> omega))) (fun _ _ => ?_) | (with_reducible refine ok_bind (Q := Yes) ?_ fun _ _ => ?_) | dsimp only)) (fun v _ => ?_)
   refine ok_cond (fun _ => ok_inr no) (fun _ => ok_nextI nx h1 hi h)
 ·have : r = false := hr
  simp [this] at e
theorem slice_under_ok (l : List api_Slice) (h : l.length ≤ 9223372036854775807) (hu : Up l l.length) (a b : Int) (hb : b < l.length) : Tot (slice_under l a b) := by
 unfold slice_under
 refine ok_bindS (Q := Yes) (ok_loop (fun i : Int => i < l.length) (fun i : Int => (i + 1).toNat) (fun i hi => ?_) hb (by simp [manyRounds]; omega)) (fun _ _ => ok_yes) (fun _ _ => ok_yes)
 unfold slice_under_L1
 refine ok_ite (fun h0 => ?_) (fun _ => ok_inrY)
 refine ok_ite (fun _ => ok_inrY) (fun _ => ?_)
 refine ok_bind (ok_idx h0 hi) (fun y hy => ?_)
 have := hu i.toNat y (by omega) hy
 exact ok_inl ⟨by omega, by omega⟩
theorem slice_apart_ok (l : List api_Slice) (h : l.length ≤ 9223372036854775807) (hu : Up l l.length) : Tot (slice_apart l) := by
 unfold slice_apart
 refine ok_bindS (Q := Yes) (ok_up l.length h fun i h1 h2 => ?_) (fun _ _ => ok_yes) (fun _ _ => ok_yes)
 unfold slice_apart_L2
 refine ok_ite (fun hi => ?_) (fun _ => ok_inrY)
 refine ok_bind (ok_idx h1 hi) (fun y hy => ?_)
 refine ok_bindS (Q := InlR Yes (InlR (fun _ => False) Yes)) (ok_up2 l.length (fun _ _ => True) h trivial (fun a j _ h3 h4 => ?_)) (fun _ _ => ?_) (fun r hr => ?_)
 ·unfold slice_apart_L1
  dsimp only
  refine ok_ite (fun hj => ?_) (fun _ => ok_inr trivial)
  refine ok_bind (ok_idx h3 hj) (fun z hz => ?_)
  refine ok_bind (Q := Yes) (by repeat' (first | (with_reducible first | exact ok_yes | exact ok_inrY | exact ok_inlY | refine ok_nite (fun _ => ?_) fun _ => ?_ | refine ok_ite (fun _ => ?_) fun _ => ?_ | refine ok_not (fun _ => ?_) fun _ => ?_ | refine ok_cond (fun _ => ?_) fun _ => ?_) | (with_reducible refine ok_next ?_ ?_ ?_ <;> (first | assumption | omega | rw [w64_of] <;> omega)) | with_reducible refine ok_bind (ok_idx (by (first | assumption | omega | rw [w64_of] <;> omega)) (by (first | assumption | omega | rw [w64_of] <;> omega))) (fun _ _ => ?_) | (with_reducible refine ok_bind (Q := Yes) ?_ fun _ _ => ?_) | dsimp only)) (fun v _ => ?_)
  refine ok_bind (Q := Yes) (by repeat' (first | (with_reducible first | exact ok_yes | exact ok_inrY | exact ok_inlY | refine ok_nite (fun _ => ?_) fun _ => ?_ | refine ok_ite (fun _ => ?_) fun _ => ?_ | refine ok_not (fun _ => ?_) fun _ => ?_ | refine ok_cond (fun _ => ?_) fun _ => ?_) | (with_reducible refine ok_next ?_ ?_ ?_ <;> (first | assumption | omega | rw [w64_of] <;> omega)) | with_reducible refine ok_bind (ok_idx (by (first | assumption | omega | rw [w64_of] <;> omega)) (by (first | assumption | omega | rw [w64_of] <;> omega))) (fun _ _ => ?_) | (with_reducible refine Ok.yes (slice_under_ok l h hu _ _ hi) <;> (first | assumption | omega | rw [w64_of] <;> omega)) | (with_reducible refine ok_bind (Q := Yes) ?_ fun _ _ => ?_) | dsimp only)) (fun v _ => ?_)
  refine ok_cond (fun _ => ok_inr trivial) (fun _ => ok_next2 (Inv := fun _ _ => True) trivial h3 hj h)
 ·dsimp only
  repeat' (first | (with_reducible first | exact ok_yes | exact ok_inrY | exact ok_inlY | refine ok_nite (fun _ => ?_) fun _ => ?_ | refine ok_ite (fun _ => ?_) fun _ => ?_ | refine ok_not (fun _ => ?_) fun _ => ?_ | refine ok_cond (fun _ => ?_) fun _ => ?_) | (with_reducible refine ok_next ?_ ?_ ?_ <;> (first | assumption | omega | rw [w64_of] <;> omega)) | with_reducible refine ok_bind (ok_idx (by (first | assumption | omega | rw [w64_of] <;> omega)) (by (first | assumption | omega | rw [w64_of] <;> omega))) (fun _ _ => ?_) | (with_reducible refine ok_bind (Q := Yes) ?_ fun _ _ => ?_) | dsimp only)
 ·rcases r with r | r
  ·exact (hr : False).elim
  ·exact ok_inrY
theorem slice_Check_ok (l : List api_Slice) (h : l.length ≤ 9223372036854775807) (hx : ∀ x ∈ l, okN x.fName) : Tot (slice_Check l) := by
 unfold slice_Check
 refine ok_bindS (Q := Yes) (ok_up l.length h fun i h1 h2 => ?_) (fun _ _ => ?_) (fun _ _ => ok_yes)
 ·unfold slice_Check_L1
  repeat' (first | (with_reducible first | exact ok_yes | exact ok_inrY | exact ok_inlY | refine ok_nite (fun _ => ?_) fun _ => ?_ | refine ok_ite (fun _ => ?_) fun _ => ?_ | refine ok_not (fun _ => ?_) fun _ => ?_ | refine ok_cond (fun _ => ?_) fun _ => ?_) | (with_reducible refine ok_next ?_ ?_ ?_ <;> (first | assumption | omega | rw [w64_of] <;> omega)) | with_reducible refine ok_bind (ok_idx (by (first | assumption | omega | rw [w64_of] <;> omega)) (by (first | assumption | omega | rw [w64_of] <;> omega))) (fun _ _ => ?_) | (with_reducible refine Ok.yes (slice_compare_ok _ _) <;> (first | assumption | omega | rw [w64_of] <;> omega)) | (with_reducible refine Ok.yes (spans_Valid_ok _) <;> (first | assumption | omega | rw [w64_of] <;> omega)) | (with_reducible refine Ok.yes (intern_Name_ok _ (hx _ (List.mem_of_getElem? (by assumption)))) <;> (first | assumption | omega | rw [w64_of] <;> omega)) | (with_reducible refine ok_bind (Q := Yes) ?_ fun _ _ => ?_) | dsimp only)
 ·dsimp only
  refine ok_bind (Q := Yes) ?_ (fun _ _ => by repeat' (first | (with_reducible first | exact ok_yes | exact ok_inrY | exact ok_inlY | refine ok_nite (fun _ => ?_) fun _ => ?_ | refine ok_ite (fun _ => ?_) fun _ => ?_ | refine ok_not (fun _ => ?_) fun _ => ?_ | refine ok_cond (fun _ => ?_) fun _ => ?_) | (with_reducible refine ok_next ?_ ?_ ?_ <;> (first | assumption | omega | rw [w64_of] <;> omega)) | with_reducible refine ok_bind (ok_idx (by (first | assumption | omega | rw [w64_of] <;> omega)) (by (first | assumption | omega | rw [w64_of] <;> omega))) (fun _ _ => ?_) | (with_reducible refine ok_bind (Q := Yes) ?_ fun _ _ => ?_) | dsimp only))
  refine ok_bind (slice_nested_ok l h) (fun b hb => ?_)
  refine ok_not (fun _ => ok_yes) (fun e => ?_)
  repeat' (first | (with_reducible first | exact ok_yes | exact ok_inrY | exact ok_inlY | refine ok_nite (fun _ => ?_) fun _ => ?_ | refine ok_ite (fun _ => ?_) fun _ => ?_ | refine ok_not (fun _ => ?_) fun _ => ?_ | refine ok_cond (fun _ => ?_) fun _ => ?_) | (with_reducible refine ok_next ?_ ?_ ?_ <;> (first | assumption | omega | rw [w64_of] <;> omega)) | with_reducible refine ok_bind (ok_idx (by (first | assumption | omega | rw [w64_of] <;> omega)) (by (first | assumption | omega | rw [w64_of] <;> omega))) (fun _ _ => ?_) | (with_reducible refine Ok.yes (slice_apart_ok l h (hb e)) <;> (first | assumption | omega | rw [w64_of] <;> omega)) | (with_reducible refine ok_bind (Q := Yes) ?_ fun _ _ => ?_) | dsimp only)
theorem memory_Check_ok (l : List api_Block) (h : l.length ≤ 9223372036854775807) (hx : ∀ x ∈ l, x.fStack.length ≤ 9223372036854775807 ∧ ∀ y ∈ x.fStack, okN y) : Tot (memory_Check l) := by
 unfold memory_Check
 refine ok_bindS (Q := Yes) (ok_up l.length h fun i h1 h2 => ?_) (fun _ _ => ok_yes) (fun _ _ => ok_yes)
 unfold memory_Check_L2
 refine ok_ite (fun hi => ?_) (fun _ => ok_inrY)
 refine ok_bind (ok_idx h1 hi) (fun y hy => ?_)
 refine ok_bind (Q := Yes) (by repeat' (first | (with_reducible first | exact ok_yes | exact ok_inrY | exact ok_inlY | refine ok_nite (fun _ => ?_) fun _ => ?_ | refine ok_ite (fun _ => ?_) fun _ => ?_ | refine ok_not (fun _ => ?_) fun _ => ?_ | refine ok_cond (fun _ => ?_) fun _ => ?_) | (with_reducible refine ok_next ?_ ?_ ?_ <;> (first | assumption | omega | rw [w64_of] <;> omega)) | with_reducible refine ok_bind (ok_idx (by (first | assumption | omega | rw [w64_of] <;> omega)) (by (first | assumption | omega | rw [w64_of] <;> omega))) (fun _ _ => ?_) | (with_reducible refine Ok.yes (spans_Valid_ok _) <;> (first | assumption | omega | rw [w64_of] <;> omega)) | (with_reducible refine ok_bind (Q := Yes) ?_ fun _ _ => ?_) | dsimp only)) (fun v _ => ?_)
 refine ok_cond (fun _ => ok_inrY) (fun _ => ?_)
 refine ok_bind (Q := Yes) (intern_Frames_ok _ (hx _ (List.mem_of_getElem? hy)).1 (hx _ (List.mem_of_getElem? hy)).2) (fun v _ => ?_)
 refine ok_nite (fun _ => ok_inrY) (fun _ => ?_)
 refine ok_bind (Q := Yes) (by repeat' (first | (with_reducible first | exact ok_yes | exact ok_inrY | exact ok_inlY | refine ok_nite (fun _ => ?_) fun _ => ?_ | refine ok_ite (fun _ => ?_) fun _ => ?_ | refine ok_not (fun _ => ?_) fun _ => ?_ | refine ok_cond (fun _ => ?_) fun _ => ?_) | (with_reducible refine ok_next ?_ ?_ ?_ <;> (first | assumption | omega | rw [w64_of] <;> omega)) | with_reducible refine ok_bind (ok_idx (by (first | assumption | omega | rw [w64_of] <;> omega)) (by (first | assumption | omega | rw [w64_of] <;> omega))) (fun _ _ => ?_) | (with_reducible refine ok_bind (Q := Yes) ?_ fun _ _ => ?_) | dsimp only)) (fun v _ => ?_)
 refine ok_cond (fun _ => ok_inrY) (fun _ => ?_)
 refine ok_bind (Q := fun ys => ys.length ≤ 9223372036854775807) ?_ (fun ys hys => ?_)
 ·unfold slcPart
  rw [if_pos ⟨by omega, by omega, by omega⟩]
  exact ok_some (by simp; omega)
 refine ok_bindS (Q := InlR Yes (InlR (fun _ => False) Yes)) (ok_up ys.length hys fun j h3 h4 => ?_) (fun _ _ => ok_next h1 hi h) (fun r hr => ?_)
 ·unfold memory_Check_L1
  refine ok_ite (fun hj => ?_) (fun _ => ok_inr trivial)
  refine ok_bind (ok_idx h3 hj) (fun z hz => ?_)
  refine ok_bind (Q := Yes) (by repeat' (first | (with_reducible first | exact ok_yes | exact ok_inrY | exact ok_inlY | refine ok_nite (fun _ => ?_) fun _ => ?_ | refine ok_ite (fun _ => ?_) fun _ => ?_ | refine ok_not (fun _ => ?_) fun _ => ?_ | refine ok_cond (fun _ => ?_) fun _ => ?_) | (with_reducible refine ok_next ?_ ?_ ?_ <;> (first | assumption | omega | rw [w64_of] <;> omega)) | with_reducible refine ok_bind (ok_idx (by (first | assumption | omega | rw [w64_of] <;> omega)) (by (first | assumption | omega | rw [w64_of] <;> omega))) (fun _ _ => ?_) | (with_reducible refine ok_bind (Q := Yes) ?_ fun _ _ => ?_) | dsimp only)) (fun v _ => ?_)
  refine ok_cond (fun _ => ok_inr trivial) (fun _ => ok_next h3 hj hys)
 ·rcases r with r | r
  ·exact (hr : False).elim
  ·exact ok_inrY
theorem slices_Index_int_int_lt (l : List Int) (a : Int) (h : l.length ≤ 9223372036854775807) : Ok (slices_Index_int_int l a) (fun r => (0 ≤ r → l[r.toNat]? = some a) ∧ r < l.length) := by
 unfold slices_Index_int_int
 refine ok_bindS (Q := InlR Yes (fun r : Int => (0 ≤ r → l[r.toNat]? = some a) ∧ r < l.length)) (ok_up l.length h fun i h1 h2 => ?_) (fun _ _ => ok_some (And.intro (by omega) (by omega))) (fun _ hr => ?_)
 rotate_left
 ·exact ok_some hr
 unfold slices_Index_int_int_L1
 refine ok_ite (fun hi => ?_) (fun _ => ok_inr trivial)
 refine ok_bind (ok_idx h1 hi) (fun y hy => ?_)
 exact ok_ite (fun e => ok_inr ⟨fun _ => by rw [hy, e], hi⟩) (fun _ => ok_next h1 hi h)
theorem state_distinct_ok (l : List api_Thread) (h : l.length ≤ 1000000) : Ok (state_distinct l) (fun r => r.length ≤ l.length) := by
 unfold state_distinct
 refine ok_bind (Q := fun r => r.length ≤ l.length) (ok_up2 l.length (fun a i => (a.length : Int) ≤ i) (by omega) (by simp) (fun a i hI h1 h2 => ?_)) (fun r hr => ok_some hr)
 unfold state_distinct_L1
 dsimp only
 refine ok_ite (fun hi => ?_) (fun _ => ok_inr (by omega))
 refine ok_bind (Q := fun r : List Int => (r.length : Int) ≤ i + 1) ?_ (fun r hr => ok_next2 (Inv := fun (a : List Int) i => (a.length : Int) ≤ i) hr h1 hi (by omega))
 refine ok_bind (ok_idx h1 hi) (fun y hy => ?_)
 refine ok_bind (slices_Contains_int_int_ok a y.fId (by omega)) (fun v _ => ?_)
 refine ok_not (fun _ => ?_) (fun _ => ok_some (by omega))
 rw [room_ok (by simp; omega) (by simp; omega)]
 exact ok_some (by simp; omega)
def Disj (l : List api_State) (n : Int) : Prop := ∀ (j k : Nat) s s', j < k → (k : Int) < n → l[j]? = some s → l[k]? = some s' → s.fThread = s'.fThread → s.fSpan.fTo ≤ s'.fSpan.fFrom
def Vald (l : List api_State) (n : Int) : Prop := ∀ (j : Nat) s, (j : Int) < n → l[j]? = some s → 0 ≤ s.fSpan.fFrom ∧ s.fSpan.fFrom < s.fSpan.fTo ∧ s.fSpan.fTo ≤ 1000000000000
def Gd (l : List api_State) : Prop := Disj l l.length ∧ Vald l l.length
structure Tab (l : List api_State) (ix : List Int) (r i : Int) : Prop where
 le : ∀ (j : Nat) s, (j : Int) < i → l[j]? = some s → ∃ x, slices_Index_int_int ix s.fThread = some x ∧ x ≤ r
 last : ∀ s, 0 < i → l[(i - 1).toNat]? = some s → slices_Index_int_int ix s.fThread = some r
 pos : 0 ≤ r → 0 < i
 neg : i = 0 → r = -1
 rng : -1 ≤ r ∧ r < ix.length
 v : Vald l i
 d : Disj l i
theorem rows_next {l : List api_State} {ix : List Int} {r r' i : Int} {y : api_State} (hix : ix.length ≤ 9223372036854775807) (H : Tab l ix r i) (h1 : 0 ≤ i) (hy : l[i.toNat]? = some y) (hr : slices_Index_int_int ix y.fThread = some r') (h0 : 0 ≤ r') (hv : 0 ≤ y.fSpan.fFrom ∧ y.fSpan.fFrom < y.fSpan.fTo ∧ y.fSpan.fTo ≤ 1000000000000)
  (hs : r' = r → ∀ s, l[(i - 1).toNat]? = some s → y.fSpan.fFrom = s.fSpan.fTo) (hn : r' ≠ r → r' = r + 1) : Tab l ix r' (i + 1) := by
 have hle : r ≤ r' := by
  by_cases e : r' = r
  ·omega
  ·have := hn e; omega
 refine ⟨fun j s hj hs' => ?_, fun s _ hs' => ?_, fun _ => by omega, fun _ => by omega, ⟨by omega, ((slices_Index_int_int_lt ix _ hix).of_eq hr).2⟩, fun j s hj hs' => ?_, fun j k s s' hjk hk hj' hk' ht => ?_⟩
 ·by_cases e : (j : Int) = i
  ·have : i.toNat = j := by omega
   rw [this, hs'] at hy; cases hy
   exact ⟨r', hr, by omega⟩
  ·obtain ⟨x, h2, h3⟩ := H.le j s (by omega) hs'
   exact ⟨x, h2, by omega⟩
 ·rw [show i + 1 - 1 = i by omega, hy] at hs'; cases hs'
  exact hr
 ·by_cases e : (j : Int) = i
  ·have : i.toNat = j := by omega
   rw [this, hs'] at hy; cases hy
   exact hv
  ·exact H.v j s (by omega) hs'
 ·by_cases e : (k : Int) = i
  ·have : i.toNat = k := by omega
   rw [this, hk'] at hy; cases hy
   obtain ⟨x, h2, h3⟩ := H.le j s (by omega) hj'
   rw [ht, hr] at h2; cases h2
   by_cases e' : r' = r
   ·obtain ⟨u, hu⟩ : ∃ u, l[(i - 1).toNat]? = some u := by
     have := lt_of_get hk'
     exact ⟨_, List.getElem?_eq_getElem (by omega)⟩
    have h5 := hs e' u hu
    by_cases e2 : j = (i - 1).toNat
    ·subst e2; rw [hj'] at hu; cases hu; omega
    ·have hlu := H.last u (by omega) hu
     have hh : s.fThread = u.fThread → s.fSpan.fTo ≤ u.fSpan.fFrom := H.d j (i - 1).toNat s u (by omega) (by omega) hj' hu
     have hvu := H.v (i - 1).toNat u (by omega) hu
     have a1 := (slices_Index_int_int_lt ix _ hix).of_eq hlu |>.1 (by omega)
     have a2 := (slices_Index_int_int_lt ix _ hix).of_eq hr |>.1 h0
     rw [e', a1] at a2
     injection a2 with a2
     have := hh (by rw [ht, ← a2])
     omega
   ·have := hn e'; omega
  ·exact H.d j k s s' hjk (by omega) hj' hk' ht
theorem spans_Valid_val (s : api_Span) : Ok (spans_Valid s) (fun b => b = true → 0 ≤ s.fFrom ∧ s.fFrom < s.fTo ∧ s.fTo ≤ 1000000000000) := by
 rw [spans_Valid_eq]
 exact ok_some (fun h => of_decide_eq_true h)
theorem state_Check_ok (ths : List api_Thread) (l : List api_State) (ht : ths.length ≤ 1000000) (h : l.length ≤ 9223372036854775807) : Ok (state_Check ths l) (fun r => r = 0 → Gd l) := by
 unfold state_Check
 refine ok_bind (state_distinct_ok ths ht) (fun ix hix => ?_)
 have hix' : ix.length ≤ 9223372036854775807 := by omega
 refine ok_bindS (Q := InlR (fun _ => Gd l) (fun r => r ≠ 0)) (ok_up2 l.length (fun r i => Tab l ix r i) h ⟨by intro j s hj; omega, by intro s hj; omega, by omega, by simp, ⟨by omega, by omega⟩, by intro j s hj; omega, by intro j k s s' _ hj; omega⟩ (fun r i hI h1 h2 => ?_)) (fun r hd => ?_) (fun r hr => ?_)
 ·unfold state_Check_L2
  dsimp only
  have no : ∀ n : Int, n ≠ 0 → InlR (fun _ : Int => Gd l) (fun r => r ≠ 0) (.inr n) := fun n h => h
  refine ok_ite (fun hi => ?_) (fun hi => ok_inr (by have e : i = l.length := (by omega); have g1 := hI.d; have g2 := hI.v; rw [e] at g1 g2; exact ⟨g1, g2⟩))
  refine ok_bind (ok_idx h1 hi) (fun y hy => ?_)
  refine ok_bindE (slices_Index_int_int_ok ix y.fThread hix') (fun x hx => ?_)
  refine ok_ite (fun _ => ok_inr (no _ (by simp))) (fun h0 => ?_)
  refine ok_bind (spans_Valid_val y.fSpan) (fun v hv => ?_)
  refine ok_not (fun _ => ok_inr (no _ (by simp))) (fun ev => ?_)
  refine ok_bind (state_fields_ok y) (fun _ _ => ?_)
  refine ok_not (fun _ => ok_inr (no _ (by simp))) (fun _ => ?_)
  refine ok_bind (Q := fun v => v = false → x = r → ∀ s, l[(i - 1).toNat]? = some s → y.fSpan.fFrom = s.fSpan.fTo) ?_ (fun v1 hv1 => ?_)
  ·refine ok_ite (fun e => ?_) (fun e => ok_some (fun _ e' => absurd e' e))
   have hpos := hI.pos (by omega)
   rw [show w64 (i - 1) = i - 1 from w64_of (by omega)]
   refine ok_bind (ok_idx (by omega) (by omega)) (fun z hz => ?_)
   refine ok_nite (fun _ => ok_some (by simp)) (fun e2 => ?_)
   refine ok_bind (Q := Yes) ⟨z, hz ▸ by simp [idx, hz]; omega, trivial⟩ (fun w _ => ?_)
   refine (ok_bind (Q := Yes) (state_same_ok _ _) (fun b _ => ok_some (P := fun v => v = false → x = r → ∀ s, l[(i - 1).toNat]? = some s → y.fSpan.fFrom = s.fSpan.fTo) (fun _ _ s hs => ?_)))
   rw [hz] at hs; cases hs; exact e2
  refine ok_cond (fun _ => ok_inr (no _ (by simp))) (fun e1 => ?_)
  refine ok_bind (Q := fun v => v = false → x ≠ r → x = r + 1) ?_ (fun v2 hv2 => ?_)
  ·refine ok_nite (fun e => ?_) (fun e => ok_some (fun _ e' => absurd e e'))
   have hb := hI.rng
   rw [w64_of (n := r + 1) (by omega)]
   refine ok_nite (fun _ => ok_some (by simp)) (fun e3 => ok_some (fun _ _ => e3))
  refine ok_cond (fun _ => ok_inr (no _ (by simp))) (fun e2 => ?_)
  exact ok_next2 (Inv := fun r i => Tab l ix r i) (rows_next hix' hI h1 hy hx (by omega) (hv ev) (hv1 e1) (hv2 e2)) h1 hi h
 ·dsimp only
  refine ok_ite (fun _ => ok_some (fun _ => hd)) (fun hne => ?_)
  rw [show w64 ((l.length : Int) - 1) = (l.length : Int) - 1 from w64_of (by omega)]
  refine ok_bind (ok_idx (by omega) (by omega)) (fun y _ => ?_)
  refine ok_bindS (Q := Yes) (ok_up l.length h fun j h3 h4 => ?_) (fun _ _ => ?_) (fun r hr => ok_some (fun _ => hd))
  ·unfold state_Check_L1
   refine ok_ite (fun hj => ?_) (fun _ => ok_inrY)
   refine ok_bind (ok_idx h3 hj) (fun z hz => ?_)
   have e : w64 (j + 1) = j + 1 := w64_of (by omega)
   rw [e]
   refine ok_bind (Q := Yes) ?_ (fun v _ => ?_)
   ·refine ok_ite (fun _ => ok_yes) (fun hne => ?_)
    exact ok_bind (ok_idx (by omega) (by omega)) (fun _ _ => ok_yes)
   ·refine ok_bind (Q := Yes) (by repeat' (first | (with_reducible first | exact ok_yes | exact ok_inrY | exact ok_inlY | refine ok_nite (fun _ => ?_) fun _ => ?_ | refine ok_ite (fun _ => ?_) fun _ => ?_ | refine ok_not (fun _ => ?_) fun _ => ?_ | refine ok_cond (fun _ => ?_) fun _ => ?_) | (with_reducible refine ok_next ?_ ?_ ?_ <;> (first | assumption | omega | rw [w64_of] <;> omega)) | with_reducible refine ok_bind (ok_idx (by (first | assumption | omega | rw [w64_of] <;> omega)) (by (first | assumption | omega | rw [w64_of] <;> omega))) (fun _ _ => ?_) | (with_reducible refine ok_bind (Q := Yes) ?_ fun _ _ => ?_) | dsimp only)) (fun v _ => ?_)
    exact ok_cond (fun _ => ok_inrY) (fun _ => ok_inl ⟨hj, rfl⟩)
  ·exact ok_nite (fun _ => ok_some (fun _ => hd)) (fun _ => ok_some (fun _ => hd))
 ·exact ok_some (fun e => absurd e hr)
theorem trace_tables_ok (t : api_Trace) (h : Siz t) (ht : t.fThreads.length ≤ 1000000) : Ok (trace_tables t) (fun r => r = 0 → Gd t.fStates) := by
 unfold trace_tables
 refine ok_bindS (trace_threads_ok t h.th h.nTh) (fun r hr => ?_) (fun r _ => ?_)
 ·exact ok_nite (fun h0 => ok_some (fun e => absurd e h0)) (fun h0 => absurd h0 hr)
 ·dsimp only
  refine ok_nite (fun h0 => ok_some (fun e => absurd e h0)) (fun _ => ?_)
  refine ok_bind (slice_Check_ok _ h.sl h.nSl) (fun r4 _ => ?_)
  refine ok_bind (trace_known_api_Slice_k1_ok _ _ _ h.sl) (fun r5 _ => ?_)
  refine ok_nite (fun h0 => ok_some (fun e => absurd e h0)) (fun _ => ?_)
  refine ok_bind (state_Check_ok _ _ ht h.st) (fun r6 h6 => ?_)
  refine ok_nite (fun h0 => ok_some (fun e => absurd e h0)) (fun e6 => ?_)
  have hd := h6 e6
  refine ok_bind (flow_Check_ok _ h.fl) (fun r7 _ => ?_)
  refine ok_bind (trace_known_api_Flow_k1_ok _ _ _ h.fl) (fun r8 _ => ?_)
  refine ok_bind (trace_known_api_Flow_k2_ok _ _ _ h.fl) (fun r9 _ => ?_)
  refine ok_nite (fun h0 => ok_some (fun e => absurd e h0)) (fun _ => ?_)
  refine ok_bind (sample_Check_ok _ h.sa h.nSa) (fun r10 _ => ?_)
  refine ok_bind (trace_known_api_Sample_k1_ok _ _ _ h.sa) (fun r11 _ => ?_)
  refine ok_nite (fun h0 => ok_some (fun e => absurd e h0)) (fun _ => ?_)
  refine ok_bind (counter_Check_ok _ h.sp h.nSp) (fun r12 _ => ?_)
  refine ok_nite (fun h0 => ok_some (fun e => absurd e h0)) (fun _ => ?_)
  refine ok_bind (memory_Check_ok _ h.bl h.nBl) (fun r13 _ => ?_)
  refine ok_bind (trace_known_api_Block_k1_ok _ _ _ h.bl) (fun r14 _ => ?_)
  refine ok_nite (fun h0 => ok_some (fun e => absurd e h0)) (fun _ => ?_)
  refine ok_bind (trace_losses_k1_ok _ _ h.lo) (fun r15 _ => ?_)
  exact ok_some (fun _ => hd)
theorem trace_Check_ok (t : api_Trace) (h : Siz t) (ht : t.fThreads.length ≤ 1000000) : Ok (trace_Check t) (fun r => r = 0 → Gd t.fStates) := by
 unfold trace_Check
 refine ok_bind (trace_tables_ok t h ht) (fun r hr => ?_)
 refine ok_nite (fun h0 => ok_some (fun e => absurd e h0)) (fun e => ?_)
 have hd := hr e
 refine ok_bind (Q := Yes) (by repeat' (first | (with_reducible first | exact ok_yes | exact ok_inrY | exact ok_inlY | refine ok_nite (fun _ => ?_) fun _ => ?_ | refine ok_ite (fun _ => ?_) fun _ => ?_ | refine ok_not (fun _ => ?_) fun _ => ?_ | refine ok_cond (fun _ => ?_) fun _ => ?_) | (with_reducible refine ok_next ?_ ?_ ?_ <;> (first | assumption | omega | rw [w64_of] <;> omega)) | with_reducible refine ok_bind (ok_idx (by (first | assumption | omega | rw [w64_of] <;> omega)) (by (first | assumption | omega | rw [w64_of] <;> omega))) (fun _ _ => ?_) | (with_reducible refine ok_bind (Q := Yes) ?_ fun _ _ => ?_) | dsimp only)) (fun v _ => ?_)
 refine ok_cond (fun _ => ok_some (fun _ => hd)) (fun _ => ?_)
 refine ok_bind (trace_outside_ok t h) (fun v _ => ?_)
 exact ok_cond (fun _ => ok_some (fun _ => hd)) (fun _ => ok_some (fun _ => hd))
theorem critical_check_ok (t : api_Trace) (a : Int) (p : api_Span) (h : Siz t) (ht : t.fThreads.length ≤ 1000000) : Ok (critical_check t a p) (fun r => r = 0 → Gd t.fStates ∧ 0 ≤ p.fFrom ∧ p.fFrom < p.fTo ∧ p.fTo ≤ 1000000000000) := by
 unfold critical_check
 refine ok_bind (trace_Check_ok t h ht) (fun r hr => ?_)
 refine ok_nite (fun h0 => ok_some (fun e => absurd e h0)) (fun e => ?_)
 have hd := hr e
 refine ok_bind (critical_known_ok t a h.th) (fun v _ => ?_)
 refine ok_not (fun _ => ok_some (by simp)) (fun _ => ?_)
 rw [state_At_eq _ _ _ h.st, state_At_eq _ _ _ h.st]
 simp only [Option.bind_some]
 refine ok_bind (Q := fun v => v = false → 0 ≤ p.fFrom ∧ p.fFrom < p.fTo ∧ p.fTo ≤ 1000000000000) ?_ (fun v hv => ok_cond (fun _ => ok_some (by simp)) (fun e => ok_some (fun _ => ⟨hd, hv e⟩)))
 refine ok_bind (spans_Valid_val p) (fun b hb => ?_)
 refine ok_not (fun _ => ok_some (by simp)) (fun e => ?_)
 exact ok_not (fun _ => ok_some (by simp)) (fun _ => ok_some (fun _ => hb e))
theorem stAt_some {l : List api_State} {a b : Int} (h : (stAt l a b).2 = true) : (stAt l a b).1 ∈ l ∧ atB a b (stAt l a b).1 = true := by
 unfold stAt at h ⊢
 cases e : l.find? (atB a b) with
 | none => rw [e] at h; simp at h
 | some s => exact ⟨List.mem_of_find?_eq_some e, List.find?_some e⟩
theorem slices_Reverse_eq (l : List api_Hop) (hl : l.length ≤ 9223372036854775807) : slices_Reverse_api_Hop_api_Hop_k1 l = some l.reverse := by
 have : Ok (slices_Reverse_api_Hop_api_Hop_k1 l) (fun r => r = l.reverse) := by
  unfold slices_Reverse_api_Hop_api_Hop_k1
  rw [show w64 ((l.length : Int) - 1) = (l.length : Int) - 1 from w64_of (by omega)]
  refine ok_loop (fun s : List api_Hop × Int × Int => 0 ≤ s.2.1 ∧ s.2.1 + s.2.2 = (l.length : Int) - 1 ∧ s.2.1 ≤ s.2.2 + 1 ∧ s.1.length = l.length ∧ ∀ k : Nat, k < l.length → s.1[k]? = if (k : Int) < s.2.1 ∨ s.2.2 < (k : Int) then l[l.length - 1 - k]? else l[k]?) (fun s => (s.2.2 + 1).toNat) (fun s hs => ?_) ⟨by simp, by simp, by simp, by simp, fun k hk => ?_⟩ (by simp [manyRounds]; omega)
  ·obtain ⟨c, i, j⟩ := s
   obtain ⟨h1, h2, h3, h4, h5⟩ := hs
   simp only at h1 h2 h3 h4 h5
   unfold slices_Reverse_api_Hop_api_Hop_k1_L1
   dsimp only
   refine ok_ite (fun hi => ?_) (fun hi => ok_inr ?_)
   ·refine ok_bind (ok_idx (by omega) (by omega)) (fun y hy => ?_)
    refine ok_bind (ok_idx (by omega) (by omega)) (fun z hz => ?_)
    refine ok_bind (Q := Yes) (ok_idx (by omega) (by omega)).yes (fun _ _ => ?_)
    refine ok_bind (Q := Yes) (ok_idx (by omega) (by simp; omega)).yes (fun _ _ => ?_)
    rw [show w64 (i + 1) = i + 1 from w64_of (by omega), show w64 (j - 1) = j - 1 from w64_of (by omega)]
    refine ok_inl ⟨⟨by simp; omega, by simp; omega, by simp; omega, by simp; omega, fun k hk => ?_⟩, by simp; omega⟩
    simp only [List.getElem?_set, List.length_set]
    have hy' := h5 j.toNat (by omega)
    have hz' := h5 i.toNat (by omega)
    rw [hy, if_neg (by omega)] at hy'
    rw [hz, if_neg (by omega)] at hz'
    by_cases e1 : j.toNat = k
    ·rw [if_pos e1, if_pos (by omega), if_pos (by omega), hz']
     congr 1; omega
    ·rw [if_neg e1]
     by_cases e2 : i.toNat = k
     ·rw [if_pos e2, if_pos (by omega), if_pos (by omega), hy']
      congr 1; omega
     ·rw [if_neg e2, h5 k hk]
      by_cases e3 : (k : Int) < i ∨ j < (k : Int)
      ·rw [if_pos e3, if_pos (by omega)]
      ·rw [if_neg e3, if_neg (by omega)]
   ·apply List.ext_getElem?
    intro k
    by_cases hk : k < l.length
    ·rw [h5 k hk, List.getElem?_reverse hk]
     split
     ·rfl
     ·congr 1; omega
    ·rw [List.getElem?_eq_none (by omega), List.getElem?_eq_none (by simp; omega)]
  ·simp only
   rw [if_neg (by omega)]
 obtain ⟨r, h1, h2⟩ := this
 rw [h1, h2]
theorem nodup_le {α : Type} [DecidableEq α] : ∀ (xs ys : List α), xs.Nodup → (∀ x ∈ xs, x ∈ ys) → xs.length ≤ ys.length
 | [], _, _, _ => by simp
 | x :: xs, ys, hn, hs => by
  have hx : x ∈ ys := hs x (by simp)
  have h1 := nodup_le xs (ys.erase x) (List.nodup_cons.1 hn).2 (fun z hz => by
   have hne : z ≠ x := fun e => (List.nodup_cons.1 hn).1 (e ▸ hz)
   exact (List.mem_erase_of_ne hne).2 (hs z (by simp [hz])))
  have h2 := List.length_erase_of_mem hx
  have h3 := List.length_pos_of_mem hx
  simp only [List.length_cons]; omega
theorem mget_mput {κ ν : Type} [DecidableEq κ] (k k' : κ) (v : ν) : ∀ (m : List (κ × ν)), mget k (mput k' v m) = if k = k' then some v else mget k m
 | [] => by simp [mput, mget]
 | p :: r => by
  simp only [mput]
  by_cases e : k' = p.1
  ·subst e
   simp only [if_true, mget]
   by_cases e2 : k = p.1 <;> simp [e2]
  ·rw [if_neg e]
   simp only [mget]
   rw [mget_mput k k' v r]
   by_cases e2 : k = p.1
   ·subst e2
    rw [if_pos rfl, if_pos rfl, if_neg (fun h => e h.symm)]
   ·rw [if_neg e2, if_neg e2]
theorem critical_known_yes (t : api_Trace) (a : Int) (h : t.fThreads.length ≤ 9223372036854775807) : Ok (critical_known t a) (fun b => b = true → a ∈ t.fThreads.map (·.fId)) := by
 unfold critical_known slices_ContainsFunc_api_Thread_api_Thread_k1
 refine ok_bind (Q := fun b => b = true → a ∈ t.fThreads.map (·.fId)) (ok_bind (Q := fun r => 0 ≤ r → a ∈ t.fThreads.map (·.fId)) ?_ (fun r hr => ok_some (fun e => hr (of_decide_eq_true e)))) (fun _ hb => ok_some hb)
 unfold slices_IndexFunc_api_Thread_api_Thread_k1
 refine ok_bindS (Q := InlR Yes (fun _ : Int => a ∈ t.fThreads.map (fun x : api_Thread => x.fId))) (ok_up t.fThreads.length h fun i h1 h2 => ?_) (fun _ _ => ok_some (by omega)) (fun _ hr => ok_some (fun _ => (show a ∈ t.fThreads.map (fun x : api_Thread => x.fId) from hr)))
 unfold slices_IndexFunc_api_Thread_api_Thread_k1_L1 critical_known_1_k1
 refine ok_ite (fun hi => ?_) (fun _ => ok_inr trivial)
 refine ok_bind (ok_idx h1 hi) (fun y hy => ?_)
 simp only [Option.bind_some]
 exact ok_ite (fun e => ok_inr (by
  have := List.mem_of_getElem? hy
  exact List.mem_map.2 ⟨y, this, e⟩)) (fun _ => ok_next h1 hi h)
def wkr (t : api_Trace) (a b : Int) : Int × Bool := (critical_waker t a b).getD (0, false)
theorem critical_waker_ok (t : api_Trace) (a b : Int) (hz : Siz t) : Ok (critical_waker t a b) (fun r => r.2 = true → r.1 ∈ t.fThreads.map (·.fId)) := by
 unfold critical_waker
 rw [state_At_eq _ _ _ hz.st, Option.bind_some]
 refine ok_bind (Q := Yes) (by repeat' (first | (with_reducible first | exact ok_yes | exact ok_inrY | exact ok_inlY | refine ok_nite (fun _ => ?_) fun _ => ?_ | refine ok_ite (fun _ => ?_) fun _ => ?_ | refine ok_not (fun _ => ?_) fun _ => ?_ | refine ok_cond (fun _ => ?_) fun _ => ?_) | (with_reducible refine ok_next ?_ ?_ ?_ <;> (first | assumption | omega | rw [w64_of] <;> omega)) | with_reducible refine ok_bind (ok_idx (by (first | assumption | omega | rw [w64_of] <;> omega)) (by (first | assumption | omega | rw [w64_of] <;> omega))) (fun _ _ => ?_) | (with_reducible refine ok_bind (Q := Yes) ?_ fun _ _ => ?_) | dsimp only)) (fun v2 _ => ?_)
 refine ok_bind (Q := fun v => v = false → (stAt t.fStates a (w64 (b - 1))).1.fBy ∈ t.fThreads.map (·.fId)) ?_ (fun v hv => ok_cond (fun _ => ok_some (by simp)) (fun e => ok_some (fun _ => hv e)))
 refine ok_not (fun _ => ok_some (by simp)) (fun _ => ?_)
 refine ok_not (fun _ => ok_some (by simp)) (fun _ => ?_)
 refine ok_nite (fun _ => ok_some (by simp)) (fun _ => ?_)
 refine ok_bind (critical_known_yes t _ hz.th) (fun r hr => ok_some (fun e => hr (by simpa using e)))
theorem critical_waker_eq (t : api_Trace) (a b : Int) (hz : Siz t) : critical_waker t a b = some (wkr t a b) := by
 obtain ⟨r, h1, _⟩ := critical_waker_ok t a b hz
 unfold wkr; rw [h1]; rfl
theorem wkr_known {t : api_Trace} {a b : Int} (hz : Siz t) (h : (wkr t a b).2 = true) : (wkr t a b).1 ∈ t.fThreads.map (·.fId) :=
 (critical_waker_ok t a b hz).of_eq (critical_waker_eq t a b hz) h
structure Wk (t : api_Trace) (b a : Int) (cs : List Int) (x : Int) : Prop where
 first : cs[0]? = some a
 last : cs[cs.length - 1]? = some x
 step : ∀ (k : Nat) y z, cs[k]? = some y → cs[k + 1]? = some z → wkr t y b = (z, true)
 nd : cs.Nodup
 kn : ∀ y ∈ cs, y ∈ a :: t.fThreads.map (·.fId)
theorem Wk.pos {t b a cs x} (h : Wk t b a cs x) : 0 < cs.length := by have := lt_of_get h.first; omega
theorem Wk.len {t b a cs x} (h : Wk t b a cs x) : cs.length ≤ t.fThreads.length + 1 := by
 have := nodup_le cs _ h.nd h.kn
 simpa using this
theorem Wk.one (t : api_Trace) (b a : Int) : Wk t b a [a] a :=
 ⟨rfl, rfl, fun k y z _ h => by simp at h, by simp, by simp⟩
theorem Wk.more {t : api_Trace} {b a : Int} {cs : List Int} {x : Int} (hz : Siz t) (h : Wk t b a cs x) (hw : (wkr t x b).2 = true) (hn : (wkr t x b).1 ∉ cs) : Wk t b a (cs ++ [(wkr t x b).1]) (wkr t x b).1 := by
 have hp := h.pos
 refine ⟨by rw [List.getElem?_append_left hp]; exact h.first, by simp, fun k y z hy hz' => ?_, ?_, fun y hy => ?_⟩
 ·have hl := lt_of_get hz'
  simp at hl
  rw [List.getElem?_append_left (by omega)] at hy
  by_cases e : k + 1 < cs.length
  ·rw [List.getElem?_append_left e] at hz'
   exact h.step k y z hy hz'
  ·have e2 : k + 1 = cs.length := by omega
   rw [List.getElem?_append_right (by omega), e2] at hz'
   simp at hz'
   have e3 : k = cs.length - 1 := by omega
   rw [e3, h.last] at hy
   cases hy; subst hz'
   rw [← hw]
 ·exact List.nodup_append.2 ⟨h.nd, by simp, fun y hy z hz' e => by simp at hz'; subst hz' e; exact hn hy⟩
 ·rcases List.mem_append.1 hy with hy | hy
  ·exact h.kn y hy
  ·simp at hy; subst hy
   exact List.mem_cons_of_mem _ (wkr_known hz hw)
theorem mput_length {κ ν : Type} [DecidableEq κ] (k : κ) (v : ν) : ∀ (m : List (κ × ν)), mget k m = none → (mput k v m).length = m.length + 1
 | [], _ => rfl
 | p :: r, h => by
  simp only [mget] at h
  by_cases e : k = p.1
  ·rw [if_pos e] at h; simp at h
  ·rw [if_neg e] at h
   simp only [mput, if_neg e, List.length_cons]
   rw [mput_length k v r h]
theorem path_L1_ok (t : api_Trace) (a b : Int) (hz : Siz t) (ht : t.fThreads.length ≤ 1000000) : Ok (loop (critical_Path_L1 t b) (a, mput a true [], (wkr t a b).1, (wkr t a b).2)) (fun x => ∃ cs, Wk t b a cs x) := by
 refine ok_loop (fun s => ∃ cs, Wk t b a cs s.1 ∧ (∀ k, mget k s.2.1 = if k ∈ cs then some true else none) ∧ s.2.1.length = cs.length ∧ wkr t s.1 b = (s.2.2.1, s.2.2.2)) (fun s => t.fThreads.length + 2 - s.2.1.length) (fun s hs => ?_) ⟨[a], Wk.one t b a, fun k => ?_, rfl, rfl⟩ (by simp [manyRounds]; omega)
 ·obtain ⟨x, m, w, o⟩ := s
  obtain ⟨cs, h1, h2, h3, h4⟩ := hs
  simp only at h1 h2 h3 h4
  unfold critical_Path_L1
  dsimp only
  refine ok_bind (Q := fun v => v = true → o = true ∧ w ∉ cs) ?_ (fun v hv => ok_cond (fun e => ?_) (fun _ => ok_inr ⟨cs, h1⟩))
  ·refine ok_cond (fun e => ok_some (fun e2 => ⟨e, fun hm => ?_⟩)) (fun _ => ok_some (by simp))
   rw [h2 w, if_pos hm] at e2
   simp at e2
  ·obtain ⟨e1, e2⟩ := hv e
   rw [critical_waker_eq t w b hz, Option.bind_some]
   have hw : (wkr t x b).2 = true := by rw [h4]; exact e1
   have hx : (wkr t x b).1 = w := by rw [h4]
   have hn := h1.more hz hw (by rw [hx]; exact e2)
   rw [hx] at hn
   have hl := hn.len
   have hg : mget w m = none := by rw [h2 w, if_neg e2]
   have hml := mput_length w true m hg
   refine ok_inl ⟨⟨cs ++ [w], hn, fun k => ?_, by simp [hml, h3], rfl⟩, ?_⟩
   ·rw [mget_mput, h2 k]
    by_cases e3 : k = w
    ·simp [e3]
    ·simp [e3]
   ·simp only [hml]
    simp at hl
    omega
 ·rw [mget_mput]
  by_cases e : k = a <;> simp [e, mget]
structure HopG (t : api_Trace) (h : api_Hop) : Prop where
 s : ∃ (k : Nat) (s : api_State), t.fStates[k]? = some s ∧ atB h.fThread h.fSpan.fFrom s = true ∧ s.fState = h.fState ∧ h.fSpan.fTo ≤ s.fSpan.fTo
 v : 0 ≤ h.fSpan.fFrom ∧ h.fSpan.fFrom < h.fSpan.fTo ∧ h.fSpan.fTo ≤ 1000000000000
structure Chg (t : api_Trace) (a : Int) (p : api_Span) (hs : List api_Hop) (th to : Int) : Prop where
 all : ∀ (k : Nat) h, hs[k]? = some h → HopG t h
 st : ∀ h, hs[0]? = some h → h.fSpan.fTo = p.fTo ∧ ∃ cs, Wk t h.fSpan.fTo a cs h.fThread
 nx : ∀ (k : Nat) g h, hs[k]? = some g → hs[k + 1]? = some h → g.fSpan.fFrom = h.fSpan.fTo ∧ ∃ cs, Wk t h.fSpan.fTo g.fThread cs h.fThread
 e0 : hs = [] → th = a ∧ to = p.fTo
 e1 : ∀ h, hs[hs.length - 1]? = some h → h.fThread = th ∧ h.fSpan.fFrom = to
 len : (hs.length : Int) + (to - p.fFrom) ≤ 1000000000000
 rng : p.fFrom ≤ to ∧ to ≤ 1000000000000
theorem chg_next {t : api_Trace} {a : Int} {p : api_Span} {hs : List api_Hop} {th to th' : Int} (H : Chg t a p hs th to) (h0 : 0 ≤ p.fFrom) (hto : p.fFrom < to) {cs : List Int} (hw : Wk t to th cs th') {s : api_State} (hs' : s ∈ t.fStates) (hat : atB th' (to - 1) s = true) :
  Chg t a p (hs ++ [{ fThread := th', fState := s.fState, fSpan := { fFrom := max s.fSpan.fFrom p.fFrom, fTo := to } }]) th' (max s.fSpan.fFrom p.fFrom) := by
 have hat' := hat
 simp only [atB, decide_eq_true_eq] at hat'
 have hr := H.rng
 refine ⟨fun k h hk => ?_, fun h hh => ?_, fun k g h hg hh => ?_, fun e => by simp at e, fun h hh => ?_, ?_, by omega⟩
 ·by_cases e : k < hs.length
  ·rw [List.getElem?_append_left e] at hk
   exact H.all k h hk
  ·have hkl := lt_of_get hk
   have : k = hs.length := by simp at hkl; omega
   subst this
   simp at hk
   subst hk
   obtain ⟨j, hj⟩ := List.getElem?_of_mem hs'
   refine ⟨⟨j, s, hj, ?_, rfl, ?_⟩, ?_⟩
   ·simp only [atB, decide_eq_true_eq]; omega
   ·show to ≤ s.fSpan.fTo
    omega
   ·show 0 ≤ max s.fSpan.fFrom p.fFrom ∧ max s.fSpan.fFrom p.fFrom < to ∧ to ≤ _
    omega
 ·cases hs with
  | nil =>
   simp at hh; subst hh
   obtain ⟨e1, e2⟩ := H.e0 rfl
   subst e1
   exact ⟨e2, cs, hw⟩
  | cons g gs =>
   simp at hh; subst hh
   exact H.st g rfl
 ·by_cases e : k + 1 < hs.length
  ·rw [List.getElem?_append_left e] at hh
   rw [List.getElem?_append_left (by omega)] at hg
   exact H.nx k g h hg hh
  ·have hkl := lt_of_get hh
   have : k + 1 = hs.length := by simp at hkl; omega
   rw [List.getElem?_append_left (by omega)] at hg
   rw [List.getElem?_append_right (by omega), this] at hh
   simp at hh
   subst hh
   obtain ⟨e2, e3⟩ := H.e1 g (by rw [show hs.length - 1 = k by omega]; exact hg)
   subst e2
   exact ⟨e3, cs, hw⟩
 ·simp at hh
  subst hh
  exact ⟨rfl, rfl⟩
 ·have := H.len
  simp only [List.length_append, List.length_cons, List.length_nil]
  omega
structure PathG (t : api_Trace) (a : Int) (p : api_Span) (r : List api_Hop) : Prop where
 pos : 0 < r.length
 len : r.length ≤ 1000000000000
 all : ∀ (i : Nat) h, r[i]? = some h → HopG t h
 fst : ∀ h, r[0]? = some h → h.fSpan.fFrom = p.fFrom
 lst : ∀ h, r[r.length - 1]? = some h → h.fSpan.fTo = p.fTo ∧ ∃ cs, Wk t h.fSpan.fTo a cs h.fThread
 nx : ∀ (i : Nat) g h, r[i]? = some h → r[i + 1]? = some g → g.fSpan.fFrom = h.fSpan.fTo ∧ ∃ cs, Wk t h.fSpan.fTo g.fThread cs h.fThread
theorem pathg_of {t : api_Trace} {a : Int} {p : api_Span} {hs : List api_Hop} {th to : Int} (H : Chg t a p hs th to) (hp : p.fFrom < p.fTo) (he : ¬ p.fFrom < to) : PathG t a p hs.reverse := by
 have hr := H.rng
 have hn : 0 < hs.length := by
  cases hs with
  | nil => have := (H.e0 rfl).2; omega
  | cons => simp
 refine ⟨by simpa using hn, by have := H.len; simp; omega, fun i h hi => ?_, fun h hh => ?_, fun h hh => ?_, fun i g h hh hg => ?_⟩
 ·have hl := lt_of_get hi
  simp at hl
  rw [List.getElem?_reverse hl] at hi
  exact H.all _ h hi
 ·rw [List.getElem?_reverse hn] at hh
  have := (H.e1 h (by simpa using hh)).2
  omega
 ·rw [List.getElem?_reverse (by simp; omega)] at hh
  simp only [List.length_reverse] at hh
  rw [show hs.length - 1 - (hs.length - 1) = 0 by omega] at hh
  exact H.st h hh
 ·have hl := lt_of_get hg
  simp at hl
  rw [List.getElem?_reverse (by omega)] at hh hg
  rw [show hs.length - 1 - i = hs.length - 1 - (i + 1) + 1 by omega] at hh
  exact H.nx _ g h hg hh
theorem critical_Path_gen (t : api_Trace) (a : Int) (p : api_Span) (h : Siz t) (ht : t.fThreads.length ≤ 1000000) : Ok (critical_Path t a p) (fun r => r.2 = 0 → Gd t.fStates ∧ critical_check t a p = some 0 ∧ PathG t a p r.1) := by
 unfold critical_Path
 obtain ⟨r, h1, h2⟩ := critical_check_ok t a p h ht
 rw [h1, Option.bind_some]
 refine ok_nite (fun h0 => ok_some (fun e => absurd e h0)) (fun e => ?_)
 obtain ⟨hd, hp1, hp2, hp3⟩ := h2 e
 subst e
 refine ok_bindS (Q := InlR (fun hs => PathG t a p hs.reverse) (fun r => r.2 ≠ 0)) (ok_loop (fun s : Int × List api_Hop × Int => Chg t a p s.2.1 s.1 s.2.2) (fun s => (s.2.2 - p.fFrom).toNat) (fun s H => ?_) ⟨by simp, by simp, by simp, by simp, by simp, by simp; omega, by simp; omega⟩ (by simp [manyRounds]; omega)) (fun hs hh => ?_) (fun r hr => ok_some (fun e => absurd e hr))
 ·obtain ⟨x, hs', to⟩ := s
  simp only at H
  unfold critical_Path_L2
  dsimp only
  refine ok_ite (fun hto => ?_) (fun hn => ok_inr (pathg_of H hp2 hn))
  have hr := H.rng
  rw [critical_waker_eq t _ _ h, Option.bind_some]
  refine ok_bind (path_L1_ok t x to h ht) (fun x' hx' => ?_)
  obtain ⟨cs, hw⟩ := hx'
  rw [state_At_eq _ _ _ h.st, Option.bind_some, show w64 (to - 1) = to - 1 from w64_of (by omega)]
  refine ok_not (fun _ => ok_inr (by simp [InlR])) (fun hf => ?_)
  obtain ⟨hm, hat⟩ := stAt_some hf
  have hl := H.len
  rw [room_ok (by simp; omega) (by simp; omega)]
  have hn := chg_next H hp1 hto hw hm hat
  refine ok_inl ⟨hn, ?_⟩
  simp only [atB, decide_eq_true_eq] at hat
  show (max _ _ - _ : Int).toNat < (to - p.fFrom).toNat
  omega
 ·have hh' : PathG t a p hs.reverse := hh
  dsimp only
  rw [slices_Reverse_eq hs (by have := hh'.len; simp at this; omega)]
  exact ok_some (fun _ => ⟨hd, rfl, hh'⟩)
inductive Desc (l : List api_Slice) (j : Int) : Int → Prop
 | self : Desc l j j
 | up {a : Int} {y : api_Slice} : 0 ≤ a → l[a.toNat]? = some y → Desc l j y.fParent → Desc l j a
theorem Desc.le {l : List api_Slice} (hu : Up l l.length) {j a : Int} (h : Desc l j a) : j ≤ a := by
 induction h with
 | self => omega
 | up h0 hy _ ih =>
  have := hu _ _ (by have := lt_of_get hy; omega) hy
  omega
theorem Desc.step {l : List api_Slice} {j a : Int} {y : api_Slice} (h0 : 0 ≤ a) (hy : l[a.toNat]? = some y) (hne : j ≠ a) : Desc l j a ↔ Desc l j y.fParent := by
 constructor
 ·intro h
  cases h with
  | self => exact absurd rfl hne
  | up _ hy' h => rw [hy] at hy'; cases hy'; exact h
 ·exact Desc.up h0 hy
theorem ok_up2N {σ ρ : Type} {step : σ × Int → Option ((σ × Int) ⊕ ρ)} (n : Nat) (Inv : σ → Nat → Prop) {Post : ρ → Prop} (hn : n ≤ 9223372036854775807) {s0 : σ} (h0 : Inv s0 0)
  (h : ∀ (s : σ) (i : Nat), Inv s i → i ≤ n → Ok (step (s, (i : Int))) (InlR (fun a => i < n ∧ a.2 = ((i + 1 : Nat) : Int) ∧ Inv a.1 (i + 1)) Post)) : Ok (loop step (s0, 0)) Post := by
 refine ok_up2 n (fun s i => Inv s i.toNat) hn h0 (fun s i hI h1 h2 => ?_)
 obtain ⟨k, rfl⟩ := Int.eq_ofNat_of_zero_le h1
 refine (h s k hI (by omega)).mono ?_
 rintro (⟨a, b⟩ | b) hr
 ·obtain ⟨h3, h4, h5⟩ : k < n ∧ b = ((k + 1 : Nat) : Int) ∧ Inv a (k + 1) := hr
  refine ⟨by omega, by omega, ?_⟩
  rw [show ((k : Int) + 1).toNat = k + 1 by omega]; exact h5
 ·exact hr
theorem ok_ixN {α : Type} {xs : List α} {i : Nat} (h : i < xs.length) : Ok (idx xs (i : Int)) (fun y => xs[i]? = some y) := by
 rw [idx_nat]; exact ⟨xs[i], by simp [h], by simp [h]⟩
theorem w64_N {i n : Nat} (h : i < n) (hn : n ≤ 9223372036854775807) : w64 ((i : Int) + 1) = ((i + 1 : Nat) : Int) := by rw [w64_of (by omega)]; omega
theorem trace_Check_state (t : api_Trace) (hz : Siz t) (ht : t.fThreads.length ≤ 1000000) (e : trace_Check t = some 0) : state_Check t.fThreads t.fStates = some 0 := by
 have e1 : trace_tables t = some 0 := by
  unfold trace_Check at e
  obtain ⟨r, h1, _⟩ := trace_tables_ok t hz ht
  rw [h1, Option.bind_some] at e
  by_cases h : r = 0
  ·rw [h1, h]
  ·simp [h] at e
 unfold trace_tables at e1
 obtain ⟨q, hq, _⟩ := trace_threads_ok t hz.th hz.nTh
 rw [hq] at e1
 obtain ⟨c1, h1, _⟩ := slice_Check_ok t.fSlices hz.sl hz.nSl
 obtain ⟨c2, h2, _⟩ := state_Check_ok t.fThreads t.fStates ht hz.st
 cases q with
 | inl r =>
  simp only [Option.bind_some, h1] at e1
  cases h : (!decide (r.2 = 0)) with
  | true =>
   rw [h] at e1; simp at e1 h; exact absurd e1 h
  | false => rw [h] at e1; simp at e1
 | inr r =>
  simp only [Option.bind_some, h1, h2] at e1
  cases h : (!decide (r.2 = 0)) with
  | true => rw [h] at e1; simp at e1 h; exact absurd e1 h
  | false =>
   rw [h] at e1
   simp only [cond_false] at e1
   obtain ⟨k, _, e1⟩ := bB e1
   by_cases hk : k = 0
   ·simp only [hk, decide_true, Bool.not_true, cond_false] at e1
    by_cases hc : c2 = 0
    ·rw [h2, hc]
    ·simp [hc] at e1
   ·simp [hk] at e1
theorem siz48 {t : api_Trace} (h : okr_api_Trace t) : Siz t := by
 have e : reachBytes = 140737488351232 := by decide
 unfold okr_api_Trace okL okr_api_Thread okr_api_Slice okr_api_Sample okr_api_Step okr_api_Block okr_str okL at h
 rw [e] at h
 obtain ⟨_, _, h1, h2, h3, h4, h5, h6, h7, h8⟩ := h
 refine ⟨by omega, by omega, by omega, by omega, by omega, by omega, by omega, by omega, fun x hx => ?_, fun x hx => ?_, fun x hx => ?_, fun x hx => ?_, fun x hx => ?_⟩
 ·have := (h1.2 x hx).2.1; unfold okN; omega
 ·have := (h2.2 x hx).2.2.2.1; unfold okN; omega
 ·have := (h5.2 x hx).2.2.2; exact ⟨by omega, fun y hy => by have := this.2 y hy; unfold okN; omega⟩
 ·have := (h6.2 x hx).1; unfold okN; omega
 ·have := (h7.2 x hx).2.2.2.2.2.1; exact ⟨by omega, fun y hy => by have := this.2 y hy; unfold okN; omega⟩
theorem awake48 : tracebooklaw48_awake = some true := by kernel_rfl
theorem few48 (t : api_Trace) : Ok (tracebooklaw48_few t) (fun b => b = true → t.fThreads.length ≤ 1000000 ∧ t.fStates.length ≤ 200) := by
 unfold tracebooklaw48_few
 refine ok_bind (Q := fun b => b = true → t.fThreads.length ≤ 1000000 ∧ t.fStates.length ≤ 200) ?_ (fun b hb => ok_some hb)
 refine ok_ite (fun h => ?_) (fun _ => ok_some (by simp))
 have h1 : t.fThreads.length ≤ 1000000 := by omega
 refine ok_ite (fun h => ?_) (fun _ => ok_some (by simp))
 refine ok_ite (fun h => ?_) (fun _ => ok_some (by simp))
 have h2 : t.fStates.length ≤ 200 := by omega
 refine Ok.mono (P := Yes) ?_ (fun _ _ _ => ⟨h1, h2⟩)
 repeat' (first | (with_reducible first | exact ok_yes | exact ok_inrY | exact ok_inlY | refine ok_nite (fun _ => ?_) fun _ => ?_ | refine ok_ite (fun _ => ?_) fun _ => ?_ | refine ok_not (fun _ => ?_) fun _ => ?_ | refine ok_cond (fun _ => ?_) fun _ => ?_) | (with_reducible refine ok_next ?_ ?_ ?_ <;> (first | assumption | omega | rw [w64_of] <;> omega)) | with_reducible refine ok_bind (ok_idx (by (first | assumption | omega | rw [w64_of] <;> omega)) (by (first | assumption | omega | rw [w64_of] <;> omega))) (fun _ _ => ?_) | (with_reducible refine ok_bind (Q := Yes) ?_ fun _ _ => ?_) | dsimp only)
theorem w64_add (a b : Int) : w64 (w64 a + b) = w64 (a + b) := by
 have e : (2 : Int) ^ (64 : Nat) = 18446744073709551616 := by decide
 have e2 : (2 : Int) ^ (64 - 1 : Nat) = 9223372036854775808 := by decide
 simp only [IntKind.wrap, IntKind.bits, IntKind.signed, e, e2, Bool.true_and, decide_eq_true_eq]
 split <;> split <;> split <;> omega
def lenH (h : api_Hop) : Int := if 0 ≤ h.fSpan.fFrom ∧ h.fSpan.fFrom < h.fSpan.fTo ∧ h.fSpan.fTo ≤ 1000000000000 then h.fSpan.fTo - h.fSpan.fFrom else 0
theorem lenH_rng (h : api_Hop) : 0 ≤ lenH h ∧ lenH h ≤ 1000000000000 := by
 unfold lenH
 split <;> omega
theorem length_p (h : api_Hop) : critical_length h = some (lenH h) := by
 unfold critical_length lenH
 rw [spans_Valid_eq, Option.bind_some]
 by_cases e : 0 ≤ h.fSpan.fFrom ∧ h.fSpan.fFrom < h.fSpan.fTo ∧ h.fSpan.fTo ≤ 1000000000000
 ·simp only [e, decide_true, Bool.not_true, cond_false, if_true, and_self]
  rw [w64_of (by omega)]
 ·rw [if_neg e, decide_eq_false e]; rfl
def sumN {α : Type} (f : α → Int) (l : List α) : Nat → Int
 | 0 => 0
 | n + 1 => sumN f l n + (match l[n]? with | some y => f y | none => 0)
theorem sumN_step {α : Type} {f : α → Int} {l : List α} {n : Nat} {y : α} (h : l[n]? = some y) : sumN f l (n + 1) = sumN f l n + f y := by
 simp only [sumN, h]
def stL (k : Int) (h : api_Hop) : Int := if h.fState = k then lenH h else 0
theorem Total_p (l : List api_Hop) (k : Int) (hl : l.length ≤ 9223372036854775807) : critical_Total l k = some (w64 (sumN (stL k) l l.length)) := by
 have : Ok (critical_Total l k) (fun r => r = w64 (sumN (stL k) l l.length)) := by
  unfold critical_Total
  refine ok_bind (ok_up2N l.length (fun a n => a = w64 (sumN (stL k) l n)) hl (by rfl) (fun a i hI h2 => ?_)) (fun r hr => ok_some hr)
  unfold critical_Total_L1
  dsimp only
  subst hI
  refine ok_ite (fun hi => ?_) (fun hi => ok_inr ?_)
  ·obtain ⟨y, hiy, hy⟩ := ok_ixN (xs := l) (i := i) (by omega)
   rw [hiy, Option.bind_some]
   refine ok_bind (Q := fun v => v = w64 (sumN (stL k) l (i + 1))) ?_ (fun v hv => ok_inl ⟨by omega, w64_N (by omega) hl, hv⟩)
   rw [sumN_step hy]
   unfold stL
   refine ok_ite (fun e => ?_) (fun e => ok_some ?_)
   ·rw [length_p, Option.bind_some, if_pos e]
    exact ok_some (w64_add _ _)
   ·rw [if_neg e, Int.add_zero]
  ·rw [show i = l.length by omega]
 obtain ⟨r, h1, h2⟩ := this
 rw [h1, h2]
def shM (l : List api_Hop) : Nat → List (Int × Int)
 | 0 => []
 | n + 1 => match l[n]? with
  | some h => if 0 < lenH h then mput h.fThread (w64 ((mget h.fThread (shM l n)).getD 0 + lenH h)) (shM l n) else shM l n
  | none => shM l n
theorem mput_keys {κ ν : Type} [DecidableEq κ] (k : κ) (v : ν) : ∀ m : List (κ × ν), (mput k v m).map (·.1) = if k ∈ m.map (·.1) then m.map (·.1) else m.map (·.1) ++ [k]
 | [] => by simp [mput]
 | p :: r => by
  simp only [mput]
  by_cases e : k = p.1
  ·simp [e]
  ·rw [if_neg e]
   simp only [List.map_cons, mput_keys k v r, List.mem_cons, e, false_or]
   split <;> simp
theorem mput_nodup {κ ν : Type} [DecidableEq κ] (k : κ) (v : ν) (m : List (κ × ν)) (h : (m.map (·.1)).Nodup) : ((mput k v m).map (·.1)).Nodup := by
 rw [mput_keys]
 split
 ·exact h
 ·rename_i hn
  exact List.nodup_append.2 ⟨h, by simp, by intro a ha b hb; simp at hb; subst hb; exact fun e => hn (e ▸ ha)⟩
theorem shM_keys (l : List api_Hop) : ∀ n, ((shM l n).map (·.1)).Nodup ∧ (shM l n).length ≤ n ∧ ∀ k ∈ (shM l n).map (·.1), k ∈ l.map (·.fThread)
 | 0 => ⟨by simp [shM], by simp [shM], by simp [shM]⟩
 | n + 1 => by
  obtain ⟨h1, h2, h3⟩ := shM_keys l n
  simp only [shM]
  cases hn : l[n]? with
  | none => exact ⟨h1, by dsimp only; omega, h3⟩
  | some y =>
   dsimp only
   split
   ·refine ⟨mput_nodup _ _ _ h1, ?_, fun k hk => ?_⟩
    ·have := congrArg List.length (mput_keys y.fThread (w64 ((mget y.fThread (shM l n)).getD 0 + lenH y)) (shM l n))
     rw [List.length_map] at this
     rw [this]
     split <;> simp <;> omega
    ·rw [mput_keys] at hk
     split at hk
     ·exact h3 k hk
     ·rcases List.mem_append.1 hk with hk | hk
      ·exact h3 k hk
      ·simp at hk; subst hk
       exact List.mem_map.2 ⟨y, List.mem_of_getElem? hn, rfl⟩
   ·exact ⟨h1, by omega, h3⟩
def rowOf (m : List (Int × Int)) (k : Int) : T46_2_int := { a0 := k, a1 := (mget k m).getD 0 }
def rowsOf (m : List (Int × Int)) : List T46_2_int := (sortI (m.map (·.1))).map (rowOf m)
theorem keysB_ok {m : List (Int × Int)} (h1 : (m.map (·.1)).Nodup) (h2 : ∀ k ∈ m.map (·.1), inI .i64 k) (h3 : m.length ≤ 17592186043904) : keysB m = true := by
 refine decide_eq_true ⟨h1, fun p hp => ?_, h3⟩
 have := h2 p.1 (List.mem_map.2 ⟨p, hp, rfl⟩)
 simpa [Lit.wf, inI] using this
theorem Shares_p (l : List api_Hop) (hl : l.length ≤ 1000000000000) (hi : ∀ y ∈ l, inI .i64 y.fThread) : critical_Shares l = some (rowsOf (shM l l.length)) := by
 have : Ok (critical_Shares l) (fun r => r = rowsOf (shM l l.length)) := by
  unfold critical_Shares
  refine ok_bind (Q := fun m => m = shM l l.length) (ok_up2N l.length (fun a n => a = shM l n) (by omega) rfl (fun a i hI h2 => ?_)) (fun m hm => ?_)
  ·unfold critical_Shares_L2
   dsimp only
   subst hI
   refine ok_ite (fun hi => ?_) (fun hi => ok_inr ?_)
   ·obtain ⟨y, hiy, hy⟩ := ok_ixN (xs := l) (i := i) (by omega)
    rw [hiy, Option.bind_some, length_p, Option.bind_some]
    refine ok_bind (Q := fun v => v = shM l (i + 1)) ?_ (fun v hv => ok_inl ⟨by omega, w64_N (n := l.length) (by omega) (by omega), hv⟩)
    simp only [shM, hy]
    refine ok_ite (fun e => ok_some ?_) (fun e => ok_some ?_)
    ·rw [if_pos e]
    ·rw [if_neg e]
   ·rw [show i = l.length by omega]
  ·obtain ⟨k1, k2, k3⟩ := shM_keys l l.length
   subst hm
   unfold maps_Keys_map_int_int_int_int_k1 slices_SortedFunc_int_k1
   rw [Option.bind_some, keysB_ok k1 (fun k hk => by obtain ⟨y, hy, e⟩ := List.mem_map.1 (k3 k hk); exact e ▸ hi y hy) (by omega), cond_true, Option.bind_some]
   generalize hr : sortI ((shM l l.length).map (·.1)) = r
   have hrl : r.length ≤ l.length := by rw [← hr, (sortI_perm _).length_eq]; simpa using k2
   refine ok_bind (Q := fun v => v = r.map (rowOf (shM l l.length))) (ok_up2N r.length (fun a n => a = (r.take n).map (rowOf (shM l l.length))) (by omega) (by simp) (fun a i hI h2 => ?_)) (fun v hv => ok_some (by rw [hv, ← hr, rowsOf]))
   unfold critical_Shares_L1
   dsimp only
   subst hI
   refine ok_ite (fun hi => ?_) (fun hi => ok_inr ?_)
   ·obtain ⟨y, hiy, hy⟩ := ok_ixN (xs := r) (i := i) (by omega)
    rw [hiy, Option.bind_some, room_ok (by simp; omega) (by simp; omega)]
    refine ok_inl ⟨by omega, w64_N (n := r.length) (by omega) (by omega), ?_⟩
    have := lt_of_get hy
    have hy' : r[i] = y := by have := List.getElem?_eq_getElem this; rw [hy] at this; exact (Option.some.inj this).symm
    rw [List.take_succ_eq_append_getElem this, List.map_append, hy']
    rfl
   ·rw [show i = r.length by omega, List.take_length]
 obtain ⟨r, h1, h2⟩ := this
 rw [h1, h2]
theorem rowsOf_len (m : List (Int × Int)) : (rowsOf m).length = m.length := by
 unfold rowsOf
 rw [List.length_map, (sortI_perm _).length_eq, List.length_map]
structure AtH (p : api_Span) (l : List api_Hop) (at' : Int) (n : Nat) : Prop where
 z : n = 0 → at' = p.fFrom
 s : ∀ h, 0 < n → l[n - 1]? = some h → at' = h.fSpan.fTo
theorem check_trace {t : api_Trace} {a : Int} {p : api_Span} (hz : Siz t) (ht : t.fThreads.length ≤ 1000000) (h1 : critical_check t a p = some 0) : trace_Check t = some 0 := by
 unfold critical_check at h1
 obtain ⟨q, h3, _⟩ := trace_Check_ok t hz ht
 rw [h3, Option.bind_some] at h1
 by_cases hq : q = 0
 ·rw [h3, hq]
 ·simp [hq] at h1
theorem iter_post {S ρ : Type} {step : S → Option (S ⊕ ρ)} (Inv : S → Prop) (Post : ρ → Prop) (h : ∀ s, Inv s → ∀ q, step s = some q → InlR Inv Post q) : ∀ (n : Nat) (s : S) (r : ρ), Inv s → iter step n s = some r → Post r
 | 0, _, _, _, e => by simp [iter] at e
 | n + 1, s, r, hs, e => by
  rw [iter] at e
  cases hst : step s with
  | none => rw [hst] at e; simp at e
  | some q =>
   rw [hst] at e
   have hq := h s hs q hst
   cases q with
   | inl s' => exact iter_post Inv Post h n s' r hq e
   | inr r' => simp at e; subst e; exact hq
theorem loop_post {S ρ : Type} {step : S → Option (S ⊕ ρ)} (Inv : S → Prop) (Post : ρ → Prop) (h : ∀ s, Inv s → ∀ q, step s = some q → InlR Inv Post q) {s : S} {r : ρ} (hs : Inv s) (e : loop step s = some r) : Post r :=
 iter_post Inv Post h _ s r hs e
theorem fields_rng {s : api_State} (e : state_fields s = some true) : 0 ≤ s.fState ∧ s.fState ≤ 5 := by
 unfold state_fields at e
 obtain ⟨v1, _, e⟩ := bB e
 obtain ⟨v2, h2, e⟩ := bB e
 cases v2 with
 | true => simp at e
 | false =>
  by_cases h : s.fState < 0
  ·simp [h] at h2
  ·simp [h] at h2; omega
theorem states_rng {ths : List api_Thread} {l : List api_State} (hl : l.length ≤ 9223372036854775807) (hc : state_Check ths l = some 0) : ∀ s ∈ l, 0 ≤ s.fState ∧ s.fState ≤ 5 := by
 unfold state_Check at hc
 obtain ⟨ix, _, hc⟩ := bB hc
 obtain ⟨q, hq, hc⟩ := bB hc
 have key := loop_post (fun s : Int × Int => 0 ≤ s.2 ∧ ∀ (j : Nat) s', (j : Int) < s.2 → l[j]? = some s' → 0 ≤ s'.fState ∧ s'.fState ≤ 5) (InlR (fun _ => ∀ s ∈ l, 0 ≤ s.fState ∧ s.fState ≤ 5) (fun r => r ≠ 0)) (fun s hs q e => ?_) ⟨by simp, by intro j s' hj; simp at hj; omega⟩ hq
 ·cases q with
  | inl e => exact key
  | inr r => simp at hc; exact absurd hc key
 ·obtain ⟨a, i⟩ := s
  obtain ⟨h0, hI⟩ := hs
  simp only at h0 hI
  unfold state_Check_L2 at e
  dsimp only at e
  by_cases hi : i < (l.length : Int)
  ·simp only [hi, decide_true, cond_true] at e
   obtain ⟨y, hy, e⟩ := bB e
   obtain ⟨x, _, e⟩ := bB e
   have no : ∀ n : Int, n ≠ 0 → some (.inr (.inr n)) = some q → InlR (fun s : Int × Int => 0 ≤ s.2 ∧ ∀ (j : Nat) s', (j : Int) < s.2 → l[j]? = some s' → 0 ≤ s'.fState ∧ s'.fState ≤ 5) (InlR (fun _ : Int => ∀ s ∈ l, 0 ≤ s.fState ∧ s.fState ≤ 5) (fun r : Int => r ≠ 0)) q := by
    intro n hn hq
    cases hq
    exact hn
   by_cases hx : x < 0
   ·simp only [hx, decide_true, cond_true] at e; exact no _ (by decide) e
   ·simp only [hx, decide_false, cond_false] at e
    obtain ⟨v, _, e⟩ := bB e
    cases v with
    | false => exact no _ (by decide) e
    | true =>
     simp only [Bool.not_true, cond_false] at e
     obtain ⟨f, hf, e⟩ := bB e
     cases f with
     | false => exact no _ (by decide) e
     | true =>
      simp only [Bool.not_true, cond_false] at e
      obtain ⟨v1, _, e⟩ := bB e
      cases v1 with
      | true => exact no _ (by decide) e
      | false =>
       simp only [cond_false] at e
       obtain ⟨v2, _, e⟩ := bB e
       cases v2 with
       | true => exact no _ (by decide) e
       | false =>
        simp only [cond_false] at e
        cases e
        simp only [InlR]
        have h1 := (ok_idx h0 hi).of_eq hy
        by_cases hm : i < 9223372036854775807
        ·rw [w64_of (n := i + 1) (by omega)]
         refine ⟨by omega, fun j s0 hj hs0 => ?_⟩
         by_cases e2 : (j : Int) = i
         ·rw [show i.toNat = j by omega, hs0] at h1
          cases h1
          exact fields_rng hf
         ·exact hI j s0 (by omega) hs0
        ·exact absurd hm (by have := hl; omega)
  ·simp only [hi, decide_false, cond_false] at e
   cases e
   intro s hs
   obtain ⟨j, hj⟩ := List.getElem?_of_mem hs
   exact hI j s (by have := lt_of_get hj; omega) hj
theorem Path_nil {t : api_Trace} {a : Int} {p : api_Span} {r : List api_Hop × Int} (h : critical_Path t a p = some r) (hr : r.2 ≠ 0) : r.1 = [] := by
 unfold critical_Path at h
 obtain ⟨c, _, h⟩ := bB h
 by_cases hc : c = 0
 ·simp only [hc, decide_true, Bool.not_true, cond_false] at h
  obtain ⟨q, hq, h⟩ := bB h
  have key := loop_post (fun _ : Int × List api_Hop × Int => True) (InlR (fun _ => True) (fun r : List api_Hop × Int => r.1 = [])) (fun s _ q e => ?_) trivial hq
  ·cases q with
   | inl e =>
    obtain ⟨x, _, h⟩ := bB h
    cases h; exact absurd rfl hr
   | inr e => cases h; exact key
  ·obtain ⟨x, hs, to⟩ := s
   unfold critical_Path_L2 at e
   dsimp only at e
   by_cases ht : p.fFrom < to
   ·simp only [ht, decide_true, cond_true] at e
    obtain ⟨_, _, e⟩ := bB e
    obtain ⟨_, _, e⟩ := bB e
    obtain ⟨st, _, e⟩ := bB e
    cases hst : st.2 with
    | false => rw [hst] at e; cases e; exact (rfl : ([] : List api_Hop) = [])
    | true =>
     rw [hst] at e
     simp only [Bool.not_true, cond_false] at e
     cases hroom : room 32 (List.length hs + 1) with
     | true => simp [hroom] at e; subst e; exact trivial
     | false => simp [hroom] at e
   ·simp only [ht, decide_false, cond_false] at e
    cases e; exact trivial
 ·simp only [hc, decide_false, Bool.not_false, cond_true] at h
  cases h; rfl
theorem path_sum {t : api_Trace} {a : Int} {p : api_Span} {l : List api_Hop} (H : PathG t a p l) : ∀ n, n ≤ l.length → sumN lenH l n = match n with
  | 0 => 0
  | k + 1 => match l[k]? with
   | some h => h.fSpan.fTo - p.fFrom
   | none => 0
 | 0, _ => rfl
 | n + 1, hn => by
  have ih := path_sum H n (by omega)
  have hy : l[n]? = some l[n] := List.getElem?_eq_getElem (by omega)
  have hv := (H.all n _ hy).v
  rw [sumN_step hy, ih]
  have hlen : lenH l[n] = l[n].fSpan.fTo - l[n].fSpan.fFrom := by unfold lenH; rw [if_pos hv]
  simp only [hy]
  cases n with
  | zero =>
   have := H.fst _ hy
   simp only; omega
  | succ k =>
   have hk : l[k]? = some l[k] := List.getElem?_eq_getElem (by omega)
   have := (H.nx k _ _ hk hy).1
   simp only [hk]; omega
theorem path_total {t : api_Trace} {a : Int} {p : api_Span} {l : List api_Hop} (H : PathG t a p l) : sumN lenH l l.length = p.fTo - p.fFrom := by
 have := path_sum H l.length (by omega)
 have hp := H.pos
 rw [this]
 obtain ⟨k, hk⟩ : ∃ k, l.length = k + 1 := ⟨l.length - 1, by omega⟩
 rw [hk]
 have hy : l[k]? = some l[k] := List.getElem?_eq_getElem (by omega)
 have hlk : l[l.length - 1]? = some l[k] := by
  have e : l.length - 1 = k := by omega
  rw [e]; exact hy
 have := (H.lst l[k] hlk).1
 simp only [hy]; omega
theorem covers_L3 {t : api_Trace} {a : Int} {p : api_Span} {l : List api_Hop} {e : Int} (H : PathG t a p l) : Ok (loop (tracebooklaw48_CriticalCovers_L3 (l, e)) (p.fFrom, 0)) (fun r => r = .inl p.fTo) := by
 have hp := H.pos
 have hl := H.len
 refine ok_up2N l.length (fun b n => AtH p l b n) (by omega) ⟨fun _ => rfl, by intro h hn; omega⟩ (fun b i hI h2 => ?_)
 unfold tracebooklaw48_CriticalCovers_L3
 dsimp only
 refine ok_ite (fun hi => ?_) (fun hi => ok_inr ?_)
 ·obtain ⟨y, hiy, hy⟩ := ok_ixN (xs := l) (i := i) (by omega)
  rw [hiy, Option.bind_some]
  have hv := (H.all i y hy).v
  have hb : y.fSpan.fFrom = b := by
   by_cases e : i = 0
   ·rw [hI.z e]; subst e; exact H.fst y hy
   ·have hk : l[i - 1]? = some l[i - 1] := List.getElem?_eq_getElem (by omega)
    rw [hI.s _ (by omega) hk]
    exact (H.nx (i - 1) _ _ hk (by rw [show i - 1 + 1 = i by omega]; exact hy)).1
  have hn : ¬ y.fSpan.fTo ≤ b := by omega
  simp only [hb, decide_true, Bool.not_true, cond_false, hn, decide_false, Option.bind_some]
  refine ok_inl ⟨by omega, w64_N (n := l.length) (by omega) (by omega), ⟨fun h => by omega, fun h _ hh => ?_⟩⟩
  rw [show i + 1 - 1 = i by omega, hy] at hh; cases hh; rfl
 ·have e : i = l.length := by omega
  subst e
  have hk : l[l.length - 1]? = some l[l.length - 1] := List.getElem?_eq_getElem (by omega)
  rw [hI.s _ hp hk, (H.lst _ hk).1]
theorem w64_add2 (a b : Int) : w64 (w64 a + w64 b) = w64 (a + b) := by
 rw [w64_add, Int.add_comm, w64_add, Int.add_comm]
def sumK (l : List api_Hop) : Nat → Int
 | 0 => 0
 | k + 1 => sumK l k + sumN (stL k) l l.length
theorem covers_L2 {l : List api_Hop} {e : Int} (hl : l.length ≤ 1000000000000) : Ok (loop (tracebooklaw48_CriticalCovers_L2 (l, e)) (0, 0)) (fun r => r = w64 (sumK l 6)) := by
 refine ok_up2N 6 (fun b n => b = w64 (sumK l n)) (by omega) rfl (fun b i hI h2 => ?_)
 unfold tracebooklaw48_CriticalCovers_L2
 dsimp only
 subst hI
 refine ok_ite (fun hi => ?_) (fun hi => ok_inr ?_)
 ·rw [Total_p l _ (by omega), Option.bind_some, w64_add2]
  exact ok_inl ⟨by omega, w64_N (n := 6) (by omega) (by omega), rfl⟩
 ·rw [show i = 6 by omega]
theorem sumK_eq {l : List api_Hop} (h : ∀ y ∈ l, 0 ≤ y.fState ∧ y.fState ≤ 5) : sumK l 6 = sumN lenH l l.length := by
 have : ∀ n, n ≤ l.length → sumN (stL 0) l n + sumN (stL 1) l n + sumN (stL 2) l n + sumN (stL 3) l n + sumN (stL 4) l n + sumN (stL 5) l n = sumN lenH l n := by
  intro n
  induction n with
  | zero => intro _; rfl
  | succ n ih =>
   intro hn
   have hy : l[n]? = some l[n] := List.getElem?_eq_getElem (by omega)
   have h1 := ih (by omega)
   have h2 := h l[n] (List.mem_of_getElem? hy)
   simp only [sumN_step hy]
   have : stL 0 l[n] + stL 1 l[n] + stL 2 l[n] + stL 3 l[n] + stL 4 l[n] + stL 5 l[n] = lenH l[n] := by
    unfold stL
    have : l[n].fState = 0 ∨ l[n].fState = 1 ∨ l[n].fState = 2 ∨ l[n].fState = 3 ∨ l[n].fState = 4 ∨ l[n].fState = 5 := by omega
    rcases this with e | e | e | e | e | e <;> rw [e] <;> simp
   omega
 have := this l.length (by omega)
 simp only [sumK]
 have e0 : ((0 : Nat) : Int) = 0 := rfl
 have e1 : ((1 : Nat) : Int) = 1 := rfl
 have e2 : ((2 : Nat) : Int) = 2 := rfl
 have e3 : ((3 : Nat) : Int) = 3 := rfl
 have e4 : ((4 : Nat) : Int) = 4 := rfl
 have e5 : ((5 : Nat) : Int) = 5 := rfl
 simp only [Nat.zero_add, Nat.reduceAdd, e0, e1, e2, e3, e4, e5] at *
 omega
theorem covers_L1 (r : List T46_2_int) (hl : r.length ≤ 1000000000000) : Ok (loop (tracebooklaw48_CriticalCovers_L1 r) (0, 0)) (fun v => v = w64 (sumN (·.a1) r r.length)) := by
 refine ok_up2N r.length (fun b n => b = w64 (sumN (·.a1) r n)) (by omega) rfl (fun b i hI h2 => ?_)
 unfold tracebooklaw48_CriticalCovers_L1
 dsimp only
 subst hI
 refine ok_ite (fun hi => ?_) (fun hi => ok_inr ?_)
 ·obtain ⟨y, hiy, hy⟩ := ok_ixN (xs := r) (i := i) (by omega)
  rw [hiy, Option.bind_some, w64_add]
  exact ok_inl ⟨by omega, w64_N (n := r.length) (by omega) (by omega), by rw [sumN_step hy]⟩
 ·rw [show i = r.length by omega]
theorem sumN_cons {α : Type} (f : α → Int) (x : α) (l : List α) : ∀ n, sumN f (x :: l) (n + 1) = f x + sumN f l n
 | 0 => by simp [sumN]
 | n + 1 => by
  have ih := sumN_cons f x l n
  rw [sumN, ih]
  simp only [List.getElem?_cons_succ, sumN]
  omega
theorem sumN_all {α : Type} (f : α → Int) : ∀ l : List α, sumN f l l.length = (l.map f).sum
 | [] => rfl
 | x :: l => by
  rw [List.length_cons, sumN_cons, sumN_all f l]
  simp
theorem perm_sumI {a b : List Int} (h : a.Perm b) : a.sum = b.sum := by
 induction h with
 | nil => rfl
 | cons x _ ih => simp [ih]
 | swap x y l => simp; omega
 | trans _ _ h1 h2 => exact h1.trans h2
theorem mget_mem {κ ν : Type} [DecidableEq κ] : ∀ {m : List (κ × ν)}, (m.map (·.1)).Nodup → ∀ p ∈ m, mget p.1 m = some p.2
 | [], _, p, hp => by simp at hp
 | q :: r, h, p, hp => by
  simp only [mget]
  rw [List.map_cons, List.nodup_cons] at h
  rcases List.mem_cons.1 hp with rfl | hp
  ·simp
  ·have : p.1 ≠ q.1 := fun e => h.1 (e ▸ List.mem_map.2 ⟨p, hp, rfl⟩)
   rw [if_neg this]
   exact mget_mem h.2 p hp
def sumM (m : List (Int × Int)) : Int := (m.map (·.2)).sum
theorem rows_sum {m : List (Int × Int)} (h : (m.map (·.1)).Nodup) : sumN (·.a1) (rowsOf m) (rowsOf m).length = sumM m := by
 rw [sumN_all]
 unfold rowsOf sumM
 rw [List.map_map, perm_sumI ((sortI_perm (m.map (·.1))).map _), List.map_map]
 congr 1
 refine List.map_congr_left (fun p hp => ?_)
 simp only [Function.comp, rowOf]
 rw [mget_mem h p hp]; rfl
theorem sumM_put (k v : Int) : ∀ m : List (Int × Int), sumM (mput k v m) = sumM m - (mget k m).getD 0 + v
 | [] => by simp [sumM, mput, mget]
 | p :: r => by
  simp only [mput, mget]
  by_cases e : k = p.1
  ·simp [e, sumM]; omega
  ·rw [if_neg e, if_neg e]
   have := sumM_put k v r
   simp only [sumM, List.map_cons, List.sum_cons] at this ⊢
   omega
theorem mput_nn {k v : Int} : ∀ {m : List (Int × Int)}, (∀ p ∈ m, 0 ≤ p.2) → 0 ≤ v → ∀ p ∈ mput k v m, 0 ≤ p.2
 | [], _, hv, p, hp => by simp [mput] at hp; subst hp; exact hv
 | q :: r, h, hv, p, hp => by
  simp only [mput] at hp
  split at hp
  ·rcases List.mem_cons.1 hp with rfl | hp
   ·exact hv
   ·exact h p (by simp [hp])
  ·rcases List.mem_cons.1 hp with rfl | hp
   ·exact h p (by simp)
   ·exact mput_nn (fun x hx => h x (by simp [hx])) hv p hp
theorem sumM_ge {k : Int} : ∀ {m : List (Int × Int)}, (∀ p ∈ m, 0 ≤ p.2) → 0 ≤ (mget k m).getD 0 ∧ (mget k m).getD 0 ≤ sumM m
 | [], _ => by simp [mget, sumM]
 | q :: r, h => by
  have ih := sumM_ge (k := k) (m := r) (fun x hx => h x (by simp [hx]))
  have h0 := h q (by simp)
  have hs : sumM (q :: r) = q.2 + sumM r := by simp [sumM]
  rw [hs]
  simp only [mget]
  split
  ·simp; omega
  ·omega
theorem shM_sum (l : List api_Hop) : ∀ n, n ≤ l.length → sumN lenH l n ≤ 1000000000000 → (∀ p ∈ shM l n, 0 ≤ p.2) ∧ sumM (shM l n) = sumN lenH l n
 | 0, _, _ => ⟨by simp [shM], rfl⟩
 | n + 1, hn, hb => by
  have hy : l[n]? = some l[n] := List.getElem?_eq_getElem (by omega)
  rw [sumN_step hy] at hb ⊢
  have hr := lenH_rng l[n]
  obtain ⟨h1, h2⟩ := shM_sum l n (by omega) (by omega)
  simp only [shM, hy]
  split
  ·have hg := sumM_ge (k := l[n].fThread) h1
   rw [w64_of (by omega)]
   exact ⟨mput_nn h1 (by omega), by rw [sumM_put]; omega⟩
  ·exact ⟨h1, by omega⟩
theorem criticalCovers_holds (t : api_Trace) (a : Int) (p : api_Span) (h : okr_api_Trace t) : tracebooklaw48_CriticalCovers t a p = some true := by
 have hz := siz48 h
 have : Ok (tracebooklaw48_CriticalCovers t a p) (fun b => b = true) := by
  unfold tracebooklaw48_CriticalCovers
  rw [awake48]
  simp only [Option.bind_some]
  refine ok_bind (few48 t) (fun b hb => ?_)
  refine ok_not (fun _ => ok_some rfl) (fun e => ?_)
  obtain ⟨ht, _⟩ := hb e
  obtain ⟨r, hr, hP⟩ := critical_Path_gen t a p hz ht
  rw [hr, Option.bind_some]
  refine ok_nite (fun e2 => ?_) (fun e2 => ?_)
  ·rw [Path_nil hr e2]
   exact ok_some rfl
  ·obtain ⟨hg, hc, H⟩ := hP e2
   have hst := states_rng hz.st (trace_Check_state t hz ht (check_trace hz ht hc))
   have hl := H.len
   have htot := path_total H
   have hrg : ∀ y ∈ r.1, 0 ≤ y.fState ∧ y.fState ≤ 5 := by
    intro y hy
    obtain ⟨j, hj⟩ := List.getElem?_of_mem hy
    obtain ⟨k, s, h1, _, h3, _⟩ := (H.all j y hj).s
    have := hst s (List.mem_of_getElem? h1)
    omega
   have hthr : ∀ y ∈ r.1, inI .i64 y.fThread := by
    intro y hy
    obtain ⟨j, hj⟩ := List.getElem?_of_mem hy
    obtain ⟨k, s, h1, h2, _, _⟩ := (H.all j y hj).s
    simp only [atB, decide_eq_true_eq] at h2
    have := (h.2.2.2.2.1.2 s (List.mem_of_getElem? h1)).1
    rw [h2.1] at this; exact this
   obtain ⟨l0, e0⟩ := r
   simp only at hr e2 H hl htot hrg hthr ⊢
   obtain ⟨q3, c3, d3⟩ := covers_L3 (e := e0) H
   obtain ⟨q2, c2, d2⟩ := covers_L2 (l := l0) (e := e0) hl
   have hk := shM_keys l0 l0.length
   obtain ⟨q1, c1, d1⟩ := covers_L1 (rowsOf (shM l0 l0.length)) (by rw [rowsOf_len]; omega)
   rw [c3, d3]
   simp only [Option.bind_some]
   rw [c2, Shares_p l0 hl hthr]
   simp only [Option.bind_some]
   rw [c1]
   simp only [Option.bind_some]
   have hp0 := H.pos
   have hfin : l0[l0.length - 1]? = some l0[l0.length - 1] := List.getElem?_eq_getElem (by have := H.pos; omega)
   have hv := (H.all _ _ hfin).v
   have hto := (H.lst _ hfin).1
   have hst0 : l0[0]? = some l0[0] := List.getElem?_eq_getElem (by have := H.pos; omega)
   have hv0 := (H.all _ _ hst0).v
   have hfr := H.fst _ hst0
   have hb : sumN lenH l0 l0.length ≤ 1000000000000 := by omega
   have e1 : q1 = q2 := by rw [d1, d2, rows_sum hk.1, (shM_sum l0 l0.length (by omega) hb).2, sumK_eq hrg]
   have e3 : q2 = w64 (p.fTo - p.fFrom) := by rw [d2, sumK_eq hrg, htot]
   simp only [e1, e3, decide_true, cond_true, Option.bind_some]
   exact ok_some rfl
 obtain ⟨r, h1, h2⟩ := this
 rw [h1, h2]
end Go.VM
