/- The law holds: plain mathematics on what the functions compute. -/
import Derived.Test.YtdpnoiebfagmfaaGreatL48rB
namespace Go.VM
def firstL {α ρ : Type} (g : Nat → α → Option ρ) : List α → Nat → Option ρ
 | [], _ => none
 | y :: ys, i => match g i y with
  | some r => some r
  | none => firstL g ys (i + 1)
theorem firstL_find {α ρ : Type} (p : α → Bool) (f : α → ρ) : ∀ (xs : List α) (i : Nat), firstL (fun _ y => if p y = true then some (f y) else none) xs i = (xs.find? p).map f
 | [], _ => rfl
 | y :: ys, i => by
  simp only [firstL, List.find?_cons]
  cases h : p y with
  | true => simp
  | false => simp [firstL_find p f ys]
theorem firstL_none {α ρ : Type} {g : Nat → α → Option ρ} : ∀ {xs : List α} {i : Nat}, firstL g xs i = none ↔ ∀ j y, xs[j]? = some y → g (i + j) y = none
 | [], i => by simp [firstL]
 | y :: ys, i => by
  simp only [firstL]
  cases h : g i y with
  | some r =>
   simp only [reduceCtorEq, false_iff]
   intro hx
   have := hx 0 y rfl
   rw [Nat.add_zero, h] at this; simp at this
  | none =>
   rw [firstL_none (xs := ys) (i := i + 1)]
   constructor
   ·intro hx j y' hj
    cases j with
    | zero => simp at hj; subst hj; exact h
    | succ j => have := hx j y' (by simpa using hj); rwa [show i + 1 + j = i + (j + 1) from by omega] at this
   ·intro hx j y' hj
    have := hx (j + 1) y' (by simpa using hj)
    rwa [show i + (j + 1) = i + 1 + j from by omega] at this
theorem forL_first {α ρ : Type} (g : Nat → α → Option ρ) (e : ρ) : ∀ (xs : List α) (i : Nat), forL (fun i y (_ : Unit) => match g i y with | some r => Sum.inr r | none => .inl ()) (fun _ => e) xs i () = (firstL g xs i).getD e
 | [], _ => rfl
 | y :: ys, i => by
  simp only [forL, firstL]
  cases g i y with
  | some r => rfl
  | none => exact forL_first g e ys (i + 1)
theorem loop_first {α ρ : Type} {step : Int → Option (Int ⊕ ρ)} (xs : List α) (g : Nat → α → Option ρ) (e : ρ) (hl : xs.length < manyRounds)
  (h1 : ∀ (i : Nat) y, xs[i]? = some y → step (i : Int) = some (match g i y with | some r => .inr r | none => .inl ((i : Int) + 1))) (h2 : step (xs.length : Int) = some (.inr e)) : loop step 0 = some ((firstL g xs 0).getD e) := by
 have := loop_for0 (σ := Unit) (step := step) xs (fun i _ => (i : Int)) (fun i y _ => match g i y with | some r => .inr r | none => .inl ()) (fun _ => e) hl
  (fun i y s hy => by
   rw [h1 i y hy]
   cases g i y <;> simp)
  (fun _ => h2) ()
 rw [show (0 : Int) = ((0 : Nat) : Int) from rfl, this, forL_first]
theorem lt_of_get {α : Type} {xs : List α} {i : Nat} {y : α} (h : xs[i]? = some y) : i < xs.length := (List.getElem?_eq_some_iff.1 h).1
theorem w64_nat {i : Nat} (h : i < 9223372036854775807) : w64 ((i : Int) + 1) = (i : Int) + 1 := w64_of (by omega)
end Go.VM
namespace Go.VM
def Ok {α : Type} (x : Option α) (P : α → Prop) : Prop := ∃ r, x = some r ∧ P r
def Yes {α : Type} : α → Prop := fun _ => True
def InlR {α β : Type} (A : α → Prop) (B : β → Prop) : α ⊕ β → Prop
 | .inl a => A a
 | .inr b => B b
theorem ok_some {α : Type} {P : α → Prop} {r : α} (h : P r) : Ok (some r) P := ⟨r, rfl, h⟩
theorem ok_inl {α β : Type} {A : α → Prop} {B : β → Prop} {a : α} (h : A a) : Ok (some (.inl a)) (InlR A B) := ⟨_, rfl, h⟩
theorem ok_inr {α β : Type} {A : α → Prop} {B : β → Prop} {b : β} (h : B b) : Ok (some (.inr b)) (InlR A B) := ⟨_, rfl, h⟩
theorem ok_bind {α β : Type} {x : Option α} {f : α → Option β} {Q : α → Prop} {P : β → Prop} (hx : Ok x Q) (hf : ∀ r, Q r → Ok (f r) P) : Ok (x.bind f) P := by
 obtain ⟨r, h1, h2⟩ := hx
 subst h1; exact hf r h2
theorem ok_bindS {α β γ : Type} {x : Option (α ⊕ γ)} {f : α ⊕ γ → Option β} {Q : α ⊕ γ → Prop} {P : β → Prop} (hx : Ok x Q) (hf : ∀ r, Q (.inl r) → Ok (f (.inl r)) P) (hg : ∀ r, Q (.inr r) → Ok (f (.inr r)) P) : Ok (x.bind f) P :=
 ok_bind hx (fun r => match r with | .inl a => hf a | .inr b => hg b)
theorem ok_bindE {α β : Type} {x : Option α} {f : α → Option β} {P : β → Prop} (hx : Ok x Yes) (hf : ∀ r, x = some r → Ok (f r) P) : Ok (x.bind f) P := by
 obtain ⟨r, h1, h2⟩ := hx
 subst h1; exact hf r rfl
theorem ok_cond {α : Type} {b : Bool} {x y : Option α} {P : α → Prop} (h1 : b = true → Ok x P) (h2 : b = false → Ok y P) : Ok (cond b x y) P := by
 cases b
 ·exact h2 rfl
 ·exact h1 rfl
theorem Ok.mono {α : Type} {x : Option α} {P Q : α → Prop} (h : Ok x P) (hq : ∀ r, P r → Q r) : Ok x Q := by
 obtain ⟨r, h1, h2⟩ := h; exact ⟨r, h1, hq r h2⟩
theorem Ok.yes {α : Type} {x : Option α} {P : α → Prop} (h : Ok x P) : Ok x Yes := h.mono (fun _ _ => trivial)
theorem Ok.of_eq {α : Type} {x : Option α} {P : α → Prop} {r : α} (h : Ok x P) (e : x = some r) : P r := by
 obtain ⟨r', h1, h2⟩ := h; rw [e] at h1; cases h1; exact h2
theorem ok_idx {α : Type} {xs : List α} {i : Int} (h1 : 0 ≤ i) (h2 : i < xs.length) : Ok (idx xs i) (fun y => xs[i.toNat]? = some y) := by
 obtain ⟨n, rfl⟩ := Int.eq_ofNat_of_zero_le h1
 have h3 : n < xs.length := by omega
 rw [idx_nat]
 exact ⟨xs[n], by simp [h3], by simp [h3]⟩
theorem ok_loop {S ρ : Type} {step : S → Option (S ⊕ ρ)} (Inv : S → Prop) (m : S → Nat) {Post : ρ → Prop}
  (h : ∀ s, Inv s → Ok (step s) (InlR (fun s' => Inv s' ∧ m s' < m s) Post)) {s : S} (hs : Inv s) (hm : m s < manyRounds) : Ok (loop step s) Post := by
 refine loop_inv Inv m Post (fun s hs => ?_) hs hm
 obtain ⟨r, h1, h2⟩ := h s hs
 cases r with
 | inl a => exact Or.inl ⟨a, h1, h2⟩
 | inr b => exact Or.inr ⟨b, h1, h2⟩
theorem ok_up {ρ : Type} {step : Int → Option (Int ⊕ ρ)} (n : Nat) {Post : ρ → Prop} (hn : n ≤ 9223372036854775807)
  (h : ∀ i : Int, 0 ≤ i → i ≤ n → Ok (step i) (InlR (fun a => i < n ∧ a = i + 1) Post)) : Ok (loop step 0) Post := by
 refine ok_loop (fun i : Int => 0 ≤ i ∧ i ≤ (n : Int)) (fun i : Int => ((n : Int) - i).toNat) (fun i hi => (h i hi.1 hi.2).mono ?_) ⟨by omega, by omega⟩ (by simp [manyRounds]; omega)
 rintro (a | b) hr
 ·obtain ⟨h1, rfl⟩ : i < n ∧ a = i + 1 := hr
  exact ⟨⟨by omega, by omega⟩, by omega⟩
 ·exact hr
theorem ok_yes {α : Type} {r : α} : Ok (some r) Yes := ⟨r, rfl, trivial⟩
theorem ok_inlY {α β : Type} {B : β → Prop} {a : α} : Ok (some (.inl a)) (InlR Yes B) := ⟨_, rfl, trivial⟩
theorem ok_inrY {α β : Type} {A : α → Prop} {b : β} : Ok (some (.inr b)) (InlR A Yes) := ⟨_, rfl, trivial⟩
theorem ok_next {ρ : Type} {i : Int} {n : Nat} {P : ρ → Prop} (h1 : 0 ≤ i) (h2 : i < (n : Int)) (h3 : n ≤ 9223372036854775807) : Ok (some (.inl (w64 (i + 1)))) (InlR (fun a : Int => i < (n : Int) ∧ a = i + 1) P) :=
 ok_inl ⟨h2, w64_of (by omega)⟩
theorem ok_ite {α : Type} {p : Prop} [Decidable p] {x y : Option α} {P : α → Prop} (h1 : p → Ok x P) (h2 : ¬p → Ok y P) : Ok (cond (decide p) x y) P :=
 ok_cond (fun h => h1 (of_decide_eq_true h)) (fun h => h2 (of_decide_eq_false h))
theorem ok_nite {α : Type} {p : Prop} [Decidable p] {x y : Option α} {P : α → Prop} (h1 : ¬p → Ok x P) (h2 : p → Ok y P) : Ok (cond (!decide p) x y) P := by
 by_cases h : p
 ·simpa [h] using h2 h
 ·simpa [h] using h1 h
theorem ok_not {α : Type} {b : Bool} {x y : Option α} {P : α → Prop} (h1 : b = false → Ok x P) (h2 : b = true → Ok y P) : Ok (cond (!b) x y) P := by
 cases b
 ·exact h1 rfl
 ·exact h2 rfl
abbrev Tot {α : Type} (x : Option α) : Prop := Ok x Yes
theorem ok_up2 {σ ρ : Type} {step : σ × Int → Option ((σ × Int) ⊕ ρ)} (n : Nat) (Inv : σ → Int → Prop) {Post : ρ → Prop} (hn : n ≤ 9223372036854775807) {s0 : σ} (h0 : Inv s0 0)
  (h : ∀ (s : σ) (i : Int), Inv s i → 0 ≤ i → i ≤ n → Ok (step (s, i)) (InlR (fun a => i < n ∧ a.2 = i + 1 ∧ Inv a.1 (i + 1)) Post)) : Ok (loop step (s0, 0)) Post := by
 refine ok_loop (fun s : σ × Int => Inv s.1 s.2 ∧ 0 ≤ s.2 ∧ s.2 ≤ (n : Int)) (fun s : σ × Int => ((n : Int) - s.2).toNat) (fun s hi => (h s.1 s.2 hi.1 hi.2.1 hi.2.2).mono ?_) ⟨h0, by simp, by simp⟩ (by simp [manyRounds]; omega)
 rintro (⟨a, j⟩ | b) hr
 ·obtain ⟨h1, h2, h3⟩ : s.2 < n ∧ j = s.2 + 1 ∧ Inv a (s.2 + 1) := hr
  subst h2
  exact ⟨⟨h3, by simp; omega, by simp; omega⟩, by simp; omega⟩
 ·exact hr
theorem ok_next2 {σ ρ : Type} {s : σ} {i : Int} {n : Nat} {Inv : σ → Int → Prop} {P : ρ → Prop} (hI : Inv s (i + 1)) (h1 : 0 ≤ i) (h2 : i < (n : Int)) (h3 : n ≤ 9223372036854775807) : Ok (some (.inl (s, w64 (i + 1)))) (InlR (fun a : σ × Int => i < (n : Int) ∧ a.2 = i + 1 ∧ Inv a.1 (i + 1)) P) :=
 ok_inl ⟨h2, w64_of (by omega), hI⟩
theorem ok_upI {ρ : Type} {step : Int → Option (Int ⊕ ρ)} (n : Nat) (Inv : Int → Prop) {Post : ρ → Prop} (hn : n ≤ 9223372036854775807) (h0 : Inv 0)
  (h : ∀ i : Int, Inv i → 0 ≤ i → i ≤ n → Ok (step i) (InlR (fun a => i < n ∧ a = i + 1 ∧ Inv (i + 1)) Post)) : Ok (loop step 0) Post := by
 refine ok_loop (fun i : Int => Inv i ∧ 0 ≤ i ∧ i ≤ (n : Int)) (fun i : Int => ((n : Int) - i).toNat) (fun i hi => (h i hi.1 hi.2.1 hi.2.2).mono ?_) ⟨h0, by omega, by omega⟩ (by simp [manyRounds]; omega)
 rintro (a | b) hr
 ·obtain ⟨h1, rfl, h3⟩ : i < n ∧ a = i + 1 ∧ Inv (i + 1) := hr
  exact ⟨⟨h3, by omega, by omega⟩, by omega⟩
 ·exact hr
theorem ok_nextI {ρ : Type} {i : Int} {n : Nat} {Inv : Int → Prop} {P : ρ → Prop} (hI : Inv (i + 1)) (h1 : 0 ≤ i) (h2 : i < (n : Int)) (h3 : n ≤ 9223372036854775807) : Ok (some (.inl (w64 (i + 1)))) (InlR (fun a : Int => i < (n : Int) ∧ a = i + 1 ∧ Inv (i + 1)) P) :=
 ok_inl ⟨h2, w64_of (by omega), hI⟩
theorem room_ok {b n : Nat} (h1 : n * b ≤ 140737488355328) (h2 : n ≤ 9223372036854775807) : room b n = true := by
 simp only [room, Bool.and_eq_true]
 exact ⟨Nat.ble_eq_true_of_le h1, Nat.ble_eq_true_of_le h2⟩
theorem spans_Valid_eq (s : api_Span) : spans_Valid s = some (decide (0 ≤ s.fFrom ∧ s.fFrom < s.fTo ∧ s.fTo ≤ 1000000000000)) := by
 unfold spans_Valid
 by_cases h1 : 0 ≤ s.fFrom <;> by_cases h2 : s.fFrom < s.fTo <;> by_cases h3 : s.fTo ≤ 1000000000000 <;> simp [h1, h2, h3]
def zeroState : api_State := { fThread := 0, fState := 0, fSpan := { fFrom := 0, fTo := 0 }, fCpu := 0, fOn := 0, fBy := 0 }
def atB (th t : Int) (s : api_State) : Bool := decide (s.fThread = th ∧ s.fSpan.fFrom ≤ t ∧ t < s.fSpan.fTo)
def stAt (l : List api_State) (th t : Int) : api_State × Bool := match l.find? (atB th t) with
 | some s => (s, true)
 | none => (zeroState, false)
theorem state_At_eq (l : List api_State) (th t : Int) (hl : l.length ≤ 9223372036854775807) : state_At l th t = some (stAt l th t) := by
 unfold state_At
 rw [loop_first l (fun _ y => if atB th t y = true then some (.inr (y, true)) else none) (.inl ()) (by simp [manyRounds]; omega) ?_ ?_, firstL_find]
 ·unfold stAt
  cases l.find? (atB th t) <;> simp [zeroState]
 ·intro i y hy
  have hi := lt_of_get hy
  have h1 : (i : Int) < l.length := by omega
  simp only [state_At_L1, h1, decide_true, cond_true, idx_nat, hy, Option.bind_some]
  have hw := w64_nat (i := i) (by omega)
  by_cases a : y.fThread = th <;> by_cases b : y.fSpan.fFrom ≤ t <;> by_cases c : t < y.fSpan.fTo <;> simp [a, b, c, atB, hw]
 ·simp [state_At_L1]
theorem intern_letter_ok (c : Int) : Ok (intern_letter c) Yes := by
 unfold intern_letter strings_IndexByte internal_stringslite_IndexByte
 repeat' (first | (with_reducible first | exact ok_yes | exact ok_inrY | exact ok_inlY | refine ok_nite (fun _ => ?_) fun _ => ?_ | refine ok_ite (fun _ => ?_) fun _ => ?_ | refine ok_not (fun _ => ?_) fun _ => ?_ | refine ok_cond (fun _ => ?_) fun _ => ?_) | (with_reducible refine ok_next ?_ ?_ ?_ <;> (first | assumption | omega | rw [w64_of] <;> omega)) | with_reducible refine ok_bind (ok_idx (by (first | assumption | omega | rw [w64_of] <;> omega)) (by (first | assumption | omega | rw [w64_of] <;> omega))) (fun _ _ => ?_) | (with_reducible refine ok_bind (Q := Yes) ?_ fun _ _ => ?_) | dsimp only)
theorem intern_Name_ok (s : ByteArray) (h : s.size ≤ 9223372036854775807) : Ok (intern_Name s) Yes := by
 unfold intern_Name
 refine ok_bind (Q := Yes) ?_ (fun v _ => ?_)
 ·repeat' (first | (with_reducible first | exact ok_yes | exact ok_inrY | exact ok_inlY | refine ok_nite (fun _ => ?_) fun _ => ?_ | refine ok_ite (fun _ => ?_) fun _ => ?_ | refine ok_not (fun _ => ?_) fun _ => ?_ | refine ok_cond (fun _ => ?_) fun _ => ?_) | (with_reducible refine ok_next ?_ ?_ ?_ <;> (first | assumption | omega | rw [w64_of] <;> omega)) | with_reducible refine ok_bind (ok_idx (by (first | assumption | omega | rw [w64_of] <;> omega)) (by (first | assumption | omega | rw [w64_of] <;> omega))) (fun _ _ => ?_) | (with_reducible refine ok_bind (Q := Yes) ?_ fun _ _ => ?_) | dsimp only)
 refine ok_cond (fun _ => ok_some trivial) (fun _ => ?_)
 have e : s.data.toList.length = s.size := by rw [Array.length_toList]; rfl
 refine ok_bindS (Q := Yes) (ok_up s.size h fun i h1 h2 => ?_) (fun _ _ => ?_) (fun _ _ => ?_)
 ·unfold intern_Name_L1
  repeat' (first | (with_reducible first | exact ok_yes | exact ok_inrY | exact ok_inlY | refine ok_nite (fun _ => ?_) fun _ => ?_ | refine ok_ite (fun _ => ?_) fun _ => ?_ | refine ok_not (fun _ => ?_) fun _ => ?_ | refine ok_cond (fun _ => ?_) fun _ => ?_) | (with_reducible refine ok_next ?_ ?_ ?_ <;> (first | assumption | omega | rw [w64_of] <;> omega)) | with_reducible refine ok_bind (ok_idx (by (first | assumption | omega | rw [w64_of] <;> omega)) (by (first | assumption | omega | rw [w64_of] <;> omega))) (fun _ _ => ?_) | (with_reducible refine Ok.yes (ok_idx ?_ (by rw [e]; (first | assumption | omega | rw [w64_of] <;> omega))) <;> (first | assumption | omega | rw [w64_of] <;> omega)) | (with_reducible refine Ok.yes (intern_letter_ok _) <;> (first | assumption | omega | rw [w64_of] <;> omega)) | (with_reducible refine ok_bind (Q := Yes) ?_ fun _ _ => ?_) | dsimp only)
 ·repeat' (first | (with_reducible first | exact ok_yes | exact ok_inrY | exact ok_inlY | refine ok_nite (fun _ => ?_) fun _ => ?_ | refine ok_ite (fun _ => ?_) fun _ => ?_ | refine ok_not (fun _ => ?_) fun _ => ?_ | refine ok_cond (fun _ => ?_) fun _ => ?_) | (with_reducible refine ok_next ?_ ?_ ?_ <;> (first | assumption | omega | rw [w64_of] <;> omega)) | with_reducible refine ok_bind (ok_idx (by (first | assumption | omega | rw [w64_of] <;> omega)) (by (first | assumption | omega | rw [w64_of] <;> omega))) (fun _ _ => ?_) | (with_reducible refine ok_bind (Q := Yes) ?_ fun _ _ => ?_) | dsimp only)
 ·repeat' (first | (with_reducible first | exact ok_yes | exact ok_inrY | exact ok_inlY | refine ok_nite (fun _ => ?_) fun _ => ?_ | refine ok_ite (fun _ => ?_) fun _ => ?_ | refine ok_not (fun _ => ?_) fun _ => ?_ | refine ok_cond (fun _ => ?_) fun _ => ?_) | (with_reducible refine ok_next ?_ ?_ ?_ <;> (first | assumption | omega | rw [w64_of] <;> omega)) | with_reducible refine ok_bind (ok_idx (by (first | assumption | omega | rw [w64_of] <;> omega)) (by (first | assumption | omega | rw [w64_of] <;> omega))) (fun _ _ => ?_) | (with_reducible refine ok_bind (Q := Yes) ?_ fun _ _ => ?_) | dsimp only)
abbrev okN (s : ByteArray) : Prop := s.size ≤ 9223372036854775807
theorem producer_Thread_ok (t : api_Thread) (h : okN t.fName) : Ok (producer_Thread t) Yes := by
 unfold producer_Thread
 repeat' (first | (with_reducible first | exact ok_yes | exact ok_inrY | exact ok_inlY | refine ok_nite (fun _ => ?_) fun _ => ?_ | refine ok_ite (fun _ => ?_) fun _ => ?_ | refine ok_not (fun _ => ?_) fun _ => ?_ | refine ok_cond (fun _ => ?_) fun _ => ?_) | (with_reducible refine ok_next ?_ ?_ ?_ <;> (first | assumption | omega | rw [w64_of] <;> omega)) | with_reducible refine ok_bind (ok_idx (by (first | assumption | omega | rw [w64_of] <;> omega)) (by (first | assumption | omega | rw [w64_of] <;> omega))) (fun _ _ => ?_) | (with_reducible refine Ok.yes (intern_Name_ok _ h) <;> (first | assumption | omega | rw [w64_of] <;> omega)) | (with_reducible refine ok_bind (Q := Yes) ?_ fun _ _ => ?_) | dsimp only)
theorem spans_Valid_ok (s : api_Span) : Ok (spans_Valid s) Yes := by
 unfold spans_Valid
 repeat' (first | (with_reducible first | exact ok_yes | exact ok_inrY | exact ok_inlY | refine ok_nite (fun _ => ?_) fun _ => ?_ | refine ok_ite (fun _ => ?_) fun _ => ?_ | refine ok_not (fun _ => ?_) fun _ => ?_ | refine ok_cond (fun _ => ?_) fun _ => ?_) | (with_reducible refine ok_next ?_ ?_ ?_ <;> (first | assumption | omega | rw [w64_of] <;> omega)) | with_reducible refine ok_bind (ok_idx (by (first | assumption | omega | rw [w64_of] <;> omega)) (by (first | assumption | omega | rw [w64_of] <;> omega))) (fun _ _ => ?_) | (with_reducible refine ok_bind (Q := Yes) ?_ fun _ _ => ?_) | dsimp only)
theorem cmp_Compare_int_ok (a b : Int) : Ok (cmp_Compare_int a b) Yes := by
 unfold cmp_Compare_int cmp_isNaN_int
 repeat' (first | (with_reducible first | exact ok_yes | exact ok_inrY | exact ok_inlY | refine ok_nite (fun _ => ?_) fun _ => ?_ | refine ok_ite (fun _ => ?_) fun _ => ?_ | refine ok_not (fun _ => ?_) fun _ => ?_ | refine ok_cond (fun _ => ?_) fun _ => ?_) | (with_reducible refine ok_next ?_ ?_ ?_ <;> (first | assumption | omega | rw [w64_of] <;> omega)) | with_reducible refine ok_bind (ok_idx (by (first | assumption | omega | rw [w64_of] <;> omega)) (by (first | assumption | omega | rw [w64_of] <;> omega))) (fun _ _ => ?_) | (with_reducible refine ok_bind (Q := Yes) ?_ fun _ _ => ?_) | dsimp only)
theorem cmp_Or_int_ok (l : List Int) (h : l.length ≤ 9223372036854775807) : Ok (cmp_Or_int l) Yes := by
 unfold cmp_Or_int
 refine ok_bindS (Q := Yes) (ok_up l.length (by omega) fun i h1 h2 => ?_) (fun _ _ => ?_) (fun _ _ => ?_)
 ·unfold cmp_Or_int_L1
  repeat' (first | (with_reducible first | exact ok_yes | exact ok_inrY | exact ok_inlY | refine ok_nite (fun _ => ?_) fun _ => ?_ | refine ok_ite (fun _ => ?_) fun _ => ?_ | refine ok_not (fun _ => ?_) fun _ => ?_ | refine ok_cond (fun _ => ?_) fun _ => ?_) | (with_reducible refine ok_next ?_ ?_ ?_ <;> (first | assumption | omega | rw [w64_of] <;> omega)) | with_reducible refine ok_bind (ok_idx (by (first | assumption | omega | rw [w64_of] <;> omega)) (by (first | assumption | omega | rw [w64_of] <;> omega))) (fun _ _ => ?_) | (with_reducible refine ok_bind (Q := Yes) ?_ fun _ _ => ?_) | dsimp only)
 ·repeat' (first | (with_reducible first | exact ok_yes | exact ok_inrY | exact ok_inlY | refine ok_nite (fun _ => ?_) fun _ => ?_ | refine ok_ite (fun _ => ?_) fun _ => ?_ | refine ok_not (fun _ => ?_) fun _ => ?_ | refine ok_cond (fun _ => ?_) fun _ => ?_) | (with_reducible refine ok_next ?_ ?_ ?_ <;> (first | assumption | omega | rw [w64_of] <;> omega)) | with_reducible refine ok_bind (ok_idx (by (first | assumption | omega | rw [w64_of] <;> omega)) (by (first | assumption | omega | rw [w64_of] <;> omega))) (fun _ _ => ?_) | (with_reducible refine ok_bind (Q := Yes) ?_ fun _ _ => ?_) | dsimp only)
 ·repeat' (first | (with_reducible first | exact ok_yes | exact ok_inrY | exact ok_inlY | refine ok_nite (fun _ => ?_) fun _ => ?_ | refine ok_ite (fun _ => ?_) fun _ => ?_ | refine ok_not (fun _ => ?_) fun _ => ?_ | refine ok_cond (fun _ => ?_) fun _ => ?_) | (with_reducible refine ok_next ?_ ?_ ?_ <;> (first | assumption | omega | rw [w64_of] <;> omega)) | with_reducible refine ok_bind (ok_idx (by (first | assumption | omega | rw [w64_of] <;> omega)) (by (first | assumption | omega | rw [w64_of] <;> omega))) (fun _ _ => ?_) | (with_reducible refine ok_bind (Q := Yes) ?_ fun _ _ => ?_) | dsimp only)
theorem slice_compare_ok (a b : api_Slice) : Ok (slice_compare a b) Yes := by
 unfold slice_compare
 repeat' (first | (with_reducible first | exact ok_yes | exact ok_inrY | exact ok_inlY | refine ok_nite (fun _ => ?_) fun _ => ?_ | refine ok_ite (fun _ => ?_) fun _ => ?_ | refine ok_not (fun _ => ?_) fun _ => ?_ | refine ok_cond (fun _ => ?_) fun _ => ?_) | (with_reducible refine ok_next ?_ ?_ ?_ <;> (first | assumption | omega | rw [w64_of] <;> omega)) | with_reducible refine ok_bind (ok_idx (by (first | assumption | omega | rw [w64_of] <;> omega)) (by (first | assumption | omega | rw [w64_of] <;> omega))) (fun _ _ => ?_) | (with_reducible refine Ok.yes (cmp_Compare_int_ok _ _) <;> (first | assumption | omega | rw [w64_of] <;> omega)) | (with_reducible refine Ok.yes (cmp_Or_int_ok _ (Nat.le_of_ble_eq_true rfl)) <;> (first | assumption | omega | rw [w64_of] <;> omega)) | (with_reducible refine ok_bind (Q := Yes) ?_ fun _ _ => ?_) | dsimp only)
theorem intern_Frames_ok (l : List ByteArray) (h : l.length ≤ 9223372036854775807) (hx : ∀ x ∈ l, okN x) : Ok (intern_Frames l) Yes := by
 unfold intern_Frames
 refine ok_ite (fun _ => ok_yes) (fun _ => ?_)
 refine ok_bindS (Q := Yes) (ok_up l.length (by omega) fun i h1 h2 => ?_) (fun _ _ => ?_) (fun _ _ => ?_)
 ·unfold intern_Frames_L1
  repeat' (first | (with_reducible first | exact ok_yes | exact ok_inrY | exact ok_inlY | refine ok_nite (fun _ => ?_) fun _ => ?_ | refine ok_ite (fun _ => ?_) fun _ => ?_ | refine ok_not (fun _ => ?_) fun _ => ?_ | refine ok_cond (fun _ => ?_) fun _ => ?_) | (with_reducible refine ok_next ?_ ?_ ?_ <;> (first | assumption | omega | rw [w64_of] <;> omega)) | with_reducible refine ok_bind (ok_idx (by (first | assumption | omega | rw [w64_of] <;> omega)) (by (first | assumption | omega | rw [w64_of] <;> omega))) (fun _ _ => ?_) | (with_reducible refine Ok.yes (intern_Name_ok _ (hx _ (List.mem_of_getElem? (by assumption)))) <;> (first | assumption | omega | rw [w64_of] <;> omega)) | (with_reducible refine ok_bind (Q := Yes) ?_ fun _ _ => ?_) | dsimp only)
 ·repeat' (first | (with_reducible first | exact ok_yes | exact ok_inrY | exact ok_inlY | refine ok_nite (fun _ => ?_) fun _ => ?_ | refine ok_ite (fun _ => ?_) fun _ => ?_ | refine ok_not (fun _ => ?_) fun _ => ?_ | refine ok_cond (fun _ => ?_) fun _ => ?_) | (with_reducible refine ok_next ?_ ?_ ?_ <;> (first | assumption | omega | rw [w64_of] <;> omega)) | with_reducible refine ok_bind (ok_idx (by (first | assumption | omega | rw [w64_of] <;> omega)) (by (first | assumption | omega | rw [w64_of] <;> omega))) (fun _ _ => ?_) | (with_reducible refine Ok.yes (intern_Name_ok _ (hx _ (List.mem_of_getElem? (by assumption)))) <;> (first | assumption | omega | rw [w64_of] <;> omega)) | (with_reducible refine ok_bind (Q := Yes) ?_ fun _ _ => ?_) | dsimp only)
 ·repeat' (first | (with_reducible first | exact ok_yes | exact ok_inrY | exact ok_inlY | refine ok_nite (fun _ => ?_) fun _ => ?_ | refine ok_ite (fun _ => ?_) fun _ => ?_ | refine ok_not (fun _ => ?_) fun _ => ?_ | refine ok_cond (fun _ => ?_) fun _ => ?_) | (with_reducible refine ok_next ?_ ?_ ?_ <;> (first | assumption | omega | rw [w64_of] <;> omega)) | with_reducible refine ok_bind (ok_idx (by (first | assumption | omega | rw [w64_of] <;> omega)) (by (first | assumption | omega | rw [w64_of] <;> omega))) (fun _ _ => ?_) | (with_reducible refine Ok.yes (intern_Name_ok _ (hx _ (List.mem_of_getElem? (by assumption)))) <;> (first | assumption | omega | rw [w64_of] <;> omega)) | (with_reducible refine ok_bind (Q := Yes) ?_ fun _ _ => ?_) | dsimp only)
structure Siz (t : api_Trace) : Prop where
 th : t.fThreads.length ≤ 9223372036854775807
 sl : t.fSlices.length ≤ 9223372036854775807
 st : t.fStates.length ≤ 9223372036854775807
 fl : t.fFlows.length ≤ 9223372036854775807
 sa : t.fSamples.length ≤ 9223372036854775807
 sp : t.fSteps.length ≤ 9223372036854775807
 bl : t.fBlocks.length ≤ 9223372036854775807
 lo : t.fLost.length ≤ 9223372036854775807
 nTh : ∀ x ∈ t.fThreads, okN x.fName
 nSl : ∀ x ∈ t.fSlices, okN x.fName
 nSa : ∀ x ∈ t.fSamples, x.fStack.length ≤ 9223372036854775807 ∧ ∀ y ∈ x.fStack, okN y
 nSp : ∀ x ∈ t.fSteps, okN x.fName
 nBl : ∀ x ∈ t.fBlocks, x.fStack.length ≤ 9223372036854775807 ∧ ∀ y ∈ x.fStack, okN y
theorem trace_threads_ok (t : api_Trace) (hl : t.fThreads.length ≤ 9223372036854775807) (hn : ∀ x ∈ t.fThreads, okN x.fName) : Ok (trace_threads t) (InlR (fun r => r.2 ≠ 0) Yes) := by
 unfold trace_threads
 refine ok_ite (fun _ => ok_inl (by simp)) (fun _ => ?_)
 refine ok_bindS (Q := InlR Yes (InlR (fun r => r.2 ≠ 0) Yes)) (ok_up2 t.fThreads.length (fun _ _ => True) hl trivial (fun a i _ h1 h2 => ?_)) (fun _ _ => ?_) (fun r hr => ?_)
 ·unfold trace_threads_L1
  dsimp only
  refine ok_ite (fun h => ?_) (fun _ => ok_inr trivial)
  refine ok_bind (ok_idx h1 h) (fun y hy => ?_)
  refine ok_bind (producer_Thread_ok _ (hn _ (List.mem_of_getElem? hy))) (fun r _ => ?_)
  refine ok_nite (fun h0 => ok_inr h0) (fun _ => ?_)
  refine ok_cond (fun _ => ok_inr (by simp [InlR])) (fun _ => ?_)
  exact ok_next2 (Inv := fun _ _ => True) trivial h1 h hl
 ·exact ok_inr trivial
 ·exact ⟨_, rfl, hr⟩
theorem trace_tables_1_ok (a) : Tot (trace_tables_1 a) := ⟨_, rfl, trivial⟩
theorem trace_known_api_Slice_k1_ok (e : Int) (m) (l : List api_Slice) (h : l.length ≤ 9223372036854775807) : Tot (trace_known_api_Slice_k1 e m l) := by
 unfold trace_known_api_Slice_k1
 refine ok_nite (fun _ => ok_yes) (fun _ => ?_)
 refine ok_bindS (Q := Yes) (ok_up l.length (by omega) fun i h1 h2 => ?_) (fun _ _ => ?_) (fun _ _ => ?_)
 ·unfold trace_known_api_Slice_k1_L1
  repeat' (first | (with_reducible first | exact ok_yes | exact ok_inrY | exact ok_inlY | refine ok_nite (fun _ => ?_) fun _ => ?_ | refine ok_ite (fun _ => ?_) fun _ => ?_ | refine ok_not (fun _ => ?_) fun _ => ?_ | refine ok_cond (fun _ => ?_) fun _ => ?_) | (with_reducible refine ok_next ?_ ?_ ?_ <;> (first | assumption | omega | rw [w64_of] <;> omega)) | with_reducible refine ok_bind (ok_idx (by (first | assumption | omega | rw [w64_of] <;> omega)) (by (first | assumption | omega | rw [w64_of] <;> omega))) (fun _ _ => ?_) | (with_reducible refine Ok.yes (trace_tables_1_ok _) <;> (first | assumption | omega | rw [w64_of] <;> omega)) | (with_reducible refine ok_bind (Q := Yes) ?_ fun _ _ => ?_) | dsimp only)
 ·repeat' (first | (with_reducible first | exact ok_yes | exact ok_inrY | exact ok_inlY | refine ok_nite (fun _ => ?_) fun _ => ?_ | refine ok_ite (fun _ => ?_) fun _ => ?_ | refine ok_not (fun _ => ?_) fun _ => ?_ | refine ok_cond (fun _ => ?_) fun _ => ?_) | (with_reducible refine ok_next ?_ ?_ ?_ <;> (first | assumption | omega | rw [w64_of] <;> omega)) | with_reducible refine ok_bind (ok_idx (by (first | assumption | omega | rw [w64_of] <;> omega)) (by (first | assumption | omega | rw [w64_of] <;> omega))) (fun _ _ => ?_) | (with_reducible refine Ok.yes (trace_tables_1_ok _) <;> (first | assumption | omega | rw [w64_of] <;> omega)) | (with_reducible refine ok_bind (Q := Yes) ?_ fun _ _ => ?_) | dsimp only)
 ·repeat' (first | (with_reducible first | exact ok_yes | exact ok_inrY | exact ok_inlY | refine ok_nite (fun _ => ?_) fun _ => ?_ | refine ok_ite (fun _ => ?_) fun _ => ?_ | refine ok_not (fun _ => ?_) fun _ => ?_ | refine ok_cond (fun _ => ?_) fun _ => ?_) | (with_reducible refine ok_next ?_ ?_ ?_ <;> (first | assumption | omega | rw [w64_of] <;> omega)) | with_reducible refine ok_bind (ok_idx (by (first | assumption | omega | rw [w64_of] <;> omega)) (by (first | assumption | omega | rw [w64_of] <;> omega))) (fun _ _ => ?_) | (with_reducible refine Ok.yes (trace_tables_1_ok _) <;> (first | assumption | omega | rw [w64_of] <;> omega)) | (with_reducible refine ok_bind (Q := Yes) ?_ fun _ _ => ?_) | dsimp only)
theorem trace_tables_2_ok (a) : Tot (trace_tables_2 a) := ⟨_, rfl, trivial⟩
theorem trace_known_api_Flow_k1_ok (e : Int) (m) (l : List api_Flow) (h : l.length ≤ 9223372036854775807) : Tot (trace_known_api_Flow_k1 e m l) := by
 unfold trace_known_api_Flow_k1
 refine ok_nite (fun _ => ok_yes) (fun _ => ?_)
 refine ok_bindS (Q := Yes) (ok_up l.length (by omega) fun i h1 h2 => ?_) (fun _ _ => ?_) (fun _ _ => ?_)
 ·unfold trace_known_api_Flow_k1_L1
  repeat' (first | (with_reducible first | exact ok_yes | exact ok_inrY | exact ok_inlY | refine ok_nite (fun _ => ?_) fun _ => ?_ | refine ok_ite (fun _ => ?_) fun _ => ?_ | refine ok_not (fun _ => ?_) fun _ => ?_ | refine ok_cond (fun _ => ?_) fun _ => ?_) | (with_reducible refine ok_next ?_ ?_ ?_ <;> (first | assumption | omega | rw [w64_of] <;> omega)) | with_reducible refine ok_bind (ok_idx (by (first | assumption | omega | rw [w64_of] <;> omega)) (by (first | assumption | omega | rw [w64_of] <;> omega))) (fun _ _ => ?_) | (with_reducible refine Ok.yes (trace_tables_2_ok _) <;> (first | assumption | omega | rw [w64_of] <;> omega)) | (with_reducible refine ok_bind (Q := Yes) ?_ fun _ _ => ?_) | dsimp only)
 ·repeat' (first | (with_reducible first | exact ok_yes | exact ok_inrY | exact ok_inlY | refine ok_nite (fun _ => ?_) fun _ => ?_ | refine ok_ite (fun _ => ?_) fun _ => ?_ | refine ok_not (fun _ => ?_) fun _ => ?_ | refine ok_cond (fun _ => ?_) fun _ => ?_) | (with_reducible refine ok_next ?_ ?_ ?_ <;> (first | assumption | omega | rw [w64_of] <;> omega)) | with_reducible refine ok_bind (ok_idx (by (first | assumption | omega | rw [w64_of] <;> omega)) (by (first | assumption | omega | rw [w64_of] <;> omega))) (fun _ _ => ?_) | (with_reducible refine Ok.yes (trace_tables_2_ok _) <;> (first | assumption | omega | rw [w64_of] <;> omega)) | (with_reducible refine ok_bind (Q := Yes) ?_ fun _ _ => ?_) | dsimp only)
 ·repeat' (first | (with_reducible first | exact ok_yes | exact ok_inrY | exact ok_inlY | refine ok_nite (fun _ => ?_) fun _ => ?_ | refine ok_ite (fun _ => ?_) fun _ => ?_ | refine ok_not (fun _ => ?_) fun _ => ?_ | refine ok_cond (fun _ => ?_) fun _ => ?_) | (with_reducible refine ok_next ?_ ?_ ?_ <;> (first | assumption | omega | rw [w64_of] <;> omega)) | with_reducible refine ok_bind (ok_idx (by (first | assumption | omega | rw [w64_of] <;> omega)) (by (first | assumption | omega | rw [w64_of] <;> omega))) (fun _ _ => ?_) | (with_reducible refine Ok.yes (trace_tables_2_ok _) <;> (first | assumption | omega | rw [w64_of] <;> omega)) | (with_reducible refine ok_bind (Q := Yes) ?_ fun _ _ => ?_) | dsimp only)
theorem trace_tables_3_ok (a) : Tot (trace_tables_3 a) := ⟨_, rfl, trivial⟩
theorem trace_known_api_Flow_k2_ok (e : Int) (m) (l : List api_Flow) (h : l.length ≤ 9223372036854775807) : Tot (trace_known_api_Flow_k2 e m l) := by
 unfold trace_known_api_Flow_k2
 refine ok_nite (fun _ => ok_yes) (fun _ => ?_)
 refine ok_bindS (Q := Yes) (ok_up l.length (by omega) fun i h1 h2 => ?_) (fun _ _ => ?_) (fun _ _ => ?_)
 ·unfold trace_known_api_Flow_k2_L1
  repeat' (first | (with_reducible first | exact ok_yes | exact ok_inrY | exact ok_inlY | refine ok_nite (fun _ => ?_) fun _ => ?_ | refine ok_ite (fun _ => ?_) fun _ => ?_ | refine ok_not (fun _ => ?_) fun _ => ?_ | refine ok_cond (fun _ => ?_) fun _ => ?_) | (with_reducible refine ok_next ?_ ?_ ?_ <;> (first | assumption | omega | rw [w64_of] <;> omega)) | with_reducible refine ok_bind (ok_idx (by (first | assumption | omega | rw [w64_of] <;> omega)) (by (first | assumption | omega | rw [w64_of] <;> omega))) (fun _ _ => ?_) | (with_reducible refine Ok.yes (trace_tables_3_ok _) <;> (first | assumption | omega | rw [w64_of] <;> omega)) | (with_reducible refine ok_bind (Q := Yes) ?_ fun _ _ => ?_) | dsimp only)
 ·repeat' (first | (with_reducible first | exact ok_yes | exact ok_inrY | exact ok_inlY | refine ok_nite (fun _ => ?_) fun _ => ?_ | refine ok_ite (fun _ => ?_) fun _ => ?_ | refine ok_not (fun _ => ?_) fun _ => ?_ | refine ok_cond (fun _ => ?_) fun _ => ?_) | (with_reducible refine ok_next ?_ ?_ ?_ <;> (first | assumption | omega | rw [w64_of] <;> omega)) | with_reducible refine ok_bind (ok_idx (by (first | assumption | omega | rw [w64_of] <;> omega)) (by (first | assumption | omega | rw [w64_of] <;> omega))) (fun _ _ => ?_) | (with_reducible refine Ok.yes (trace_tables_3_ok _) <;> (first | assumption | omega | rw [w64_of] <;> omega)) | (with_reducible refine ok_bind (Q := Yes) ?_ fun _ _ => ?_) | dsimp only)
 ·repeat' (first | (with_reducible first | exact ok_yes | exact ok_inrY | exact ok_inlY | refine ok_nite (fun _ => ?_) fun _ => ?_ | refine ok_ite (fun _ => ?_) fun _ => ?_ | refine ok_not (fun _ => ?_) fun _ => ?_ | refine ok_cond (fun _ => ?_) fun _ => ?_) | (with_reducible refine ok_next ?_ ?_ ?_ <;> (first | assumption | omega | rw [w64_of] <;> omega)) | with_reducible refine ok_bind (ok_idx (by (first | assumption | omega | rw [w64_of] <;> omega)) (by (first | assumption | omega | rw [w64_of] <;> omega))) (fun _ _ => ?_) | (with_reducible refine Ok.yes (trace_tables_3_ok _) <;> (first | assumption | omega | rw [w64_of] <;> omega)) | (with_reducible refine ok_bind (Q := Yes) ?_ fun _ _ => ?_) | dsimp only)
theorem trace_tables_4_ok (a) : Tot (trace_tables_4 a) := ⟨_, rfl, trivial⟩
theorem trace_known_api_Sample_k1_ok (e : Int) (m) (l : List api_Sample) (h : l.length ≤ 9223372036854775807) : Tot (trace_known_api_Sample_k1 e m l) := by
 unfold trace_known_api_Sample_k1
 refine ok_nite (fun _ => ok_yes) (fun _ => ?_)
 refine ok_bindS (Q := Yes) (ok_up l.length (by omega) fun i h1 h2 => ?_) (fun _ _ => ?_) (fun _ _ => ?_)
 ·unfold trace_known_api_Sample_k1_L1
  repeat' (first | (with_reducible first | exact ok_yes | exact ok_inrY | exact ok_inlY | refine ok_nite (fun _ => ?_) fun _ => ?_ | refine ok_ite (fun _ => ?_) fun _ => ?_ | refine ok_not (fun _ => ?_) fun _ => ?_ | refine ok_cond (fun _ => ?_) fun _ => ?_) | (with_reducible refine ok_next ?_ ?_ ?_ <;> (first | assumption | omega | rw [w64_of] <;> omega)) | with_reducible refine ok_bind (ok_idx (by (first | assumption | omega | rw [w64_of] <;> omega)) (by (first | assumption | omega | rw [w64_of] <;> omega))) (fun _ _ => ?_) | (with_reducible refine Ok.yes (trace_tables_4_ok _) <;> (first | assumption | omega | rw [w64_of] <;> omega)) | (with_reducible refine ok_bind (Q := Yes) ?_ fun _ _ => ?_) | dsimp only)
 ·repeat' (first | (with_reducible first | exact ok_yes | exact ok_inrY | exact ok_inlY | refine ok_nite (fun _ => ?_) fun _ => ?_ | refine ok_ite (fun _ => ?_) fun _ => ?_ | refine ok_not (fun _ => ?_) fun _ => ?_ | refine ok_cond (fun _ => ?_) fun _ => ?_) | (with_reducible refine ok_next ?_ ?_ ?_ <;> (first | assumption | omega | rw [w64_of] <;> omega)) | with_reducible refine ok_bind (ok_idx (by (first | assumption | omega | rw [w64_of] <;> omega)) (by (first | assumption | omega | rw [w64_of] <;> omega))) (fun _ _ => ?_) | (with_reducible refine Ok.yes (trace_tables_4_ok _) <;> (first | assumption | omega | rw [w64_of] <;> omega)) | (with_reducible refine ok_bind (Q := Yes) ?_ fun _ _ => ?_) | dsimp only)
 ·repeat' (first | (with_reducible first | exact ok_yes | exact ok_inrY | exact ok_inlY | refine ok_nite (fun _ => ?_) fun _ => ?_ | refine ok_ite (fun _ => ?_) fun _ => ?_ | refine ok_not (fun _ => ?_) fun _ => ?_ | refine ok_cond (fun _ => ?_) fun _ => ?_) | (with_reducible refine ok_next ?_ ?_ ?_ <;> (first | assumption | omega | rw [w64_of] <;> omega)) | with_reducible refine ok_bind (ok_idx (by (first | assumption | omega | rw [w64_of] <;> omega)) (by (first | assumption | omega | rw [w64_of] <;> omega))) (fun _ _ => ?_) | (with_reducible refine Ok.yes (trace_tables_4_ok _) <;> (first | assumption | omega | rw [w64_of] <;> omega)) | (with_reducible refine ok_bind (Q := Yes) ?_ fun _ _ => ?_) | dsimp only)
theorem trace_tables_5_ok (a) : Tot (trace_tables_5 a) := ⟨_, rfl, trivial⟩
theorem trace_known_api_Block_k1_ok (e : Int) (m) (l : List api_Block) (h : l.length ≤ 9223372036854775807) : Tot (trace_known_api_Block_k1 e m l) := by
 unfold trace_known_api_Block_k1
 refine ok_nite (fun _ => ok_yes) (fun _ => ?_)
 refine ok_bindS (Q := Yes) (ok_up l.length (by omega) fun i h1 h2 => ?_) (fun _ _ => ?_) (fun _ _ => ?_)
 ·unfold trace_known_api_Block_k1_L1
  repeat' (first | (with_reducible first | exact ok_yes | exact ok_inrY | exact ok_inlY | refine ok_nite (fun _ => ?_) fun _ => ?_ | refine ok_ite (fun _ => ?_) fun _ => ?_ | refine ok_not (fun _ => ?_) fun _ => ?_ | refine ok_cond (fun _ => ?_) fun _ => ?_) | (with_reducible refine ok_next ?_ ?_ ?_ <;> (first | assumption | omega | rw [w64_of] <;> omega)) | with_reducible refine ok_bind (ok_idx (by (first | assumption | omega | rw [w64_of] <;> omega)) (by (first | assumption | omega | rw [w64_of] <;> omega))) (fun _ _ => ?_) | (with_reducible refine Ok.yes (trace_tables_5_ok _) <;> (first | assumption | omega | rw [w64_of] <;> omega)) | (with_reducible refine ok_bind (Q := Yes) ?_ fun _ _ => ?_) | dsimp only)
 ·repeat' (first | (with_reducible first | exact ok_yes | exact ok_inrY | exact ok_inlY | refine ok_nite (fun _ => ?_) fun _ => ?_ | refine ok_ite (fun _ => ?_) fun _ => ?_ | refine ok_not (fun _ => ?_) fun _ => ?_ | refine ok_cond (fun _ => ?_) fun _ => ?_) | (with_reducible refine ok_next ?_ ?_ ?_ <;> (first | assumption | omega | rw [w64_of] <;> omega)) | with_reducible refine ok_bind (ok_idx (by (first | assumption | omega | rw [w64_of] <;> omega)) (by (first | assumption | omega | rw [w64_of] <;> omega))) (fun _ _ => ?_) | (with_reducible refine Ok.yes (trace_tables_5_ok _) <;> (first | assumption | omega | rw [w64_of] <;> omega)) | (with_reducible refine ok_bind (Q := Yes) ?_ fun _ _ => ?_) | dsimp only)
 ·repeat' (first | (with_reducible first | exact ok_yes | exact ok_inrY | exact ok_inlY | refine ok_nite (fun _ => ?_) fun _ => ?_ | refine ok_ite (fun _ => ?_) fun _ => ?_ | refine ok_not (fun _ => ?_) fun _ => ?_ | refine ok_cond (fun _ => ?_) fun _ => ?_) | (with_reducible refine ok_next ?_ ?_ ?_ <;> (first | assumption | omega | rw [w64_of] <;> omega)) | with_reducible refine ok_bind (ok_idx (by (first | assumption | omega | rw [w64_of] <;> omega)) (by (first | assumption | omega | rw [w64_of] <;> omega))) (fun _ _ => ?_) | (with_reducible refine Ok.yes (trace_tables_5_ok _) <;> (first | assumption | omega | rw [w64_of] <;> omega)) | (with_reducible refine ok_bind (Q := Yes) ?_ fun _ _ => ?_) | dsimp only)
theorem trace_losses_k1_ok (m) (l : List api_Loss) (h : l.length ≤ 9223372036854775807) : Tot (trace_losses_k1 m l) := by
 unfold trace_losses_k1
 refine ok_bindS (Q := Yes) (ok_up l.length (by omega) fun i h1 h2 => ?_) (fun _ _ => ?_) (fun _ _ => ?_)
 ·unfold trace_losses_k1_L1
  repeat' (first | (with_reducible first | exact ok_yes | exact ok_inrY | exact ok_inlY | refine ok_nite (fun _ => ?_) fun _ => ?_ | refine ok_ite (fun _ => ?_) fun _ => ?_ | refine ok_not (fun _ => ?_) fun _ => ?_ | refine ok_cond (fun _ => ?_) fun _ => ?_) | (with_reducible refine ok_next ?_ ?_ ?_ <;> (first | assumption | omega | rw [w64_of] <;> omega)) | with_reducible refine ok_bind (ok_idx (by (first | assumption | omega | rw [w64_of] <;> omega)) (by (first | assumption | omega | rw [w64_of] <;> omega))) (fun _ _ => ?_) | (with_reducible refine Ok.yes (spans_Valid_ok _) <;> (first | assumption | omega | rw [w64_of] <;> omega)) | (with_reducible refine ok_bind (Q := Yes) ?_ fun _ _ => ?_) | dsimp only)
 ·repeat' (first | (with_reducible first | exact ok_yes | exact ok_inrY | exact ok_inlY | refine ok_nite (fun _ => ?_) fun _ => ?_ | refine ok_ite (fun _ => ?_) fun _ => ?_ | refine ok_not (fun _ => ?_) fun _ => ?_ | refine ok_cond (fun _ => ?_) fun _ => ?_) | (with_reducible refine ok_next ?_ ?_ ?_ <;> (first | assumption | omega | rw [w64_of] <;> omega)) | with_reducible refine ok_bind (ok_idx (by (first | assumption | omega | rw [w64_of] <;> omega)) (by (first | assumption | omega | rw [w64_of] <;> omega))) (fun _ _ => ?_) | (with_reducible refine Ok.yes (spans_Valid_ok _) <;> (first | assumption | omega | rw [w64_of] <;> omega)) | (with_reducible refine ok_bind (Q := Yes) ?_ fun _ _ => ?_) | dsimp only)
 ·repeat' (first | (with_reducible first | exact ok_yes | exact ok_inrY | exact ok_inlY | refine ok_nite (fun _ => ?_) fun _ => ?_ | refine ok_ite (fun _ => ?_) fun _ => ?_ | refine ok_not (fun _ => ?_) fun _ => ?_ | refine ok_cond (fun _ => ?_) fun _ => ?_) | (with_reducible refine ok_next ?_ ?_ ?_ <;> (first | assumption | omega | rw [w64_of] <;> omega)) | with_reducible refine ok_bind (ok_idx (by (first | assumption | omega | rw [w64_of] <;> omega)) (by (first | assumption | omega | rw [w64_of] <;> omega))) (fun _ _ => ?_) | (with_reducible refine Ok.yes (spans_Valid_ok _) <;> (first | assumption | omega | rw [w64_of] <;> omega)) | (with_reducible refine ok_bind (Q := Yes) ?_ fun _ _ => ?_) | dsimp only)
theorem flow_bad_ok (a b : Int) : Tot (flow_bad a b) := by
 unfold flow_bad
 repeat' (first | (with_reducible first | exact ok_yes | exact ok_inrY | exact ok_inlY | refine ok_nite (fun _ => ?_) fun _ => ?_ | refine ok_ite (fun _ => ?_) fun _ => ?_ | refine ok_not (fun _ => ?_) fun _ => ?_ | refine ok_cond (fun _ => ?_) fun _ => ?_) | (with_reducible refine ok_next ?_ ?_ ?_ <;> (first | assumption | omega | rw [w64_of] <;> omega)) | with_reducible refine ok_bind (ok_idx (by (first | assumption | omega | rw [w64_of] <;> omega)) (by (first | assumption | omega | rw [w64_of] <;> omega))) (fun _ _ => ?_) | (with_reducible refine ok_bind (Q := Yes) ?_ fun _ _ => ?_) | dsimp only)
theorem sample_good_ok (a) : Tot (sample_good a) := by
 unfold sample_good
 repeat' (first | (with_reducible first | exact ok_yes | exact ok_inrY | exact ok_inlY | refine ok_nite (fun _ => ?_) fun _ => ?_ | refine ok_ite (fun _ => ?_) fun _ => ?_ | refine ok_not (fun _ => ?_) fun _ => ?_ | refine ok_cond (fun _ => ?_) fun _ => ?_) | (with_reducible refine ok_next ?_ ?_ ?_ <;> (first | assumption | omega | rw [w64_of] <;> omega)) | with_reducible refine ok_bind (ok_idx (by (first | assumption | omega | rw [w64_of] <;> omega)) (by (first | assumption | omega | rw [w64_of] <;> omega))) (fun _ _ => ?_) | (with_reducible refine ok_bind (Q := Yes) ?_ fun _ _ => ?_) | dsimp only)
theorem num_In_ok (a) : Tot (num_In a) := by
 unfold num_In
 repeat' (first | (with_reducible first | exact ok_yes | exact ok_inrY | exact ok_inlY | refine ok_nite (fun _ => ?_) fun _ => ?_ | refine ok_ite (fun _ => ?_) fun _ => ?_ | refine ok_not (fun _ => ?_) fun _ => ?_ | refine ok_cond (fun _ => ?_) fun _ => ?_) | (with_reducible refine ok_next ?_ ?_ ?_ <;> (first | assumption | omega | rw [w64_of] <;> omega)) | with_reducible refine ok_bind (ok_idx (by (first | assumption | omega | rw [w64_of] <;> omega)) (by (first | assumption | omega | rw [w64_of] <;> omega))) (fun _ _ => ?_) | (with_reducible refine ok_bind (Q := Yes) ?_ fun _ _ => ?_) | dsimp only)
theorem cmp_Compare_string_ok (a b) : Tot (cmp_Compare_string a b) := by
 unfold cmp_Compare_string cmp_isNaN_string
 repeat' (first | (with_reducible first | exact ok_yes | exact ok_inrY | exact ok_inlY | refine ok_nite (fun _ => ?_) fun _ => ?_ | refine ok_ite (fun _ => ?_) fun _ => ?_ | refine ok_not (fun _ => ?_) fun _ => ?_ | refine ok_cond (fun _ => ?_) fun _ => ?_) | (with_reducible refine ok_next ?_ ?_ ?_ <;> (first | assumption | omega | rw [w64_of] <;> omega)) | with_reducible refine ok_bind (ok_idx (by (first | assumption | omega | rw [w64_of] <;> omega)) (by (first | assumption | omega | rw [w64_of] <;> omega))) (fun _ _ => ?_) | (with_reducible refine ok_bind (Q := Yes) ?_ fun _ _ => ?_) | dsimp only)
theorem counter_order_ok (a b) : Tot (counter_order a b) := by
 unfold counter_order
 repeat' (first | (with_reducible first | exact ok_yes | exact ok_inrY | exact ok_inlY | refine ok_nite (fun _ => ?_) fun _ => ?_ | refine ok_ite (fun _ => ?_) fun _ => ?_ | refine ok_not (fun _ => ?_) fun _ => ?_ | refine ok_cond (fun _ => ?_) fun _ => ?_) | (with_reducible refine ok_next ?_ ?_ ?_ <;> (first | assumption | omega | rw [w64_of] <;> omega)) | with_reducible refine ok_bind (ok_idx (by (first | assumption | omega | rw [w64_of] <;> omega)) (by (first | assumption | omega | rw [w64_of] <;> omega))) (fun _ _ => ?_) | (with_reducible refine Ok.yes (cmp_Compare_string_ok _ _) <;> (first | assumption | omega | rw [w64_of] <;> omega)) | (with_reducible refine Ok.yes (cmp_Compare_int_ok _ _) <;> (first | assumption | omega | rw [w64_of] <;> omega)) | (with_reducible refine Ok.yes (cmp_Or_int_ok _ (Nat.le_of_ble_eq_true rfl)) <;> (first | assumption | omega | rw [w64_of] <;> omega)) | (with_reducible refine ok_bind (Q := Yes) ?_ fun _ _ => ?_) | dsimp only)
theorem flow_Check_ok (l : List api_Flow) (h : l.length ≤ 9223372036854775807) : Tot (flow_Check l) := by
 unfold flow_Check
 refine ok_bindS (Q := Yes) (ok_up l.length (by omega) fun i h1 h2 => ?_) (fun _ _ => ?_) (fun _ _ => ?_)
 ·unfold flow_Check_L1
  repeat' (first | (with_reducible first | exact ok_yes | exact ok_inrY | exact ok_inlY | refine ok_nite (fun _ => ?_) fun _ => ?_ | refine ok_ite (fun _ => ?_) fun _ => ?_ | refine ok_not (fun _ => ?_) fun _ => ?_ | refine ok_cond (fun _ => ?_) fun _ => ?_) | (with_reducible refine ok_next ?_ ?_ ?_ <;> (first | assumption | omega | rw [w64_of] <;> omega)) | with_reducible refine ok_bind (ok_idx (by (first | assumption | omega | rw [w64_of] <;> omega)) (by (first | assumption | omega | rw [w64_of] <;> omega))) (fun _ _ => ?_) | (with_reducible refine Ok.yes (flow_bad_ok _ _) <;> (first | assumption | omega | rw [w64_of] <;> omega)) | (with_reducible refine ok_bind (Q := Yes) ?_ fun _ _ => ?_) | dsimp only)
 ·repeat' (first | (with_reducible first | exact ok_yes | exact ok_inrY | exact ok_inlY | refine ok_nite (fun _ => ?_) fun _ => ?_ | refine ok_ite (fun _ => ?_) fun _ => ?_ | refine ok_not (fun _ => ?_) fun _ => ?_ | refine ok_cond (fun _ => ?_) fun _ => ?_) | (with_reducible refine ok_next ?_ ?_ ?_ <;> (first | assumption | omega | rw [w64_of] <;> omega)) | with_reducible refine ok_bind (ok_idx (by (first | assumption | omega | rw [w64_of] <;> omega)) (by (first | assumption | omega | rw [w64_of] <;> omega))) (fun _ _ => ?_) | (with_reducible refine Ok.yes (flow_bad_ok _ _) <;> (first | assumption | omega | rw [w64_of] <;> omega)) | (with_reducible refine ok_bind (Q := Yes) ?_ fun _ _ => ?_) | dsimp only)
 ·repeat' (first | (with_reducible first | exact ok_yes | exact ok_inrY | exact ok_inlY | refine ok_nite (fun _ => ?_) fun _ => ?_ | refine ok_ite (fun _ => ?_) fun _ => ?_ | refine ok_not (fun _ => ?_) fun _ => ?_ | refine ok_cond (fun _ => ?_) fun _ => ?_) | (with_reducible refine ok_next ?_ ?_ ?_ <;> (first | assumption | omega | rw [w64_of] <;> omega)) | with_reducible refine ok_bind (ok_idx (by (first | assumption | omega | rw [w64_of] <;> omega)) (by (first | assumption | omega | rw [w64_of] <;> omega))) (fun _ _ => ?_) | (with_reducible refine Ok.yes (flow_bad_ok _ _) <;> (first | assumption | omega | rw [w64_of] <;> omega)) | (with_reducible refine ok_bind (Q := Yes) ?_ fun _ _ => ?_) | dsimp only)
theorem sample_Check_ok (l : List api_Sample) (h : l.length ≤ 9223372036854775807) (hx : ∀ x ∈ l, x.fStack.length ≤ 9223372036854775807 ∧ ∀ y ∈ x.fStack, okN y) : Tot (sample_Check l) := by
 unfold sample_Check
 refine ok_bindS (Q := Yes) (ok_up l.length (by omega) fun i h1 h2 => ?_) (fun _ _ => ?_) (fun _ _ => ?_)
 ·unfold sample_Check_L1
  repeat' (first | (with_reducible first | exact ok_yes | exact ok_inrY | exact ok_inlY | refine ok_nite (fun _ => ?_) fun _ => ?_ | refine ok_ite (fun _ => ?_) fun _ => ?_ | refine ok_not (fun _ => ?_) fun _ => ?_ | refine ok_cond (fun _ => ?_) fun _ => ?_) | (with_reducible refine ok_next ?_ ?_ ?_ <;> (first | assumption | omega | rw [w64_of] <;> omega)) | with_reducible refine ok_bind (ok_idx (by (first | assumption | omega | rw [w64_of] <;> omega)) (by (first | assumption | omega | rw [w64_of] <;> omega))) (fun _ _ => ?_) | (with_reducible refine Ok.yes (sample_good_ok _) <;> (first | assumption | omega | rw [w64_of] <;> omega)) | (with_reducible refine Ok.yes (intern_Frames_ok _ (hx _ (List.mem_of_getElem? (by assumption))).1 (hx _ (List.mem_of_getElem? (by assumption))).2) <;> (first | assumption | omega | rw [w64_of] <;> omega)) | (with_reducible refine ok_bind (Q := Yes) ?_ fun _ _ => ?_) | dsimp only)
 ·repeat' (first | (with_reducible first | exact ok_yes | exact ok_inrY | exact ok_inlY | refine ok_nite (fun _ => ?_) fun _ => ?_ | refine ok_ite (fun _ => ?_) fun _ => ?_ | refine ok_not (fun _ => ?_) fun _ => ?_ | refine ok_cond (fun _ => ?_) fun _ => ?_) | (with_reducible refine ok_next ?_ ?_ ?_ <;> (first | assumption | omega | rw [w64_of] <;> omega)) | with_reducible refine ok_bind (ok_idx (by (first | assumption | omega | rw [w64_of] <;> omega)) (by (first | assumption | omega | rw [w64_of] <;> omega))) (fun _ _ => ?_) | (with_reducible refine Ok.yes (sample_good_ok _) <;> (first | assumption | omega | rw [w64_of] <;> omega)) | (with_reducible refine Ok.yes (intern_Frames_ok _ (hx _ (List.mem_of_getElem? (by assumption))).1 (hx _ (List.mem_of_getElem? (by assumption))).2) <;> (first | assumption | omega | rw [w64_of] <;> omega)) | (with_reducible refine ok_bind (Q := Yes) ?_ fun _ _ => ?_) | dsimp only)
 ·repeat' (first | (with_reducible first | exact ok_yes | exact ok_inrY | exact ok_inlY | refine ok_nite (fun _ => ?_) fun _ => ?_ | refine ok_ite (fun _ => ?_) fun _ => ?_ | refine ok_not (fun _ => ?_) fun _ => ?_ | refine ok_cond (fun _ => ?_) fun _ => ?_) | (with_reducible refine ok_next ?_ ?_ ?_ <;> (first | assumption | omega | rw [w64_of] <;> omega)) | with_reducible refine ok_bind (ok_idx (by (first | assumption | omega | rw [w64_of] <;> omega)) (by (first | assumption | omega | rw [w64_of] <;> omega))) (fun _ _ => ?_) | (with_reducible refine Ok.yes (sample_good_ok _) <;> (first | assumption | omega | rw [w64_of] <;> omega)) | (with_reducible refine Ok.yes (intern_Frames_ok _ (hx _ (List.mem_of_getElem? (by assumption))).1 (hx _ (List.mem_of_getElem? (by assumption))).2) <;> (first | assumption | omega | rw [w64_of] <;> omega)) | (with_reducible refine ok_bind (Q := Yes) ?_ fun _ _ => ?_) | dsimp only)
theorem counter_Check_ok (l : List api_Step) (h : l.length ≤ 9223372036854775807) (hx : ∀ x ∈ l, okN x.fName) : Tot (counter_Check l) := by
 unfold counter_Check
 refine ok_bindS (Q := Yes) (ok_up l.length (by omega) fun i h1 h2 => ?_) (fun _ _ => ?_) (fun _ _ => ?_)
 ·unfold counter_Check_L1
  repeat' (first | (with_reducible first | exact ok_yes | exact ok_inrY | exact ok_inlY | refine ok_nite (fun _ => ?_) fun _ => ?_ | refine ok_ite (fun _ => ?_) fun _ => ?_ | refine ok_not (fun _ => ?_) fun _ => ?_ | refine ok_cond (fun _ => ?_) fun _ => ?_) | (with_reducible refine ok_next ?_ ?_ ?_ <;> (first | assumption | omega | rw [w64_of] <;> omega)) | with_reducible refine ok_bind (ok_idx (by (first | assumption | omega | rw [w64_of] <;> omega)) (by (first | assumption | omega | rw [w64_of] <;> omega))) (fun _ _ => ?_) | (with_reducible refine Ok.yes (num_In_ok _) <;> (first | assumption | omega | rw [w64_of] <;> omega)) | (with_reducible refine Ok.yes (counter_order_ok _ _) <;> (first | assumption | omega | rw [w64_of] <;> omega)) | (with_reducible refine Ok.yes (intern_Name_ok _ (hx _ (List.mem_of_getElem? (by assumption)))) <;> (first | assumption | omega | rw [w64_of] <;> omega)) | (with_reducible refine ok_bind (Q := Yes) ?_ fun _ _ => ?_) | dsimp only)
 ·repeat' (first | (with_reducible first | exact ok_yes | exact ok_inrY | exact ok_inlY | refine ok_nite (fun _ => ?_) fun _ => ?_ | refine ok_ite (fun _ => ?_) fun _ => ?_ | refine ok_not (fun _ => ?_) fun _ => ?_ | refine ok_cond (fun _ => ?_) fun _ => ?_) | (with_reducible refine ok_next ?_ ?_ ?_ <;> (first | assumption | omega | rw [w64_of] <;> omega)) | with_reducible refine ok_bind (ok_idx (by (first | assumption | omega | rw [w64_of] <;> omega)) (by (first | assumption | omega | rw [w64_of] <;> omega))) (fun _ _ => ?_) | (with_reducible refine Ok.yes (num_In_ok _) <;> (first | assumption | omega | rw [w64_of] <;> omega)) | (with_reducible refine Ok.yes (counter_order_ok _ _) <;> (first | assumption | omega | rw [w64_of] <;> omega)) | (with_reducible refine Ok.yes (intern_Name_ok _ (hx _ (List.mem_of_getElem? (by assumption)))) <;> (first | assumption | omega | rw [w64_of] <;> omega)) | (with_reducible refine ok_bind (Q := Yes) ?_ fun _ _ => ?_) | dsimp only)
 ·repeat' (first | (with_reducible first | exact ok_yes | exact ok_inrY | exact ok_inlY | refine ok_nite (fun _ => ?_) fun _ => ?_ | refine ok_ite (fun _ => ?_) fun _ => ?_ | refine ok_not (fun _ => ?_) fun _ => ?_ | refine ok_cond (fun _ => ?_) fun _ => ?_) | (with_reducible refine ok_next ?_ ?_ ?_ <;> (first | assumption | omega | rw [w64_of] <;> omega)) | with_reducible refine ok_bind (ok_idx (by (first | assumption | omega | rw [w64_of] <;> omega)) (by (first | assumption | omega | rw [w64_of] <;> omega))) (fun _ _ => ?_) | (with_reducible refine Ok.yes (num_In_ok _) <;> (first | assumption | omega | rw [w64_of] <;> omega)) | (with_reducible refine Ok.yes (counter_order_ok _ _) <;> (first | assumption | omega | rw [w64_of] <;> omega)) | (with_reducible refine Ok.yes (intern_Name_ok _ (hx _ (List.mem_of_getElem? (by assumption)))) <;> (first | assumption | omega | rw [w64_of] <;> omega)) | (with_reducible refine ok_bind (Q := Yes) ?_ fun _ _ => ?_) | dsimp only)
theorem trace_within_ok (a b) : Tot (trace_within a b) := by
 unfold trace_within
 repeat' (first | (with_reducible first | exact ok_yes | exact ok_inrY | exact ok_inlY | refine ok_nite (fun _ => ?_) fun _ => ?_ | refine ok_ite (fun _ => ?_) fun _ => ?_ | refine ok_not (fun _ => ?_) fun _ => ?_ | refine ok_cond (fun _ => ?_) fun _ => ?_) | (with_reducible refine ok_next ?_ ?_ ?_ <;> (first | assumption | omega | rw [w64_of] <;> omega)) | with_reducible refine ok_bind (ok_idx (by (first | assumption | omega | rw [w64_of] <;> omega)) (by (first | assumption | omega | rw [w64_of] <;> omega))) (fun _ _ => ?_) | (with_reducible refine ok_bind (Q := Yes) ?_ fun _ _ => ?_) | dsimp only)
theorem trace_inside_ok (a b) : Tot (trace_inside a b) := by
 unfold trace_inside
 repeat' (first | (with_reducible first | exact ok_yes | exact ok_inrY | exact ok_inlY | refine ok_nite (fun _ => ?_) fun _ => ?_ | refine ok_ite (fun _ => ?_) fun _ => ?_ | refine ok_not (fun _ => ?_) fun _ => ?_ | refine ok_cond (fun _ => ?_) fun _ => ?_) | (with_reducible refine ok_next ?_ ?_ ?_ <;> (first | assumption | omega | rw [w64_of] <;> omega)) | with_reducible refine ok_bind (ok_idx (by (first | assumption | omega | rw [w64_of] <;> omega)) (by (first | assumption | omega | rw [w64_of] <;> omega))) (fun _ _ => ?_) | (with_reducible refine ok_bind (Q := Yes) ?_ fun _ _ => ?_) | dsimp only)
theorem critical_known_1_k1_ok (a b) : Tot (critical_known_1_k1 a b) := ⟨_, rfl, trivial⟩
theorem critical_known_ok (t : api_Trace) (a : Int) (h : t.fThreads.length ≤ 9223372036854775807) : Tot (critical_known t a) := by
 unfold critical_known slices_ContainsFunc_api_Thread_api_Thread_k1
 refine ok_bind (Q := Yes) (ok_bind (Q := Yes) ?_ (fun _ _ => ok_yes)) (fun _ _ => ok_yes)
 unfold slices_IndexFunc_api_Thread_api_Thread_k1
 refine ok_bindS (Q := Yes) (ok_up t.fThreads.length (by omega) fun i h1 h2 => ?_) (fun _ _ => ?_) (fun _ _ => ?_)
 ·unfold slices_IndexFunc_api_Thread_api_Thread_k1_L1
  repeat' (first | (with_reducible first | exact ok_yes | exact ok_inrY | exact ok_inlY | refine ok_nite (fun _ => ?_) fun _ => ?_ | refine ok_ite (fun _ => ?_) fun _ => ?_ | refine ok_not (fun _ => ?_) fun _ => ?_ | refine ok_cond (fun _ => ?_) fun _ => ?_) | (with_reducible refine ok_next ?_ ?_ ?_ <;> (first | assumption | omega | rw [w64_of] <;> omega)) | with_reducible refine ok_bind (ok_idx (by (first | assumption | omega | rw [w64_of] <;> omega)) (by (first | assumption | omega | rw [w64_of] <;> omega))) (fun _ _ => ?_) | (with_reducible refine Ok.yes (critical_known_1_k1_ok _ _) <;> (first | assumption | omega | rw [w64_of] <;> omega)) | (with_reducible refine ok_bind (Q := Yes) ?_ fun _ _ => ?_) | dsimp only)
 ·repeat' (first | (with_reducible first | exact ok_yes | exact ok_inrY | exact ok_inlY | refine ok_nite (fun _ => ?_) fun _ => ?_ | refine ok_ite (fun _ => ?_) fun _ => ?_ | refine ok_not (fun _ => ?_) fun _ => ?_ | refine ok_cond (fun _ => ?_) fun _ => ?_) | (with_reducible refine ok_next ?_ ?_ ?_ <;> (first | assumption | omega | rw [w64_of] <;> omega)) | with_reducible refine ok_bind (ok_idx (by (first | assumption | omega | rw [w64_of] <;> omega)) (by (first | assumption | omega | rw [w64_of] <;> omega))) (fun _ _ => ?_) | (with_reducible refine Ok.yes (critical_known_1_k1_ok _ _) <;> (first | assumption | omega | rw [w64_of] <;> omega)) | (with_reducible refine ok_bind (Q := Yes) ?_ fun _ _ => ?_) | dsimp only)
 ·repeat' (first | (with_reducible first | exact ok_yes | exact ok_inrY | exact ok_inlY | refine ok_nite (fun _ => ?_) fun _ => ?_ | refine ok_ite (fun _ => ?_) fun _ => ?_ | refine ok_not (fun _ => ?_) fun _ => ?_ | refine ok_cond (fun _ => ?_) fun _ => ?_) | (with_reducible refine ok_next ?_ ?_ ?_ <;> (first | assumption | omega | rw [w64_of] <;> omega)) | with_reducible refine ok_bind (ok_idx (by (first | assumption | omega | rw [w64_of] <;> omega)) (by (first | assumption | omega | rw [w64_of] <;> omega))) (fun _ _ => ?_) | (with_reducible refine Ok.yes (critical_known_1_k1_ok _ _) <;> (first | assumption | omega | rw [w64_of] <;> omega)) | (with_reducible refine ok_bind (Q := Yes) ?_ fun _ _ => ?_) | dsimp only)
theorem trace_outside_1_k1_ok (a b) : Tot (trace_outside_1_k1 a b) := by
 unfold trace_outside_1_k1
 repeat' (first | (with_reducible first | exact ok_yes | exact ok_inrY | exact ok_inlY | refine ok_nite (fun _ => ?_) fun _ => ?_ | refine ok_ite (fun _ => ?_) fun _ => ?_ | refine ok_not (fun _ => ?_) fun _ => ?_ | refine ok_cond (fun _ => ?_) fun _ => ?_) | (with_reducible refine ok_next ?_ ?_ ?_ <;> (first | assumption | omega | rw [w64_of] <;> omega)) | with_reducible refine ok_bind (ok_idx (by (first | assumption | omega | rw [w64_of] <;> omega)) (by (first | assumption | omega | rw [w64_of] <;> omega))) (fun _ _ => ?_) | (with_reducible refine Ok.yes (trace_within_ok _ _) <;> (first | assumption | omega | rw [w64_of] <;> omega)) | (with_reducible refine Ok.yes (trace_inside_ok _ _) <;> (first | assumption | omega | rw [w64_of] <;> omega)) | (with_reducible refine ok_bind (Q := Yes) ?_ fun _ _ => ?_) | dsimp only)
theorem slices_ContainsFunc_api_Slice_api_Slice_k1_ok (l : List api_Slice) (a) (h : l.length ≤ 9223372036854775807) : Tot (slices_ContainsFunc_api_Slice_api_Slice_k1 l a) := by
 unfold slices_ContainsFunc_api_Slice_api_Slice_k1
 refine ok_bind (Q := Yes) ?_ (fun _ _ => ok_yes)
 unfold slices_IndexFunc_api_Slice_api_Slice_k1
 refine ok_bindS (Q := Yes) (ok_up l.length (by omega) fun i h1 h2 => ?_) (fun _ _ => ?_) (fun _ _ => ?_)
 ·unfold slices_IndexFunc_api_Slice_api_Slice_k1_L1
  repeat' (first | (with_reducible first | exact ok_yes | exact ok_inrY | exact ok_inlY | refine ok_nite (fun _ => ?_) fun _ => ?_ | refine ok_ite (fun _ => ?_) fun _ => ?_ | refine ok_not (fun _ => ?_) fun _ => ?_ | refine ok_cond (fun _ => ?_) fun _ => ?_) | (with_reducible refine ok_next ?_ ?_ ?_ <;> (first | assumption | omega | rw [w64_of] <;> omega)) | with_reducible refine ok_bind (ok_idx (by (first | assumption | omega | rw [w64_of] <;> omega)) (by (first | assumption | omega | rw [w64_of] <;> omega))) (fun _ _ => ?_) | (with_reducible refine Ok.yes (trace_outside_1_k1_ok _ _) <;> (first | assumption | omega | rw [w64_of] <;> omega)) | (with_reducible refine ok_bind (Q := Yes) ?_ fun _ _ => ?_) | dsimp only)
 ·repeat' (first | (with_reducible first | exact ok_yes | exact ok_inrY | exact ok_inlY | refine ok_nite (fun _ => ?_) fun _ => ?_ | refine ok_ite (fun _ => ?_) fun _ => ?_ | refine ok_not (fun _ => ?_) fun _ => ?_ | refine ok_cond (fun _ => ?_) fun _ => ?_) | (with_reducible refine ok_next ?_ ?_ ?_ <;> (first | assumption | omega | rw [w64_of] <;> omega)) | with_reducible refine ok_bind (ok_idx (by (first | assumption | omega | rw [w64_of] <;> omega)) (by (first | assumption | omega | rw [w64_of] <;> omega))) (fun _ _ => ?_) | (with_reducible refine Ok.yes (trace_outside_1_k1_ok _ _) <;> (first | assumption | omega | rw [w64_of] <;> omega)) | (with_reducible refine ok_bind (Q := Yes) ?_ fun _ _ => ?_) | dsimp only)
 ·repeat' (first | (with_reducible first | exact ok_yes | exact ok_inrY | exact ok_inlY | refine ok_nite (fun _ => ?_) fun _ => ?_ | refine ok_ite (fun _ => ?_) fun _ => ?_ | refine ok_not (fun _ => ?_) fun _ => ?_ | refine ok_cond (fun _ => ?_) fun _ => ?_) | (with_reducible refine ok_next ?_ ?_ ?_ <;> (first | assumption | omega | rw [w64_of] <;> omega)) | with_reducible refine ok_bind (ok_idx (by (first | assumption | omega | rw [w64_of] <;> omega)) (by (first | assumption | omega | rw [w64_of] <;> omega))) (fun _ _ => ?_) | (with_reducible refine Ok.yes (trace_outside_1_k1_ok _ _) <;> (first | assumption | omega | rw [w64_of] <;> omega)) | (with_reducible refine ok_bind (Q := Yes) ?_ fun _ _ => ?_) | dsimp only)
theorem trace_outside_2_k1_ok (a b) : Tot (trace_outside_2_k1 a b) := by
 unfold trace_outside_2_k1
 repeat' (first | (with_reducible first | exact ok_yes | exact ok_inrY | exact ok_inlY | refine ok_nite (fun _ => ?_) fun _ => ?_ | refine ok_ite (fun _ => ?_) fun _ => ?_ | refine ok_not (fun _ => ?_) fun _ => ?_ | refine ok_cond (fun _ => ?_) fun _ => ?_) | (with_reducible refine ok_next ?_ ?_ ?_ <;> (first | assumption | omega | rw [w64_of] <;> omega)) | with_reducible refine ok_bind (ok_idx (by (first | assumption | omega | rw [w64_of] <;> omega)) (by (first | assumption | omega | rw [w64_of] <;> omega))) (fun _ _ => ?_) | (with_reducible refine Ok.yes (trace_within_ok _ _) <;> (first | assumption | omega | rw [w64_of] <;> omega)) | (with_reducible refine Ok.yes (trace_inside_ok _ _) <;> (first | assumption | omega | rw [w64_of] <;> omega)) | (with_reducible refine ok_bind (Q := Yes) ?_ fun _ _ => ?_) | dsimp only)
theorem slices_ContainsFunc_api_State_api_State_k1_ok (l : List api_State) (a) (h : l.length ≤ 9223372036854775807) : Tot (slices_ContainsFunc_api_State_api_State_k1 l a) := by
 unfold slices_ContainsFunc_api_State_api_State_k1
 refine ok_bind (Q := Yes) ?_ (fun _ _ => ok_yes)
 unfold slices_IndexFunc_api_State_api_State_k1
 refine ok_bindS (Q := Yes) (ok_up l.length (by omega) fun i h1 h2 => ?_) (fun _ _ => ?_) (fun _ _ => ?_)
 ·unfold slices_IndexFunc_api_State_api_State_k1_L1
  repeat' (first | (with_reducible first | exact ok_yes | exact ok_inrY | exact ok_inlY | refine ok_nite (fun _ => ?_) fun _ => ?_ | refine ok_ite (fun _ => ?_) fun _ => ?_ | refine ok_not (fun _ => ?_) fun _ => ?_ | refine ok_cond (fun _ => ?_) fun _ => ?_) | (with_reducible refine ok_next ?_ ?_ ?_ <;> (first | assumption | omega | rw [w64_of] <;> omega)) | with_reducible refine ok_bind (ok_idx (by (first | assumption | omega | rw [w64_of] <;> omega)) (by (first | assumption | omega | rw [w64_of] <;> omega))) (fun _ _ => ?_) | (with_reducible refine Ok.yes (trace_outside_2_k1_ok _ _) <;> (first | assumption | omega | rw [w64_of] <;> omega)) | (with_reducible refine ok_bind (Q := Yes) ?_ fun _ _ => ?_) | dsimp only)
 ·repeat' (first | (with_reducible first | exact ok_yes | exact ok_inrY | exact ok_inlY | refine ok_nite (fun _ => ?_) fun _ => ?_ | refine ok_ite (fun _ => ?_) fun _ => ?_ | refine ok_not (fun _ => ?_) fun _ => ?_ | refine ok_cond (fun _ => ?_) fun _ => ?_) | (with_reducible refine ok_next ?_ ?_ ?_ <;> (first | assumption | omega | rw [w64_of] <;> omega)) | with_reducible refine ok_bind (ok_idx (by (first | assumption | omega | rw [w64_of] <;> omega)) (by (first | assumption | omega | rw [w64_of] <;> omega))) (fun _ _ => ?_) | (with_reducible refine Ok.yes (trace_outside_2_k1_ok _ _) <;> (first | assumption | omega | rw [w64_of] <;> omega)) | (with_reducible refine ok_bind (Q := Yes) ?_ fun _ _ => ?_) | dsimp only)
 ·repeat' (first | (with_reducible first | exact ok_yes | exact ok_inrY | exact ok_inlY | refine ok_nite (fun _ => ?_) fun _ => ?_ | refine ok_ite (fun _ => ?_) fun _ => ?_ | refine ok_not (fun _ => ?_) fun _ => ?_ | refine ok_cond (fun _ => ?_) fun _ => ?_) | (with_reducible refine ok_next ?_ ?_ ?_ <;> (first | assumption | omega | rw [w64_of] <;> omega)) | with_reducible refine ok_bind (ok_idx (by (first | assumption | omega | rw [w64_of] <;> omega)) (by (first | assumption | omega | rw [w64_of] <;> omega))) (fun _ _ => ?_) | (with_reducible refine Ok.yes (trace_outside_2_k1_ok _ _) <;> (first | assumption | omega | rw [w64_of] <;> omega)) | (with_reducible refine ok_bind (Q := Yes) ?_ fun _ _ => ?_) | dsimp only)
theorem trace_outside_3_k1_ok (a b) : Tot (trace_outside_3_k1 a b) := by
 unfold trace_outside_3_k1
 repeat' (first | (with_reducible first | exact ok_yes | exact ok_inrY | exact ok_inlY | refine ok_nite (fun _ => ?_) fun _ => ?_ | refine ok_ite (fun _ => ?_) fun _ => ?_ | refine ok_not (fun _ => ?_) fun _ => ?_ | refine ok_cond (fun _ => ?_) fun _ => ?_) | (with_reducible refine ok_next ?_ ?_ ?_ <;> (first | assumption | omega | rw [w64_of] <;> omega)) | with_reducible refine ok_bind (ok_idx (by (first | assumption | omega | rw [w64_of] <;> omega)) (by (first | assumption | omega | rw [w64_of] <;> omega))) (fun _ _ => ?_) | (with_reducible refine Ok.yes (trace_within_ok _ _) <;> (first | assumption | omega | rw [w64_of] <;> omega)) | (with_reducible refine Ok.yes (trace_inside_ok _ _) <;> (first | assumption | omega | rw [w64_of] <;> omega)) | (with_reducible refine ok_bind (Q := Yes) ?_ fun _ _ => ?_) | dsimp only)
theorem slices_ContainsFunc_api_Block_api_Block_k1_ok (l : List api_Block) (a) (h : l.length ≤ 9223372036854775807) : Tot (slices_ContainsFunc_api_Block_api_Block_k1 l a) := by
 unfold slices_ContainsFunc_api_Block_api_Block_k1
 refine ok_bind (Q := Yes) ?_ (fun _ _ => ok_yes)
 unfold slices_IndexFunc_api_Block_api_Block_k1
 refine ok_bindS (Q := Yes) (ok_up l.length (by omega) fun i h1 h2 => ?_) (fun _ _ => ?_) (fun _ _ => ?_)
 ·unfold slices_IndexFunc_api_Block_api_Block_k1_L1
  repeat' (first | (with_reducible first | exact ok_yes | exact ok_inrY | exact ok_inlY | refine ok_nite (fun _ => ?_) fun _ => ?_ | refine ok_ite (fun _ => ?_) fun _ => ?_ | refine ok_not (fun _ => ?_) fun _ => ?_ | refine ok_cond (fun _ => ?_) fun _ => ?_) | (with_reducible refine ok_next ?_ ?_ ?_ <;> (first | assumption | omega | rw [w64_of] <;> omega)) | with_reducible refine ok_bind (ok_idx (by (first | assumption | omega | rw [w64_of] <;> omega)) (by (first | assumption | omega | rw [w64_of] <;> omega))) (fun _ _ => ?_) | (with_reducible refine Ok.yes (trace_outside_3_k1_ok _ _) <;> (first | assumption | omega | rw [w64_of] <;> omega)) | (with_reducible refine ok_bind (Q := Yes) ?_ fun _ _ => ?_) | dsimp only)
 ·repeat' (first | (with_reducible first | exact ok_yes | exact ok_inrY | exact ok_inlY | refine ok_nite (fun _ => ?_) fun _ => ?_ | refine ok_ite (fun _ => ?_) fun _ => ?_ | refine ok_not (fun _ => ?_) fun _ => ?_ | refine ok_cond (fun _ => ?_) fun _ => ?_) | (with_reducible refine ok_next ?_ ?_ ?_ <;> (first | assumption | omega | rw [w64_of] <;> omega)) | with_reducible refine ok_bind (ok_idx (by (first | assumption | omega | rw [w64_of] <;> omega)) (by (first | assumption | omega | rw [w64_of] <;> omega))) (fun _ _ => ?_) | (with_reducible refine Ok.yes (trace_outside_3_k1_ok _ _) <;> (first | assumption | omega | rw [w64_of] <;> omega)) | (with_reducible refine ok_bind (Q := Yes) ?_ fun _ _ => ?_) | dsimp only)
 ·repeat' (first | (with_reducible first | exact ok_yes | exact ok_inrY | exact ok_inlY | refine ok_nite (fun _ => ?_) fun _ => ?_ | refine ok_ite (fun _ => ?_) fun _ => ?_ | refine ok_not (fun _ => ?_) fun _ => ?_ | refine ok_cond (fun _ => ?_) fun _ => ?_) | (with_reducible refine ok_next ?_ ?_ ?_ <;> (first | assumption | omega | rw [w64_of] <;> omega)) | with_reducible refine ok_bind (ok_idx (by (first | assumption | omega | rw [w64_of] <;> omega)) (by (first | assumption | omega | rw [w64_of] <;> omega))) (fun _ _ => ?_) | (with_reducible refine Ok.yes (trace_outside_3_k1_ok _ _) <;> (first | assumption | omega | rw [w64_of] <;> omega)) | (with_reducible refine ok_bind (Q := Yes) ?_ fun _ _ => ?_) | dsimp only)
theorem trace_outside_4_k1_ok (a b) : Tot (trace_outside_4_k1 a b) := by
 unfold trace_outside_4_k1
 repeat' (first | (with_reducible first | exact ok_yes | exact ok_inrY | exact ok_inlY | refine ok_nite (fun _ => ?_) fun _ => ?_ | refine ok_ite (fun _ => ?_) fun _ => ?_ | refine ok_not (fun _ => ?_) fun _ => ?_ | refine ok_cond (fun _ => ?_) fun _ => ?_) | (with_reducible refine ok_next ?_ ?_ ?_ <;> (first | assumption | omega | rw [w64_of] <;> omega)) | with_reducible refine ok_bind (ok_idx (by (first | assumption | omega | rw [w64_of] <;> omega)) (by (first | assumption | omega | rw [w64_of] <;> omega))) (fun _ _ => ?_) | (with_reducible refine Ok.yes (trace_within_ok _ _) <;> (first | assumption | omega | rw [w64_of] <;> omega)) | (with_reducible refine Ok.yes (trace_inside_ok _ _) <;> (first | assumption | omega | rw [w64_of] <;> omega)) | (with_reducible refine ok_bind (Q := Yes) ?_ fun _ _ => ?_) | dsimp only)
theorem slices_ContainsFunc_api_Flow_api_Flow_k1_ok (l : List api_Flow) (a) (h : l.length ≤ 9223372036854775807) : Tot (slices_ContainsFunc_api_Flow_api_Flow_k1 l a) := by
 unfold slices_ContainsFunc_api_Flow_api_Flow_k1
 refine ok_bind (Q := Yes) ?_ (fun _ _ => ok_yes)
 unfold slices_IndexFunc_api_Flow_api_Flow_k1
 refine ok_bindS (Q := Yes) (ok_up l.length (by omega) fun i h1 h2 => ?_) (fun _ _ => ?_) (fun _ _ => ?_)
 ·unfold slices_IndexFunc_api_Flow_api_Flow_k1_L1
  repeat' (first | (with_reducible first | exact ok_yes | exact ok_inrY | exact ok_inlY | refine ok_nite (fun _ => ?_) fun _ => ?_ | refine ok_ite (fun _ => ?_) fun _ => ?_ | refine ok_not (fun _ => ?_) fun _ => ?_ | refine ok_cond (fun _ => ?_) fun _ => ?_) | (with_reducible refine ok_next ?_ ?_ ?_ <;> (first | assumption | omega | rw [w64_of] <;> omega)) | with_reducible refine ok_bind (ok_idx (by (first | assumption | omega | rw [w64_of] <;> omega)) (by (first | assumption | omega | rw [w64_of] <;> omega))) (fun _ _ => ?_) | (with_reducible refine Ok.yes (trace_outside_4_k1_ok _ _) <;> (first | assumption | omega | rw [w64_of] <;> omega)) | (with_reducible refine ok_bind (Q := Yes) ?_ fun _ _ => ?_) | dsimp only)
 ·repeat' (first | (with_reducible first | exact ok_yes | exact ok_inrY | exact ok_inlY | refine ok_nite (fun _ => ?_) fun _ => ?_ | refine ok_ite (fun _ => ?_) fun _ => ?_ | refine ok_not (fun _ => ?_) fun _ => ?_ | refine ok_cond (fun _ => ?_) fun _ => ?_) | (with_reducible refine ok_next ?_ ?_ ?_ <;> (first | assumption | omega | rw [w64_of] <;> omega)) | with_reducible refine ok_bind (ok_idx (by (first | assumption | omega | rw [w64_of] <;> omega)) (by (first | assumption | omega | rw [w64_of] <;> omega))) (fun _ _ => ?_) | (with_reducible refine Ok.yes (trace_outside_4_k1_ok _ _) <;> (first | assumption | omega | rw [w64_of] <;> omega)) | (with_reducible refine ok_bind (Q := Yes) ?_ fun _ _ => ?_) | dsimp only)
 ·repeat' (first | (with_reducible first | exact ok_yes | exact ok_inrY | exact ok_inlY | refine ok_nite (fun _ => ?_) fun _ => ?_ | refine ok_ite (fun _ => ?_) fun _ => ?_ | refine ok_not (fun _ => ?_) fun _ => ?_ | refine ok_cond (fun _ => ?_) fun _ => ?_) | (with_reducible refine ok_next ?_ ?_ ?_ <;> (first | assumption | omega | rw [w64_of] <;> omega)) | with_reducible refine ok_bind (ok_idx (by (first | assumption | omega | rw [w64_of] <;> omega)) (by (first | assumption | omega | rw [w64_of] <;> omega))) (fun _ _ => ?_) | (with_reducible refine Ok.yes (trace_outside_4_k1_ok _ _) <;> (first | assumption | omega | rw [w64_of] <;> omega)) | (with_reducible refine ok_bind (Q := Yes) ?_ fun _ _ => ?_) | dsimp only)
theorem trace_outside_5_k1_ok (a b) : Tot (trace_outside_5_k1 a b) := by
 unfold trace_outside_5_k1
 repeat' (first | (with_reducible first | exact ok_yes | exact ok_inrY | exact ok_inlY | refine ok_nite (fun _ => ?_) fun _ => ?_ | refine ok_ite (fun _ => ?_) fun _ => ?_ | refine ok_not (fun _ => ?_) fun _ => ?_ | refine ok_cond (fun _ => ?_) fun _ => ?_) | (with_reducible refine ok_next ?_ ?_ ?_ <;> (first | assumption | omega | rw [w64_of] <;> omega)) | with_reducible refine ok_bind (ok_idx (by (first | assumption | omega | rw [w64_of] <;> omega)) (by (first | assumption | omega | rw [w64_of] <;> omega))) (fun _ _ => ?_) | (with_reducible refine Ok.yes (trace_within_ok _ _) <;> (first | assumption | omega | rw [w64_of] <;> omega)) | (with_reducible refine Ok.yes (trace_inside_ok _ _) <;> (first | assumption | omega | rw [w64_of] <;> omega)) | (with_reducible refine ok_bind (Q := Yes) ?_ fun _ _ => ?_) | dsimp only)
theorem slices_ContainsFunc_api_Sample_api_Sample_k1_ok (l : List api_Sample) (a) (h : l.length ≤ 9223372036854775807) : Tot (slices_ContainsFunc_api_Sample_api_Sample_k1 l a) := by
 unfold slices_ContainsFunc_api_Sample_api_Sample_k1
 refine ok_bind (Q := Yes) ?_ (fun _ _ => ok_yes)
 unfold slices_IndexFunc_api_Sample_api_Sample_k1
 refine ok_bindS (Q := Yes) (ok_up l.length (by omega) fun i h1 h2 => ?_) (fun _ _ => ?_) (fun _ _ => ?_)
 ·unfold slices_IndexFunc_api_Sample_api_Sample_k1_L1
  repeat' (first | (with_reducible first | exact ok_yes | exact ok_inrY | exact ok_inlY | refine ok_nite (fun _ => ?_) fun _ => ?_ | refine ok_ite (fun _ => ?_) fun _ => ?_ | refine ok_not (fun _ => ?_) fun _ => ?_ | refine ok_cond (fun _ => ?_) fun _ => ?_) | (with_reducible refine ok_next ?_ ?_ ?_ <;> (first | assumption | omega | rw [w64_of] <;> omega)) | with_reducible refine ok_bind (ok_idx (by (first | assumption | omega | rw [w64_of] <;> omega)) (by (first | assumption | omega | rw [w64_of] <;> omega))) (fun _ _ => ?_) | (with_reducible refine Ok.yes (trace_outside_5_k1_ok _ _) <;> (first | assumption | omega | rw [w64_of] <;> omega)) | (with_reducible refine ok_bind (Q := Yes) ?_ fun _ _ => ?_) | dsimp only)
 ·repeat' (first | (with_reducible first | exact ok_yes | exact ok_inrY | exact ok_inlY | refine ok_nite (fun _ => ?_) fun _ => ?_ | refine ok_ite (fun _ => ?_) fun _ => ?_ | refine ok_not (fun _ => ?_) fun _ => ?_ | refine ok_cond (fun _ => ?_) fun _ => ?_) | (with_reducible refine ok_next ?_ ?_ ?_ <;> (first | assumption | omega | rw [w64_of] <;> omega)) | with_reducible refine ok_bind (ok_idx (by (first | assumption | omega | rw [w64_of] <;> omega)) (by (first | assumption | omega | rw [w64_of] <;> omega))) (fun _ _ => ?_) | (with_reducible refine Ok.yes (trace_outside_5_k1_ok _ _) <;> (first | assumption | omega | rw [w64_of] <;> omega)) | (with_reducible refine ok_bind (Q := Yes) ?_ fun _ _ => ?_) | dsimp only)
 ·repeat' (first | (with_reducible first | exact ok_yes | exact ok_inrY | exact ok_inlY | refine ok_nite (fun _ => ?_) fun _ => ?_ | refine ok_ite (fun _ => ?_) fun _ => ?_ | refine ok_not (fun _ => ?_) fun _ => ?_ | refine ok_cond (fun _ => ?_) fun _ => ?_) | (with_reducible refine ok_next ?_ ?_ ?_ <;> (first | assumption | omega | rw [w64_of] <;> omega)) | with_reducible refine ok_bind (ok_idx (by (first | assumption | omega | rw [w64_of] <;> omega)) (by (first | assumption | omega | rw [w64_of] <;> omega))) (fun _ _ => ?_) | (with_reducible refine Ok.yes (trace_outside_5_k1_ok _ _) <;> (first | assumption | omega | rw [w64_of] <;> omega)) | (with_reducible refine ok_bind (Q := Yes) ?_ fun _ _ => ?_) | dsimp only)
theorem trace_outside_6_k1_ok (a b) : Tot (trace_outside_6_k1 a b) := by
 unfold trace_outside_6_k1
 repeat' (first | (with_reducible first | exact ok_yes | exact ok_inrY | exact ok_inlY | refine ok_nite (fun _ => ?_) fun _ => ?_ | refine ok_ite (fun _ => ?_) fun _ => ?_ | refine ok_not (fun _ => ?_) fun _ => ?_ | refine ok_cond (fun _ => ?_) fun _ => ?_) | (with_reducible refine ok_next ?_ ?_ ?_ <;> (first | assumption | omega | rw [w64_of] <;> omega)) | with_reducible refine ok_bind (ok_idx (by (first | assumption | omega | rw [w64_of] <;> omega)) (by (first | assumption | omega | rw [w64_of] <;> omega))) (fun _ _ => ?_) | (with_reducible refine Ok.yes (trace_within_ok _ _) <;> (first | assumption | omega | rw [w64_of] <;> omega)) | (with_reducible refine Ok.yes (trace_inside_ok _ _) <;> (first | assumption | omega | rw [w64_of] <;> omega)) | (with_reducible refine ok_bind (Q := Yes) ?_ fun _ _ => ?_) | dsimp only)
theorem slices_ContainsFunc_api_Step_api_Step_k1_ok (l : List api_Step) (a) (h : l.length ≤ 9223372036854775807) : Tot (slices_ContainsFunc_api_Step_api_Step_k1 l a) := by
 unfold slices_ContainsFunc_api_Step_api_Step_k1
 refine ok_bind (Q := Yes) ?_ (fun _ _ => ok_yes)
 unfold slices_IndexFunc_api_Step_api_Step_k1
 refine ok_bindS (Q := Yes) (ok_up l.length (by omega) fun i h1 h2 => ?_) (fun _ _ => ?_) (fun _ _ => ?_)
 ·unfold slices_IndexFunc_api_Step_api_Step_k1_L1
  repeat' (first | (with_reducible first | exact ok_yes | exact ok_inrY | exact ok_inlY | refine ok_nite (fun _ => ?_) fun _ => ?_ | refine ok_ite (fun _ => ?_) fun _ => ?_ | refine ok_not (fun _ => ?_) fun _ => ?_ | refine ok_cond (fun _ => ?_) fun _ => ?_) | (with_reducible refine ok_next ?_ ?_ ?_ <;> (first | assumption | omega | rw [w64_of] <;> omega)) | with_reducible refine ok_bind (ok_idx (by (first | assumption | omega | rw [w64_of] <;> omega)) (by (first | assumption | omega | rw [w64_of] <;> omega))) (fun _ _ => ?_) | (with_reducible refine Ok.yes (trace_outside_6_k1_ok _ _) <;> (first | assumption | omega | rw [w64_of] <;> omega)) | (with_reducible refine ok_bind (Q := Yes) ?_ fun _ _ => ?_) | dsimp only)
 ·repeat' (first | (with_reducible first | exact ok_yes | exact ok_inrY | exact ok_inlY | refine ok_nite (fun _ => ?_) fun _ => ?_ | refine ok_ite (fun _ => ?_) fun _ => ?_ | refine ok_not (fun _ => ?_) fun _ => ?_ | refine ok_cond (fun _ => ?_) fun _ => ?_) | (with_reducible refine ok_next ?_ ?_ ?_ <;> (first | assumption | omega | rw [w64_of] <;> omega)) | with_reducible refine ok_bind (ok_idx (by (first | assumption | omega | rw [w64_of] <;> omega)) (by (first | assumption | omega | rw [w64_of] <;> omega))) (fun _ _ => ?_) | (with_reducible refine Ok.yes (trace_outside_6_k1_ok _ _) <;> (first | assumption | omega | rw [w64_of] <;> omega)) | (with_reducible refine ok_bind (Q := Yes) ?_ fun _ _ => ?_) | dsimp only)
 ·repeat' (first | (with_reducible first | exact ok_yes | exact ok_inrY | exact ok_inlY | refine ok_nite (fun _ => ?_) fun _ => ?_ | refine ok_ite (fun _ => ?_) fun _ => ?_ | refine ok_not (fun _ => ?_) fun _ => ?_ | refine ok_cond (fun _ => ?_) fun _ => ?_) | (with_reducible refine ok_next ?_ ?_ ?_ <;> (first | assumption | omega | rw [w64_of] <;> omega)) | with_reducible refine ok_bind (ok_idx (by (first | assumption | omega | rw [w64_of] <;> omega)) (by (first | assumption | omega | rw [w64_of] <;> omega))) (fun _ _ => ?_) | (with_reducible refine Ok.yes (trace_outside_6_k1_ok _ _) <;> (first | assumption | omega | rw [w64_of] <;> omega)) | (with_reducible refine ok_bind (Q := Yes) ?_ fun _ _ => ?_) | dsimp only)
theorem trace_outside_ok (t : api_Trace) (h : Siz t) : Tot (trace_outside t) := by
 unfold trace_outside
 repeat' (first | (with_reducible first | exact ok_yes | exact ok_inrY | exact ok_inlY | refine ok_nite (fun _ => ?_) fun _ => ?_ | refine ok_ite (fun _ => ?_) fun _ => ?_ | refine ok_not (fun _ => ?_) fun _ => ?_ | refine ok_cond (fun _ => ?_) fun _ => ?_) | (with_reducible refine ok_next ?_ ?_ ?_ <;> (first | assumption | omega | rw [w64_of] <;> omega)) | with_reducible refine ok_bind (ok_idx (by (first | assumption | omega | rw [w64_of] <;> omega)) (by (first | assumption | omega | rw [w64_of] <;> omega))) (fun _ _ => ?_) | (with_reducible refine Ok.yes (slices_ContainsFunc_api_Slice_api_Slice_k1_ok _ _ h.sl) <;> (first | assumption | omega | rw [w64_of] <;> omega)) | (with_reducible refine Ok.yes (slices_ContainsFunc_api_State_api_State_k1_ok _ _ h.st) <;> (first | assumption | omega | rw [w64_of] <;> omega)) | (with_reducible refine Ok.yes (slices_ContainsFunc_api_Block_api_Block_k1_ok _ _ h.bl) <;> (first | assumption | omega | rw [w64_of] <;> omega)) | (with_reducible refine Ok.yes (slices_ContainsFunc_api_Flow_api_Flow_k1_ok _ _ h.fl) <;> (first | assumption | omega | rw [w64_of] <;> omega)) | (with_reducible refine Ok.yes (slices_ContainsFunc_api_Sample_api_Sample_k1_ok _ _ h.sa) <;> (first | assumption | omega | rw [w64_of] <;> omega)) | (with_reducible refine Ok.yes (slices_ContainsFunc_api_Step_api_Step_k1_ok _ _ h.sp) <;> (first | assumption | omega | rw [w64_of] <;> omega)) | (with_reducible refine ok_bind (Q := Yes) ?_ fun _ _ => ?_) | dsimp only)
theorem slices_Index_int_int_ok (l : List Int) (a : Int) (h : l.length ≤ 9223372036854775807) : Tot (slices_Index_int_int l a) := by
 unfold slices_Index_int_int
 refine ok_bindS (Q := Yes) (ok_up l.length (by omega) fun i h1 h2 => ?_) (fun _ _ => ?_) (fun _ _ => ?_)
 ·unfold slices_Index_int_int_L1
  repeat' (first | (with_reducible first | exact ok_yes | exact ok_inrY | exact ok_inlY | refine ok_nite (fun _ => ?_) fun _ => ?_ | refine ok_ite (fun _ => ?_) fun _ => ?_ | refine ok_not (fun _ => ?_) fun _ => ?_ | refine ok_cond (fun _ => ?_) fun _ => ?_) | (with_reducible refine ok_next ?_ ?_ ?_ <;> (first | assumption | omega | rw [w64_of] <;> omega)) | with_reducible refine ok_bind (ok_idx (by (first | assumption | omega | rw [w64_of] <;> omega)) (by (first | assumption | omega | rw [w64_of] <;> omega))) (fun _ _ => ?_) | (with_reducible refine ok_bind (Q := Yes) ?_ fun _ _ => ?_) | dsimp only)
 ·repeat' (first | (with_reducible first | exact ok_yes | exact ok_inrY | exact ok_inlY | refine ok_nite (fun _ => ?_) fun _ => ?_ | refine ok_ite (fun _ => ?_) fun _ => ?_ | refine ok_not (fun _ => ?_) fun _ => ?_ | refine ok_cond (fun _ => ?_) fun _ => ?_) | (with_reducible refine ok_next ?_ ?_ ?_ <;> (first | assumption | omega | rw [w64_of] <;> omega)) | with_reducible refine ok_bind (ok_idx (by (first | assumption | omega | rw [w64_of] <;> omega)) (by (first | assumption | omega | rw [w64_of] <;> omega))) (fun _ _ => ?_) | (with_reducible refine ok_bind (Q := Yes) ?_ fun _ _ => ?_) | dsimp only)
 ·repeat' (first | (with_reducible first | exact ok_yes | exact ok_inrY | exact ok_inlY | refine ok_nite (fun _ => ?_) fun _ => ?_ | refine ok_ite (fun _ => ?_) fun _ => ?_ | refine ok_not (fun _ => ?_) fun _ => ?_ | refine ok_cond (fun _ => ?_) fun _ => ?_) | (with_reducible refine ok_next ?_ ?_ ?_ <;> (first | assumption | omega | rw [w64_of] <;> omega)) | with_reducible refine ok_bind (ok_idx (by (first | assumption | omega | rw [w64_of] <;> omega)) (by (first | assumption | omega | rw [w64_of] <;> omega))) (fun _ _ => ?_) | (with_reducible refine ok_bind (Q := Yes) ?_ fun _ _ => ?_) | dsimp only)
theorem slices_Contains_int_int_ok (l : List Int) (a : Int) (h : l.length ≤ 9223372036854775807) : Tot (slices_Contains_int_int l a) := by
 unfold slices_Contains_int_int
 repeat' (first | (with_reducible first | exact ok_yes | exact ok_inrY | exact ok_inlY | refine ok_nite (fun _ => ?_) fun _ => ?_ | refine ok_ite (fun _ => ?_) fun _ => ?_ | refine ok_not (fun _ => ?_) fun _ => ?_ | refine ok_cond (fun _ => ?_) fun _ => ?_) | (with_reducible refine ok_next ?_ ?_ ?_ <;> (first | assumption | omega | rw [w64_of] <;> omega)) | with_reducible refine ok_bind (ok_idx (by (first | assumption | omega | rw [w64_of] <;> omega)) (by (first | assumption | omega | rw [w64_of] <;> omega))) (fun _ _ => ?_) | (with_reducible refine Ok.yes (slices_Index_int_int_ok _ _ h) <;> (first | assumption | omega | rw [w64_of] <;> omega)) | (with_reducible refine ok_bind (Q := Yes) ?_ fun _ _ => ?_) | dsimp only)
theorem state_fields_ok (a) : Tot (state_fields a) := by
 unfold state_fields
 repeat' (first | (with_reducible first | exact ok_yes | exact ok_inrY | exact ok_inlY | refine ok_nite (fun _ => ?_) fun _ => ?_ | refine ok_ite (fun _ => ?_) fun _ => ?_ | refine ok_not (fun _ => ?_) fun _ => ?_ | refine ok_cond (fun _ => ?_) fun _ => ?_) | (with_reducible refine ok_next ?_ ?_ ?_ <;> (first | assumption | omega | rw [w64_of] <;> omega)) | with_reducible refine ok_bind (ok_idx (by (first | assumption | omega | rw [w64_of] <;> omega)) (by (first | assumption | omega | rw [w64_of] <;> omega))) (fun _ _ => ?_) | (with_reducible refine ok_bind (Q := Yes) ?_ fun _ _ => ?_) | dsimp only)
theorem state_same_ok (a b) : Tot (state_same a b) := by
 unfold state_same
 repeat' (first | (with_reducible first | exact ok_yes | exact ok_inrY | exact ok_inlY | refine ok_nite (fun _ => ?_) fun _ => ?_ | refine ok_ite (fun _ => ?_) fun _ => ?_ | refine ok_not (fun _ => ?_) fun _ => ?_ | refine ok_cond (fun _ => ?_) fun _ => ?_) | (with_reducible refine ok_next ?_ ?_ ?_ <;> (first | assumption | omega | rw [w64_of] <;> omega)) | with_reducible refine ok_bind (ok_idx (by (first | assumption | omega | rw [w64_of] <;> omega)) (by (first | assumption | omega | rw [w64_of] <;> omega))) (fun _ _ => ?_) | (with_reducible refine ok_bind (Q := Yes) ?_ fun _ _ => ?_) | dsimp only)
def Up (l : List api_Slice) (n : Int) : Prop := ∀ (j : Nat) y, (j : Int) < n → l[j]? = some y → -1 ≤ y.fParent ∧ y.fParent < (j : Int)
theorem slice_nested_ok (l : List api_Slice) (h : l.length ≤ 9223372036854775807) : Ok (slice_nested l) (fun b => b = true → Up l l.length) := by
 unfold slice_nested
 refine ok_bindS (Q := InlR (fun _ => Up l l.length) (fun b => b = false)) (ok_upI l.length (Up l) h (by intro j y hj; omega) (fun i hI h1 h2 => ?_)) (fun _ hq => ok_some (fun _ => hq)) (fun r hr => ok_some (fun e => ?_))
 ·unfold slice_nested_L1
  refine ok_ite (fun hi => ?_) (fun hi => ok_inr (by have : i = l.length := (by omega); subst this; exact hI))
  refine ok_bind (ok_idx h1 hi) (fun y hy => ?_)
  have no : InlR (fun _ : Unit => Up l l.length) (fun b => b = false) (.inr false) := rfl
  refine ok_bind (Q := fun v => v = false → -1 ≤ y.fParent ∧ y.fParent < i) ?_ (fun v hv => ?_)
  ·refine ok_ite (fun _ => ok_some (by simp)) (fun h3 => ok_some (fun h4 => ?_))
   have := of_decide_eq_false h4
   omega
  refine ok_cond (fun _ => ok_inr no) (fun h0 => ?_)
  have hp := hv h0
  have nx : Up l (i + 1) := by
   intro j z hj hz
   by_cases e : (j : Int) = i
   ·have : i.toNat = j := by omega
    rw [this] at hy
    rw [hy] at hz; cases hz
    omega
   ·exact hI j z (by omega) hz
  refine ok_ite (fun _ => ?_) (fun hne => ?_)
  ·refine ok_nite (fun _ => ok_inr no) (fun _ => ok_nextI nx h1 hi h)
  ·refine ok_bind (ok_idx (by omega) (by omega)) (fun z _ => ?_)
   refine ok_bind (Q := Yes) (by repeat' (first | (with_reducible first | exact ok_yes | exact ok_inrY | exact ok_inlY | refine ok_nite (fun _ => ?_) fun _ => ?_ | refine ok_ite (fun _ => ?_) fun _ => ?_ | refine ok_not (fun _ => ?_) fun _ => ?_ | refine ok_cond (fun _ => ?_) fun _ => ?_) | (with_reducible refine ok_next ?_ ?_ ?_ <;> (first | assumption | omega | rw [w64_of] <;> omega)) | with_reducible refine ok_bind (ok_idx (by (first | assumption | omega | rw [w64_of] <;> omega)) (by (first | assumption | omega | rw [w64_of] <;> omega))) (fun _ _ => ?_) | (with_reducible refine ok_bind (Q := Yes) ?_ fun _ _ => ?_) | dsimp only)) (fun v _ => ?_)
   refine ok_cond (fun _ => ok_inr no) (fun _ => ok_nextI nx h1 hi h)
 ·have : r = false := hr
  simp [this] at e
theorem slice_under_ok (l : List api_Slice) (h : l.length ≤ 9223372036854775807) (hu : Up l l.length) (a b : Int) (hb : b < l.length) : Tot (slice_under l a b) := by
 unfold slice_under
 refine ok_bindS (Q := Yes) (ok_loop (fun i : Int => i < l.length) (fun i : Int => (i + 1).toNat) (fun i hi => ?_) hb (by simp [manyRounds]; omega)) (fun _ _ => ok_yes) (fun _ _ => ok_yes)
 unfold slice_under_L1
 refine ok_ite (fun h0 => ?_) (fun _ => ok_inrY)
 refine ok_ite (fun _ => ok_inrY) (fun _ => ?_)
 refine ok_bind (ok_idx h0 hi) (fun y hy => ?_)
 have := hu i.toNat y (by omega) hy
 exact ok_inl ⟨by omega, by omega⟩
theorem slice_apart_ok (l : List api_Slice) (h : l.length ≤ 9223372036854775807) (hu : Up l l.length) : Tot (slice_apart l) := by
 unfold slice_apart
 refine ok_bindS (Q := Yes) (ok_up l.length h fun i h1 h2 => ?_) (fun _ _ => ok_yes) (fun _ _ => ok_yes)
 unfold slice_apart_L2
 refine ok_ite (fun hi => ?_) (fun _ => ok_inrY)
 refine ok_bind (ok_idx h1 hi) (fun y hy => ?_)
 refine ok_bindS (Q := InlR Yes (InlR (fun _ => False) Yes)) (ok_up2 l.length (fun _ _ => True) h trivial (fun a j _ h3 h4 => ?_)) (fun _ _ => ?_) (fun r hr => ?_)
 ·unfold slice_apart_L1
  dsimp only
  refine ok_ite (fun hj => ?_) (fun _ => ok_inr trivial)
  refine ok_bind (ok_idx h3 hj) (fun z hz => ?_)
  refine ok_bind (Q := Yes) (by repeat' (first | (with_reducible first | exact ok_yes | exact ok_inrY | exact ok_inlY | refine ok_nite (fun _ => ?_) fun _ => ?_ | refine ok_ite (fun _ => ?_) fun _ => ?_ | refine ok_not (fun _ => ?_) fun _ => ?_ | refine ok_cond (fun _ => ?_) fun _ => ?_) | (with_reducible refine ok_next ?_ ?_ ?_ <;> (first | assumption | omega | rw [w64_of] <;> omega)) | with_reducible refine ok_bind (ok_idx (by (first | assumption | omega | rw [w64_of] <;> omega)) (by (first | assumption | omega | rw [w64_of] <;> omega))) (fun _ _ => ?_) | (with_reducible refine ok_bind (Q := Yes) ?_ fun _ _ => ?_) | dsimp only)) (fun v _ => ?_)
  refine ok_bind (Q := Yes) (by repeat' (first | (with_reducible first | exact ok_yes | exact ok_inrY | exact ok_inlY | refine ok_nite (fun _ => ?_) fun _ => ?_ | refine ok_ite (fun _ => ?_) fun _ => ?_ | refine ok_not (fun _ => ?_) fun _ => ?_ | refine ok_cond (fun _ => ?_) fun _ => ?_) | (with_reducible refine ok_next ?_ ?_ ?_ <;> (first | assumption | omega | rw [w64_of] <;> omega)) | with_reducible refine ok_bind (ok_idx (by (first | assumption | omega | rw [w64_of] <;> omega)) (by (first | assumption | omega | rw [w64_of] <;> omega))) (fun _ _ => ?_) | (with_reducible refine Ok.yes (slice_under_ok l h hu _ _ hi) <;> (first | assumption | omega | rw [w64_of] <;> omega)) | (with_reducible refine ok_bind (Q := Yes) ?_ fun _ _ => ?_) | dsimp only)) (fun v _ => ?_)
  refine ok_cond (fun _ => ok_inr trivial) (fun _ => ok_next2 (Inv := fun _ _ => True) trivial h3 hj h)
 ·dsimp only
  repeat' (first | (with_reducible first | exact ok_yes | exact ok_inrY | exact ok_inlY | refine ok_nite (fun _ => ?_) fun _ => ?_ | refine ok_ite (fun _ => ?_) fun _ => ?_ | refine ok_not (fun _ => ?_) fun _ => ?_ | refine ok_cond (fun _ => ?_) fun _ => ?_) | (with_reducible refine ok_next ?_ ?_ ?_ <;> (first | assumption | omega | rw [w64_of] <;> omega)) | with_reducible refine ok_bind (ok_idx (by (first | assumption | omega | rw [w64_of] <;> omega)) (by (first | assumption | omega | rw [w64_of] <;> omega))) (fun _ _ => ?_) | (with_reducible refine ok_bind (Q := Yes) ?_ fun _ _ => ?_) | dsimp only)
 ·rcases r with r | r
  ·exact (hr : False).elim
  ·exact ok_inrY
theorem slice_Check_ok (l : List api_Slice) (h : l.length ≤ 9223372036854775807) (hx : ∀ x ∈ l, okN x.fName) : Tot (slice_Check l) := by
 unfold slice_Check
 refine ok_bindS (Q := Yes) (ok_up l.length h fun i h1 h2 => ?_) (fun _ _ => ?_) (fun _ _ => ok_yes)
 ·unfold slice_Check_L1
  repeat' (first | (with_reducible first | exact ok_yes | exact ok_inrY | exact ok_inlY | refine ok_nite (fun _ => ?_) fun _ => ?_ | refine ok_ite (fun _ => ?_) fun _ => ?_ | refine ok_not (fun _ => ?_) fun _ => ?_ | refine ok_cond (fun _ => ?_) fun _ => ?_) | (with_reducible refine ok_next ?_ ?_ ?_ <;> (first | assumption | omega | rw [w64_of] <;> omega)) | with_reducible refine ok_bind (ok_idx (by (first | assumption | omega | rw [w64_of] <;> omega)) (by (first | assumption | omega | rw [w64_of] <;> omega))) (fun _ _ => ?_) | (with_reducible refine Ok.yes (slice_compare_ok _ _) <;> (first | assumption | omega | rw [w64_of] <;> omega)) | (with_reducible refine Ok.yes (spans_Valid_ok _) <;> (first | assumption | omega | rw [w64_of] <;> omega)) | (with_reducible refine Ok.yes (intern_Name_ok _ (hx _ (List.mem_of_getElem? (by assumption)))) <;> (first | assumption | omega | rw [w64_of] <;> omega)) | (with_reducible refine ok_bind (Q := Yes) ?_ fun _ _ => ?_) | dsimp only)
 ·dsimp only
  refine ok_bind (Q := Yes) ?_ (fun _ _ => by repeat' (first | (with_reducible first | exact ok_yes | exact ok_inrY | exact ok_inlY | refine ok_nite (fun _ => ?_) fun _ => ?_ | refine ok_ite (fun _ => ?_) fun _ => ?_ | refine ok_not (fun _ => ?_) fun _ => ?_ | refine ok_cond (fun _ => ?_) fun _ => ?_) | (with_reducible refine ok_next ?_ ?_ ?_ <;> (first | assumption | omega | rw [w64_of] <;> omega)) | with_reducible refine ok_bind (ok_idx (by (first | assumption | omega | rw [w64_of] <;> omega)) (by (first | assumption | omega | rw [w64_of] <;> omega))) (fun _ _ => ?_) | (with_reducible refine ok_bind (Q := Yes) ?_ fun _ _ => ?_) | dsimp only))
  refine ok_bind (slice_nested_ok l h) (fun b hb => ?_)
  refine ok_not (fun _ => ok_yes) (fun e => ?_)
  repeat' (first | (with_reducible first | exact ok_yes | exact ok_inrY | exact ok_inlY | refine ok_nite (fun _ => ?_) fun _ => ?_ | refine ok_ite (fun _ => ?_) fun _ => ?_ | refine ok_not (fun _ => ?_) fun _ => ?_ | refine ok_cond (fun _ => ?_) fun _ => ?_) | (with_reducible refine ok_next ?_ ?_ ?_ <;> (first | assumption | omega | rw [w64_of] <;> omega)) | with_reducible refine ok_bind (ok_idx (by (first | assumption | omega | rw [w64_of] <;> omega)) (by (first | assumption | omega | rw [w64_of] <;> omega))) (fun _ _ => ?_) | (with_reducible refine Ok.yes (slice_apart_ok l h (hb e)) <;> (first | assumption | omega | rw [w64_of] <;> omega)) | (with_reducible refine ok_bind (Q := Yes) ?_ fun _ _ => ?_) | dsimp only)
theorem memory_Check_ok (l : List api_Block) (h : l.length ≤ 9223372036854775807) (hx : ∀ x ∈ l, x.fStack.length ≤ 9223372036854775807 ∧ ∀ y ∈ x.fStack, okN y) : Tot (memory_Check l) := by
 unfold memory_Check
 refine ok_bindS (Q := Yes) (ok_up l.length h fun i h1 h2 => ?_) (fun _ _ => ok_yes) (fun _ _ => ok_yes)
 unfold memory_Check_L2
 refine ok_ite (fun hi => ?_) (fun _ => ok_inrY)
 refine ok_bind (ok_idx h1 hi) (fun y hy => ?_)
 refine ok_bind (Q := Yes) (by repeat' (first | (with_reducible first | exact ok_yes | exact ok_inrY | exact ok_inlY | refine ok_nite (fun _ => ?_) fun _ => ?_ | refine ok_ite (fun _ => ?_) fun _ => ?_ | refine ok_not (fun _ => ?_) fun _ => ?_ | refine ok_cond (fun _ => ?_) fun _ => ?_) | (with_reducible refine ok_next ?_ ?_ ?_ <;> (first | assumption | omega | rw [w64_of] <;> omega)) | with_reducible refine ok_bind (ok_idx (by (first | assumption | omega | rw [w64_of] <;> omega)) (by (first | assumption | omega | rw [w64_of] <;> omega))) (fun _ _ => ?_) | (with_reducible refine Ok.yes (spans_Valid_ok _) <;> (first | assumption | omega | rw [w64_of] <;> omega)) | (with_reducible refine ok_bind (Q := Yes) ?_ fun _ _ => ?_) | dsimp only)) (fun v _ => ?_)
 refine ok_cond (fun _ => ok_inrY) (fun _ => ?_)
 refine ok_bind (Q := Yes) (intern_Frames_ok _ (hx _ (List.mem_of_getElem? hy)).1 (hx _ (List.mem_of_getElem? hy)).2) (fun v _ => ?_)
 refine ok_nite (fun _ => ok_inrY) (fun _ => ?_)
 refine ok_bind (Q := Yes) (by repeat' (first | (with_reducible first | exact ok_yes | exact ok_inrY | exact ok_inlY | refine ok_nite (fun _ => ?_) fun _ => ?_ | refine ok_ite (fun _ => ?_) fun _ => ?_ | refine ok_not (fun _ => ?_) fun _ => ?_ | refine ok_cond (fun _ => ?_) fun _ => ?_) | (with_reducible refine ok_next ?_ ?_ ?_ <;> (first | assumption | omega | rw [w64_of] <;> omega)) | with_reducible refine ok_bind (ok_idx (by (first | assumption | omega | rw [w64_of] <;> omega)) (by (first | assumption | omega | rw [w64_of] <;> omega))) (fun _ _ => ?_) | (with_reducible refine ok_bind (Q := Yes) ?_ fun _ _ => ?_) | dsimp only)) (fun v _ => ?_)
 refine ok_cond (fun _ => ok_inrY) (fun _ => ?_)
 refine ok_bind (Q := fun ys => ys.length ≤ 9223372036854775807) ?_ (fun ys hys => ?_)
 ·unfold slcPart
  rw [if_pos ⟨by omega, by omega, by omega⟩]
  exact ok_some (by simp; omega)
 refine ok_bindS (Q := InlR Yes (InlR (fun _ => False) Yes)) (ok_up ys.length hys fun j h3 h4 => ?_) (fun _ _ => ok_next h1 hi h) (fun r hr => ?_)
 ·unfold memory_Check_L1
  refine ok_ite (fun hj => ?_) (fun _ => ok_inr trivial)
  refine ok_bind (ok_idx h3 hj) (fun z hz => ?_)
  refine ok_bind (Q := Yes) (by repeat' (first | (with_reducible first | exact ok_yes | exact ok_inrY | exact ok_inlY | refine ok_nite (fun _ => ?_) fun _ => ?_ | refine ok_ite (fun _ => ?_) fun _ => ?_ | refine ok_not (fun _ => ?_) fun _ => ?_ | refine ok_cond (fun _ => ?_) fun _ => ?_) | (with_reducible refine ok_next ?_ ?_ ?_ <;> (first | assumption | omega | rw [w64_of] <;> omega)) | with_reducible refine ok_bind (ok_idx (by (first | assumption | omega | rw [w64_of] <;> omega)) (by (first | assumption | omega | rw [w64_of] <;> omega))) (fun _ _ => ?_) | (with_reducible refine ok_bind (Q := Yes) ?_ fun _ _ => ?_) | dsimp only)) (fun v _ => ?_)
  refine ok_cond (fun _ => ok_inr trivial) (fun _ => ok_next h3 hj hys)
 ·rcases r with r | r
  ·exact (hr : False).elim
  ·exact ok_inrY
theorem slices_Index_int_int_lt (l : List Int) (a : Int) (h : l.length ≤ 9223372036854775807) : Ok (slices_Index_int_int l a) (fun r => (0 ≤ r → l[r.toNat]? = some a) ∧ r < l.length) := by
 unfold slices_Index_int_int
 refine ok_bindS (Q := InlR Yes (fun r : Int => (0 ≤ r → l[r.toNat]? = some a) ∧ r < l.length)) (ok_up l.length h fun i h1 h2 => ?_) (fun _ _ => ok_some (And.intro (by omega) (by omega))) (fun _ hr => ?_)
 rotate_left
 ·exact ok_some hr
 unfold slices_Index_int_int_L1
 refine ok_ite (fun hi => ?_) (fun _ => ok_inr trivial)
 refine ok_bind (ok_idx h1 hi) (fun y hy => ?_)
 exact ok_ite (fun e => ok_inr ⟨fun _ => by rw [hy, e], hi⟩) (fun _ => ok_next h1 hi h)
theorem state_distinct_ok (l : List api_Thread) (h : l.length ≤ 1000000) : Ok (state_distinct l) (fun r => r.length ≤ l.length) := by
 unfold state_distinct
 refine ok_bind (Q := fun r => r.length ≤ l.length) (ok_up2 l.length (fun a i => (a.length : Int) ≤ i) (by omega) (by simp) (fun a i hI h1 h2 => ?_)) (fun r hr => ok_some hr)
 unfold state_distinct_L1
 dsimp only
 refine ok_ite (fun hi => ?_) (fun _ => ok_inr (by omega))
 refine ok_bind (Q := fun r : List Int => (r.length : Int) ≤ i + 1) ?_ (fun r hr => ok_next2 (Inv := fun (a : List Int) i => (a.length : Int) ≤ i) hr h1 hi (by omega))
 refine ok_bind (ok_idx h1 hi) (fun y hy => ?_)
 refine ok_bind (slices_Contains_int_int_ok a y.fId (by omega)) (fun v _ => ?_)
 refine ok_not (fun _ => ?_) (fun _ => ok_some (by omega))
 rw [room_ok (by simp; omega) (by simp; omega)]
 exact ok_some (by simp; omega)
def Disj (l : List api_State) (n : Int) : Prop := ∀ (j k : Nat) s s', j < k → (k : Int) < n → l[j]? = some s → l[k]? = some s' → s.fThread = s'.fThread → s.fSpan.fTo ≤ s'.fSpan.fFrom
def Vald (l : List api_State) (n : Int) : Prop := ∀ (j : Nat) s, (j : Int) < n → l[j]? = some s → 0 ≤ s.fSpan.fFrom ∧ s.fSpan.fFrom < s.fSpan.fTo ∧ s.fSpan.fTo ≤ 1000000000000
def Gd (l : List api_State) : Prop := Disj l l.length ∧ Vald l l.length
structure Tab (l : List api_State) (ix : List Int) (r i : Int) : Prop where
 le : ∀ (j : Nat) s, (j : Int) < i → l[j]? = some s → ∃ x, slices_Index_int_int ix s.fThread = some x ∧ x ≤ r
 last : ∀ s, 0 < i → l[(i - 1).toNat]? = some s → slices_Index_int_int ix s.fThread = some r
 pos : 0 ≤ r → 0 < i
 neg : i = 0 → r = -1
 rng : -1 ≤ r ∧ r < ix.length
 v : Vald l i
 d : Disj l i
theorem rows_next {l : List api_State} {ix : List Int} {r r' i : Int} {y : api_State} (hix : ix.length ≤ 9223372036854775807) (H : Tab l ix r i) (h1 : 0 ≤ i) (hy : l[i.toNat]? = some y) (hr : slices_Index_int_int ix y.fThread = some r') (h0 : 0 ≤ r') (hv : 0 ≤ y.fSpan.fFrom ∧ y.fSpan.fFrom < y.fSpan.fTo ∧ y.fSpan.fTo ≤ 1000000000000)
  (hs : r' = r → ∀ s, l[(i - 1).toNat]? = some s → y.fSpan.fFrom = s.fSpan.fTo) (hn : r' ≠ r → r' = r + 1) : Tab l ix r' (i + 1) := by
 have hle : r ≤ r' := by
  by_cases e : r' = r
  ·omega
  ·have := hn e; omega
 refine ⟨fun j s hj hs' => ?_, fun s _ hs' => ?_, fun _ => by omega, fun _ => by omega, ⟨by omega, ((slices_Index_int_int_lt ix _ hix).of_eq hr).2⟩, fun j s hj hs' => ?_, fun j k s s' hjk hk hj' hk' ht => ?_⟩
 ·by_cases e : (j : Int) = i
  ·have : i.toNat = j := by omega
   rw [this, hs'] at hy; cases hy
   exact ⟨r', hr, by omega⟩
  ·obtain ⟨x, h2, h3⟩ := H.le j s (by omega) hs'
   exact ⟨x, h2, by omega⟩
 ·rw [show i + 1 - 1 = i by omega, hy] at hs'; cases hs'
  exact hr
 ·by_cases e : (j : Int) = i
  ·have : i.toNat = j := by omega
   rw [this, hs'] at hy; cases hy
   exact hv
  ·exact H.v j s (by omega) hs'
 ·by_cases e : (k : Int) = i
  ·have : i.toNat = k := by omega
   rw [this, hk'] at hy; cases hy
   obtain ⟨x, h2, h3⟩ := H.le j s (by omega) hj'
   rw [ht, hr] at h2; cases h2
   by_cases e' : r' = r
   ·obtain ⟨u, hu⟩ : ∃ u, l[(i - 1).toNat]? = some u := by
     have := lt_of_get hk'
     exact ⟨_, List.getElem?_eq_getElem (by omega)⟩
    have h5 := hs e' u hu
    by_cases e2 : j = (i - 1).toNat
    ·subst e2; rw [hj'] at hu; cases hu; omega
    ·have hlu := H.last u (by omega) hu
     have hh : s.fThread = u.fThread → s.fSpan.fTo ≤ u.fSpan.fFrom := H.d j (i - 1).toNat s u (by omega) (by omega) hj' hu
     have hvu := H.v (i - 1).toNat u (by omega) hu
     have a1 := (slices_Index_int_int_lt ix _ hix).of_eq hlu |>.1 (by omega)
     have a2 := (slices_Index_int_int_lt ix _ hix).of_eq hr |>.1 h0
     rw [e', a1] at a2
     injection a2 with a2
     have := hh (by rw [ht, ← a2])
     omega
   ·have := hn e'; omega
  ·exact H.d j k s s' hjk (by omega) hj' hk' ht
theorem spans_Valid_val (s : api_Span) : Ok (spans_Valid s) (fun b => b = true → 0 ≤ s.fFrom ∧ s.fFrom < s.fTo ∧ s.fTo ≤ 1000000000000) := by
 rw [spans_Valid_eq]
 exact ok_some (fun h => of_decide_eq_true h)
theorem state_Check_ok (ths : List api_Thread) (l : List api_State) (ht : ths.length ≤ 1000000) (h : l.length ≤ 9223372036854775807) : Ok (state_Check ths l) (fun r => r = 0 → Gd l) := by
 unfold state_Check
 refine ok_bind (state_distinct_ok ths ht) (fun ix hix => ?_)
 have hix' : ix.length ≤ 9223372036854775807 := by omega
 refine ok_bindS (Q := InlR (fun _ => Gd l) (fun r => r ≠ 0)) (ok_up2 l.length (fun r i => Tab l ix r i) h ⟨by intro j s hj; omega, by intro s hj; omega, by omega, by simp, ⟨by omega, by omega⟩, by intro j s hj; omega, by intro j k s s' _ hj; omega⟩ (fun r i hI h1 h2 => ?_)) (fun r hd => ?_) (fun r hr => ?_)
 ·unfold state_Check_L2
  dsimp only
  have no : ∀ n : Int, n ≠ 0 → InlR (fun _ : Int => Gd l) (fun r => r ≠ 0) (.inr n) := fun n h => h
  refine ok_ite (fun hi => ?_) (fun hi => ok_inr (by have e : i = l.length := (by omega); have g1 := hI.d; have g2 := hI.v; rw [e] at g1 g2; exact ⟨g1, g2⟩))
  refine ok_bind (ok_idx h1 hi) (fun y hy => ?_)
  refine ok_bindE (slices_Index_int_int_ok ix y.fThread hix') (fun x hx => ?_)
  refine ok_ite (fun _ => ok_inr (no _ (by simp))) (fun h0 => ?_)
  refine ok_bind (spans_Valid_val y.fSpan) (fun v hv => ?_)
  refine ok_not (fun _ => ok_inr (no _ (by simp))) (fun ev => ?_)
  refine ok_bind (state_fields_ok y) (fun _ _ => ?_)
  refine ok_not (fun _ => ok_inr (no _ (by simp))) (fun _ => ?_)
  refine ok_bind (Q := fun v => v = false → x = r → ∀ s, l[(i - 1).toNat]? = some s → y.fSpan.fFrom = s.fSpan.fTo) ?_ (fun v1 hv1 => ?_)
  ·refine ok_ite (fun e => ?_) (fun e => ok_some (fun _ e' => absurd e' e))
   have hpos := hI.pos (by omega)
   rw [show w64 (i - 1) = i - 1 from w64_of (by omega)]
   refine ok_bind (ok_idx (by omega) (by omega)) (fun z hz => ?_)
   refine ok_nite (fun _ => ok_some (by simp)) (fun e2 => ?_)
   refine ok_bind (Q := Yes) ⟨z, hz ▸ by simp [idx, hz]; omega, trivial⟩ (fun w _ => ?_)
   refine (ok_bind (Q := Yes) (state_same_ok _ _) (fun b _ => ok_some (P := fun v => v = false → x = r → ∀ s, l[(i - 1).toNat]? = some s → y.fSpan.fFrom = s.fSpan.fTo) (fun _ _ s hs => ?_)))
   rw [hz] at hs; cases hs; exact e2
  refine ok_cond (fun _ => ok_inr (no _ (by simp))) (fun e1 => ?_)
  refine ok_bind (Q := fun v => v = false → x ≠ r → x = r + 1) ?_ (fun v2 hv2 => ?_)
  ·refine ok_nite (fun e => ?_) (fun e => ok_some (fun _ e' => absurd e e'))
   have hb := hI.rng
   rw [w64_of (n := r + 1) (by omega)]
   refine ok_nite (fun _ => ok_some (by simp)) (fun e3 => ok_some (fun _ _ => e3))
  refine ok_cond (fun _ => ok_inr (no _ (by simp))) (fun e2 => ?_)
  exact ok_next2 (Inv := fun r i => Tab l ix r i) (rows_next hix' hI h1 hy hx (by omega) (hv ev) (hv1 e1) (hv2 e2)) h1 hi h
 ·dsimp only
  refine ok_ite (fun _ => ok_some (fun _ => hd)) (fun hne => ?_)
  rw [show w64 ((l.length : Int) - 1) = (l.length : Int) - 1 from w64_of (by omega)]
  refine ok_bind (ok_idx (by omega) (by omega)) (fun y _ => ?_)
  refine ok_bindS (Q := Yes) (ok_up l.length h fun j h3 h4 => ?_) (fun _ _ => ?_) (fun r hr => ok_some (fun _ => hd))
  ·unfold state_Check_L1
   refine ok_ite (fun hj => ?_) (fun _ => ok_inrY)
   refine ok_bind (ok_idx h3 hj) (fun z hz => ?_)
   have e : w64 (j + 1) = j + 1 := w64_of (by omega)
   rw [e]
   refine ok_bind (Q := Yes) ?_ (fun v _ => ?_)
   ·refine ok_ite (fun _ => ok_yes) (fun hne => ?_)
    exact ok_bind (ok_idx (by omega) (by omega)) (fun _ _ => ok_yes)
   ·refine ok_bind (Q := Yes) (by repeat' (first | (with_reducible first | exact ok_yes | exact ok_inrY | exact ok_inlY | refine ok_nite (fun _ => ?_) fun _ => ?_ | refine ok_ite (fun _ => ?_) fun _ => ?_ | refine ok_not (fun _ => ?_) fun _ => ?_ | refine ok_cond (fun _ => ?_) fun _ => ?_) | (with_reducible refine ok_next ?_ ?_ ?_ <;> (first | assumption | omega | rw [w64_of] <;> omega)) | with_reducible refine ok_bind (ok_idx (by (first | assumption | omega | rw [w64_of] <;> omega)) (by (first | assumption | omega | rw [w64_of] <;> omega))) (fun _ _ => ?_) | (with_reducible refine ok_bind (Q := Yes) ?_ fun _ _ => ?_) | dsimp only)) (fun v _ => ?_)
    exact ok_cond (fun _ => ok_inrY) (fun _ => ok_inl ⟨hj, rfl⟩)
  ·exact ok_nite (fun _ => ok_some (fun _ => hd)) (fun _ => ok_some (fun _ => hd))
 ·exact ok_some (fun e => absurd e hr)
theorem trace_tables_ok (t : api_Trace) (h : Siz t) (ht : t.fThreads.length ≤ 1000000) : Ok (trace_tables t) (fun r => r = 0 → Gd t.fStates) := by
 unfold trace_tables
 refine ok_bindS (trace_threads_ok t h.th h.nTh) (fun r hr => ?_) (fun r _ => ?_)
 ·exact ok_nite (fun h0 => ok_some (fun e => absurd e h0)) (fun h0 => absurd h0 hr)
 ·dsimp only
  refine ok_nite (fun h0 => ok_some (fun e => absurd e h0)) (fun _ => ?_)
  refine ok_bind (slice_Check_ok _ h.sl h.nSl) (fun r4 _ => ?_)
  refine ok_bind (trace_known_api_Slice_k1_ok _ _ _ h.sl) (fun r5 _ => ?_)
  refine ok_nite (fun h0 => ok_some (fun e => absurd e h0)) (fun _ => ?_)
  refine ok_bind (state_Check_ok _ _ ht h.st) (fun r6 h6 => ?_)
  refine ok_nite (fun h0 => ok_some (fun e => absurd e h0)) (fun e6 => ?_)
  have hd := h6 e6
  refine ok_bind (flow_Check_ok _ h.fl) (fun r7 _ => ?_)
  refine ok_bind (trace_known_api_Flow_k1_ok _ _ _ h.fl) (fun r8 _ => ?_)
  refine ok_bind (trace_known_api_Flow_k2_ok _ _ _ h.fl) (fun r9 _ => ?_)
  refine ok_nite (fun h0 => ok_some (fun e => absurd e h0)) (fun _ => ?_)
  refine ok_bind (sample_Check_ok _ h.sa h.nSa) (fun r10 _ => ?_)
  refine ok_bind (trace_known_api_Sample_k1_ok _ _ _ h.sa) (fun r11 _ => ?_)
  refine ok_nite (fun h0 => ok_some (fun e => absurd e h0)) (fun _ => ?_)
  refine ok_bind (counter_Check_ok _ h.sp h.nSp) (fun r12 _ => ?_)
  refine ok_nite (fun h0 => ok_some (fun e => absurd e h0)) (fun _ => ?_)
  refine ok_bind (memory_Check_ok _ h.bl h.nBl) (fun r13 _ => ?_)
  refine ok_bind (trace_known_api_Block_k1_ok _ _ _ h.bl) (fun r14 _ => ?_)
  refine ok_nite (fun h0 => ok_some (fun e => absurd e h0)) (fun _ => ?_)
  refine ok_bind (trace_losses_k1_ok _ _ h.lo) (fun r15 _ => ?_)
  exact ok_some (fun _ => hd)
theorem trace_Check_ok (t : api_Trace) (h : Siz t) (ht : t.fThreads.length ≤ 1000000) : Ok (trace_Check t) (fun r => r = 0 → Gd t.fStates) := by
 unfold trace_Check
 refine ok_bind (trace_tables_ok t h ht) (fun r hr => ?_)
 refine ok_nite (fun h0 => ok_some (fun e => absurd e h0)) (fun e => ?_)
 have hd := hr e
 refine ok_bind (Q := Yes) (by repeat' (first | (with_reducible first | exact ok_yes | exact ok_inrY | exact ok_inlY | refine ok_nite (fun _ => ?_) fun _ => ?_ | refine ok_ite (fun _ => ?_) fun _ => ?_ | refine ok_not (fun _ => ?_) fun _ => ?_ | refine ok_cond (fun _ => ?_) fun _ => ?_) | (with_reducible refine ok_next ?_ ?_ ?_ <;> (first | assumption | omega | rw [w64_of] <;> omega)) | with_reducible refine ok_bind (ok_idx (by (first | assumption | omega | rw [w64_of] <;> omega)) (by (first | assumption | omega | rw [w64_of] <;> omega))) (fun _ _ => ?_) | (with_reducible refine ok_bind (Q := Yes) ?_ fun _ _ => ?_) | dsimp only)) (fun v _ => ?_)
 refine ok_cond (fun _ => ok_some (fun _ => hd)) (fun _ => ?_)
 refine ok_bind (trace_outside_ok t h) (fun v _ => ?_)
 exact ok_cond (fun _ => ok_some (fun _ => hd)) (fun _ => ok_some (fun _ => hd))
theorem critical_check_ok (t : api_Trace) (a : Int) (p : api_Span) (h : Siz t) (ht : t.fThreads.length ≤ 1000000) : Ok (critical_check t a p) (fun r => r = 0 → Gd t.fStates ∧ 0 ≤ p.fFrom ∧ p.fFrom < p.fTo ∧ p.fTo ≤ 1000000000000) := by
 unfold critical_check
 refine ok_bind (trace_Check_ok t h ht) (fun r hr => ?_)
 refine ok_nite (fun h0 => ok_some (fun e => absurd e h0)) (fun e => ?_)
 have hd := hr e
 refine ok_bind (critical_known_ok t a h.th) (fun v _ => ?_)
 refine ok_not (fun _ => ok_some (by simp)) (fun _ => ?_)
 rw [state_At_eq _ _ _ h.st, state_At_eq _ _ _ h.st]
 simp only [Option.bind_some]
 refine ok_bind (Q := fun v => v = false → 0 ≤ p.fFrom ∧ p.fFrom < p.fTo ∧ p.fTo ≤ 1000000000000) ?_ (fun v hv => ok_cond (fun _ => ok_some (by simp)) (fun e => ok_some (fun _ => ⟨hd, hv e⟩)))
 refine ok_bind (spans_Valid_val p) (fun b hb => ?_)
 refine ok_not (fun _ => ok_some (by simp)) (fun e => ?_)
 exact ok_not (fun _ => ok_some (by simp)) (fun _ => ok_some (fun _ => hb e))
theorem producer_Thread_pos (t : api_Thread) (h : okN t.fName) : Ok (producer_Thread t) (fun r => r = 0 → 0 ≤ t.fId) := by
 unfold producer_Thread
 refine ok_bind (Q := fun v => v = false → 0 ≤ t.fId) ?_ (fun v hv => ?_)
 ·refine ok_ite (fun _ => ok_some (by simp)) (fun h0 => ?_)
  have : 0 ≤ t.fId := by omega
  refine ok_ite (fun _ => ok_some (by simp)) (fun _ => ?_)
  exact ok_ite (fun _ => ok_some (by simp)) (fun _ => ok_some (fun _ => this))
 ·refine ok_cond (fun _ => ok_some (by simp)) (fun e => ?_)
  exact ok_bind (intern_Name_ok _ h) (fun _ _ => ok_some (fun _ => hv e))
theorem trace_threads_pos (t : api_Trace) (hl : t.fThreads.length ≤ 9223372036854775807) (hn : ∀ x ∈ t.fThreads, okN x.fName) : Ok (trace_threads t) (InlR (fun r => r.2 ≠ 0) (fun r => r.2 = 0 → ∀ x ∈ t.fThreads, 0 ≤ x.fId)) := by
 unfold trace_threads
 refine ok_ite (fun _ => ok_inl (by simp)) (fun _ => ?_)
 refine ok_bindS (Q := InlR (fun _ => ∀ x ∈ t.fThreads, 0 ≤ x.fId) (InlR (fun r => r.2 ≠ 0) (fun r => r.2 = 0 → ∀ x ∈ t.fThreads, 0 ≤ x.fId))) (ok_up2 t.fThreads.length (fun _ i => ∀ (j : Nat) x, (j : Int) < i → t.fThreads[j]? = some x → 0 ≤ x.fId) hl (by intro j x hj; omega) (fun a i hI h1 h2 => ?_)) (fun _ hq => ?_) (fun r hr => ?_)
 ·unfold trace_threads_L1
  dsimp only
  refine ok_ite (fun h => ?_) (fun h => ok_inr ?_)
  ·refine ok_bind (ok_idx h1 h) (fun y hy => ?_)
   refine ok_bind (producer_Thread_pos _ (hn _ (List.mem_of_getElem? hy))) (fun r hr => ?_)
   refine ok_nite (fun h0 => ok_inr h0) (fun h0 => ?_)
   refine ok_cond (fun _ => ok_inr (by simp [InlR])) (fun _ => ?_)
   refine ok_next2 (Inv := fun _ i => ∀ (j : Nat) x, (j : Int) < i → t.fThreads[j]? = some x → 0 ≤ x.fId) (fun j x hj hx => ?_) h1 h hl
   by_cases e : (j : Int) = i
   ·have : i.toNat = j := by omega
    rw [this, hx] at hy; cases hy; exact hr h0
   ·exact hI j x (by omega) hx
  ·intro x hx
   obtain ⟨j, hj⟩ := List.getElem?_of_mem hx
   exact hI j x (by have := lt_of_get hj; omega) hj
 ·exact ok_inr (fun _ => hq)
 ·exact ⟨_, rfl, hr⟩
theorem trace_Check_pos (t : api_Trace) (h : Siz t) (e : trace_Check t = some 0) : ∀ x ∈ t.fThreads, 0 ≤ x.fId := by
 have h1 : ∃ r, trace_threads t = some r ∧ InlR (fun r => r.2 ≠ 0) (fun r => r.2 = 0 → ∀ x ∈ t.fThreads, 0 ≤ x.fId) r := trace_threads_pos t h.th h.nTh
 obtain ⟨r, h2, h3⟩ := h1
 unfold trace_Check trace_tables at e
 rw [h2] at e
 cases r with
 | inl r =>
  have h4 : r.2 ≠ 0 := h3
  simp [h4] at e
 | inr r =>
  have h4 : r.2 = 0 → ∀ x ∈ t.fThreads, 0 ≤ x.fId := h3
  by_cases h5 : r.2 = 0
  ·exact h4 h5
  ·simp [h5] at e
theorem stAt_some {l : List api_State} {a b : Int} (h : (stAt l a b).2 = true) : (stAt l a b).1 ∈ l ∧ atB a b (stAt l a b).1 = true := by
 unfold stAt at h ⊢
 cases e : l.find? (atB a b) with
 | none => rw [e] at h; simp at h
 | some s => exact ⟨List.mem_of_find?_eq_some e, List.find?_some e⟩
theorem nodup_le {α : Type} [DecidableEq α] : ∀ (xs ys : List α), xs.Nodup → (∀ x ∈ xs, x ∈ ys) → xs.length ≤ ys.length
 | [], _, _, _ => by simp
 | x :: xs, ys, hn, hs => by
  have hx : x ∈ ys := hs x (by simp)
  have h1 := nodup_le xs (ys.erase x) (List.nodup_cons.1 hn).2 (fun z hz => by
   have hne : z ≠ x := fun e => (List.nodup_cons.1 hn).1 (e ▸ hz)
   exact (List.mem_erase_of_ne hne).2 (hs z (by simp [hz])))
  have h2 := List.length_erase_of_mem hx
  have h3 := List.length_pos_of_mem hx
  simp only [List.length_cons]; omega
theorem mget_mput {κ ν : Type} [DecidableEq κ] (k k' : κ) (v : ν) : ∀ (m : List (κ × ν)), mget k (mput k' v m) = if k = k' then some v else mget k m
 | [] => by simp [mput, mget]
 | p :: r => by
  simp only [mput]
  by_cases e : k' = p.1
  ·subst e
   simp only [if_true, mget]
   by_cases e2 : k = p.1 <;> simp [e2]
  ·rw [if_neg e]
   simp only [mget]
   rw [mget_mput k k' v r]
   by_cases e2 : k = p.1
   ·subst e2
    rw [if_pos rfl, if_pos rfl, if_neg (fun h => e h.symm)]
   ·rw [if_neg e2, if_neg e2]
theorem critical_known_yes (t : api_Trace) (a : Int) (h : t.fThreads.length ≤ 9223372036854775807) : Ok (critical_known t a) (fun b => b = true → a ∈ t.fThreads.map (·.fId)) := by
 unfold critical_known slices_ContainsFunc_api_Thread_api_Thread_k1
 refine ok_bind (Q := fun b => b = true → a ∈ t.fThreads.map (·.fId)) (ok_bind (Q := fun r => 0 ≤ r → a ∈ t.fThreads.map (·.fId)) ?_ (fun r hr => ok_some (fun e => hr (of_decide_eq_true e)))) (fun _ hb => ok_some hb)
 unfold slices_IndexFunc_api_Thread_api_Thread_k1
 refine ok_bindS (Q := InlR Yes (fun _ : Int => a ∈ t.fThreads.map (fun x : api_Thread => x.fId))) (ok_up t.fThreads.length h fun i h1 h2 => ?_) (fun _ _ => ok_some (by omega)) (fun _ hr => ok_some (fun _ => (show a ∈ t.fThreads.map (fun x : api_Thread => x.fId) from hr)))
 unfold slices_IndexFunc_api_Thread_api_Thread_k1_L1 critical_known_1_k1
 refine ok_ite (fun hi => ?_) (fun _ => ok_inr trivial)
 refine ok_bind (ok_idx h1 hi) (fun y hy => ?_)
 simp only [Option.bind_some]
 exact ok_ite (fun e => ok_inr (by
  have := List.mem_of_getElem? hy
  exact List.mem_map.2 ⟨y, this, e⟩)) (fun _ => ok_next h1 hi h)
def wkr (t : api_Trace) (a b : Int) : Int × Bool := (critical_waker t a b).getD (0, false)
theorem critical_waker_ok (t : api_Trace) (a b : Int) (hz : Siz t) : Ok (critical_waker t a b) (fun r => r.2 = true → r.1 ∈ t.fThreads.map (·.fId)) := by
 unfold critical_waker
 rw [state_At_eq _ _ _ hz.st, Option.bind_some]
 refine ok_bind (Q := Yes) (by repeat' (first | (with_reducible first | exact ok_yes | exact ok_inrY | exact ok_inlY | refine ok_nite (fun _ => ?_) fun _ => ?_ | refine ok_ite (fun _ => ?_) fun _ => ?_ | refine ok_not (fun _ => ?_) fun _ => ?_ | refine ok_cond (fun _ => ?_) fun _ => ?_) | (with_reducible refine ok_next ?_ ?_ ?_ <;> (first | assumption | omega | rw [w64_of] <;> omega)) | with_reducible refine ok_bind (ok_idx (by (first | assumption | omega | rw [w64_of] <;> omega)) (by (first | assumption | omega | rw [w64_of] <;> omega))) (fun _ _ => ?_) | (with_reducible refine ok_bind (Q := Yes) ?_ fun _ _ => ?_) | dsimp only)) (fun v2 _ => ?_)
 refine ok_bind (Q := fun v => v = false → (stAt t.fStates a (w64 (b - 1))).1.fBy ∈ t.fThreads.map (·.fId)) ?_ (fun v hv => ok_cond (fun _ => ok_some (by simp)) (fun e => ok_some (fun _ => hv e)))
 refine ok_not (fun _ => ok_some (by simp)) (fun _ => ?_)
 refine ok_not (fun _ => ok_some (by simp)) (fun _ => ?_)
 refine ok_nite (fun _ => ok_some (by simp)) (fun _ => ?_)
 refine ok_bind (critical_known_yes t _ hz.th) (fun r hr => ok_some (fun e => hr (by simpa using e)))
theorem critical_waker_eq (t : api_Trace) (a b : Int) (hz : Siz t) : critical_waker t a b = some (wkr t a b) := by
 obtain ⟨r, h1, _⟩ := critical_waker_ok t a b hz
 unfold wkr; rw [h1]; rfl
theorem wkr_known {t : api_Trace} {a b : Int} (hz : Siz t) (h : (wkr t a b).2 = true) : (wkr t a b).1 ∈ t.fThreads.map (·.fId) :=
 (critical_waker_ok t a b hz).of_eq (critical_waker_eq t a b hz) h
structure Wk (t : api_Trace) (b a : Int) (cs : List Int) (x : Int) : Prop where
 first : cs[0]? = some a
 last : cs[cs.length - 1]? = some x
 step : ∀ (k : Nat) y z, cs[k]? = some y → cs[k + 1]? = some z → wkr t y b = (z, true)
 nd : cs.Nodup
 kn : ∀ y ∈ cs, y ∈ a :: t.fThreads.map (·.fId)
theorem Wk.pos {t b a cs x} (h : Wk t b a cs x) : 0 < cs.length := by have := lt_of_get h.first; omega
theorem Wk.len {t b a cs x} (h : Wk t b a cs x) : cs.length ≤ t.fThreads.length + 1 := by
 have := nodup_le cs _ h.nd h.kn
 simpa using this
theorem Wk.one (t : api_Trace) (b a : Int) : Wk t b a [a] a :=
 ⟨rfl, rfl, fun k y z _ h => by simp at h, by simp, by simp⟩
theorem Wk.more {t : api_Trace} {b a : Int} {cs : List Int} {x : Int} (hz : Siz t) (h : Wk t b a cs x) (hw : (wkr t x b).2 = true) (hn : (wkr t x b).1 ∉ cs) : Wk t b a (cs ++ [(wkr t x b).1]) (wkr t x b).1 := by
 have hp := h.pos
 refine ⟨by rw [List.getElem?_append_left hp]; exact h.first, by simp, fun k y z hy hz' => ?_, ?_, fun y hy => ?_⟩
 ·have hl := lt_of_get hz'
  simp at hl
  rw [List.getElem?_append_left (by omega)] at hy
  by_cases e : k + 1 < cs.length
  ·rw [List.getElem?_append_left e] at hz'
   exact h.step k y z hy hz'
  ·have e2 : k + 1 = cs.length := by omega
   rw [List.getElem?_append_right (by omega), e2] at hz'
   simp at hz'
   have e3 : k = cs.length - 1 := by omega
   rw [e3, h.last] at hy
   cases hy; subst hz'
   rw [← hw]
 ·exact List.nodup_append.2 ⟨h.nd, by simp, fun y hy z hz' e => by simp at hz'; subst hz' e; exact hn hy⟩
 ·rcases List.mem_append.1 hy with hy | hy
  ·exact h.kn y hy
  ·simp at hy; subst hy
   exact List.mem_cons_of_mem _ (wkr_known hz hw)
theorem mput_length {κ ν : Type} [DecidableEq κ] (k : κ) (v : ν) : ∀ (m : List (κ × ν)), mget k m = none → (mput k v m).length = m.length + 1
 | [], _ => rfl
 | p :: r, h => by
  simp only [mget] at h
  by_cases e : k = p.1
  ·rw [if_pos e] at h; simp at h
  ·rw [if_neg e] at h
   simp only [mput, if_neg e, List.length_cons]
   rw [mput_length k v r h]
theorem loop_res {S ρ : Type} {step : S → Option (S ⊕ ρ)} {Q : ρ → Prop} (h : ∀ s r, step s = some (.inr r) → Q r) {s : S} {r : ρ} (hr : loop step s = some r) : Q r := by
 have key : ∀ n s, iter step n s = some r → Q r := by
  intro n
  induction n with
  | zero => intro s h; simp [iter] at h
  | succ n ih =>
   intro s hs
   rw [iter_succ] at hs
   cases e : step s with
   | none => rw [e] at hs; simp at hs
   | some x =>
    rw [e] at hs
    cases x with
    | inl s' => exact ih s' hs
    | inr r' => simp only [Option.some.injEq] at hs; subst hs; exact h s _ e
 exact key _ s hr
theorem letter_eq (y : UInt8) : intern_letter (y.toNat : Int) = tracebookref06_letter (y.toNat : Int) := by
 have h : (List.range 256).all (fun n => decide (intern_letter (n : Int) = tracebookref06_letter (n : Int))) = true := by kernel_rfl
 exact of_decide_eq_true (List.all_eq_true.1 h y.toNat (List.mem_range.2 (UInt8.toNat_lt y)))
theorem empty_iff (s : ByteArray) : s = ⟨#[]⟩ ↔ (s.size : Int) < 1 := by
 constructor
 ·intro h; subst h; decide
 ·intro h
  cases s with
  | mk a =>
   have : a.size = 0 := by
    have : (ByteArray.mk a).size = a.size := rfl
    omega
   rw [Array.eq_empty_of_size_eq_zero this]
theorem Name_eq (s : ByteArray) : intern_Name s = tracebookref06_Name s := by
 unfold intern_Name tracebookref06_Name
 have h1 : intern_Name_L1 s = tracebookref06_Name_L1 s := by
  funext i
  simp only [intern_Name_L1, tracebookref06_Name_L1, letter_eq]
 have h2 : decide (s = ⟨#[]⟩) = decide ((ByteArray.size s : Int) < 1) := decide_eq_decide.2 (empty_iff s)
 rw [h1, h2] <;> rfl
theorem Name_03 {s : ByteArray} {r : Int} (h : intern_Name s = some r) : r = 0 ∨ r = 3 := by
 unfold intern_Name at h
 obtain ⟨v, _, h⟩ := bB h
 cases v with
 | true => simp at h; exact .inr h.symm
 | false =>
  obtain ⟨q, hq, h⟩ := bB (show (loop (intern_Name_L1 s) 0).bind _ = some r from h)
  have := loop_res (Q := fun q : Unit ⊕ Int => ∀ x, q = .inr x → x = 3) (fun i r hr => by
   unfold intern_Name_L1 at hr
   by_cases hi : i < (ByteArray.size s : Int)
   ·simp only [hi, decide_true, cond_true] at hr
    obtain ⟨y, _, hr⟩ := bB hr
    obtain ⟨z, _, hr⟩ := bB hr
    cases z
    ·simp only [Bool.not_false, cond_true, Option.some.injEq, Sum.inr.injEq] at hr
     subst hr; intro x hx; cases hx; rfl
    ·simp at hr
   ·simp [hi] at hr; subst hr; intro x hx; cases hx) hq
  cases q with
  | inl _ => simp at h; exact .inl h.symm
  | inr x => simp at h; subst h; exact .inr (this _ rfl)
theorem Thread_eq (t : api_Thread) : producer_Thread t = tracebookref10_Thread t := by
 unfold producer_Thread tracebookref10_Thread
 rw [Name_eq]
theorem Valid_eq (s : api_Span) : tracebookref04_Valid s = spans_Valid s := rfl
theorem Frames_eq (l : List ByteArray) : intern_Frames l = tracebookref06_Frames l := by
 unfold intern_Frames tracebookref06_Frames
 have h1 : intern_Frames_L1 l = tracebookref06_Frames_L1 l := by
  funext i
  unfold intern_Frames_L1 tracebookref06_Frames_L1
  cases idx l i with
  | none => rfl
  | some y =>
   simp only [Option.bind_some, ← Name_eq]
   cases e : intern_Name y with
   | none => rfl
   | some r =>
    rcases Name_03 e with rfl | rfl <;> rfl
 rw [h1] <;> rfl
theorem flow_bad_eq (a b : Int) : flow_bad a b = some (!decide (0 ≤ a ∧ a ≤ b)) := by
 unfold flow_bad
 by_cases h1 : a < 0 <;> by_cases h2 : b < a <;> simp [h1, h2] <;> omega
theorem natural_eq (a : Int) : tracebookref28_natural a = some (decide (0 ≤ a ∧ a ≤ 1000000000000000)) := by
 unfold tracebookref28_natural
 by_cases h1 : 0 ≤ a <;> by_cases h2 : a ≤ 1000000000000000 <;> simp [h1, h2]
theorem reading_eq (a : Int) : tracebookref28_reading a = some (decide (0 ≤ a ∧ a ≤ 1000000000000)) := by
 unfold tracebookref28_reading
 by_cases h1 : 0 ≤ a <;> by_cases h2 : a ≤ 1000000000000 <;> simp [h1, h2]
theorem flow_eq (l : List api_Flow) : flow_Check l = tracebookref28_Check l := by
 unfold flow_Check tracebookref28_Check
 have h1 : flow_Check_L1 l = tracebookref28_Check_L1 l := by
  funext i
  unfold flow_Check_L1 tracebookref28_Check_L1
  cases idx l i with
  | none => rfl
  | some y =>
   simp only [Option.bind_some, flow_bad_eq, natural_eq, reading_eq]
   generalize decide (0 ≤ y.fId ∧ y.fId ≤ 1000000000000000) = b1
   generalize decide (0 ≤ y.fFrom.fThread ∧ y.fFrom.fThread ≤ 1000000000000000) = b2
   generalize decide (0 ≤ y.fFrom.fSerial ∧ y.fFrom.fSerial ≤ 1000000000000000) = b3
   generalize decide (0 ≤ y.fTo.fThread ∧ y.fTo.fThread ≤ 1000000000000000) = b4
   generalize decide (0 ≤ y.fTo.fSerial ∧ y.fTo.fSerial ≤ 1000000000000000) = b5
   generalize decide (0 ≤ y.fSend ∧ y.fSend ≤ 1000000000000) = b6
   generalize decide (0 ≤ y.fRecv ∧ y.fRecv ≤ 1000000000000) = b7
   generalize decide (y.fRecv < y.fSend) = b8
   congr 1
   cases b1
   ·rfl
   cases b2
   ·rfl
   cases b3
   ·rfl
   cases b4
   ·rfl
   cases b5
   ·rfl
   cases b6
   ·rfl
   cases b7
   ·rfl
   cases b8 <;> rfl
 rw [h1] <;> rfl
theorem sample_eq (l : List api_Sample) : sample_Check l = tracebookref29_Check l := by
 unfold sample_Check tracebookref29_Check
 have h1 : sample_Check_L1 l = tracebookref29_Check_L1 l := by
  funext i
  unfold sample_Check_L1 tracebookref29_Check_L1
  cases e : idx l i with
  | none => rfl
  | some y =>
   simp only [Option.bind_some, ← Frames_eq]
   rfl
 rw [h1] <;> rfl
theorem less_tri : ∀ x y : List UInt8, (!(Op.bytesLess x y || decide (x = y))) = Op.bytesLess y x
 | [], [] => by simp [Op.bytesLess]
 | [], b :: y => by simp [Op.bytesLess]
 | a :: x, [] => by simp [Op.bytesLess]
 | a :: x, b :: y => by
  have ih := less_tri x y
  simp only [Op.bytesLess, List.cons.injEq]
  by_cases h1 : a < b
  ·have h2 : ¬ b < a := UInt8.lt_asymm h1
   have h3 : ¬ a = b := UInt8.ne_of_lt h1
   have h4 : ¬ b = a := fun e => h3 e.symm
   simp [h1, h2, h3, h4]
  ·by_cases h2 : a = b
   ·subst h2
    simp [h1, ← ih]
   ·have h3 : b < a := by
     rcases UInt8.lt_or_lt_of_ne h2 with h | h
     ·exact absurd h h1
     ·exact h
    have h4 : ¬ b = a := fun e => h2 e.symm
    simp [h1, h2, h3]
theorem bytes_eq (a b : ByteArray) : a.toList = b.toList ↔ a = b := by
 constructor
 ·intro h
  rw [ByteArray.toList_eq, ByteArray.toList_eq] at h
  exact Go.WideShapes.bytes_inj h
 ·intro h; rw [h]
theorem sLt_tri (a b : ByteArray) : (!(sLt a b || decide (a = b))) = sLt b a := by
 unfold sLt
 rw [← less_tri a.toList b.toList]
 simp only [bytes_eq]
theorem sLt_not {a b : ByteArray} (h : sLt a b = true) : sLt b a = false ∧ a ≠ b := by
 have h1 := sLt_tri a b
 have h2 := sLt_tri b a
 rw [h] at h1 h2
 simp at h1 h2
 exact ⟨h1, fun e => h2.2 e.symm⟩
theorem cmpS_eq (a b : ByteArray) : cmp_Compare_string a b = some (if sLt a b then -1 else if sLt b a then 1 else 0) := by
 unfold cmp_Compare_string cmp_isNaN_string
 simp only [decide_true, Bool.not_true, Option.bind_some, cond_false, sLt_tri]
 cases sLt a b <;> cases sLt b a <;> rfl
theorem cmpI_eq (a b : Int) : cmp_Compare_int a b = some (if a < b then -1 else if b < a then 1 else 0) := by
 unfold cmp_Compare_int cmp_isNaN_int
 by_cases h1 : a < b <;> by_cases h2 : b < a <;> simp [h1, h2]
def orI : List Int → Int
 | [] => 0
 | x :: r => if x = 0 then orI r else x
theorem orI_first : ∀ (l : List Int) (i : Nat), (match (firstL (fun _ y => if y = 0 then none else some (.inr y)) l i).getD (.inl ()) with | (.inl _ : Unit ⊕ Int) => 0 | .inr rv => rv) = orI l
 | [], _ => rfl
 | x :: r, i => by
  simp only [firstL, orI]
  by_cases h : x = 0
  ·simp only [h, if_true]; exact orI_first r (i + 1)
  ·simp [h]
theorem cmpOr_eq (l : List Int) (hl : l.length ≤ 9223372036854775807) : cmp_Or_int l = some (orI l) := by
 unfold cmp_Or_int
 rw [loop_first l (fun _ y => if y = 0 then none else some (.inr y)) (.inl ()) (by simp [manyRounds]; omega) (fun i y hy => ?_) (by simp [cmp_Or_int_L1])]
 ·rw [Option.bind_some, ← orI_first l 0]
  generalize (firstL _ l 0).getD (Sum.inl ()) = q
  cases q <;> rfl
 ·have hi := lt_of_get hy
  have h1 : (i : Int) < l.length := by omega
  simp only [cmp_Or_int_L1, h1, decide_true, cond_true, idx_nat, hy, Option.bind_some]
  by_cases h : y = 0 <;> simp [h, w64_nat (i := i) (by omega)]
theorem order_eq (p c : api_Step) : counter_order p c = some (if sLt p.fName c.fName then -1 else if sLt c.fName p.fName then 1 else if p.fAt < c.fAt then -1 else if c.fAt < p.fAt then 1 else 0) := by
 unfold counter_order
 simp only [cmpS_eq, cmpI_eq, Option.bind_some]
 rw [cmpOr_eq _ (Nat.le_of_ble_eq_true rfl), Option.bind_some]
 simp only [orI]
 cases sLt p.fName c.fName
 ·cases sLt c.fName p.fName
  ·by_cases h1 : p.fAt < c.fAt <;> by_cases h2 : c.fAt < p.fAt <;> simp [h1, h2]
  ·simp
 ·simp
theorem counter_eq (l : List api_Step) : counter_Check l = tracebookref30_Check l := by
 unfold counter_Check tracebookref30_Check
 have h1 : counter_Check_L1 l = tracebookref30_Check_L1 l := by
  funext i
  unfold counter_Check_L1 tracebookref30_Check_L1
  cases e : idx l i with
  | none => rfl
  | some y =>
   simp only [Option.bind_some, ← Name_eq]
   congr 1
   congr 1
   funext r60
   congr 1
   have hv : ∀ n : Int, num_In n = some (decide (-1000000000000000 ≤ n) && decide (n ≤ 1000000000000000)) := by
    intro n; unfold num_In; by_cases h1 : (-1000000000000000 : Int) ≤ n <;> by_cases h2 : n ≤ 1000000000000000 <;> simp [h1, h2]
   rw [hv]
   have e1 : decide (y.fValue < -1000000000000000) = !decide (-1000000000000000 ≤ y.fValue) := by
    by_cases h : (-1000000000000000 : Int) ≤ y.fValue <;> simp [h] <;> omega
   have e2 : decide (1000000000000000 < y.fValue) = !decide (y.fValue ≤ 1000000000000000) := by
    by_cases h : y.fValue ≤ 1000000000000000 <;> simp [h] <;> omega
   rw [e1, e2]
   have e3 : (bif decide (y.fAt < 0) then some true else bif decide (1000000000000 < y.fAt) then some true else (some (decide (-1000000000000000 ≤ y.fValue) && decide (y.fValue ≤ 1000000000000000))).bind fun r74 => some (!r74)) = (bif decide (y.fAt < 0) then some true else bif decide (1000000000000 < y.fAt) then some true else bif !decide (-1000000000000000 ≤ y.fValue) then some true else some (!decide (y.fValue ≤ 1000000000000000))) := by
    simp only [Option.bind_some]
    cases decide (-1000000000000000 ≤ y.fValue) <;> cases decide (y.fValue ≤ 1000000000000000) <;> rfl
   rw [e3]
   congr 1
   funext v61
   congr 1
   have e4 : (bif decide (0 < i) then (idx l (w64 (i - 1))).bind fun y65 => (counter_order y65 y).bind fun r66 => bif decide (0 ≤ r66) then some true else (idx l (w64 (i - 1))).bind fun y68 => bif decide (y68.fName = y.fName) then (idx l (w64 (i - 1))).bind fun y70 => some (decide (y70.fValue = y.fValue)) else some false else some false) = (bif decide (0 < i) then (idx l (w64 (i - 1))).bind fun y93 => bif sLt y.fName y93.fName then some true else (idx l (w64 (i - 1))).bind fun y96 => bif decide (y.fName = y96.fName) then (idx l (w64 (i - 1))).bind fun y99 => bif decide (y.fAt ≤ y99.fAt) then some true else (idx l (w64 (i - 1))).bind fun y102 => some (decide (y.fValue = y102.fValue)) else some false else some false) := by
    congr 1
    cases e5 : idx l (w64 (i - 1)) with
    | none => rfl
    | some p =>
     simp only [Option.bind_some, order_eq]
     cases s1 : sLt p.fName y.fName with
     | true =>
      obtain ⟨s2, s3⟩ := sLt_not s1
      have s4 : ¬ y.fName = p.fName := fun e => s3 e.symm
      simp [s2, s3, s4]
     | false =>
      cases s2 : sLt y.fName p.fName with
      | true => simp
      | false =>
       have s3 := sLt_tri p.fName y.fName
       rw [s1, s2] at s3
       simp at s3
       rw [s3]
       by_cases h1 : p.fAt < y.fAt
       ·have h2 : ¬ y.fAt ≤ p.fAt := by omega
        have h3 : (p.fValue = y.fValue) ↔ (y.fValue = p.fValue) := ⟨Eq.symm, Eq.symm⟩
        simp [h1, h2, h3]
       ·have h2 : y.fAt ≤ p.fAt := by omega
        by_cases h3 : y.fAt < p.fAt <;> simp [h1, h2, h3]
   rw [e4]
 rw [h1] <;> rfl
theorem loop_congr {S ρ : Type} {step step' : S → Option (S ⊕ ρ)} (Inv : S → Prop) (h : ∀ s, Inv s → step s = step' s) (hI : ∀ s s', Inv s → step s = some (.inl s') → Inv s') {s : S} (hs : Inv s) : loop step s = loop step' s := by
 have key : ∀ n s, Inv s → iter step n s = iter step' n s := by
  intro n
  induction n with
  | zero => intro s _; rfl
  | succ n ih =>
   intro s hs
   rw [iter_succ, iter_succ, ← h s hs]
   cases e : step s with
   | none => rfl
   | some x =>
    cases x with
    | inl s' => exact ih s' (hI s s' hs e)
    | inr r => rfl
 exact key _ s hs
theorem span_cond (s : api_Span) : (bif decide (s.fFrom < 0) then some true else bif decide (s.fTo ≤ s.fFrom) then some true else some (decide (1000000000000 < s.fTo))) = (spans_Valid s).bind fun r => some (!r) := by
 rw [spans_Valid_eq, Option.bind_some]
 by_cases h1 : s.fFrom < 0 <;> by_cases h2 : s.fTo ≤ s.fFrom <;> by_cases h3 : 1000000000000 < s.fTo <;> simp [h1, h2, h3] <;> omega
theorem mem_L1 (l : List api_Block) (i : Int) (y : api_Block) (ys : List api_Block) (h : slcPart l 0 i = some ys) (hl : l.length ≤ 9223372036854775807) : loop (memory_Check_L1 y ys) 0 = loop (tracebookref31_Check_L1 l i y) 0 := by
 unfold slcPart at h
 by_cases h0 : 0 ≤ (0 : Int) ∧ 0 ≤ i ∧ i ≤ (l.length : Int)
 ·rw [if_pos h0] at h
  injection h with h
  have hlen : (ys.length : Int) = i := by subst h; simp; omega
  refine loop_congr (fun j => 0 ≤ j) (fun j hj => ?_) (fun j j' hj hs => ?_) (show (0 : Int) ≤ 0 by omega)
  ·unfold memory_Check_L1 tracebookref31_Check_L1
   rw [hlen]
   by_cases hi : j < i
   ·have e : idx ys j = idx l j := by
     subst h
     obtain ⟨n, rfl⟩ := Int.eq_ofNat_of_zero_le hj
     simp only [idx_nat]
     simp [List.getElem?_take]
     omega
    rw [e]
    simp only [hi, decide_true, cond_true]
    cases idx l j with
    | none => rfl
    | some z =>
     simp only [Option.bind_some, tracebookref31_common]
     by_cases g1 : z.fId = y.fId <;> by_cases g2 : z.fSpan.fFrom < y.fSpan.fTo <;> by_cases g3 : y.fSpan.fFrom < z.fSpan.fTo <;> simp [g1, g2, g3]
   ·simp [hi]
  ·unfold memory_Check_L1 at hs
   by_cases hi : j < (ys.length : Int)
   ·simp only [hi, decide_true, cond_true] at hs
    obtain ⟨z, _, hs⟩ := bB hs
    obtain ⟨v, _, hs⟩ := bB hs
    cases v
    ·simp only [cond_false, Option.some.injEq, Sum.inl.injEq] at hs
     subst hs
     rw [w64_of (by omega)]; omega
    ·simp at hs
   ·simp [hi] at hs
 ·rw [if_neg h0] at h; simp at h
theorem loop_congr_up {ρ : Type} {step step' : Int → Option (Int ⊕ ρ)} (n : Nat) (h1 : ∀ i : Int, 0 ≤ i → i ≤ n → Ok (step i) (InlR (fun a => i < n ∧ a = i + 1) Yes)) (h2 : ∀ i : Int, 0 ≤ i → i ≤ n → step i = step' i) : loop step 0 = loop step' 0 := by
 refine loop_congr (fun i : Int => 0 ≤ i ∧ i ≤ n) (fun i hi => h2 i hi.1 hi.2) (fun i j hi hs => ?_) ⟨by omega, by omega⟩
 have := (h1 i hi.1 hi.2).of_eq hs
 obtain ⟨h3, h4⟩ : i < n ∧ j = i + 1 := this
 omega
theorem mem_L2_up (l : List api_Block) (h : l.length ≤ 9223372036854775807) (hx : ∀ x ∈ l, x.fStack.length ≤ 9223372036854775807 ∧ ∀ y ∈ x.fStack, okN y) (i : Int) (h1 : 0 ≤ i) (h2 : i ≤ l.length) : Ok (memory_Check_L2 l i) (InlR (fun a => i < l.length ∧ a = i + 1) Yes) := by
 unfold memory_Check_L2
 refine ok_ite (fun hi => ?_) (fun _ => ok_inrY)
 refine ok_bind (ok_idx h1 hi) (fun y hy => ?_)
 refine ok_bind (Q := Yes) (by repeat' (first | (with_reducible first | exact ok_yes | exact ok_inrY | exact ok_inlY | refine ok_nite (fun _ => ?_) fun _ => ?_ | refine ok_ite (fun _ => ?_) fun _ => ?_ | refine ok_not (fun _ => ?_) fun _ => ?_ | refine ok_cond (fun _ => ?_) fun _ => ?_) | (with_reducible refine ok_next ?_ ?_ ?_ <;> (first | assumption | omega | rw [w64_of] <;> omega)) | with_reducible refine ok_bind (ok_idx (by (first | assumption | omega | rw [w64_of] <;> omega)) (by (first | assumption | omega | rw [w64_of] <;> omega))) (fun _ _ => ?_) | (with_reducible refine Ok.yes (spans_Valid_ok _) <;> (first | assumption | omega | rw [w64_of] <;> omega)) | (with_reducible refine ok_bind (Q := Yes) ?_ fun _ _ => ?_) | dsimp only)) (fun v _ => ?_)
 refine ok_cond (fun _ => ok_inrY) (fun _ => ?_)
 refine ok_bind (Q := Yes) (intern_Frames_ok _ (hx _ (List.mem_of_getElem? hy)).1 (hx _ (List.mem_of_getElem? hy)).2) (fun v _ => ?_)
 refine ok_nite (fun _ => ok_inrY) (fun _ => ?_)
 refine ok_bind (Q := Yes) (by repeat' (first | (with_reducible first | exact ok_yes | exact ok_inrY | exact ok_inlY | refine ok_nite (fun _ => ?_) fun _ => ?_ | refine ok_ite (fun _ => ?_) fun _ => ?_ | refine ok_not (fun _ => ?_) fun _ => ?_ | refine ok_cond (fun _ => ?_) fun _ => ?_) | (with_reducible refine ok_next ?_ ?_ ?_ <;> (first | assumption | omega | rw [w64_of] <;> omega)) | with_reducible refine ok_bind (ok_idx (by (first | assumption | omega | rw [w64_of] <;> omega)) (by (first | assumption | omega | rw [w64_of] <;> omega))) (fun _ _ => ?_) | (with_reducible refine ok_bind (Q := Yes) ?_ fun _ _ => ?_) | dsimp only)) (fun v _ => ?_)
 refine ok_cond (fun _ => ok_inrY) (fun _ => ?_)
 refine ok_bind (Q := fun ys => ys.length ≤ 9223372036854775807) ?_ (fun ys hys => ?_)
 ·unfold slcPart
  rw [if_pos ⟨by omega, by omega, by omega⟩]
  exact ok_some (by simp; omega)
 refine ok_bindS (Q := InlR Yes (InlR (fun _ => False) Yes)) (ok_up ys.length hys fun j h3 h4 => ?_) (fun _ _ => ok_next h1 hi h) (fun r hr => ?_)
 ·unfold memory_Check_L1
  refine ok_ite (fun hj => ?_) (fun _ => ok_inr trivial)
  refine ok_bind (ok_idx h3 hj) (fun z hz => ?_)
  refine ok_bind (Q := Yes) (by repeat' (first | (with_reducible first | exact ok_yes | exact ok_inrY | exact ok_inlY | refine ok_nite (fun _ => ?_) fun _ => ?_ | refine ok_ite (fun _ => ?_) fun _ => ?_ | refine ok_not (fun _ => ?_) fun _ => ?_ | refine ok_cond (fun _ => ?_) fun _ => ?_) | (with_reducible refine ok_next ?_ ?_ ?_ <;> (first | assumption | omega | rw [w64_of] <;> omega)) | with_reducible refine ok_bind (ok_idx (by (first | assumption | omega | rw [w64_of] <;> omega)) (by (first | assumption | omega | rw [w64_of] <;> omega))) (fun _ _ => ?_) | (with_reducible refine ok_bind (Q := Yes) ?_ fun _ _ => ?_) | dsimp only)) (fun v _ => ?_)
  refine ok_cond (fun _ => ok_inr trivial) (fun _ => ok_next h3 hj hys)
 ·rcases r with r | r
  ·exact (hr : False).elim
  ·exact ok_inrY
theorem memory_step (l : List api_Block) (hl : l.length ≤ 9223372036854775807) (i : Int) (hi0 : 0 ≤ i) : memory_Check_L2 l i = tracebookref31_Check_L2 l i := by
 unfold memory_Check_L2 tracebookref31_Check_L2
 by_cases hi : i < (l.length : Int)
 ·simp only [hi, decide_true, cond_true]
  cases e : idx l i with
  | none => rfl
  | some y =>
   simp only [Option.bind_some, ← Frames_eq, span_cond]
   congr 1
   funext v144
   congr 1
   congr 1
   funext r145
   congr 1
   congr 1
   funext v146
   congr 1
   have hp : slcPart l 0 i = some ((l.take i.toNat).drop 0) := by
    unfold slcPart; rw [if_pos ⟨by omega, hi0, by omega⟩]; rfl
   rw [hp, Option.bind_some, mem_L1 l i y _ hp hl] <;> rfl
 ·simp [hi]
theorem memory_eq (l : List api_Block) (hl : l.length ≤ 9223372036854775807) (hx : ∀ x ∈ l, x.fStack.length ≤ 9223372036854775807 ∧ ∀ y ∈ x.fStack, okN y) : memory_Check l = tracebookref31_Check l := by
 unfold memory_Check tracebookref31_Check
 have h0 : loop (memory_Check_L2 l) 0 = loop (tracebookref31_Check_L2 l) 0 := by
  refine loop_congr_up l.length (mem_L2_up l hl hx) (step' := tracebookref31_Check_L2 l) (fun i hi0 _ => ?_)
  exact memory_step l hl i hi0
 rw [h0] <;> rfl
theorem compare_eq (a b : api_Slice) : ∃ c, slice_compare a b = some c ∧ tracebookref26_Precedes b a = some (decide (0 < c)) := by
 refine ⟨orI [if a.fSpan.fFrom < b.fSpan.fFrom then -1 else if b.fSpan.fFrom < a.fSpan.fFrom then 1 else 0, if b.fSpan.fTo < a.fSpan.fTo then -1 else if a.fSpan.fTo < b.fSpan.fTo then 1 else 0, if a.fThread < b.fThread then -1 else if b.fThread < a.fThread then 1 else 0], ?_, ?_⟩
 ·unfold slice_compare
  simp only [cmpI_eq, Option.bind_some]
  rw [cmpOr_eq _ (Nat.le_of_ble_eq_true rfl), Option.bind_some]
 ·unfold tracebookref26_Precedes
  simp only [orI]
  by_cases h1 : a.fSpan.fFrom < b.fSpan.fFrom
  ·have h2 : ¬ b.fSpan.fFrom = a.fSpan.fFrom := by omega
   have h3 : ¬ b.fSpan.fFrom < a.fSpan.fFrom := by omega
   simp [h1, h2, h3]
  ·by_cases h2 : b.fSpan.fFrom < a.fSpan.fFrom
   ·have h3 : ¬ b.fSpan.fFrom = a.fSpan.fFrom := by omega
    simp [h1, h2, h3]
   ·have h3 : b.fSpan.fFrom = a.fSpan.fFrom := by omega
    simp only [h1, h2, h3, decide_true, Bool.not_true, cond_false, if_false, if_true]
    by_cases h4 : b.fSpan.fTo < a.fSpan.fTo
    ·have h5 : ¬ b.fSpan.fTo = a.fSpan.fTo := by omega
     have h6 : ¬ a.fSpan.fTo < b.fSpan.fTo := by omega
     simp [h4, h5, h6]
    ·by_cases h5 : a.fSpan.fTo < b.fSpan.fTo
     ·have h6 : ¬ b.fSpan.fTo = a.fSpan.fTo := by omega
      simp [h4, h5, h6]
     ·have h6 : b.fSpan.fTo = a.fSpan.fTo := by omega
      by_cases h7 : a.fThread < b.fThread
      ·have h8 : ¬ b.fThread < a.fThread := by omega
       simp [h6, h7, h8]
      ·by_cases h8 : b.fThread < a.fThread <;> simp [h6, h7, h8]
theorem nested_step (l : List api_Slice) : slice_nested_L1 l = tracebookref26_formed_L3 l := by
 funext i
 unfold slice_nested_L1 tracebookref26_formed_L3
 cases e : idx l i with
 | none => rfl
 | some y =>
  simp only [Option.bind_some]
  congr 1
  by_cases h1 : y.fParent < -1
  ·simp [h1]
  ·by_cases h2 : i ≤ y.fParent
   ·simp [h1, h2]
   ·simp only [h1, h2, decide_false, cond_false, Option.bind_some]
    by_cases h3 : y.fParent = -1
    ·rw [h3]
     by_cases h4 : y.fDepth = 0 <;> simp [h4]
    ·have h5 : 0 ≤ y.fParent := by omega
     simp only [h3, h5, decide_false, decide_true, cond_false, cond_true, Option.bind_some]
     cases idx l y.fParent with
     | none => rfl
     | some z =>
      simp only [Option.bind_some, tracebookref26_contains]
      by_cases g1 : z.fThread = y.fThread <;> by_cases g2 : y.fSpan.fFrom < z.fSpan.fFrom <;> by_cases g3 : z.fSpan.fTo < y.fSpan.fTo <;> by_cases g4 : y.fDepth = w64 (z.fDepth + 1) <;>
       simp [g1, g2, g3, g4, Int.not_lt.1, Int.not_le.2] <;> (first | (rw [show (decide (z.fSpan.fFrom ≤ y.fSpan.fFrom)) = false from decide_eq_false (by omega)]; rfl) | (rw [show (decide (z.fSpan.fFrom ≤ y.fSpan.fFrom)) = true from decide_eq_true (by omega)]; first | rfl | (rw [show (decide (y.fSpan.fTo ≤ z.fSpan.fTo)) = false from decide_eq_false (by omega)]; rfl) | (rw [show (decide (y.fSpan.fTo ≤ z.fSpan.fTo)) = true from decide_eq_true (by omega)]; rfl)) | skip)
inductive Desc (l : List api_Slice) (j : Int) : Int → Prop
 | self : Desc l j j
 | up {a : Int} {y : api_Slice} : 0 ≤ a → l[a.toNat]? = some y → Desc l j y.fParent → Desc l j a
theorem Desc.le {l : List api_Slice} (hu : Up l l.length) {j a : Int} (h : Desc l j a) : j ≤ a := by
 induction h with
 | self => omega
 | up h0 hy _ ih =>
  have := hu _ _ (by have := lt_of_get hy; omega) hy
  omega
theorem Desc.step {l : List api_Slice} {j a : Int} {y : api_Slice} (h0 : 0 ≤ a) (hy : l[a.toNat]? = some y) (hne : j ≠ a) : Desc l j a ↔ Desc l j y.fParent := by
 constructor
 ·intro h
  cases h with
  | self => exact absurd rfl hne
  | up _ hy' h => rw [hy] at hy'; cases hy'; exact h
 ·exact Desc.up h0 hy
theorem under_ok (l : List api_Slice) (h : l.length ≤ 9223372036854775807) (hu : Up l l.length) (j i : Int) (hj : 0 ≤ j) (hi : i < l.length) : Ok (slice_under l j i) (fun r => r = true ↔ Desc l j i) := by
 unfold slice_under
 refine ok_bindS (Q := InlR (fun _ => ¬ Desc l j i) (fun r => r = true ∧ Desc l j i)) (ok_loop (fun s : Int => s < l.length ∧ (Desc l j s ↔ Desc l j i)) (fun s : Int => (s + 1).toNat) (fun s hs => ?_) ⟨hi, Iff.rfl⟩ (by simp [manyRounds]; omega)) (fun _ hq => ok_some ⟨fun e => by simp at e, fun e => absurd e hq⟩) (fun r hr => ok_some ⟨fun _ => hr.2, fun _ => hr.1⟩)
 obtain ⟨h1, h2⟩ := hs
 unfold slice_under_L1
 refine ok_ite (fun h0 => ?_) (fun h0 => ok_inr (fun e => ?_))
 ·refine ok_ite (fun e => ok_inr ⟨rfl, h2.1 (e ▸ Desc.self)⟩) (fun hne => ?_)
  refine ok_bind (ok_idx h0 h1) (fun y hy => ?_)
  have := hu s.toNat y (by omega) hy
  exact ok_inl ⟨⟨by omega, (Desc.step h0 hy hne).symm.trans h2⟩, by omega⟩
 ·have := (h2.2 e).le hu; omega
theorem above_ok (l : List api_Slice) (h : l.length ≤ 9223372036854775807) (hu : Up l l.length) (j i : Int) (hj : 0 ≤ j) (hi : i < l.length) : Ok (tracebookref26_above l j i) (fun r => r = true ↔ Desc l j i) := by
 unfold tracebookref26_above
 refine ok_bind (Q := fun a => (Desc l j a ↔ Desc l j i) ∧ a ≤ j) (ok_loop (fun s : Int => s < l.length ∧ (Desc l j s ↔ Desc l j i)) (fun s : Int => (s + 1).toNat) (fun s hs => ?_) ⟨hi, Iff.rfl⟩ (by simp [manyRounds]; omega)) (fun a ha => ok_some ?_)
 ·obtain ⟨h1, h2⟩ := hs
  unfold tracebookref26_above_L1
  refine ok_bind (Q := fun v => (v = true ↔ 0 ≤ s ∧ j < s)) ?_ (fun v hv => ?_)
  ·by_cases g1 : 0 ≤ s <;> by_cases g2 : j < s <;> simp [g1, g2, Ok]
  ·refine ok_cond (fun e => ?_) (fun e => ok_inr ⟨h2, ?_⟩)
   ·obtain ⟨h0, hlt⟩ := hv.1 e
    refine ok_bind (ok_idx h0 h1) (fun y hy => ?_)
    have := hu s.toNat y (by omega) hy
    exact ok_inl ⟨⟨by omega, (Desc.step h0 hy (by omega)).symm.trans h2⟩, by omega⟩
   ·have : ¬ (0 ≤ s ∧ j < s) := fun hh => by have := hv.2 hh; simp [e] at this
    omega
 ·rw [← ha.1]
  constructor
  ·intro e
   rw [← of_decide_eq_true e]
   exact Desc.self
  ·intro hd
   have := hd.le hu
   exact decide_eq_true (by omega)
def sumTo (l : List api_Slice) (i s0 : Int) : Nat → Int
 | 0 => s0
 | n + 1 => match l[n]? with
  | some z => if z.fParent = i then w64 (sumTo l i s0 n - w64 (z.fSpan.fTo - z.fSpan.fFrom)) else sumTo l i s0 n
  | none => sumTo l i s0 n
def Bad (l : List api_Slice) (j i : Int) (z y : api_Slice) : Prop := z.fThread = y.fThread ∧ y.fSpan.fFrom < z.fSpan.fTo ∧ z.fSpan.fFrom < y.fSpan.fTo ∧ ¬ Desc l j i
def Apart (l : List api_Slice) : Prop := ∀ (i : Nat) y, l[i]? = some y → y.fSelf = sumTo l i (w64 (y.fSpan.fTo - y.fSpan.fFrom)) l.length ∧ ∀ (j : Nat) z, j < i → l[j]? = some z → ¬ Bad l j i z y
def Apart' (l : List api_Slice) : Prop := ∀ (i : Nat) y, l[i]? = some y → y.fSelf = sumTo l i (w64 (y.fSpan.fTo - y.fSpan.fFrom)) l.length ∧ ∀ (j : Nat) z, i < j → l[j]? = some z → ¬ Bad l i j y z
theorem apart_iff (l : List api_Slice) : Apart l ↔ Apart' l := by
 constructor
 ·intro h i y hy
  exact ⟨(h i y hy).1, fun j z hj hz => (h j z hz).2 i y hj hy⟩
 ·intro h i y hy
  exact ⟨(h i y hy).1, fun j z hj hz => (h j z hz).2 i y hj hy⟩
theorem sumTo_step {l : List api_Slice} {i s0 : Int} {n : Nat} {z : api_Slice} (hz : l[n]? = some z) : Ok (bif decide (z.fParent = i) then some (w64 (sumTo l i s0 n - w64 (z.fSpan.fTo - z.fSpan.fFrom))) else some (sumTo l i s0 n)) (fun v => v = sumTo l i s0 (n + 1)) := by
 refine ok_ite (fun e => ok_some ?_) (fun e => ok_some ?_) <;> simp [sumTo, hz, e]
theorem ok_up2N {σ ρ : Type} {step : σ × Int → Option ((σ × Int) ⊕ ρ)} (n : Nat) (Inv : σ → Nat → Prop) {Post : ρ → Prop} (hn : n ≤ 9223372036854775807) {s0 : σ} (h0 : Inv s0 0)
  (h : ∀ (s : σ) (i : Nat), Inv s i → i ≤ n → Ok (step (s, (i : Int))) (InlR (fun a => i < n ∧ a.2 = ((i + 1 : Nat) : Int) ∧ Inv a.1 (i + 1)) Post)) : Ok (loop step (s0, 0)) Post := by
 refine ok_up2 n (fun s i => Inv s i.toNat) hn h0 (fun s i hI h1 h2 => ?_)
 obtain ⟨k, rfl⟩ := Int.eq_ofNat_of_zero_le h1
 refine (h s k hI (by omega)).mono ?_
 rintro (⟨a, b⟩ | b) hr
 ·obtain ⟨h3, h4, h5⟩ : k < n ∧ b = ((k + 1 : Nat) : Int) ∧ Inv a (k + 1) := hr
  refine ⟨by omega, by omega, ?_⟩
  rw [show ((k : Int) + 1).toNat = k + 1 by omega]; exact h5
 ·exact hr
theorem ok_upN {ρ : Type} {step : Int → Option (Int ⊕ ρ)} (n : Nat) (Inv : Nat → Prop) {Post : ρ → Prop} (hn : n ≤ 9223372036854775807) (h0 : Inv 0)
  (h : ∀ i : Nat, Inv i → i ≤ n → Ok (step (i : Int)) (InlR (fun a => i < n ∧ a = ((i + 1 : Nat) : Int) ∧ Inv (i + 1)) Post)) : Ok (loop step 0) Post := by
 refine ok_upI n (fun i => Inv i.toNat) hn h0 (fun i hI h1 h2 => ?_)
 obtain ⟨k, rfl⟩ := Int.eq_ofNat_of_zero_le h1
 refine (h k hI (by omega)).mono ?_
 rintro (b | b) hr
 ·obtain ⟨h3, h4, h5⟩ : k < n ∧ b = ((k + 1 : Nat) : Int) ∧ Inv (k + 1) := hr
  refine ⟨by omega, by omega, ?_⟩
  rw [show ((k : Int) + 1).toNat = k + 1 by omega]; exact h5
 ·exact hr
theorem ok_ixN {α : Type} {xs : List α} {i : Nat} (h : i < xs.length) : Ok (idx xs (i : Int)) (fun y => xs[i]? = some y) := by
 rw [idx_nat]; exact ⟨xs[i], by simp [h], by simp [h]⟩
theorem w64_N {i n : Nat} (h : i < n) (hn : n ≤ 9223372036854775807) : w64 ((i : Int) + 1) = ((i + 1 : Nat) : Int) := by rw [w64_of (by omega)]; omega
theorem apart_ok (l : List api_Slice) (h : l.length ≤ 9223372036854775807) (hu : Up l l.length) : Ok (slice_apart l) (fun b => b = true ↔ Apart l) := by
 unfold slice_apart
 let A : Nat → Prop := fun n => ∀ (i : Nat) y, i < n → l[i]? = some y → y.fSelf = sumTo l i (w64 (y.fSpan.fTo - y.fSpan.fFrom)) l.length ∧ ∀ (j : Nat) z, j < i → l[j]? = some z → ¬ Bad l j i z y
 refine ok_bindS (Q := InlR (fun _ => Apart l) (fun b => b = false ∧ ¬ Apart l)) (ok_upN l.length A h (by intro i y hi; omega) (fun i hI h2 => ?_)) (fun _ hq => ok_some ⟨fun _ => hq, fun _ => rfl⟩) (fun r hr => ok_some ⟨fun e => by rw [hr.1] at e; simp at e, fun e => absurd e hr.2⟩)
 unfold slice_apart_L2
 refine ok_ite (fun hi => ?_) (fun hi => ok_inr (fun i' y hy => hI i' y (by have := lt_of_get hy; omega) hy))
 refine ok_bind (ok_ixN (by omega)) (fun y hy => ?_)
 refine ok_bindS (Q := InlR (fun e => e = sumTo l i (w64 (y.fSpan.fTo - y.fSpan.fFrom)) l.length ∧ ∀ (j : Nat) z, j < i → l[j]? = some z → ¬ Bad l j i z y) (InlR (fun _ => False) (fun r => r = .inr false ∧ ¬ Apart l))) (ok_up2N l.length (fun a n => a = sumTo l i (w64 (y.fSpan.fTo - y.fSpan.fFrom)) n ∧ ∀ (j : Nat) z, j < n → j < i → l[j]? = some z → ¬ Bad l j i z y) h ⟨rfl, by intro j z hj; omega⟩ (fun a j hJ h4 => ?_)) (fun e he => ?_) (fun r hr => ?_)
 ·unfold slice_apart_L1
  dsimp only
  refine ok_ite (fun hj => ?_) (fun hj => ok_inr ⟨?_, fun j' z hj' hz => hJ.2 j' z (by have := lt_of_get hz; omega) hj' hz⟩)
  ·refine ok_bind (ok_ixN (by omega)) (fun z hz => ?_)
   rw [hJ.1]
   refine ok_bind (sumTo_step hz) (fun v hv => ?_)
   refine ok_bind (Q := fun b => b = true ↔ (j < i ∧ Bad l j i z y)) ?_ (fun b hb => ?_)
   ·refine ok_ite (fun h5 => ?_) (fun h5 => ok_some ⟨fun e => by simp at e, fun e => absurd e.1 (by omega)⟩)
    refine ok_ite (fun h6 => ?_) (fun h6 => ok_some ⟨fun e => by simp at e, fun e => absurd e.2.1 h6⟩)
    refine ok_ite (fun h7 => ?_) (fun h7 => ok_some ⟨fun e => by simp at e, fun e => absurd e.2.2.1 h7⟩)
    refine ok_ite (fun h8 => ?_) (fun h8 => ok_some ⟨fun e => by simp at e, fun e => absurd e.2.2.2.1 h8⟩)
    refine ok_bind (under_ok l h hu j i (by omega) (by omega)) (fun r hr => ok_some ?_)
    constructor
    ·intro e
     refine ⟨by omega, h6, h7, h8, fun hd => ?_⟩
     rw [hr.2 hd] at e; simp at e
    ·intro e
     cases r with
     | false => rfl
     | true => exact absurd (hr.1 rfl) e.2.2.2.2
   ·refine ok_cond (fun e => ok_inr ⟨rfl, fun hA => ?_⟩) (fun e => ?_)
    ·obtain ⟨g1, g2⟩ := hb.1 e
     exact (hA i y hy).2 j z g1 hz g2
    ·rw [w64_N (n := l.length) (by omega) h]
     refine ok_inl ⟨by omega, rfl, hv, fun j' z' hj' hji hz' hbad => ?_⟩
     by_cases e2 : j' = j
     ·subst e2; rw [hz] at hz'; cases hz'
      rw [hb.2 ⟨hji, hbad⟩] at e; simp at e
     ·exact hJ.2 j' z' (by omega) hji hz' hbad
  ·rw [hJ.1, show j = l.length by omega]
 ·dsimp only
  refine ok_nite (fun hne => ok_inr ⟨rfl, fun hA => hne ((hA i y hy).1.trans he.1.symm)⟩) (fun heq => ?_)
  rw [w64_N (n := l.length) (by omega) h]
  refine ok_inl ⟨by omega, rfl, fun i' y' hi' hy' => ?_⟩
  by_cases e2 : i' = i
  ·subst e2; rw [hy] at hy'; cases hy'
   exact ⟨heq.trans he.1, he.2⟩
  ·exact hI i' y' (by omega) hy'
 ·rcases r with r | r
  ·exact (hr : False).elim
  ·obtain ⟨e1, e2⟩ : r = .inr false ∧ ¬ Apart l := hr
   subst e1
   exact ok_inr ⟨rfl, e2⟩
theorem formed_ok (l : List api_Slice) (h : l.length ≤ 9223372036854775807) (hu : Up l l.length) : Ok (loop (tracebookref26_formed_L2 l) 0) (fun q => (∃ u, q = .inl u ∧ Apart' l) ∨ (q = .inr false ∧ ¬ Apart' l)) := by
 let A : Nat → Prop := fun n => ∀ (i : Nat) y, i < n → l[i]? = some y → y.fSelf = sumTo l i (w64 (y.fSpan.fTo - y.fSpan.fFrom)) l.length ∧ ∀ (j : Nat) z, i < j → l[j]? = some z → ¬ Bad l i j y z
 refine ok_upN l.length A h (by intro i y hi; omega) (fun i hI h2 => ?_)
 unfold tracebookref26_formed_L2
 refine ok_ite (fun hi => ?_) (fun hi => ok_inr (.inl ⟨(), rfl, fun i' y hy => hI i' y (by have := lt_of_get hy; omega) hy⟩))
 obtain ⟨y, hiy, hy⟩ := ok_ixN (xs := l) (i := i) (by omega)
 simp only [hiy, Option.bind_some]
 refine ok_bindS (Q := InlR (fun e => e = sumTo l i (w64 (y.fSpan.fTo - y.fSpan.fFrom)) l.length ∧ ∀ (j : Nat) z, i < j → l[j]? = some z → ¬ Bad l i j y z) (InlR (fun _ => False) (fun r => r = .inr false ∧ ¬ Apart' l))) (ok_up2N l.length (fun a n => a = sumTo l i (w64 (y.fSpan.fTo - y.fSpan.fFrom)) n ∧ ∀ (j : Nat) z, j < n → i < j → l[j]? = some z → ¬ Bad l i j y z) h ⟨rfl, by intro j z hj; omega⟩ (fun a j hJ h4 => ?_)) (fun e he => ?_) (fun r hr => ?_)
 ·unfold tracebookref26_formed_L1
  dsimp only
  refine ok_ite (fun hj => ?_) (fun hj => ok_inr ⟨?_, fun j' z hj' hz => hJ.2 j' z (by have := lt_of_get hz; omega) hj' hz⟩)
  ·obtain ⟨z, hjz, hz⟩ := ok_ixN (xs := l) (i := j) (by omega)
   simp only [hjz, hiy, Option.bind_some]
   rw [hJ.1]
   refine ok_bind (sumTo_step hz) (fun v hv => ?_)
   refine ok_bind (Q := fun b => b = true ↔ (y.fSpan.fFrom < z.fSpan.fTo ∧ z.fSpan.fFrom < y.fSpan.fTo)) ?_ (fun v9 hv9 => ?_)
   ·by_cases g1 : y.fSpan.fFrom < z.fSpan.fTo <;> by_cases g2 : z.fSpan.fFrom < y.fSpan.fTo <;> simp [g1, g2, Ok]
   refine ok_bind (Q := fun b => b = true ↔ (i < j ∧ Bad l i j y z)) ?_ (fun b hb => ?_)
   ·refine ok_ite (fun h5 => ?_) (fun h5 => ok_some ⟨fun e => by simp at e, fun e => absurd e.1 (by omega)⟩)
    refine ok_ite (fun h6 => ?_) (fun h6 => ok_some ⟨fun e => by simp at e, fun e => absurd e.2.1 h6⟩)
    refine ok_cond (fun h7 => ?_) (fun h7 => ok_some ⟨fun e => by simp at e, fun e => ?_⟩)
    ·refine ok_bind (above_ok l h hu i j (by omega) (by omega)) (fun r hr => ok_some ?_)
     have h8 := hv9.1 h7
     constructor
     ·intro e
      refine ⟨by omega, h6, h8.2, h8.1, fun hd => ?_⟩
      rw [hr.2 hd] at e; simp at e
     ·intro e
      cases r with
      | false => rfl
      | true => exact absurd (hr.1 rfl) e.2.2.2.2
    ·have := hv9.2 ⟨e.2.2.2.1, e.2.2.1⟩
     rw [h7] at this; simp at this
   ·refine ok_cond (fun e => ok_inr ⟨rfl, fun hA => ?_⟩) (fun e => ?_)
    ·obtain ⟨g1, g2⟩ := hb.1 e
     exact (hA i y hy).2 j z g1 hz g2
    ·rw [w64_N (n := l.length) (by omega) h]
     refine ok_inl ⟨by omega, rfl, hv, fun j' z' hj' hji hz' hbad => ?_⟩
     by_cases e2 : j' = j
     ·subst e2; rw [hz] at hz'; cases hz'
      rw [hb.2 ⟨hji, hbad⟩] at e; simp at e
     ·exact hJ.2 j' z' (by omega) hji hz' hbad
  ·rw [hJ.1, show j = l.length by omega]
 ·dsimp only
  refine ok_nite (fun hne => ok_inr (.inr ⟨rfl, fun hA => hne ((hA i y hy).1.trans he.1.symm)⟩)) (fun heq => ?_)
  rw [w64_N (n := l.length) (by omega) h]
  refine ok_inl ⟨by omega, rfl, fun i' y' hi' hy' => ?_⟩
  by_cases e2 : i' = i
  ·subst e2; rw [hy] at hy'; cases hy'
   exact ⟨heq.trans he.1, he.2⟩
  ·exact hI i' y' (by omega) hy'
 ·rcases r with r | r
  ·exact (hr : False).elim
  ·obtain ⟨e1, e2⟩ : r = .inr false ∧ ¬ Apart' l := hr
   subst e1
   exact ok_inr (.inr ⟨rfl, e2⟩)
theorem nested_res {l : List api_Slice} {q : Unit ⊕ Bool} (h : loop (slice_nested_L1 l) 0 = some q) : ∀ x, q = .inr x → x = false := by
 refine loop_res (Q := fun q : Unit ⊕ Bool => ∀ x, q = .inr x → x = false) (fun i r hr => ?_) h
 unfold slice_nested_L1 at hr
 cases h1 : decide (i < (l.length : Int)) with
 | false => rw [h1] at hr; simp at hr; subst hr; intro x hx; cases hx
 | true =>
  rw [h1] at hr
  simp only [cond_true] at hr
  obtain ⟨y, _, hr⟩ := bB hr
  obtain ⟨v, _, hr⟩ := bB hr
  cases v
  ·simp only [cond_false] at hr
   cases h2 : decide (y.fParent = -1) with
   | true =>
    rw [h2] at hr
    simp only [cond_true] at hr
    cases h3 : decide (y.fDepth = 0) <;> simp [h3] at hr
    subst hr; intro x hx; cases hx; rfl
   | false =>
    rw [h2] at hr
    simp only [cond_false] at hr
    obtain ⟨z, _, hr⟩ := bB hr
    obtain ⟨w, _, hr⟩ := bB hr
    cases w <;> simp at hr
    subst hr; intro x hx; cases hx; rfl
  ·simp at hr; subst hr; intro x hx; cases hx; rfl
theorem slice_L1_eq (l : List api_Slice) : slice_Check_L1 l = tracebookref26_Check_L1 l := by
 funext i
 unfold slice_Check_L1 tracebookref26_Check_L1
 cases e : idx l i with
 | none => rfl
 | some y =>
  simp only [Option.bind_some, ← Name_eq, Valid_eq]
  congr 1
  congr 1
  funext v53
  congr 1
  congr 1
  funext r54
  congr 1
  have e4 : (bif decide (0 < i) then (idx l (w64 (i - 1))).bind fun y58 => (slice_compare y58 y).bind fun r59 => some (decide (0 < r59)) else some false) = (bif decide (0 < i) then (idx l (w64 (i - 1))).bind fun y68 => (tracebookref26_Precedes y y68).bind fun r69 => some r69 else some false) := by
   congr 1
   congr 1
   funext p
   obtain ⟨c, h1, h2⟩ := compare_eq p y
   rw [h1, h2]; rfl
  rw [e4]
theorem slice_eq (l : List api_Slice) (h : l.length ≤ 9223372036854775807) : slice_Check l = tracebookref26_Check l := by
 unfold slice_Check tracebookref26_Check
 rw [slice_L1_eq]
 congr 1
 funext q
 cases q with
 | inr x => rfl
 | inl u =>
  obtain ⟨b, hb, hUp⟩ := slice_nested_ok l h
  dsimp only
  rw [hb, Option.bind_some]
  unfold slice_nested at hb
  unfold tracebookref26_formed
  rw [← nested_step]
  obtain ⟨q, hq, hb⟩ := bB hb
  rw [hq, Option.bind_some]
  cases q with
  | inr x =>
   have := nested_res hq x rfl
   subst this
   simp at hb; subst hb
   rfl
  | inl u' =>
   simp at hb; subst hb
   have hu := hUp rfl
   obtain ⟨b1, h1, h2⟩ := apart_ok l h hu
   obtain ⟨q2, h3, h4⟩ := formed_ok l h hu
   simp only [h1, h3, Option.bind_some, Bool.not_true, cond_false]
   rcases h4 with ⟨u2, rfl, h5⟩ | ⟨rfl, h5⟩
   ·rw [h2.2 ((apart_iff l).2 h5)]; rfl
   ·cases b1
    ·rfl
    ·exact absurd ((apart_iff l).1 (h2.1 rfl)) h5
theorem idx_mapO {α β : Type} (f : α → β) (l : List α) (i : Int) : idx (l.map f) i = (idx l i).map f := by
 unfold idx
 split <;> simp
theorem index_eq (l : List api_Thread) (a : Int) : tracebookref27_index l a = slices_Index_int_int (l.map (·.fId)) a := by
 unfold tracebookref27_index slices_Index_int_int
 have h : tracebookref27_index_L1 l a = slices_Index_int_int_L1 (l.map (·.fId)) a := by
  funext i
  unfold tracebookref27_index_L1 slices_Index_int_int_L1
  rw [idx_mapO, List.length_map]
  cases idx l i with
  | none => rfl
  | some y =>
   simp only [Option.map_some, Option.bind_some]
   have : decide (y.fId = a) = decide (a = y.fId) := decide_eq_decide.2 ⟨Eq.symm, Eq.symm⟩
   rw [this]
 rw [h] <;> rfl
def distT (ths : List api_Thread) : Nat → List api_Thread
 | 0 => []
 | n + 1 => match ths[n]? with
  | some y => if slices_Index_int_int ((distT ths n).map (·.fId)) y.fId = some (-1) then distT ths n ++ [y] else distT ths n
  | none => distT ths n
theorem distT_len (ths : List api_Thread) : ∀ n, (distT ths n).length ≤ n
 | 0 => by simp [distT]
 | n + 1 => by
  have := distT_len ths n
  simp only [distT]
  split
  ·split <;> simp <;> omega
  ·omega
theorem Index_rng (ix : List Int) (a : Int) (h : ix.length ≤ 9223372036854775807) : Ok (slices_Index_int_int ix a) (fun r => (r = -1 ∨ 0 ≤ r) ∧ r < ix.length) := by
 unfold slices_Index_int_int
 refine ok_bindS (Q := InlR Yes (fun r : Int => 0 ≤ r ∧ r < ix.length)) (ok_up ix.length h fun i h1 h2 => ?_) (fun _ _ => ok_some ⟨.inl rfl, by omega⟩) (fun r hr => ok_some ?_)
 ·unfold slices_Index_int_int_L1
  refine ok_ite (fun hi => ?_) (fun _ => ok_inr trivial)
  refine ok_bind (ok_idx h1 hi) (fun y hy => ?_)
  exact ok_ite (fun e => ok_inr ⟨h1, hi⟩) (fun _ => ok_next h1 hi h)
 ·have hr' : 0 ≤ r ∧ r < ix.length := hr
  exact ⟨.inr hr'.1, hr'.2⟩
theorem distinct_p (ths : List api_Thread) (h : ths.length ≤ 1000000) : state_distinct ths = some ((distT ths ths.length).map (·.fId)) := by
 have : Ok (state_distinct ths) (fun r => r = (distT ths ths.length).map (·.fId)) := by
  unfold state_distinct
  refine ok_bind (Q := fun r => r = (distT ths ths.length).map (·.fId)) (ok_up2N ths.length (fun a n => a = (distT ths n).map (·.fId)) (by omega) rfl (fun a i hI h2 => ?_)) (fun r hr => ok_some hr)
  unfold state_distinct_L1
  dsimp only
  subst hI
  have hlen := distT_len ths i
  refine ok_ite (fun hi => ?_) (fun hi => ok_inr (by rw [show i = ths.length by omega]))
  refine ok_bind (Q := fun r => r = (distT ths (i + 1)).map (·.fId)) ?_ (fun r hr => ?_)
  ·obtain ⟨y, hiy, hy⟩ := ok_ixN (xs := ths) (i := i) (by omega)
   rw [hiy, Option.bind_some]
   unfold slices_Contains_int_int
   obtain ⟨x, hx, hx1, hx2⟩ := Index_rng ((distT ths i).map (·.fId)) y.fId (by simp; omega)
   rw [hx]
   simp only [Option.bind_some, distT, hy, hx]
   rcases hx1 with rfl | hx1
   ·rw [room_ok (by simp; omega) (by simp; omega)]
    exact ok_some (by simp)
   ·have : ¬ x = -1 := by omega
    simp only [hx1, decide_true, Bool.not_true, cond_false]
    exact ok_some (by simp [this])
  ·rw [w64_N (n := ths.length) (by omega) (by omega)]
   exact ok_inl ⟨by omega, rfl, hr⟩
 obtain ⟨r, h1, h2⟩ := this
 rw [h1, h2]
theorem distinct_r (ths : List api_Thread) (h : ths.length ≤ 1000000) : tracebookref27_distinct ths = some (distT ths ths.length) := by
 have : Ok (tracebookref27_distinct ths) (fun r => r = distT ths ths.length) := by
  unfold tracebookref27_distinct
  refine ok_bind (Q := fun r => r = distT ths ths.length) (ok_up2N ths.length (fun a n => a = distT ths n) (by omega) rfl (fun a i hI h2 => ?_)) (fun r hr => ok_some hr)
  unfold tracebookref27_distinct_L1
  dsimp only
  subst hI
  have hlen := distT_len ths i
  refine ok_ite (fun hi => ?_) (fun hi => ok_inr (by rw [show i = ths.length by omega]))
  refine ok_bind (Q := fun r => r = distT ths (i + 1)) ?_ (fun r hr => ?_)
  ·obtain ⟨y, hiy, hy⟩ := ok_ixN (xs := ths) (i := i) (by omega)
   rw [hiy, Option.bind_some, index_eq]
   obtain ⟨x, hx, hx1, hx2⟩ := Index_rng ((distT ths i).map (·.fId)) y.fId (by simp; omega)
   rw [hx]
   simp only [Option.bind_some, distT, hy, hx]
   rcases hx1 with rfl | hx1
   ·rw [room_ok (by simp; omega) (by simp; omega)]
    exact ok_some (by simp)
   ·have e1 : ¬ x = -1 := by omega
    have e2 : ¬ x < 0 := by omega
    simp only [e2, decide_false, cond_false]
    exact ok_some (by simp [e1])
  ·rw [w64_N (n := ths.length) (by omega) (by omega)]
   exact ok_inl ⟨by omega, rfl, hr⟩
 obtain ⟨r, h1, h2⟩ := this
 rw [h1, h2]
theorem right_eq (s : api_State) : tracebookref27_right s = state_fields s := by
 unfold tracebookref27_right state_fields
 have e : decide (63 < s.fCpu) = decide (64 ≤ s.fCpu) := decide_eq_decide.2 (by omega)
 rw [e]
 generalize decide (s.fState < 0) = a1
 generalize decide (5 < s.fState) = a2
 generalize decide (s.fState = 4) = a3
 generalize decide (s.fCpu < 0) = a4
 generalize decide (64 ≤ s.fCpu) = a5
 generalize decide (s.fCpu = -1) = a6
 generalize decide (s.fState = 2) = a7
 generalize decide (s.fOn < 0) = a8
 generalize decide (1000000000000000 < s.fOn) = a9
 generalize decide (s.fOn = -1) = a10
 generalize decide (s.fBy = -1) = a11
 generalize decide (0 ≤ s.fBy) = a12
 generalize decide (s.fBy ≤ 1000000000000000) = a13
 generalize decide (s.fState = 1) = a14
 cases a14 <;> cases a7 <;> cases a3 <;> cases a1 <;> first
  | rfl
  | (cases a2 <;> first
   | rfl
   | (cases a4 <;> cases a5 <;> cases a6 <;> first
    | rfl
    | (cases a8 <;> cases a9 <;> cases a10 <;> first
     | rfl
     | (cases a11 <;> cases a12 <;> cases a13 <;> rfl))))
theorem same_eq (a b : api_State) : (bif decide (b.fState = a.fState) then bif decide (b.fCpu = a.fCpu) then some (decide (b.fOn = a.fOn)) else some false else some false) = state_same a b := by
 unfold state_same
 by_cases h1 : a.fState = b.fState <;> by_cases h2 : a.fCpu = b.fCpu <;> by_cases h3 : a.fOn = b.fOn <;> simp [h1, h2, h3, Ne.symm, eq_comm] <;> simp_all [eq_comm]
theorem loop_congr_up2 {σ ρ : Type} {step step' : σ × Int → Option ((σ × Int) ⊕ ρ)} (n : Nat) (Inv : σ → Int → Prop) {s0 : σ} (h0 : Inv s0 0) (h1 : ∀ (s : σ) (i : Int), Inv s i → 0 ≤ i → i ≤ n → Ok (step (s, i)) (InlR (fun a => i < n ∧ a.2 = i + 1 ∧ Inv a.1 (i + 1)) Yes)) (h2 : ∀ (s : σ) (i : Int), Inv s i → 0 ≤ i → i ≤ n → step (s, i) = step' (s, i)) : loop step (s0, 0) = loop step' (s0, 0) := by
 refine loop_congr (fun s : σ × Int => Inv s.1 s.2 ∧ 0 ≤ s.2 ∧ s.2 ≤ n) (fun s hi => h2 s.1 s.2 hi.1 hi.2.1 hi.2.2) (fun s s' hi hs => ?_) ⟨h0, by simp, by simp⟩
 obtain ⟨a, j⟩ := s'
 have := (h1 s.1 s.2 hi.1 hi.2.1 hi.2.2).of_eq hs
 obtain ⟨h3, h4, h5⟩ : s.2 < n ∧ j = s.2 + 1 ∧ Inv a (s.2 + 1) := this
 subst h4
 exact ⟨h5, by simp; omega, by simp; omega⟩
structure AtIx (l : List api_State) (ix : List Int) (a i : Int) : Prop where
 z : i = 0 → a = -1
 p : 0 < i → ∀ s, l[(i - 1).toNat]? = some s → slices_Index_int_int ix s.fThread = some a ∧ 0 ≤ a
 r : -1 ≤ a ∧ a < ix.length
theorem AtIx.next {l : List api_State} {ix : List Int} (hx : ix.length ≤ 1000000) {i x : Int} (h0 : 0 ≤ i) {y : api_State} (hy : l[i.toNat]? = some y) (hi : slices_Index_int_int ix y.fThread = some x) (hp : 0 ≤ x) : AtIx l ix x (i + 1) := by
 have := (slices_Index_int_int_lt ix y.fThread (by omega)).of_eq hi
 exact ⟨by omega, fun _ s hs => by rw [show i + 1 - 1 = i by omega, hy] at hs; cases hs; exact ⟨hi, hp⟩, by omega, this.2⟩
theorem state_L2_up (l : List api_State) (ix : List Int) (hl : l.length ≤ 9223372036854775807) (hx : ix.length ≤ 1000000) (a i : Int) (H : AtIx l ix a i) (h1 : 0 ≤ i) (h2 : i ≤ l.length) : Ok (state_Check_L2 l ix (a, i)) (InlR (fun s : Int × Int => i < (l.length : Int) ∧ s.2 = i + 1 ∧ AtIx l ix s.1 (i + 1)) (InlR (fun e : Int => -1 ≤ e ∧ e < (ix.length : Int)) Yes)) := by
 unfold state_Check_L2
 dsimp only
 have no : ∀ n : Int, InlR (fun s : Int × Int => i < (l.length : Int) ∧ s.2 = i + 1 ∧ AtIx l ix s.1 (i + 1)) (InlR (fun e : Int => -1 ≤ e ∧ e < (ix.length : Int)) Yes) (.inr (.inr n)) := fun _ => trivial
 refine ok_ite (fun hi => ?_) (fun _ => ok_inr H.r)
 refine ok_bind (ok_idx h1 hi) (fun y hy => ?_)
 refine ok_bindE (slices_Index_int_int_ok ix y.fThread (by omega)) (fun x hxx => ?_)
 refine ok_ite (fun _ => ⟨_, rfl, no _⟩) (fun h0 => ?_)
 refine ok_bind (spans_Valid_ok y.fSpan) (fun v _ => ?_)
 refine ok_not (fun _ => ⟨_, rfl, no _⟩) (fun _ => ?_)
 refine ok_bind (state_fields_ok y) (fun _ _ => ?_)
 refine ok_not (fun _ => ⟨_, rfl, no _⟩) (fun _ => ?_)
 refine ok_bind (Q := Yes) ?_ (fun v1 _ => ?_)
 ·refine ok_ite (fun e => ?_) (fun _ => ok_yes)
  have hpos : 0 < i := by
   by_cases e0 : i = 0
   ·have := H.z e0; omega
   ·omega
  rw [show w64 (i - 1) = i - 1 from w64_of (by omega)]
  refine ok_bind (ok_idx (by omega) (by omega)) (fun z hz => ?_)
  refine ok_nite (fun _ => ok_yes) (fun _ => ?_)
  refine ok_bind (ok_idx (by omega) (by omega)) (fun z' hz' => ?_)
  exact ok_bind (state_same_ok _ _) (fun _ _ => ok_yes)
 refine ok_cond (fun _ => ⟨_, rfl, no _⟩) (fun _ => ?_)
 refine ok_bind (Q := Yes) (by repeat' (first | (with_reducible first | exact ok_yes | exact ok_inrY | exact ok_inlY | refine ok_nite (fun _ => ?_) fun _ => ?_ | refine ok_ite (fun _ => ?_) fun _ => ?_ | refine ok_not (fun _ => ?_) fun _ => ?_ | refine ok_cond (fun _ => ?_) fun _ => ?_) | (with_reducible refine ok_next ?_ ?_ ?_ <;> (first | assumption | omega | rw [w64_of] <;> omega)) | with_reducible refine ok_bind (ok_idx (by (first | assumption | omega | rw [w64_of] <;> omega)) (by (first | assumption | omega | rw [w64_of] <;> omega))) (fun _ _ => ?_) | (with_reducible refine ok_bind (Q := Yes) ?_ fun _ _ => ?_) | dsimp only)) (fun v2 _ => ?_)
 refine ok_cond (fun _ => ⟨_, rfl, no _⟩) (fun _ => ?_)
 exact ok_inl ⟨hi, w64_of (by omega), AtIx.next hx h1 hy hxx (by omega)⟩
theorem state_L2_eq (l : List api_State) (ths : List api_Thread) (hl : l.length ≤ 9223372036854775807) (hx : ths.length ≤ 1000000) (a i : Int) (H : AtIx l (ths.map (·.fId)) a i) (h1 : 0 ≤ i) (h2 : i ≤ l.length) : state_Check_L2 l (ths.map (·.fId)) (a, i) = tracebookref27_Check_L2 l ths (a, i) := by
 unfold state_Check_L2 tracebookref27_Check_L2
 dsimp only
 by_cases hi : i < (l.length : Int)
 ·simp only [hi, decide_true, cond_true]
  obtain ⟨y, hiy, hy⟩ := ok_idx h1 hi
  simp only [hiy, Option.bind_some, index_eq, Valid_eq, right_eq]
  obtain ⟨x, hx0, _⟩ := slices_Index_int_int_ok (ths.map (·.fId)) y.fThread (by simp; omega)
  rw [hx0, Option.bind_some, Option.bind_some]
  by_cases hx1 : x < 0
  ·simp [hx1]
  ·simp only [hx1, decide_false, cond_false]
   congr 1
   funext v
   congr 1
   congr 1
   funext w
   congr 1
   have hxl := (slices_Index_int_int_lt (ths.map (·.fId)) y.fThread (by simp; omega)).of_eq hx0
   by_cases h0 : 0 < i
   ·rw [show w64 (i - 1) = i - 1 from w64_of (by omega)]
    obtain ⟨p, hip, hp⟩ := ok_idx (xs := l) (i := i - 1) (by omega) (by omega)
    obtain ⟨hpa, ha0⟩ := H.p h0 p hp
    have hpl := (slices_Index_int_int_lt (ths.map (·.fId)) p.fThread (by simp; omega)).of_eq hpa
    simp only [hip, h0, decide_true, cond_true, Option.bind_some]
    by_cases ht : p.fThread = y.fThread
    ·have hxa : x = a := by rw [ht, hx0] at hpa; cases hpa; rfl
     subst hxa
     simp only [ht, decide_true, cond_true, Bool.not_true, cond_false, Option.bind_some]
     rw [← same_eq]
     by_cases g1 : y.fSpan.fFrom = p.fSpan.fTo
     ·have g2 : p.fSpan.fTo = y.fSpan.fFrom := g1.symm
      simp only [decide_eq_true g1, decide_eq_true g2, Bool.not_true, cond_false]
      by_cases g3 : p.fState = y.fState <;> by_cases g4 : p.fCpu = y.fCpu <;> by_cases g5 : p.fOn = y.fOn <;> simp [g3, g4, g5]
     ·have g2 : ¬ p.fSpan.fTo = y.fSpan.fFrom := fun e => g1 e.symm
      simp [g1, g2]
    ·have hxa : ¬ x = a := by
      intro e
      subst e
      have e1 := hxl.1 (by omega)
      have e2 := hpl.1 (by omega)
      rw [e1] at e2
      exact ht (Option.some.inj e2).symm
     simp only [ht, hxa, decide_false, cond_false, Bool.not_false, cond_true, Option.bind_some]
     by_cases g1 : x = w64 (a + 1) <;> by_cases g2 : y.fSpan.fFrom = 0 <;> simp [g1, g2]
   ·have e0 : i = 0 := by omega
    have ea := H.z e0
    have hxa : ¬ x = a := by omega
    simp only [h0, hxa, decide_false, cond_false, Bool.not_false, cond_true, Option.bind_some]
    by_cases g1 : x = w64 (a + 1) <;> by_cases g2 : y.fSpan.fFrom = 0 <;> simp [g1, g2]
 ·simp [hi]
def EndA (l : List api_State) (e : Int) : Prop := ∀ (i : Nat) s s', l[i]? = some s → l[i + 1]? = some s' → s'.fThread ≠ s.fThread → s.fSpan.fTo = e
theorem endP_ok (l : List api_State) (hl : l.length ≤ 9223372036854775807) (y : api_State) (hy : l[l.length - 1]? = some y) : Ok (loop (state_Check_L1 l y) 0) (fun q => (∃ u, q = .inl u ∧ EndA l y.fSpan.fTo) ∨ (q = .inr 11 ∧ ¬ EndA l y.fSpan.fTo)) := by
 refine ok_upN l.length (fun n => ∀ (i : Nat) s s', i < n → l[i]? = some s → l[i + 1]? = some s' → s'.fThread ≠ s.fThread → s.fSpan.fTo = y.fSpan.fTo) hl (by intro i s s' hi; omega) (fun i hI h2 => ?_)
 unfold state_Check_L1
 refine ok_ite (fun hi => ?_) (fun hi => ok_inr (.inl ⟨(), rfl, fun i' s s' hs hs' => hI i' s s' (by have := lt_of_get hs; omega) hs hs'⟩))
 obtain ⟨z, hiz, hz⟩ := ok_ixN (xs := l) (i := i) (by omega)
 rw [hiz, Option.bind_some, w64_N (n := l.length) (by omega) hl]
 have nx : (∀ s', l[i + 1]? = some s' → s'.fThread ≠ z.fThread → z.fSpan.fTo = y.fSpan.fTo) → ∀ (i' : Nat) s s', i' < i + 1 → l[i']? = some s → l[i' + 1]? = some s' → s'.fThread ≠ s.fThread → s.fSpan.fTo = y.fSpan.fTo := by
  intro h i' s s' hi' hs hs' hne
  by_cases e : i' = i
  ·subst e; rw [hz] at hs; cases hs; exact h s' hs' hne
  ·exact hI i' s s' (by omega) hs hs' hne
 by_cases hlast : i + 1 = l.length
 ·have e1 : (((i + 1 : Nat) : Int) = (l.length : Int)) := by omega
  have e2 : z = y := by
   rw [show l.length - 1 = i by omega, hz] at hy; exact Option.some.inj hy
  subst e2
  simp only [e1, decide_true, cond_true, Option.bind_some, Bool.not_true, cond_false]
  refine ok_inl ⟨by omega, by omega, nx (fun s' hs' => ?_)⟩
  have := lt_of_get hs'; omega
 ·have e1 : ¬ (((i + 1 : Nat) : Int) = (l.length : Int)) := by omega
  obtain ⟨s', his, hs'⟩ := ok_ixN (xs := l) (i := i + 1) (by omega)
  simp only [e1, his, decide_false, cond_false, Option.bind_some]
  by_cases g1 : s'.fThread = z.fThread
  ·simp only [g1, decide_true, Bool.not_true, cond_false, Option.bind_some]
   refine ok_inl ⟨by omega, rfl, nx (fun s'' hs'' hne => ?_)⟩
   rw [hs'] at hs''; cases hs''; exact absurd g1 hne
  ·by_cases g2 : z.fSpan.fTo = y.fSpan.fTo
   ·simp only [g1, g2, decide_true, decide_false, Bool.not_true, Bool.not_false, cond_true, cond_false, Option.bind_some]
    exact ok_inl ⟨by omega, rfl, nx (fun s'' hs'' hne => g2)⟩
   ·simp only [g1, g2, decide_false, Bool.not_false, cond_true, Option.bind_some]
    exact ok_inr (.inr ⟨rfl, fun hA => g2 (hA i z s' hz hs' g1)⟩)
theorem endR_ok (l : List api_State) (hl : l.length ≤ 9223372036854775807) (y : api_State) (hy : l[l.length - 1]? = some y) (h0 : 0 < l.length) : Ok (loop (tracebookref27_Check_L1 l) 1) (fun q => (∃ u, q = .inl u ∧ EndA l y.fSpan.fTo) ∨ (q = .inr 11 ∧ ¬ EndA l y.fSpan.fTo)) := by
 refine ok_loop (fun i : Int => 1 ≤ i ∧ i ≤ l.length ∧ ∀ (k : Nat) s s', (k : Int) + 1 < i → l[k]? = some s → l[k + 1]? = some s' → s'.fThread ≠ s.fThread → s.fSpan.fTo = y.fSpan.fTo) (fun i : Int => ((l.length : Int) - i).toNat) (fun i hi => ?_) ⟨by omega, by omega, by intro k s s' hk; omega⟩ (by simp [manyRounds]; omega)
 obtain ⟨h1, h2, hI⟩ := hi
 unfold tracebookref27_Check_L1
 refine ok_ite (fun hi => ?_) (fun hi => ok_inr (.inl ⟨(), rfl, fun i' s s' hs hs' => hI i' s s' (by have := lt_of_get hs'; omega) hs hs'⟩))
 rw [show w64 (i - 1) = i - 1 from w64_of (by omega), show w64 (i + 1) = i + 1 from w64_of (by omega), show w64 ((l.length : Int) - 1) = (l.length : Int) - 1 from w64_of (by omega)]
 obtain ⟨s', his, hs'⟩ := ok_idx (xs := l) (i := i) (by omega) hi
 obtain ⟨z, hiz, hz⟩ := ok_idx (xs := l) (i := i - 1) (by omega) (by omega)
 obtain ⟨y', hiy, hy'⟩ := ok_idx (xs := l) (i := (l.length : Int) - 1) (by omega) (by omega)
 have ey : y' = y := by
  rw [show ((l.length : Int) - 1).toNat = l.length - 1 by omega, hy] at hy'; exact (Option.some.inj hy').symm
 subst ey
 simp only [his, hiz, hiy, Option.bind_some]
 have hz' : l[(i - 1).toNat + 1]? = some s' := by rw [show (i - 1).toNat + 1 = i.toNat by omega]; exact hs'
 have nx : (s'.fThread ≠ z.fThread → z.fSpan.fTo = y'.fSpan.fTo) → ∀ (k : Nat) s s'', (k : Int) + 1 < i + 1 → l[k]? = some s → l[k + 1]? = some s'' → s''.fThread ≠ s.fThread → s.fSpan.fTo = y'.fSpan.fTo := by
  intro h k s s'' hk hs hs'' hne
  by_cases e : (k : Int) + 1 = i
  ·have : (i - 1).toNat = k := by omega
   rw [this] at hz hz'
   rw [hz] at hs; rw [hz'] at hs''; cases hs; cases hs''
   exact h hne
  ·exact hI k s s'' (by omega) hs hs'' hne
 by_cases g1 : s'.fThread = z.fThread
 ·simp only [g1, decide_true, Bool.not_true, cond_false, Option.bind_some]
  exact ok_inl ⟨⟨by omega, by omega, nx (fun hne => absurd g1 hne)⟩, by omega⟩
 ·by_cases g2 : z.fSpan.fTo = y'.fSpan.fTo
  ·simp only [g1, g2, decide_true, decide_false, Bool.not_true, Bool.not_false, cond_true, cond_false, Option.bind_some]
   exact ok_inl ⟨⟨by omega, by omega, nx (fun _ => g2)⟩, by omega⟩
  ·simp only [g1, g2, decide_false, Bool.not_false, cond_true, Option.bind_some]
   exact ok_inr (.inr ⟨rfl, fun hA => g2 (hA _ z s' hz hz' g1)⟩)
theorem state_eq (ths : List api_Thread) (l : List api_State) (hx : ths.length ≤ 1000000) (hl : l.length ≤ 9223372036854775807) : state_Check ths l = tracebookref27_Check ths l := by
 unfold state_Check tracebookref27_Check
 rw [distinct_p ths hx, distinct_r ths hx, Option.bind_some, Option.bind_some]
 have hdl := distT_len ths ths.length
 generalize distT ths ths.length = ds at *
 have hds : ds.length ≤ 1000000 := by omega
 have hdm : (ds.map (·.fId)).length ≤ 1000000 := by simpa using hds
 have h0 : AtIx l (ds.map (·.fId)) (-1) 0 := ⟨fun _ => rfl, by omega, by omega⟩
 have hloop : loop (state_Check_L2 l (ds.map (·.fId))) (-1, 0) = loop (tracebookref27_Check_L2 l ds) (-1, 0) :=
  loop_congr_up2 l.length (AtIx l (ds.map (·.fId))) h0 (fun a i hI h1 h2 => (state_L2_up l _ hl hdm a i hI h1 h2).mono (by
   rintro (s | r) hs
   ·exact hs
   ·trivial)) (fun a i hI h1 h2 => state_L2_eq l ds hl hds a i hI h1 h2)
 obtain ⟨q, hq, hpost⟩ : Ok (loop (state_Check_L2 l (ds.map (·.fId))) (-1, 0)) (InlR (fun e : Int => -1 ≤ e ∧ e < ((ds.map (·.fId)).length : Int)) Yes) :=
  ok_up2 l.length (AtIx l (ds.map (·.fId))) hl h0 (fun a i hI h1 h2 => state_L2_up l _ hl hdm a i hI h1 h2)
 by_cases hn : l.length = 0
 ·have e : l = [] := List.length_eq_zero_iff.1 hn
  subst e
  have : loop (state_Check_L2 [] (ds.map (·.fId))) (-1, 0) = some (.inl (-1)) := by
   have : Ok (loop (state_Check_L2 [] (ds.map (·.fId))) (-1, 0)) (fun q => q = .inl (-1)) := by
    refine ok_loop (fun s => s = (-1, 0)) (fun _ => 0) (fun s hs => ?_) rfl (by simp [manyRounds])
    subst hs
    unfold state_Check_L2
    simp
    exact ok_inr rfl
   obtain ⟨r, h1, h2⟩ := this
   rw [h1, h2]
  rw [this]
  rfl
 ·have hn' : ¬ ((l.length : Int) = 0) := by omega
  simp only [hn', decide_false, cond_false]
  rw [← hloop, hq]
  cases q with
  | inr r => rfl
  | inl e =>
   have he : -1 ≤ e ∧ e < ((ds.map (·.fId)).length : Int) := hpost
   simp at he
   dsimp only [Option.bind_some]
   rw [show w64 ((l.length : Int) - 1) = (l.length : Int) - 1 from w64_of (by omega)]
   obtain ⟨y, hiy, hy⟩ := ok_idx (xs := l) (i := (l.length : Int) - 1) (by omega) (by omega)
   have hy' : l[l.length - 1]? = some y := by rw [show l.length - 1 = ((l.length : Int) - 1).toNat by omega]; exact hy
   rw [hiy]
   dsimp only [Option.bind_some]
   obtain ⟨q1, hq1, hp1⟩ := endP_ok l hl y hy'
   obtain ⟨q2, hq2, hp2⟩ := endR_ok l hl y hy' (by omega)
   rw [hq1, hq2]
   have e1 : decide (w64 (e + 1) = ((ds.map (·.fId)).length : Int)) = decide (e = w64 ((ds.length : Int) - 1)) := by
    rw [w64_of (n := e + 1) (by omega), w64_of (n := (ds.length : Int) - 1) (by omega), List.length_map]
    exact decide_eq_decide.2 (by omega)
   rw [e1]
   rcases hp1 with ⟨u, rfl, g1⟩ | ⟨rfl, g1⟩ <;> rcases hp2 with ⟨u', rfl, g2⟩ | ⟨rfl, g2⟩
   ·rfl
   ·exact absurd g1 g2
   ·exact absurd g2 g1
   ·cases decide (e = w64 ((ds.length : Int) - 1)) <;> rfl
theorem firstL_at {α ρ : Type} {g : Nat → α → Option ρ} {r : ρ} : ∀ {xs : List α} {i j : Nat} {y : α}, xs[j]? = some y → g (i + j) y = some r → (∀ k z, k < j → xs[k]? = some z → g (i + k) z = none) → firstL g xs i = some r
 | [], i, j, y, h, _, _ => by simp at h
 | x :: xs, i, j, y, h, h1, h2 => by
  simp only [firstL]
  cases j with
  | zero =>
   simp at h; subst h
   rw [show i + 0 = i from rfl] at h1
   rw [h1]
  | succ j =>
   have := h2 0 x (by omega) rfl
   rw [show i + 0 = i from rfl] at this
   rw [this]
   exact firstL_at (j := j) (y := y) (by simpa using h) (by rw [show i + 1 + j = i + (j + 1) by omega]; exact h1) (fun k z hk hz => by rw [show i + 1 + k = i + (k + 1) by omega]; exact h2 (k + 1) z (by omega) (by simpa using hz))
theorem loopP {α : Type} {step : Int → Option (Int ⊕ (Unit ⊕ Int))} (l : List α) (c : α → Int) (hl : l.length ≤ 9223372036854775807)
  (hs : ∀ (i : Nat) y, l[i]? = some y → step (i : Int) = some (if c y = 0 then .inl (w64 ((i : Int) + 1)) else .inr (.inr (c y)))) (he : step (l.length : Int) = some (.inr (.inl ()))) :
  ((loop step 0).bind fun | .inl _ => some 0 | .inr rv => some rv) = some (orI (l.map c)) := by
 rw [loop_first l (fun _ y => if c y = 0 then none else some (.inr (c y))) (.inl ()) (by simp [manyRounds]; omega) (fun i y hy => ?_) he, Option.bind_some, ← orI_first (l.map c) 0]
 ·have : ∀ (l : List α) (i : Nat), (firstL (fun _ y => if c y = 0 then none else some (Sum.inr (c y) : Unit ⊕ Int)) l i) = firstL (fun _ y => if y = 0 then none else some (.inr y)) (l.map c) i := by
   intro l
   induction l with
   | nil => intro i; rfl
   | cons x l ih => intro i; simp only [firstL, List.map_cons]; split <;> simp_all
  rw [this]
  generalize (firstL _ (l.map c) 0).getD (Sum.inl ()) = q
  cases q <;> rfl
 ·rw [hs i y hy, w64_nat (i := i) (by have := lt_of_get hy; omega)]
  split <;> rfl
theorem loopR {α : Type} {step : Int × Int → Option ((Int × Int) ⊕ Int)} (l : List α) (c : α → Int) (hl : l.length ≤ 9223372036854775807)
  (hs : ∀ (i : Nat) y, l[i]? = some y → step (0, (i : Int)) = some (.inl (c y, w64 ((i : Int) + 1)))) (he : step (0, (l.length : Int)) = some (.inr 0)) (hn : ∀ (e i : Int), e ≠ 0 → step (e, i) = some (.inr e)) (e : Int) :
  loop step (e, 0) = some (if e = 0 then orI (l.map c) else e) := by
 have stop : ∀ (e : Int) (i : Int) n, e ≠ 0 → iter step (n + 1) (e, i) = some e := by
  intro e i n h; rw [iter_succ, hn e i h]
 by_cases h0 : e = 0
 ·subst h0
  rw [if_pos rfl]
  have key : ∀ (ys : List α) (i : Nat), l.drop i = ys → i + ys.length = l.length → iter step (ys.length + 2) (0, (i : Int)) = some (orI (ys.map c)) := by
   intro ys
   induction ys with
   | nil =>
    intro i _ hi
    have : i = l.length := by simpa using hi
    subst this
    rw [iter_succ, he]; rfl
   | cons y ys ih =>
    intro i hd hi
    have hy : l[i]? = some y := by
     have := congrArg (·[0]?) hd
     simpa [List.getElem?_drop] using this
    rw [iter_succ, hs i y hy, w64_nat (i := i) (by have := lt_of_get hy; omega)]
    simp only [List.map_cons, orI]
    by_cases hc : c y = 0
    ·rw [if_pos hc, hc]
     exact ih (i + 1) (by rw [← List.drop_drop, hd]; rfl) (by simp at hi; omega)
    ·rw [if_neg hc]
     exact stop _ _ _ hc
  exact loop_of_iter (by simp [manyRounds]; omega) (key l 0 (by simp) (by simp))
 ·rw [if_neg h0]
  exact loop_of_iter (n := 1) (by simp [manyRounds]) (stop e 0 0 h0)
theorem loopA {α : Type} {step : Bool × Int → Option ((Bool × Int) ⊕ Bool)} (l : List α) (f : α → Bool) (hl : l.length ≤ 9223372036854775807)
  (hs : ∀ b (i : Nat) y, l[i]? = some y → step (b, (i : Int)) = some (.inl (b && f y, w64 ((i : Int) + 1)))) (he : ∀ b, step (b, (l.length : Int)) = some (.inr b)) (b : Bool) :
  loop step (b, 0) = some (b && l.all f) := by
 have := loop_for0 (step := step) l (fun i b => (b, (i : Int))) (fun i y b => .inl (b && f y)) (fun b => b) (by simp [manyRounds]; omega) (fun i y b hy => by rw [hs b i y hy, w64_nat (i := i) (by have := lt_of_get hy; omega)]; rfl) he b
 rw [show ((b, 0) : Bool × Int) = (b, ((0 : Nat) : Int)) from rfl, this]
 have key : ∀ (l : List α) (i : Nat) (b : Bool), forL (fun _ y b => (Sum.inl (b && f y) : Bool ⊕ Bool)) (fun b => b) l i b = (b && l.all f) := by
  intro l
  induction l with
  | nil => intro i b; simp [forL]
  | cons x l ih => intro i b; simp only [forL, ih, List.all_cons, Bool.and_assoc]
 rw [key]
theorem loopI {α : Type} {step : Int → Option (Int ⊕ (Unit ⊕ Int))} (l : List α) (p : α → Bool) (hl : l.length ≤ 9223372036854775807)
  (hs : ∀ (i : Nat) y, l[i]? = some y → step (i : Int) = some (if p y = true then .inr (.inr (i : Int)) else .inl (w64 ((i : Int) + 1)))) (he : step (l.length : Int) = some (.inr (.inl ()))) :
  (((loop step 0).bind fun | .inl _ => some (-1) | .inr rv => some rv).bind fun r => some (decide (0 ≤ r))) = some (l.any p) := by
 rw [loop_first l (fun i y => if p y = true then some (.inr (i : Int)) else none) (.inl ()) (by simp [manyRounds]; omega) (fun i y hy => ?_) he, Option.bind_some]
 ·have key : ∀ (l : List α) (i : Nat), (((match (firstL (fun i y => if p y = true then some (Sum.inr (i : Int) : Unit ⊕ Int) else none) l i).getD (.inl ()) with | .inl _ => some (-1) | .inr rv => some rv) : Option Int).bind fun r => some (decide (0 ≤ r))) = some (l.any p) := by
   intro l
   induction l with
   | nil => intro i; simp [firstL]
   | cons x l ih =>
    intro i
    simp only [firstL, List.any_cons]
    cases hp : p x with
    | true => simp
    | false => simpa [hp] using ih (i + 1)
  have := key l 0
  generalize (firstL _ l 0).getD (Sum.inl ()) = q at *
  cases q <;> simpa using this
 ·rw [hs i y hy, w64_nat (i := i) (by have := lt_of_get hy; omega)]
  split <;> rfl
def hasB (t : api_Trace) (k : Int) : Bool := t.fThreads.any (fun x => decide (x.fId = k))
theorem hasB_iff (t : api_Trace) (k : Int) : hasB t k = true ↔ k ∈ t.fThreads.map (·.fId) := by
 unfold hasB
 rw [List.any_eq_true, List.mem_map]
 constructor
 ·rintro ⟨x, hx, h⟩; exact ⟨x, hx, of_decide_eq_true h⟩
 ·rintro ⟨x, hx, h⟩; exact ⟨x, hx, decide_eq_true h⟩
theorem Has_eq (t : api_Trace) (k : Int) (h : t.fThreads.length ≤ 9223372036854775807) : tracebookref32_Has t k = some (hasB t k) := by
 unfold tracebookref32_Has
 rw [loop_first t.fThreads (fun _ y => if (fun x : api_Thread => decide (x.fId = k)) y = true then some ((fun _ => Sum.inr true) y) else none) (.inl ()) (by simp [manyRounds]; omega) (fun i y hy => ?_) (by simp [tracebookref32_Has_L1]), firstL_find]
 ·unfold hasB
  cases e : t.fThreads.find? (fun x => decide (x.fId = k)) with
  | none =>
   simp only [Option.map_none, Option.getD_none, Option.bind_some]
   rw [eq_comm, Option.some.injEq, List.any_eq_false]
   exact List.find?_eq_none.1 e
  | some x =>
   simp only [Option.map_some, Option.getD_some, Option.bind_some]
   rw [eq_comm, Option.some.injEq, List.any_eq_true]
   exact ⟨x, List.mem_of_find?_eq_some e, List.find?_some (p := fun x : api_Thread => decide (x.fId = k)) e⟩
 ·have hi : (i : Int) < t.fThreads.length := by have := lt_of_get hy; omega
  simp only [tracebookref32_Has_L1, hi, decide_true, cond_true, idx_nat, hy, Option.bind_some]
  by_cases h1 : y.fId = k <;> simp [h1, w64_nat (i := i) (by omega)]
theorem known_eq (t : api_Trace) (k : Int) (h : t.fThreads.length ≤ 9223372036854775807) : critical_known t k = some (hasB t k) := by
 unfold critical_known slices_ContainsFunc_api_Thread_api_Thread_k1 slices_IndexFunc_api_Thread_api_Thread_k1
 refine congrArg (fun o : Option Bool => o.bind fun r => some r) (loopI t.fThreads (fun x => decide (x.fId = k)) h (fun i y hy => ?_) (by simp [slices_IndexFunc_api_Thread_api_Thread_k1_L1]))
 ·have hi : (i : Int) < t.fThreads.length := by have := lt_of_get hy; omega
  simp only [slices_IndexFunc_api_Thread_api_Thread_k1_L1, critical_known_1_k1, hi, decide_true, cond_true, idx_nat, hy, Option.bind_some]
  by_cases h1 : y.fId = k <;> simp [h1]
def cK (t : api_Trace) (k : Int) : Int := if hasB t k = true then 0 else 5
theorem known_Slice1 (t : api_Trace) (m : List (Int × ByteArray)) (hm : ∀ k, (mget k m).isSome = hasB t k) (e : Int) (l : List api_Slice) (hl : l.length ≤ 9223372036854775807) : trace_known_api_Slice_k1 e m l = some (if e = 0 then orI (l.map fun y => cK t y.fThread) else e) := by
 unfold trace_known_api_Slice_k1
 by_cases h0 : e = 0
 ·subst h0
  simp only [decide_true, Bool.not_true, cond_false, if_true]
  refine loopP l (fun y => cK t y.fThread) hl (fun i y hy => ?_) (by simp [trace_known_api_Slice_k1_L1])
  have hi : (i : Int) < l.length := by have := lt_of_get hy; omega
  simp only [trace_known_api_Slice_k1_L1, hi, decide_true, cond_true, idx_nat, hy, Option.bind_some, trace_tables_1, hm, cK]
  by_cases hb : hasB t y.fThread = true <;> simp [hb]
 ·simp [h0]
theorem known_Flow1 (t : api_Trace) (m : List (Int × ByteArray)) (hm : ∀ k, (mget k m).isSome = hasB t k) (e : Int) (l : List api_Flow) (hl : l.length ≤ 9223372036854775807) : trace_known_api_Flow_k1 e m l = some (if e = 0 then orI (l.map fun y => cK t y.fFrom.fThread) else e) := by
 unfold trace_known_api_Flow_k1
 by_cases h0 : e = 0
 ·subst h0
  simp only [decide_true, Bool.not_true, cond_false, if_true]
  refine loopP l (fun y => cK t y.fFrom.fThread) hl (fun i y hy => ?_) (by simp [trace_known_api_Flow_k1_L1])
  have hi : (i : Int) < l.length := by have := lt_of_get hy; omega
  simp only [trace_known_api_Flow_k1_L1, hi, decide_true, cond_true, idx_nat, hy, Option.bind_some, trace_tables_2, hm, cK]
  by_cases hb : hasB t y.fFrom.fThread = true <;> simp [hb]
 ·simp [h0]
theorem known_Flow2 (t : api_Trace) (m : List (Int × ByteArray)) (hm : ∀ k, (mget k m).isSome = hasB t k) (e : Int) (l : List api_Flow) (hl : l.length ≤ 9223372036854775807) : trace_known_api_Flow_k2 e m l = some (if e = 0 then orI (l.map fun y => cK t y.fTo.fThread) else e) := by
 unfold trace_known_api_Flow_k2
 by_cases h0 : e = 0
 ·subst h0
  simp only [decide_true, Bool.not_true, cond_false, if_true]
  refine loopP l (fun y => cK t y.fTo.fThread) hl (fun i y hy => ?_) (by simp [trace_known_api_Flow_k2_L1])
  have hi : (i : Int) < l.length := by have := lt_of_get hy; omega
  simp only [trace_known_api_Flow_k2_L1, hi, decide_true, cond_true, idx_nat, hy, Option.bind_some, trace_tables_3, hm, cK]
  by_cases hb : hasB t y.fTo.fThread = true <;> simp [hb]
 ·simp [h0]
theorem known_Sample1 (t : api_Trace) (m : List (Int × ByteArray)) (hm : ∀ k, (mget k m).isSome = hasB t k) (e : Int) (l : List api_Sample) (hl : l.length ≤ 9223372036854775807) : trace_known_api_Sample_k1 e m l = some (if e = 0 then orI (l.map fun y => cK t y.fThread) else e) := by
 unfold trace_known_api_Sample_k1
 by_cases h0 : e = 0
 ·subst h0
  simp only [decide_true, Bool.not_true, cond_false, if_true]
  refine loopP l (fun y => cK t y.fThread) hl (fun i y hy => ?_) (by simp [trace_known_api_Sample_k1_L1])
  have hi : (i : Int) < l.length := by have := lt_of_get hy; omega
  simp only [trace_known_api_Sample_k1_L1, hi, decide_true, cond_true, idx_nat, hy, Option.bind_some, trace_tables_4, hm, cK]
  by_cases hb : hasB t y.fThread = true <;> simp [hb]
 ·simp [h0]
theorem known_Block1 (t : api_Trace) (m : List (Int × ByteArray)) (hm : ∀ k, (mget k m).isSome = hasB t k) (e : Int) (l : List api_Block) (hl : l.length ≤ 9223372036854775807) : trace_known_api_Block_k1 e m l = some (if e = 0 then orI (l.map fun y => cK t y.fThread) else e) := by
 unfold trace_known_api_Block_k1
 by_cases h0 : e = 0
 ·subst h0
  simp only [decide_true, Bool.not_true, cond_false, if_true]
  refine loopP l (fun y => cK t y.fThread) hl (fun i y hy => ?_) (by simp [trace_known_api_Block_k1_L1])
  have hi : (i : Int) < l.length := by have := lt_of_get hy; omega
  simp only [trace_known_api_Block_k1_L1, hi, decide_true, cond_true, idx_nat, hy, Option.bind_some, trace_tables_5, hm, cK]
  by_cases hb : hasB t y.fThread = true <;> simp [hb]
 ·simp [h0]
theorem rows_L5 (t : api_Trace) (ht : t.fThreads.length ≤ 9223372036854775807) (hl : t.fSlices.length ≤ 9223372036854775807) (e : Int) : loop (tracebookref32_rows_L5 t) (e, 0) = some (if e = 0 then orI (t.fSlices.map fun y => cK t y.fThread) else e) := by
 refine loopR t.fSlices (fun y => cK t y.fThread) hl (fun i y hy => ?_) (by simp [tracebookref32_rows_L5]) (fun e i h => ?_) e
 ·have hi : (i : Int) < t.fSlices.length := by have := lt_of_get hy; omega
  simp only [tracebookref32_rows_L5, hi, decide_true, cond_true, idx_nat, hy, Option.bind_some, Has_eq t _ ht, cK]
  by_cases hb : hasB t y.fThread = true <;> simp [hb]
 ·by_cases hi : i < (t.fSlices.length : Int) <;> simp [tracebookref32_rows_L5, hi, h]
theorem rows_L3 (t : api_Trace) (ht : t.fThreads.length ≤ 9223372036854775807) (hl : t.fSamples.length ≤ 9223372036854775807) (e : Int) : loop (tracebookref32_rows_L3 t) (e, 0) = some (if e = 0 then orI (t.fSamples.map fun y => cK t y.fThread) else e) := by
 refine loopR t.fSamples (fun y => cK t y.fThread) hl (fun i y hy => ?_) (by simp [tracebookref32_rows_L3]) (fun e i h => ?_) e
 ·have hi : (i : Int) < t.fSamples.length := by have := lt_of_get hy; omega
  simp only [tracebookref32_rows_L3, hi, decide_true, cond_true, idx_nat, hy, Option.bind_some, Has_eq t _ ht, cK]
  by_cases hb : hasB t y.fThread = true <;> simp [hb]
 ·by_cases hi : i < (t.fSamples.length : Int) <;> simp [tracebookref32_rows_L3, hi, h]
theorem rows_L2 (t : api_Trace) (ht : t.fThreads.length ≤ 9223372036854775807) (hl : t.fBlocks.length ≤ 9223372036854775807) (e : Int) : loop (tracebookref32_rows_L2 t) (e, 0) = some (if e = 0 then orI (t.fBlocks.map fun y => cK t y.fThread) else e) := by
 refine loopR t.fBlocks (fun y => cK t y.fThread) hl (fun i y hy => ?_) (by simp [tracebookref32_rows_L2]) (fun e i h => ?_) e
 ·have hi : (i : Int) < t.fBlocks.length := by have := lt_of_get hy; omega
  simp only [tracebookref32_rows_L2, hi, decide_true, cond_true, idx_nat, hy, Option.bind_some, Has_eq t _ ht, cK]
  by_cases hb : hasB t y.fThread = true <;> simp [hb]
 ·by_cases hi : i < (t.fBlocks.length : Int) <;> simp [tracebookref32_rows_L2, hi, h]
theorem rows_L4 (t : api_Trace) (ht : t.fThreads.length ≤ 9223372036854775807) (hl : t.fFlows.length ≤ 9223372036854775807) (e : Int) : loop (tracebookref32_rows_L4 t) (e, 0) = some (if e = 0 then orI (t.fFlows.map fun y => if hasB t y.fFrom.fThread = true ∧ hasB t y.fTo.fThread = true then 0 else 5) else e) := by
 refine loopR t.fFlows (fun y => if hasB t y.fFrom.fThread = true ∧ hasB t y.fTo.fThread = true then 0 else 5) hl (fun i y hy => ?_) (by simp [tracebookref32_rows_L4]) (fun e i h => ?_) e
 ·have hi : (i : Int) < t.fFlows.length := by have := lt_of_get hy; omega
  simp only [tracebookref32_rows_L4, hi, decide_true, cond_true, idx_nat, hy, Option.bind_some, Has_eq t _ ht]
  by_cases hb1 : hasB t y.fFrom.fThread = true <;> by_cases hb2 : hasB t y.fTo.fThread = true <;> simp [hb1, hb2]
 ·by_cases hi : i < (t.fFlows.length : Int) <;> simp [tracebookref32_rows_L4, hi, h]
def cLo (t : api_Trace) (y : api_Loss) : Int := if hasB t y.fThread = true then (if (0 ≤ y.fSpan.fFrom ∧ y.fSpan.fFrom < y.fSpan.fTo ∧ y.fSpan.fTo ≤ 1000000000000) ∧ 1 ≤ y.fCount ∧ y.fCount ≤ 1000000000000000 then 0 else 2) else 5
theorem loss_step (y : api_Loss) : ((spans_Valid y.fSpan).bind fun r32 => bif !r32 then some true else bif decide (y.fCount < 1) then some true else some (decide (1000000000000000 < y.fCount))) = some (!decide ((0 ≤ y.fSpan.fFrom ∧ y.fSpan.fFrom < y.fSpan.fTo ∧ y.fSpan.fTo ≤ 1000000000000) ∧ 1 ≤ y.fCount ∧ y.fCount ≤ 1000000000000000)) := by
 rw [spans_Valid_eq, Option.bind_some]
 by_cases h1 : 0 ≤ y.fSpan.fFrom ∧ y.fSpan.fFrom < y.fSpan.fTo ∧ y.fSpan.fTo ≤ 1000000000000
 ·by_cases h2 : y.fCount < 1
  ·have : ¬ 1 ≤ y.fCount := by omega
   simp [h1, h2, this]
  ·have h3 : 1 ≤ y.fCount := by omega
   by_cases h4 : 1000000000000000 < y.fCount
   ·have : ¬ y.fCount ≤ 1000000000000000 := by omega
    simp [h1, h2, h3, h4, this]
   ·have : y.fCount ≤ 1000000000000000 := by omega
    simp [h1, h2, h3, h4, this]
 ·simp [h1]
theorem losses_p (t : api_Trace) (m : List (Int × ByteArray)) (hm : ∀ k, (mget k m).isSome = hasB t k) (l : List api_Loss) (hl : l.length ≤ 9223372036854775807) : trace_losses_k1 m l = some (orI (l.map (cLo t))) := by
 unfold trace_losses_k1
 refine loopP l (cLo t) hl (fun i y hy => ?_) (by simp [trace_losses_k1_L1])
 have hi : (i : Int) < l.length := by have := lt_of_get hy; omega
 simp only [trace_losses_k1_L1, hi, decide_true, cond_true, idx_nat, hy, Option.bind_some, hm, cLo, loss_step]
 by_cases hb : hasB t y.fThread = true <;> by_cases h : ((0 ≤ y.fSpan.fFrom ∧ y.fSpan.fFrom < y.fSpan.fTo ∧ y.fSpan.fTo ≤ 1000000000000) ∧ 1 ≤ y.fCount ∧ y.fCount ≤ 1000000000000000) <;> simp only [hb, h, decide_true, decide_false, if_true, if_false, Bool.not_true, Bool.not_false, cond_true, cond_false] <;> simp
theorem rows_L1 (t : api_Trace) (ht : t.fThreads.length ≤ 9223372036854775807) (hl : t.fLost.length ≤ 9223372036854775807) (e : Int) : loop (tracebookref32_rows_L1 t) (e, 0) = some (if e = 0 then orI (t.fLost.map (cLo t)) else e) := by
 refine loopR t.fLost (cLo t) hl (fun i y hy => ?_) (by simp [tracebookref32_rows_L1]) (fun e i h => ?_) e
 ·have hi : (i : Int) < t.fLost.length := by have := lt_of_get hy; omega
  simp only [tracebookref32_rows_L1, hi, decide_true, cond_true, idx_nat, hy, Option.bind_some, Has_eq t _ ht, cLo, Valid_eq, loss_step]
  by_cases hb : hasB t y.fThread = true <;> by_cases h : ((0 ≤ y.fSpan.fFrom ∧ y.fSpan.fFrom < y.fSpan.fTo ∧ y.fSpan.fTo ≤ 1000000000000) ∧ 1 ≤ y.fCount ∧ y.fCount ≤ 1000000000000000) <;> simp only [hb, h, decide_true, decide_false, if_true, if_false, Bool.not_true, Bool.not_false, cond_true, cond_false] <;> simp
 ·by_cases hi : i < (t.fLost.length : Int) <;> simp [tracebookref32_rows_L1, hi, h]
theorem orI_flows (t : api_Trace) : ∀ l : List api_Flow, orI (l.map fun y => if hasB t y.fFrom.fThread = true ∧ hasB t y.fTo.fThread = true then 0 else 5) = if orI (l.map fun y => cK t y.fFrom.fThread) = 0 then orI (l.map fun y => cK t y.fTo.fThread) else orI (l.map fun y => cK t y.fFrom.fThread)
 | [] => rfl
 | y :: l => by
  have ih := orI_flows t l
  have h5 : ∀ (f : api_Flow → Int) (l : List api_Flow), orI (l.map fun y => cK t (f y)) = 0 ∨ orI (l.map fun y => cK t (f y)) = 5 := by
   intro f l
   induction l with
   | nil => exact .inl rfl
   | cons x l ih =>
    simp only [List.map_cons, orI]
    split
    ·exact ih
    ·rename_i h
     unfold cK at h ⊢
     split at h
     ·exact absurd rfl h
     ·rename_i h'; exact .inr (by rw [if_neg h'])
  simp only [List.map_cons, orI]
  rw [ih]
  rcases h5 (fun y => y.fFrom.fThread) l with a | a <;> rcases h5 (fun y => y.fTo.fThread) l with b | b <;> simp only [cK] at a b ⊢ <;> simp only [a, b] <;> by_cases hb1 : hasB t y.fFrom.fThread = true <;> by_cases hb2 : hasB t y.fTo.fThread = true <;> simp [hb1, hb2]
def thG (t : api_Trace) (i : Nat) (y : api_Thread) : Option Int := match producer_Thread y with
 | some r => if r ≠ 0 then some r else if (t.fThreads.take i).any (fun x => decide (x.fId = y.fId)) = true then some 4 else none
 | none => none
def thErr (t : api_Trace) : Option Int := firstL (thG t) t.fThreads 0
theorem thErr_at {t : api_Trace} {j : Nat} {y : api_Thread} {r : Int} (hy : t.fThreads[j]? = some y) (h : thG t j y = some r) (hb : ∀ k z, k < j → t.fThreads[k]? = some z → thG t k z = none) : thErr t = some r :=
 firstL_at hy (by simpa using h) (fun k z hk hz => by simpa using hb k z hk hz)
theorem thErr_none {t : api_Trace} (hb : ∀ (k : Nat) z, t.fThreads[k]? = some z → thG t k z = none) : thErr t = none :=
 firstL_none.2 (fun k z hz => by simpa using hb k z hz)
theorem threads_p (t : api_Trace) (hl : t.fThreads.length ≤ 9223372036854775807) (hn : ∀ x ∈ t.fThreads, okN x.fName) (h64 : ¬ (64 : Int) < t.fThreads.length) : Ok (trace_threads t) (fun q => (∃ r, r ≠ 0 ∧ q = .inl ([], r) ∧ thErr t = some r) ∨ (∃ m, q = .inr (m, 0) ∧ thErr t = none ∧ ∀ k, (mget k m).isSome = hasB t k)) := by
 unfold trace_threads
 simp only [h64, decide_false, cond_false]
 refine ok_bindS (Q := InlR (fun m => thErr t = none ∧ ∀ k, (mget k m).isSome = hasB t k) (fun q : (List (Int × ByteArray) × Int) ⊕ (List (Int × ByteArray) × Int) => ∃ r, r ≠ 0 ∧ q = .inl ([], r) ∧ thErr t = some r)) (ok_up2N t.fThreads.length (fun m n => (∀ k, (mget k m).isSome = (t.fThreads.take n).any (fun x => decide (x.fId = k))) ∧ ∀ (k : Nat) z, k < n → t.fThreads[k]? = some z → thG t k z = none) hl ⟨by intro k; simp [mget], by intro k z hk; omega⟩ (fun m i hI h2 => ?_)) (fun m hm => ok_some (.inr ⟨m, rfl, hm.1, hm.2⟩)) (fun q hq => ok_some (.inl hq))
 unfold trace_threads_L1
 dsimp only
 refine ok_ite (fun hi => ?_) (fun hi => ok_inr ⟨thErr_none (fun k z hz => hI.2 k z (by have := lt_of_get hz; omega) hz), fun k => ?_⟩)
 ·obtain ⟨y, hiy, hy⟩ := ok_ixN (xs := t.fThreads) (i := i) (by omega)
  rw [hiy, Option.bind_some]
  obtain ⟨r, hr, _⟩ := producer_Thread_ok y (hn y (List.mem_of_getElem? hy))
  rw [hr, Option.bind_some]
  refine ok_nite (fun h0 => ok_inr ⟨r, h0, rfl, thErr_at hy (by simp [thG, hr, h0]) hI.2⟩) (fun h0 => ?_)
  rw [hI.1 y.fId]
  refine ok_cond (fun e => ok_inr ⟨4, by omega, rfl, thErr_at hy (by simp only [thG, hr, h0, ne_eq, not_true_eq_false, if_false]; rw [if_pos e]) hI.2⟩) (fun e => ?_)
  rw [w64_N (n := t.fThreads.length) (by omega) hl]
  refine ok_inl ⟨by omega, rfl, fun k => ?_, fun k z hk hz => ?_⟩
  ·rw [mget_mput, List.take_add_one, hy]
   simp only [List.any_append, ← hI.1 k]
   by_cases e2 : k = y.fId
   ·subst e2; simp
   ·have : ¬ y.fId = k := fun h => e2 h.symm
    simp [e2, this]
  ·by_cases e2 : k = i
   ·subst e2; rw [hy] at hz; cases hz
    simp only [thG, hr, h0, ne_eq, not_true_eq_false, if_false]
    rw [if_neg (by rw [e]; simp)]
   ·exact hI.2 k z (by omega) hz
 ·rw [hI.1 k, show i = t.fThreads.length by omega, List.take_length]; rfl
theorem threads_r (t : api_Trace) (hl : t.fThreads.length ≤ 9223372036854775807) (hn : ∀ x ∈ t.fThreads, okN x.fName) : Ok (loop (tracebookref32_tables_L2 t) 0) (fun q => (∃ r, r ≠ 0 ∧ q = .inr r ∧ thErr t = some r) ∨ (∃ u, q = .inl u ∧ thErr t = none)) := by
 refine ok_upN t.fThreads.length (fun n => ∀ (k : Nat) z, k < n → t.fThreads[k]? = some z → thG t k z = none) hl (by intro k z hk; omega) (fun i hI h2 => ?_)
 unfold tracebookref32_tables_L2
 refine ok_ite (fun hi => ?_) (fun hi => ok_inr (.inr ⟨(), rfl, thErr_none (fun k z hz => hI k z (by have := lt_of_get hz; omega) hz)⟩))
 obtain ⟨y, hiy, hy⟩ := ok_ixN (xs := t.fThreads) (i := i) (by omega)
 rw [hiy, Option.bind_some]
 obtain ⟨r, hr, _⟩ := producer_Thread_ok y (hn y (List.mem_of_getElem? hy))
 rw [← Thread_eq, hr, Option.bind_some]
 refine ok_nite (fun h0 => ok_inr (.inl ⟨r, h0, rfl, thErr_at hy (by simp [thG, hr, h0]) hI⟩)) (fun h0 => ?_)
 refine ok_bindS (Q := InlR (fun _ => (t.fThreads.take i).any (fun x => decide (x.fId = y.fId)) = false) (fun q => q = .inr (.inr 4) ∧ (t.fThreads.take i).any (fun x => decide (x.fId = y.fId)) = true)) (ok_upN i (fun n => ∀ (k : Nat) z, k < n → t.fThreads[k]? = some z → z.fId ≠ y.fId) (by omega) (by intro k z hk; omega) (fun j hJ h4 => ?_)) (fun _ hq => ?_) (fun q hq => ?_)
 ·unfold tracebookref32_tables_L1
  refine ok_ite (fun hj => ?_) (fun hj => ok_inr ?_)
  ·obtain ⟨z, hjz, hz⟩ := ok_ixN (xs := t.fThreads) (i := j) (by omega)
   rw [hjz, Option.bind_some, hiy, Option.bind_some]
   refine ok_ite (fun e => ok_inr ⟨rfl, ?_⟩) (fun e => ?_)
   ·rw [List.any_eq_true]
    refine ⟨z, ?_, decide_eq_true e⟩
    exact List.mem_of_getElem? (i := j) (by rw [List.getElem?_take, if_pos (by omega)]; exact hz)
   ·rw [w64_N (n := i) (by omega) (by omega)]
    refine ok_inl ⟨by omega, rfl, fun k z' hk hz' => ?_⟩
    by_cases e2 : k = j
    ·subst e2; rw [hz] at hz'; cases hz'; exact e
    ·exact hJ k z' (by omega) hz'
  ·show (t.fThreads.take i).any _ = false
   rw [List.any_eq_false]
   intro x hx
   obtain ⟨k, hk⟩ := List.getElem?_of_mem hx
   rw [List.getElem?_take] at hk
   split at hk
   ·simpa using hJ k x (by omega) hk
   ·simp at hk
 ·have hq' : (t.fThreads.take i).any (fun x => decide (x.fId = y.fId)) = false := hq
  dsimp only
  rw [w64_N (n := t.fThreads.length) (by omega) hl]
  refine ok_inl ⟨by omega, rfl, fun k z hk hz => ?_⟩
  by_cases e2 : k = i
  ·subst e2; rw [hy] at hz; cases hz
   simp only [thG, hr, h0, ne_eq, not_true_eq_false, if_false]
   rw [if_neg (by rw [hq']; simp)]
  ·exact hI k z (by omega) hz
 ·obtain ⟨e1, e2⟩ : q = .inr (.inr 4) ∧ (t.fThreads.take i).any (fun x => decide (x.fId = y.fId)) = true := hq
  subst e1
  exact ok_inr (.inl ⟨4, by omega, rfl, thErr_at hy (by simp only [thG, hr, h0, ne_eq, not_true_eq_false, if_false]; rw [if_pos e2]) hI⟩)
theorem tables_eq (t : api_Trace) (hz : Siz t) (ht : t.fThreads.length ≤ 1000000) : trace_tables t = tracebookref32_tables t := by
 unfold trace_tables tracebookref32_tables
 by_cases h64 : (64 : Int) < t.fThreads.length
 ·have : trace_threads t = some (.inl ([], 7)) := by unfold trace_threads; simp [h64]
  rw [this]
  simp [h64]
 ·obtain ⟨q, hq, hp⟩ := threads_p t hz.th hz.nTh h64
  obtain ⟨q', hq', hr⟩ := threads_r t hz.th hz.nTh
  rw [hq, hq']
  simp only [h64, decide_false, cond_false]
  rcases hp with ⟨r, h0, rfl, he⟩ | ⟨m, rfl, he, hm⟩
  ·rcases hr with ⟨r', h0', rfl, he'⟩ | ⟨u, rfl, he'⟩
   ·rw [he] at he'; cases he'
    simp [h0]
   ·rw [he] at he'; simp at he'
  ·rcases hr with ⟨r', h0', rfl, he'⟩ | ⟨u, rfl, he'⟩
   ·rw [he] at he'; simp at he'
   ·dsimp only [Option.bind_some]
    unfold tracebookref32_rows
    obtain ⟨c1, h1, _⟩ := slice_Check_ok t.fSlices hz.sl hz.nSl
    obtain ⟨c2, h2, _⟩ := state_Check_ok t.fThreads t.fStates ht hz.st
    obtain ⟨c3, h3, _⟩ := flow_Check_ok t.fFlows hz.fl
    obtain ⟨c4, h4, _⟩ := sample_Check_ok t.fSamples hz.sa hz.nSa
    obtain ⟨c5, h5, _⟩ := counter_Check_ok t.fSteps hz.sp hz.nSp
    obtain ⟨c6, h6, _⟩ := memory_Check_ok t.fBlocks hz.bl hz.nBl
    rw [← slice_eq _ hz.sl, ← state_eq _ _ ht hz.st, ← flow_eq, ← sample_eq, ← counter_eq, ← memory_eq _ hz.bl hz.nBl]
    simp only [h1, h2, h3, h4, h5, h6, Option.bind_some, known_Slice1 t m hm _ _ hz.sl, known_Flow1 t m hm _ _ hz.fl, known_Flow2 t m hm _ _ hz.fl, known_Sample1 t m hm _ _ hz.sa, known_Block1 t m hm _ _ hz.bl, losses_p t m hm _ hz.lo, rows_L1 t hz.th hz.lo, rows_L2 t hz.th hz.bl, rows_L3 t hz.th hz.sa, rows_L4 t hz.th hz.fl, rows_L5 t hz.th hz.sl, orI_flows, decide_true, Bool.not_true, cond_false]
    generalize orI (t.fSlices.map fun y => cK t y.fThread) = k1
    generalize orI (t.fFlows.map fun y => cK t y.fFrom.fThread) = k2
    generalize orI (t.fFlows.map fun y => cK t y.fTo.fThread) = k3
    generalize orI (t.fSamples.map fun y => cK t y.fThread) = k4
    generalize orI (t.fBlocks.map fun y => cK t y.fThread) = k5
    generalize orI (t.fLost.map (cLo t)) = k6
    clear h1 h2 h3 h4 h5 h6
    by_cases g1 : c1 = 0
    ·by_cases g2 : k1 = 0
     ·by_cases g3 : c2 = 0
      ·by_cases g4 : c3 = 0
       ·by_cases g5 : k2 = 0
        ·by_cases g6 : k3 = 0
         ·by_cases g7 : c4 = 0
          ·by_cases g8 : k4 = 0
           ·by_cases g9 : c5 = 0
            ·by_cases g10 : c6 = 0
             ·by_cases g11 : k5 = 0 <;> simp [g1, g2, g3, g4, g5, g6, g7, g8, g9, g10, g11]
             ·simp [g1, g2, g3, g4, g5, g6, g7, g8, g9, g10]
            ·simp [g1, g2, g3, g4, g5, g6, g7, g8, g9]
           ·simp [g1, g2, g3, g4, g5, g6, g7, g8]
          ·simp [g1, g2, g3, g4, g5, g6, g7]
         ·simp [g1, g2, g3, g4, g5, g6]
        ·simp [g1, g2, g3, g4, g5]
       ·simp [g1, g2, g3, g4]
      ·simp [g1, g2, g3]
     ·simp [g1, g2]
    ·simp [g1]
def wiB (p s : api_Span) : Bool := decide (s.fFrom ≤ p.fFrom) && decide (p.fTo ≤ s.fTo)
def inB (s : api_Span) (x : Int) : Bool := decide (s.fFrom ≤ x) && decide (x < s.fTo)
theorem within_p (p s : api_Span) : trace_within p s = some (wiB p s) := by
 unfold trace_within wiB; by_cases h : s.fFrom ≤ p.fFrom <;> simp [h]
theorem inside_p (s : api_Span) (x : Int) : trace_inside s x = some (inB s x) := by
 unfold trace_inside inB; by_cases h : s.fFrom ≤ x <;> simp [h]
theorem within_r (p s : api_Span) : tracebookref32_within p s = some (wiB p s) := by
 unfold tracebookref32_within wiB; by_cases h : s.fFrom ≤ p.fFrom <;> simp [h]
theorem inside_r (s : api_Span) (x : Int) : tracebookref32_inside x s = some (inB s x) := by
 unfold tracebookref32_inside inB; by_cases h : s.fFrom ≤ x <;> simp [h]
theorem any_Slice (s : api_Span) (l : List api_Slice) (hl : l.length ≤ 9223372036854775807) : slices_ContainsFunc_api_Slice_api_Slice_k1 l s = some (!l.all fun y => wiB y.fSpan s) := by
 unfold slices_ContainsFunc_api_Slice_api_Slice_k1 slices_IndexFunc_api_Slice_api_Slice_k1
 refine (loopI l (fun y => !(wiB y.fSpan s)) hl (fun i y hy => ?_) (by simp [slices_IndexFunc_api_Slice_api_Slice_k1_L1])).trans (by rw [List.not_all_eq_any_not])
 have hi : (i : Int) < l.length := by have := lt_of_get hy; omega
 simp only [slices_IndexFunc_api_Slice_api_Slice_k1_L1, hi, decide_true, cond_true, idx_nat, hy, Option.bind_some, trace_outside_1_k1, within_p, inside_p]
 by_cases h1 : wiB y.fSpan s = true <;> simp [h1]
theorem all_L6 (t : api_Trace) (hl : t.fSlices.length ≤ 9223372036854775807) (b : Bool) : loop (tracebookref32_Check_L6 t) (b, 0) = some (b && t.fSlices.all fun y => wiB y.fSpan t.fSpan) := by
 refine loopA t.fSlices (fun y => wiB y.fSpan t.fSpan) hl (fun b i y hy => ?_) (fun b => by simp [tracebookref32_Check_L6]) b
 have hi : (i : Int) < t.fSlices.length := by have := lt_of_get hy; omega
 simp only [tracebookref32_Check_L6, hi, decide_true, cond_true, idx_nat, hy, Option.bind_some, within_r, inside_r]
 cases b <;> simp
theorem any_State (s : api_Span) (l : List api_State) (hl : l.length ≤ 9223372036854775807) : slices_ContainsFunc_api_State_api_State_k1 l s = some (!l.all fun y => wiB y.fSpan s) := by
 unfold slices_ContainsFunc_api_State_api_State_k1 slices_IndexFunc_api_State_api_State_k1
 refine (loopI l (fun y => !(wiB y.fSpan s)) hl (fun i y hy => ?_) (by simp [slices_IndexFunc_api_State_api_State_k1_L1])).trans (by rw [List.not_all_eq_any_not])
 have hi : (i : Int) < l.length := by have := lt_of_get hy; omega
 simp only [slices_IndexFunc_api_State_api_State_k1_L1, hi, decide_true, cond_true, idx_nat, hy, Option.bind_some, trace_outside_2_k1, within_p, inside_p]
 by_cases h1 : wiB y.fSpan s = true <;> simp [h1]
theorem all_L5 (t : api_Trace) (hl : t.fStates.length ≤ 9223372036854775807) (b : Bool) : loop (tracebookref32_Check_L5 t) (b, 0) = some (b && t.fStates.all fun y => wiB y.fSpan t.fSpan) := by
 refine loopA t.fStates (fun y => wiB y.fSpan t.fSpan) hl (fun b i y hy => ?_) (fun b => by simp [tracebookref32_Check_L5]) b
 have hi : (i : Int) < t.fStates.length := by have := lt_of_get hy; omega
 simp only [tracebookref32_Check_L5, hi, decide_true, cond_true, idx_nat, hy, Option.bind_some, within_r, inside_r]
 cases b <;> simp
theorem any_Block (s : api_Span) (l : List api_Block) (hl : l.length ≤ 9223372036854775807) : slices_ContainsFunc_api_Block_api_Block_k1 l s = some (!l.all fun y => wiB y.fSpan s) := by
 unfold slices_ContainsFunc_api_Block_api_Block_k1 slices_IndexFunc_api_Block_api_Block_k1
 refine (loopI l (fun y => !(wiB y.fSpan s)) hl (fun i y hy => ?_) (by simp [slices_IndexFunc_api_Block_api_Block_k1_L1])).trans (by rw [List.not_all_eq_any_not])
 have hi : (i : Int) < l.length := by have := lt_of_get hy; omega
 simp only [slices_IndexFunc_api_Block_api_Block_k1_L1, hi, decide_true, cond_true, idx_nat, hy, Option.bind_some, trace_outside_3_k1, within_p, inside_p]
 by_cases h1 : wiB y.fSpan s = true <;> simp [h1]
theorem all_L4 (t : api_Trace) (hl : t.fBlocks.length ≤ 9223372036854775807) (b : Bool) : loop (tracebookref32_Check_L4 t) (b, 0) = some (b && t.fBlocks.all fun y => wiB y.fSpan t.fSpan) := by
 refine loopA t.fBlocks (fun y => wiB y.fSpan t.fSpan) hl (fun b i y hy => ?_) (fun b => by simp [tracebookref32_Check_L4]) b
 have hi : (i : Int) < t.fBlocks.length := by have := lt_of_get hy; omega
 simp only [tracebookref32_Check_L4, hi, decide_true, cond_true, idx_nat, hy, Option.bind_some, within_r, inside_r]
 cases b <;> simp
theorem any_Flow (s : api_Span) (l : List api_Flow) (hl : l.length ≤ 9223372036854775807) : slices_ContainsFunc_api_Flow_api_Flow_k1 l s = some (!l.all fun y => (inB s y.fSend && inB s y.fRecv)) := by
 unfold slices_ContainsFunc_api_Flow_api_Flow_k1 slices_IndexFunc_api_Flow_api_Flow_k1
 refine (loopI l (fun y => !(inB s y.fSend && inB s y.fRecv)) hl (fun i y hy => ?_) (by simp [slices_IndexFunc_api_Flow_api_Flow_k1_L1])).trans (by rw [List.not_all_eq_any_not])
 have hi : (i : Int) < l.length := by have := lt_of_get hy; omega
 simp only [slices_IndexFunc_api_Flow_api_Flow_k1_L1, hi, decide_true, cond_true, idx_nat, hy, Option.bind_some, trace_outside_4_k1, within_p, inside_p]
 by_cases h1 : inB s y.fSend = true <;> by_cases h2 : inB s y.fRecv = true <;> simp [h1, h2]
theorem all_L3 (t : api_Trace) (hl : t.fFlows.length ≤ 9223372036854775807) (b : Bool) : loop (tracebookref32_Check_L3 t) (b, 0) = some (b && t.fFlows.all fun y => (inB t.fSpan y.fSend && inB t.fSpan y.fRecv)) := by
 refine loopA t.fFlows (fun y => (inB t.fSpan y.fSend && inB t.fSpan y.fRecv)) hl (fun b i y hy => ?_) (fun b => by simp [tracebookref32_Check_L3]) b
 have hi : (i : Int) < t.fFlows.length := by have := lt_of_get hy; omega
 simp only [tracebookref32_Check_L3, hi, decide_true, cond_true, idx_nat, hy, Option.bind_some, within_r, inside_r]
 cases b <;> by_cases h1 : inB t.fSpan y.fSend = true <;> by_cases h2 : inB t.fSpan y.fRecv = true <;> simp [h1, h2]
theorem any_Sample (s : api_Span) (l : List api_Sample) (hl : l.length ≤ 9223372036854775807) : slices_ContainsFunc_api_Sample_api_Sample_k1 l s = some (!l.all fun y => inB s y.fAt) := by
 unfold slices_ContainsFunc_api_Sample_api_Sample_k1 slices_IndexFunc_api_Sample_api_Sample_k1
 refine (loopI l (fun y => !(inB s y.fAt)) hl (fun i y hy => ?_) (by simp [slices_IndexFunc_api_Sample_api_Sample_k1_L1])).trans (by rw [List.not_all_eq_any_not])
 have hi : (i : Int) < l.length := by have := lt_of_get hy; omega
 simp only [slices_IndexFunc_api_Sample_api_Sample_k1_L1, hi, decide_true, cond_true, idx_nat, hy, Option.bind_some, trace_outside_5_k1, within_p, inside_p]
 by_cases h1 : inB s y.fAt = true <;> simp [h1]
theorem all_L2 (t : api_Trace) (hl : t.fSamples.length ≤ 9223372036854775807) (b : Bool) : loop (tracebookref32_Check_L2 t) (b, 0) = some (b && t.fSamples.all fun y => inB t.fSpan y.fAt) := by
 refine loopA t.fSamples (fun y => inB t.fSpan y.fAt) hl (fun b i y hy => ?_) (fun b => by simp [tracebookref32_Check_L2]) b
 have hi : (i : Int) < t.fSamples.length := by have := lt_of_get hy; omega
 simp only [tracebookref32_Check_L2, hi, decide_true, cond_true, idx_nat, hy, Option.bind_some, within_r, inside_r]
 cases b <;> simp
theorem any_Step (s : api_Span) (l : List api_Step) (hl : l.length ≤ 9223372036854775807) : slices_ContainsFunc_api_Step_api_Step_k1 l s = some (!l.all fun y => inB s y.fAt) := by
 unfold slices_ContainsFunc_api_Step_api_Step_k1 slices_IndexFunc_api_Step_api_Step_k1
 refine (loopI l (fun y => !(inB s y.fAt)) hl (fun i y hy => ?_) (by simp [slices_IndexFunc_api_Step_api_Step_k1_L1])).trans (by rw [List.not_all_eq_any_not])
 have hi : (i : Int) < l.length := by have := lt_of_get hy; omega
 simp only [slices_IndexFunc_api_Step_api_Step_k1_L1, hi, decide_true, cond_true, idx_nat, hy, Option.bind_some, trace_outside_6_k1, within_p, inside_p]
 by_cases h1 : inB s y.fAt = true <;> simp [h1]
theorem all_L1 (t : api_Trace) (hl : t.fSteps.length ≤ 9223372036854775807) (b : Bool) : loop (tracebookref32_Check_L1 t) (b, 0) = some (b && t.fSteps.all fun y => inB t.fSpan y.fAt) := by
 refine loopA t.fSteps (fun y => inB t.fSpan y.fAt) hl (fun b i y hy => ?_) (fun b => by simp [tracebookref32_Check_L1]) b
 have hi : (i : Int) < t.fSteps.length := by have := lt_of_get hy; omega
 simp only [tracebookref32_Check_L1, hi, decide_true, cond_true, idx_nat, hy, Option.bind_some, within_r, inside_r]
 cases b <;> simp
theorem trace_Check_eq (t : api_Trace) (hz : Siz t) (ht : t.fThreads.length ≤ 1000000) : trace_Check t = tracebookref32_Check t := by
 unfold trace_Check tracebookref32_Check
 rw [tables_eq t hz ht]
 congr 1
 funext r
 congr 1
 congr 1
 funext v
 congr 1
 rw [all_L6 t hz.sl]
 simp only [Option.bind_some, all_L5 t hz.st, all_L4 t hz.bl, all_L3 t hz.fl, all_L2 t hz.sa, all_L1 t hz.sp, trace_outside, any_Slice t.fSpan _ hz.sl, any_State t.fSpan _ hz.st, any_Block t.fSpan _ hz.bl, any_Flow t.fSpan _ hz.fl, any_Sample t.fSpan _ hz.sa, any_Step t.fSpan _ hz.sp]
 generalize (t.fSlices.all fun y => wiB y.fSpan t.fSpan) = b1
 generalize (t.fStates.all fun y => wiB y.fSpan t.fSpan) = b2
 generalize (t.fBlocks.all fun y => wiB y.fSpan t.fSpan) = b3
 generalize (t.fFlows.all fun y => (inB t.fSpan y.fSend && inB t.fSpan y.fRecv)) = b4
 generalize (t.fSamples.all fun y => inB t.fSpan y.fAt) = b5
 generalize (t.fSteps.all fun y => inB t.fSpan y.fAt) = b6
 cases b1 <;> cases b2 <;> cases b3 <;> cases b4 <;> cases b5 <;> cases b6 <;> rfl
theorem At_eq (l : List api_State) (a b : Int) : tracebookref27_At l a b = state_At l a b := by
 unfold tracebookref27_At state_At
 have h : tracebookref27_At_L1 l a b = state_At_L1 l a b := by
  funext i
  unfold tracebookref27_At_L1 state_At_L1
  cases idx l i with
  | none => rfl
  | some y =>
   simp only [Option.bind_some]
 rw [h] <;> rfl
theorem fault_eq (t : api_Trace) (a : Int) (p : api_Span) (hz : Siz t) (ht : t.fThreads.length ≤ 1000000) : tracebookref48_fault t a p = critical_check t a p := by
 unfold tracebookref48_fault critical_check
 rw [← trace_Check_eq t hz ht]
 congr 1
 funext r
 congr 1
 rw [Has_eq t a hz.th, known_eq t a hz.th]
 simp only [Option.bind_some, At_eq, Valid_eq, state_At_eq _ _ _ hz.st, spans_Valid_eq]
 congr 1
 cases decide (0 ≤ p.fFrom ∧ p.fFrom < p.fTo ∧ p.fTo ≤ 1000000000000) <;> cases (stAt t.fStates a p.fFrom).2 <;> cases (stAt t.fStates a (w64 (p.fTo - 1))).2 <;> rfl
theorem waker_eq (t : api_Trace) (a b : Int) (hz : Siz t) (hp : ∀ x ∈ t.fThreads, 0 ≤ x.fId) : tracebookref48_waker t a b = some (wkr t a b) := by
 rw [← critical_waker_eq t a b hz]
 unfold tracebookref48_waker critical_waker
 simp only [At_eq, state_At_eq _ _ _ hz.st, Option.bind_some, Has_eq t _ hz.th, known_eq t _ hz.th]
 generalize stAt t.fStates a (w64 (b - 1)) = s
 have hn : s.1.fBy < 0 → hasB t s.1.fBy = false := by
  intro h
  cases e : hasB t s.1.fBy with
  | false => rfl
  | true =>
   obtain ⟨x, hx, e2⟩ := List.mem_map.1 ((hasB_iff t _).1 e)
   have := hp x hx; omega
 by_cases h1 : s.1.fState = 1
 ·have h2 : ¬ s.1.fState = 2 := by omega
  by_cases h3 : s.1.fBy < 0
  ·cases s.2 <;> by_cases h4 : s.1.fSpan.fTo = b <;> simp [h1, h2, h3, h4, hn h3]
  ·cases s.2 <;> by_cases h4 : s.1.fSpan.fTo = b <;> simp [h1, h2, h3, h4]
 ·by_cases h2 : s.1.fState = 2
  ·by_cases h3 : s.1.fBy < 0
   ·cases s.2 <;> by_cases h4 : s.1.fSpan.fTo = b <;> simp [h1, h2, h3, h4, hn h3]
   ·cases s.2 <;> by_cases h4 : s.1.fSpan.fTo = b <;> simp [h1, h2, h3, h4]
  ·cases s.2 <;> simp [h1, h2]
def Fin (t : api_Trace) (b : Int) (cs : List Int) (x : Int) : Prop := (wkr t x b).2 = true → (wkr t x b).1 ∈ cs
theorem path_L1_fin (t : api_Trace) (a b : Int) (hz : Siz t) (ht : t.fThreads.length ≤ 1000000) : Ok (loop (critical_Path_L1 t b) (a, mput a true [], (wkr t a b).1, (wkr t a b).2)) (fun x => ∃ cs, Wk t b a cs x ∧ Fin t b cs x) := by
 refine ok_loop (fun s => ∃ cs, Wk t b a cs s.1 ∧ (∀ k, mget k s.2.1 = if k ∈ cs then some true else none) ∧ s.2.1.length = cs.length ∧ wkr t s.1 b = (s.2.2.1, s.2.2.2)) (fun s => t.fThreads.length + 2 - s.2.1.length) (fun s hs => ?_) ⟨[a], Wk.one t b a, fun k => ?_, rfl, rfl⟩ (by simp [manyRounds]; omega)
 ·obtain ⟨x, m, w, o⟩ := s
  obtain ⟨cs, h1, h2, h3, h4⟩ := hs
  simp only at h1 h2 h3 h4
  unfold critical_Path_L1
  dsimp only
  refine ok_bind (Q := fun v => v = true ↔ o = true ∧ w ∉ cs) ?_ (fun v hv => ok_cond (fun e => ?_) (fun e => ok_inr ⟨cs, h1, fun hw => ?_⟩))
  ·refine ok_cond (fun e => ok_some ?_) (fun e => ok_some ?_)
   ·by_cases hm : w ∈ cs <;> simp [h2 w, hm, e]
   ·simp [e]
  ·obtain ⟨e1, e2⟩ := hv.1 e
   rw [critical_waker_eq t w b hz, Option.bind_some]
   have hw : (wkr t x b).2 = true := by rw [h4]; exact e1
   have hx : (wkr t x b).1 = w := by rw [h4]
   have hn := h1.more hz hw (by rw [hx]; exact e2)
   rw [hx] at hn
   have hl := hn.len
   have hg : mget w m = none := by rw [h2 w, if_neg e2]
   have hml := mput_length w true m hg
   refine ok_inl ⟨⟨cs ++ [w], hn, fun k => ?_, by simp [hml, h3], rfl⟩, ?_⟩
   ·rw [mget_mput, h2 k]
    by_cases e3 : k = w
    ·simp [e3]
    ·simp [e3]
   ·simp only [hml]
    simp at hl
    omega
  ·rw [h4] at hw ⊢
   simp only at hw ⊢
   by_cases hm : w ∈ cs
   ·exact hm
   ·have := hv.2 ⟨hw, hm⟩
    rw [e] at this; simp at this
 ·rw [mget_mput]
  by_cases e : k = a <;> simp [e, mget]
theorem wk_pre {t : api_Trace} {b a : Int} {cs cs' : List Int} {x x' : Int} (h : Wk t b a cs x) (h' : Wk t b a cs' x') : ∀ k : Nat, k < cs.length → k < cs'.length → cs[k]? = cs'[k]?
 | 0, _, _ => by rw [h.first, h'.first]
 | k + 1, hk, hk' => by
  have ih := wk_pre h h' k (by omega) (by omega)
  have e1 : cs[k]? = some cs[k] := List.getElem?_eq_getElem (by omega)
  have e2 : cs[k + 1]? = some cs[k + 1] := List.getElem?_eq_getElem hk
  have e2' : cs'[k + 1]? = some cs'[k + 1] := List.getElem?_eq_getElem hk'
  have s1 := h.step k _ _ e1 e2
  have s2 := h'.step k _ _ (ih ▸ e1) e2'
  rw [s1] at s2
  rw [e2, e2']
  exact congrArg some (Prod.mk.inj s2).1
theorem wk_len {t : api_Trace} {b a : Int} {cs cs' : List Int} {x x' : Int} (h : Wk t b a cs x) (h' : Wk t b a cs' x') (hf : Fin t b cs x) : cs'.length ≤ cs.length := by
 rcases Nat.lt_or_ge cs.length cs'.length with hlt | hge
 ·exfalso
  have hp := h.pos
  have e1 := wk_pre h h' (cs.length - 1) (by omega) (by omega)
  rw [h.last] at e1
  have e2 : cs'[cs.length - 1 + 1]? = some cs'[cs.length] := by
   rw [show cs.length - 1 + 1 = cs.length by omega]; exact List.getElem?_eq_getElem hlt
  have s := h'.step (cs.length - 1) _ _ e1.symm e2
  have hm := hf (by rw [s])
  rw [s] at hm
  simp only at hm
  obtain ⟨j, hj⟩ := List.getElem?_of_mem hm
  have hjl := lt_of_get hj
  rw [wk_pre h h' j hjl (by omega), List.getElem?_eq_getElem (by omega)] at hj
  have := (List.getElem_inj (h₀ := by omega) (h₁ := hlt) h'.nd).1 (Option.some.inj hj)
  omega
 ·exact hge
def chEnd (t : api_Trace) (a b : Int) : Int := (loop (critical_Path_L1 t b) (a, mput a true [], (wkr t a b).1, (wkr t a b).2)).getD 0
theorem chEnd_eq (t : api_Trace) (a b : Int) (hz : Siz t) (ht : t.fThreads.length ≤ 1000000) : loop (critical_Path_L1 t b) (a, mput a true [], (wkr t a b).1, (wkr t a b).2) = some (chEnd t a b) ∧ ∃ cs, Wk t b a cs (chEnd t a b) ∧ Fin t b cs (chEnd t a b) := by
 obtain ⟨r, h1, h2⟩ := path_L1_fin t a b hz ht
 unfold chEnd
 rw [h1]
 exact ⟨rfl, h2⟩
def hopS (t : api_Trace) (p : api_Span) (e to : Int) : api_Hop := { fThread := e, fState := (stAt t.fStates e (to - 1)).1.fState, fSpan := { fFrom := max (stAt t.fStates e (to - 1)).1.fSpan.fFrom p.fFrom, fTo := to } }
def pathS (t : api_Trace) (p : api_Span) : Nat → Int → List api_Hop → Int → List api_Hop
 | 0, _, hs, _ => hs
 | n + 1, th, hs, to => if p.fFrom < to then pathS t p n (chEnd t th to) (hs ++ [hopS t p (chEnd t th to) to]) (hopS t p (chEnd t th to) to).fSpan.fFrom else hs
structure Pth (t : api_Trace) (p : api_Span) (R : List api_Hop) (th : Int) (hs : List api_Hop) (to : Int) : Prop where
 eq : ∃ n : Nat, (to - p.fFrom).toNat ≤ n ∧ pathS t p n th hs to = R
 len : (hs.length : Int) + (to - p.fFrom) ≤ 1000000000000
 rng : p.fFrom ≤ to ∧ to ≤ p.fTo
 kn : th ∈ t.fThreads.map (·.fId)
theorem Pth.next {t : api_Trace} {p : api_Span} {R : List api_Hop} {th : Int} {hs : List api_Hop} {to : Int} (hz : Siz t) (ht : t.fThreads.length ≤ 1000000) (h0 : 0 ≤ p.fFrom) (H : Pth t p R th hs to) (h : p.fFrom < to) (hat : (stAt t.fStates (chEnd t th to) (to - 1)).2 = true) :
  Pth t p R (chEnd t th to) (hs ++ [hopS t p (chEnd t th to) to]) (hopS t p (chEnd t th to) to).fSpan.fFrom ∧ (hopS t p (chEnd t th to) to).fSpan.fFrom < to := by
 obtain ⟨n, hn, e⟩ := H.eq
 have hlt : (hopS t p (chEnd t th to) to).fSpan.fFrom < to ∧ p.fFrom ≤ (hopS t p (chEnd t th to) to).fSpan.fFrom := by
  obtain ⟨hm, ha⟩ := stAt_some hat
  simp only [atB, decide_eq_true_eq] at ha
  simp only [hopS]; omega
 have hl := H.len
 have hr := H.rng
 refine ⟨⟨?_, ?_, ⟨hlt.2, by omega⟩, ?_⟩, hlt.1⟩
 ·cases n with
  | zero => omega
  | succ n =>
   simp only [pathS, if_pos h] at e
   exact ⟨n, by omega, e⟩
 ·simp only [List.length_append, List.length_cons, List.length_nil]; omega
 ·obtain ⟨_, cs, hw, _⟩ := chEnd_eq t th to hz ht
  rcases List.mem_cons.1 (hw.kn _ (List.mem_of_getElem? hw.last)) with e2 | e2
  ·rw [e2]; exact H.kn
  ·exact e2
theorem has_p (l : List Int) (a : Int) (hl : l.length ≤ 9223372036854775807) : tracebookref48_has l a = some (decide (a ∈ l)) := by
 have : Ok (tracebookref48_has l a) (fun b => b = decide (a ∈ l)) := by
  unfold tracebookref48_has
  refine ok_bindS (Q := InlR (fun _ => a ∉ l) (fun b => b = true ∧ a ∈ l)) (ok_upN l.length (fun n => ∀ (k : Nat) z, k < n → l[k]? = some z → z ≠ a) hl (by intro k z hk; omega) (fun i hI h2 => ?_)) (fun _ hq => ok_some (decide_eq_false hq).symm) (fun r hr => ok_some (by rw [hr.1]; exact (decide_eq_true hr.2).symm))
  unfold tracebookref48_has_L1
  refine ok_ite (fun hi => ?_) (fun hi => ok_inr (fun hm => ?_))
  ·refine ok_bind (ok_ixN (by omega)) (fun y hy => ?_)
   refine ok_ite (fun e => ok_inr ⟨rfl, e ▸ List.mem_of_getElem? hy⟩) (fun e => ?_)
   rw [w64_N (n := l.length) (by omega) hl]
   refine ok_inl ⟨by omega, rfl, fun k z hk hz => ?_⟩
   by_cases e2 : k = i
   ·subst e2; rw [hy] at hz; cases hz; exact e
   ·exact hI k z (by omega) hz
  ·obtain ⟨k, hk⟩ := List.getElem?_of_mem hm
   exact hI k a (by have := lt_of_get hk; omega) hk rfl
 obtain ⟨r, h1, h2⟩ := this
 rw [h1, h2]
theorem siz48 {t : api_Trace} (h : okr_api_Trace t) : Siz t := by
 have e : reachBytes = 140737488351232 := by decide
 unfold okr_api_Trace okL okr_api_Thread okr_api_Slice okr_api_Sample okr_api_Step okr_api_Block okr_str okL at h
 rw [e] at h
 obtain ⟨_, _, h1, h2, h3, h4, h5, h6, h7, h8⟩ := h
 refine ⟨by omega, by omega, by omega, by omega, by omega, by omega, by omega, by omega, fun x hx => ?_, fun x hx => ?_, fun x hx => ?_, fun x hx => ?_, fun x hx => ?_⟩
 ·have := (h1.2 x hx).2.1; unfold okN; omega
 ·have := (h2.2 x hx).2.2.2.1; unfold okN; omega
 ·have := (h5.2 x hx).2.2.2; exact ⟨by omega, fun y hy => by have := this.2 y hy; unfold okN; omega⟩
 ·have := (h6.2 x hx).1; unfold okN; omega
 ·have := (h7.2 x hx).2.2.2.2.2.1; exact ⟨by omega, fun y hy => by have := this.2 y hy; unfold okN; omega⟩
theorem awake48 : tracebooklaw48_awake = some true := by kernel_rfl
theorem few48 (t : api_Trace) : Ok (tracebooklaw48_few t) (fun b => b = true → t.fThreads.length ≤ 1000000 ∧ t.fStates.length ≤ 200) := by
 unfold tracebooklaw48_few
 refine ok_bind (Q := fun b => b = true → t.fThreads.length ≤ 1000000 ∧ t.fStates.length ≤ 200) ?_ (fun b hb => ok_some hb)
 refine ok_ite (fun h => ?_) (fun _ => ok_some (by simp))
 have h1 : t.fThreads.length ≤ 1000000 := by omega
 refine ok_ite (fun h => ?_) (fun _ => ok_some (by simp))
 refine ok_ite (fun h => ?_) (fun _ => ok_some (by simp))
 have h2 : t.fStates.length ≤ 200 := by omega
 refine Ok.mono (P := Yes) ?_ (fun _ _ _ => ⟨h1, h2⟩)
 repeat' (first | (with_reducible first | exact ok_yes | exact ok_inrY | exact ok_inlY | refine ok_nite (fun _ => ?_) fun _ => ?_ | refine ok_ite (fun _ => ?_) fun _ => ?_ | refine ok_not (fun _ => ?_) fun _ => ?_ | refine ok_cond (fun _ => ?_) fun _ => ?_) | (with_reducible refine ok_next ?_ ?_ ?_ <;> (first | assumption | omega | rw [w64_of] <;> omega)) | with_reducible refine ok_bind (ok_idx (by (first | assumption | omega | rw [w64_of] <;> omega)) (by (first | assumption | omega | rw [w64_of] <;> omega))) (fun _ _ => ?_) | (with_reducible refine ok_bind (Q := Yes) ?_ fun _ _ => ?_) | dsimp only)
theorem w64_add (a b : Int) : w64 (w64 a + b) = w64 (a + b) := by
 have e : (2 : Int) ^ (64 : Nat) = 18446744073709551616 := by decide
 have e2 : (2 : Int) ^ (64 - 1 : Nat) = 9223372036854775808 := by decide
 simp only [IntKind.wrap, IntKind.bits, IntKind.signed, e, e2, Bool.true_and, decide_eq_true_eq]
 split <;> split <;> split <;> omega
theorem w64_sub (a b : Int) : w64 (w64 a - b) = w64 (a - b) := w64_add a (-b)
def lenH (h : api_Hop) : Int := if 0 ≤ h.fSpan.fFrom ∧ h.fSpan.fFrom < h.fSpan.fTo ∧ h.fSpan.fTo ≤ 1000000000000 then h.fSpan.fTo - h.fSpan.fFrom else 0
theorem length_p (h : api_Hop) : critical_length h = some (lenH h) := by
 unfold critical_length lenH
 rw [spans_Valid_eq, Option.bind_some]
 by_cases e : 0 ≤ h.fSpan.fFrom ∧ h.fSpan.fFrom < h.fSpan.fTo ∧ h.fSpan.fTo ≤ 1000000000000
 ·simp only [e, decide_true, Bool.not_true, cond_false, if_true, and_self]
  rw [w64_of (by omega)]
 ·rw [if_neg e, decide_eq_false e]; rfl
def sumN {α : Type} (f : α → Int) (l : List α) : Nat → Int
 | 0 => 0
 | n + 1 => sumN f l n + (match l[n]? with | some y => f y | none => 0)
theorem sumN_step {α : Type} {f : α → Int} {l : List α} {n : Nat} {y : α} (h : l[n]? = some y) : sumN f l (n + 1) = sumN f l n + f y := by
 simp only [sumN, h]
def stL (k : Int) (h : api_Hop) : Int := if h.fState = k then lenH h else 0
theorem Total_p (l : List api_Hop) (k : Int) (hl : l.length ≤ 9223372036854775807) : critical_Total l k = some (w64 (sumN (stL k) l l.length)) := by
 have : Ok (critical_Total l k) (fun r => r = w64 (sumN (stL k) l l.length)) := by
  unfold critical_Total
  refine ok_bind (ok_up2N l.length (fun a n => a = w64 (sumN (stL k) l n)) hl (by rfl) (fun a i hI h2 => ?_)) (fun r hr => ok_some hr)
  unfold critical_Total_L1
  dsimp only
  subst hI
  refine ok_ite (fun hi => ?_) (fun hi => ok_inr ?_)
  ·obtain ⟨y, hiy, hy⟩ := ok_ixN (xs := l) (i := i) (by omega)
   rw [hiy, Option.bind_some]
   refine ok_bind (Q := fun v => v = w64 (sumN (stL k) l (i + 1))) ?_ (fun v hv => ok_inl ⟨by omega, w64_N (by omega) hl, hv⟩)
   rw [sumN_step hy]
   unfold stL
   refine ok_ite (fun e => ?_) (fun e => ok_some ?_)
   ·rw [length_p, Option.bind_some, if_pos e]
    exact ok_some (w64_add _ _)
   ·rw [if_neg e, Int.add_zero]
  ·rw [show i = l.length by omega]
 obtain ⟨r, h1, h2⟩ := this
 rw [h1, h2]
theorem refTotal_p (l : List api_Hop) (k : Int) (hl : l.length ≤ 9223372036854775807) : tracebookref48_Total l k = some (w64 (sumN (stL k) l l.length)) := by
 have : Ok (tracebookref48_Total l k) (fun r => r = w64 (sumN (stL k) l l.length)) := by
  unfold tracebookref48_Total
  refine ok_bind (ok_up2N l.length (fun a n => a = w64 (sumN (stL k) l n)) hl (by rfl) (fun a i hI h2 => ?_)) (fun r hr => ok_some hr)
  unfold tracebookref48_Total_L1
  dsimp only
  subst hI
  refine ok_ite (fun hi => ?_) (fun hi => ok_inr ?_)
  ·obtain ⟨y, hiy, hy⟩ := ok_ixN (xs := l) (i := i) (by omega)
   simp only [hiy, Option.bind_some, Valid_eq, spans_Valid_eq]
   refine ok_bind (Q := fun v => v = w64 (sumN (stL k) l (i + 1))) ?_ (fun v hv => ok_inl ⟨by omega, w64_N (by omega) hl, hv⟩)
   rw [sumN_step hy]
   unfold stL
   by_cases e : y.fState = k
   ·simp only [e, decide_true, cond_true, Option.bind_some, if_true]
    refine ok_ite (fun e2 => ok_some ?_) (fun e2 => ok_some ?_)
    ·unfold lenH
     rw [if_pos e2, w64_sub, Int.add_sub_assoc, w64_add]
    ·unfold lenH
     rw [if_neg e2, Int.add_zero]
   ·simp only [e, decide_false, cond_false, Option.bind_some, if_false, Int.add_zero]
    exact ok_some rfl
  ·rw [show i = l.length by omega]
 obtain ⟨r, h1, h2⟩ := this
 rw [h1, h2]
def shM (l : List api_Hop) : Nat → List (Int × Int)
 | 0 => []
 | n + 1 => match l[n]? with
  | some h => if 0 < lenH h then mput h.fThread (w64 ((mget h.fThread (shM l n)).getD 0 + lenH h)) (shM l n) else shM l n
  | none => shM l n
theorem mput_keys {κ ν : Type} [DecidableEq κ] (k : κ) (v : ν) : ∀ m : List (κ × ν), (mput k v m).map (·.1) = if k ∈ m.map (·.1) then m.map (·.1) else m.map (·.1) ++ [k]
 | [] => by simp [mput]
 | p :: r => by
  simp only [mput]
  by_cases e : k = p.1
  ·simp [e]
  ·rw [if_neg e]
   simp only [List.map_cons, mput_keys k v r, List.mem_cons, e, false_or]
   split <;> simp
theorem mput_nodup {κ ν : Type} [DecidableEq κ] (k : κ) (v : ν) (m : List (κ × ν)) (h : (m.map (·.1)).Nodup) : ((mput k v m).map (·.1)).Nodup := by
 rw [mput_keys]
 split
 ·exact h
 ·rename_i hn
  exact List.nodup_append.2 ⟨h, by simp, by intro a ha b hb; simp at hb; subst hb; exact fun e => hn (e ▸ ha)⟩
theorem mget_none {κ ν : Type} [DecidableEq κ] (k : κ) : ∀ m : List (κ × ν), mget k m = none ↔ k ∉ m.map (·.1)
 | [] => by simp [mget]
 | p :: r => by
  simp only [mget, List.map_cons, List.mem_cons, not_or]
  by_cases e : k = p.1
  ·simp [e]
  ·simp [e, mget_none k r]
theorem shM_keys (l : List api_Hop) : ∀ n, ((shM l n).map (·.1)).Nodup ∧ (shM l n).length ≤ n ∧ ∀ k ∈ (shM l n).map (·.1), k ∈ l.map (·.fThread)
 | 0 => ⟨by simp [shM], by simp [shM], by simp [shM]⟩
 | n + 1 => by
  obtain ⟨h1, h2, h3⟩ := shM_keys l n
  simp only [shM]
  cases hn : l[n]? with
  | none => exact ⟨h1, by dsimp only; omega, h3⟩
  | some y =>
   dsimp only
   split
   ·refine ⟨mput_nodup _ _ _ h1, ?_, fun k hk => ?_⟩
    ·have := congrArg List.length (mput_keys y.fThread (w64 ((mget y.fThread (shM l n)).getD 0 + lenH y)) (shM l n))
     rw [List.length_map] at this
     rw [this]
     split <;> simp <;> omega
    ·rw [mput_keys] at hk
     split at hk
     ·exact h3 k hk
     ·rcases List.mem_append.1 hk with hk | hk
      ·exact h3 k hk
      ·simp at hk; subst hk
       exact List.mem_map.2 ⟨y, List.mem_of_getElem? hn, rfl⟩
   ·exact ⟨h1, by omega, h3⟩
def rowOf (m : List (Int × Int)) (k : Int) : T46_2_int := { a0 := k, a1 := (mget k m).getD 0 }
def rowsOf (m : List (Int × Int)) : List T46_2_int := (sortI (m.map (·.1))).map (rowOf m)
theorem keysB_ok {m : List (Int × Int)} (h1 : (m.map (·.1)).Nodup) (h2 : ∀ k ∈ m.map (·.1), inI .i64 k) (h3 : m.length ≤ 17592186043904) : keysB m = true := by
 refine decide_eq_true ⟨h1, fun p hp => ?_, h3⟩
 have := h2 p.1 (List.mem_map.2 ⟨p, hp, rfl⟩)
 simpa [Lit.wf, inI] using this
theorem Shares_p (l : List api_Hop) (hl : l.length ≤ 1000000000000) (hi : ∀ y ∈ l, inI .i64 y.fThread) : critical_Shares l = some (rowsOf (shM l l.length)) := by
 have : Ok (critical_Shares l) (fun r => r = rowsOf (shM l l.length)) := by
  unfold critical_Shares
  refine ok_bind (Q := fun m => m = shM l l.length) (ok_up2N l.length (fun a n => a = shM l n) (by omega) rfl (fun a i hI h2 => ?_)) (fun m hm => ?_)
  ·unfold critical_Shares_L2
   dsimp only
   subst hI
   refine ok_ite (fun hi => ?_) (fun hi => ok_inr ?_)
   ·obtain ⟨y, hiy, hy⟩ := ok_ixN (xs := l) (i := i) (by omega)
    rw [hiy, Option.bind_some, length_p, Option.bind_some]
    refine ok_bind (Q := fun v => v = shM l (i + 1)) ?_ (fun v hv => ok_inl ⟨by omega, w64_N (n := l.length) (by omega) (by omega), hv⟩)
    simp only [shM, hy]
    refine ok_ite (fun e => ok_some ?_) (fun e => ok_some ?_)
    ·rw [if_pos e]
    ·rw [if_neg e]
   ·rw [show i = l.length by omega]
  ·obtain ⟨k1, k2, k3⟩ := shM_keys l l.length
   subst hm
   unfold maps_Keys_map_int_int_int_int_k1 slices_SortedFunc_int_k1
   rw [Option.bind_some, keysB_ok k1 (fun k hk => by obtain ⟨y, hy, e⟩ := List.mem_map.1 (k3 k hk); exact e ▸ hi y hy) (by omega), cond_true, Option.bind_some]
   generalize hr : sortI ((shM l l.length).map (·.1)) = r
   have hrl : r.length ≤ l.length := by rw [← hr, (sortI_perm _).length_eq]; simpa using k2
   refine ok_bind (Q := fun v => v = r.map (rowOf (shM l l.length))) (ok_up2N r.length (fun a n => a = (r.take n).map (rowOf (shM l l.length))) (by omega) (by simp) (fun a i hI h2 => ?_)) (fun v hv => ok_some (by rw [hv, ← hr, rowsOf]))
   unfold critical_Shares_L1
   dsimp only
   subst hI
   refine ok_ite (fun hi => ?_) (fun hi => ok_inr ?_)
   ·obtain ⟨y, hiy, hy⟩ := ok_ixN (xs := r) (i := i) (by omega)
    rw [hiy, Option.bind_some, room_ok (by simp; omega) (by simp; omega)]
    refine ok_inl ⟨by omega, w64_N (n := r.length) (by omega) (by omega), ?_⟩
    have := lt_of_get hy
    have hy' : r[i] = y := by have := List.getElem?_eq_getElem this; rw [hy] at this; exact (Option.some.inj this).symm
    rw [List.take_succ_eq_append_getElem this, List.map_append, hy']
    rfl
   ·rw [show i = r.length by omega, List.take_length]
 obtain ⟨r, h1, h2⟩ := this
 rw [h1, h2]
theorem swap_app {α : Type} (x y : α) (S : List α) : ∀ P : List α, ((P ++ y :: x :: S).set (P.length + 1) y).set P.length x = P ++ x :: y :: S
 | [] => rfl
 | p :: P => by
  simp only [List.cons_append, List.length_cons, List.set_cons_succ, swap_app x y S P]
theorem get_app {α : Type} (x : α) (S P : List α) : (P ++ x :: S)[P.length]? = some x := by simp
theorem bubble_p (x : T46_2_int) (A : List T46_2_int) (hl : A.length ≤ 1000000000) (hs : A.Pairwise (fun a b => a.a0 ≤ b.a0)) :
  Ok (loop tracebookref48_Shares_L1 (A ++ [x], (A.length : Int))) (fun B => B.Perm (x :: A) ∧ B.Pairwise (fun a b => a.a0 ≤ b.a0)) := by
 refine ok_loop (fun s : List T46_2_int × Int => ∃ P S, s.1 = P ++ x :: S ∧ s.2 = (P.length : Int) ∧ A = P ++ S ∧ ∀ z ∈ S, x.a0 ≤ z.a0) (fun s => s.2.toNat) (fun s H => ?_) ⟨A, [], rfl, rfl, by simp, by simp⟩ (by simp [manyRounds]; omega)
 obtain ⟨b, j⟩ := s
 obtain ⟨P, S, e1, e2, e3, e4⟩ := H
 simp only at e1 e2
 subst e1 e2
 have hfin : ∀ (hP : ∀ z ∈ P, z.a0 ≤ x.a0), (P ++ x :: S).Perm (x :: A) ∧ (P ++ x :: S).Pairwise (fun a b => a.a0 ≤ b.a0) := by
  intro hP
  subst e3
  obtain ⟨h1, h2, h3⟩ := List.pairwise_append.1 hs
  exact ⟨List.perm_middle, List.pairwise_append.2 ⟨h1, List.pairwise_cons.2 ⟨e4, h2⟩, fun a ha b hb => by
   rcases List.mem_cons.1 hb with rfl | hb
   ·exact hP a ha
   ·exact h3 a ha b hb⟩⟩
 unfold tracebookref48_Shares_L1
 dsimp only
 have hPl : P.length ≤ A.length := by rw [e3]; simp
 have ix1 : idx (P ++ x :: S) (P.length : Int) = some x := by rw [idx_nat]; exact get_app x S P
 rcases List.eq_nil_or_concat P with hP | ⟨Q, y, hP⟩
 ·subst hP
  simp only [List.length_nil]
  exact ok_inr (hfin (by simp))
 ·rw [List.concat_eq_append] at hP
  subst hP
  have h0 : (0 : Int) < ((Q ++ [y]).length : Int) := by simp [List.length_append]
  have hw : w64 (((Q ++ [y]).length : Int) - 1) = (Q.length : Int) := by
   rw [w64_of (by omega)]; simp
  have ix2 : idx (Q ++ [y] ++ x :: S) (Q.length : Int) = some y := by
   rw [idx_nat, List.append_assoc]; exact get_app y (x :: S) Q
  rw [hw, ix1, ix2]
  simp only [h0, decide_true, cond_true, Option.bind_some]
  refine ok_ite (fun hlt => ?_) (fun hge => ok_inr (hfin (fun z hz => ?_)))
  ·have ix3 : idx ((Q ++ [y] ++ x :: S).set (((Q ++ [y]).length : Int)).toNat y) (Q.length : Int) = some y := by
    rw [idx_nat, List.getElem?_set_ne (by simp), List.append_assoc]; exact get_app y (x :: S) Q
   rw [ix3, Option.bind_some]
   refine ok_inl ⟨⟨Q, y :: S, ?_, rfl, by rw [e3]; simp, ?_⟩, ?_⟩
   ·simp [swap_app]
   ·intro z hz
    rcases List.mem_cons.1 hz with rfl | hz
    ·omega
    ·exact e4 z hz
   ·simp
  ·subst e3
   obtain ⟨h1, _, _⟩ := List.pairwise_append.1 hs
   obtain ⟨_, _, h3⟩ := List.pairwise_append.1 h1
   rcases List.mem_append.1 hz with hz | hz
   ·have := h3 z hz y (by simp); omega
   ·simp at hz; subst hz; omega
theorem rows_unique {m : List (Int × Int)} {B : List T46_2_int} (h1 : (B.map (·.a0)).Perm (m.map (·.1))) (h2 : B.Pairwise (fun a b => a.a0 ≤ b.a0)) (h3 : ∀ r ∈ B, r = rowOf m r.a0) : B = rowsOf m := by
 have e : B.map (·.a0) = sortI (m.map (·.1)) := sorted_unique _ _ (h1.trans (sortI_perm _).symm) (List.pairwise_map.2 h2) (sortI_sorted _)
 rw [rowsOf, ← e, List.map_map]
 symm
 exact (List.map_congr_left (g := id) (fun r hr => (h3 r hr).symm)).trans (List.map_id _)
theorem rowsOf_sorted (m : List (Int × Int)) : (rowsOf m).Pairwise (fun a b => a.a0 ≤ b.a0) := by
 unfold rowsOf
 exact List.pairwise_map.2 (by simpa [rowOf] using sortI_sorted (m.map (·.1)))
theorem rowsOf_keys (m : List (Int × Int)) : (rowsOf m).map (·.a0) = sortI (m.map (·.1)) := by
 unfold rowsOf
 rw [List.map_map]
 exact (List.map_congr_left (fun _ _ => rfl)).trans (List.map_id _)
theorem rowsOf_len (m : List (Int × Int)) : (rowsOf m).length = m.length := by
 unfold rowsOf
 rw [List.length_map, (sortI_perm _).length_eq, List.length_map]
theorem rowsOf_mem {m : List (Int × Int)} {r : T46_2_int} (h : r ∈ rowsOf m) : r = rowOf m r.a0 ∧ r.a0 ∈ m.map (·.1) := by
 obtain ⟨k, hk, rfl⟩ := List.mem_map.1 h
 exact ⟨rfl, (sortI_perm _).mem_iff.1 hk⟩
def updR (th v : Int) (r : T46_2_int) : T46_2_int := if r.a0 = th then { a0 := r.a0, a1 := w64 (r.a1 + v) } else r
theorem upd_p (l : List api_Hop) (i : Nat) (y : api_Hop) (hy : l[i]? = some y) (out : List T46_2_int) (hl : out.length ≤ 1000000000) :
  Ok (loop (tracebookref48_Shares_L2 l (i : Int) y y) (out, false, 0)) (fun r => r = (out.map (updR y.fThread (w64 (y.fSpan.fTo - y.fSpan.fFrom))), decide (y.fThread ∈ out.map (·.a0)))) := by
 refine ok_loop (fun s : List T46_2_int × Bool × Int => ∃ n : Nat, n ≤ out.length ∧ s = ((out.take n).map (updR y.fThread (w64 (y.fSpan.fTo - y.fSpan.fFrom))) ++ out.drop n, decide (y.fThread ∈ (out.take n).map (·.a0)), (n : Int))) (fun s => out.length - s.2.2.toNat) (fun s H => ?_) ⟨0, by omega, by simp⟩ (by simp [manyRounds]; omega)
 obtain ⟨n, hn, rfl⟩ := H
 unfold tracebookref48_Shares_L2
 dsimp only
 have hlen : ((out.take n).map (updR y.fThread (w64 (y.fSpan.fTo - y.fSpan.fFrom))) ++ out.drop n).length = out.length := by simp; omega
 rw [hlen]
 refine ok_ite (fun hi => ?_) (fun hi => ok_inr ?_)
 ·have hi' : n < out.length := by omega
  have hd : out.drop n = out[n] :: out.drop (n + 1) := List.drop_eq_getElem_cons hi'
  have hpl : ((out.take n).map (updR y.fThread (w64 (y.fSpan.fTo - y.fSpan.fFrom)))).length = n := by simp; omega
  have ix : idx ((out.take n).map (updR y.fThread (w64 (y.fSpan.fTo - y.fSpan.fFrom))) ++ out.drop n) (n : Int) = some out[n] := by
   rw [idx_nat, hd]
   have := get_app out[n] (out.drop (n + 1)) ((out.take n).map (updR y.fThread (w64 (y.fSpan.fTo - y.fSpan.fFrom))))
   rw [hpl] at this; exact this
  have ix2 : idx l (i : Int) = some y := by rw [idx_nat]; exact hy
  have hset : ∀ z, ((out.take n).map (updR y.fThread (w64 (y.fSpan.fTo - y.fSpan.fFrom))) ++ out.drop n).set n z = (out.take n).map (updR y.fThread (w64 (y.fSpan.fTo - y.fSpan.fFrom))) ++ z :: out.drop (n + 1) := by
   intro z
   rw [hd, List.set_append_right _ _ (by omega), hpl, Nat.sub_self, List.set_cons_zero]
  have htk : out.take (n + 1) = out.take n ++ [out[n]] := by rw [List.take_succ_eq_append_getElem hi']
  rw [ix, ix2]
  simp only [Option.bind_some]
  refine ok_bind (Q := fun v => v = ((out.take (n + 1)).map (updR y.fThread (w64 (y.fSpan.fTo - y.fSpan.fFrom))) ++ out.drop (n + 1), decide (y.fThread ∈ (out.take (n + 1)).map (·.a0)))) ?_ (fun v hv => ?_)
  ·refine ok_ite (fun e => ok_some ?_) (fun e => ok_some ?_)
   ·rw [show ((n : Int)).toNat = n from rfl, hset, htk]
    refine Prod.ext ?_ ?_
    ·simp only [List.map_append, List.map_cons, List.map_nil, List.append_assoc, List.cons_append, List.nil_append, updR, if_pos e]
    ·simp only [List.map_append, List.map_cons, List.map_nil, List.mem_append, List.mem_singleton, e, or_true, decide_true]
   ·rw [htk]
    have e' : ¬ y.fThread = out[n].a0 := fun h => e h.symm
    simp only [List.map_append, List.map_cons, List.map_nil, List.mem_append, List.mem_singleton, e', or_false]
    rw [hd]
    simp [updR, e]
  ·subst hv
   refine ok_inl ⟨⟨n + 1, by omega, by rw [w64_N (n := out.length) (by omega) (by omega)]⟩, ?_⟩
   simp only
   rw [w64_N (n := out.length) (by omega) (by omega)]
   omega
 ·have : n = out.length := by omega
  subst this
  simp
theorem refShares_p (l : List api_Hop) (hl : l.length ≤ 1000000000) : tracebookref48_Shares l = some (rowsOf (shM l l.length)) := by
 have : Ok (tracebookref48_Shares l) (fun r => r = rowsOf (shM l l.length)) := by
  unfold tracebookref48_Shares
  refine ok_bind (ok_up2N l.length (fun a n => a = rowsOf (shM l n)) (by omega) (by rfl) (fun a i hI h2 => ?_)) (fun r hr => ok_some hr)
  unfold tracebookref48_Shares_L3
  dsimp only
  subst hI
  refine ok_ite (fun hi => ?_) (fun hi => ok_inr ?_)
  ·obtain ⟨y, hiy, hy⟩ := ok_ixN (xs := l) (i := i) (by omega)
   simp only [hiy, Option.bind_some, Valid_eq, spans_Valid_eq]
   refine ok_bind (Q := fun v => v = rowsOf (shM l (i + 1))) ?_ (fun v hv => ok_inl ⟨by omega, w64_N (n := l.length) (by omega) (by omega), hv⟩)
   obtain ⟨k1, k2, k3⟩ := shM_keys l i
   refine ok_nite (fun e => ok_some ?_) (fun e => ?_)
   ·have : ¬ 0 < lenH y := by unfold lenH; rw [if_neg e]; omega
    simp only [shM, hy, if_neg this]
   ·have hlen : lenH y = y.fSpan.fTo - y.fSpan.fFrom := by unfold lenH; rw [if_pos e]
    have hpos : 0 < lenH y := by omega
    have hw : w64 (y.fSpan.fTo - y.fSpan.fFrom) = lenH y := by rw [hlen]; exact w64_of (by omega)
    obtain ⟨q, hq, hqe⟩ := upd_p l i y hy (rowsOf (shM l i)) (by rw [rowsOf_len]; omega)
    rw [hq, Option.bind_some]
    subst hqe
    simp only [shM, hy, if_pos hpos]
    rw [hw]
    generalize shM l i = m at *
    rw [rowsOf_keys]
    have hmem : y.fThread ∈ sortI (m.map (·.1)) ↔ y.fThread ∈ m.map (·.1) := (sortI_perm _).mem_iff
    simp only [hmem]
    have hrow : ∀ k, k ≠ y.fThread → rowOf (mput y.fThread (w64 ((mget y.fThread m).getD 0 + lenH y)) m) k = rowOf m k := by
     intro k hk
     unfold rowOf
     rw [mget_mput, if_neg hk]
    by_cases hin : y.fThread ∈ m.map (·.1)
    ·simp only [hin, decide_true, Bool.not_true, cond_false]
     refine ok_some (rows_unique ?_ ?_ ?_)
     ·rw [mput_keys, if_pos hin, List.map_map]
      refine List.Perm.trans (List.Perm.of_eq ?_) (List.Perm.trans (List.Perm.of_eq (rowsOf_keys m)) (sortI_perm _))
      refine List.map_congr_left (fun r _ => ?_)
      simp only [Function.comp, updR]
      split <;> rfl
     ·refine List.pairwise_map.2 ((rowsOf_sorted m).imp (fun {a b} h => ?_))
      unfold updR
      split <;> split <;> exact h
     ·intro r hr
      obtain ⟨r0, hr0, rfl⟩ := List.mem_map.1 hr
      obtain ⟨e1, e2⟩ := rowsOf_mem hr0
      by_cases e3 : r0.a0 = y.fThread
      ·have : updR y.fThread (lenH y) r0 = { a0 := r0.a0, a1 := w64 (r0.a1 + lenH y) } := by unfold updR; rw [if_pos e3]
       rw [this]
       simp only [rowOf, mget_mput, e3, if_true, Option.getD_some]
       have : r0.a1 = (mget y.fThread m).getD 0 := by rw [e1, ← e3]; rfl
       rw [this]
      ·have : updR y.fThread (lenH y) r0 = r0 := by unfold updR; rw [if_neg e3]
       rw [this, hrow _ e3]; exact e1
    ·simp only [hin, decide_false, Bool.not_false, cond_true]
     have hup : (rowsOf m).map (updR y.fThread (lenH y)) = rowsOf m := by
      refine (List.map_congr_left (fun r hr => ?_)).trans (List.map_id _)
      obtain ⟨_, e2⟩ := rowsOf_mem hr
      unfold updR
      rw [if_neg (fun h3 : r.a0 = y.fThread => hin (h3 ▸ e2))]; rfl
     rw [hup, room_ok (by simp [rowsOf_len]; omega) (by simp [rowsOf_len]; omega)]
     simp only [cond_true]
     have hj : w64 ((((rowsOf m ++ [({ a0 := y.fThread, a1 := lenH y } : T46_2_int)]).length : Nat) : Int) - 1) = ((rowsOf m).length : Int) := by
      rw [w64_of (by simp [rowsOf_len]; omega)]; simp
     rw [hj]
     refine ok_bind (bubble_p { a0 := y.fThread, a1 := lenH y } (rowsOf m) (by rw [rowsOf_len]; omega) (rowsOf_sorted m)) (fun B hB => ok_some (rows_unique ?_ hB.2 ?_))
     ·rw [mput_keys, if_neg hin]
      refine (hB.1.map _).trans ?_
      simp only [List.map_cons, rowsOf_keys]
      exact ((sortI_perm _).cons _).trans (List.perm_append_singleton _ _).symm
     ·intro r hr
      have hng : mget y.fThread m = none := (mget_none _ _).2 hin
      rcases List.mem_cons.1 (hB.1.mem_iff.1 hr) with rfl | hr
      ·simp only [rowOf, mget_mput, if_true, Option.getD_some, hng, Option.getD_none, Int.zero_add]
       rw [← hw, w64_of (n := y.fSpan.fTo - y.fSpan.fFrom) (by omega), w64_of (by omega)]
      ·obtain ⟨e1, e2⟩ := rowsOf_mem hr
       rw [hrow _ (fun h3 : r.a0 = y.fThread => hin (h3 ▸ e2))]; exact e1
  ·rw [show i = l.length by omega]
 obtain ⟨r, h1, h2⟩ := this
 rw [h1, h2]
theorem no_more {t : api_Trace} {b a x z : Int} {cs : List Int} (h : Wk t b a cs z) (hf : Fin t b cs z) (hx : x ∉ cs) : ¬ ∃ cs', Wk t b a cs' x := by
 rintro ⟨cs', h'⟩
 have hl := wk_len h h' hf
 have hp := h'.pos
 have e := wk_pre h h' (cs'.length - 1) (by omega) (by omega)
 rw [h'.last] at e
 exact hx (List.mem_of_getElem? e)
def Chn0 (t : api_Trace) (b a : Int) (cs : List Int) (y : Int) : Prop := (cs = [] ∧ y = a) ∨ ∃ z, Wk t b a cs z ∧ wkr t z b = (y, true)
theorem Chn0.next {t : api_Trace} {b a y : Int} {cs : List Int} (hz : Siz t) (h : Chn0 t b a cs y) (hn : y ∉ cs) : Wk t b a (cs ++ [y]) y := by
 rcases h with ⟨rfl, rfl⟩ | ⟨z, hw, e⟩
 ·exact Wk.one t b y
 ·have := hw.more hz (by rw [e]) (by rw [e]; exact hn)
  rw [e] at this; exact this
theorem comes_p (t : api_Trace) (a x b : Int) (hz : Siz t) (ht : t.fThreads.length ≤ 1000000) : Ok (critical_comes t a x b) (fun r => r = true ↔ ∃ cs, Wk t b a cs x) := by
 unfold critical_comes
 refine ok_bindS (Q := InlR (fun _ => ¬ ∃ cs, Wk t b a cs x) (fun r => r = true ↔ ∃ cs, Wk t b a cs x)) (ok_loop (fun s : Int × List (Int × Bool) => ∃ cs, Chn0 t b a cs s.1 ∧ x ∉ cs ∧ (∀ k, mget k s.2 = if k ∈ cs then some true else none) ∧ s.2.length = cs.length) (fun s => t.fThreads.length + 2 - s.2.length) (fun s H => ?_) ⟨[], .inl ⟨rfl, rfl⟩, by simp, by simp [mget], rfl⟩ (by simp [manyRounds]; omega)) (fun _ h => ok_some ⟨fun e => by simp at e, fun e => absurd e h⟩) (fun r h => ok_some h)
 obtain ⟨y, m⟩ := s
 obtain ⟨cs, h1, h2, h3, h4⟩ := H
 simp only at h1 h3 h4
 unfold critical_comes_L1
 dsimp only
 rw [h3 y]
 by_cases hm : y ∈ cs
 ·rw [if_pos hm]
  refine ok_inr ?_
  rcases h1 with ⟨rfl, _⟩ | ⟨z, hw, e⟩
  ·simp at hm
  ·exact no_more hw (fun _ => by rw [e]; exact hm) h2
 ·rw [if_neg hm]
  have hn := h1.next hz hm
  simp only [Option.getD_none, Bool.not_false, cond_true]
  refine ok_ite (fun e => ok_inr ?_) (fun e => ?_)
  ·exact ⟨fun _ => ⟨_, e ▸ hn⟩, fun _ => rfl⟩
  ·have hx : x ∉ cs ++ [y] := by
    simp only [List.mem_append, List.mem_singleton, not_or]; exact ⟨h2, fun h => e h.symm⟩
   rw [critical_waker_eq t _ _ hz, Option.bind_some]
   refine ok_not (fun e2 => ok_inr ?_) (fun e2 => ?_)
   ·exact ⟨fun h => by simp at h, fun h => absurd h (no_more hn (fun h => by rw [h] at e2; simp at e2) hx)⟩
   ·have hl := hn.len
    simp at hl
    have hml := mput_length y true m (by rw [h3 y, if_neg hm])
    refine ok_inl ⟨⟨cs ++ [y], .inr ⟨y, hn, Prod.ext rfl e2⟩, hx, fun k => ?_, by simp [hml, h4]⟩, by simp only [hml]; omega⟩
    rw [mget_mput, h3 k]
    by_cases e3 : k = y <;> simp [e3]
theorem refcomes_p (t : api_Trace) (a x b : Int) (hz : Siz t) (ht : t.fThreads.length ≤ 1000000) (hp : ∀ x ∈ t.fThreads, 0 ≤ x.fId) : Ok (tracebookref48_comes t a x b) (fun r => r = true ↔ ∃ cs, Wk t b a cs x) := by
 unfold tracebookref48_comes
 refine ok_bindS (Q := InlR (fun _ => ∃ cs, Wk t b a cs x) (fun r => r = false ∧ ¬ ∃ cs, Wk t b a cs x)) (ok_loop (fun s : Int × List Int => Wk t b a s.2 s.1 ∧ (x ∈ s.2 → s.1 = x)) (fun s => t.fThreads.length + 2 - s.2.length) (fun s H => ?_) ⟨Wk.one t b a, by simp; exact fun e => e.symm⟩ (by simp [manyRounds]; omega)) (fun _ h => ok_some ⟨fun _ => h, fun _ => rfl⟩) (fun r h => ok_some ⟨fun e => by rw [h.1] at e; simp at e, fun e => absurd e h.2⟩)
 obtain ⟨y, seen⟩ := s
 obtain ⟨h1, h2⟩ := H
 simp only at h1 h2
 have hl := h1.len
 unfold tracebookref48_comes_L1
 dsimp only
 refine ok_nite (fun e => ?_) (fun e => ok_inr ⟨seen, e ▸ h1⟩)
 have hx : x ∉ seen := fun h => e (h2 h)
 rw [waker_eq t _ _ hz hp, Option.bind_some, has_p seen _ (by omega)]
 refine ok_bind (Q := fun v => v = false ↔ (wkr t y b).2 = true ∧ (wkr t y b).1 ∉ seen) ?_ (fun v hv => ?_)
 ·refine ok_not (fun e2 => ok_some (by simp [e2])) (fun e2 => ok_some (by simp [e2]))
 cases hvv : v with
 | true =>
  simp only [cond_true]
  refine ok_inr ⟨rfl, no_more h1 (fun hw => ?_) hx⟩
  by_cases e3 : (wkr t y b).1 ∈ seen
  ·exact e3
  ·have := hv.2 ⟨hw, e3⟩
   rw [hvv] at this; simp at this
 | false =>
  simp only [cond_false]
  obtain ⟨e2, e3⟩ := hv.1 hvv
  have hm := h1.more hz e2 e3
  have hml := hm.len
  simp at hml
  rw [room_ok (by simp; omega) (by simp; omega)]
  exact ok_inl ⟨⟨hm, fun h => by simp only [List.mem_append, List.mem_singleton] at h; rcases h with h | h; exact absurd h hx; exact h.symm⟩, by simp; omega⟩
def comB (t : api_Trace) (a x b : Int) : Bool := (critical_comes t a x b).getD false
theorem comes_eq (t : api_Trace) (a x b : Int) (hz : Siz t) (ht : t.fThreads.length ≤ 1000000) : critical_comes t a x b = some (comB t a x b) := by
 obtain ⟨r, h1, _⟩ := comes_p t a x b hz ht
 unfold comB; rw [h1]; rfl
theorem refcomes_eq (t : api_Trace) (a x b : Int) (hz : Siz t) (ht : t.fThreads.length ≤ 1000000) (hp : ∀ x ∈ t.fThreads, 0 ≤ x.fId) : tracebookref48_comes t a x b = some (comB t a x b) := by
 obtain ⟨r, h1, h2⟩ := refcomes_p t a x b hz ht hp
 obtain ⟨q, h3, h4⟩ := comes_p t a x b hz ht
 unfold comB; rw [h1, h3]
 have : r = true ↔ q = true := h2.trans h4.symm
 cases r <;> cases q <;> simp at this ⊢
def withB (t : api_Trace) (h : api_Hop) : Bool := (stAt t.fStates h.fThread h.fSpan.fFrom).2 && (decide ((stAt t.fStates h.fThread h.fSpan.fFrom).1.fState = h.fState) && decide (h.fSpan.fTo ≤ (stAt t.fStates h.fThread h.fSpan.fFrom).1.fSpan.fTo))
theorem withinH_p (t : api_Trace) (h : api_Hop) (hz : Siz t) : critical_within t h = some (withB t h) := by
 unfold critical_within withB
 rw [state_At_eq _ _ _ hz.st, Option.bind_some]
 cases (stAt t.fStates h.fThread h.fSpan.fFrom).2 with
 | false => rfl
 | true =>
  cases decide ((stAt t.fStates h.fThread h.fSpan.fFrom).1.fState = h.fState) <;> rfl
def nxtT (l : List api_Hop) (a : Int) (i : Nat) : Int := match l[i + 1]? with
 | some g => g.fThread
 | none => a
structure GoodH (t : api_Trace) (a : Int) (l : List api_Hop) (i : Nat) (h : api_Hop) : Prop where
 v : 0 ≤ h.fSpan.fFrom ∧ h.fSpan.fFrom < h.fSpan.fTo ∧ h.fSpan.fTo ≤ 1000000000000
 w : withB t h = true
 c : comB t (nxtT l a i) h.fThread h.fSpan.fTo = true
def AdjH (l : List api_Hop) (i : Nat) (h : api_Hop) : Prop := ∀ g, l[i + 1]? = some g → g.fSpan.fFrom = h.fSpan.fTo
theorem crit_loop (t : api_Trace) (a : Int) (l : List api_Hop) (hz : Siz t) (ht : t.fThreads.length ≤ 1000000) (hl : l.length ≤ 1000000) :
  Ok (loop (critical_Check_L1 t a l) 0) (InlR (fun _ => ∀ (i : Nat) h, l[i]? = some h → GoodH t a l i h ∧ AdjH l i h) (fun r => r = false ∧ ¬ ∀ (i : Nat) h, l[i]? = some h → GoodH t a l i h ∧ AdjH l i h)) := by
 refine ok_upN l.length (fun n => ∀ (i : Nat) h, i < n → l[i]? = some h → GoodH t a l i h ∧ AdjH l i h) (by omega) (by intro i h hi; omega) (fun i hI h2 => ?_)
 unfold critical_Check_L1
 refine ok_ite (fun hi => ?_) (fun hi => ok_inr (fun k h hk => hI k h (by have := lt_of_get hk; omega) hk))
 refine ok_bind (ok_ixN (by omega)) (fun y hy => ?_)
 have fin : ∀ (ha : AdjH l i y), Ok ((((spans_Valid y.fSpan).bind fun r71 => (bif (!r71) then some true else ((critical_within t y).bind fun r73 => (bif (!r73) then some true else ((critical_comes t (nxtT l a i) y.fThread y.fSpan.fTo).bind fun r75 => some (!r75)))))) : Option Bool).bind fun v69 => (bif v69 then some (.inr (.inr false)) else some (.inl (w64 ((i : Int) + 1))))) (InlR (fun b : Int => i < l.length ∧ b = ((i + 1 : Nat) : Int) ∧ ∀ (k : Nat) h, k < i + 1 → l[k]? = some h → GoodH t a l k h ∧ AdjH l k h) (InlR (fun _ : Unit => ∀ (i : Nat) h, l[i]? = some h → GoodH t a l i h ∧ AdjH l i h) (fun r => r = false ∧ ¬ ∀ (i : Nat) h, l[i]? = some h → GoodH t a l i h ∧ AdjH l i h))) := by
  intro ha
  rw [spans_Valid_eq, Option.bind_some, withinH_p t y hz, comes_eq t _ _ _ hz ht]
  refine ok_bind (Q := fun v => v = false ↔ GoodH t a l i y) ?_ (fun v hv => ?_)
  ·refine ok_nite (fun e => ok_some ⟨fun h => by simp at h, fun h => absurd h.v e⟩) (fun e => ?_)
   rw [Option.bind_some, Option.bind_some]
   refine ok_not (fun e2 => ok_some ⟨fun h => by simp at h, fun h => by rw [h.w] at e2; simp at e2⟩) (fun e2 => ok_some ⟨fun e3 => ⟨e, e2, by simpa using e3⟩, fun h => by rw [h.c]; rfl⟩)
  cases v with
  | true =>
   refine ⟨_, rfl, rfl, fun h => ?_⟩
   have := hv.2 (h i y hy).1
   simp at this
  | false =>
   simp only [cond_false]
   refine ok_inl ⟨by omega, w64_N (n := l.length) (by omega) (by omega), fun k h hk hh => ?_⟩
   by_cases e : k = i
   ·subst e; rw [hy] at hh; cases hh; exact ⟨hv.1 rfl, ha⟩
   ·exact hI k h (by omega) hh
 rw [w64_N (n := l.length) (by omega) (by omega)]
 rw [w64_N (n := l.length) (by omega) (by omega)] at fin
 refine ok_ite (fun h3 => ?_) (fun h3 => ?_)
 ·obtain ⟨g, hig, hg⟩ := ok_ixN (xs := l) (i := i + 1) (by omega)
  rw [hig, Option.bind_some, Option.bind_some]
  refine ok_nite (fun e => ⟨_, rfl, rfl, fun h => e ((h i y hy).2 g hg)⟩) (fun e => ?_)
  have hn : nxtT l a i = g.fThread := by unfold nxtT; rw [hg]
  have := fin (fun g' hg' => by rw [hg] at hg'; cases hg'; exact e)
  rw [hn] at this
  exact this
 ·have hg : l[i + 1]? = none := by rw [List.getElem?_eq_none_iff]; omega
  have hn : nxtT l a i = a := by unfold nxtT; rw [hg]
  have := fin (fun g' hg' => by rw [hg] at hg'; cases hg')
  rw [hn] at this
  exact this
structure RefH (t : api_Trace) (a : Int) (p : api_Span) (l : List api_Hop) (i : Nat) (h : api_Hop) : Prop where
 g : GoodH t a l i h
 to : h.fSpan.fTo ≤ p.fTo
 z : i = 0 → h.fSpan.fFrom = p.fFrom
 s : ∀ g, 0 < i → l[i - 1]? = some g → h.fSpan.fFrom = g.fSpan.fTo
structure AtH (p : api_Span) (l : List api_Hop) (at' : Int) (n : Nat) : Prop where
 z : n = 0 → at' = p.fFrom
 s : ∀ h, 0 < n → l[n - 1]? = some h → at' = h.fSpan.fTo
theorem ref_loop (t : api_Trace) (a : Int) (p : api_Span) (l : List api_Hop) (hz : Siz t) (ht : t.fThreads.length ≤ 1000000) (hp : ∀ x ∈ t.fThreads, 0 ≤ x.fId) (hl : l.length ≤ 1000000) :
  Ok (loop (tracebookref48_Check_L1 t a p l) (p.fFrom, 0)) (InlR (fun e => AtH p l e l.length ∧ ∀ (i : Nat) h, l[i]? = some h → RefH t a p l i h) (fun r => r = false ∧ ¬ ∀ (i : Nat) h, l[i]? = some h → RefH t a p l i h)) := by
 refine ok_up2N l.length (fun b n => AtH p l b n ∧ ∀ (i : Nat) h, i < n → l[i]? = some h → RefH t a p l i h) (by omega) ⟨⟨fun _ => rfl, by intro h hn; omega⟩, by intro i h hi; omega⟩ (fun b i hI h2 => ?_)
 obtain ⟨hA, hI⟩ := hI
 unfold tracebookref48_Check_L1
 dsimp only
 refine ok_ite (fun hi => ?_) (fun hi => ok_inr (by
  have e : i = l.length := by omega
  subst e
  exact ⟨hA, fun k h hk => hI k h (lt_of_get hk) hk⟩))
 refine ok_bind (ok_ixN (by omega)) (fun y hy => ?_)
 have hb : (i = 0 → y.fSpan.fFrom = p.fFrom) ∧ (∀ g, 0 < i → l[i - 1]? = some g → y.fSpan.fFrom = g.fSpan.fTo) ↔ y.fSpan.fFrom = b := by
  constructor
  ·rintro ⟨h1, h3⟩
   by_cases e : i = 0
   ·rw [h1 e, hA.z e]
   ·have : l[i - 1]? = some l[i - 1] := List.getElem?_eq_getElem (by omega)
    rw [h3 _ (by omega) this, hA.s _ (by omega) this]
  ·intro e
   exact ⟨fun h => e.trans (hA.z h), fun g h hg => e.trans (hA.s g h hg)⟩
 have no : ∀ (h : ¬ RefH t a p l i y), InlR (fun s : Int × Int => i < l.length ∧ s.2 = ((i + 1 : Nat) : Int) ∧ AtH p l s.1 (i + 1) ∧ ∀ (k : Nat) h, k < i + 1 → l[k]? = some h → RefH t a p l k h) (InlR (fun e : Int => AtH p l e l.length ∧ ∀ (i : Nat) h, l[i]? = some h → RefH t a p l i h) (fun r => r = false ∧ ¬ ∀ (i : Nat) h, l[i]? = some h → RefH t a p l i h)) (.inr (.inr false)) := fun h => ⟨rfl, fun h' => h (h' i y hy)⟩
 rw [Valid_eq, spans_Valid_eq, Option.bind_some]
 refine ok_bind (Q := fun v => v = false ↔ (0 ≤ y.fSpan.fFrom ∧ y.fSpan.fFrom < y.fSpan.fTo ∧ y.fSpan.fTo ≤ 1000000000000) ∧ y.fSpan.fFrom = b ∧ y.fSpan.fTo ≤ p.fTo) ?_ (fun v hv => ?_)
 ·refine ok_nite (fun e => ok_some ⟨fun h => by simp at h, fun h => absurd h.1 e⟩) (fun e => ?_)
  refine ok_nite (fun e2 => ok_some ⟨fun h => by simp at h, fun h => absurd h.2.1 e2⟩) (fun e2 => ok_some ⟨fun h => ⟨e, e2, by simpa using h⟩, fun h => by have := h.2.2; simp; omega⟩)
 cases v with
 | true => exact ⟨_, rfl, no (fun h => by have := hv.2 ⟨h.g.v, hb.1 ⟨h.z, h.s⟩, h.to⟩; simp at this)⟩
 | false =>
 simp only [cond_false]
 obtain ⟨v1, v2, v3⟩ := hv.1 rfl
 rw [At_eq, state_At_eq _ _ _ hz.st, Option.bind_some]
 refine ok_bind (Q := fun v => v = false ↔ withB t y = true) ?_ (fun v hv2 => ?_)
 ·unfold withB
  refine ok_not (fun e => ok_some (by simp [e])) (fun e => ?_)
  refine ok_nite (fun e2 => ok_some (by simp [e2])) (fun e2 => ok_some (by simp [e, e2]))
 cases v with
 | true => exact ⟨_, rfl, no (fun h => by have := hv2.2 h.g.w; simp at this)⟩
 | false =>
 simp only [cond_false]
 have hw := hv2.1 rfl
 refine ok_bind (Q := fun v => v = nxtT l a i) ?_ (fun v hv3 => ?_)
 ·rw [w64_N (n := l.length) (by omega) (by omega)]
  refine ok_ite (fun h3 => ?_) (fun h3 => ok_some ?_)
  ·obtain ⟨g, hig, hg⟩ := ok_ixN (xs := l) (i := i + 1) (by omega)
   rw [hig, Option.bind_some]
   exact ok_some (by unfold nxtT; rw [hg])
  ·have hg : l[i + 1]? = none := by rw [List.getElem?_eq_none_iff]; omega
   unfold nxtT; rw [hg]
 subst hv3
 rw [refcomes_eq t _ _ _ hz ht hp, Option.bind_some]
 refine ok_not (fun e => ⟨_, rfl, no (fun h => by rw [h.g.c] at e; simp at e)⟩) (fun e => ?_)
 obtain ⟨b1, b2⟩ := hb.2 v2
 refine ok_inl ⟨by omega, w64_N (n := l.length) (by omega) (by omega), ⟨fun h => by omega, fun h _ hh => ?_⟩, fun k h hk hh => ?_⟩
 ·rw [show i + 1 - 1 = i by omega, hy] at hh; cases hh; rfl
 ·by_cases e2 : k = i
  ·subst e2; rw [hy] at hh; cases hh; exact ⟨⟨v1, hw, e⟩, v3, b1, b2⟩
  ·exact hI k h (by omega) hh
theorem check_trace {t : api_Trace} {a : Int} {p : api_Span} (hz : Siz t) (ht : t.fThreads.length ≤ 1000000) (h1 : critical_check t a p = some 0) : trace_Check t = some 0 := by
 unfold critical_check at h1
 obtain ⟨q, h3, _⟩ := trace_Check_ok t hz ht
 rw [h3, Option.bind_some] at h1
 by_cases hq : q = 0
 ·rw [h3, hq]
 ·simp [hq] at h1
theorem Check_same (t : api_Trace) (a : Int) (p : api_Span) (l : List api_Hop) (hz : Siz t) (ht : t.fThreads.length ≤ 1000000) (hl : l.length ≤ 1000000) : ∃ r, critical_Check t a p l = some r ∧ tracebookref48_Check t a p l = some r := by
 unfold critical_Check tracebookref48_Check
 rw [fault_eq t a p hz ht]
 obtain ⟨c, h1, h2⟩ := critical_check_ok t a p hz ht
 rw [h1, Option.bind_some, Option.bind_some]
 by_cases h0 : c = 0
 rotate_left
 ·exact ⟨false, by simp [h0], by simp [h0]⟩
 subst h0
 have hpos := trace_Check_pos t hz (check_trace hz ht h1)
 by_cases hn : (l.length : Int) = 0
 ·exact ⟨false, by simp [hn], by simp [hn]⟩
 obtain ⟨f, hif, hf⟩ := ok_idx (xs := l) (i := 0) (by omega) (by omega)
 obtain ⟨g, hig, hg⟩ := ok_idx (xs := l) (i := (l.length : Int) - 1) (by omega) (by omega)
 rw [show ((l.length : Int) - 1).toNat = l.length - 1 by omega] at hg
 have hf : l[0]? = some f := hf
 obtain ⟨q1, e1, p1⟩ := crit_loop t a l hz ht hl
 obtain ⟨q2, e2, p2⟩ := ref_loop t a p l hz ht hpos hl
 rw [e1, e2, w64_of (n := (l.length : Int) - 1) (by omega), hif, hig]
 simp only [decide_true, Bool.not_true, cond_false, Option.bind_some, hn, decide_false]
 have key : (f.fSpan.fFrom = p.fFrom ∧ g.fSpan.fTo = p.fTo ∧ ∀ (i : Nat) h, l[i]? = some h → GoodH t a l i h ∧ AdjH l i h) ↔ ((∀ (i : Nat) h, l[i]? = some h → RefH t a p l i h) ∧ g.fSpan.fTo = p.fTo) := by
  constructor
  ·rintro ⟨hF, hG, hA⟩
   have up : ∀ (d : Nat) (i : Nat) h, l.length - 1 - i = d → l[i]? = some h → h.fSpan.fTo ≤ p.fTo := by
    intro d
    induction d with
    | zero =>
     intro i h hd hi
     have := lt_of_get hi
     rw [show i = l.length - 1 by omega, hg] at hi
     cases hi; omega
    | succ d ih =>
     intro i h hd hi
     have hg' : l[i + 1]? = some l[i + 1] := List.getElem?_eq_getElem (by omega)
     have := ih (i + 1) _ (by omega) hg'
     have h5 := (hA i h hi).2 _ hg'
     have h6 := (hA (i + 1) _ hg').1.v
     omega
   refine ⟨fun i h hi => ⟨(hA i h hi).1, up _ i h rfl hi, fun e => ?_, fun z hi0 hz' => ?_⟩, hG⟩
   ·subst e; rw [hf] at hi; cases hi; exact hF
   ·exact (hA (i - 1) z hz').2 h (by rw [show i - 1 + 1 = i by omega]; exact hi)
  ·rintro ⟨hR, hG⟩
   exact ⟨(hR 0 f hf).z rfl, hG, fun i h hi => ⟨(hR i h hi).g, fun z hz' => (hR (i + 1) z hz').s h (by omega) hi⟩⟩
 have r1 : Ok ((((bif !decide (f.fSpan.fFrom = p.fFrom) then some true else some (!decide (g.fSpan.fTo = p.fTo))) : Option Bool).bind fun v1 => (bif v1 then some false else (some q1).bind fun | .inl _ => some true | .inr rv => some rv))) (fun r => r = true ↔ f.fSpan.fFrom = p.fFrom ∧ g.fSpan.fTo = p.fTo ∧ ∀ (i : Nat) h, l[i]? = some h → GoodH t a l i h ∧ AdjH l i h) := by
  by_cases c1 : f.fSpan.fFrom = p.fFrom
  ·by_cases c2 : g.fSpan.fTo = p.fTo
   ·simp only [c1, c2, decide_true, Bool.not_true, cond_false, Option.bind_some, true_and]
    cases q1 with
    | inl u => exact ok_some ⟨fun _ => p1, fun _ => rfl⟩
    | inr r =>
     obtain ⟨p3, p4⟩ : r = false ∧ _ := p1
     exact ok_some ⟨fun h => by rw [p3] at h; simp at h, fun h => absurd h p4⟩
   ·simp only [c1, c2, decide_true, decide_false, Bool.not_true, Bool.not_false, cond_false, cond_true, Option.bind_some]
    exact ok_some (by simp)
  ·simp only [c1, decide_false, Bool.not_false, cond_true, Option.bind_some]
   exact ok_some (by simp)
 have r2 : Ok ((some q2).bind fun | .inl e61 => some (decide (e61 = p.fTo)) | .inr rv => some rv) (fun r => r = true ↔ (∀ (i : Nat) h, l[i]? = some h → RefH t a p l i h) ∧ g.fSpan.fTo = p.fTo) := by
  cases q2 with
  | inl e =>
   obtain ⟨p3, p4⟩ : AtH p l e l.length ∧ _ := p2
   have := p3.s g (by omega) hg
   subst this
   exact ok_some (by rw [decide_eq_true_eq]; exact ⟨fun h => ⟨p4, h⟩, fun h => h.2⟩)
  | inr r =>
   obtain ⟨p3, p4⟩ : r = false ∧ _ := p2
   exact ok_some ⟨fun h => by rw [p3] at h; simp at h, fun h => absurd h.1 p4⟩
 obtain ⟨x1, y1, z1⟩ := r1
 obtain ⟨x2, y2, z2⟩ := r2
 refine ⟨x1, y1, ?_⟩
 have : x1 = true ↔ x2 = true := z1.trans (key.trans z2.symm)
 have e : x1 = x2 := by cases x1 <;> cases x2 <;> simp at this ⊢
 rw [e]
 exact y2
theorem rows_same (l : List T46_2_int) (hl : l.length ≤ 9223372036854775807) : loop (tracebooklaw48_CriticalReads_L1 l l) 0 = some (.inl ()) := by
 have : Ok (loop (tracebooklaw48_CriticalReads_L1 l l) 0) (fun r => r = .inl ()) := by
  refine ok_upN l.length (fun _ => True) hl trivial (fun i _ h2 => ?_)
  unfold tracebooklaw48_CriticalReads_L1
  refine ok_ite (fun hi => ?_) (fun _ => ok_inr rfl)
  obtain ⟨y, hiy, hy⟩ := ok_ixN (xs := l) (i := i) (by omega)
  rw [hiy]
  simp only [Option.bind_some, decide_true, Bool.and_self, bne_self_eq_false, cond_false]
  exact ok_inl ⟨by omega, w64_N (n := l.length) (by omega) hl, trivial⟩
 obtain ⟨r, h1, h2⟩ := this
 rw [h1, h2]
theorem criticalReads_holds (t : api_Trace) (a : Int) (p : api_Span) (l : List api_Hop) (k : Int) (h : okr_api_Trace t) (h2 : ∀ y ∈ l, inI .i64 y.fThread) : tracebooklaw48_CriticalReads t a p l k = some true := by
 have hz := siz48 h
 have : Ok (tracebooklaw48_CriticalReads t a p l k) (fun b => b = true) := by
  unfold tracebooklaw48_CriticalReads
  rw [awake48]
  simp only [Option.bind_some]
  refine ok_bind (Q := fun v => v = false → t.fThreads.length ≤ 1000000 ∧ l.length ≤ 100) ?_ (fun v hv => ?_)
  ·refine ok_bind (few48 t) (fun b hb => ?_)
   refine ok_not (fun _ => ok_some (by simp)) (fun e => ok_some (fun e2 => ⟨(hb e).1, ?_⟩))
   have := of_decide_eq_false e2
   omega
  cases v with
  | true => exact ok_some rfl
  | false =>
   obtain ⟨ht, hl⟩ := hv rfl
   obtain ⟨r, c1, c2⟩ := Check_same t a p l hz ht (by omega)
   rw [Shares_p l (by omega) h2, refShares_p l (by omega), c1, c2, Total_p l k (by omega), refTotal_p l k (by omega)]
   simp only [cond_false, Option.bind_some, decide_true, bne_self_eq_false, Bool.not_true]
   rw [rows_same _ (by rw [rowsOf_len]; have := (shM_keys l l.length).2.1; omega)]
   exact ok_some rfl
 obtain ⟨r, h1, h2⟩ := this
 rw [h1, h2]
end Go.VM
