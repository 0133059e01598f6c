/- The law holds: plain mathematics on what the functions compute. -/
import Derived.Test.YtjdjjcebbjjlkaaL50B
namespace Go.VM
theorem lt_of_get {α : Type} {xs : List α} {i : Nat} {y : α} (h : xs[i]? = some y) : i < xs.length := (List.getElem?_eq_some_iff.1 h).1
end Go.VM
namespace Go.VM
def Ok {α : Type} (x : Option α) (P : α → Prop) : Prop := ∃ r, x = some r ∧ P r
def Yes {α : Type} : α → Prop := fun _ => True
def InlR {α β : Type} (A : α → Prop) (B : β → Prop) : α ⊕ β → Prop
 | .inl a => A a
 | .inr b => B b
theorem ok_some {α : Type} {P : α → Prop} {r : α} (h : P r) : Ok (some r) P := ⟨r, rfl, h⟩
theorem ok_inl {α β : Type} {A : α → Prop} {B : β → Prop} {a : α} (h : A a) : Ok (some (.inl a)) (InlR A B) := ⟨_, rfl, h⟩
theorem ok_inr {α β : Type} {A : α → Prop} {B : β → Prop} {b : β} (h : B b) : Ok (some (.inr b)) (InlR A B) := ⟨_, rfl, h⟩
theorem ok_bind {α β : Type} {x : Option α} {f : α → Option β} {Q : α → Prop} {P : β → Prop} (hx : Ok x Q) (hf : ∀ r, Q r → Ok (f r) P) : Ok (x.bind f) P := by
 obtain ⟨r, h1, h2⟩ := hx
 subst h1; exact hf r h2
theorem ok_bindS {α β γ : Type} {x : Option (α ⊕ γ)} {f : α ⊕ γ → Option β} {Q : α ⊕ γ → Prop} {P : β → Prop} (hx : Ok x Q) (hf : ∀ r, Q (.inl r) → Ok (f (.inl r)) P) (hg : ∀ r, Q (.inr r) → Ok (f (.inr r)) P) : Ok (x.bind f) P :=
 ok_bind hx (fun r => match r with | .inl a => hf a | .inr b => hg b)
theorem ok_cond {α : Type} {b : Bool} {x y : Option α} {P : α → Prop} (h1 : b = true → Ok x P) (h2 : b = false → Ok y P) : Ok (cond b x y) P := by
 cases b
 ·exact h2 rfl
 ·exact h1 rfl
theorem Ok.mono {α : Type} {x : Option α} {P Q : α → Prop} (h : Ok x P) (hq : ∀ r, P r → Q r) : Ok x Q := by
 obtain ⟨r, h1, h2⟩ := h; exact ⟨r, h1, hq r h2⟩
theorem Ok.yes {α : Type} {x : Option α} {P : α → Prop} (h : Ok x P) : Ok x Yes := h.mono (fun _ _ => trivial)
theorem ok_idx {α : Type} {xs : List α} {i : Int} (h1 : 0 ≤ i) (h2 : i < xs.length) : Ok (idx xs i) (fun y => xs[i.toNat]? = some y) := by
 obtain ⟨n, rfl⟩ := Int.eq_ofNat_of_zero_le h1
 have h3 : n < xs.length := by omega
 rw [idx_nat]
 exact ⟨xs[n], by simp [h3], by simp [h3]⟩
theorem ok_loop {S ρ : Type} {step : S → Option (S ⊕ ρ)} (Inv : S → Prop) (m : S → Nat) {Post : ρ → Prop}
  (h : ∀ s, Inv s → Ok (step s) (InlR (fun s' => Inv s' ∧ m s' < m s) Post)) {s : S} (hs : Inv s) (hm : m s < manyRounds) : Ok (loop step s) Post := by
 refine loop_inv Inv m Post (fun s hs => ?_) hs hm
 obtain ⟨r, h1, h2⟩ := h s hs
 cases r with
 | inl a => exact Or.inl ⟨a, h1, h2⟩
 | inr b => exact Or.inr ⟨b, h1, h2⟩
theorem ok_up {ρ : Type} {step : Int → Option (Int ⊕ ρ)} (n : Nat) {Post : ρ → Prop} (hn : n ≤ 9223372036854775807)
  (h : ∀ i : Int, 0 ≤ i → i ≤ n → Ok (step i) (InlR (fun a => i < n ∧ a = i + 1) Post)) : Ok (loop step 0) Post := by
 refine ok_loop (fun i : Int => 0 ≤ i ∧ i ≤ (n : Int)) (fun i : Int => ((n : Int) - i).toNat) (fun i hi => (h i hi.1 hi.2).mono ?_) ⟨by omega, by omega⟩ (by simp [manyRounds]; omega)
 rintro (a | b) hr
 ·obtain ⟨h1, rfl⟩ : i < n ∧ a = i + 1 := hr
  exact ⟨⟨by omega, by omega⟩, by omega⟩
 ·exact hr
theorem ok_yes {α : Type} {r : α} : Ok (some r) Yes := ⟨r, rfl, trivial⟩
theorem ok_inlY {α β : Type} {B : β → Prop} {a : α} : Ok (some (.inl a)) (InlR Yes B) := ⟨_, rfl, trivial⟩
theorem ok_inrY {α β : Type} {A : α → Prop} {b : β} : Ok (some (.inr b)) (InlR A Yes) := ⟨_, rfl, trivial⟩
theorem ok_next {ρ : Type} {i : Int} {n : Nat} {P : ρ → Prop} (h1 : 0 ≤ i) (h2 : i < (n : Int)) (h3 : n ≤ 9223372036854775807) : Ok (some (.inl (w64 (i + 1)))) (InlR (fun a : Int => i < (n : Int) ∧ a = i + 1) P) :=
 ok_inl ⟨h2, w64_of (by omega)⟩
theorem ok_ite {α : Type} {p : Prop} [Decidable p] {x y : Option α} {P : α → Prop} (h1 : p → Ok x P) (h2 : ¬p → Ok y P) : Ok (cond (decide p) x y) P :=
 ok_cond (fun h => h1 (of_decide_eq_true h)) (fun h => h2 (of_decide_eq_false h))
theorem ok_nite {α : Type} {p : Prop} [Decidable p] {x y : Option α} {P : α → Prop} (h1 : ¬p → Ok x P) (h2 : p → Ok y P) : Ok (cond (!decide p) x y) P := by
 by_cases h : p
 ·simpa [h] using h2 h
 ·simpa [h] using h1 h
theorem ok_not {α : Type} {b : Bool} {x y : Option α} {P : α → Prop} (h1 : b = false → Ok x P) (h2 : b = true → Ok y P) : Ok (cond (!b) x y) P := by
 cases b
 ·exact h1 rfl
 ·exact h2 rfl
theorem ok_up2 {σ ρ : Type} {step : σ × Int → Option ((σ × Int) ⊕ ρ)} (n : Nat) (Inv : σ → Int → Prop) {Post : ρ → Prop} (hn : n ≤ 9223372036854775807) {s0 : σ} (h0 : Inv s0 0)
  (h : ∀ (s : σ) (i : Int), Inv s i → 0 ≤ i → i ≤ n → Ok (step (s, i)) (InlR (fun a => i < n ∧ a.2 = i + 1 ∧ Inv a.1 (i + 1)) Post)) : Ok (loop step (s0, 0)) Post := by
 refine ok_loop (fun s : σ × Int => Inv s.1 s.2 ∧ 0 ≤ s.2 ∧ s.2 ≤ (n : Int)) (fun s : σ × Int => ((n : Int) - s.2).toNat) (fun s hi => (h s.1 s.2 hi.1 hi.2.1 hi.2.2).mono ?_) ⟨h0, by simp, by simp⟩ (by simp [manyRounds]; omega)
 rintro (⟨a, j⟩ | b) hr
 ·obtain ⟨h1, h2, h3⟩ : s.2 < n ∧ j = s.2 + 1 ∧ Inv a (s.2 + 1) := hr
  subst h2
  exact ⟨⟨h3, by simp; omega, by simp; omega⟩, by simp; omega⟩
 ·exact hr
theorem ok_upI {ρ : Type} {step : Int → Option (Int ⊕ ρ)} (n : Nat) (Inv : Int → Prop) {Post : ρ → Prop} (hn : n ≤ 9223372036854775807) (h0 : Inv 0)
  (h : ∀ i : Int, Inv i → 0 ≤ i → i ≤ n → Ok (step i) (InlR (fun a => i < n ∧ a = i + 1 ∧ Inv (i + 1)) Post)) : Ok (loop step 0) Post := by
 refine ok_loop (fun i : Int => Inv i ∧ 0 ≤ i ∧ i ≤ (n : Int)) (fun i : Int => ((n : Int) - i).toNat) (fun i hi => (h i hi.1 hi.2.1 hi.2.2).mono ?_) ⟨h0, by omega, by omega⟩ (by simp [manyRounds]; omega)
 rintro (a | b) hr
 ·obtain ⟨h1, rfl, h3⟩ : i < n ∧ a = i + 1 ∧ Inv (i + 1) := hr
  exact ⟨⟨h3, by omega, by omega⟩, by omega⟩
 ·exact hr
theorem room_ok {b n : Nat} (h1 : n * b ≤ 140737488355328) (h2 : n ≤ 9223372036854775807) : room b n = true := by
 simp only [room, Bool.and_eq_true]
 exact ⟨Nat.ble_eq_true_of_le h1, Nat.ble_eq_true_of_le h2⟩
theorem intern_letter_ok (c : Int) : Ok (intern_letter c) Yes := by
 unfold intern_letter strings_IndexByte internal_stringslite_IndexByte
 repeat' (first | (with_reducible first | exact ok_yes | exact ok_inrY | exact ok_inlY | refine ok_nite (fun _ => ?_) fun _ => ?_ | refine ok_ite (fun _ => ?_) fun _ => ?_ | refine ok_not (fun _ => ?_) fun _ => ?_ | refine ok_cond (fun _ => ?_) fun _ => ?_) | (with_reducible refine ok_next ?_ ?_ ?_ <;> (first | assumption | omega | rw [w64_of] <;> omega)) | with_reducible refine ok_bind (ok_idx (by (first | assumption | omega | rw [w64_of] <;> omega)) (by (first | assumption | omega | rw [w64_of] <;> omega))) (fun _ _ => ?_) | (with_reducible refine ok_bind (Q := Yes) ?_ fun _ _ => ?_) | dsimp only)
theorem intern_Name_ok (s : ByteArray) (h : s.size ≤ 9223372036854775807) : Ok (intern_Name s) Yes := by
 unfold intern_Name
 refine ok_bind (Q := Yes) ?_ (fun v _ => ?_)
 ·repeat' (first | (with_reducible first | exact ok_yes | exact ok_inrY | exact ok_inlY | refine ok_nite (fun _ => ?_) fun _ => ?_ | refine ok_ite (fun _ => ?_) fun _ => ?_ | refine ok_not (fun _ => ?_) fun _ => ?_ | refine ok_cond (fun _ => ?_) fun _ => ?_) | (with_reducible refine ok_next ?_ ?_ ?_ <;> (first | assumption | omega | rw [w64_of] <;> omega)) | with_reducible refine ok_bind (ok_idx (by (first | assumption | omega | rw [w64_of] <;> omega)) (by (first | assumption | omega | rw [w64_of] <;> omega))) (fun _ _ => ?_) | (with_reducible refine ok_bind (Q := Yes) ?_ fun _ _ => ?_) | dsimp only)
 refine ok_cond (fun _ => ok_some trivial) (fun _ => ?_)
 have e : s.data.toList.length = s.size := by rw [Array.length_toList]; rfl
 refine ok_bindS (Q := Yes) (ok_up s.size h fun i h1 h2 => ?_) (fun _ _ => ?_) (fun _ _ => ?_)
 ·unfold intern_Name_L1
  repeat' (first | (with_reducible first | exact ok_yes | exact ok_inrY | exact ok_inlY | refine ok_nite (fun _ => ?_) fun _ => ?_ | refine ok_ite (fun _ => ?_) fun _ => ?_ | refine ok_not (fun _ => ?_) fun _ => ?_ | refine ok_cond (fun _ => ?_) fun _ => ?_) | (with_reducible refine ok_next ?_ ?_ ?_ <;> (first | assumption | omega | rw [w64_of] <;> omega)) | with_reducible refine ok_bind (ok_idx (by (first | assumption | omega | rw [w64_of] <;> omega)) (by (first | assumption | omega | rw [w64_of] <;> omega))) (fun _ _ => ?_) | (with_reducible refine Ok.yes (ok_idx ?_ (by rw [e]; (first | assumption | omega | rw [w64_of] <;> omega))) <;> (first | assumption | omega | rw [w64_of] <;> omega)) | (with_reducible refine Ok.yes (intern_letter_ok _) <;> (first | assumption | omega | rw [w64_of] <;> omega)) | (with_reducible refine ok_bind (Q := Yes) ?_ fun _ _ => ?_) | dsimp only)
 ·repeat' (first | (with_reducible first | exact ok_yes | exact ok_inrY | exact ok_inlY | refine ok_nite (fun _ => ?_) fun _ => ?_ | refine ok_ite (fun _ => ?_) fun _ => ?_ | refine ok_not (fun _ => ?_) fun _ => ?_ | refine ok_cond (fun _ => ?_) fun _ => ?_) | (with_reducible refine ok_next ?_ ?_ ?_ <;> (first | assumption | omega | rw [w64_of] <;> omega)) | with_reducible refine ok_bind (ok_idx (by (first | assumption | omega | rw [w64_of] <;> omega)) (by (first | assumption | omega | rw [w64_of] <;> omega))) (fun _ _ => ?_) | (with_reducible refine ok_bind (Q := Yes) ?_ fun _ _ => ?_) | dsimp only)
 ·repeat' (first | (with_reducible first | exact ok_yes | exact ok_inrY | exact ok_inlY | refine ok_nite (fun _ => ?_) fun _ => ?_ | refine ok_ite (fun _ => ?_) fun _ => ?_ | refine ok_not (fun _ => ?_) fun _ => ?_ | refine ok_cond (fun _ => ?_) fun _ => ?_) | (with_reducible refine ok_next ?_ ?_ ?_ <;> (first | assumption | omega | rw [w64_of] <;> omega)) | with_reducible refine ok_bind (ok_idx (by (first | assumption | omega | rw [w64_of] <;> omega)) (by (first | assumption | omega | rw [w64_of] <;> omega))) (fun _ _ => ?_) | (with_reducible refine ok_bind (Q := Yes) ?_ fun _ _ => ?_) | dsimp only)
abbrev okN (s : ByteArray) : Prop := s.size ≤ 9223372036854775807
theorem mget_mput {κ ν : Type} [DecidableEq κ] (k k' : κ) (v : ν) : ∀ (m : List (κ × ν)), mget k (mput k' v m) = if k = k' then some v else mget k m
 | [] => by simp [mput, mget]
 | p :: r => by
  simp only [mput]
  by_cases e : k' = p.1
  ·subst e
   simp only [if_true, mget]
   by_cases e2 : k = p.1 <;> simp [e2]
  ·rw [if_neg e]
   simp only [mget]
   rw [mget_mput k k' v r]
   by_cases e2 : k = p.1
   ·subst e2
    rw [if_pos rfl, if_pos rfl, if_neg (fun h => e h.symm)]
   ·rw [if_neg e2, if_neg e2]
theorem letter_eq (y : UInt8) : intern_letter (y.toNat : Int) = tracebookref06_letter (y.toNat : Int) := by
 have h : (List.range 256).all (fun n => decide (intern_letter (n : Int) = tracebookref06_letter (n : Int))) = true := by kernel_rfl
 exact of_decide_eq_true (List.all_eq_true.1 h y.toNat (List.mem_range.2 (UInt8.toNat_lt y)))
theorem empty_iff (s : ByteArray) : s = ⟨#[]⟩ ↔ (s.size : Int) < 1 := by
 constructor
 ·intro h; subst h; decide
 ·intro h
  cases s with
  | mk a =>
   have : a.size = 0 := by
    have : (ByteArray.mk a).size = a.size := rfl
    omega
   rw [Array.eq_empty_of_size_eq_zero this]
theorem Name_eq (s : ByteArray) : intern_Name s = tracebookref06_Name s := by
 unfold intern_Name tracebookref06_Name
 have h1 : intern_Name_L1 s = tracebookref06_Name_L1 s := by
  funext i
  simp only [intern_Name_L1, tracebookref06_Name_L1, letter_eq]
 have h2 : decide (s = ⟨#[]⟩) = decide ((ByteArray.size s : Int) < 1) := decide_eq_decide.2 (empty_iff s)
 rw [h1, h2] <;> rfl
theorem less_tri : ∀ x y : List UInt8, (!(Op.bytesLess x y || decide (x = y))) = Op.bytesLess y x
 | [], [] => by simp [Op.bytesLess]
 | [], b :: y => by simp [Op.bytesLess]
 | a :: x, [] => by simp [Op.bytesLess]
 | a :: x, b :: y => by
  have ih := less_tri x y
  simp only [Op.bytesLess, List.cons.injEq]
  by_cases h1 : a < b
  ·have h2 : ¬ b < a := UInt8.lt_asymm h1
   have h3 : ¬ a = b := UInt8.ne_of_lt h1
   have h4 : ¬ b = a := fun e => h3 e.symm
   simp [h1, h2, h3, h4]
  ·by_cases h2 : a = b
   ·subst h2
    simp [h1, ← ih]
   ·have h3 : b < a := by
     rcases UInt8.lt_or_lt_of_ne h2 with h | h
     ·exact absurd h h1
     ·exact h
    have h4 : ¬ b = a := fun e => h2 e.symm
    simp [h1, h2, h3]
theorem bytes_eq (a b : ByteArray) : a.toList = b.toList ↔ a = b := by
 constructor
 ·intro h
  rw [ByteArray.toList_eq, ByteArray.toList_eq] at h
  exact Go.WideShapes.bytes_inj h
 ·intro h; rw [h]
theorem sLt_tri (a b : ByteArray) : (!(sLt a b || decide (a = b))) = sLt b a := by
 unfold sLt
 rw [← less_tri a.toList b.toList]
 simp only [bytes_eq]
theorem sLt_not {a b : ByteArray} (h : sLt a b = true) : sLt b a = false ∧ a ≠ b := by
 have h1 := sLt_tri a b
 have h2 := sLt_tri b a
 rw [h] at h1 h2
 simp at h1 h2
 exact ⟨h1, fun e => h2.2 e.symm⟩
theorem ok_up2M {σ ρ : Type} {step : σ × Int → Option ((σ × Int) ⊕ ρ)} (n : Nat) (Inv : σ → Nat → Prop) {Post : ρ → Prop} (hn : n ≤ 9223372036854775807) {s0 : σ} (h0 : Inv s0 0)
  (h : ∀ (s : σ) (i : Nat), Inv s i → i ≤ n → Ok (step (s, (i : Int))) (InlR (fun a => i < n ∧ a.2 = ((i + 1 : Nat) : Int) ∧ Inv a.1 (i + 1)) Post)) : Ok (loop step (s0, 0)) Post := by
 refine ok_up2 n (fun s i => Inv s i.toNat) hn h0 (fun s i hI h1 h2 => ?_)
 obtain ⟨k, rfl⟩ := Int.eq_ofNat_of_zero_le h1
 refine (h s k hI (by omega)).mono ?_
 rintro (⟨a, b⟩ | b) hr
 ·obtain ⟨h3, h4, h5⟩ : k < n ∧ b = ((k + 1 : Nat) : Int) ∧ Inv a (k + 1) := hr
  refine ⟨by omega, by omega, ?_⟩
  rw [show ((k : Int) + 1).toNat = k + 1 by omega]; exact h5
 ·exact hr
theorem ok_upM {ρ : Type} {step : Int → Option (Int ⊕ ρ)} (n : Nat) (Inv : Nat → Prop) {Post : ρ → Prop} (hn : n ≤ 9223372036854775807) (h0 : Inv 0)
  (h : ∀ i : Nat, Inv i → i ≤ n → Ok (step (i : Int)) (InlR (fun a => i < n ∧ a = ((i + 1 : Nat) : Int) ∧ Inv (i + 1)) Post)) : Ok (loop step 0) Post := by
 refine ok_upI n (fun i => Inv i.toNat) hn h0 (fun i hI h1 h2 => ?_)
 obtain ⟨k, rfl⟩ := Int.eq_ofNat_of_zero_le h1
 refine (h k hI (by omega)).mono ?_
 rintro (b | b) hr
 ·obtain ⟨h3, h4, h5⟩ : k < n ∧ b = ((k + 1 : Nat) : Int) ∧ Inv (k + 1) := hr
  refine ⟨by omega, by omega, ?_⟩
  rw [show ((k : Int) + 1).toNat = k + 1 by omega]; exact h5
 ·exact hr
theorem ok_ixM {α : Type} {xs : List α} {i : Nat} (h : i < xs.length) : Ok (idx xs (i : Int)) (fun y => xs[i]? = some y) := by
 rw [idx_nat]; exact ⟨xs[i], by simp [h], by simp [h]⟩
theorem w64_M {i n : Nat} (h : i < n) (hn : n ≤ 9223372036854775807) : w64 ((i : Int) + 1) = ((i + 1 : Nat) : Int) := by rw [w64_of (by omega)]; omega
def sumF (f : Nat → Int) : Nat → Int
 | 0 => 0
 | n + 1 => sumF f n + f n
theorem sumF_congr {f g : Nat → Int} : ∀ {n : Nat}, (∀ k, k < n → f k = g k) → sumF f n = sumF g n
 | 0, _ => rfl
 | n + 1, h => by simp only [sumF]; rw [sumF_congr fun k hk => h k (by omega), h n (by omega)]
theorem sumF_add (f g : Nat → Int) : ∀ n, sumF (fun k => f k + g k) n = sumF f n + sumF g n
 | 0 => rfl
 | n + 1 => by simp only [sumF, sumF_add f g n]; omega
theorem sumF_sub (f g : Nat → Int) : ∀ n, sumF (fun k => f k - g k) n = sumF f n - sumF g n
 | 0 => rfl
 | n + 1 => by simp only [sumF, sumF_sub f g n]; omega
theorem sumF_zero : ∀ n, sumF (fun _ => 0) n = 0
 | 0 => rfl
 | n + 1 => by simp only [sumF, sumF_zero n]; rfl
theorem sumF_swap (g : Nat → Nat → Int) (m : Nat) : ∀ n, sumF (fun i => sumF (fun k => g i k) m) n = sumF (fun k => sumF (fun i => g i k) n) m
 | 0 => by simp only [sumF, sumF_zero]
 | n + 1 => by
  simp only [sumF]
  rw [sumF_swap g m n, ← sumF_add]
theorem sumF_one (j : Nat) (c : Int) : ∀ n, sumF (fun i => if i = j then c else 0) n = if j < n then c else 0
 | 0 => by simp [sumF]
 | n + 1 => by
  simp only [sumF, sumF_one j c n]
  by_cases h1 : j < n
  ·have h2 : ¬ n = j := by omega
   have h3 : j < n + 1 := by omega
   simp [h1, h2, h3]
  ·by_cases h2 : n = j
   ·subst h2; simp
   ·have h3 : ¬ j < n + 1 := by omega
    simp [h1, h2, h3]
theorem sumF_bd {f : Nat → Int} {c : Int} : ∀ {n : Nat}, (∀ k, k < n → 0 ≤ f k ∧ f k ≤ c) → 0 ≤ sumF f n ∧ sumF f n ≤ n * c
 | 0, _ => by simp [sumF]
 | n + 1, h => by
  obtain ⟨h1, h2⟩ := sumF_bd (f := f) (c := c) (n := n) fun k hk => h k (by omega)
  obtain ⟨h3, h4⟩ := h n (by omega)
  simp only [sumF]
  refine ⟨by omega, ?_⟩
  have : ((n + 1 : Nat) : Int) * c = n * c + c := by rw [Int.natCast_add, Int.add_mul]; simp
  omega
inductive DescN (l : List api_Node) (j : Int) : Int → Prop
 | self : DescN l j j
 | up {a : Nat} {y : api_Node} : l[a]? = some y → DescN l j y.fParent → DescN l j (a : Int)
theorem DescN.inv {l : List api_Node} {j a : Int} (h : DescN l j a) : j = a ∨ ∃ (k : Nat) (y : api_Node), a = (k : Int) ∧ l[k]? = some y ∧ DescN l j y.fParent := by
 cases h with
 | self => exact .inl rfl
 | up hy h => exact .inr ⟨_, _, rfl, hy, h⟩
theorem DescN.step {l : List api_Node} {j : Int} {a : Nat} {y : api_Node} (hy : l[a]? = some y) (hne : j ≠ a) : DescN l j (a : Int) ↔ DescN l j y.fParent := by
 constructor
 ·intro h
  rcases h.inv with e | ⟨k, z, e, hz, h⟩
  ·exact absurd e hne
  ·have : k = a := by omega
   subst this
   rw [hy] at hz; cases hz
   exact h
 ·exact .up hy
def UpN (l : List api_Node) (n : Nat) : Prop := ∀ (j : Nat) y, j < n → l[j]? = some y → -1 ≤ y.fParent ∧ y.fParent < (j : Int)
theorem DescN.le {l : List api_Node} {n : Nat} (hu : UpN l n) {j a : Int} (h : DescN l j a) : a < n → j ≤ a := by
 induction h with
 | self => intro _; omega
 | @up a y hy _ ih =>
  intro ha
  have := hu a y (by omega) hy
  have := ih (by omega)
  omega
theorem DescN.out {l : List api_Node} {j a : Int} (h : DescN l j a) (ha : a < 0) : j = a := by
 rcases h.inv with e | ⟨k, z, e, _, _⟩
 ·exact e
 ·omega
def ParOk (l : List api_Node) (i : Nat) (y : api_Node) : Prop := y.fParent = -1 ∨ (0 ≤ y.fParent ∧ DescN l y.fParent ((i : Int) - 1))
theorem walk_ok {l : List api_Node} {i : Nat} (hi : i < l.length) (hl : l.length ≤ 2000) (hu : UpN l i) (y : api_Node) : Ok (loop (flame_order_L1 l y) ((i : Int) - 1)) (fun e => y.fParent = e ↔ ParOk l i y) := by
 refine ok_loop (fun s : Int => -1 ≤ s ∧ s < i ∧ (0 ≤ y.fParent → (DescN l y.fParent s ↔ DescN l y.fParent ((i : Int) - 1)))) (fun s : Int => (s + 1).toNat) (fun s hs => ?_) ⟨by omega, by omega, fun _ => Iff.rfl⟩ (by simp [manyRounds]; omega)
 obtain ⟨h1, h2, h3⟩ := hs
 unfold flame_order_L1
 refine ok_bind (Q := fun v => v = true ↔ 0 ≤ s ∧ s ≠ y.fParent) ?_ (fun v hv => ?_)
 ·by_cases g1 : 0 ≤ s <;> by_cases g2 : s = y.fParent <;> simp [g1, g2, Ok]
 refine ok_cond (fun e => ?_) (fun e => ok_inr ?_)
 ·obtain ⟨g1, g2⟩ := hv.1 e
  obtain ⟨k, rfl⟩ := Int.eq_ofNat_of_zero_le g1
  refine ok_bind (ok_ixM (by omega)) (fun z hz => ?_)
  have := hu k z (by omega) hz
  exact ok_inl ⟨⟨by omega, by omega, fun h0 => (DescN.step hz (fun e => g2 e.symm)).symm.trans (h3 h0)⟩, by omega⟩
 ·have hn : ¬ (0 ≤ s ∧ s ≠ y.fParent) := fun h => by have := hv.2 h; rw [e] at this; simp at this
  by_cases g1 : 0 ≤ s
  ·have g2 : s = y.fParent := Decidable.byContradiction fun h => hn ⟨g1, h⟩
   subst g2
   exact ⟨fun _ => .inr ⟨g1, (h3 g1).1 .self⟩, fun _ => rfl⟩
  ·have e1 : s = -1 := by omega
   subst e1
   constructor
   ·intro h; exact .inl h
   ·rintro (h | ⟨h0, hd⟩)
    ·exact h
    ·have := ((h3 h0).2 hd).out (by omega); exact this
theorem aboveN_ok {l : List api_Node} {i : Nat} (hi : i < l.length) (hl : l.length ≤ 2000) (hu : UpN l i) (a : Int) (ha : 0 ≤ a) : Ok (tracebookref50_above l a ((i : Int) - 1)) (fun b => b = true ↔ DescN l a ((i : Int) - 1)) := by
 unfold tracebookref50_above
 refine ok_bind (Q := fun e => e = a ↔ DescN l a ((i : Int) - 1)) (ok_loop (fun s : Int => -1 ≤ s ∧ s < i ∧ (DescN l a s ↔ DescN l a ((i : Int) - 1))) (fun s : Int => (s + 1).toNat) (fun s hs => ?_) ⟨by omega, by omega, Iff.rfl⟩ (by simp [manyRounds]; omega)) (fun e he => ok_some (by rw [decide_eq_true_eq]; exact he))
 obtain ⟨h1, h2, h3⟩ := hs
 unfold tracebookref50_above_L1
 refine ok_bind (Q := fun v => v = true ↔ 0 ≤ s ∧ s ≠ a) ?_ (fun v hv => ?_)
 ·by_cases g1 : 0 ≤ s <;> by_cases g2 : s = a <;> simp [g1, g2, Ok]
 refine ok_cond (fun e => ?_) (fun e => ok_inr ?_)
 ·obtain ⟨g1, g2⟩ := hv.1 e
  obtain ⟨k, rfl⟩ := Int.eq_ofNat_of_zero_le g1
  refine ok_bind (ok_ixM (by omega)) (fun z hz => ?_)
  have := hu k z (by omega) hz
  exact ok_inl ⟨⟨by omega, by omega, (DescN.step hz (fun e => g2 e.symm)).symm.trans h3⟩, by omega⟩
 ·have hn : ¬ (0 ≤ s ∧ s ≠ a) := fun h => by have := hv.2 h; rw [e] at this; simp at this
  by_cases g1 : 0 ≤ s
  ·have g2 : s = a := Decidable.byContradiction fun h => hn ⟨g1, h⟩
   subst g2
   exact ⟨fun _ => h3.1 .self, fun _ => rfl⟩
  ·exact ⟨fun h => by omega, fun hd => by have := (h3.2 hd).out (by omega); omega⟩
def lastN (l : List api_Node) (p : Int) : Nat → Option ByteArray
 | 0 => none
 | n + 1 => match l[n]? with
  | some z => if z.fParent = p then some z.fName else lastN l p n
  | none => lastN l p n
def BadN (l : List api_Node) (i : Nat) (y : api_Node) : Prop := ∃ s, lastN l y.fParent i = some s ∧ sLt s y.fName = false
def NodeR (l : List api_Node) (i : Nat) (y : api_Node) (c : Int) : Prop := (c = 10 ∧ ¬ ParOk l i y) ∨ (c = 11 ∧ ParOk l i y ∧ BadN l i y) ∨ (c = 0 ∧ ParOk l i y ∧ ¬ BadN l i y)
def FormsV (l : List api_Node) (v : Int) : Prop := (v = 0 ∧ ∀ (i : Nat) y, l[i]? = some y → NodeR l i y 0) ∨ (v ≠ 0 ∧ ∃ (j : Nat) (y : api_Node), l[j]? = some y ∧ (∀ (k : Nat) z, k < j → l[k]? = some z → NodeR l k z 0) ∧ NodeR l j y v)
theorem NodeR.det {l : List api_Node} {i : Nat} {y : api_Node} {c d : Int} (h : NodeR l i y c) (h' : NodeR l i y d) : c = d := by
 rcases h with ⟨rfl, h1⟩ | ⟨rfl, h1, h2⟩ | ⟨rfl, h1, h2⟩ <;> rcases h' with ⟨rfl, g1⟩ | ⟨rfl, g1, g2⟩ | ⟨rfl, g1, g2⟩ <;> first | rfl | exact absurd h1 g1 | exact absurd g1 h1 | exact absurd h2 g2 | exact absurd g2 h2
theorem FormsV.det {l : List api_Node} {v w : Int} (h : FormsV l v) (h' : FormsV l w) : v = w := by
 rcases h with ⟨rfl, h1⟩ | ⟨h0, j, y, hy, h1, h2⟩ <;> rcases h' with ⟨rfl, g1⟩ | ⟨g0, k, z, hz, g1, g2⟩
 ·rfl
 ·exact (h1 k z hz).det g2
 ·exact h2.det (g1 j y hy)
 ·rcases Nat.lt_trichotomy j k with e | e | e
  ·exact absurd (h2.det (g1 j y e hy)) h0
  ·subst e; rw [hy] at hz; cases hz; exact h2.det g2
  ·exact absurd (g2.det (h1 k z e hz)) g0
theorem UpN.of {l : List api_Node} {n : Nat} (h : ∀ (k : Nat) z, k < n → l[k]? = some z → NodeR l k z 0) : UpN l n := by
 intro j
 induction j using Nat.strongRecOn with
 | _ j ih =>
  intro y hj hy
  have hu : UpN l j := fun k z hk hz => ih k hk z (by omega) hz
  have hp : ParOk l j y := by
   rcases h j y hj hy with ⟨e, _⟩ | ⟨e, _⟩ | ⟨_, h1, _⟩
   ·omega
   ·omega
   ·exact h1
  rcases hp with e | ⟨e, hd⟩
  ·omega
  ·have := hd.le hu (by omega)
   omega
theorem order_v (l : List api_Node) (hl : l.length ≤ 2000) : Ok (flame_order l) (FormsV l) := by
 unfold flame_order
 refine ok_bindS (Q := InlR (fun _ => ∀ (k : Nat) z, k < l.length → l[k]? = some z → NodeR l k z 0) (fun v => v ≠ 0 ∧ ∃ (j : Nat) (y : api_Node), l[j]? = some y ∧ (∀ (k : Nat) z, k < j → l[k]? = some z → NodeR l k z 0) ∧ NodeR l j y v)) (ok_up2M l.length (fun (m : List (Int × ByteArray)) n => (∀ p, mget p m = lastN l p n) ∧ ∀ (k : Nat) z, k < n → l[k]? = some z → NodeR l k z 0) (by omega) ⟨fun p => rfl, fun k z hk => by omega⟩ (fun m i hI h2 => ?_)) (fun _ hq => ok_some (.inl ⟨rfl, fun i y hy => hq i y (lt_of_get hy) hy⟩)) (fun r hr => ok_some (.inr hr))
 obtain ⟨hm, hN⟩ := hI
 unfold flame_order_L2
 dsimp only
 refine ok_ite (fun hi => ?_) (fun hi => ok_inr (fun k z hk hz => hN k z (by omega) hz))
 refine ok_bind (ok_ixM (by omega)) (fun y hy => ?_)
 rw [show w64 ((i : Int) - 1) = (i : Int) - 1 from w64_of (by omega)]
 refine ok_bind (walk_ok (by omega) hl (UpN.of hN) y) (fun e he => ?_)
 refine ok_nite (fun hne => ok_inr ⟨by omega, i, y, hy, hN, .inl ⟨rfl, fun hp => hne (he.2 hp)⟩⟩) (fun heq => ?_)
 have hp := he.1 heq
 refine ok_bind (Q := fun v => v = true ↔ BadN l i y) ?_ (fun v hv => ?_)
 ·rw [hm]
  unfold BadN
  cases hL : lastN l y.fParent i with
  | none => exact ok_some ⟨fun h => by simp at h, fun ⟨s, h, _⟩ => by simp at h⟩
  | some s =>
   simp only [Option.isSome_some, cond_true, Option.getD_some]
   refine ok_some ?_
   have ht := sLt_tri y.fName s
   constructor
   ·intro h
    refine ⟨s, rfl, ?_⟩
    rw [← ht, h]; rfl
   ·rintro ⟨s', e, h⟩
    cases e
    rw [← ht] at h
    cases hb : (sLt y.fName s || decide (y.fName = s)) with
    | true => rfl
    | false => rw [hb] at h; simp at h
 refine ok_cond (fun e => ok_inr ⟨by omega, i, y, hy, hN, .inr (.inl ⟨rfl, hp, hv.1 e⟩)⟩) (fun e => ?_)
 rw [w64_M (n := l.length) (by omega) (by omega)]
 refine ok_inl ⟨by omega, rfl, fun p => ?_, fun k z hk hz => ?_⟩
 ·simp only
  rw [mget_mput]
  simp only [lastN, hy, hm]
  by_cases e : y.fParent = p
  ·simp [e]
  ·have : ¬ p = y.fParent := fun h => e h.symm
   simp [e, this]
 ·by_cases e2 : k = i
  ·subst e2; rw [hy] at hz; cases hz
   exact .inr (.inr ⟨rfl, hp, fun h => by rw [hv.2 h] at e; simp at e⟩)
  ·exact hN k z (by omega) hz
theorem forms_v (l : List api_Node) (hl : l.length ≤ 2000) : Ok (tracebookref50_forms l) (FormsV l) := by
 unfold tracebookref50_forms
 refine ok_bindS (Q := InlR (fun _ => ∀ (k : Nat) z, k < l.length → l[k]? = some z → NodeR l k z 0) (fun v => v ≠ 0 ∧ ∃ (j : Nat) (y : api_Node), l[j]? = some y ∧ (∀ (k : Nat) z, k < j → l[k]? = some z → NodeR l k z 0) ∧ NodeR l j y v)) (ok_upM l.length (fun n => ∀ (k : Nat) z, k < n → l[k]? = some z → NodeR l k z 0) (by omega) (fun k z hk => by omega) (fun i hN h2 => ?_)) (fun _ hq => ok_some (.inl ⟨rfl, fun i y hy => hq i y (lt_of_get hy) hy⟩)) (fun r hr => ok_some (.inr hr))
 unfold tracebookref50_forms_L2
 refine ok_ite (fun hi => ?_) (fun hi => ok_inr (fun k z hk hz => hN k z (by omega) hz))
 refine ok_bind (ok_ixM (by omega)) (fun y hy => ?_)
 have hu := UpN.of hN
 rw [show w64 ((i : Int) - 1) = (i : Int) - 1 from w64_of (by omega)]
 refine ok_bind (Q := fun v => v = false ↔ ParOk l i y) ?_ (fun v hv => ?_)
 ·refine ok_ite (fun g => ok_some ?_) (fun g1 => ?_)
  ·refine ⟨fun h => by simp at h, fun h => ?_⟩
   rcases h with h | h <;> omega
  refine ok_ite (fun g => ok_some ?_) (fun g2 => ?_)
  ·refine ⟨fun h => by simp at h, fun h => ?_⟩
   rcases h with h | ⟨h, hd⟩
   ·omega
   ·have := hd.le hu (by omega); omega
  refine ok_ite (fun g3 => ?_) (fun g3 => ok_some ⟨fun _ => .inl (by omega), fun _ => rfl⟩)
  refine ok_bind (aboveN_ok (by omega) hl hu y.fParent g3) (fun b hb => ok_some ?_)
  constructor
  ·intro h
   exact .inr ⟨g3, hb.1 (by simpa using h)⟩
  ·rintro (h | ⟨_, hd⟩)
   ·omega
   ·simpa using hb.2 hd
 refine ok_cond (fun e => ok_inr ⟨by omega, i, y, hy, hN, .inl ⟨rfl, fun hp => by rw [hv.2 hp] at e; simp at e⟩⟩) (fun e => ?_)
 have hp := hv.1 e
 refine ok_bind (Q := fun e : Int => -1 ≤ e ∧ e < i ∧ ((e = -1 ∧ lastN l y.fParent i = none) ∨ ∃ (k : Nat) (z : api_Node), e = (k : Int) ∧ l[k]? = some z ∧ lastN l y.fParent i = some z.fName)) (ok_loop (fun s : Int => -1 ≤ s ∧ s < i ∧ lastN l y.fParent i = lastN l y.fParent (s + 1).toNat) (fun s : Int => (s + 1).toNat) (fun s hs => ?_) ⟨by omega, by omega, by rw [show ((i : Int) - 1 + 1).toNat = i by omega]⟩ (by simp [manyRounds]; omega)) (fun q hq => ?_)
 ·obtain ⟨k1, k2, k3⟩ := hs
  unfold tracebookref50_forms_L1
  by_cases k0 : 0 ≤ s
  ·obtain ⟨k, rfl⟩ := Int.eq_ofNat_of_zero_le k0
   simp only [k0, decide_true, cond_true]
   obtain ⟨z, hz⟩ : ∃ z, l[k]? = some z := ⟨l[k]'(by omega), List.getElem?_eq_getElem (by omega)⟩
   rw [idx_nat, hz]
   simp only [Option.bind_some]
   have hk3 : lastN l y.fParent i = if z.fParent = y.fParent then some z.fName else lastN l y.fParent k := by
    rw [k3, show ((k : Int) + 1).toNat = k + 1 by omega]
    simp only [lastN, hz]
   by_cases hq : z.fParent = y.fParent
   ·simp only [hq, decide_true, Bool.not_true, cond_false]
    exact ok_inr ⟨by omega, by omega, .inr ⟨k, z, rfl, hz, by rw [hk3, if_pos hq]⟩⟩
   ·simp only [hq, decide_false, Bool.not_false, cond_true]
    rw [show w64 ((k : Int) - 1) = (k : Int) - 1 from w64_of (by omega)]
    exact ok_inl ⟨⟨by omega, by omega, by rw [hk3, if_neg hq]; congr 1; omega⟩, by omega⟩
  ·simp only [k0, decide_false, cond_false, Option.bind_some]
   have : s = -1 := by omega
   subst this
   exact ok_inr ⟨by omega, by omega, .inl ⟨rfl, by rw [k3]; rfl⟩⟩
 obtain ⟨q1, q2, q3⟩ := hq
 refine ok_bind (Q := fun v => v = true ↔ BadN l i y) ?_ (fun v hv => ?_)
 ·unfold BadN
  rcases q3 with ⟨rfl, hL⟩ | ⟨k, z, rfl, hz, hL⟩
  ·rw [hL]
   exact ok_some ⟨fun h => by simp at h, fun ⟨s, h, _⟩ => by simp at h⟩
  ·rw [hL]
   have k0 : (0 : Int) ≤ (k : Int) := by omega
   simp only [k0, decide_true, cond_true]
   rw [idx_nat, hz, idx_nat, hy]
   simp only [Option.bind_some]
   refine ok_some ⟨fun h => ⟨_, rfl, by simpa using h⟩, fun ⟨s, e, h⟩ => ?_⟩
   cases e
   simp [h]
 refine ok_cond (fun e => ok_inr ⟨by omega, i, y, hy, hN, .inr (.inl ⟨rfl, hp, hv.1 e⟩)⟩) (fun e => ?_)
 rw [w64_M (n := l.length) (by omega) (by omega)]
 refine ok_inl ⟨by omega, rfl, fun k z hk hz => ?_⟩
 by_cases e2 : k = i
 ·subst e2; rw [hy] at hz; cases hz
  exact .inr (.inr ⟨rfl, hp, fun h => by rw [hv.2 h] at e; simp at e⟩)
 ·exact hN k z (by omega) hz
def selfN (l : List api_Node) (k : Nat) : Int := match l[k]? with | some y => y.fSelf | none => 0
def cntN (l : List api_Node) (k : Nat) : Int := match l[k]? with | some y => y.fCount | none => 0
theorem selfN_eq {l : List api_Node} {k : Nat} {y : api_Node} (h : l[k]? = some y) : selfN l k = y.fSelf := by simp [selfN, h]
theorem cntN_eq {l : List api_Node} {k : Nat} {y : api_Node} (h : l[k]? = some y) : cntN l k = y.fCount := by simp [cntN, h]
def NumOk (y : api_Node) : Prop := intern_Name y.fName = some 0 ∧ 0 ≤ y.fSelf ∧ y.fSelf ≤ 100000000000000 ∧ 0 ≤ y.fCount ∧ y.fCount ≤ 20000 ∧ (y.fCount = 0 → y.fSelf = 0)
structure GoodR (l : List api_Node) : Prop where
 num : ∀ (k : Nat) y, l[k]? = some y → NumOk y
 self : sumF (selfN l) l.length ≤ 100000000000000
 cnt : sumF (cntN l) l.length ≤ 20000
theorem ranges_v (l : List api_Node) (hl : l.length ≤ 2000) (hn : ∀ x ∈ l, okN x.fName) : Ok (flame_ranges l) (fun r => r = 0 ↔ GoodR l) := by
 unfold flame_ranges
 refine ok_bindS (Q := InlR (fun e => (∀ (k : Nat) y, l[k]? = some y → NumOk y) ∧ e.1 = sumF (selfN l) l.length ∧ e.2 = sumF (cntN l) l.length) (fun r => r ≠ 0 ∧ ¬ GoodR l)) (ok_loop (fun s : Int × Int × Int => ∃ n : Nat, s.2.2 = (n : Int) ∧ n ≤ l.length ∧ (∀ (k : Nat) y, k < n → l[k]? = some y → NumOk y) ∧ s.1 = sumF (selfN l) n ∧ s.2.1 = sumF (cntN l) n) (fun s => ((l.length : Int) - s.2.2).toNat) (fun s hs => ?_) ⟨0, rfl, by omega, fun k y h => by omega, rfl, rfl⟩ (by simp [manyRounds]; omega)) (fun e he => ?_) (fun r hr => ok_some ⟨fun e => absurd e hr.1, fun g => absurd g hr.2⟩)
 ·obtain ⟨a, b, c⟩ := s
  obtain ⟨n, h1, h2, h3, h4, h5⟩ := hs
  simp only at h1 h4 h5
  subst h1
  unfold flame_ranges_L1
  dsimp only
  have hb1 := sumF_bd (f := selfN l) (c := 100000000000000) (n := n) (fun k hk => by
   obtain ⟨y, hy⟩ : ∃ y, l[k]? = some y := ⟨l[k]'(by omega), List.getElem?_eq_getElem (by omega)⟩
   have := h3 k y hk hy
   rw [selfN_eq hy]; exact ⟨this.2.1, this.2.2.1⟩)
  have hb2 := sumF_bd (f := cntN l) (c := 20000) (n := n) (fun k hk => by
   obtain ⟨y, hy⟩ : ∃ y, l[k]? = some y := ⟨l[k]'(by omega), List.getElem?_eq_getElem (by omega)⟩
   have := h3 k y hk hy
   rw [cntN_eq hy]; exact ⟨this.2.2.2.1, this.2.2.2.2.1⟩)
  refine ok_ite (fun hi => ?_) (fun hi => ?_)
  ·refine ok_bind (ok_ixM (by omega)) (fun y hy => ?_)
   obtain ⟨r, hr, _⟩ := intern_Name_ok y.fName (hn y (List.mem_of_getElem? hy))
   rw [hr, Option.bind_some]
   refine ok_nite (fun h0 => ok_inr ⟨h0, fun g => ?_⟩) (fun h0 => ?_)
   ·have := (g.num n y hy).1
    rw [hr] at this; exact h0 (Option.some.inj this)
   subst h0
   refine ok_bind (Q := fun v => v = false ↔ NumOk y) ?_ (fun v hv => ?_)
   ·unfold NumOk
    by_cases g1 : y.fSelf < 0 <;> by_cases g2 : 100000000000000 < y.fSelf <;> by_cases g3 : y.fCount < 0 <;> by_cases g4 : 20000 < y.fCount <;> by_cases g5 : y.fCount = 0 <;> by_cases g6 : y.fSelf = 0 <;> simp [g1, g2, g3, g4, g5, g6, Ok, hr] <;> omega
   refine ok_cond (fun e => ok_inr ⟨show (2 : Int) ≠ 0 by omega, fun g => by rw [hv.2 (g.num n y hy)] at e; simp at e⟩) (fun e => ?_)
   have hN := hv.1 e
   obtain ⟨_, k1, k2, k3, k4, _⟩ := hN
   rw [w64_of (by omega), w64_of (by omega), w64_of (by omega)]
   refine ok_inl ⟨⟨n + 1, by simp only; omega, by omega, fun k z hk hz => ?_, ?_, ?_⟩, by simp only; omega⟩
   ·by_cases e2 : k = n
    ·subst e2; rw [hy] at hz; cases hz; exact hv.1 e
    ·exact h3 k z (by omega) hz
   ·simp only [sumF, selfN_eq hy]; omega
   ·simp only [sumF, cntN_eq hy]; omega
  ·have : n = l.length := by omega
   subst this
   exact ok_inr ⟨fun k y hy => h3 k y (lt_of_get hy) hy, h4, h5⟩
 ·obtain ⟨e1, e2⟩ := e
  obtain ⟨h1, h2, h3⟩ := he
  simp only at h2 h3
  subst h2; subst h3
  dsimp only
  refine ok_bind (Q := fun v => v = false ↔ GoodR l) ?_ (fun v hv => ?_)
  ·refine ok_ite (fun g => ok_some ⟨fun h => by simp at h, fun h => by have := h.self; omega⟩) (fun g => ok_some ⟨fun h => ⟨h1, by omega, by have := of_decide_eq_false h; omega⟩, fun h => decide_eq_false (by have := h.cnt; omega)⟩)
  refine ok_cond (fun e => ok_some ⟨fun h => by omega, fun g => by rw [hv.2 g] at e; simp at e⟩) (fun e => ok_some ⟨fun _ => hv.1 e, fun _ => rfl⟩)
theorem ranges_eq (l : List api_Node) : flame_ranges l = tracebookref50_ranges l := by
 unfold flame_ranges tracebookref50_ranges
 have : flame_ranges_L1 l = tracebookref50_ranges_L1 l := by
  funext s
  obtain ⟨a, b, c⟩ := s
  unfold flame_ranges_L1 tracebookref50_ranges_L1
  simp only [← Name_eq]
 rw [this]
def isKid (l : List api_Node) (j m : Nat) : Bool := match l[m]? with | some z => decide (z.fParent = (j : Int)) | none => false
def kidS (l : List api_Node) (g : Nat → Int) (n j : Nat) : Int := sumF (fun m => if n ≤ m ∧ isKid l j m = true then g m else 0) l.length
def tg (t : List Int) (j : Nat) : Int := (t[j]?).getD 0
def leafP (l : List api_Node) (j : Nat) : Prop := ∀ z, l[j + 1]? = some z → z.fParent ≠ (j : Int)
structure Tots (l : List api_Node) (t : List Int) (lf : List Bool) (n : Nat) : Prop where
 tl : t.length = l.length
 ll : lf.length = l.length
 sum : ∀ j, j < l.length → tg t j = (if n ≤ j then selfN l j else 0) + kidS l (tg t) n j
 pos : ∀ j, 0 ≤ tg t j
 pend : sumF (tg t) n + sumF (selfN l) n ≤ sumF (selfN l) l.length
 bd : ∀ j, tg t j ≤ 100000000000000
 leaf : ∀ j b, n ≤ j → lf[j]? = some b → (b = true ↔ leafP l j)
theorem tg_set (t : List Int) (i j : Nat) (v : Int) (hi : i < t.length) : tg (t.set i v) j = if j = i then v else tg t j := by
 unfold tg
 rw [List.getElem?_set]
 by_cases e : i = j
 ·subst e; simp [hi]
 ·have : ¬ j = i := fun h => e h.symm
  simp [e, this]
theorem kid_lt {l : List api_Node} (hu : UpN l l.length) {j m : Nat} (h : isKid l j m = true) : j < m ∧ m < l.length := by
 unfold isKid at h
 split at h
 ·rename_i z hz
  have := hu m z (lt_of_get hz) hz
  have h2 := of_decide_eq_true h
  exact ⟨by omega, lt_of_get hz⟩
 ·simp at h
theorem sumF_ge {f : Nat → Int} (hf : ∀ k, 0 ≤ f k) : ∀ {n j : Nat}, j < n → f j ≤ sumF f n
 | 0, j, h => by omega
 | n + 1, j, h => by
  simp only [sumF]
  have h0 : 0 ≤ sumF f n := by
   have : ∀ n, 0 ≤ sumF f n := by
    intro n
    induction n with
    | zero => simp [sumF]
    | succ n ih => have := hf n; simp only [sumF]; omega
   exact this n
  by_cases e : j = n
  ·subst e; omega
  ·have := sumF_ge hf (n := n) (j := j) (by omega)
   have := hf n
   omega
theorem tots_step {l : List api_Node} (hl : l.length ≤ 2000) (hg : GoodR l) (hu : UpN l l.length) {t : List Int} {lf : List Bool} {a : Nat} {y : api_Node} (hy : l[a]? = some y) (H : Tots l t lf (a + 1)) {b : Bool} (hb : b = true ↔ leafP l a)
  {t' : List Int} (ht : t'.length = l.length) (h1 : ∀ j, tg t' j = if j = a then tg t a + y.fSelf else if (j : Int) = y.fParent then tg t j + (tg t a + y.fSelf) else tg t j) : Tots l t' (lf.set a b) a := by
 have hal := lt_of_get hy
 obtain ⟨_, s0, s1, _, _, _⟩ := hg.num a y hy
 have hp := hu a y hal hy
 have hself : selfN l a = y.fSelf := selfN_eq hy
 have hta := H.pos a
 have hT : tg t a + y.fSelf ≤ 100000000000000 := by
  have h2 := H.pend
  simp only [sumF] at h2
  have h3 : 0 ≤ sumF (tg t) a := by
   have : ∀ n, 0 ≤ sumF (tg t) n := by
    intro n
    induction n with
    | zero => simp [sumF]
    | succ n ih => have := H.pos n; simp only [sumF]; omega
   exact this a
  have h4 : 0 ≤ sumF (selfN l) a := by
   refine (sumF_bd (c := 100000000000000) (fun k hk => ?_)).1
   obtain ⟨z, hz⟩ : ∃ z, l[k]? = some z := ⟨l[k]'(by omega), List.getElem?_eq_getElem (by omega)⟩
   have := hg.num k z hz
   rw [selfN_eq hz]; exact ⟨this.2.1, this.2.2.1⟩
  have := hg.self
  omega
 have hk : ∀ j, j < l.length → kidS l (tg t') a j = kidS l (tg t) (a + 1) j + if (j : Int) = y.fParent then tg t a + y.fSelf else 0 := by
  intro j hj
  unfold kidS
  have : ∀ m, (if a ≤ m ∧ isKid l j m = true then tg t' m else 0) = (if a + 1 ≤ m ∧ isKid l j m = true then tg t m else 0) + if m = a then (if (j : Int) = y.fParent then tg t a + y.fSelf else 0) else 0 := by
   intro m
   by_cases e : m = a
   ·subst e
    have n1 : ¬ m + 1 ≤ m := by omega
    have hkid : isKid l j m = decide (y.fParent = (j : Int)) := by unfold isKid; rw [hy]
    rw [hkid, h1 m]
    by_cases e2 : y.fParent = (j : Int)
    ·simp [n1, e2]
    ·have e3 : ¬ (j : Int) = y.fParent := fun h => e2 h.symm
     simp [n1, e2, e3]
   ·have n1 : (a ≤ m) ↔ (a + 1 ≤ m) := by omega
    simp only [n1, e, if_false, Int.add_zero]
    by_cases c : a + 1 ≤ m ∧ isKid l j m = true
    ·rw [if_pos c, if_pos c, h1 m, if_neg e]
     have : ¬ (m : Int) = y.fParent := by omega
     rw [if_neg this]
    ·rw [if_neg c, if_neg c]
  rw [sumF_congr (fun m _ => this m), sumF_add, sumF_one]
  simp [hal]
 refine ⟨ht, by simp [H.ll], fun j hj => ?_, fun j => ?_, ?_, fun j => ?_, fun j c hj hc => ?_⟩
 ·rw [hk j hj, h1 j]
  have hs := H.sum j hj
  by_cases e : j = a
  ·subst e
   have n1 : ¬ j + 1 ≤ j := by omega
   have n2 : ¬ (j : Int) = y.fParent := by omega
   rw [if_neg n1] at hs
   simp only [n2, if_true, if_false, Nat.le_refl, hself]
   omega
  ·rw [if_neg e]
   by_cases e2 : (j : Int) = y.fParent
   ·have n1 : ¬ a ≤ j := by omega
    have n2 : ¬ a + 1 ≤ j := by omega
    rw [if_neg n2] at hs
    simp only [e2, if_true, n1, if_false]
    omega
   ·have n1 : (a + 1 ≤ j) ↔ (a ≤ j) := by omega
    simp only [n1] at hs
    simp only [e2, if_false]
    omega
 ·rw [h1 j]
  have := H.pos j
  split
  ·omega
  ·split <;> omega
 ·have h2 := H.pend
  simp only [sumF, hself] at h2
  have : sumF (tg t') a = sumF (tg t) a + (if 0 ≤ y.fParent then tg t a + y.fSelf else 0) := by
   by_cases e : 0 ≤ y.fParent
   ·obtain ⟨p, hpe⟩ := Int.eq_ofNat_of_zero_le e
    have key : ∀ n, n ≤ a → sumF (tg t') n = sumF (tg t) n + if p < n then tg t a + y.fSelf else 0 := by
     intro n hn
     have hc : sumF (tg t') n = sumF (fun k => tg t k + if k = p then tg t a + y.fSelf else 0) n := sumF_congr fun k hk => by
      rw [h1 k, if_neg (by omega)]
      by_cases e2 : k = p
      ·subst e2
       simp [hpe]
      ·have : ¬ (k : Int) = y.fParent := by omega
       simp [this, e2]
     rw [hc, sumF_add, sumF_one]
    rw [key a (Nat.le_refl _), if_pos (by omega), if_pos e]
   ·rw [if_neg e]
    rw [sumF_congr (g := tg t) (fun k hk => ?_)]
    ·omega
    ·rw [h1 k, if_neg (by omega), if_neg (by omega)]
  rw [this]
  split <;> omega
 ·rw [h1 j]
  have hbd := H.bd j
  split
  ·omega
  ·split
   ·rename_i e1 e2
    have h2 := H.pend
    simp only [sumF, hself] at h2
    have h3 := sumF_ge H.pos (n := a) (j := j) (by omega)
    have h4 : 0 ≤ sumF (selfN l) a := by
     refine (sumF_bd (c := 100000000000000) (fun k hk => ?_)).1
     obtain ⟨z, hz⟩ : ∃ z, l[k]? = some z := ⟨l[k]'(by omega), List.getElem?_eq_getElem (by omega)⟩
     have := hg.num k z hz
     rw [selfN_eq hz]; exact ⟨this.2.1, this.2.2.1⟩
    have := hg.self
    omega
   ·exact hbd
 ·rw [List.getElem?_set] at hc
  by_cases e : a = j
  ·subst e
   simp [H.ll, hal] at hc
   subst hc
   exact hb
  ·rw [if_neg e] at hc
   exact H.leaf j c (by omega) hc
theorem idx_tg {t : List Int} {i : Nat} (h : i < t.length) : idx t (i : Int) = some (tg t i) := by
 rw [idx_nat, List.getElem?_eq_getElem h]
 simp [tg, h]
theorem tots_ok (l : List api_Node) (hl : l.length ≤ 2000) (hg : GoodR l) (hu : UpN l l.length) :
  Ok (loop (flame_Check_L2 l) ((List.replicate (Int.toNat (List.length l : Int)) 0), (List.replicate (Int.toNat (List.length l : Int)) false), (w64 ((List.length l : Int) - 1)))) (fun e => Tots l e.1 e.2 0) := by
 rw [show w64 ((l.length : Int) - 1) = (l.length : Int) - 1 from w64_of (by omega)]
 have hself0 : 0 ≤ sumF (selfN l) l.length := by
  refine (sumF_bd (c := 100000000000000) (fun k hk => ?_)).1
  obtain ⟨z, hz⟩ : ∃ z, l[k]? = some z := ⟨l[k]'(by omega), List.getElem?_eq_getElem (by omega)⟩
  have := hg.num k z hz
  rw [selfN_eq hz]; exact ⟨this.2.1, this.2.2.1⟩
 have tz : ∀ j, tg (List.replicate (Int.toNat (List.length l : Int)) 0) j = 0 := by
  intro j
  unfold tg
  rw [List.getElem?_replicate]
  split <;> rfl
 refine ok_loop (fun s : List Int × List Bool × Int => -1 ≤ s.2.2 ∧ s.2.2 < l.length ∧ Tots l s.1 s.2.1 (s.2.2 + 1).toNat) (fun s => (s.2.2 + 1).toNat) (fun s hs => ?_) ⟨by simp only; omega, by simp only; omega, ?_⟩ (by simp [manyRounds]; omega)
 ·obtain ⟨t, lf, i⟩ := s
  obtain ⟨h1, h2, H⟩ := hs
  simp only at h1 h2 H
  unfold flame_Check_L2
  dsimp only
  refine ok_ite (fun h0 => ?_) (fun h0 => ok_inr ?_)
  ·obtain ⟨a, rfl⟩ := Int.eq_ofNat_of_zero_le h0
   have ha : a < l.length := by omega
   obtain ⟨y, hy⟩ : ∃ y, l[a]? = some y := ⟨l[a]'ha, List.getElem?_eq_getElem ha⟩
   rw [show ((a : Int) + 1).toNat = a + 1 by omega] at H
   have hat : a < t.length := by rw [H.tl]; exact ha
   have hal : a < lf.length := by rw [H.ll]; exact ha
   obtain ⟨_, s0, s1, _, _, _⟩ := hg.num a y hy
   have hp := hu a y ha hy
   have hpos := H.pos a
   have hbd := H.bd a
   have ey : idx l (a : Int) = some y := by rw [idx_nat, hy]
   have ew : w64 (tg t a + y.fSelf) = tg t a + y.fSelf := w64_of (by omega)
   rw [idx_tg hat, ey]
   simp only [Option.bind_some, ew]
   obtain ⟨lb, hlb, hleaf⟩ : ∃ lb, ((bif (decide ((w64 ((a : Int) + 1)) = (List.length l : Int))) then ((idx lf (a : Int)).bind fun y125 => some (List.set lf (Int.toNat (a : Int)) true)) else ((idx l (w64 ((a : Int) + 1))).bind fun y123 => ((idx lf (a : Int)).bind fun y124 => some (List.set lf (Int.toNat (a : Int)) (!decide (y123.fParent = (a : Int)))))) : Option (List Bool)) = some (lf.set a lb)) ∧ (lb = true ↔ leafP l a) := by
    obtain ⟨c, hc⟩ : ∃ c, lf[a]? = some c := ⟨lf[a]'hal, List.getElem?_eq_getElem hal⟩
    rw [w64_M (n := l.length) ha (by omega)]
    by_cases e : a + 1 = l.length
    ·have : (((a + 1 : Nat) : Int) = (l.length : Int)) := by omega
     simp only [this, decide_true, cond_true, idx_nat, hc, Option.bind_some]
     refine ⟨true, rfl, fun _ z hz => ?_, fun _ => rfl⟩
     have := lt_of_get hz
     omega
    ·have : ¬ (((a + 1 : Nat) : Int) = (l.length : Int)) := by omega
     obtain ⟨z, hz⟩ : ∃ z, l[a + 1]? = some z := ⟨l[a + 1]'(by omega), List.getElem?_eq_getElem (by omega)⟩
     simp only [this, decide_false, cond_false, idx_nat, hz, hc, Option.bind_some]
     refine ⟨_, rfl, fun h z' hz' => ?_, fun h => ?_⟩
     ·rw [hz] at hz'; cases hz'
      simpa using h
     ·simpa using h z hz
   rw [hlb]
   simp only [Option.bind_some]
   rw [show (Int.toNat (a : Int)) = a from by omega]
   have hat' : a < (t.set a (tg t a + y.fSelf)).length := by rw [List.length_set]; exact hat
   refine ok_bind (Q := fun e => e.2 = lf.set a lb ∧ e.1.length = l.length ∧ ∀ j, tg e.1 j = if j = a then tg t a + y.fSelf else if (j : Int) = y.fParent then tg t j + (tg t a + y.fSelf) else tg t j) ?_ (fun e he => ?_)
   ·refine ok_ite (fun g => ?_) (fun g => ok_some ⟨rfl, by simp [H.tl], fun j => ?_⟩)
    ·obtain ⟨p, hpe⟩ := Int.eq_ofNat_of_zero_le g
     have hpa : p < a := by omega
     have hpt : p < (t.set a (tg t a + y.fSelf)).length := by rw [List.length_set]; omega
     rw [hpe, idx_tg hpt, idx_tg hat', Option.bind_some, Option.bind_some, Option.bind_some]
     rw [tg_set _ _ _ _ hat, tg_set _ _ _ _ hat, if_neg (by omega), if_pos rfl]
     have hpp := H.pos p
     have hpb := H.bd p
     rw [show w64 (tg t p + (tg t a + y.fSelf)) = tg t p + (tg t a + y.fSelf) from w64_of (by omega), show Int.toNat (p : Int) = p from by omega]
     refine ok_some ⟨rfl, by simp [H.tl], fun j => ?_⟩
     simp only
     rw [tg_set _ _ _ _ hpt, tg_set _ _ _ _ hat]
     by_cases e1 : j = p
     ·subst e1
      have : ¬ j = a := by omega
      simp [this]
     ·have : ¬ (j : Int) = (p : Int) := by omega
      simp [e1, this]
    ·simp only
     rw [tg_set _ _ _ _ hat]
     by_cases e1 : j = a
     ·simp [e1]
     ·have : ¬ (j : Int) = y.fParent := by omega
      simp [e1, this]
   ·obtain ⟨t', lf'⟩ := e
    obtain ⟨e1, e2, e3⟩ := he
    simp only at e1 e2 e3
    subst e1
    dsimp only
    rw [show w64 ((a : Int) - 1) = (a : Int) - 1 from w64_of (by omega)]
    refine ok_inl ⟨⟨by simp only; omega, by simp only; omega, ?_⟩, by simp only; omega⟩
    simp only
    rw [show ((a : Int) - 1 + 1).toNat = a by omega]
    exact tots_step hl hg hu hy H hleaf e2 e3
  ·have : i = -1 := by omega
   subst this
   exact H
 ·simp only
  rw [show ((l.length : Int) - 1 + 1).toNat = l.length by omega]
  refine ⟨by simp, by simp, fun j hj => ?_, fun j => by rw [tz]; omega, ?_, fun j => by rw [tz]; omega, fun j b hj hb => ?_⟩
  ·rw [tz, if_neg (by omega)]
   unfold kidS
   rw [sumF_congr (g := fun _ => 0) (fun m hm => ?_), sumF_zero]
   ·rfl
   ·rw [if_neg (by omega)]
  ·rw [sumF_congr (g := fun _ => 0) (fun m _ => tz m), sumF_zero]; omega
  ·rw [List.getElem?_replicate] at hb
   split at hb
   ·omega
   ·simp at hb
def PassT (l : List api_Node) (t : List Int) : Prop := ∀ (i : Nat) y, l[i]? = some y → y.fTotal = tg t i ∧ ¬ (leafP l i ∧ y.fCount = 0)
theorem passT_ok {l : List api_Node} (hl : l.length ≤ 2000) {t : List Int} {lf : List Bool} (H : Tots l t lf 0) : Ok (loop (flame_Check_L1 l t lf) 0) (fun q => (∃ u, q = .inl u ∧ PassT l t) ∨ (q = .inr 10 ∧ ¬ PassT l t)) := by
 refine ok_upM l.length (fun n => ∀ (i : Nat) y, i < n → l[i]? = some y → y.fTotal = tg t i ∧ ¬ (leafP l i ∧ y.fCount = 0)) (by omega) (fun i y h => by omega) (fun i hI h2 => ?_)
 unfold flame_Check_L1
 refine ok_ite (fun hi => ?_) (fun hi => ok_inr (.inl ⟨(), rfl, fun k y hy => hI k y (by have := lt_of_get hy; omega) hy⟩))
 obtain ⟨y, hy⟩ : ∃ y, l[i]? = some y := ⟨l[i]'(by omega), List.getElem?_eq_getElem (by omega)⟩
 have hal : i < lf.length := by rw [H.ll]; omega
 obtain ⟨c, hc⟩ : ∃ c, lf[i]? = some c := ⟨lf[i]'hal, List.getElem?_eq_getElem hal⟩
 have hleaf := H.leaf i c (by omega) hc
 rw [idx_nat, hy, Option.bind_some, idx_nat, hc, Option.bind_some, idx_tg (by rw [H.tl]; omega)]
 refine ok_bind (Q := fun v => v = false ↔ (y.fTotal = tg t i ∧ ¬ (leafP l i ∧ y.fCount = 0))) ?_ (fun v hv => ?_)
 ·cases c with
  | true =>
   have hL := hleaf.1 rfl
   simp only [cond_true]
   by_cases g : y.fCount = 0
   ·simp only [g, decide_true, cond_true]
    exact ok_some ⟨fun h => by simp at h, fun h => absurd ⟨hL, trivial⟩ h.2⟩
   ·simp only [g, decide_false, cond_false, Option.bind_some]
    refine ok_some ⟨fun h => ⟨by simpa using h, fun h => h.2⟩, fun h => by simpa using h.1⟩
  | false =>
   have hL : ¬ leafP l i := fun h => by have := hleaf.2 h; simp at this
   simp only [cond_false, Option.bind_some]
   exact ok_some ⟨fun h => ⟨by simpa using h, fun h => hL h.1⟩, fun h => by simpa using h.1⟩
 refine ok_cond (fun e => ok_inr (.inr ⟨rfl, fun hp => by rw [hv.2 (hp i y hy)] at e; simp at e⟩)) (fun e => ?_)
 rw [w64_M (n := l.length) (by omega) (by omega)]
 refine ok_inl ⟨by omega, rfl, fun k z hk hz => ?_⟩
 by_cases e2 : k = i
 ·subst e2; rw [hy] at hz; cases hz; exact hv.1 e
 ·exact hI k z (by omega) hz
def totN (l : List api_Node) (k : Nat) : Int := match l[k]? with | some y => y.fTotal | none => 0
def refS (l : List api_Node) (i : Nat) : Nat → Int
 | 0 => selfN l i
 | d + 1 => if isKid l i (i + 1 + d) = true then w64 (refS l i d + totN l (i + 1 + d)) else refS l i d
def noKid (l : List api_Node) (i d : Nat) : Prop := ∀ e, e < d → isKid l i (i + 1 + e) = false
def PassR (l : List api_Node) : Prop := ∀ (i : Nat) y, l[i]? = some y → refS l i (l.length - (i + 1)) = y.fTotal ∧ ¬ (noKid l i (l.length - (i + 1)) ∧ y.fCount = 0)
theorem passR_ok {l : List api_Node} (hl : l.length ≤ 2000) : Ok (tracebookref50_totals l) (fun r => (r = 0 ∧ PassR l) ∨ (r = 10 ∧ ¬ PassR l)) := by
 unfold tracebookref50_totals
 refine ok_bindS (Q := InlR (fun _ => PassR l) (fun r => r = 10 ∧ ¬ PassR l)) (ok_upM l.length (fun n => ∀ (i : Nat) y, i < n → l[i]? = some y → refS l i (l.length - (i + 1)) = y.fTotal ∧ ¬ (noKid l i (l.length - (i + 1)) ∧ y.fCount = 0)) (by omega) (fun i y h => by omega) (fun i hI h2 => ?_)) (fun _ hq => ok_some (.inl ⟨rfl, hq⟩)) (fun r hr => ok_some (.inr hr))
 unfold tracebookref50_totals_L2
 refine ok_ite (fun hi => ?_) (fun hi => ok_inr (fun k y hy => hI k y (by have := lt_of_get hy; omega) hy))
 obtain ⟨y, hy⟩ : ∃ y, l[i]? = some y := ⟨l[i]'(by omega), List.getElem?_eq_getElem (by omega)⟩
 rw [idx_nat, hy, Option.bind_some, w64_M (n := l.length) (by omega) (by omega)]
 refine ok_bind (Q := fun e => e.1 = refS l i (l.length - (i + 1)) ∧ (e.2 = true ↔ noKid l i (l.length - (i + 1)))) (ok_loop (fun s : Int × Bool × Int => ∃ d : Nat, s.2.2 = ((i + 1 + d : Nat) : Int) ∧ i + 1 + d ≤ l.length ∧ s.1 = refS l i d ∧ (s.2.1 = true ↔ noKid l i d)) (fun s => ((l.length : Int) - s.2.2).toNat) (fun s hs => ?_) ⟨0, rfl, by omega, by simp only [refS, selfN_eq hy], fun _ e h => by omega, fun _ => rfl⟩ (by simp [manyRounds]; omega)) (fun e he => ?_)
 ·obtain ⟨a, b, c⟩ := s
  obtain ⟨d, h1, h2, h3, h4⟩ := hs
  simp only at h1 h3 h4
  subst h1; subst h3
  unfold tracebookref50_totals_L1
  dsimp only
  refine ok_ite (fun hj => ?_) (fun hj => ?_)
  ·obtain ⟨z, hz⟩ : ∃ z, l[i + 1 + d]? = some z := ⟨l[i + 1 + d]'(by omega), List.getElem?_eq_getElem (by omega)⟩
   have hkid : isKid l i (i + 1 + d) = decide (z.fParent = (i : Int)) := by unfold isKid; rw [hz]
   rw [idx_nat, hz]
   simp only [Option.bind_some]
   rw [w64_M (n := l.length) (by omega) (by omega)]
   by_cases g : z.fParent = (i : Int)
   ·simp only [g, decide_true, cond_true, Option.bind_some]
    refine ok_inl ⟨⟨d + 1, by simp only; omega, by omega, ?_, ?_⟩, by simp only; omega⟩
    ·simp only [refS, hkid, g, decide_true, if_true, totN, hz]
    ·simp only
     exact ⟨fun h => by simp at h, fun h => by have := h d (by omega); rw [hkid] at this; simp [g] at this⟩
   ·simp only [g, decide_false, cond_false, Option.bind_some]
    refine ok_inl ⟨⟨d + 1, by simp only; omega, by omega, ?_, ?_⟩, by simp only; omega⟩
    ·simp only [refS, hkid, g, decide_false, Bool.false_eq_true, if_false]
    ·simp only
     rw [h4]
     constructor
     ·intro h e he
      by_cases e2 : e = d
      ·subst e2; rw [hkid]; simp [g]
      ·exact h e (by omega)
     ·intro h e he; exact h e (by omega)
  ·have : d = l.length - (i + 1) := by omega
   subst this
   exact ok_inr ⟨rfl, h4⟩
 ·obtain ⟨e1, e2⟩ := e
  obtain ⟨he1, he2⟩ := he
  simp only at he1 he2
  subst he1
  dsimp only
  refine ok_bind (Q := fun v => v = false ↔ (refS l i (l.length - (i + 1)) = y.fTotal ∧ ¬ (noKid l i (l.length - (i + 1)) ∧ y.fCount = 0))) ?_ (fun v hv => ?_)
  ·cases e2 with
   | true =>
    have hL := he2.1 rfl
    simp only [cond_true, Option.bind_some]
    by_cases g : y.fCount = 0
    ·simp only [g, decide_true, cond_true]
     exact ok_some ⟨fun h => by simp at h, fun h => absurd ⟨hL, trivial⟩ h.2⟩
    ·simp only [g, decide_false, cond_false]
     exact ok_some ⟨fun h => ⟨by simpa using h, fun h => h.2⟩, fun h => by simpa using h.1⟩
   | false =>
    have hL : ¬ noKid l i (l.length - (i + 1)) := fun h => by have := he2.2 h; simp at this
    simp only [cond_false, Option.bind_some]
    exact ok_some ⟨fun h => ⟨by simpa using h, fun h => hL h.1⟩, fun h => by simpa using h.1⟩
  refine ok_cond (fun e => ok_inr ⟨rfl, fun hp => by rw [hv.2 (hp i y hy)] at e; simp at e⟩) (fun e => ?_)
  refine ok_inl ⟨by omega, rfl, fun k z hk hz => ?_⟩
  by_cases e2 : k = i
  ·subst e2; rw [hy] at hz; cases hz; exact hv.1 e
  ·exact hI k z (by omega) hz
theorem leaf_iff {l : List api_Node} (hN : ∀ (k : Nat) z, k < l.length → l[k]? = some z → NodeR l k z 0) {i : Nat} (hi : i < l.length) : leafP l i ↔ noKid l i (l.length - (i + 1)) := by
 have hu : UpN l l.length := UpN.of hN
 have hkp : ∀ m, isKid l i m = true ↔ ∃ z, l[m]? = some z ∧ z.fParent = (i : Int) := by
  intro m
  unfold isKid
  cases hz : l[m]? with
  | none => simp
  | some z => simp
 constructor
 ·intro h e he
  cases hk : isKid l i (i + 1 + e) with
  | false => rfl
  | true =>
   exfalso
   have key : ∀ d, (∀ e, e < d → isKid l i (i + 1 + e) = false) ∨ ∃ e, e < d ∧ isKid l i (i + 1 + e) = true ∧ ∀ f, f < e → isKid l i (i + 1 + f) = false := by
    intro d
    induction d with
    | zero => exact .inl fun e h => by omega
    | succ d ih =>
     rcases ih with h1 | ⟨e, h1, h2, h3⟩
     ·cases hd : isKid l i (i + 1 + d) with
      | false =>
       refine .inl (fun e he => ?_)
       by_cases e2 : e = d
       ·subst e2; exact hd
       ·exact h1 e (by omega)
      | true => exact .inr ⟨d, by omega, hd, h1⟩
     ·exact .inr ⟨e, by omega, h2, h3⟩
   rcases key (e + 1) with h1 | ⟨f, h1, h2, h3⟩
   ·rw [h1 e (by omega)] at hk; simp at hk
   ·obtain ⟨z, hz, hp⟩ := (hkp _).1 h2
    have hlt := lt_of_get hz
    by_cases f0 : f = 0
    ·subst f0
     exact h z (by simpa using hz) hp
    ·have hpar : ParOk l (i + 1 + f) z := by
      rcases hN _ z hlt hz with ⟨e, _⟩ | ⟨e, _⟩ | ⟨_, hp, _⟩
      ·omega
      ·omega
      ·exact hp
     rcases hpar with e | ⟨_, hd⟩
     ·omega
     ·rw [hp] at hd
      have up : ∀ a : Int, DescN l (i : Int) a → a < (i + 1 + f : Nat) → (i : Int) < a → False := by
       intro a hd
       induction hd with
       | self => intro _ h; omega
       | @up k y hy hd' ih =>
        intro hlt2 hgt
        have hpy := hu k y (by omega) hy
        by_cases e : y.fParent = (i : Int)
        ·have := h3 (k - (i + 1)) (by omega)
         rw [show i + 1 + (k - (i + 1)) = k by omega] at this
         rw [(hkp k).2 ⟨y, hy, e⟩] at this; simp at this
        ·have hle := hd'.le hu (by omega)
         exact ih (by omega) (by omega)
      exact up _ hd (by omega) (by omega)
 ·intro h z hz e
  have := h 0 (by have := lt_of_get hz; omega)
  rw [(hkp _).2 ⟨z, by simpa using hz, e⟩] at this
  simp at this
theorem pass_iff {l : List api_Node} (hg : GoodR l) (hN : ∀ (k : Nat) z, k < l.length → l[k]? = some z → NodeR l k z 0) {t : List Int} {lf : List Bool} (H : Tots l t lf 0) : PassT l t ↔ PassR l := by
 have hu : UpN l l.length := UpN.of hN
 have sum : ∀ i, i < l.length → (∀ m, i < m → m < l.length → totN l m = tg t m) → refS l i (l.length - (i + 1)) = tg t i := by
  intro i hi htot
  have h1 := H.sum i hi
  rw [if_pos (Nat.zero_le _)] at h1
  have hsi : 0 ≤ selfN l i := by
   obtain ⟨z, hz⟩ : ∃ z, l[i]? = some z := ⟨l[i]'hi, List.getElem?_eq_getElem hi⟩
   rw [selfN_eq hz]; exact (hg.num i z hz).2.1
  have hpart : ∀ n, n ≤ l.length → i + 1 ≤ n → refS l i (n - (i + 1)) = selfN l i + sumF (fun m => if 0 ≤ m ∧ isKid l i m = true then tg t m else 0) n ∧ refS l i (n - (i + 1)) ≤ tg t i := by
   intro n
   induction n with
   | zero => intro _ h; omega
   | succ n ih =>
    intro hn hin
    have hle : sumF (fun m => if 0 ≤ m ∧ isKid l i m = true then tg t m else 0) (n + 1) ≤ kidS l (tg t) 0 i := by
     unfold kidS
     have pos : ∀ m, 0 ≤ (if 0 ≤ m ∧ isKid l i m = true then tg t m else 0) := by
      intro m; have := H.pos m; split <;> omega
     have : ∀ d, sumF (fun m => if 0 ≤ m ∧ isKid l i m = true then tg t m else 0) (n + 1) ≤ sumF (fun m => if 0 ≤ m ∧ isKid l i m = true then tg t m else 0) (n + 1 + d) := by
      intro d
      induction d with
      | zero => exact Int.le_refl _
      | succ d ih => have := pos (n + 1 + d); rw [← Nat.add_assoc]; simp only [sumF] at ih ⊢; omega
     have := this (l.length - (n + 1))
     rwa [show n + 1 + (l.length - (n + 1)) = l.length by omega] at this
    by_cases e : n = i
    ·subst e
     have z : sumF (fun m => if 0 ≤ m ∧ isKid l n m = true then tg t m else 0) (n + 1) = 0 := by
      rw [sumF_congr (g := fun _ => 0) (fun m hm => ?_), sumF_zero]
      rw [if_neg]
      intro ⟨_, hk⟩
      have := (kid_lt hu hk).1
      omega
     rw [z] at hle ⊢
     rw [show n + 1 - (n + 1) = 0 by omega]
     simp only [refS]
     omega
    ·obtain ⟨i1, i2⟩ := ih (by omega) (by omega)
     rw [show n + 1 - (i + 1) = (n - (i + 1)) + 1 by omega]
     simp only [refS]
     rw [show i + 1 + (n - (i + 1)) = n by omega]
     have hpn := H.pos n
     have hbn := H.bd n
     have hpi := H.bd i
     have hp0 : 0 ≤ refS l i (n - (i + 1)) ∨ True := .inr trivial
     have ht : totN l n = tg t n := htot n (by omega) (by omega)
     by_cases k : isKid l i n = true
     ·rw [if_pos k, ht]
      have e1 : sumF (fun m => if 0 ≤ m ∧ isKid l i m = true then tg t m else 0) (n + 1) = sumF (fun m => if 0 ≤ m ∧ isKid l i m = true then tg t m else 0) n + tg t n := by
       simp [sumF, k]
      rw [e1] at hle ⊢
      have hnn : 0 ≤ sumF (fun m => if 0 ≤ m ∧ isKid l i m = true then tg t m else 0) n := by
       have : ∀ n, 0 ≤ sumF (fun m => if 0 ≤ m ∧ isKid l i m = true then tg t m else 0) n := by
        intro n
        induction n with
        | zero => simp [sumF]
        | succ n ih =>
         have := H.pos n
         simp only [sumF]
         split <;> omega
       exact this n
      have hs := H.pos i
      rw [w64_of (by rw [i1]; omega), i1]
      omega
     ·rw [if_neg k]
      have e1 : sumF (fun m => if 0 ≤ m ∧ isKid l i m = true then tg t m else 0) (n + 1) = sumF (fun m => if 0 ≤ m ∧ isKid l i m = true then tg t m else 0) n := by
       simp [sumF, k]
      rw [e1]
      exact ⟨i1, i2⟩
  have := (hpart l.length (Nat.le_refl _) (by omega)).1
  rw [this, h1]
  rfl
 constructor
 ·intro hp i y hy
  have hi := lt_of_get hy
  obtain ⟨h1, h2⟩ := hp i y hy
  refine ⟨?_, fun h => h2 ⟨(leaf_iff hN hi).2 h.1, h.2⟩⟩
  rw [h1]
  refine sum i hi fun m _ hm => ?_
  obtain ⟨z, hz⟩ : ∃ z, l[m]? = some z := ⟨l[m]'hm, List.getElem?_eq_getElem hm⟩
  have := (hp m z hz).1
  simp [totN, hz, this]
 ·intro hp
  have key : ∀ d i y, l.length - i ≤ d → l[i]? = some y → y.fTotal = tg t i := by
   intro d
   induction d with
   | zero => intro i y h hy; have := lt_of_get hy; omega
   | succ d ih =>
    intro i y h hy
    have hi := lt_of_get hy
    rw [← (hp i y hy).1]
    refine sum i hi fun m him hm => ?_
    obtain ⟨z, hz⟩ : ∃ z, l[m]? = some z := ⟨l[m]'hm, List.getElem?_eq_getElem hm⟩
    have := ih m z (by omega) hz
    simp [totN, hz, this]
  intro i y hy
  exact ⟨key _ i y (Nat.le_refl _) hy, fun h => (hp i y hy).2 ⟨(leaf_iff hN (lt_of_get hy)).1 h.1, h.2⟩⟩
structure ValF (l : List api_Node) : Prop where
 len : l.length ≤ 2000
 good : GoodR l
 node : ∀ (k : Nat) z, k < l.length → l[k]? = some z → NodeR l k z 0
 tot : PassR l
theorem check50 (l : List api_Node) (hn : ∀ x ∈ l, okN x.fName) (hl : l.length ≤ 140737488351232) : ∃ r, flame_Check l = some r ∧ tracebookref50_Check l = some r ∧ (r = 0 ↔ ValF l) := by
 unfold flame_Check tracebookref50_Check
 by_cases h0 : 2000 < (l.length : Int)
 ·simp only [h0, decide_true, cond_true]
  exact ⟨7, rfl, rfl, fun h => by omega, fun h => by have := h.len; omega⟩
 simp only [h0, decide_false, cond_false]
 have hl2 : l.length ≤ 2000 := by omega
 obtain ⟨r, hr, hg⟩ := ranges_v l hl2 hn
 rw [← ranges_eq, hr]
 simp only [Option.bind_some]
 by_cases e : r = 0
 ·subst e
  have G := hg.1 rfl
  simp only [decide_true, Bool.not_true, cond_false, cond_true]
  obtain ⟨v, hv, hf⟩ := order_v l hl2
  obtain ⟨v', hv', hf'⟩ := forms_v l hl2
  have := hf.det hf'
  subst this
  rw [hv, hv']
  simp only [Option.bind_some]
  by_cases e2 : v = 0
  ·subst e2
   have hN : ∀ (k : Nat) z, k < l.length → l[k]? = some z → NodeR l k z 0 := by
    rcases hf with ⟨_, h⟩ | ⟨h, _⟩
    ·exact fun k z _ hz => h k z hz
    ·exact absurd rfl h
   have hu : UpN l l.length := UpN.of hN
   simp only [decide_true, Bool.not_true, cond_false, cond_true]
   have m1 : mkB 8 (l.length : Int) = true := by unfold mkB; exact decide_eq_true ⟨by omega, by omega, by omega⟩
   have m2 : mkB 1 (l.length : Int) = true := by unfold mkB; exact decide_eq_true ⟨by omega, by omega, by omega⟩
   rw [m1, m2]
   simp only [cond_true]
   obtain ⟨⟨t, lf⟩, ht, H⟩ := tots_ok l hl2 G hu
   rw [ht]
   simp only [Option.bind_some]
   obtain ⟨q, hq, hP⟩ := passT_ok hl2 H
   obtain ⟨q', hq', hP'⟩ := passR_ok hl2 (l := l)
   rw [hq, hq']
   simp only [Option.bind_some]
   rcases hP with ⟨u, rfl, hp⟩ | ⟨rfl, hp⟩ <;> rcases hP' with ⟨rfl, hp'⟩ | ⟨rfl, hp'⟩
   ·exact ⟨0, rfl, rfl, fun _ => ⟨hl2, G, hN, hp'⟩, fun _ => rfl⟩
   ·exact absurd ((pass_iff G hN H).1 hp) hp'
   ·exact absurd ((pass_iff G hN H).2 hp') hp
   ·exact ⟨10, rfl, rfl, fun h => by omega, fun h => absurd h.tot hp'⟩
  ·simp only [e2, decide_false, Bool.not_false, cond_true, cond_false, Option.bind_some]
   refine ⟨v, rfl, rfl, fun h => absurd h e2, fun h => ?_⟩
   exfalso
   rcases hf with ⟨h1, _⟩ | ⟨_, j, y, hy, _, hR⟩
   ·exact e2 h1
   ·exact e2 (hR.det (h.node j y (lt_of_get hy) hy))
 ·simp only [e, decide_false, Bool.not_false, cond_true, cond_false, Option.bind_some]
  exact ⟨r, rfl, rfl, fun h => absurd h e, fun h => absurd (hg.2 h.good) e⟩
theorem siz50 {l : List api_Node} (h : okr_L_api_Node l) : l.length ≤ 140737488351232 ∧ ∀ x ∈ l, okN x.fName := by
 have e : reachBytes = 140737488351232 := by decide
 unfold okr_L_api_Node okL at h
 rw [e] at h
 refine ⟨h.1, fun x hx => ?_⟩
 have := (h.2 x hx).2.1
 rw [e] at this
 unfold okN; omega
theorem awake50_eq : tracebooklaw50_awake = some true := rfl
theorem few50 (l : List api_Node) (hl : l.length ≤ 140737488351232) : Ok (tracebookref50_Few l) (fun b => b = true → l.length ≤ 60) := by
 unfold tracebookref50_Few
 refine ok_bindS (Q := InlR Yes (fun r => r = false)) (ok_upM l.length (fun _ => True) (by omega) trivial (fun i _ h2 => ?_)) (fun _ _ => ok_some (fun h => by have := of_decide_eq_true h; omega)) (fun r hr => ok_some (fun e => by have hr : r = false := hr; rw [hr] at e; simp at e))
 unfold tracebookref50_Few_L1
 refine ok_bind (Q := fun v => v = true → i < l.length) ?_ (fun v hv => ?_)
 ·exact ok_ite (fun h => ok_some (fun _ => by omega)) (fun _ => ok_some (by simp))
 refine ok_cond (fun e => ?_) (fun _ => ok_inr (show InlR Yes (fun r => r = false) (.inl ()) from trivial))
 have := hv e
 refine ok_bind (ok_ixM this) (fun y _ => ?_)
 refine ok_ite (fun _ => ok_inr (show InlR Yes (fun r => r = false) (.inr false) from rfl)) (fun _ => ?_)
 rw [w64_M (n := l.length) this (by omega)]
 exact ok_inl ⟨this, rfl, trivial⟩
theorem slices_ReverseS_eq (l : List ByteArray) (hl : l.length ≤ 9223372036854775807) : slices_Reverse_string_string_k1 l = some l.reverse := by
 have : Ok (slices_Reverse_string_string_k1 l) (fun r => r = l.reverse) := by
  unfold slices_Reverse_string_string_k1
  rw [show w64 ((l.length : Int) - 1) = (l.length : Int) - 1 from w64_of (by omega)]
  refine ok_loop (fun s : List ByteArray × Int × Int => 0 ≤ s.2.1 ∧ s.2.1 + s.2.2 = (l.length : Int) - 1 ∧ s.2.1 ≤ s.2.2 + 1 ∧ s.1.length = l.length ∧ ∀ k : Nat, k < l.length → s.1[k]? = if (k : Int) < s.2.1 ∨ s.2.2 < (k : Int) then l[l.length - 1 - k]? else l[k]?) (fun s => (s.2.2 + 1).toNat) (fun s hs => ?_) ⟨by simp, by simp, by simp, by simp, fun k hk => ?_⟩ (by simp [manyRounds]; omega)
  ·obtain ⟨c, i, j⟩ := s
   obtain ⟨h1, h2, h3, h4, h5⟩ := hs
   simp only at h1 h2 h3 h4 h5
   unfold slices_Reverse_string_string_k1_L1
   dsimp only
   refine ok_ite (fun hi => ?_) (fun hi => ok_inr ?_)
   ·refine ok_bind (ok_idx (by omega) (by omega)) (fun y hy => ?_)
    refine ok_bind (ok_idx (by omega) (by omega)) (fun z hz => ?_)
    refine ok_bind (Q := Yes) (ok_idx (by omega) (by omega)).yes (fun _ _ => ?_)
    refine ok_bind (Q := Yes) (ok_idx (by omega) (by simp; omega)).yes (fun _ _ => ?_)
    rw [show w64 (i + 1) = i + 1 from w64_of (by omega), show w64 (j - 1) = j - 1 from w64_of (by omega)]
    refine ok_inl ⟨⟨by simp; omega, by simp; omega, by simp; omega, by simp; omega, fun k hk => ?_⟩, by simp; omega⟩
    simp only [List.getElem?_set, List.length_set]
    have hy' := h5 j.toNat (by omega)
    have hz' := h5 i.toNat (by omega)
    rw [hy, if_neg (by omega)] at hy'
    rw [hz, if_neg (by omega)] at hz'
    by_cases e1 : j.toNat = k
    ·rw [if_pos e1, if_pos (by omega), if_pos (by omega), hz']
     congr 1; omega
    ·rw [if_neg e1]
     by_cases e2 : i.toNat = k
     ·rw [if_pos e2, if_pos (by omega), if_pos (by omega), hy']
      congr 1; omega
     ·rw [if_neg e2, h5 k hk]
      by_cases e3 : (k : Int) < i ∨ j < (k : Int)
      ·rw [if_pos e3, if_pos (by omega)]
      ·rw [if_neg e3, if_neg (by omega)]
   ·apply List.ext_getElem?
    intro k
    by_cases hk : k < l.length
    ·rw [h5 k hk, List.getElem?_reverse hk]
     split
     ·rfl
     ·congr 1; omega
    ·rw [List.getElem?_eq_none (by omega), List.getElem?_eq_none (by simp; omega)]
  ·simp only
   rw [if_neg (by omega)]
 obtain ⟨r, h1, h2⟩ := this
 rw [h1, h2]
inductive PathN (l : List api_Node) : Int → List ByteArray → Prop
 | out {i : Int} : i < 0 → PathN l i []
 | up {i : Nat} {y : api_Node} {p : List ByteArray} : l[i]? = some y → PathN l y.fParent p → PathN l (i : Int) (p ++ [y.fName])
theorem PathN.inv {l : List api_Node} {a : Int} {k : Nat} {y : api_Node} {p : List ByteArray} (h : PathN l a p) (ha : a = (k : Int)) (hy : l[k]? = some y) : ∃ q, PathN l y.fParent q ∧ p = q ++ [y.fName] := by
 cases h with
 | out h => omega
 | @up i z q hz hq =>
  have : i = k := by omega
  subst this
  rw [hy] at hz; cases hz
  exact ⟨q, hq, rfl⟩
theorem PathN.uni {l : List api_Node} {i : Int} {p : List ByteArray} (h1 : PathN l i p) : ∀ {q : List ByteArray}, PathN l i q → p = q := by
 induction h1 with
 | @out i h0 => intro q h2; cases h2 with
  | out _ => rfl
  | up => omega
 | @up k y p hy _ ih =>
  intro q h2
  obtain ⟨q', h3, rfl⟩ := h2.inv rfl hy
  rw [ih h3]
theorem UpN.path {l : List api_Node} (h : UpN l l.length) : ∀ (i : Nat) y, l[i]? = some y → ∃ p, PathN l (i : Int) p ∧ p.length ≤ i + 1 ∧ p ≠ [] := by
 intro i
 induction i using Nat.strongRecOn with
 | _ i ih =>
  intro y hy
  have hp := h i y (lt_of_get hy) hy
  by_cases e : y.fParent < 0
  ·exact ⟨[] ++ [y.fName], .up hy (.out e), by simp, by simp⟩
  ·obtain ⟨p, hpe⟩ := Int.eq_ofNat_of_zero_le (show 0 ≤ y.fParent by omega)
   have hlt := lt_of_get hy
   obtain ⟨z, hz⟩ : ∃ z, l[p]? = some z := ⟨l[p]'(by omega), List.getElem?_eq_getElem (by omega)⟩
   obtain ⟨q, h1, h2, _⟩ := ih p (by omega) z hz
   exact ⟨q ++ [y.fName], .up hy (by rw [hpe]; exact h1), by simp; omega, by simp⟩
theorem path_loop (l : List api_Node) (hl : l.length ≤ 2000) (hu : UpN l l.length) {i : Nat} (hi : i < l.length) {p : List ByteArray} (hp : PathN l (i : Int) p) : flame_path l (i : Int) = some p := by
 obtain ⟨y, hy⟩ : ∃ y, l[i]? = some y := ⟨l[i]'hi, List.getElem?_eq_getElem hi⟩
 obtain ⟨p', hp', hlen, _⟩ := hu.path i y hy
 rw [← hp.uni hp'] at hlen
 unfold flame_path
 have : Ok (loop (flame_path_L1 l) ((i : Int), [])) (fun r => r = p.reverse) := by
  refine ok_loop (fun s : Int × List ByteArray => s.1 < l.length ∧ -1 ≤ s.1 ∧ s.2.length + s.1 ≤ l.length ∧ ∃ q, PathN l s.1 q ∧ p.reverse = s.2 ++ q.reverse) (fun s => (s.1 + 1).toNat) (fun s hs => ?_) ⟨by simp only; omega, by simp only; omega, by simp only [List.length_nil]; omega, p, hp, by simp⟩ (by simp [manyRounds]; omega)
  obtain ⟨a, c⟩ := s
  obtain ⟨g1, g2, g4, q, g5, g6⟩ := hs
  simp only at g1 g2 g4 g5 g6
  unfold flame_path_L1
  dsimp only
  refine ok_ite (fun k1 => ?_) (fun k1 => ok_inr ?_)
  ·obtain ⟨k, rfl⟩ := Int.eq_ofNat_of_zero_le k1
   refine ok_bind (ok_ixM (by omega)) (fun y hy => ?_)
   rw [room_ok (by simp; omega) (by simp; omega)]
   simp only [cond_true]
   refine ok_bind (ok_ixM (by omega)) (fun y' hy' => ?_)
   rw [hy] at hy'; cases hy'
   have hnext := hu k y (lt_of_get hy) hy
   refine ok_inl ⟨⟨by simp only; omega, by simp only; omega, by simp only [List.length_append, List.length_cons, List.length_nil]; omega, ?_⟩, by simp only; omega⟩
   obtain ⟨q2, hq2, rfl⟩ := g5.inv rfl hy
   exact ⟨q2, hq2, by rw [g6]; simp⟩
  ·cases g5 with
   | out _ => simpa using g6.symm
   | up => omega
 obtain ⟨r, hr, e⟩ := this
 subst e
 rw [hr, Option.bind_some, slices_ReverseS_eq _ (by simp; omega)]
 simp
theorem refpath_loop (l : List api_Node) (hl : l.length ≤ 2000) (hu : UpN l l.length) {i : Nat} (hi : i < l.length) {p : List ByteArray} (hp : PathN l (i : Int) p) : loop (tracebookref50_Path_L1 l) ((i : Int), []) = some p := by
 have : Ok (loop (tracebookref50_Path_L1 l) ((i : Int), [])) (fun r => r = p) := by
  refine ok_loop (fun s : Int × List ByteArray => s.1 < l.length ∧ -1 ≤ s.1 ∧ s.2.length + s.1 ≤ l.length ∧ ∃ q, PathN l s.1 q ∧ p = q ++ s.2) (fun s => (s.1 + 1).toNat) (fun s hs => ?_) ⟨by simp only; omega, by simp only; omega, by simp only [List.length_nil]; omega, p, hp, by simp⟩ (by simp [manyRounds]; omega)
  obtain ⟨a, c⟩ := s
  obtain ⟨g1, g2, g4, q, g5, g6⟩ := hs
  simp only at g1 g2 g4 g5 g6
  unfold tracebookref50_Path_L1
  dsimp only
  refine ok_ite (fun k1 => ?_) (fun k1 => ok_inr ?_)
  ·obtain ⟨k, rfl⟩ := Int.eq_ofNat_of_zero_le k1
   refine ok_bind (ok_ixM (by omega)) (fun y hy => ?_)
   rw [room_ok (by simp; omega) (by simp; omega)]
   simp only [cond_true]
   refine ok_bind (ok_ixM (by omega)) (fun y' hy' => ?_)
   rw [hy] at hy'; cases hy'
   have hnext := hu k y (lt_of_get hy) hy
   refine ok_inl ⟨⟨by simp only; omega, by simp only; omega, by simp only [List.length_append, List.length_cons, List.length_nil]; omega, ?_⟩, by simp only; omega⟩
   obtain ⟨q2, hq2, rfl⟩ := g5.inv rfl hy
   exact ⟨q2, hq2, by rw [g6]; simp⟩
  ·cases g5 with
   | out _ => simpa using g6.symm
   | up => omega
 obtain ⟨r, hr, e⟩ := this
 rw [hr, e]
theorem ValF.up {l : List api_Node} (h : ValF l) : UpN l l.length := UpN.of h.node
theorem ValF.check {l : List api_Node} (h : ValF l) (hn : ∀ x ∈ l, okN x.fName) : flame_Check l = some 0 ∧ tracebookref50_Check l = some 0 := by
 obtain ⟨r, h1, h2, h3⟩ := check50 l hn (by have := h.len; omega)
 rw [h3.2 h] at h1 h2
 exact ⟨h1, h2⟩
theorem Path_val {l : List api_Node} (h : ValF l) (hn : ∀ x ∈ l, okN x.fName) {i : Nat} (hi : i < l.length) {p : List ByteArray} (hp : PathN l (i : Int) p) : flame_Path l (i : Int) = some p ∧ tracebookref50_Path l (i : Int) = some p := by
 obtain ⟨c1, c2⟩ := h.check hn
 unfold flame_Path tracebookref50_Path
 rw [c1, c2, path_loop l h.len h.up hi hp, refpath_loop l h.len h.up hi hp]
 have h1 : ¬ ((i : Int) < 0) := by omega
 have h2 : ¬ ((l.length : Int) ≤ (i : Int)) := by omega
 simp [h1, h2]
theorem Path_out {l : List api_Node} (h : ValF l) (hn : ∀ x ∈ l, okN x.fName) {i : Int} (hi : i < 0 ∨ (l.length : Int) ≤ i) : flame_Path l i = some [] := by
 obtain ⟨c1, c2⟩ := h.check hn
 unfold flame_Path
 rw [c1]
 by_cases h1 : i < 0
 ·simp [h1]
 ·have h2 : (l.length : Int) ≤ i := by omega
  simp [h1, h2]
theorem less_trans : ∀ {x y z : List UInt8}, Op.bytesLess x y = true → Op.bytesLess y z = true → Op.bytesLess x z = true
 | [], y, z, h1, h2 => by
  cases z with
  | nil => cases y <;> simp [Op.bytesLess] at h2
  | cons c z => simp [Op.bytesLess]
 | a :: x, [], z, h1, h2 => by simp [Op.bytesLess] at h1
 | a :: x, b :: y, [], h1, h2 => by simp [Op.bytesLess] at h2
 | a :: x, b :: y, c :: z, h1, h2 => by
  simp only [Op.bytesLess, Bool.or_eq_true, Bool.and_eq_true, decide_eq_true_eq, beq_iff_eq] at h1 h2 ⊢
  rcases h1 with h1 | ⟨rfl, h1⟩ <;> rcases h2 with h2 | ⟨rfl, h2⟩
  ·exact .inl (UInt8.lt_trans h1 h2)
  ·exact .inl h1
  ·exact .inl h2
  ·exact .inr ⟨rfl, less_trans h1 h2⟩
theorem sLt_trans {a b c : ByteArray} (h1 : sLt a b = true) (h2 : sLt b c = true) : sLt a c = true := less_trans h1 h2
theorem ValF.sib {l : List api_Node} (h : ValF l) : ∀ (i : Nat) y, l[i]? = some y → ∀ (j : Nat) z, j < i → l[j]? = some z → z.fParent = y.fParent → sLt z.fName y.fName = true := by
 have last : ∀ p n j z, j < n → n ≤ l.length → l[j]? = some z → z.fParent = p → ∃ (k : Nat) (u : api_Node), k < n ∧ j ≤ k ∧ l[k]? = some u ∧ u.fParent = p ∧ lastN l p n = some u.fName := by
  intro p n
  induction n with
  | zero => intro j z h; omega
  | succ n ih =>
   intro j z hj hn hz hp
   obtain ⟨v, hv⟩ : ∃ v, l[n]? = some v := ⟨l[n]'(by omega), List.getElem?_eq_getElem (by omega)⟩
   by_cases e : v.fParent = p
   ·exact ⟨n, v, by omega, by omega, hv, e, by simp [lastN, hv, e]⟩
   ·have hjn : j < n := by
     rcases Nat.lt_or_ge j n with h | h
     ·exact h
     ·have : j = n := by omega
      subst this
      rw [hv] at hz; cases hz; exact absurd hp e
    obtain ⟨k, u, h1, h2, h3, h4, h5⟩ := ih j z hjn (by omega) hz hp
    exact ⟨k, u, by omega, h2, h3, h4, by simp [lastN, hv, e, h5]⟩
 intro i
 induction i using Nat.strongRecOn with
 | _ i ih =>
  intro y hy j z hj hz hp
  have hil := lt_of_get hy
  obtain ⟨k, u, h1, h2, h3, h4, h5⟩ := last y.fParent i j z hj (by omega) hz hp
  have hb : ¬ BadN l i y := by
   rcases h.node i y hil hy with ⟨e, _⟩ | ⟨e, _⟩ | ⟨_, _, hb⟩
   ·omega
   ·omega
   ·exact hb
  have hu : sLt u.fName y.fName = true := by
   cases hs : sLt u.fName y.fName with
   | true => rfl
   | false => exact absurd ⟨_, h5, hs⟩ hb
  by_cases e : j = k
  ·subst e; rw [hz] at h3; cases h3; exact hu
  ·exact sLt_trans (ih k h1 u h3 j z (by omega) hz (hp.trans h4.symm)) hu
theorem sLt_irrefl (a : ByteArray) : sLt a a = false := by
 cases h : sLt a a with
 | false => rfl
 | true => exact absurd rfl (sLt_not h).2
theorem ValF.one {l : List api_Node} (h : ValF l) {i j : Nat} {y z : api_Node} (hy : l[i]? = some y) (hz : l[j]? = some z) (hp : y.fParent = z.fParent) (hn : y.fName = z.fName) : i = j := by
 rcases Nat.lt_trichotomy i j with e | e | e
 ·have := h.sib j z hz i y e hy hp
  rw [hn, sLt_irrefl] at this; simp at this
 ·exact e
 ·have := h.sib i y hy j z e hz hp.symm
  rw [hn, sLt_irrefl] at this; simp at this
theorem ValF.inj {l : List api_Node} (h : ValF l) {p : List ByteArray} : ∀ {i j : Int}, -1 ≤ i → -1 ≤ j → PathN l i p → PathN l j p → i = j := by
 intro i j hi hj h1
 induction h1 generalizing j with
 | @out i h0 =>
  intro h2
  generalize hp : ([] : List ByteArray) = p at h2
  cases h2 with
  | out h => omega
  | up _ _ => simp at hp
 | @up k y q hy hq ih =>
  intro h2
  generalize hp : q ++ [y.fName] = p at h2
  cases h2 with
  | out h => simp at hp
  | @up m z r hz hr =>
   have e := List.append_inj' hp rfl
   simp only [List.cons.injEq, and_true] at e
   obtain ⟨rfl, e2⟩ := e
   have u1 := h.up k y (lt_of_get hy) hy
   have u2 := h.up m z (lt_of_get hz) hz
   have := ih (by omega) (by omega) hr
   rw [h.one hy hz this e2]
theorem index_ok (l : List api_Node) (hl : l.length ≤ 2000) (at' : Int) (s : ByteArray) : Ok (slices_IndexFunc_api_Node_api_Node_k1 l at' s) (fun r => (r = -1 ∧ ∀ (k : Nat) y, l[k]? = some y → ¬ (y.fParent = at' ∧ y.fName = s)) ∨ ∃ (k : Nat) (y : api_Node), r = (k : Int) ∧ l[k]? = some y ∧ y.fParent = at' ∧ y.fName = s) := by
 unfold slices_IndexFunc_api_Node_api_Node_k1
 refine ok_bindS (Q := InlR (fun _ => ∀ (k : Nat) y, l[k]? = some y → ¬ (y.fParent = at' ∧ y.fName = s)) (fun r => ∃ (k : Nat) (y : api_Node), r = (k : Int) ∧ l[k]? = some y ∧ y.fParent = at' ∧ y.fName = s)) (ok_upM l.length (fun n => ∀ (k : Nat) y, k < n → l[k]? = some y → ¬ (y.fParent = at' ∧ y.fName = s)) (by omega) (fun k y h => by omega) (fun i hI h2 => ?_)) (fun _ hq => ok_some (.inl ⟨rfl, hq⟩)) (fun r hr => ok_some (.inr hr))
 unfold slices_IndexFunc_api_Node_api_Node_k1_L1
 refine ok_ite (fun hi => ?_) (fun hi => ok_inr (fun k y hy => hI k y (by have := lt_of_get hy; omega) hy))
 refine ok_bind (ok_ixM (by omega)) (fun y hy => ?_)
 refine ok_bind (Q := fun v => v = true ↔ (y.fParent = at' ∧ y.fName = s)) ?_ (fun v hv => ?_)
 ·unfold flame_Find_1_k1
  by_cases g1 : y.fParent = at' <;> by_cases g2 : y.fName = s <;> simp [g1, g2, Ok]
 refine ok_cond (fun e => ok_inr ⟨i, y, rfl, hy, (hv.1 e).1, (hv.1 e).2⟩) (fun e => ?_)
 rw [w64_M (n := l.length) (by omega) (by omega)]
 refine ok_inl ⟨by omega, rfl, fun k z hk hz => ?_⟩
 by_cases e2 : k = i
 ·subst e2; rw [hy] at hz; cases hz
  intro h; rw [hv.2 h] at e; simp at e
 ·exact hI k z (by omega) hz
theorem Find_val {l : List api_Node} (h : ValF l) (hn : ∀ x ∈ l, okN x.fName) (p : List ByteArray) (hp : p.length ≤ 1000000) (h0 : p ≠ []) : Ok (flame_Find l p) (fun r => (∃ k : Nat, r = (k : Int) ∧ k < l.length ∧ PathN l (k : Int) p) ∨ (r = -1 ∧ ∀ k : Nat, k < l.length → ¬ PathN l (k : Int) p)) := by
 obtain ⟨c1, _⟩ := h.check hn
 unfold flame_Find
 rw [c1]
 have hne : ¬ ((p.length : Int) = 0) := by
  cases p with
  | nil => exact absurd rfl h0
  | cons _ _ => simp; omega
 simp only [Option.bind_some, decide_true, Bool.not_true, cond_false, hne, decide_false]
 have long : ∀ n, n < p.length → (∀ j : Int, -1 ≤ j → j < l.length → ¬ PathN l j (p.take (n + 1))) → ∀ k : Nat, k < l.length → ¬ PathN l (k : Int) p := by
  intro n hlt hno k hk hP
  have key : ∀ d q (a : Int), PathN l a q → a < l.length → -1 ≤ a → q = p.take (n + 1 + d) → n + 1 + d ≤ p.length → False := by
   intro d
   induction d with
   | zero => intro q a hq ha ha2 e _; subst e; exact hno a ha2 ha hq
   | succ d ih =>
    intro q a hq ha ha2 e hlen
    cases hq with
    | out _ =>
     have : (p.take (n + 1 + (d + 1))).length = 0 := by rw [← e]; rfl
     rw [List.length_take] at this; omega
    | @up i y q' hy hq' =>
     have hu := h.up i y (lt_of_get hy) hy
     have hil := lt_of_get hy
     have e2 : p.take (n + 1 + (d + 1)) = p.take (n + 1 + d) ++ [p[n + 1 + d]'(by omega)] := by
      rw [show n + 1 + (d + 1) = (n + 1 + d) + 1 by omega, List.take_succ_eq_append_getElem (by omega)]
     rw [e2] at e
     exact ih q' y.fParent hq' (by omega) (by omega) (List.append_inj' e rfl).1 (by omega)
  exact key (p.length - (n + 1)) p (k : Int) hP (by omega) (by omega) (by rw [List.take_of_length_le (by omega)]) (by omega)
 refine ok_bindS (Q := InlR (fun a : Int => -1 ≤ a ∧ a < l.length ∧ PathN l a p) (fun r : Int => r = -1 ∧ ∀ k : Nat, k < l.length → ¬ PathN l (k : Int) p)) (ok_up2M p.length (fun (a : Int) n => -1 ≤ a ∧ a < l.length ∧ PathN l a (p.take n)) (by omega) ⟨by omega, by omega, .out (by omega)⟩ (fun a n hI h2 => ?_)) (fun a ha => ok_some ?_) (fun r hr => ok_some (.inr hr))
 ·obtain ⟨g1, g2, g3⟩ := hI
  unfold flame_Find_L1
  dsimp only
  refine ok_ite (fun hi => ?_) (fun hi => ok_inr ⟨g1, g2, by rw [List.take_of_length_le (by omega)] at g3; exact g3⟩)
  have hlt : n < p.length := by omega
  rw [idx_nat, List.getElem?_eq_getElem hlt, Option.bind_some]
  refine ok_bind (index_ok l h.len a p[n]) (fun r hr => ?_)
  rcases hr with ⟨rfl, hno⟩ | ⟨k, y, rfl, hy, hpar, hnm⟩
  ·have : ((-1 : Int) < 0) := by omega
   simp only [this, decide_true, cond_true]
   refine ok_inr ⟨rfl, long n hlt fun j hj1 hj2 hP => ?_⟩
   rw [List.take_succ_eq_append_getElem hlt] at hP
   generalize he : p.take n ++ [p[n]] = q at hP
   cases hP with
   | out _ => simp at he; exact h0 he
   | @up i z q' hz hq' =>
    have e := List.append_inj' he rfl
    simp only [List.cons.injEq, and_true] at e
    obtain ⟨e1, e2⟩ := e
    subst e1
    have hu := h.up i z (lt_of_get hz) hz
    have := h.inj g1 (by omega) g3 hq'
    exact hno i z hz ⟨this.symm, e2.symm⟩
  ·have : ¬ ((k : Int) < 0) := by omega
   simp only [this, decide_false, cond_false]
   rw [w64_M (n := p.length) (by omega) (by omega)]
   have hk := lt_of_get hy
   refine ok_inl ⟨by omega, rfl, by simp only; omega, by simp only; omega, ?_⟩
   simp only
   rw [List.take_succ_eq_append_getElem hlt, ← hnm]
   exact .up hy (by rw [hpar]; exact g3)
 ·obtain ⟨g1, g2, g3⟩ := ha
  by_cases e : 0 ≤ a
  ·obtain ⟨k, rfl⟩ := Int.eq_ofNat_of_zero_le e
   exact .inl ⟨k, rfl, by omega, g3⟩
  ·exfalso
   generalize hq : p = q at g3
   cases g3 with
   | out _ => exact h0 hq
   | up => omega
def cmpL : List ByteArray → List ByteArray → Int
 | [], [] => 0
 | [], _ :: _ => -1
 | _ :: _, [] => 1
 | a :: p, b :: q => if sLt a b = true then -1 else if a = b then cmpL p q else 1
theorem cmpL_cons (a b : ByteArray) (p q : List ByteArray) : cmpL (a :: p) (b :: q) = if sLt a b = true then -1 else if a = b then cmpL p q else 1 := rfl
theorem cmpL_self : ∀ p, cmpL p p = 0
 | [] => rfl
 | a :: p => by simp [cmpL, sLt_irrefl, cmpL_self p]
theorem cmpL_zero : ∀ {p q : List ByteArray}, cmpL p q = 0 → p = q
 | [], [], _ => rfl
 | [], _ :: _, h => by simp [cmpL] at h
 | _ :: _, [], h => by simp [cmpL] at h
 | a :: p, b :: q, h => by
  unfold cmpL at h
  split at h
  ·omega
  ·split at h
   ·rename_i e; rw [e, cmpL_zero h]
   ·omega
theorem cmpL_app (a : ByteArray) (r : List ByteArray) : ∀ p, cmpL p (p ++ a :: r) = -1
 | [] => rfl
 | b :: p => by simp [cmpL, sLt_irrefl, cmpL_app a r p]
theorem cmpL_fork {a b : ByteArray} (h : sLt a b = true) (r s : List ByteArray) : ∀ p, cmpL (p ++ a :: r) (p ++ b :: s) = -1
 | [] => by simp [cmpL, h]
 | c :: p => by simp [cmpL, sLt_irrefl, cmpL_fork h r s p]
theorem compare_v (p q : List ByteArray) (hp : p.length ≤ 1000000) (hq : q.length ≤ 9000000) : tracebookref50_Compare p q = some (cmpL p q) := by
 have : Ok (tracebookref50_Compare p q) (fun r => r = cmpL p q) := by
  unfold tracebookref50_Compare
  refine ok_bindS (Q := InlR (fun _ => cmpL p q = if p.length < q.length then -1 else if q.length < p.length then 1 else 0) (fun r => r = cmpL p q)) (ok_upM p.length (fun n => n ≤ q.length ∧ cmpL p q = cmpL (p.drop n) (q.drop n)) (by omega) ⟨by omega, by simp⟩ (fun i hI h2 => ?_)) (fun _ hr => ?_) (fun r hr => ok_some hr)
  ·obtain ⟨g1, g2⟩ := hI
   unfold tracebookref50_Compare_L1
   by_cases k1 : i < p.length
   ·by_cases k2 : i < q.length
    ·have e1 : ((i : Int) < (p.length : Int)) := by omega
     have e2 : ((i : Int) < (q.length : Int)) := by omega
     rw [idx_nat, idx_nat, List.getElem?_eq_getElem k1, List.getElem?_eq_getElem k2]
     simp only [e1, e2, decide_true, cond_true, Option.bind_some]
     rw [List.drop_eq_getElem_cons k1, List.drop_eq_getElem_cons k2] at g2
     rw [cmpL_cons] at g2
     refine ok_cond (fun h => ok_inr ?_) (fun h => ok_cond (fun h' => ok_inr ?_) (fun h' => ?_))
     ·show (-1 : Int) = _
      rw [g2, if_pos h]
     ·show (1 : Int) = _
      rw [g2, if_neg (by simp [h]), if_neg (by intro e; simp [e] at h')]
     ·rw [w64_M (n := p.length) (by omega) (by omega)]
      refine ok_inl ⟨by omega, rfl, by omega, ?_⟩
      rw [g2, if_neg (by simp [h]), if_pos (by simpa [h] using h')]
    ·have e2 : ¬ ((i : Int) < (q.length : Int)) := by omega
     have e1 : ((i : Int) < (p.length : Int)) := by omega
     simp only [e1, e2, decide_true, decide_false, cond_true, cond_false, Option.bind_some]
     refine ok_inr (show InlR _ _ (.inl ()) from ?_)
     show cmpL p q = _
     rw [g2, List.drop_eq_getElem_cons k1, List.drop_eq_nil_of_le (show q.length ≤ i by omega), if_neg (by omega), if_pos (by omega)]
     rfl
   ·have e1 : ¬ ((i : Int) < (p.length : Int)) := by omega
    simp only [e1, decide_false, cond_false, Option.bind_some]
    refine ok_inr (show InlR _ _ (.inl ()) from ?_)
    show cmpL p q = _
    rw [g2, List.drop_eq_nil_of_le (show p.length ≤ i by omega)]
    by_cases k2 : i < q.length
    ·rw [List.drop_eq_getElem_cons k2, if_pos (by omega)]
     rfl
    ·rw [List.drop_eq_nil_of_le (show q.length ≤ i by omega), if_neg (by omega), if_neg (by omega)]
     rfl
  ·have hr : cmpL p q = if p.length < q.length then -1 else if q.length < p.length then 1 else 0 := hr
   refine ok_ite (fun h => ok_some ?_) (fun h => ok_ite (fun h' => ok_some ?_) (fun h' => ok_some ?_))
   ·rw [hr, if_pos (by omega)]
   ·rw [hr, if_neg (by omega), if_pos (by omega)]
   ·rw [hr, if_neg (by omega), if_neg (by omega)]
 obtain ⟨r, h1, h2⟩ := this
 rw [h1, h2]
theorem DescN.fork {l : List api_Node} {a x : Int} (h : DescN l a x) : ∀ {pa px : List ByteArray}, PathN l a pa → PathN l x px → (px = pa ∧ x = a) ∨ ∃ (c : Nat) (z : api_Node) (rest : List ByteArray), l[c]? = some z ∧ z.fParent = a ∧ px = pa ++ z.fName :: rest ∧ (UpN l l.length → (c : Int) ≤ x) := by
 induction h with
 | self => intro pa px h1 h2; exact .inl ⟨h2.uni h1, rfl⟩
 | @up k y hy hd ih =>
  intro pa px h1 h2
  obtain ⟨q, hq, rfl⟩ := h2.inv rfl hy
  rcases ih h1 hq with ⟨rfl, e⟩ | ⟨c, z, rest, g1, g2, rfl, g3⟩
  ·exact .inr ⟨k, y, [], hy, e, rfl, fun _ => by omega⟩
  ·refine .inr ⟨c, z, rest ++ [y.fName], g1, g2, by simp, fun hu => ?_⟩
   have := g3 hu
   have := hu k y (lt_of_get hy) hy
   omega
theorem desc_root {l : List api_Node} (hu : UpN l l.length) : ∀ (k : Nat), k < l.length → DescN l (-1) (k : Int) := by
 intro k
 induction k using Nat.strongRecOn with
 | _ k ih =>
  intro hk
  obtain ⟨y, hy⟩ : ∃ y, l[k]? = some y := ⟨l[k]'hk, List.getElem?_eq_getElem hk⟩
  have := hu k y hk hy
  by_cases e : y.fParent = -1
  ·exact .up hy (by rw [e]; exact .self)
  ·obtain ⟨p, hp⟩ := Int.eq_ofNat_of_zero_le (show 0 ≤ y.fParent by omega)
   exact .up hy (by rw [hp]; exact ih p (by omega) (by omega))
theorem ValF.incr {l : List api_Node} (h : ValF l) {i : Nat} (hi : i + 1 < l.length) {p q : List ByteArray} (hp : PathN l (i : Int) p) (hq : PathN l ((i + 1 : Nat) : Int) q) : cmpL p q = -1 := by
 obtain ⟨y, hy⟩ : ∃ y, l[i + 1]? = some y := ⟨l[i + 1]'hi, List.getElem?_eq_getElem hi⟩
 obtain ⟨pa, hpa, rfl⟩ := hq.inv rfl hy
 have hd : DescN l y.fParent (i : Int) := by
  rcases h.node (i + 1) y hi hy with ⟨e, _⟩ | ⟨e, _⟩ | ⟨_, hp, _⟩
  ·omega
  ·omega
  ·rcases hp with e | ⟨_, hd⟩
   ·rw [e]; exact desc_root h.up i (by omega)
   ·have : (((i + 1 : Nat) : Int) - 1) = (i : Int) := by omega
    rw [this] at hd; exact hd
 rcases hd.fork hpa hp with ⟨rfl, _⟩ | ⟨c, z, rest, g1, g2, rfl, g3⟩
 ·exact cmpL_app _ [] _
 ·have := g3 h.up
  exact cmpL_fork (h.sib (i + 1) y hy c z (by omega) g1 g2) rest [] pa
theorem reffind_v {l : List api_Node} (h : ValF l) (hn : ∀ x ∈ l, okN x.fName) (o : List ByteArray) (ho : o.length ≤ 1000000) (h0 : o ≠ []) : Ok (tracebookref50_Find l o) (fun r => (∃ k : Nat, r = (k : Int) ∧ k < l.length ∧ PathN l (k : Int) o) ∨ (r = -1 ∧ ∀ k : Nat, k < l.length → ¬ PathN l (k : Int) o)) := by
 have hl := h.len
 unfold tracebookref50_Find
 have hne : ¬ ((o.length : Int) = 0) := by
  cases o with
  | nil => exact absurd rfl h0
  | cons _ _ => simp; omega
 simp only [hne, decide_false, cond_false]
 refine ok_bindS (Q := InlR (fun _ => ∀ k : Nat, k < l.length → ¬ PathN l (k : Int) o) (fun r => ∃ k : Nat, r = (k : Int) ∧ k < l.length ∧ PathN l (k : Int) o)) (ok_upM l.length (fun n => ∀ k : Nat, k < n → ¬ PathN l (k : Int) o) (by omega) (fun k hk => by omega) (fun i hI h2 => ?_)) (fun _ hr => ok_some (.inr ⟨rfl, hr⟩)) (fun r hr => ok_some (.inl hr))
 unfold tracebookref50_Find_L1
 refine ok_ite (fun hi => ?_) (fun hi => ok_inr (show InlR _ _ (.inl ()) from fun k hk => hI k (by omega)))
 have hil : i < l.length := by omega
 obtain ⟨y, hy⟩ : ∃ y, l[i]? = some y := ⟨l[i]'hil, List.getElem?_eq_getElem hil⟩
 obtain ⟨p, hp, hlen, _⟩ := h.up.path i y hy
 rw [(Path_val h hn hil hp).2, Option.bind_some, compare_v p o (by omega) (by omega), Option.bind_some]
 refine ok_ite (fun e => ok_inr (show InlR _ _ (.inr _) from ⟨i, rfl, hil, ?_⟩)) (fun e => ?_)
 ·rw [← cmpL_zero e]; exact hp
 ·rw [w64_M (n := l.length) hil (by omega)]
  refine ok_inl ⟨hil, rfl, fun k hk hP => ?_⟩
  by_cases e2 : k = i
  ·subst e2; rw [hp.uni hP, cmpL_self] at e; exact e rfl
  ·exact hI k (by omega) hP
def rootN (l : List api_Node) (k : Nat) : Int := match l[k]? with | some y => if y.fParent = -1 then y.fTotal else 0 | none => 0
theorem ValF.tots {l : List api_Node} (h : ValF l) : ∃ t lf, Tots l t lf 0 ∧ PassT l t := by
 obtain ⟨⟨t, lf⟩, _, H⟩ := tots_ok l h.len h.good h.up
 exact ⟨t, lf, H, (pass_iff h.good h.node H).2 h.tot⟩
theorem ValF.roots {l : List api_Node} (h : ValF l) : sumF (rootN l) l.length = sumF (selfN l) l.length := by
 obtain ⟨t, lf, H, P⟩ := h.tots
 have e1 : sumF (tg t) l.length = sumF (selfN l) l.length + sumF (fun j => kidS l (tg t) 0 j) l.length := by
  rw [← sumF_add]
  exact sumF_congr (fun k hk => by rw [H.sum k hk]; simp)
 have e2 : sumF (fun j => kidS l (tg t) 0 j) l.length = sumF (fun m => tg t m - rootN l m) l.length := by
  unfold kidS
  rw [sumF_swap (fun j m => if 0 ≤ m ∧ isKid l j m = true then tg t m else 0)]
  refine sumF_congr (fun m hm => ?_)
  obtain ⟨y, hy⟩ : ∃ y, l[m]? = some y := ⟨l[m]'hm, List.getElem?_eq_getElem hm⟩
  have hu := h.up m y hm hy
  by_cases e : y.fParent = -1
  ·have hr : rootN l m = tg t m := by simp only [rootN, hy]; rw [if_pos e, (P m y hy).1]
   have hz : ∀ k, k < l.length → (if 0 ≤ m ∧ isKid l k m = true then tg t m else 0) = (0 : Int) := by
    intro k hk
    rw [if_neg]
    rintro ⟨_, hk⟩
    simp only [isKid, hy, decide_eq_true_eq] at hk
    omega
   rw [sumF_congr hz, sumF_zero, hr]; omega
  ·obtain ⟨p, hp⟩ := Int.eq_ofNat_of_zero_le (show 0 ≤ y.fParent by omega)
   have hz : ∀ k, k < l.length → (if 0 ≤ m ∧ isKid l k m = true then tg t m else 0) = (if k = p then tg t m else 0) := by
    intro k hk
    have : isKid l k m = true ↔ k = p := by
     simp only [isKid, hy, decide_eq_true_eq, hp]
     omega
    by_cases e : k = p
    ·rw [if_pos ⟨by omega, this.2 e⟩, if_pos e]
    ·rw [if_neg (fun h => e (this.1 h.2)), if_neg e]
   rw [sumF_congr hz, sumF_one, if_pos (by omega)]
   simp only [rootN, hy]
   rw [if_neg e]; omega
 rw [sumF_sub] at e2
 omega
theorem ValF.rootp {l : List api_Node} (h : ValF l) (k : Nat) : 0 ≤ rootN l k := by
 obtain ⟨t, lf, H, P⟩ := h.tots
 unfold rootN
 cases hy : l[k]? with
 | none => simp
 | some y =>
  simp only
  split
  ·rw [(P k y hy).1]; exact H.pos k
  ·omega
theorem ValF.selfp {l : List api_Node} (h : ValF l) (k : Nat) : 0 ≤ selfN l k := by
 unfold selfN
 cases hy : l[k]? with
 | none => simp
 | some y => exact (h.good.num k y hy).2.1
theorem sumF_mono {f : Nat → Int} (hf : ∀ k, 0 ≤ f k) : ∀ {n m : Nat}, n ≤ m → sumF f n ≤ sumF f m := by
 intro n m h
 induction m with
 | zero =>
  have : n = 0 := by omega
  subst this; omega
 | succ m ih =>
  rcases Nat.lt_or_ge n (m + 1) with g | g
  ·have := ih (by omega)
   have := hf m
   simp only [sumF]; omega
  ·have : n = m + 1 := by omega
   subst this; omega
theorem sum_v {l : List api_Node} (h : ValF l) (hn : ∀ x ∈ l, okN x.fName) : flame_Sum l = some (sumF (selfN l) l.length) := by
 have hl := h.len
 have : Ok (flame_Sum l) (fun r => r = sumF (selfN l) l.length) := by
  unfold flame_Sum
  rw [(h.check hn).1]
  simp only [Option.bind_some, decide_true, Bool.not_true, cond_false]
  refine ok_bind (Q := fun e => e = sumF (selfN l) l.length) (ok_up2M l.length (fun (a : Int) n => a = sumF (selfN l) n) (by omega) rfl (fun s i hI h2 => ?_)) (fun r hr => ok_some hr)
  unfold flame_Sum_L1
  dsimp only
  refine ok_ite (fun hi => ?_) (fun hi => ok_inr ?_)
  ·refine ok_bind (ok_ixM (by omega)) (fun y hy => ?_)
   rw [w64_M (n := l.length) (by omega) (by omega)]
   have e : s + y.fSelf = sumF (selfN l) (i + 1) := by rw [hI]; simp only [sumF, selfN_eq hy]
   have b1 := sumF_mono h.selfp (show i + 1 ≤ l.length by omega)
   have b2 := sumF_mono h.selfp (show 0 ≤ i + 1 by omega)
   have b3 := h.good.self
   simp only [sumF] at b2
   rw [e, w64_of (by simp only [sumF] at b1 b2 ⊢; omega)]
   exact ok_inl ⟨by omega, rfl, rfl⟩
  ·have : i = l.length := by omega
   rw [← this]; exact hI
 obtain ⟨r, h1, h2⟩ := this
 rw [h1, h2]
theorem ok_up2M' {l : List api_Node} (V : ValF l) (hn : ∀ x ∈ l, okN x.fName) : Ok (loop (tracebooklaw50_FlamePaths_L1 l) (0, [], 0)) (InlR (fun s => s = sumF (selfN l) l.length) (fun _ => False)) := by
 have hl := V.len
 refine ok_loop (fun s : Int × List ByteArray × Int => ∃ n : Nat, s.2.2 = (n : Int) ∧ n ≤ l.length ∧ s.1 = sumF (rootN l) n ∧ (0 < n → PathN l ((n : Int) - 1) s.2.1)) (fun s => ((l.length : Int) - s.2.2).toNat) (fun s hs => ?_) ⟨0, rfl, by omega, rfl, fun h => by omega⟩ (by simp [manyRounds]; omega)
 obtain ⟨a, c, b⟩ := s
 obtain ⟨n, rfl, g1, g2, g3⟩ := hs
 simp only at g2 g3
 unfold tracebooklaw50_FlamePaths_L1
 dsimp only
 refine ok_ite (fun hi => ?_) (fun hi => ok_inr (show InlR _ _ (.inl _) from ?_))
 ·have hil : n < l.length := by omega
  obtain ⟨y, hy⟩ : ∃ y, l[n]? = some y := ⟨l[n]'hil, List.getElem?_eq_getElem hil⟩
  obtain ⟨p, hp, hlen, hne⟩ := V.up.path n y hy
  have hpl : ¬ ((p.length : Int) = 0) := by
   cases p with
   | nil => exact absurd rfl hne
   | cons _ _ => simp; omega
  rw [(Path_val V hn hil hp).1, Option.bind_some]
  obtain ⟨f, hf, hf'⟩ := Find_val V hn p (by omega) hne
  have ef : f = (n : Int) := by
   rcases hf' with ⟨k, rfl, hk, hP⟩ | ⟨_, hno⟩
   ·exact V.inj (by omega) (by omega) hP hp
   ·exact absurd hp (hno n hil)
  subst ef
  rw [hf]
  simp only [hpl, decide_false, cond_false, Option.bind_some, decide_true, Bool.not_true]
  refine ok_bind (Q := fun v => v = false) ?_ (fun v hv => ?_)
  ·by_cases e0 : 0 < n
   ·obtain ⟨m, rfl⟩ : ∃ m, n = m + 1 := ⟨n - 1, by omega⟩
    have hc : PathN l (m : Int) c := by have := g3 e0; rwa [show (((m + 1 : Nat) : Int) - 1) = (m : Int) by omega] at this
    obtain ⟨z, hz⟩ : ∃ z, l[m]? = some z := ⟨l[m]'(by omega), List.getElem?_eq_getElem (by omega)⟩
    obtain ⟨q, hq, hqlen, _⟩ := V.up.path m z hz
    rw [← hc.uni hq] at hqlen
    have hlt : (0 : Int) < ((m + 1 : Nat) : Int) := by omega
    rw [compare_v c p (by omega) (by omega), V.incr hil hc hp]
    simp only [hlt, decide_true, cond_true, Option.bind_some]
    exact ok_some (by decide)
   ·have : ¬ ((0 : Int) < (n : Int)) := by omega
    simp only [this, decide_false, cond_false]
    exact ok_some rfl
  rw [hv]
  simp only [cond_false]
  rw [idx_nat, hy, Option.bind_some]
  have b1 := sumF_mono V.rootp (show n + 1 ≤ l.length by omega)
  have b2 := sumF_mono V.rootp (show 0 ≤ n + 1 by omega)
  have b3 := V.good.self
  rw [← V.roots] at b3
  simp only [sumF] at b2
  have er : rootN l n = if y.fParent = -1 then y.fTotal else 0 := by simp only [rootN, hy]
  refine ok_bind (Q := fun v => v = sumF (rootN l) (n + 1)) ?_ (fun v hv => ?_)
  ·refine ok_ite (fun e => ?_) (fun e => ok_some ?_)
   ·rw [Option.bind_some]
    rw [if_pos e] at er
    have e3 : a + y.fTotal = sumF (rootN l) (n + 1) := by rw [g2, ← er]; rfl
    rw [e3, w64_of (by simp only [sumF] at b1 b2 ⊢; omega)]
    exact ok_some rfl
   ·rw [if_neg e] at er
    rw [g2]; simp only [sumF, er]; omega
  rw [w64_M (n := l.length) hil (by omega)]
  refine ok_inl ⟨⟨n + 1, rfl, by omega, hv, fun _ => ?_⟩, by simp only; omega⟩
  rw [show (((n + 1 : Nat) : Int) - 1) = (n : Int) by omega]
  exact hp
 ·have : n = l.length := by omega
  subst this
  show a = _
  rw [g2, V.roots]
theorem find_bad {l : List api_Node} {r : Int} (h : flame_Check l = some r) (hr : r ≠ 0) (o : List ByteArray) : flame_Find l o = some (-1) := by
 unfold flame_Find
 rw [h]; simp [hr]
theorem find_nil {l : List api_Node} {r : Int} (h : flame_Check l = some r) : flame_Find l [] = some (-1) := by
 unfold flame_Find
 rw [h]; by_cases e : r = 0 <;> simp [e]
theorem path_bad {l : List api_Node} {r : Int} (h : flame_Check l = some r) (hr : r ≠ 0) (i : Int) : flame_Path l i = some [] := by
 unfold flame_Path
 rw [h]; simp [hr]
theorem flamePaths_holds (l : List api_Node) (o : List ByteArray) (h : okr_L_api_Node l) (ho : okr_L_str o) : tracebooklaw50_FlamePaths l o = some true := by
 obtain ⟨hz, hn⟩ := siz50 h
 have : Ok (tracebooklaw50_FlamePaths l o) (fun b => b = true) := by
  unfold tracebooklaw50_FlamePaths
  rw [awake50_eq]
  simp only [Option.bind_some, Bool.not_true, cond_false]
  refine ok_bind (Q := fun v => v = false → l.length ≤ 40 ∧ o.length ≤ 40) (ok_bind (few50 l hz) (fun b _ => ok_cond (fun _ => ok_some (by simp)) (fun _ => ok_ite (fun _ => ok_some (by simp)) (fun e1 => ok_some (fun e2 => ?_))))) (fun v hv => ?_)
  ·have := of_decide_eq_false e2
   omega
  refine ok_cond (fun _ => ok_some rfl) (fun e => ?_)
  obtain ⟨h40, o40⟩ := hv e
  obtain ⟨r, h1, h2, hV⟩ := check50 l hn hz
  rw [h1]
  simp only [Option.bind_some]
  by_cases er : r = 0
  ·have V := hV.1 er
   simp only [er, decide_true, Bool.not_true, cond_false]
   refine ok_bindS (Q := InlR (fun s => s = sumF (selfN l) l.length) (fun _ => False)) (ok_up2M' (l := l) V hn) (fun s hs => ?_) (fun r hr => hr.elim)
   have hs : s = sumF (selfN l) l.length := hs
   rw [sum_v V hn, Path_out V hn (.inl (by omega)), Path_out V hn (.inr (by omega))]
   simp only [Option.bind_some, hs, decide_true, cond_true]
   by_cases e0 : o = []
   ·subst e0
    rw [find_nil h1]
    exact ⟨_, rfl, rfl⟩
   ·obtain ⟨a, ha, ha'⟩ := Find_val V hn o (by omega) e0
    obtain ⟨b, hb, hb'⟩ := reffind_v V hn o (by omega) e0
    rw [ha, hb]
    have : a = b := by
     rcases ha' with ⟨k, rfl, hk, hP⟩ | ⟨rfl, hno⟩ <;> rcases hb' with ⟨m, rfl, hm, hP'⟩ | ⟨rfl, hno'⟩
     ·exact V.inj (by omega) (by omega) hP hP'
     ·exact absurd hP (hno' k hk)
     ·exact absurd hP' (hno m hm)
     ·rfl
    simp only [Option.bind_some, this, decide_true, cond_true]
    exact ⟨_, rfl, rfl⟩
  ·simp only [er, decide_false, Bool.not_false, cond_true]
   rw [find_bad h1 er, path_bad h1 er]
   exact ⟨_, rfl, rfl⟩
 obtain ⟨r, h1, h2⟩ := this
 rw [h1, h2]
end Go.VM
