/- The law holds: plain mathematics on what the functions compute. -/
import Derived.Test.YtnhjanhaokiahaaL27B
namespace Go.VM
theorem lt_of_get {α : Type} {xs : List α} {i : Nat} {y : α} (h : xs[i]? = some y) : i < xs.length := (List.getElem?_eq_some_iff.1 h).1
end Go.VM
namespace Go.VM
def Ok {α : Type} (x : Option α) (P : α → Prop) : Prop := ∃ r, x = some r ∧ P r
def Yes {α : Type} : α → Prop := fun _ => True
def InlR {α β : Type} (A : α → Prop) (B : β → Prop) : α ⊕ β → Prop
 | .inl a => A a
 | .inr b => B b
theorem ok_some {α : Type} {P : α → Prop} {r : α} (h : P r) : Ok (some r) P := ⟨r, rfl, h⟩
theorem ok_inl {α β : Type} {A : α → Prop} {B : β → Prop} {a : α} (h : A a) : Ok (some (.inl a)) (InlR A B) := ⟨_, rfl, h⟩
theorem ok_inr {α β : Type} {A : α → Prop} {B : β → Prop} {b : β} (h : B b) : Ok (some (.inr b)) (InlR A B) := ⟨_, rfl, h⟩
theorem ok_bind {α β : Type} {x : Option α} {f : α → Option β} {Q : α → Prop} {P : β → Prop} (hx : Ok x Q) (hf : ∀ r, Q r → Ok (f r) P) : Ok (x.bind f) P := by
 obtain ⟨r, h1, h2⟩ := hx
 subst h1; exact hf r h2
theorem ok_bindS {α β γ : Type} {x : Option (α ⊕ γ)} {f : α ⊕ γ → Option β} {Q : α ⊕ γ → Prop} {P : β → Prop} (hx : Ok x Q) (hf : ∀ r, Q (.inl r) → Ok (f (.inl r)) P) (hg : ∀ r, Q (.inr r) → Ok (f (.inr r)) P) : Ok (x.bind f) P :=
 ok_bind hx (fun r => match r with | .inl a => hf a | .inr b => hg b)
theorem ok_cond {α : Type} {b : Bool} {x y : Option α} {P : α → Prop} (h1 : b = true → Ok x P) (h2 : b = false → Ok y P) : Ok (cond b x y) P := by
 cases b
 ·exact h2 rfl
 ·exact h1 rfl
theorem Ok.mono {α : Type} {x : Option α} {P Q : α → Prop} (h : Ok x P) (hq : ∀ r, P r → Q r) : Ok x Q := by
 obtain ⟨r, h1, h2⟩ := h; exact ⟨r, h1, hq r h2⟩
theorem ok_idx {α : Type} {xs : List α} {i : Int} (h1 : 0 ≤ i) (h2 : i < xs.length) : Ok (idx xs i) (fun y => xs[i.toNat]? = some y) := by
 obtain ⟨n, rfl⟩ := Int.eq_ofNat_of_zero_le h1
 have h3 : n < xs.length := by omega
 rw [idx_nat]
 exact ⟨xs[n], by simp [h3], by simp [h3]⟩
theorem ok_loop {S ρ : Type} {step : S → Option (S ⊕ ρ)} (Inv : S → Prop) (m : S → Nat) {Post : ρ → Prop}
  (h : ∀ s, Inv s → Ok (step s) (InlR (fun s' => Inv s' ∧ m s' < m s) Post)) {s : S} (hs : Inv s) (hm : m s < manyRounds) : Ok (loop step s) Post := by
 refine loop_inv Inv m Post (fun s hs => ?_) hs hm
 obtain ⟨r, h1, h2⟩ := h s hs
 cases r with
 | inl a => exact Or.inl ⟨a, h1, h2⟩
 | inr b => exact Or.inr ⟨b, h1, h2⟩
theorem ok_up {ρ : Type} {step : Int → Option (Int ⊕ ρ)} (n : Nat) {Post : ρ → Prop} (hn : n ≤ 9223372036854775807)
  (h : ∀ i : Int, 0 ≤ i → i ≤ n → Ok (step i) (InlR (fun a => i < n ∧ a = i + 1) Post)) : Ok (loop step 0) Post := by
 refine ok_loop (fun i : Int => 0 ≤ i ∧ i ≤ (n : Int)) (fun i : Int => ((n : Int) - i).toNat) (fun i hi => (h i hi.1 hi.2).mono ?_) ⟨by omega, by omega⟩ (by simp [manyRounds]; omega)
 rintro (a | b) hr
 ·obtain ⟨h1, rfl⟩ : i < n ∧ a = i + 1 := hr
  exact ⟨⟨by omega, by omega⟩, by omega⟩
 ·exact hr
theorem ok_yes {α : Type} {r : α} : Ok (some r) Yes := ⟨r, rfl, trivial⟩
theorem ok_next {ρ : Type} {i : Int} {n : Nat} {P : ρ → Prop} (h1 : 0 ≤ i) (h2 : i < (n : Int)) (h3 : n ≤ 9223372036854775807) : Ok (some (.inl (w64 (i + 1)))) (InlR (fun a : Int => i < (n : Int) ∧ a = i + 1) P) :=
 ok_inl ⟨h2, w64_of (by omega)⟩
theorem ok_ite {α : Type} {p : Prop} [Decidable p] {x y : Option α} {P : α → Prop} (h1 : p → Ok x P) (h2 : ¬p → Ok y P) : Ok (cond (decide p) x y) P :=
 ok_cond (fun h => h1 (of_decide_eq_true h)) (fun h => h2 (of_decide_eq_false h))
theorem ok_nite {α : Type} {p : Prop} [Decidable p] {x y : Option α} {P : α → Prop} (h1 : ¬p → Ok x P) (h2 : p → Ok y P) : Ok (cond (!decide p) x y) P := by
 by_cases h : p
 ·simpa [h] using h2 h
 ·simpa [h] using h1 h
theorem ok_not {α : Type} {b : Bool} {x y : Option α} {P : α → Prop} (h1 : b = false → Ok x P) (h2 : b = true → Ok y P) : Ok (cond (!b) x y) P := by
 cases b
 ·exact h1 rfl
 ·exact h2 rfl
abbrev Tot {α : Type} (x : Option α) : Prop := Ok x Yes
theorem ok_up2 {σ ρ : Type} {step : σ × Int → Option ((σ × Int) ⊕ ρ)} (n : Nat) (Inv : σ → Int → Prop) {Post : ρ → Prop} (hn : n ≤ 9223372036854775807) {s0 : σ} (h0 : Inv s0 0)
  (h : ∀ (s : σ) (i : Int), Inv s i → 0 ≤ i → i ≤ n → Ok (step (s, i)) (InlR (fun a => i < n ∧ a.2 = i + 1 ∧ Inv a.1 (i + 1)) Post)) : Ok (loop step (s0, 0)) Post := by
 refine ok_loop (fun s : σ × Int => Inv s.1 s.2 ∧ 0 ≤ s.2 ∧ s.2 ≤ (n : Int)) (fun s : σ × Int => ((n : Int) - s.2).toNat) (fun s hi => (h s.1 s.2 hi.1 hi.2.1 hi.2.2).mono ?_) ⟨h0, by simp, by simp⟩ (by simp [manyRounds]; omega)
 rintro (⟨a, j⟩ | b) hr
 ·obtain ⟨h1, h2, h3⟩ : s.2 < n ∧ j = s.2 + 1 ∧ Inv a (s.2 + 1) := hr
  subst h2
  exact ⟨⟨h3, by simp; omega, by simp; omega⟩, by simp; omega⟩
 ·exact hr
theorem ok_upI {ρ : Type} {step : Int → Option (Int ⊕ ρ)} (n : Nat) (Inv : Int → Prop) {Post : ρ → Prop} (hn : n ≤ 9223372036854775807) (h0 : Inv 0)
  (h : ∀ i : Int, Inv i → 0 ≤ i → i ≤ n → Ok (step i) (InlR (fun a => i < n ∧ a = i + 1 ∧ Inv (i + 1)) Post)) : Ok (loop step 0) Post := by
 refine ok_loop (fun i : Int => Inv i ∧ 0 ≤ i ∧ i ≤ (n : Int)) (fun i : Int => ((n : Int) - i).toNat) (fun i hi => (h i hi.1 hi.2.1 hi.2.2).mono ?_) ⟨h0, by omega, by omega⟩ (by simp [manyRounds]; omega)
 rintro (a | b) hr
 ·obtain ⟨h1, rfl, h3⟩ : i < n ∧ a = i + 1 ∧ Inv (i + 1) := hr
  exact ⟨⟨h3, by omega, by omega⟩, by omega⟩
 ·exact hr
theorem room_ok {b n : Nat} (h1 : n * b ≤ 140737488355328) (h2 : n ≤ 9223372036854775807) : room b n = true := by
 simp only [room, Bool.and_eq_true]
 exact ⟨Nat.ble_eq_true_of_le h1, Nat.ble_eq_true_of_le h2⟩
theorem slices_Index_int_int_lt (l : List Int) (a : Int) (h : l.length ≤ 9223372036854775807) : Ok (slices_Index_int_int l a) (fun r => (0 ≤ r → l[r.toNat]? = some a) ∧ r < l.length) := by
 unfold slices_Index_int_int
 refine ok_bindS (Q := InlR Yes (fun r : Int => (0 ≤ r → l[r.toNat]? = some a) ∧ r < l.length)) (ok_up l.length h fun i h1 h2 => ?_) (fun _ _ => ok_some (And.intro (by omega) (by omega))) (fun _ hr => ?_)
 rotate_left
 ·exact ok_some hr
 unfold slices_Index_int_int_L1
 refine ok_ite (fun hi => ?_) (fun _ => ok_inr trivial)
 refine ok_bind (ok_idx h1 hi) (fun y hy => ?_)
 exact ok_ite (fun e => ok_inr ⟨fun _ => by rw [hy, e], hi⟩) (fun _ => ok_next h1 hi h)
theorem mget_mput {κ ν : Type} [DecidableEq κ] (k k' : κ) (v : ν) : ∀ (m : List (κ × ν)), mget k (mput k' v m) = if k = k' then some v else mget k m
 | [] => by simp [mput, mget]
 | p :: r => by
  simp only [mput]
  by_cases e : k' = p.1
  ·subst e
   simp only [if_true, mget]
   by_cases e2 : k = p.1 <;> simp [e2]
  ·rw [if_neg e]
   simp only [mget]
   rw [mget_mput k k' v r]
   by_cases e2 : k = p.1
   ·subst e2
    rw [if_pos rfl, if_pos rfl, if_neg (fun h => e h.symm)]
   ·rw [if_neg e2, if_neg e2]
theorem ok_up2N {σ ρ : Type} {step : σ × Int → Option ((σ × Int) ⊕ ρ)} (n : Nat) (Inv : σ → Nat → Prop) {Post : ρ → Prop} (hn : n ≤ 9223372036854775807) {s0 : σ} (h0 : Inv s0 0)
  (h : ∀ (s : σ) (i : Nat), Inv s i → i ≤ n → Ok (step (s, (i : Int))) (InlR (fun a => i < n ∧ a.2 = ((i + 1 : Nat) : Int) ∧ Inv a.1 (i + 1)) Post)) : Ok (loop step (s0, 0)) Post := by
 refine ok_up2 n (fun s i => Inv s i.toNat) hn h0 (fun s i hI h1 h2 => ?_)
 obtain ⟨k, rfl⟩ := Int.eq_ofNat_of_zero_le h1
 refine (h s k hI (by omega)).mono ?_
 rintro (⟨a, b⟩ | b) hr
 ·obtain ⟨h3, h4, h5⟩ : k < n ∧ b = ((k + 1 : Nat) : Int) ∧ Inv a (k + 1) := hr
  refine ⟨by omega, by omega, ?_⟩
  rw [show ((k : Int) + 1).toNat = k + 1 by omega]; exact h5
 ·exact hr
theorem ok_upN {ρ : Type} {step : Int → Option (Int ⊕ ρ)} (n : Nat) (Inv : Nat → Prop) {Post : ρ → Prop} (hn : n ≤ 9223372036854775807) (h0 : Inv 0)
  (h : ∀ i : Nat, Inv i → i ≤ n → Ok (step (i : Int)) (InlR (fun a => i < n ∧ a = ((i + 1 : Nat) : Int) ∧ Inv (i + 1)) Post)) : Ok (loop step 0) Post := by
 refine ok_upI n (fun i => Inv i.toNat) hn h0 (fun i hI h1 h2 => ?_)
 obtain ⟨k, rfl⟩ := Int.eq_ofNat_of_zero_le h1
 refine (h k hI (by omega)).mono ?_
 rintro (b | b) hr
 ·obtain ⟨h3, h4, h5⟩ : k < n ∧ b = ((k + 1 : Nat) : Int) ∧ Inv (k + 1) := hr
  refine ⟨by omega, by omega, ?_⟩
  rw [show ((k : Int) + 1).toNat = k + 1 by omega]; exact h5
 ·exact hr
theorem ok_ixN {α : Type} {xs : List α} {i : Nat} (h : i < xs.length) : Ok (idx xs (i : Int)) (fun y => xs[i]? = some y) := by
 rw [idx_nat]; exact ⟨xs[i], by simp [h], by simp [h]⟩
theorem w64_N {i n : Nat} (h : i < n) (hn : n ≤ 9223372036854775807) : w64 ((i : Int) + 1) = ((i + 1 : Nat) : Int) := by rw [w64_of (by omega)]; omega
theorem contains_p (l : List Int) (a : Int) (hl : l.length ≤ 9223372036854775807) : slices_Contains_int_int l a = some (decide (a ∈ l)) := by
 have : Ok (slices_Index_int_int l a) (fun r => 0 ≤ r ↔ a ∈ l) := by
  unfold slices_Index_int_int
  refine ok_bindS (Q := InlR (fun _ => a ∉ l) (fun r => 0 ≤ r ∧ a ∈ l)) (ok_upN l.length (fun n => ∀ (k : Nat) z, k < n → l[k]? = some z → z ≠ a) hl (by intro k z hk; omega) (fun i hI h2 => ?_)) (fun _ hq => ok_some ⟨fun h => by omega, fun h => absurd h hq⟩) (fun r hr => ok_some ⟨fun _ => hr.2, fun _ => hr.1⟩)
  unfold slices_Index_int_int_L1
  refine ok_ite (fun hi => ?_) (fun hi => ok_inr (fun hm => ?_))
  ·refine ok_bind (ok_ixN (by omega)) (fun y hy => ?_)
   refine ok_ite (fun e => ok_inr ⟨by omega, e ▸ List.mem_of_getElem? hy⟩) (fun e => ?_)
   rw [w64_N (n := l.length) (by omega) hl]
   refine ok_inl ⟨by omega, rfl, fun k z hk hz => ?_⟩
   by_cases e2 : k = i
   ·subst e2; rw [hy] at hz; cases hz; exact fun h => e h.symm
   ·exact hI k z (by omega) hz
  ·obtain ⟨k, hk⟩ := List.getElem?_of_mem hm
   exact hI k a (by have := lt_of_get hk; omega) hk rfl
 obtain ⟨r, h1, h2⟩ := this
 unfold slices_Contains_int_int
 rw [h1, Option.bind_some]
 congr 1
 exact decide_eq_decide.2 h2
def idsN (ths : List api_Thread) : Nat → List Int
 | 0 => []
 | n + 1 => match ths[n]? with
  | some y => if y.fId ∈ idsN ths n then idsN ths n else idsN ths n ++ [y.fId]
  | none => idsN ths n
theorem idsN_len (ths : List api_Thread) : ∀ n, (idsN ths n).length ≤ n
 | 0 => by simp [idsN]
 | n + 1 => by
  have := idsN_len ths n
  simp only [idsN]
  split
  ·split
   ·omega
   ·simp; omega
  ·omega
theorem idsN_nodup (ths : List api_Thread) : ∀ n, (idsN ths n).Nodup
 | 0 => by simp [idsN]
 | n + 1 => by
  have := idsN_nodup ths n
  simp only [idsN]
  split
  ·split
   ·exact this
   ·rename_i hn
    exact List.nodup_append.2 ⟨this, by simp, by intro a ha b hb; simp at hb; subst hb; exact fun e => hn (e ▸ ha)⟩
  ·exact this
theorem idsN_mem (ths : List api_Thread) (a : Int) : ∀ n, a ∈ idsN ths n ↔ ∃ (k : Nat) (y : api_Thread), k < n ∧ ths[k]? = some y ∧ y.fId = a
 | 0 => by simp [idsN]
 | n + 1 => by
  have ih := idsN_mem ths a n
  simp only [idsN]
  cases hy : ths[n]? with
  | none =>
   simp only
   rw [ih]
   constructor
   ·rintro ⟨k, y, h1, h2, h3⟩; exact ⟨k, y, by omega, h2, h3⟩
   ·rintro ⟨k, y, h1, h2, h3⟩
    by_cases e : k = n
    ·subst e; rw [hy] at h2; simp at h2
    ·exact ⟨k, y, by omega, h2, h3⟩
  | some y =>
   simp only
   have key : a ∈ idsN ths n ∨ y.fId = a ↔ ∃ (k : Nat) (z : api_Thread), k < n + 1 ∧ ths[k]? = some z ∧ z.fId = a := by
    constructor
    ·rintro (h | h)
     ·obtain ⟨k, z, h1, h2, h3⟩ := ih.1 h; exact ⟨k, z, by omega, h2, h3⟩
     ·exact ⟨n, y, by omega, hy, h⟩
    ·rintro ⟨k, z, h1, h2, h3⟩
     by_cases e : k = n
     ·subst e; rw [hy] at h2; cases h2; exact .inr h3
     ·exact .inl (ih.2 ⟨k, z, by omega, h2, h3⟩)
   rw [← key]
   split
   ·rename_i hin
    exact ⟨.inl, fun h => h.elim id (fun e => e ▸ hin)⟩
   ·simp only [List.mem_append, List.mem_singleton]
    exact ⟨fun h => h.imp id Eq.symm, fun h => h.imp id Eq.symm⟩
theorem ids_p (ths : List api_Thread) (hl : ths.length ≤ 1000000) : state_distinct ths = some (idsN ths ths.length) := by
 have : Ok (state_distinct ths) (fun r => r = idsN ths ths.length) := by
  unfold state_distinct
  refine ok_bind (ok_up2N ths.length (fun a n => a = idsN ths n) (by omega) rfl (fun a i hI h2 => ?_)) (fun r hr => ok_some hr)
  unfold state_distinct_L1
  dsimp only
  subst hI
  have hlen := idsN_len ths i
  refine ok_ite (fun hi => ?_) (fun hi => ok_inr (by rw [show i = ths.length by omega]))
  obtain ⟨y, hiy, hy⟩ := ok_ixN (xs := ths) (i := i) (by omega)
  rw [hiy, Option.bind_some, contains_p _ _ (by omega), Option.bind_some]
  refine ok_bind (Q := fun r => r = idsN ths (i + 1)) ?_ (fun r hr => ok_inl ⟨by omega, w64_N (n := ths.length) (by omega) (by omega), hr⟩)
  simp only [idsN, hy]
  by_cases hm : y.fId ∈ idsN ths i
  ·simp only [hm, decide_true, Bool.not_true, cond_false, if_true]; exact ok_some rfl
  ·simp only [hm, decide_false, Bool.not_false, cond_true, if_false]
   rw [room_ok (by simp; omega) (by simp; omega)]
   exact ok_some rfl
 obtain ⟨r, h1, h2⟩ := this
 rw [h1, h2]
def tmE (e : api_Timed) : Int := max 0 (min e.fWhen.fLo 1000000000000)
theorem tmE_rng (e : api_Timed) : 0 ≤ tmE e ∧ tmE e ≤ 1000000000000 := by unfold tmE; omega
theorem time_p (e : api_Timed) : state_time e = some (tmE e) := rfl
def popR (last : Int) : List state_change → List state_change
 | c :: d :: r => if last < c.fat then popR last (d :: r) else c :: d :: r
 | r => r
theorem popR_len (last : Int) : ∀ r, (popR last r).length ≤ r.length ∧ (r ≠ [] → popR last r ≠ [])
 | [] => by simp [popR]
 | [c] => by simp [popR]
 | c :: d :: r => by
  simp only [popR]
  have := popR_len last (d :: r)
  split
  ·exact ⟨by have := this.1; simp at this ⊢; omega, fun _ => this.2 (by simp)⟩
  ·exact ⟨Nat.le_refl _, fun h => h⟩
def chg (at' st cpu on by' : Int) : state_change := { fat := at', fstate := st, fcpu := cpu, fon := on, fby := by' }
def gapC (t : state_track) : List state_change := (popR t.flast t.fchanges.reverse).reverse ++ [chg t.flast 5 (-1) (-1) (-1)]
theorem becomes_p (t : state_track) (a b c d e : Int) (h : t.fchanges.length ≤ 1000000) : state_track_becomes_k1 t a b c d e = some { fchanges := t.fchanges ++ [chg a b c d e], fnext := t.fnext, flast := t.flast } := by
 unfold state_track_becomes_k1
 rw [room_ok (by simp; omega) (by simp; omega)]
 rfl
theorem now_p (t : state_track) (l : List state_change) (c : state_change) (h : t.fchanges = l ++ [c]) (hl : l.length ≤ 1000000) : state_track_now_k1 t = some c := by
 unfold state_track_now_k1
 rw [h, w64_of (by simp; omega)]
 have : ((((l ++ [c]).length : Nat) : Int) - 1) = ((l.length : Nat) : Int) := by simp
 rw [this, idx_nat]
 simp
theorem gap_p (t : state_track) (hl : t.fchanges.length ≤ 100000) : state_track_gap_k1 t = some { fchanges := gapC t, fnext := t.fnext, flast := t.flast } := by
 have key : Ok (loop (state_track_gap_k1_L1 t) t.fchanges) (fun r => r = (popR t.flast t.fchanges.reverse).reverse) := by
  refine ok_loop (fun s : List state_change => popR t.flast s.reverse = popR t.flast t.fchanges.reverse ∧ s.length ≤ 100000) (fun s => s.length) (fun s H => ?_) ⟨rfl, hl⟩ (by simp [manyRounds]; omega)
  obtain ⟨h1, h2⟩ := H
  unfold state_track_gap_k1_L1
  rcases List.eq_nil_or_concat s with hs | ⟨q, c, hs⟩
  ·subst hs
   have : ¬ ((1 : Int) < (([] : List state_change).length : Int)) := by simp
   simp only [this, decide_false, cond_false, Option.bind_some]
   refine ok_inr ?_
   rw [← h1]; rfl
  ·rw [List.concat_eq_append] at hs
   subst hs
   simp only [List.length_append, List.length_singleton] at h2
   rcases List.eq_nil_or_concat q with hq | ⟨p, d, hq⟩
   ·subst hq
    have : ¬ ((1 : Int) < (([] ++ [c] : List state_change).length : Int)) := by simp
    simp only [this, decide_false, cond_false, Option.bind_some]
    refine ok_inr ?_
    rw [← h1]; rfl
   ·rw [List.concat_eq_append] at hq
    subst hq
    simp only [List.length_append, List.length_singleton] at h2
    have hlt : (1 : Int) < ((p ++ [d] ++ [c] : List state_change).length : Int) := by simp; omega
    simp only [hlt, decide_true, cond_true]
    rw [now_p _ (p ++ [d]) c rfl (by simp; omega)]
    simp only [Option.bind_some]
    have hrev : (p ++ [d] ++ [c]).reverse = c :: d :: p.reverse := by simp
    rw [hrev] at h1
    simp only [popR] at h1
    refine ok_ite (fun e => ?_) (fun e => ok_inr ?_)
    ·rw [if_pos e] at h1
     have hlen : w64 (((p ++ [d] ++ [c] : List state_change).length : Int) - 1) = ((p ++ [d]).length : Int) := by
      rw [w64_of (by simp; omega)]; simp; omega
     rw [hlen]
     have hsl : slcPart (p ++ [d] ++ [c]) 0 ((p ++ [d]).length : Int) = some (p ++ [d]) := by
      unfold slcPart
      rw [if_pos ⟨by omega, by omega, by simp⟩]
      show some (List.drop 0 (List.take (p ++ [d]).length (p ++ [d] ++ [c]))) = _
      rw [List.take_left]; rfl
     rw [hsl, Option.bind_some]
     refine ok_inl ⟨⟨?_, by simp; omega⟩, by simp⟩
     rw [show (p ++ [d]).reverse = d :: p.reverse by simp]; exact h1
    ·rw [if_neg e] at h1
     rw [← h1]; simp
 obtain ⟨r, h1, h2⟩ := key
 unfold state_track_gap_k1
 rw [h1, Option.bind_some, h2]
 have hp := (popR_len t.flast t.fchanges.reverse).1
 rw [becomes_p _ _ _ _ _ _ (by simp at hp ⊢; omega)]
 rfl
def evT (t : state_track) (e : api_Timed) : state_track :=
 let cs := if e.fId.fSerial = t.fnext then t.fchanges else gapC t
 { fchanges := if e.fEvent.fKind = 8 then cs ++ [chg (tmE e) 4 e.fEvent.fN (-1) (-1)] else if e.fEvent.fKind = 9 then cs ++ [chg (tmE e) e.fEvent.fN (-1) (if e.fEvent.fN = 2 then e.fEvent.fM else -1) (-1)] else cs, fnext := w64 (e.fId.fSerial + 1), flast := tmE e }
theorem gapC_len (t : state_track) : (gapC t).length ≤ t.fchanges.length + 1 ∧ gapC t ≠ [] := by
 have hp := (popR_len t.flast t.fchanges.reverse).1
 unfold gapC
 exact ⟨by simp at hp ⊢; omega, by simp⟩
theorem event_p (t : state_track) (e : api_Timed) (hl : t.fchanges.length ≤ 100000) : state_track_event_k1 t e = some (evT t e) := by
 have hg := gapC_len t
 have key : Ok (state_track_event_k1 t e) (fun r => r = evT t e) := by
  unfold state_track_event_k1
  rw [time_p, Option.bind_some]
  refine ok_bind (Q := fun v => v.1 = (if e.fId.fSerial = t.fnext then t.fchanges else gapC t)) ?_ (fun v hv => ?_)
  ·refine ok_nite (fun h => ?_) (fun h => ok_some ?_)
   ·rw [gap_p t hl, Option.bind_some]
    exact ok_some (by rw [if_neg h])
   ·rw [if_pos h]
  ·obtain ⟨v1, v2, v3⟩ := v
   simp only at hv ⊢
   have hvl : v1.length ≤ 100001 := by rw [hv]; split <;> omega
   unfold evT
   simp only [← hv]
   refine ok_ite (fun h => ?_) (fun h => ?_)
   ·rw [becomes_p _ _ _ _ _ _ (by simp; omega), Option.bind_some]
    exact ok_some (by rw [if_pos h])
   ·refine ok_ite (fun h2 => ?_) (fun h2 => ok_some (by rw [if_neg h, if_neg h2]))
    refine ok_bind (Q := fun v => v = (if e.fEvent.fN = 2 then e.fEvent.fM else -1)) ?_ (fun v hv2 => ?_)
    ·refine ok_ite (fun h3 => ok_some (by rw [if_pos h3])) (fun h3 => ok_some (by rw [if_neg h3]))
    ·rw [becomes_p _ _ _ _ _ _ (by simp; omega), Option.bind_some]
     exact ok_some (by rw [if_neg h, if_pos h2, hv2])
 obtain ⟨r, h1, h2⟩ := key
 rw [h1, h2]
def lastS (t : state_track) : Int := match t.fchanges.getLast? with
 | some c => c.fstate
 | none => 0
def wkT (t : state_track) (a b : Int) : state_track := if lastS t = 1 ∨ lastS t = 2 then { fchanges := t.fchanges ++ [chg a 0 (-1) (-1) b], fnext := t.fnext, flast := t.flast } else t
theorem wake_p (t : state_track) (a b : Int) (hl : t.fchanges.length ≤ 100000) (hn : t.fchanges ≠ []) : state_track_wake_k1 t a b = some (wkT t a b) := by
 rcases List.eq_nil_or_concat t.fchanges with h | ⟨q, c, h⟩
 ·exact absurd h hn
 ·rw [List.concat_eq_append] at h
  have hql : q.length ≤ 100000 := by rw [h] at hl; simp at hl; omega
  have hls : lastS t = c.fstate := by unfold lastS; rw [h]; simp
  have key : Ok (state_track_wake_k1 t a b) (fun r => r = wkT t a b) := by
   unfold state_track_wake_k1
   rw [now_p t q c h (by omega), Option.bind_some]
   unfold wkT
   rw [hls]
   refine ok_bind (Q := fun v => v = decide (c.fstate = 1 ∨ c.fstate = 2)) ?_ (fun v hv => ?_)
   ·refine ok_ite (fun e => ok_some (by simp [e])) (fun e => ok_some (by simp [e]))
   ·subst hv
    refine ok_ite (fun e => ?_) (fun e => ok_some (by rw [if_neg e]))
    rw [becomes_p _ _ _ _ _ _ (by omega), Option.bind_some]
    exact ok_some (by rw [if_pos e])
  obtain ⟨r, h1, h2⟩ := key
  rw [h1, h2]
def stT (id : Int) (t : state_track) (e : api_Timed) : state_track :=
 let t1 := if e.fId.fThread = id then evT t e else t
 if e.fEvent.fN = id ∧ e.fEvent.fKind = 10 then wkT t1 (tmE e) e.fId.fThread else t1
def trk0 : state_track := { fchanges := [chg 0 5 (-1) (-1) (-1)], fnext := 0, flast := 0 }
def trkN (id : Int) (o : List api_Timed) : Nat → state_track
 | 0 => trk0
 | n + 1 => match o[n]? with
  | some e => stT id (trkN id o n) e
  | none => trkN id o n
theorem evT_len (t : state_track) (e : api_Timed) (hn : t.fchanges ≠ []) : (evT t e).fchanges.length ≤ t.fchanges.length + 2 ∧ (evT t e).fchanges ≠ [] := by
 have hg := gapC_len t
 have hc : (if e.fId.fSerial = t.fnext then t.fchanges else gapC t).length ≤ t.fchanges.length + 1 ∧ (if e.fId.fSerial = t.fnext then t.fchanges else gapC t) ≠ [] := by
  split
  ·exact ⟨by omega, hn⟩
  ·exact hg
 unfold evT
 simp only
 generalize (if e.fId.fSerial = t.fnext then t.fchanges else gapC t) = cs at *
 split
 ·exact ⟨by simp; omega, by simp⟩
 ·split
  ·exact ⟨by simp; omega, by simp⟩
  ·exact ⟨by omega, hc.2⟩
theorem wkT_len (t : state_track) (a b : Int) (hn : t.fchanges ≠ []) : (wkT t a b).fchanges.length ≤ t.fchanges.length + 1 ∧ (wkT t a b).fchanges ≠ [] := by
 unfold wkT
 split
 ·exact ⟨by simp, by simp⟩
 ·exact ⟨by omega, hn⟩
theorem trkN_len (id : Int) (o : List api_Timed) : ∀ n, (trkN id o n).fchanges.length ≤ 1 + 3 * n ∧ (trkN id o n).fchanges ≠ []
 | 0 => by simp [trkN, trk0]
 | n + 1 => by
  obtain ⟨h1, h2⟩ := trkN_len id o n
  simp only [trkN]
  split
  ·rename_i e _
   unfold stT
   simp only
   have h3 : (if e.fId.fThread = id then evT (trkN id o n) e else trkN id o n).fchanges.length ≤ 3 + 3 * n ∧ (if e.fId.fThread = id then evT (trkN id o n) e else trkN id o n).fchanges ≠ [] := by
    split
    ·have := evT_len (trkN id o n) e h2; exact ⟨by omega, this.2⟩
    ·exact ⟨by omega, h2⟩
   split
   ·have := wkT_len _ (tmE e) e.fId.fThread h3.2; exact ⟨by omega, this.2⟩
   ·exact ⟨by omega, h3.2⟩
  ·exact ⟨by omega, h2⟩
def endN (o : List api_Timed) (e0 : Int) : Nat → Int
 | 0 => e0
 | n + 1 => match o[n]? with
  | some e => max (endN o e0 n) (tmE e)
  | none => endN o e0 n
def Mp (ids : List Int) (f : Int → state_track) (m : List (Int × state_track)) : Prop := ∀ k, mget k m = if k ∈ ids then some (f k) else none
theorem Mp.put {ids : List Int} {f : Int → state_track} {m : List (Int × state_track)} (h : Mp ids f m) {a : Int} (ha : a ∈ ids) (x : state_track) : Mp ids (fun k => if k = a then x else f k) (mput a x m) := by
 intro k
 rw [mget_mput, h k]
 by_cases e : k = a
 ·subst e; simp [ha]
 ·simp [e]
theorem Mp.look {ids : List Int} {f : Int → state_track} {m : List (Int × state_track)} (h : Mp ids f m) (a : Int) : lookS a m = some (if a ∈ ids then .inr (f a) else .inl ()) := by
 unfold lookS
 rw [h a]
 by_cases e : a ∈ ids <;> simp [e]
theorem Of_L2_step (o : List api_Timed) (ids : List Int) (f : Int → state_track) (hf : ∀ k, (f k).fchanges.length ≤ 10000 ∧ (f k).fchanges ≠ []) (m : List (Int × state_track)) (hm : Mp ids f m) (e0 : Int) (i : Nat) (y : api_Timed) (hy : o[i]? = some y) (hi : i < o.length) (hl : o.length ≤ 1000000) :
  Ok (state_Of_L2 o (e0, m, (i : Int))) (fun r => ∃ m', r = .inl (max e0 (tmE y), m', ((i + 1 : Nat) : Int)) ∧ Mp ids (fun k => stT k (f k) y) m') := by
 unfold state_Of_L2
 dsimp only
 refine ok_ite (fun _ => ?_) (fun h => absurd (by omega) h)
 rw [show idx o (i : Int) = some y by rw [idx_nat]; exact hy, Option.bind_some, time_p, Option.bind_some, hm.look]
 have fin : ∀ v : Int × List (Int × state_track), v.1 = max e0 (tmE y) → Mp ids (fun k => stT k (f k) y) v.2 → Ok ((some v : Option (Int × List (Int × state_track))).bind fun (v121, v122) => some (.inl (v121, v122, (w64 ((i : Int) + 1))))) (fun r => ∃ m', r = (.inl (max e0 (tmE y), m', ((i + 1 : Nat) : Int)) : (Int × List (Int × state_track) × Int) ⊕ (Int × List (Int × state_track))) ∧ Mp ids (fun k => stT k (f k) y) m') := by
  intro v h1 h2
  obtain ⟨a, b⟩ := v
  simp only at h1 h2
  subst h1
  exact ok_some ⟨b, by rw [w64_N (n := o.length) hi (by omega)], h2⟩
 by_cases ha : y.fId.fThread ∈ ids
 ·rw [if_pos ha, Option.bind_some]
  simp only
  rw [event_p _ _ (by have := (hf y.fId.fThread).1; omega), Option.bind_some]
  have hm1 := hm.put ha (evT (f y.fId.fThread) y)
  rw [hm1.look]
  by_cases hb : y.fEvent.fN ∈ ids
  ·rw [if_pos hb, Option.bind_some]
   simp only
   by_cases hk : y.fEvent.fKind = 10
   ·simp only [hk, decide_true, cond_true, Option.bind_some]
    have hlen : (if y.fEvent.fN = y.fId.fThread then evT (f y.fId.fThread) y else f y.fEvent.fN).fchanges.length ≤ 100000 ∧ (if y.fEvent.fN = y.fId.fThread then evT (f y.fId.fThread) y else f y.fEvent.fN).fchanges ≠ [] := by
     split
     ·have h3 := hf y.fId.fThread
      have h4 := evT_len (f y.fId.fThread) y h3.2
      exact ⟨by omega, h4.2⟩
     ·have h3 := hf y.fEvent.fN; exact ⟨by omega, h3.2⟩
    rw [wake_p _ _ _ hlen.1 hlen.2]
    simp only [Option.bind_some]
    refine fin (_, _) rfl ?_
    intro k
    rw [hm1.put hb _ k]
    congr 2
    simp only [stT]
    by_cases e1 : k = y.fEvent.fN
    ·subst e1
     by_cases e2 : y.fEvent.fN = y.fId.fThread
     ·simp [e2, hk]
     ·have e3 : ¬ y.fId.fThread = y.fEvent.fN := fun h => e2 h.symm
      simp [e2, e3, hk]
    ·have e3 : ¬ y.fEvent.fN = k := fun h => e1 h.symm
     by_cases e2 : k = y.fId.fThread
     ·subst e2; simp [e1, e3]
     ·have e4 : ¬ y.fId.fThread = k := fun h => e2 h.symm
      simp [e1, e2, e3, e4]
   ·simp only [hk, decide_false, cond_false]
    refine fin (_, _) rfl ?_
    intro k
    rw [hm1 k]
    congr 2
    simp only [stT, hk, and_false, if_false]
    by_cases e2 : k = y.fId.fThread
    ·subst e2; simp
    ·have e4 : ¬ y.fId.fThread = k := fun h => e2 h.symm
     simp [e2, e4]
  ·rw [if_neg hb, Option.bind_some]
   simp only
   refine fin (_, _) rfl ?_
   intro k
   rw [hm1 k]
   by_cases hkk : k ∈ ids
   ·rw [if_pos hkk, if_pos hkk]
    congr 1
    have e3 : ¬ y.fEvent.fN = k := fun h => hb (h ▸ hkk)
    simp only [stT, e3, false_and, if_false]
    by_cases e2 : k = y.fId.fThread
    ·subst e2; simp
    ·have e4 : ¬ y.fId.fThread = k := fun h => e2 h.symm
     simp [e2, e4]
   ·rw [if_neg hkk, if_neg hkk]
 ·rw [if_neg ha, Option.bind_some]
  simp only
  rw [hm.look]
  by_cases hb : y.fEvent.fN ∈ ids
  ·rw [if_pos hb, Option.bind_some]
   simp only
   by_cases hk : y.fEvent.fKind = 10
   ·simp only [hk, decide_true, cond_true, Option.bind_some]
    have h3 := hf y.fEvent.fN
    rw [wake_p _ _ _ (by omega) h3.2]
    simp only [Option.bind_some]
    refine fin (_, _) rfl ?_
    intro k
    rw [hm.put hb _ k]
    by_cases hkk : k ∈ ids
    ·rw [if_pos hkk, if_pos hkk]
     congr 1
     have e4 : ¬ y.fId.fThread = k := fun h => ha (h ▸ hkk)
     simp only [stT, e4, if_false, hk, and_true]
     by_cases e1 : k = y.fEvent.fN
     ·subst e1; simp
     ·have e3 : ¬ y.fEvent.fN = k := fun h => e1 h.symm
      simp [e1, e3]
    ·rw [if_neg hkk, if_neg hkk]
   ·simp only [hk, decide_false, cond_false]
    refine fin (_, _) rfl ?_
    intro k
    rw [hm k]
    by_cases hkk : k ∈ ids
    ·rw [if_pos hkk, if_pos hkk]
     congr 1
     have e4 : ¬ y.fId.fThread = k := fun h => ha (h ▸ hkk)
     simp [stT, e4, hk]
    ·rw [if_neg hkk, if_neg hkk]
  ·rw [if_neg hb, Option.bind_some]
   simp only
   refine fin (_, _) rfl ?_
   intro k
   rw [hm k]
   by_cases hkk : k ∈ ids
   ·rw [if_pos hkk, if_pos hkk]
    congr 1
    have e4 : ¬ y.fId.fThread = k := fun h => ha (h ▸ hkk)
    have e3 : ¬ y.fEvent.fN = k := fun h => hb (h ▸ hkk)
    simp [stT, e4, e3]
   ·rw [if_neg hkk, if_neg hkk]
theorem same27_ok (a b : api_State) : Tot (state_same a b) := by
 unfold state_same
 refine ok_bind (Q := Yes) ?_ (fun _ _ => ok_yes)
 refine ok_ite (fun _ => ?_) (fun _ => ok_yes)
 exact ok_ite (fun _ => ok_yes) (fun _ => ok_yes)
theorem states_ok (t : state_track) (id e : Int) (hl : t.fchanges.length ≤ 100000) : Ok (state_track_states_k1 t id e) (fun r => r.length ≤ t.fchanges.length) := by
 unfold state_track_states_k1
 refine ok_bind (ok_up2N t.fchanges.length (fun (a : List api_State) n => a.length ≤ n) (by omega) (by simp) (fun a i hI h2 => ?_)) (fun r hr => ok_some hr)
 unfold state_track_states_k1_L1
 dsimp only
 refine ok_ite (fun hi => ?_) (fun hi => ok_inr (by omega))
 obtain ⟨y, hiy, hy⟩ := ok_ixN (xs := t.fchanges) (i := i) (by omega)
 rw [hiy, Option.bind_some]
 refine ok_bind (Q := fun v => v.length ≤ i + 1) ?_ (fun v hv => ok_inl ⟨by omega, w64_N (n := t.fchanges.length) (by omega) (by omega), hv⟩)
 rw [w64_N (n := t.fchanges.length) (by omega) (by omega)]
 refine ok_bind (Q := Yes) ?_ (fun v _ => ?_)
 ·refine ok_ite (fun h => ?_) (fun _ => ok_yes)
  obtain ⟨z, hz, _⟩ := ok_ixN (xs := t.fchanges) (i := i + 1) (by omega)
  rw [hz, Option.bind_some, Option.bind_some]
  exact ok_yes
 obtain ⟨v57, v58⟩ := v
 simp only
 refine ok_ite (fun _ => ok_some (by omega)) (fun _ => ?_)
 have hw : w64 ((a.length : Int) - 1) = (a.length : Int) - 1 := w64_of (by omega)
 rw [hw]
 refine ok_bind (Q := fun v => v = true → 0 < a.length) ?_ (fun v hv => ?_)
 ·refine ok_ite (fun h => ?_) (fun _ => ok_some (by simp))
  obtain ⟨z, hz, _⟩ := ok_idx (xs := a) (i := (a.length : Int) - 1) h (by omega)
  rw [hz, Option.bind_some]
  refine ok_bind (same27_ok _ _) (fun b _ => ok_some (fun _ => by omega))
 cases v with
 | true =>
  have hpos := hv rfl
  obtain ⟨z, hz, _⟩ := ok_idx (xs := a) (i := (a.length : Int) - 1) (by omega) (by omega)
  simp only [cond_true]
  rw [hz, Option.bind_some]
  refine ok_bind (Q := Yes) ?_ (fun w _ => ok_some (by simp; omega))
  obtain ⟨z', hz', _⟩ := ok_idx (xs := a.set ((a.length : Int) - 1).toNat { fThread := z.fThread, fState := z.fState, fSpan := { fFrom := z.fSpan.fFrom, fTo := v57 }, fCpu := z.fCpu, fOn := z.fOn, fBy := z.fBy }) (i := (a.length : Int) - 1) (by omega) (by simp; omega)
  rw [hz']
  exact ok_yes
 | false =>
  simp only [cond_false]
  rw [room_ok (by simp; omega) (by simp; omega)]
  exact ok_some (by simp; omega)
def stsT (t : state_track) (id e : Int) : List api_State := (state_track_states_k1 t id e).getD []
theorem states_p (t : state_track) (id e : Int) (hl : t.fchanges.length ≤ 100000) : state_track_states_k1 t id e = some (stsT t id e) ∧ (stsT t id e).length ≤ t.fchanges.length := by
 obtain ⟨r, h1, h2⟩ := states_ok t id e hl
 unfold stsT
 rw [h1]
 exact ⟨rfl, h2⟩
theorem Of_L2_p (o : List api_Timed) (ids : List Int) (hl : o.length ≤ 1000) (e0 : Int) (m : List (Int × state_track)) (hm : Mp ids (fun _ => trk0) m) :
  Ok (loop (state_Of_L2 o) (e0, m, 0)) (fun r => r.1 = endN o e0 o.length ∧ Mp ids (fun k => trkN k o o.length) r.2) := by
 refine ok_loop (fun s : Int × List (Int × state_track) × Int => ∃ i : Nat, i ≤ o.length ∧ s.2.2 = (i : Int) ∧ s.1 = endN o e0 i ∧ Mp ids (fun k => trkN k o i) s.2.1) (fun s => o.length - s.2.2.toNat) (fun s H => ?_) ⟨0, by omega, rfl, rfl, hm⟩ (by simp [manyRounds]; omega)
 obtain ⟨e, m, j⟩ := s
 obtain ⟨i, h1, h2, h3, h4⟩ := H
 simp only at h2 h3 h4
 subst h2 h3
 by_cases hi : i < o.length
 ·have hy : o[i]? = some o[i] := List.getElem?_eq_getElem hi
  obtain ⟨r, hr, m', rfl, hm'⟩ := Of_L2_step o ids (fun k => trkN k o i) (fun k => by have := trkN_len k o i; exact ⟨by omega, this.2⟩) m h4 (endN o e0 i) i o[i] hy hi (by omega)
  refine ⟨_, hr, ⟨i + 1, by omega, rfl, ?_, ?_⟩, ?_⟩
  ·simp only [endN, hy]
  ·intro k
   rw [hm' k]
   simp only [trkN, hy]
  ·simp only; omega
 ·have e : i = o.length := by omega
  subst e
  unfold state_Of_L2
  dsimp only
  refine ok_ite (fun h => by omega) (fun _ => ok_inr ⟨rfl, h4⟩)
theorem Of_L3_p (ids : List Int) (hnd : ids.Nodup) (hl : ids.length ≤ 1000) : Ok (loop (state_Of_L3 ids) ([], 0)) (fun r => Mp ids (fun _ => trk0) r) := by
 refine ok_up2N ids.length (fun (m : List (Int × state_track)) n => Mp (ids.take n) (fun _ => trk0) m) (by omega) (by intro k; simp [mget]) (fun m i hI h2 => ?_)
 unfold state_Of_L3
 dsimp only
 refine ok_ite (fun hi => ?_) (fun hi => ok_inr (by rw [show i = ids.length by omega, List.take_length] at hI; exact hI))
 obtain ⟨y, hiy, hy⟩ := ok_ixN (xs := ids) (i := i) (by omega)
 rw [hiy, Option.bind_some, becomes_p _ _ _ _ _ _ (by simp), Option.bind_some]
 refine ok_inl ⟨by omega, w64_N (n := ids.length) (by omega) (by omega), fun k => ?_⟩
 have hlt := lt_of_get hy
 have hy' : ids[i] = y := by have := List.getElem?_eq_getElem hlt; rw [hy] at this; exact (Option.some.inj this).symm
 rw [mget_mput, hI k, List.take_succ_eq_append_getElem hlt, hy']
 by_cases e : k = y
 ·subst e; simp [trk0]
 ·simp [e]
def endO (o : List api_Timed) (e0 : Int) : Int := max 0 (min (endN o e0 o.length) 1000000000000)
def ofL (o : List api_Timed) (e : Int) (ids : List Int) : List api_State := ids.flatMap fun id => stsT (trkN id o o.length) id e
theorem flatMap_snoc {α β : Type} (f : α → List β) (l : List α) (x : α) : (l ++ [x]).flatMap f = l.flatMap f ++ f x := by simp
theorem stsN_len (o : List api_Timed) (e id : Int) (hl : o.length ≤ 1000) : (stsT (trkN id o o.length) id e).length ≤ 3001 := by
 have h1 := trkN_len id o o.length
 have h2 := (states_p (trkN id o o.length) id e (by omega)).2
 omega
theorem ofL_len (o : List api_Timed) (e : Int) (hl : o.length ≤ 1000) : ∀ ids : List Int, (ofL o e ids).length ≤ 3001 * ids.length
 | [] => by simp [ofL]
 | id :: ids => by
  have h1 := stsN_len o e id hl
  have h2 := ofL_len o e hl ids
  unfold ofL at h2 ⊢
  simp only [List.flatMap_cons, List.length_append, List.length_cons]
  omega
theorem Of_p (ths : List api_Thread) (o : List api_Timed) (e0 : Int) (ht : ths.length ≤ 1000) (hl : o.length ≤ 1000) : state_Of ths o e0 = some (ofL o (endO o e0) (idsN ths ths.length)) := by
 have : Ok (state_Of ths o e0) (fun r => r = ofL o (endO o e0) (idsN ths ths.length)) := by
  unfold state_Of
  rw [ids_p ths (by omega), Option.bind_some]
  have hn := idsN_nodup ths ths.length
  have hil := idsN_len ths ths.length
  generalize idsN ths ths.length = ids at *
  refine ok_bind (Of_L3_p ids hn (by omega)) (fun m hm => ?_)
  refine ok_bind (Of_L2_p o ids hl e0 m hm) (fun r hr => ?_)
  obtain ⟨e, m'⟩ := r
  obtain ⟨h1, h2⟩ := hr
  simp only at h1 h2 ⊢
  subst h1
  refine ok_bind (ok_up2N ids.length (fun (a : List api_State) n => a = ofL o (endO o e0) (ids.take n)) (by omega) (by simp [ofL]) (fun a i hI h3 => ?_)) (fun r hr => ok_some hr)
  unfold state_Of_L1
  dsimp only
  subst hI
  refine ok_ite (fun hi => ?_) (fun hi => ok_inr (by rw [show i = ids.length by omega, List.take_length]))
  obtain ⟨y, hiy, hy⟩ := ok_ixN (xs := ids) (i := i) (by omega)
  rw [hiy, Option.bind_some, h2.look, if_pos (List.mem_of_getElem? hy), Option.bind_some]
  simp only
  have htl := trkN_len y o o.length
  have hst := states_p (trkN y o o.length) y (endO o e0) (by omega)
  have hsl := stsN_len o (endO o e0) y hl
  have hol := ofL_len o (endO o e0) hl (ids.take i)
  rw [List.length_take] at hol
  rw [show max 0 (min (endN o e0 o.length) 1000000000000) = endO o e0 from rfl, hst.1, Option.bind_some]
  have hmin : min i ids.length ≤ 1000 := by omega
  have hmul := Nat.mul_le_mul_left 3001 hmin
  rw [room_ok (by omega) (by omega)]
  have hlt := lt_of_get hy
  have hy' : ids[i] = y := by have := List.getElem?_eq_getElem hlt; rw [hy] at this; exact (Option.some.inj this).symm
  refine ok_inl ⟨by omega, w64_N (n := ids.length) (by omega) (by omega), ?_⟩
  rw [List.take_succ_eq_append_getElem hlt, hy']
  unfold ofL
  rw [flatMap_snoc]
 obtain ⟨r, h1, h2⟩ := this
 rw [h1, h2]
theorem awake27 : tracebooklaw27_awake = some true := by kernel_rfl
structure Ord27 (o : List api_Timed) : Prop where
 ser : ∀ (i : Nat) e, o[i]? = some e → 0 ≤ e.fId.fSerial ∧ e.fId.fSerial ≤ 1000000000000000
 tm : ∀ (i : Nat) e e', o[i]? = some e → o[i + 1]? = some e' → tmE e ≤ tmE e'
theorem Time_p (e : api_Timed) : tracebookref27_Time e = some (tmE e) := by
 have : Ok (tracebookref27_Time e) (fun r => r = tmE e) := by
  unfold tracebookref27_Time tmE
  refine ok_ite (fun h => ok_some (by omega)) (fun h => ?_)
  exact ok_ite (fun h => ok_some (by omega)) (fun h => ok_some (by omega))
 obtain ⟨r, h1, h2⟩ := this
 rw [h1, h2]
theorem ordered_ok (o : List api_Timed) (hl : o.length ≤ 1000000) : Ok (tracebookref27_Ordered o) (fun b => b = true → Ord27 o) := by
 unfold tracebookref27_Ordered
 refine ok_bindS (Q := InlR (fun _ => Ord27 o) (fun r => r = false)) (ok_upN o.length (fun n => (∀ (i : Nat) e, i < n → o[i]? = some e → 0 ≤ e.fId.fSerial ∧ e.fId.fSerial ≤ 1000000000000000) ∧ ∀ (i : Nat) e e', i + 1 < n → o[i]? = some e → o[i + 1]? = some e' → tmE e ≤ tmE e') (by omega) ⟨by intro i e h; omega, by intro i e e' h; omega⟩ (fun i hI h2 => ?_)) (fun _ hq => ok_some (fun _ => hq)) (fun r hr => ok_some (fun h => by rw [hr] at h; simp at h))
 unfold tracebookref27_Ordered_L1
 refine ok_ite (fun hi => ?_) (fun hi => ok_inr ⟨fun k e hk => hI.1 k e (by have := lt_of_get hk; omega) hk, fun k e e' hk hk' => hI.2 k e e' (by have := lt_of_get hk'; omega) hk hk'⟩)
 obtain ⟨y, hiy, hy⟩ := ok_ixN (xs := o) (i := i) (by omega)
 simp only [hiy, Option.bind_some]
 refine ok_bind (Q := fun v => v = false → (0 ≤ y.fId.fSerial ∧ y.fId.fSerial ≤ 1000000000000000) ∧ ∀ e, 0 < i → o[i - 1]? = some e → tmE e ≤ tmE y) ?_ (fun v hv => ?_)
 ·refine ok_ite (fun _ => ok_some (by simp)) (fun h => ?_)
  refine ok_ite (fun _ => ok_some (by simp)) (fun h3 => ?_)
  refine ok_ite (fun h4 => ?_) (fun h4 => ok_some (fun _ => ⟨by omega, fun e h5 => by omega⟩))
  rw [Time_p, Option.bind_some, w64_of (n := (i : Int) - 1) (by omega)]
  obtain ⟨z, hiz, hz⟩ := ok_idx (xs := o) (i := (i : Int) - 1) (by omega) (by omega)
  rw [hiz, Option.bind_some, Time_p, Option.bind_some]
  refine ok_some (fun h5 => ⟨by omega, fun e _ he => ?_⟩)
  rw [show ((i : Int) - 1).toNat = i - 1 by omega, he] at hz
  cases hz
  have := of_decide_eq_false h5; omega
 ·cases v with
  | true => exact ok_inr rfl
  | false =>
   obtain ⟨g1, g2⟩ := hv rfl
   refine ok_inl ⟨by omega, w64_N (n := o.length) (by omega) (by omega), fun k e hk he => ?_, fun k e e' hk he he' => ?_⟩
   ·by_cases e2 : k = i
    ·subst e2; rw [hy] at he; cases he; exact g1
    ·exact hI.1 k e (by omega) he
   ·by_cases e2 : k + 1 = i
    ·rw [e2, hy] at he'; cases he'
     exact g2 e (by omega) (by rw [show i - 1 = k by omega]; exact he)
    ·exact hI.2 k e e' (by omega) he he'
theorem light_ok (ths : List api_Thread) (o : List api_Timed) : Ok (tracebooklaw27_light ths o) (fun b => b = true → ths.length ≤ 20 ∧ o.length ≤ 200 ∧ Ord27 o) := by
 unfold tracebooklaw27_light
 refine ok_bind (Q := fun b => b = true → ths.length ≤ 20 ∧ o.length ≤ 200 ∧ Ord27 o) ?_ (fun b hb => ok_some hb)
 refine ok_ite (fun h1 => ?_) (fun _ => ok_some (by simp))
 refine ok_ite (fun h2 => ?_) (fun _ => ok_some (by simp))
 refine ok_bind (ordered_ok o (by omega)) (fun b hb => ok_some (fun e => ⟨by omega, by omega, hb e⟩))
def mkS (id : Int) (c : state_change) (to by' : Int) : api_State := { fThread := id, fState := c.fstate, fSpan := { fFrom := c.fat, fTo := to }, fCpu := c.fcpu, fOn := c.fon, fBy := by' }
def extS (y : api_State) (to by' : Int) : api_State := { fThread := y.fThread, fState := y.fState, fSpan := { fFrom := y.fSpan.fFrom, fTo := to }, fCpu := y.fCpu, fOn := y.fOn, fBy := by' }
def sameC (y : api_State) (c : state_change) : Prop := y.fState = c.fstate ∧ y.fCpu = c.fcpu ∧ y.fOn = c.fon
instance (y : api_State) (c : state_change) : Decidable (sameC y c) := by unfold sameC; exact inferInstance
def push (id : Int) (L : List api_State) (c : state_change) (to by' : Int) : List api_State :=
 if c.fat < to then (match L.getLast? with
  | some y => if sameC y c then L.dropLast ++ [extS y to by'] else L ++ [mkS id c to by']
  | none => L ++ [mkS id c to by'])
 else L
theorem push_snoc (id : Int) (q : List api_State) (y : api_State) (c : state_change) (to by' : Int) (h : c.fat < to) : push id (q ++ [y]) c to by' = if sameC y c then q ++ [extS y to by'] else q ++ [y] ++ [mkS id c to by'] := by
 unfold push
 rw [if_pos h]
 simp
theorem push_len (id : Int) (L : List api_State) (c : state_change) (to by' : Int) : (push id L c to by').length ≤ L.length + 1 := by
 unfold push
 split
 ·split
  ·split
   ·simp
   ·simp
  ·simp
 ·omega
def runL (id : Int) : List state_change → List api_State × state_change
 | [] => ([], chg 0 5 (-1) (-1) (-1))
 | c :: r => r.foldl (fun p d => (push id p.1 p.2 d.fat d.fby, d)) ([], c)
theorem runL_snoc (id : Int) (cs : List state_change) (d : state_change) (h : cs ≠ []) : runL id (cs ++ [d]) = (push id (runL id cs).1 (runL id cs).2 d.fat d.fby, d) := by
 cases cs with
 | nil => exact absurd rfl h
 | cons c r => simp [runL]
theorem runL_last (id : Int) (cs : List state_change) (d : state_change) : (runL id (cs ++ [d])).2 = d := by
 cases cs with
 | nil => rfl
 | cons c r => rw [runL_snoc _ _ _ (by simp)]
theorem runL_len (id : Int) : ∀ (r : List state_change) (p : List api_State × state_change), (r.foldl (fun p d => (push id p.1 p.2 d.fat d.fby, d)) p).1.length ≤ p.1.length + r.length
 | [], p => by simp
 | d :: r, p => by
  have h1 := runL_len id r (push id p.1 p.2 d.fat d.fby, d)
  have h2 := push_len id p.1 p.2 d.fat d.fby
  simp only [List.foldl_cons, List.length_cons] at h1 ⊢
  omega
theorem runL_len' (id : Int) (cs : List state_change) : (runL id cs).1.length ≤ cs.length := by
 cases cs with
 | nil => simp [runL]
 | cons c r => have := runL_len id r ([], c); simp [runL] at this ⊢; omega
theorem set_last {α : Type} (q : List α) (y z : α) : (q ++ [y]).set q.length z = q ++ [z] := by simp
theorem idx_last {α : Type} (q : List α) (y : α) : idx (q ++ [y]) (q.length : Int) = some y := by rw [idx_nat]; simp
theorem same27_p (y : api_State) (s : api_State) : state_same y s = some (decide (y.fState = s.fState ∧ y.fCpu = s.fCpu ∧ y.fOn = s.fOn)) := by
 unfold state_same
 by_cases h1 : y.fState = s.fState <;> by_cases h2 : y.fCpu = s.fCpu <;> simp [h1, h2]
theorem piece_p (id : Int) (a : List api_State) (c : state_change) (to by' : Int) (hl : a.length ≤ 1000000) :
  Ok ((bif (decide (to ≤ c.fat)) then some a else (((bif (decide (0 ≤ (w64 ((List.length a : Int) - 1)))) then ((idx a (w64 ((List.length a : Int) - 1))).bind fun y65 => ((state_same y65 (mkS id c to by')).bind fun r66 => some r66)) else some false) : Option Bool).bind fun v59 => (bif v59 then ((idx a (w64 ((List.length a : Int) - 1))).bind fun y60 => ((idx (List.set a (Int.toNat (w64 ((List.length a : Int) - 1))) ({ fThread := y60.fThread, fState := y60.fState, fSpan := ({ fFrom := y60.fSpan.fFrom, fTo := to } : api_Span), fCpu := y60.fCpu, fOn := y60.fOn, fBy := y60.fBy } : api_State)) (w64 ((List.length a : Int) - 1))).bind fun y61 => some (List.set (List.set a (Int.toNat (w64 ((List.length a : Int) - 1))) ({ fThread := y60.fThread, fState := y60.fState, fSpan := ({ fFrom := y60.fSpan.fFrom, fTo := to } : api_Span), fCpu := y60.fCpu, fOn := y60.fOn, fBy := y60.fBy } : api_State)) (Int.toNat (w64 ((List.length a : Int) - 1))) ({ fThread := y61.fThread, fState := y61.fState, fSpan := y61.fSpan, fCpu := y61.fCpu, fOn := y61.fOn, fBy := by' } : api_State)))) else (bif room 56 (List.length a + List.length [mkS id c to by']) then some (a ++ [mkS id c to by']) else none)))) : Option (List api_State)) (fun r => r = push id a c to by') := by
 refine ok_ite (fun h => ok_some ?_) (fun h => ?_)
 ·unfold push; rw [if_neg (by omega)]
 have hlt : c.fat < to := by omega
 rw [w64_of (n := (a.length : Int) - 1) (by omega)]
 rcases List.eq_nil_or_concat a with ha | ⟨q, y, ha⟩
 ·subst ha
  have : ¬ ((0 : Int) ≤ (([] : List api_State).length : Int) - 1) := by simp
  simp only [this, decide_false, cond_false, Option.bind_some]
  rw [room_ok (by simp) (by simp)]
  exact ok_some (by unfold push; rw [if_pos hlt]; rfl)
 ·rw [List.concat_eq_append] at ha
  subst ha
  have e : (((q ++ [y]).length : Nat) : Int) - 1 = (q.length : Int) := by simp
  have h0 : (0 : Int) ≤ (q.length : Int) := by omega
  rw [e, idx_last]
  simp only [h0, decide_true, cond_true, Option.bind_some, same27_p]
  rw [push_snoc _ _ _ _ _ _ hlt]
  refine ok_ite (fun hs => ?_) (fun hs => ?_)
  ·rw [if_pos (show sameC y c from hs)]
   rw [show ((q.length : Int)).toNat = q.length from rfl, set_last, idx_last, Option.bind_some, set_last]
   exact ok_some rfl
  ·rw [if_neg (show ¬ sameC y c from hs)]
   rw [room_ok (by simp at hl ⊢; omega) (by simp at hl ⊢; omega)]
   exact ok_some rfl
theorem sts_p (t : state_track) (id E : Int) (hl : t.fchanges.length ≤ 100000) (hn : t.fchanges ≠ []) : stsT t id E = push id (runL id t.fchanges).1 (runL id t.fchanges).2 E (-1) := by
 have hpos : 0 < t.fchanges.length := List.length_pos_iff.2 hn
 have : Ok (state_track_states_k1 t id E) (fun r => r = push id (runL id t.fchanges).1 (runL id t.fchanges).2 E (-1)) := by
  unfold state_track_states_k1
  refine ok_bind (ok_up2N t.fchanges.length (fun (a : List api_State) n => (n < t.fchanges.length → a = (runL id (t.fchanges.take (n + 1))).1) ∧ (n = t.fchanges.length → a = push id (runL id t.fchanges).1 (runL id t.fchanges).2 E (-1))) (by omega) ⟨fun _ => ?_, fun h => by omega⟩ (fun a i hI h2 => ?_)) (fun r hr => ok_some hr)
  ·cases hc : t.fchanges with
   | nil => rw [hc] at hn; exact absurd rfl hn
   | cons c r => simp [runL]
  unfold state_track_states_k1_L1
  dsimp only
  refine ok_ite (fun hi => ?_) (fun hi => ok_inr (hI.2 (by omega)))
  have hlt : i < t.fchanges.length := by omega
  obtain ⟨y, hiy, hy⟩ := ok_ixN (xs := t.fchanges) (i := i) (by omega)
  have hy' : t.fchanges[i] = y := by have := List.getElem?_eq_getElem hlt; rw [hy] at this; exact (Option.some.inj this).symm
  have ha := hI.1 hlt
  have htk : t.fchanges.take (i + 1) = t.fchanges.take i ++ [y] := by rw [List.take_succ_eq_append_getElem hlt, hy']
  have hlast : (runL id (t.fchanges.take (i + 1))).2 = y := by rw [htk]; exact runL_last _ _ _
  have hal : a.length ≤ 100000 := by
   rw [ha]; have := runL_len' id (t.fchanges.take (i + 1)); rw [List.length_take] at this; omega
  rw [hiy, Option.bind_some, w64_N (n := t.fchanges.length) (by omega) (by omega)]
  refine ok_bind (Q := fun v => (i + 1 < t.fchanges.length → v = (runL id (t.fchanges.take (i + 1 + 1))).1) ∧ (i + 1 = t.fchanges.length → v = push id (runL id t.fchanges).1 (runL id t.fchanges).2 E (-1))) ?_ (fun v hv => ok_inl ⟨by omega, rfl, hv⟩)
  by_cases h1 : i + 1 < t.fchanges.length
  ·have hc : (((i + 1 : Nat) : Int) < (t.fchanges.length : Int)) := by omega
   obtain ⟨z, hiz, hz⟩ := ok_ixN (xs := t.fchanges) (i := i + 1) (by omega)
   have hz' : t.fchanges[i + 1] = z := by have := List.getElem?_eq_getElem h1; rw [hz] at this; exact (Option.some.inj this).symm
   simp only [hc, decide_true, cond_true, hiz, Option.bind_some]
   refine (piece_p id a y z.fat z.fby (by omega)).mono (fun r hr => ⟨fun _ => ?_, fun h => by omega⟩)
   rw [hr, List.take_succ_eq_append_getElem h1, hz', runL_snoc _ _ _ (by rw [htk]; simp), hlast, ← ha]
  ·have hc : ¬ (((i + 1 : Nat) : Int) < (t.fchanges.length : Int)) := by omega
   simp only [hc, decide_false, cond_false, Option.bind_some]
   refine (piece_p id a y E (-1) (by omega)).mono (fun r hr => ⟨fun h => by omega, fun h => ?_⟩)
   have hall : t.fchanges.take (i + 1) = t.fchanges := by rw [h, List.take_length]
   rw [hall] at ha hlast
   rw [hr, hlast, ← ha]
 obtain ⟨r, h1, h2⟩ := this
 unfold stsT
 rw [h1, ← h2]; rfl
theorem wkT_next (t : state_track) (a b : Int) : (wkT t a b).fnext = t.fnext ∧ (wkT t a b).flast = t.flast := by
 unfold wkT
 split <;> exact ⟨rfl, rfl⟩
theorem trkN_succ {id : Int} {o : List api_Timed} {n : Nat} {e : api_Timed} (h : o[n]? = some e) : trkN id o (n + 1) = stT id (trkN id o n) e := by
 simp only [trkN, h]
theorem popR_id {last : Int} : ∀ {r : List state_change}, (∀ c ∈ r, c.fat ≤ last) → popR last r = r
 | [], _ => rfl
 | [c], _ => rfl
 | c :: d :: r, h => by
  have := h c (by simp)
  simp only [popR]
  rw [if_neg (by omega)]
theorem popR_cons {last : Int} {c : state_change} {r : List state_change} (h : last < c.fat) (hr : r ≠ []) : popR last (c :: r) = popR last r := by
 cases r with
 | nil => exact absurd rfl hr
 | cons d r => simp only [popR]; rw [if_pos h]
theorem popR_mem {last : Int} : ∀ {r : List state_change} {c : state_change}, c ∈ popR last r → c ∈ r
 | [], _, h => h
 | [_], _, h => h
 | c :: d :: r, x, h => by
  simp only [popR] at h
  split at h
  ·exact List.mem_cons_of_mem _ (popR_mem h)
  ·exact h
def popC (last : Int) (cs : List state_change) : List state_change := (popR last cs.reverse).reverse
theorem popC_id {last : Int} {cs : List state_change} (h : ∀ c ∈ cs, c.fat ≤ last) : popC last cs = cs := by
 unfold popC
 rw [popR_id (by simpa using h), List.reverse_reverse]
theorem popC_snoc {last : Int} {cs : List state_change} {c : state_change} (h : last < c.fat) (hn : cs ≠ []) : popC last (cs ++ [c]) = popC last cs := by
 unfold popC
 rw [List.reverse_append, List.reverse_singleton, List.singleton_append, popR_cons h (by simpa using hn)]
theorem gapC_pop (t : state_track) : gapC t = popC t.flast t.fchanges ++ [chg t.flast 5 (-1) (-1) (-1)] := rfl
structure AtMost (t : state_track) (x : Int) : Prop where
 cs : ∀ c ∈ t.fchanges, c.fat ≤ x
 la : t.flast ≤ x
theorem evT_at {t : state_track} {e : api_Timed} (h : AtMost t (tmE e)) : AtMost (evT t e) (tmE e) := by
 have hc : ∀ c ∈ (if e.fId.fSerial = t.fnext then t.fchanges else gapC t), c.fat ≤ tmE e := by
  intro c hc
  split at hc
  ·exact h.cs c hc
  ·rw [gapC_pop] at hc
   rcases List.mem_append.1 hc with hc | hc
   ·unfold popC at hc
    have h9 := popR_mem (show c ∈ popR t.flast t.fchanges.reverse by simpa using hc)
    exact h.cs c (by simpa using h9)
   ·simp at hc; subst hc; exact h.la
 refine ⟨fun c hm => ?_, Int.le_refl _⟩
 unfold evT at hm
 simp only at hm
 generalize (if e.fId.fSerial = t.fnext then t.fchanges else gapC t) = cs at *
 split at hm
 ·rcases List.mem_append.1 hm with hm | hm
  ·exact hc c hm
  ·simp at hm; subst hm; exact Int.le_refl _
 ·split at hm
  ·rcases List.mem_append.1 hm with hm | hm
   ·exact hc c hm
   ·simp at hm; subst hm; exact Int.le_refl _
  ·exact hc c hm
theorem wkT_at {t : state_track} {x b : Int} (h : AtMost t x) : AtMost (wkT t x b) x := by
 unfold wkT
 split
 ·refine ⟨fun c hm => ?_, h.la⟩
  rcases List.mem_append.1 hm with hm | hm
  ·exact h.cs c hm
  ·simp at hm; subst hm; exact Int.le_refl _
 ·exact h
theorem stT_at {id : Int} {t : state_track} {e : api_Timed} (h : AtMost t (tmE e)) : AtMost (stT id t e) (tmE e) := by
 unfold stT
 simp only
 split
 ·refine wkT_at ?_
  split
  ·exact evT_at h
  ·exact h
 ·split
  ·exact evT_at h
  ·exact h
theorem trkN_at {id : Int} {o : List api_Timed} (ho : Ord27 o) : ∀ (n : Nat) (e : api_Timed), o[n]? = some e → AtMost (trkN id o n) (tmE e)
 | 0, e, _ => by
  have := tmE_rng e
  exact ⟨fun c hc => by simp [trkN, trk0] at hc; subst hc; exact this.1, this.1⟩
 | n + 1, e, he => by
  have hl := lt_of_get he
  have hx : o[n]? = some o[n] := List.getElem?_eq_getElem (by omega)
  have h := trkN_at (id := id) ho n _ hx
  have h2 := stT_at (id := id) h
  have h3 := ho.tm n _ _ hx he
  rw [trkN_succ hx]
  exact ⟨fun c hc => by have := h2.cs c hc; omega, by have := h2.la; omega⟩
theorem End_p (o : List api_Timed) (e0 : Int) (hl : o.length ≤ 1000000) : tracebookref27_End o e0 = some (endO o e0) := by
 have : Ok (tracebookref27_End o e0) (fun r => r = endO o e0) := by
  unfold tracebookref27_End
  refine ok_bind (Q := fun v => v = max 0 e0) (ok_ite (fun h => ok_some (by omega)) (fun h => ok_some (by omega))) (fun v hv => ?_)
  subst hv
  refine ok_bind (Q := fun r => r = max 0 (endN o e0 o.length)) (ok_up2N o.length (fun (a : Int) n => a = max 0 (endN o e0 n)) (by omega) rfl (fun a i hI h2 => ?_)) (fun r hr => ?_)
  ·unfold tracebookref27_End_L1
   dsimp only
   refine ok_ite (fun hi => ?_) (fun hi => ok_inr (by rw [hI, show i = o.length by omega]))
   obtain ⟨y, hiy, hy⟩ := ok_ixN (xs := o) (i := i) (by omega)
   simp only [hiy, Option.bind_some, Time_p]
   refine ok_bind (Q := fun v => v = max 0 (endN o e0 (i + 1))) ?_ (fun v hv => ok_inl ⟨by omega, w64_N (n := o.length) (by omega) (by omega), hv⟩)
   have hm := tmE_rng y
   have he : endN o e0 (i + 1) = max (endN o e0 i) (tmE y) := by simp only [endN, hy]
   rw [he]
   exact ok_ite (fun h => ok_some (by omega)) (fun h => ok_some (by omega))
  ·subst hr
   refine ok_bind (Q := fun v => v = endO o e0) ?_ (fun v hv => ok_some hv)
   unfold endO
   exact ok_ite (fun h => ok_some (by omega)) (fun h => ok_some (by omega))
 obtain ⟨r, h1, h2⟩ := this
 rw [h1, h2]
def fC (s cpu on : Int) : Prop := 0 ≤ s ∧ s ≤ 5 ∧ (s = 4 → 0 ≤ cpu ∧ cpu < 64) ∧ (s ≠ 4 → cpu = -1) ∧ (s = 2 → 0 ≤ on ∧ on ≤ 1000000000000000) ∧ (s ≠ 2 → on = -1)
def byS (s b : Int) : Prop := b = -1 ∨ ((s = 1 ∨ s = 2) ∧ 0 ≤ b ∧ b ≤ 1000000000000000)
theorem fields_of {y : api_State} (h : fC y.fState y.fCpu y.fOn) (hb : byS y.fState y.fBy) : state_fields y = some true := by
 have : Ok (state_fields y) (fun r => r = true) := by
  obtain ⟨h1, h2, h3, h4, h5, h6⟩ := h
  unfold state_fields
  refine ok_bind (Q := fun v => v = decide (y.fState = 1 ∨ y.fState = 2)) (ok_ite (fun e => ok_some (by simp [e])) (fun e => ok_some (by simp [e]))) (fun v hv => ?_)
  subst hv
  refine ok_bind (Q := fun v => v = false) (ok_ite (fun e => by omega) (fun e => ok_some (decide_eq_false (by omega)))) (fun v hv => ?_)
  subst hv
  simp only [cond_false]
  refine ok_bind (Q := fun v => v = false) (ok_ite (fun e => by have := h3 e; exact ok_ite (fun e => by omega) (fun e => ok_some (decide_eq_false (by omega)))) (fun e => ok_some rfl)) (fun v hv => ?_)
  subst hv
  simp only [cond_false]
  refine ok_bind (Q := fun v => v = false) (ok_nite (fun e => ok_some (by have := h4 e; simp [this])) (fun e => ok_some rfl)) (fun v hv => ?_)
  subst hv
  simp only [cond_false]
  refine ok_bind (Q := fun v => v = false) (ok_ite (fun e => by have := h5 e; exact ok_ite (fun e => by omega) (fun e => ok_some (decide_eq_false (by omega)))) (fun e => ok_some rfl)) (fun v hv => ?_)
  subst hv
  simp only [cond_false]
  refine ok_bind (Q := fun v => v = false) (ok_nite (fun e => ok_some (by have := h6 e; simp [this])) (fun e => ok_some rfl)) (fun v hv => ?_)
  subst hv
  simp only [cond_false]
  refine ok_bind (Q := fun v => v = true) ?_ (fun v hv => ok_some hv)
  refine ok_ite (fun e => ok_some rfl) (fun e => ?_)
  rcases hb with hb | ⟨hb, hb1, hb2⟩
  ·exact absurd hb e
  ·refine ok_ite (fun _ => ?_) (fun e => absurd hb e)
   exact ok_ite (fun _ => ok_some (decide_eq_true hb2)) (fun e => absurd hb1 e)
 obtain ⟨r, h1, h2⟩ := this
 rw [h1, h2]
def Adj {α : Type} (R : α → α → Prop) (l : List α) : Prop := ∀ (k : Nat) a b, l[k]? = some a → l[k + 1]? = some b → R a b
theorem Adj.app {α : Type} {R : α → α → Prop} {l1 l2 : List α} (h1 : Adj R l1) (h2 : Adj R l2) (h : ∀ a b, l1.getLast? = some a → l2[0]? = some b → R a b) : Adj R (l1 ++ l2) := by
 intro k a b ha hb
 by_cases c1 : k + 1 < l1.length
 ·rw [List.getElem?_append_left (by omega)] at ha hb
  exact h1 k a b ha hb
 ·by_cases c2 : k + 1 = l1.length
  ·rw [List.getElem?_append_left (by omega)] at ha
   rw [List.getElem?_append_right (by omega), show k + 1 - l1.length = 0 by omega] at hb
   refine h a b ?_ hb
   rw [List.getLast?_eq_getElem?, show l1.length - 1 = k by omega]
   exact ha
  ·rw [List.getElem?_append_right (by omega)] at ha hb
   rw [show k + 1 - l1.length = (k - l1.length) + 1 by omega] at hb
   exact h2 _ a b ha hb
theorem Adj.left {α : Type} {R : α → α → Prop} {l1 l2 : List α} (h : Adj R (l1 ++ l2)) : Adj R l1 := fun k a b ha hb => h k a b (by rw [List.getElem?_append_left (lt_of_get ha)]; exact ha) (by rw [List.getElem?_append_left (lt_of_get hb)]; exact hb)
theorem Adj.mid {α : Type} {R : α → α → Prop} {l1 l2 : List α} (h : Adj R (l1 ++ l2)) {a b : α} (ha : l1.getLast? = some a) (hb : l2[0]? = some b) : R a b := by
 rw [List.getLast?_eq_getElem?] at ha
 have hl := lt_of_get ha
 refine h (l1.length - 1) a b (by rw [List.getElem?_append_left (by omega)]; exact ha) ?_
 rw [List.getElem?_append_right (by omega), show l1.length - 1 + 1 - l1.length = 0 by omega]
 exact hb
theorem Adj.one {α : Type} {R : α → α → Prop} (x : α) : Adj R [x] := fun k a b _ hb => by
 have := lt_of_get hb; simp at this
def sumI : List Int → Int
 | [] => 0
 | x :: l => x + sumI l
theorem sumI_app (a b : List Int) : sumI (a ++ b) = sumI a + sumI b := by
 induction a with
 | nil => simp [sumI]
 | cons x a ih => simp only [List.cons_append, sumI, ih]; omega
def ov (p : api_Span) (y : api_State) : Int := max 0 (min y.fSpan.fTo p.fTo - max y.fSpan.fFrom p.fFrom)
def sumO (p : api_Span) (l : List api_State) : Int := sumI (l.map (ov p))
theorem sumO_app (p : api_Span) (a b : List api_State) : sumO p (a ++ b) = sumO p a + sumO p b := by unfold sumO; rw [List.map_append, sumI_app]
theorem sumO_one (p : api_Span) (y : api_State) : sumO p [y] = ov p y := by simp [sumO, sumI]
def PieceOk (id : Int) (y : api_State) : Prop := y.fThread = id ∧ 0 ≤ y.fSpan.fFrom ∧ y.fSpan.fFrom < y.fSpan.fTo ∧ y.fSpan.fTo ≤ 1000000000000 ∧ fC y.fState y.fCpu y.fOn ∧ byS y.fState y.fBy
def NextOk (a b : api_State) : Prop := a.fSpan.fTo = b.fSpan.fFrom ∧ ¬ (b.fState = a.fState ∧ b.fCpu = a.fCpu ∧ b.fOn = a.fOn)
structure Seg (id : Int) (p : api_Span) (x : Int) (L : List api_State) : Prop where
 mem : ∀ y ∈ L, PieceOk id y
 adj : Adj NextOk L
 hd : ∀ y, L[0]? = some y → y.fSpan.fFrom = 0
 la : ∀ y, L.getLast? = some y → y.fSpan.fTo = x
 nil : L = [] → x = 0
 sum : sumO p L = max 0 (min x p.fTo - p.fFrom)
theorem getLast_snoc {α : Type} (q : List α) (y : α) : (q ++ [y]).getLast? = some y := by simp
theorem Seg.push {id : Int} {p : api_Span} {L : List api_State} {c : state_change} (to by' : Int) (H : Seg id p c.fat L) (h0 : 0 ≤ c.fat) (h1 : c.fat ≤ to) (h2 : to ≤ 1000000000000) (hf : fC c.fstate c.fcpu c.fon) (hb : byS c.fstate by') (hp0 : 0 ≤ p.fFrom) (hp : p.fFrom < p.fTo) : Seg id p to (push id L c to by') := by
 by_cases hlt : c.fat < to
 ·have hm : PieceOk id (mkS id c to by') := ⟨rfl, h0, hlt, h2, hf, hb⟩
  rcases List.eq_nil_or_concat L with hL | ⟨q, y, hL⟩
  ·subst hL
   have hc := H.nil rfl
   have e : VM.push id [] c to by' = [mkS id c to by'] := by unfold VM.push; rw [if_pos hlt]; rfl
   rw [e]
   refine ⟨fun y hy => ?_, Adj.one _, fun y hy => ?_, fun y hy => ?_, fun h => by simp at h, ?_⟩
   ·simp at hy; subst hy; exact hm
   ·simp at hy; subst hy; exact hc
   ·simp at hy; subst hy; rfl
   ·rw [sumO_one]; simp only [ov, mkS]; omega
  ·rw [List.concat_eq_append] at hL
   subst hL
   have hy := H.mem y (by simp)
   have hyt := H.la y (getLast_snoc q y)
   have hs := H.sum
   rw [sumO_app, sumO_one] at hs
   rw [push_snoc _ _ _ _ _ _ hlt]
   obtain ⟨y1, y2, y3, y4, y5, y6⟩ := hy
   by_cases hc : sameC y c
   ·rw [if_pos hc]
    obtain ⟨c1, c2, c3⟩ := hc
    refine ⟨fun z hz => ?_, Adj.app H.adj.left (Adj.one _) (fun a b ha hb => ?_), fun z hz => ?_, fun z hz => ?_, fun h => by simp at h, ?_⟩
    ·rcases List.mem_append.1 hz with hz | hz
     ·exact H.mem z (List.mem_append_left _ hz)
     ·simp at hz; subst hz
      exact ⟨y1, y2, by simp only [extS]; omega, h2, y5, by simp only [extS]; rw [c1]; exact hb⟩
    ·simp at hb; subst hb
     exact H.adj.mid ha (b := y) (by simp)
    ·cases q with
     | nil => simp at hz; subst hz; exact H.hd y (by simp)
     | cons w q => exact H.hd z (by simpa using hz)
    ·rw [getLast_snoc] at hz; cases hz; rfl
    ·rw [sumO_app, sumO_one]; simp only [ov, extS] at hs ⊢; omega
   ·rw [if_neg hc]
    refine ⟨fun z hz => ?_, Adj.app H.adj (Adj.one _) (fun a b ha hb => ?_), fun z hz => ?_, fun z hz => ?_, fun h => by simp at h, ?_⟩
    ·rcases List.mem_append.1 hz with hz | hz
     ·exact H.mem z hz
     ·simp at hz; subst hz; exact hm
    ·simp at hb; subst hb
     rw [getLast_snoc] at ha; cases ha
     exact ⟨hyt, fun h => hc ⟨h.1.symm, h.2.1.symm, h.2.2.symm⟩⟩
    ·rw [List.getElem?_append_left (by simp)] at hz
     exact H.hd z hz
    ·rw [getLast_snoc] at hz; cases hz; rfl
    ·rw [sumO_app, sumO_app, sumO_one, sumO_one]; simp only [ov, mkS] at hs ⊢; omega
 ·have e : VM.push id L c to by' = L := by unfold VM.push; rw [if_neg hlt]
  rw [e, show to = c.fat by omega]
  exact H
inductive GC : List state_change → Prop
 | one (c : state_change) : c.fat = 0 → fC c.fstate c.fcpu c.fon → GC [c]
 | snoc (q : List state_change) (c d : state_change) : GC (q ++ [c]) → c.fat ≤ d.fat → fC d.fstate d.fcpu d.fon → byS c.fstate d.fby → GC (q ++ [c] ++ [d])
theorem GC.last {cs : List state_change} (h : GC cs) : ∃ q c, cs = q ++ [c] ∧ 0 ≤ c.fat ∧ fC c.fstate c.fcpu c.fon ∧ ∀ x ∈ cs, x.fat ≤ c.fat := by
 induction h with
 | one c h1 h2 => exact ⟨[], c, rfl, by omega, h2, fun x hx => by simp at hx; subst hx; exact Int.le_refl _⟩
 | snoc q c d _ h2 h3 _ ih =>
  obtain ⟨q', c', e, i1, i2, i3⟩ := ih
  obtain ⟨e1, e2⟩ := List.append_inj' e rfl
  cases e2
  refine ⟨q ++ [c], d, rfl, by omega, h3, fun x hx => ?_⟩
  rcases List.mem_append.1 hx with hx | hx
  ·have := i3 x hx; omega
  ·simp at hx; subst hx; exact Int.le_refl _
theorem GC.ext {cs : List state_change} (h : GC cs) (d : state_change) (h1 : ∀ c ∈ cs, c.fat ≤ d.fat) (h2 : fC d.fstate d.fcpu d.fon) (h3 : ∀ c, cs.getLast? = some c → byS c.fstate d.fby) : GC (cs ++ [d]) := by
 obtain ⟨q, c, e, i1, i2, i3⟩ := h.last
 subst e
 exact GC.snoc q c d h (h1 c (by simp)) h2 (h3 c (by simp))
theorem GC.pop {last : Int} (h0 : 0 ≤ last) {cs : List state_change} (h : GC cs) : GC (popC last cs) ∧ ∀ c ∈ popC last cs, c.fat ≤ last := by
 induction h with
 | one c h1 h2 => exact ⟨GC.one c h1 h2, fun x hx => by have : popC last [c] = [c] := rfl; rw [this] at hx; simp at hx; subst hx; omega⟩
 | snoc q c d g h2 h3 h4 ih =>
  by_cases hl : last < d.fat
  ·rw [popC_snoc hl (by simp)]
   exact ih
  ·have G := GC.snoc q c d g h2 h3 h4
   obtain ⟨q', c', e, i1, i2, i3⟩ := G.last
   obtain ⟨e1, e2⟩ := List.append_inj' e rfl
   cases e2
   have hall : ∀ x ∈ q ++ [c] ++ [d], x.fat ≤ last := fun x hx => by have := i3 x hx; omega
   rw [popC_id hall]
   exact ⟨G, hall⟩
structure Frm (e : api_Timed) : Prop where
 th : 0 ≤ e.fId.fThread ∧ e.fId.fThread ≤ 1000000000000000
 k8 : e.fEvent.fKind = 8 → 0 ≤ e.fEvent.fN ∧ e.fEvent.fN ≤ 63
 k9 : e.fEvent.fKind = 9 → 0 ≤ e.fEvent.fN ∧ e.fEvent.fN ≤ 3 ∧ 0 ≤ e.fEvent.fM ∧ e.fEvent.fM ≤ 1000000000000000
theorem fC5 : fC 5 (-1) (-1) := ⟨by decide, by decide, by decide, by decide, by decide, by decide⟩
theorem fC0 : fC 0 (-1) (-1) := ⟨by decide, by decide, by decide, by decide, by decide, by decide⟩
theorem evT_gc {t : state_track} {e : api_Timed} (h : GC t.fchanges) (h0 : 0 ≤ t.flast) (ha : AtMost t (tmE e)) (hf : Frm e) : GC (evT t e).fchanges := by
 have hc : GC (if e.fId.fSerial = t.fnext then t.fchanges else gapC t) ∧ ∀ c ∈ (if e.fId.fSerial = t.fnext then t.fchanges else gapC t), c.fat ≤ tmE e := by
  split
  ·exact ⟨h, ha.cs⟩
  ·obtain ⟨g1, g2⟩ := h.pop h0
   rw [gapC_pop]
   refine ⟨g1.ext _ g2 fC5 (fun _ _ => .inl rfl), fun c hm => ?_⟩
   have := ha.la
   rcases List.mem_append.1 hm with hm | hm
   ·have := g2 c hm; omega
   ·simp at hm; subst hm; exact this
 obtain ⟨c1, c2⟩ := hc
 unfold evT
 simp only
 generalize (if e.fId.fSerial = t.fnext then t.fchanges else gapC t) = cs at *
 split
 ·rename_i k
  have := hf.k8 k
  exact c1.ext _ c2 ⟨by show (0 : Int) ≤ 4; decide, by show (4 : Int) ≤ 5; decide, fun _ => by simp only [chg]; omega, fun h => absurd rfl h, fun h => by simp [chg] at h, fun _ => rfl⟩ (fun _ _ => .inl rfl)
 ·split
  ·rename_i k
   have := hf.k9 k
   refine c1.ext _ c2 ?_ (fun _ _ => .inl rfl)
   simp only [chg]
   exact ⟨by omega, by omega, fun h => by omega, fun _ => rfl, fun h => by rw [if_pos h]; omega, fun h => by rw [if_neg h]⟩
  ·exact c1
theorem lastS_get {t : state_track} {c : state_change} (h : t.fchanges.getLast? = some c) : lastS t = c.fstate := by unfold lastS; rw [h]
theorem wkT_gc {t : state_track} {x b : Int} (h : GC t.fchanges) (ha : AtMost t x) (hb : 0 ≤ b ∧ b ≤ 1000000000000000) : GC (wkT t x b).fchanges := by
 unfold wkT
 split
 ·rename_i hs
  exact h.ext _ ha.cs fC0 (fun c hc => .inr ⟨by rw [← lastS_get hc]; exact hs, hb⟩)
 ·exact h
theorem stT_gc {id : Int} {t : state_track} {e : api_Timed} (h : GC t.fchanges) (h0 : 0 ≤ t.flast) (ha : AtMost t (tmE e)) (hf : Frm e) : GC (stT id t e).fchanges ∧ 0 ≤ (stT id t e).flast := by
 have hr := tmE_rng e
 have key : ∀ t1 : state_track, t1 = (if e.fId.fThread = id then evT t e else t) → GC t1.fchanges ∧ 0 ≤ t1.flast ∧ AtMost t1 (tmE e) := by
  intro t1 ht
  subst ht
  split
  ·exact ⟨evT_gc h h0 ha hf, hr.1, evT_at ha⟩
  ·exact ⟨h, h0, ha⟩
 obtain ⟨g1, g2, g3⟩ := key _ rfl
 unfold stT
 simp only
 generalize (if e.fId.fThread = id then evT t e else t) = t1 at *
 split
 ·refine ⟨wkT_gc g1 g3 hf.th, ?_⟩
  rw [(wkT_next t1 _ _).2]; exact g2
 ·exact ⟨g1, g2⟩
theorem trk_gc {id : Int} {o : List api_Timed} (ho : Ord27 o) (hf : ∀ e ∈ o, Frm e) : ∀ n, n ≤ o.length → GC (trkN id o n).fchanges ∧ 0 ≤ (trkN id o n).flast
 | 0, _ => ⟨GC.one _ rfl fC5, Int.le_refl 0⟩
 | n + 1, h => by
  have hx : o[n]? = some o[n] := List.getElem?_eq_getElem (by omega)
  obtain ⟨h1, h2⟩ := trk_gc (id := id) ho hf n (by omega)
  rw [trkN_succ hx]
  exact stT_gc h1 h2 (trkN_at ho n _ hx) (hf _ (List.mem_of_getElem? hx))
theorem trk_end {id : Int} {o : List api_Timed} (ho : Ord27 o) (e0 : Int) : ∀ n, n ≤ o.length → AtMost (trkN id o n) (max 0 (min (endN o e0 n) 1000000000000))
 | 0, _ => by
  refine ⟨fun c hc => ?_, ?_⟩
  ·simp [trkN, trk0] at hc; subst hc; simp only [chg]; omega
  ·simp only [trkN, trk0]; omega
 | n + 1, h => by
  have hx : o[n]? = some o[n] := List.getElem?_eq_getElem (by omega)
  have h1 := stT_at (id := id) (trkN_at (id := id) ho n _ hx)
  have hr := tmE_rng o[n]
  have he : endN o e0 (n + 1) = max (endN o e0 n) (tmE o[n]) := by simp only [endN, hx]
  rw [trkN_succ hx, he]
  exact ⟨fun c hc => by have := h1.cs c hc; omega, by have := h1.la; omega⟩
theorem run_seg {id : Int} {p : api_Span} (hp0 : 0 ≤ p.fFrom) (hp : p.fFrom < p.fTo) {cs : List state_change} (h : GC cs) : (∀ c ∈ cs, c.fat ≤ 1000000000000) → Seg id p (runL id cs).2.fat (runL id cs).1 := by
 induction h with
 | one c h1 h2 =>
  intro _
  have : runL id [c] = ([], c) := rfl
  rw [this]
  exact ⟨by simp, fun k a b h => by simp at h, by simp, by simp, fun _ => h1, by simp only [sumO, sumI, List.map_nil]; omega⟩
 | snoc q c d g h2 h3 h4 ih =>
  intro hb
  have := ih (fun c hc => hb c (List.mem_append_left _ hc))
  rw [runL_snoc _ _ _ (by simp)]
  obtain ⟨q', c', e, i1, i2, i3⟩ := g.last
  obtain ⟨e1, e2⟩ := List.append_inj' e rfl
  cases e2
  rw [runL_last] at this
  simp only
  rw [runL_last]
  exact this.push d.fat d.fby i1 h2 (hb d (by simp)) i2 h4 hp0 hp
theorem sts_seg {id : Int} {p : api_Span} (hp0 : 0 ≤ p.fFrom) (hp : p.fFrom < p.fTo) {o : List api_Timed} (ho : Ord27 o) (hf : ∀ e ∈ o, Frm e) (hl : o.length ≤ 1000) (e0 : Int) : Seg id p (endO o e0) (stsT (trkN id o o.length) id (endO o e0)) := by
 have htl := trkN_len id o o.length
 have hg := (trk_gc (id := id) ho hf o.length (Nat.le_refl _)).1
 have ha := trk_end (id := id) ho e0 o.length (Nat.le_refl _)
 have hE : endO o e0 ≤ 1000000000000 := by unfold endO; omega
 rw [sts_p _ _ _ (by omega) htl.2]
 have hs := run_seg (id := id) hp0 hp hg (fun c hc => by have := ha.cs c hc; omega)
 obtain ⟨q, c, e, i1, i2, i3⟩ := hg.last
 have hc2 : (runL id (trkN id o o.length).fchanges).2 = c := by rw [e, runL_last]
 rw [hc2] at hs ⊢
 exact hs.push _ _ i1 (ha.cs c (by rw [e]; simp)) hE i2 (.inl rfl) hp0 hp
theorem index_p {l : List Int} {a : Int} (hl : l.length ≤ 1000000) (ha : a ∈ l) : Ok (slices_Index_int_int l a) (fun r => 0 ≤ r ∧ l[r.toNat]? = some a) := by
 obtain ⟨r, h1, h2, h3⟩ := slices_Index_int_int_lt l a (by omega)
 have hc := contains_p l a (by omega)
 unfold slices_Contains_int_int at hc
 rw [h1, Option.bind_some] at hc
 have h0 : 0 ≤ r := by simpa [ha] using hc
 exact ⟨r, h1, h0, h2 h0⟩
theorem nodup_ix {l : List Int} (h : l.Nodup) {i j : Nat} {a : Int} (hi : l[i]? = some a) (hj : l[j]? = some a) : i = j := by
 have h1 := lt_of_get hi
 have h2 := lt_of_get hj
 rw [List.getElem?_eq_getElem h1] at hi
 rw [List.getElem?_eq_getElem h2] at hj
 exact (List.getElem_inj h).1 ((Option.some.inj hi).trans (Option.some.inj hj).symm)
def NextAll (E : Int) (ids : List Int) (a b : api_State) : Prop := (a.fThread = b.fThread ∧ NextOk a b) ∨ ∃ r : Nat, ids[r]? = some a.fThread ∧ ids[r + 1]? = some b.fThread ∧ a.fSpan.fTo = E ∧ b.fSpan.fFrom = 0
theorem Seg.ne {id : Int} {p : api_Span} {E : Int} {L : List api_State} (h : Seg id p E L) (hE : 0 < E) : L ≠ [] := fun e => by have := h.nil e; omega
theorem Seg.empty {id : Int} {p : api_Span} {L : List api_State} (h : Seg id p 0 L) : L = [] := by
 rcases List.eq_nil_or_concat L with e | ⟨q, y, e⟩
 ·exact e
 ·rw [List.concat_eq_append] at e
  subst e
  have h1 := h.la y (getLast_snoc q y)
  have h2 := h.mem y (by simp)
  obtain ⟨_, h3, h4, _⟩ := h2
  omega
theorem flat_adj {p : api_Span} {E : Int} (hE : 0 < E) {S : Int → List api_State} (hS : ∀ id, Seg id p E (S id)) {full : List Int} :
  ∀ (rest pre : List Int), full = pre ++ rest → Adj (NextAll E full) (rest.flatMap S) ∧ (∀ y, (rest.flatMap S)[0]? = some y → full[pre.length]? = some y.fThread ∧ y.fSpan.fFrom = 0) ∧ (rest ≠ [] → rest.flatMap S ≠ []) ∧ (∀ y, (rest.flatMap S).getLast? = some y → full[full.length - 1]? = some y.fThread ∧ y.fSpan.fTo = E)
 | [], pre, _ => ⟨fun k a b h => by simp at h, by simp, fun h => absurd rfl h, by simp⟩
 | id :: rest, pre, hf => by
  obtain ⟨i1, i2, i3, i4⟩ := flat_adj (full := full) hE hS rest (pre ++ [id]) (by rw [hf]; simp)
  have hs := hS id
  have hne := hs.ne hE
  have hid : full[pre.length]? = some id := by rw [hf]; simp
  have hth : ∀ y ∈ S id, y.fThread = id := fun y hy => (hs.mem y hy).1
  rw [List.flatMap_cons]
  refine ⟨Adj.app (fun k a b ha hb => .inl ⟨?_, hs.adj k a b ha hb⟩) i1 (fun a b ha hb => .inr ⟨pre.length, ?_, ?_, hs.la a ha, (i2 b hb).2⟩), fun y hy => ?_, fun _ h => ?_, fun y hy => ?_⟩
  ·rw [hth a (List.mem_of_getElem? ha), hth b (List.mem_of_getElem? hb)]
  ·rw [hth a (List.mem_of_getLast? ha)]; exact hid
  ·have := (i2 b hb).1; rw [List.length_append] at this; exact this
  ·rw [List.getElem?_append_left (List.length_pos_iff.2 hne)] at hy
   exact ⟨by rw [hth y (List.mem_of_getElem? hy)]; exact hid, hs.hd y hy⟩
  ·exact hne (List.append_eq_nil_iff.1 h).1
  ·cases rest with
   | nil =>
    simp only [List.flatMap_nil, List.append_nil] at hy
    refine ⟨?_, hs.la y hy⟩
    have hl : full.length - 1 = pre.length := by rw [hf]; simp
    rw [hl, hth y (List.mem_of_getLast? hy)]
    exact hid
   | cons id2 rest =>
    have hn := i3 (by simp)
    refine i4 y ?_
    rw [List.getLast?_append] at hy
    obtain ⟨z, hz⟩ : ∃ z, (List.flatMap S (id2 :: rest)).getLast? = some z := by
     cases h : (List.flatMap S (id2 :: rest)).getLast? with
     | none => exact absurd (List.getLast?_eq_none_iff.1 h) hn
     | some z => exact ⟨z, rfl⟩
    rw [hz] at hy ⊢
    exact hy
theorem valid_p {p : api_Span} (h0 : 0 ≤ p.fFrom) (h1 : p.fFrom < p.fTo) (h2 : p.fTo ≤ 1000000000000) : spans_Valid p = some true := by
 have : Ok (spans_Valid p) (fun r => r = true) := by
  unfold spans_Valid
  refine ok_bind (Q := fun v => v = true) ?_ (fun v hv => ok_some hv)
  exact ok_ite (fun _ => ok_ite (fun _ => ok_some (decide_eq_true h2)) (fun h => absurd h1 h)) (fun h => absurd h0 h)
 obtain ⟨r, g1, g2⟩ := this
 rw [g1, g2]
theorem Check_all (ths : List api_Thread) (l : List api_State) (E : Int) (ht : ths.length ≤ 1000) (hl : l.length ≤ 1000000) (hm : ∀ y ∈ l, PieceOk y.fThread y ∧ y.fThread ∈ idsN ths ths.length)
  (ha : Adj (NextAll E (idsN ths ths.length)) l) (h0 : ∀ y, l[0]? = some y → (idsN ths ths.length)[0]? = some y.fThread ∧ y.fSpan.fFrom = 0)
  (hla : ∀ y, l.getLast? = some y → (idsN ths ths.length)[(idsN ths ths.length).length - 1]? = some y.fThread ∧ y.fSpan.fTo = E) : state_Check ths l = some 0 := by
 have : Ok (state_Check ths l) (fun r => r = 0) := by
  unfold state_Check
  rw [ids_p ths (by omega), Option.bind_some]
  have hn := idsN_nodup ths ths.length
  have hil := idsN_len ths ths.length
  generalize idsN ths ths.length = ids at *
  refine ok_bindS (Q := InlR (fun e => (l = [] ∧ e = -1) ∨ ∃ (r : Nat) (y : api_State), e = (r : Int) ∧ l.getLast? = some y ∧ ids[r]? = some y.fThread) (fun _ => False)) (ok_up2N l.length (fun (e : Int) n => (n = 0 ∧ e = -1) ∨ ∃ (r : Nat) (y : api_State), e = (r : Int) ∧ 0 < n ∧ l[n - 1]? = some y ∧ ids[r]? = some y.fThread) (by omega) (.inl ⟨rfl, rfl⟩) (fun a i hI h2 => ?_)) (fun e he => ?_) (fun _ hr => hr.elim)
  ·unfold state_Check_L2
   dsimp only
   refine ok_ite (fun hi => ?_) (fun hi => ok_inr ?_)
   ·obtain ⟨y, hiy, hy⟩ := ok_ixN (xs := l) (i := i) (by omega)
    obtain ⟨hp, hyi⟩ := hm y (List.mem_of_getElem? hy)
    obtain ⟨_, p1, p2, p3, p4, p5⟩ := hp
    rw [hiy, Option.bind_some]
    refine ok_bind (index_p (by omega) hyi) (fun x hx => ?_)
    obtain ⟨hx0, hx1⟩ := hx
    refine ok_ite (fun h => by omega) (fun _ => ?_)
    rw [valid_p p1 p2 p3, Option.bind_some]
    simp only [Bool.not_true, cond_false]
    rw [fields_of p4 p5, Option.bind_some]
    simp only [Bool.not_true, cond_false]
    have key : (x = a ∧ 0 < i ∧ ∃ z, l[i - 1]? = some z ∧ NextOk z y) ∨ (x ≠ a ∧ x = a + 1 ∧ y.fSpan.fFrom = 0) := by
     rcases hI with ⟨e1, e2⟩ | ⟨r, z, e1, e2, e3, e4⟩
     ·subst e1
      have := h0 y hy
      have hx3 := nodup_ix hn hx1 this.1
      exact .inr ⟨by omega, by omega, this.2⟩
     ·have hh := ha (i - 1) z y e3 (by rw [show i - 1 + 1 = i by omega]; exact hy)
      rcases hh with ⟨g1, g2⟩ | ⟨r', g1, g2, g3, g4⟩
      ·rw [g1] at e4
       have hx3 := nodup_ix hn hx1 e4
       exact .inl ⟨by omega, e2, z, e3, g2⟩
      ·have hx3 := nodup_ix hn hx1 g2
       have hx4 := nodup_ix hn g1 e4
       exact .inr ⟨by omega, by omega, g4⟩
    refine ok_bind (Q := fun v => v = false) ?_ (fun v hv => ?_)
    ·refine ok_ite (fun hxa => ?_) (fun _ => ok_some rfl)
     rcases key with ⟨_, k2, z, k3, k4, k5⟩ | ⟨k1, _⟩
     ·have hz : idx l (w64 ((i : Int) - 1)) = some z := by
       rw [w64_of (n := (i : Int) - 1) (by omega), show (i : Int) - 1 = ((i - 1 : Nat) : Int) by omega, idx_nat]; exact k3
      rw [hz]
      simp only [Option.bind_some, same27_p]
      refine ok_nite (fun h => absurd k4.symm h) (fun _ => ok_some (decide_eq_false k5))
     ·exact absurd hxa k1
    ·subst hv
     simp only [cond_false]
     refine ok_bind (Q := fun v => v = false) ?_ (fun v hv => ?_)
     ·refine ok_nite (fun hxa => ?_) (fun _ => ok_some rfl)
      rcases key with ⟨k1, _⟩ | ⟨_, k2, k3⟩
      ·exact absurd k1 hxa
      ·have hax : -1 ≤ a ∧ a ≤ 1000000 := by
        have := lt_of_get hx1
        omega
       refine ok_nite (fun h => absurd (by rw [w64_of (by omega)]; exact k2) h) (fun _ => ok_some (by rw [k3]; rfl))
     ·subst hv
      exact ok_inl ⟨by omega, w64_N (n := l.length) (by omega) (by omega), .inr ⟨x.toNat, y, by omega, by omega, by rw [show i + 1 - 1 = i by omega]; exact hy, hx1⟩⟩
   ·have e : i = l.length := by omega
    subst e
    rcases hI with ⟨e1, e2⟩ | ⟨r, z, e1, e2, e3, e4⟩
    ·exact .inl ⟨List.length_eq_zero_iff.1 e1, e2⟩
    ·exact .inr ⟨r, z, e1, by rw [List.getLast?_eq_getElem?]; exact e3, e4⟩
  ·refine ok_ite (fun _ => ok_some rfl) (fun hz => ?_)
   rcases he with ⟨e1, _⟩ | ⟨r, y, e1, e2, e3⟩
   ·subst e1; exact absurd rfl hz
   ·obtain ⟨f1, f2⟩ := hla y e2
    have hlast : idx l (w64 ((l.length : Int) - 1)) = some y := by
     rw [w64_of (n := (l.length : Int) - 1) (by omega), show (l.length : Int) - 1 = ((l.length - 1 : Nat) : Int) by omega, idx_nat, ← List.getLast?_eq_getElem?]
     exact e2
    rw [hlast, Option.bind_some]
    refine ok_bindS (Q := InlR Yes (fun _ => False)) (ok_upN l.length (fun _ => True) (by omega) trivial (fun i _ h2 => ?_)) (fun _ _ => ?_) (fun _ hr => (hr : False).elim)
    ·unfold state_Check_L1
     refine ok_ite (fun hi => ?_) (fun _ => ok_inr trivial)
     obtain ⟨z, hiz, hz⟩ := ok_ixN (xs := l) (i := i) (by omega)
     rw [hiz, Option.bind_some, w64_N (n := l.length) (by omega) (by omega)]
     refine ok_bind (Q := fun v => v = true → z.fSpan.fTo = E) ?_ (fun v hv => ?_)
     ·refine ok_ite (fun h => ok_some (fun _ => ?_)) (fun h => ?_)
      ·have e2 : i = l.length - 1 := by omega
       have := hla z (by rw [List.getLast?_eq_getElem?, ← e2]; exact hz)
       exact this.2
      ·obtain ⟨w, hiw, hw⟩ := ok_ixN (xs := l) (i := i + 1) (by omega)
       rw [hiw, Option.bind_some]
       refine ok_some (fun h3 => ?_)
       have h4 : ¬ w.fThread = z.fThread := by simpa using h3
       rcases ha i z w hz hw with ⟨g1, _⟩ | ⟨_, _, _, g3, _⟩
       ·exact absurd g1.symm h4
       ·exact g3
     ·refine ok_bind (Q := fun v => v = false) (ok_cond (fun h => ok_some (by rw [hv h, f2]; simp)) (fun _ => ok_some rfl)) (fun v hv => ?_)
      subst hv
      exact ok_inl ⟨by omega, rfl, trivial⟩
    ·have hr := nodup_ix hn f1 e3
     have hrl := lt_of_get e3
     refine ok_nite (fun h => absurd ?_ h) (fun _ => ok_some rfl)
     rw [w64_of (by omega)]
     omega
 obtain ⟨r, h1, h2⟩ := this
 rw [h1, h2]
theorem forms_ok (o : List api_Timed) (hl : o.length ≤ 1000000) : Ok (tracebookref27_Forms o) (fun b => b = true → ∀ e ∈ o, Frm e) := by
 unfold tracebookref27_Forms
 refine ok_bindS (Q := InlR (fun _ => ∀ e ∈ o, Frm e) (fun r => r = false)) (ok_upN o.length (fun n => ∀ (k : Nat) e, k < n → o[k]? = some e → Frm e) (by omega) (fun k e h => by omega) (fun i hI h2 => ?_)) (fun _ h => ok_some (fun _ => h)) (fun r hr => ok_some (fun e => by rw [hr] at e; simp at e))
 unfold tracebookref27_Forms_L1
 refine ok_ite (fun hi => ?_) (fun hi => ok_inr (fun e he => ?_))
 ·obtain ⟨y, hiy, hy⟩ := ok_ixN (xs := o) (i := i) (by omega)
  simp only [hiy, Option.bind_some]
  refine ok_bind (Q := fun v => v = false → 0 ≤ y.fId.fThread ∧ y.fId.fThread ≤ 1000000000000000) ?_ (fun v hv => ?_)
  ·refine ok_ite (fun h => ok_some (by simp)) (fun h => ok_some (fun h3 => ?_))
   have := of_decide_eq_false h3; omega
  refine ok_cond (fun _ => ok_inr rfl) (fun h => ?_)
  have q1 := hv h
  refine ok_bind (Q := fun v => v = false → y.fEvent.fKind = 8 → 0 ≤ y.fEvent.fN ∧ y.fEvent.fN ≤ 63) ?_ (fun v hv => ?_)
  ·refine ok_ite (fun h => ?_) (fun h => ok_some (fun _ h3 => absurd h3 h))
   refine ok_ite (fun h => ok_some (by simp)) (fun h => ok_some (fun h3 _ => ?_))
   have := of_decide_eq_false h3; omega
  refine ok_cond (fun _ => ok_inr rfl) (fun h => ?_)
  have q2 := hv h
  refine ok_bind (Q := fun v => v = false → y.fEvent.fKind = 9 → 0 ≤ y.fEvent.fN ∧ y.fEvent.fN ≤ 3 ∧ 0 ≤ y.fEvent.fM ∧ y.fEvent.fM ≤ 1000000000000000) ?_ (fun v hv => ?_)
  ·refine ok_ite (fun h => ?_) (fun h => ok_some (fun _ h3 => absurd h3 h))
   refine ok_ite (fun h => ok_some (by simp)) (fun h => ?_)
   refine ok_ite (fun h => ok_some (by simp)) (fun h => ?_)
   refine ok_ite (fun h => ok_some (by simp)) (fun h => ok_some (fun h3 _ => ?_))
   have := of_decide_eq_false h3; omega
  refine ok_cond (fun _ => ok_inr rfl) (fun h => ?_)
  have q3 := hv h
  refine ok_inl ⟨by omega, w64_N (n := o.length) (by omega) (by omega), fun k e hk he => ?_⟩
  by_cases e2 : k = i
  ·subst e2; rw [hy] at he; cases he; exact ⟨q1, q2, q3⟩
  ·exact hI k e (by omega) he
 ·obtain ⟨k, hk⟩ := List.getElem?_of_mem he
  exact hI k e (by have := lt_of_get hk; omega) hk
def shr (p : api_Span) (id st : Int) (y : api_State) : Int := if y.fThread = id ∧ y.fState = st then ov p y else 0
def totS (p : api_Span) (l : List api_State) (id st : Int) : Int := sumI (l.map (shr p id st))
theorem ov_rng {p : api_Span} (y : api_State) (h0 : 0 ≤ p.fFrom) (h2 : p.fTo ≤ 1000000000000) : 0 ≤ ov p y ∧ ov p y ≤ 1000000000000 := by unfold ov; omega
theorem totS_rng {p : api_Span} (h0 : 0 ≤ p.fFrom) (h2 : p.fTo ≤ 1000000000000) (id st : Int) : ∀ l : List api_State, 0 ≤ totS p l id st ∧ totS p l id st ≤ 1000000000000 * l.length
 | [] => by simp [totS, sumI]
 | y :: l => by
  have h3 := totS_rng h0 h2 id st l
  have h4 := ov_rng y h0 h2
  have h5 : 0 ≤ shr p id st y ∧ shr p id st y ≤ 1000000000000 := by unfold shr; split <;> omega
  unfold totS at h3 ⊢
  simp only [List.map_cons, sumI, List.length_cons]
  omega
theorem totS_snoc (p : api_Span) (l : List api_State) (y : api_State) (id st : Int) : totS p (l ++ [y]) id st = totS p l id st + shr p id st y := by
 unfold totS
 rw [List.map_append, sumI_app]
 simp [sumI]
theorem Total_p {p : api_Span} (h0 : 0 ≤ p.fFrom) (h1 : p.fFrom < p.fTo) (h2 : p.fTo ≤ 1000000000000) (l : List api_State) (hl : l.length ≤ 1000000) (hm : ∀ y ∈ l, 0 ≤ y.fSpan.fFrom ∧ y.fSpan.fFrom < y.fSpan.fTo ∧ y.fSpan.fTo ≤ 1000000000000) (id st : Int) : state_Total l id st p = some (totS p l id st) := by
 have : Ok (state_Total l id st p) (fun r => r = totS p l id st) := by
  unfold state_Total
  rw [valid_p h0 h1 h2, Option.bind_some]
  simp only [Bool.not_true, cond_false]
  refine ok_bind (ok_up2N l.length (fun (a : Int) n => a = totS p (l.take n) id st) (by omega) (by simp [totS, sumI]) (fun a i hI h3 => ?_)) (fun r hr => ok_some hr)
  unfold state_Total_L1
  dsimp only
  refine ok_ite (fun hi => ?_) (fun hi => ok_inr (by rw [hI, show i = l.length by omega, List.take_length]))
  obtain ⟨y, hiy, hy⟩ := ok_ixN (xs := l) (i := i) (by omega)
  have hlt := lt_of_get hy
  have hy' : l[i] = y := by have := List.getElem?_eq_getElem hlt; rw [hy] at this; exact (Option.some.inj this).symm
  have hr := totS_rng (p := p) h0 h2 id st (l.take i)
  rw [List.length_take] at hr
  have hmin : min i l.length ≤ 1000000 := by omega
  have hov := ov_rng (p := p) y h0 h2
  obtain ⟨m1, m2, m3⟩ := hm y (List.mem_of_getElem? hy)
  rw [hiy]
  simp only [Option.bind_some]
  refine ok_bind (Q := fun v => v = totS p (l.take (i + 1)) id st) ?_ (fun v hv => ok_inl ⟨by omega, w64_N (n := l.length) (by omega) (by omega), hv⟩)
  rw [List.take_succ_eq_append_getElem hlt, hy', totS_snoc]
  refine ok_bind (Q := fun v => v = decide (y.fThread = id ∧ y.fState = st)) (ok_ite (fun e => ok_some (by simp [e])) (fun e => ok_some (by simp [e]))) (fun v hv => ?_)
  subst hv
  subst hI
  refine ok_ite (fun hs => ok_some ?_) (fun hs => ok_some ?_)
  ·unfold shr
   rw [if_pos hs, w64_of (n := min y.fSpan.fTo p.fTo - max y.fSpan.fFrom p.fFrom) (by omega)]
   rw [w64_of]
   ·rfl
   ·have : max 0 (min y.fSpan.fTo p.fTo - max y.fSpan.fFrom p.fFrom) = ov p y := rfl
    rw [this]
    omega
  ·unfold shr
   rw [if_neg hs]; omega
 obtain ⟨r, g1, g2⟩ := this
 rw [g1, g2]
def totN (p : api_Span) (l : List api_State) (id : Int) : Nat → Int
 | 0 => 0
 | n + 1 => totN p l id n + totS p l id (n : Int)
theorem totN_rng {p : api_Span} (h0 : 0 ≤ p.fFrom) (h2 : p.fTo ≤ 1000000000000) (id : Int) (l : List api_State) (hl : l.length ≤ 100000) : ∀ n, n ≤ 10 → 0 ≤ totN p l id n ∧ totN p l id n ≤ 100000000000000000 * n
 | 0, _ => by simp [totN]
 | n + 1, h => by
  have h1 := totN_rng h0 h2 id l hl n (by omega)
  have h3 := totS_rng h0 h2 id (n : Int) l
  simp only [totN]
  omega
def totA (p : api_Span) (l : List api_State) (id : Int) : Int := sumI (l.map fun y => if y.fThread = id then ov p y else 0)
theorem totA_app (p : api_Span) (a b : List api_State) (id : Int) : totA p (a ++ b) id = totA p a id + totA p b id := by unfold totA; rw [List.map_append, sumI_app]
theorem totN_all (p : api_Span) (id : Int) : ∀ l : List api_State, (∀ y ∈ l, 0 ≤ y.fState ∧ y.fState ≤ 5) → totN p l id 6 = totA p l id
 | [], _ => by simp [totN, totS, totA, sumI]
 | y :: l, h => by
  have ih := totN_all p id l (fun z hz => h z (List.mem_cons_of_mem _ hz))
  have hy := h y (by simp)
  simp only [totN, totS, totA, List.map_cons, sumI] at ih ⊢
  have key : shr p id ((0 : Nat) : Int) y + shr p id ((1 : Nat) : Int) y + shr p id ((2 : Nat) : Int) y + shr p id ((3 : Nat) : Int) y + shr p id ((4 : Nat) : Int) y + shr p id ((5 : Nat) : Int) y = if y.fThread = id then ov p y else 0 := by
   unfold shr
   by_cases ht : y.fThread = id
   ·simp only [ht, true_and, if_true]
    have : y.fState = 0 ∨ y.fState = 1 ∨ y.fState = 2 ∨ y.fState = 3 ∨ y.fState = 4 ∨ y.fState = 5 := by omega
    rcases this with e | e | e | e | e | e <;> rw [e] <;> simp
   ·simp [ht]
  omega
theorem totA_of {p : api_Span} {id k : Int} : ∀ {l : List api_State}, (∀ y ∈ l, y.fThread = k) → totA p l id = if k = id then sumO p l else 0
 | [], _ => by simp [totA, sumO, sumI]
 | y :: l, h => by
  have ih := totA_of (p := p) (id := id) (k := k) (l := l) (fun z hz => h z (List.mem_cons_of_mem _ hz))
  have hy := h y (by simp)
  simp only [totA, sumO, List.map_cons, sumI] at ih ⊢
  rw [ih, hy]
  split <;> simp
theorem totA_flat {p : api_Span} {S : Int → List api_State} (hS : ∀ id, ∀ y ∈ S id, y.fThread = id) (id : Int) : ∀ {ids : List Int}, ids.Nodup → totA p (ids.flatMap S) id = if id ∈ ids then sumO p (S id) else 0
 | [], _ => by simp [totA, sumI]
 | k :: ids, h => by
  have hn := List.nodup_cons.1 h
  rw [List.flatMap_cons, totA_app, totA_of (hS k), totA_flat hS id hn.2]
  by_cases e : k = id
  ·subst e
   rw [if_pos rfl, if_neg hn.1, if_pos (by simp)]; omega
  ·rw [if_neg e]
   by_cases hm : id ∈ ids
   ·rw [if_pos hm, if_pos (by simp [hm])]; omega
   ·rw [if_neg hm, if_neg (by simp [hm]; exact fun h => e h.symm)]; rfl
theorem flat_mem {S : Int → List api_State} {p : api_Span} {E : Int} (hS : ∀ id, Seg id p E (S id)) {ids : List Int} {y : api_State} (h : y ∈ ids.flatMap S) : PieceOk y.fThread y ∧ y.fThread ∈ ids := by
 obtain ⟨id, h1, h2⟩ := List.mem_flatMap.1 h
 have := (hS id).mem y h2
 exact ⟨by rw [this.1]; exact this, by rw [this.1]; exact h1⟩
theorem stateAdds_holds (ths : List api_Thread) (o : List api_Timed) (e0 : Int) (p : api_Span) : tracebooklaw27_StateAdds ths o e0 p = some true := by
 have : Ok (tracebooklaw27_StateAdds ths o e0 p) (fun b => b = true) := by
  unfold tracebooklaw27_StateAdds
  rw [awake27]
  refine ok_bind (Q := fun v => v = false → ths.length ≤ 20 ∧ o.length ≤ 200 ∧ Ord27 o ∧ ∀ e ∈ o, Frm e) ?_ (fun v hv => ?_)
  ·refine ok_bind (light_ok ths o) (fun b hb => ?_)
   refine ok_not (fun _ => ok_some (by simp)) (fun e => ?_)
   obtain ⟨g1, g2, g3⟩ := hb e
   refine ok_bind (forms_ok o (by omega)) (fun b hb => ok_some (fun e2 => ?_))
   have : b = true := by simpa using e2
   exact ⟨g1, g2, g3, hb this⟩
  refine ok_cond (fun _ => ok_some rfl) (fun h => ?_)
  obtain ⟨g1, g2, g3, g4⟩ := hv h
  rw [Of_p ths o e0 (by omega) (by omega), Option.bind_some]
  have hil := idsN_len ths ths.length
  have hn := idsN_nodup ths ths.length
  have hol : (ofL o (endO o e0) (idsN ths ths.length)).length ≤ 100000 := by
   have h1 := ofL_len o (endO o e0) (by omega) (idsN ths ths.length)
   have h2 := Nat.mul_le_mul_left 3001 (show (idsN ths ths.length).length ≤ 20 by omega)
   omega
  have hE : 0 ≤ endO o e0 := by unfold endO; omega
  have hseg : ∀ q : api_Span, 0 ≤ q.fFrom → q.fFrom < q.fTo → ∀ id, Seg id q (endO o e0) (stsT (trkN id o o.length) id (endO o e0)) := fun q a b id => sts_seg a b g3 g4 (by omega) e0
  have hseg1 := hseg { fFrom := 0, fTo := 1 } (by show (0 : Int) ≤ 0; omega) (by show (0 : Int) < 1; omega)
  have hmem : ∀ y ∈ ofL o (endO o e0) (idsN ths ths.length), PieceOk y.fThread y ∧ y.fThread ∈ idsN ths ths.length := fun y hy => flat_mem hseg1 hy
  have hchk : state_Check ths (ofL o (endO o e0) (idsN ths ths.length)) = some 0 := by
   by_cases hpos : 0 < endO o e0
   ·obtain ⟨f1, f2, f3, f4⟩ := flat_adj hpos hseg1 (full := idsN ths ths.length) (idsN ths ths.length) [] rfl
    exact Check_all ths _ (endO o e0) (by omega) (by omega) hmem f1 f2 f4
   ·have e0' : endO o e0 = 0 := by omega
    have hnil : ofL o (endO o e0) (idsN ths ths.length) = [] := by
     rw [e0'] at hseg1 ⊢
     unfold ofL
     exact List.flatMap_eq_nil_iff.2 (fun id _ => (hseg1 id).empty)
    rw [hnil]
    exact Check_all ths [] 0 (by omega) (by simp) (by simp) (fun k a b h => by simp at h) (by simp) (by simp)
  rw [hchk]
  simp only [Option.bind_some]
  refine ok_nite (fun h => absurd trivial h) (fun _ => ?_)
  rw [End_p o e0 (by omega)]
  simp only [Option.bind_some]
  refine ok_bind (Q := fun v => v = false → (0 ≤ p.fFrom ∧ p.fFrom < p.fTo ∧ p.fTo ≤ 1000000000000) ∧ p.fTo ≤ endO o e0) ?_ (fun v hv => ?_)
  ·have hval : Ok (spans_Valid p) (fun r => r = true → 0 ≤ p.fFrom ∧ p.fFrom < p.fTo ∧ p.fTo ≤ 1000000000000) := by
    unfold spans_Valid
    refine ok_bind (Q := fun r => r = true → 0 ≤ p.fFrom ∧ p.fFrom < p.fTo ∧ p.fTo ≤ 1000000000000) ?_ (fun v hv => ok_some hv)
    refine ok_ite (fun a => ?_) (fun _ => ok_some (by simp))
    exact ok_ite (fun b => ok_some (fun c => ⟨a, b, of_decide_eq_true c⟩)) (fun _ => ok_some (by simp))
   refine ok_bind hval (fun b hb => ?_)
   refine ok_not (fun _ => ok_some (by simp)) (fun e => ok_some (fun h2 => ⟨hb e, ?_⟩))
   have := of_decide_eq_false h2; omega
  refine ok_cond (fun _ => ok_some rfl) (fun h => ?_)
  obtain ⟨⟨p0, p1, p2⟩, p3⟩ := hv h
  refine ok_bindS (Q := InlR Yes (fun _ => False)) (ok_upN ths.length (fun _ => True) (by omega) trivial (fun i _ h2 => ?_)) (fun _ _ => ok_some rfl) (fun _ hr => (hr : False).elim)
  unfold tracebooklaw27_StateAdds_L2
  refine ok_ite (fun hi => ?_) (fun _ => ok_inr trivial)
  obtain ⟨y, hiy, hy⟩ := ok_ixN (xs := ths) (i := i) (by omega)
  rw [hiy, Option.bind_some]
  have hm2 : ∀ z ∈ ofL o (endO o e0) (idsN ths ths.length), 0 ≤ z.fSpan.fFrom ∧ z.fSpan.fFrom < z.fSpan.fTo ∧ z.fSpan.fTo ≤ 1000000000000 := fun z hz => by
   obtain ⟨⟨_, a, b, c, _⟩, _⟩ := hmem z hz
   exact ⟨a, b, c⟩
  have hsum : totN p (ofL o (endO o e0) (idsN ths ths.length)) y.fId 6 = p.fTo - p.fFrom := by
   rw [totN_all p y.fId _ (fun z hz => by obtain ⟨⟨_, _, _, _, c, _⟩, _⟩ := hmem z hz; exact ⟨c.1, c.2.1⟩)]
   have hin : y.fId ∈ idsN ths ths.length := (idsN_mem ths y.fId ths.length).2 ⟨i, y, lt_of_get hy, hy, rfl⟩
   unfold ofL
   rw [totA_flat (fun id z hz => ((hseg1 id).mem z hz).1) y.fId hn, if_pos hin, (hseg p p0 p1 y.fId).sum]
   omega
  generalize ofL o (endO o e0) (idsN ths ths.length) = l at *
  refine ok_bind (Q := fun r => r = totN p l y.fId 6) (ok_up2N 6 (fun (a : Int) n => a = totN p l y.fId n) (by omega) rfl (fun a k hI h3 => ?_)) (fun r hr => ?_)
  ·unfold tracebooklaw27_StateAdds_L1
   dsimp only
   have hr := totN_rng (p := p) p0 p2 y.fId l (by omega) k (by omega)
   have hr2 := totS_rng (p := p) p0 p2 y.fId (k : Int) l
   refine ok_ite (fun hk => ?_) (fun hk => ok_inr (by rw [hI, show k = 6 by omega]))
   rw [Total_p p0 p1 p2 l (by omega) hm2 y.fId (k : Int), Option.bind_some]
   refine ok_inl ⟨by omega, w64_of (by omega), ?_⟩
   rw [w64_of (by omega), hI]; rfl
  ·subst hr
   rw [hsum, w64_of (n := p.fTo - p.fFrom) (by omega)]
   refine ok_nite (fun h => absurd rfl h) (fun _ => ?_)
   exact ok_inl ⟨by omega, w64_N (n := ths.length) (by omega) (by omega), trivial⟩
 obtain ⟨r, h1, h2⟩ := this
 rw [h1, h2]
end Go.VM
