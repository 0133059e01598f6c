/- The law holds: plain mathematics on what the functions compute. -/
import Derived.Test.YtnhjanhaokiahaaL27B
namespace Go.VM
theorem lt_of_get {α : Type} {xs : List α} {i : Nat} {y : α} (h : xs[i]? = some y) : i < xs.length := (List.getElem?_eq_some_iff.1 h).1
end Go.VM
namespace Go.VM
def Ok {α : Type} (x : Option α) (P : α → Prop) : Prop := ∃ r, x = some r ∧ P r
def Yes {α : Type} : α → Prop := fun _ => True
def InlR {α β : Type} (A : α → Prop) (B : β → Prop) : α ⊕ β → Prop
 | .inl a => A a
 | .inr b => B b
theorem ok_some {α : Type} {P : α → Prop} {r : α} (h : P r) : Ok (some r) P := ⟨r, rfl, h⟩
theorem ok_inl {α β : Type} {A : α → Prop} {B : β → Prop} {a : α} (h : A a) : Ok (some (.inl a)) (InlR A B) := ⟨_, rfl, h⟩
theorem ok_inr {α β : Type} {A : α → Prop} {B : β → Prop} {b : β} (h : B b) : Ok (some (.inr b)) (InlR A B) := ⟨_, rfl, h⟩
theorem ok_bind {α β : Type} {x : Option α} {f : α → Option β} {Q : α → Prop} {P : β → Prop} (hx : Ok x Q) (hf : ∀ r, Q r → Ok (f r) P) : Ok (x.bind f) P := by
 obtain ⟨r, h1, h2⟩ := hx
 subst h1; exact hf r h2
theorem ok_bindS {α β γ : Type} {x : Option (α ⊕ γ)} {f : α ⊕ γ → Option β} {Q : α ⊕ γ → Prop} {P : β → Prop} (hx : Ok x Q) (hf : ∀ r, Q (.inl r) → Ok (f (.inl r)) P) (hg : ∀ r, Q (.inr r) → Ok (f (.inr r)) P) : Ok (x.bind f) P :=
 ok_bind hx (fun r => match r with | .inl a => hf a | .inr b => hg b)
theorem ok_cond {α : Type} {b : Bool} {x y : Option α} {P : α → Prop} (h1 : b = true → Ok x P) (h2 : b = false → Ok y P) : Ok (cond b x y) P := by
 cases b
 ·exact h2 rfl
 ·exact h1 rfl
theorem Ok.mono {α : Type} {x : Option α} {P Q : α → Prop} (h : Ok x P) (hq : ∀ r, P r → Q r) : Ok x Q := by
 obtain ⟨r, h1, h2⟩ := h; exact ⟨r, h1, hq r h2⟩
theorem ok_idx {α : Type} {xs : List α} {i : Int} (h1 : 0 ≤ i) (h2 : i < xs.length) : Ok (idx xs i) (fun y => xs[i.toNat]? = some y) := by
 obtain ⟨n, rfl⟩ := Int.eq_ofNat_of_zero_le h1
 have h3 : n < xs.length := by omega
 rw [idx_nat]
 exact ⟨xs[n], by simp [h3], by simp [h3]⟩
theorem ok_loop {S ρ : Type} {step : S → Option (S ⊕ ρ)} (Inv : S → Prop) (m : S → Nat) {Post : ρ → Prop}
  (h : ∀ s, Inv s → Ok (step s) (InlR (fun s' => Inv s' ∧ m s' < m s) Post)) {s : S} (hs : Inv s) (hm : m s < manyRounds) : Ok (loop step s) Post := by
 refine loop_inv Inv m Post (fun s hs => ?_) hs hm
 obtain ⟨r, h1, h2⟩ := h s hs
 cases r with
 | inl a => exact Or.inl ⟨a, h1, h2⟩
 | inr b => exact Or.inr ⟨b, h1, h2⟩
theorem ok_yes {α : Type} {r : α} : Ok (some r) Yes := ⟨r, rfl, trivial⟩
theorem ok_ite {α : Type} {p : Prop} [Decidable p] {x y : Option α} {P : α → Prop} (h1 : p → Ok x P) (h2 : ¬p → Ok y P) : Ok (cond (decide p) x y) P :=
 ok_cond (fun h => h1 (of_decide_eq_true h)) (fun h => h2 (of_decide_eq_false h))
theorem ok_nite {α : Type} {p : Prop} [Decidable p] {x y : Option α} {P : α → Prop} (h1 : ¬p → Ok x P) (h2 : p → Ok y P) : Ok (cond (!decide p) x y) P := by
 by_cases h : p
 ·simpa [h] using h2 h
 ·simpa [h] using h1 h
theorem ok_not {α : Type} {b : Bool} {x y : Option α} {P : α → Prop} (h1 : b = false → Ok x P) (h2 : b = true → Ok y P) : Ok (cond (!b) x y) P := by
 cases b
 ·exact h1 rfl
 ·exact h2 rfl
abbrev Tot {α : Type} (x : Option α) : Prop := Ok x Yes
theorem ok_up2 {σ ρ : Type} {step : σ × Int → Option ((σ × Int) ⊕ ρ)} (n : Nat) (Inv : σ → Int → Prop) {Post : ρ → Prop} (hn : n ≤ 9223372036854775807) {s0 : σ} (h0 : Inv s0 0)
  (h : ∀ (s : σ) (i : Int), Inv s i → 0 ≤ i → i ≤ n → Ok (step (s, i)) (InlR (fun a => i < n ∧ a.2 = i + 1 ∧ Inv a.1 (i + 1)) Post)) : Ok (loop step (s0, 0)) Post := by
 refine ok_loop (fun s : σ × Int => Inv s.1 s.2 ∧ 0 ≤ s.2 ∧ s.2 ≤ (n : Int)) (fun s : σ × Int => ((n : Int) - s.2).toNat) (fun s hi => (h s.1 s.2 hi.1 hi.2.1 hi.2.2).mono ?_) ⟨h0, by simp, by simp⟩ (by simp [manyRounds]; omega)
 rintro (⟨a, j⟩ | b) hr
 ·obtain ⟨h1, h2, h3⟩ : s.2 < n ∧ j = s.2 + 1 ∧ Inv a (s.2 + 1) := hr
  subst h2
  exact ⟨⟨h3, by simp; omega, by simp; omega⟩, by simp; omega⟩
 ·exact hr
theorem ok_upI {ρ : Type} {step : Int → Option (Int ⊕ ρ)} (n : Nat) (Inv : Int → Prop) {Post : ρ → Prop} (hn : n ≤ 9223372036854775807) (h0 : Inv 0)
  (h : ∀ i : Int, Inv i → 0 ≤ i → i ≤ n → Ok (step i) (InlR (fun a => i < n ∧ a = i + 1 ∧ Inv (i + 1)) Post)) : Ok (loop step 0) Post := by
 refine ok_loop (fun i : Int => Inv i ∧ 0 ≤ i ∧ i ≤ (n : Int)) (fun i : Int => ((n : Int) - i).toNat) (fun i hi => (h i hi.1 hi.2.1 hi.2.2).mono ?_) ⟨h0, by omega, by omega⟩ (by simp [manyRounds]; omega)
 rintro (a | b) hr
 ·obtain ⟨h1, rfl, h3⟩ : i < n ∧ a = i + 1 ∧ Inv (i + 1) := hr
  exact ⟨⟨h3, by omega, by omega⟩, by omega⟩
 ·exact hr
theorem room_ok {b n : Nat} (h1 : n * b ≤ 140737488355328) (h2 : n ≤ 9223372036854775807) : room b n = true := by
 simp only [room, Bool.and_eq_true]
 exact ⟨Nat.ble_eq_true_of_le h1, Nat.ble_eq_true_of_le h2⟩
theorem mget_mput {κ ν : Type} [DecidableEq κ] (k k' : κ) (v : ν) : ∀ (m : List (κ × ν)), mget k (mput k' v m) = if k = k' then some v else mget k m
 | [] => by simp [mput, mget]
 | p :: r => by
  simp only [mput]
  by_cases e : k' = p.1
  ·subst e
   simp only [if_true, mget]
   by_cases e2 : k = p.1 <;> simp [e2]
  ·rw [if_neg e]
   simp only [mget]
   rw [mget_mput k k' v r]
   by_cases e2 : k = p.1
   ·subst e2
    rw [if_pos rfl, if_pos rfl, if_neg (fun h => e h.symm)]
   ·rw [if_neg e2, if_neg e2]
theorem ok_up2N {σ ρ : Type} {step : σ × Int → Option ((σ × Int) ⊕ ρ)} (n : Nat) (Inv : σ → Nat → Prop) {Post : ρ → Prop} (hn : n ≤ 9223372036854775807) {s0 : σ} (h0 : Inv s0 0)
  (h : ∀ (s : σ) (i : Nat), Inv s i → i ≤ n → Ok (step (s, (i : Int))) (InlR (fun a => i < n ∧ a.2 = ((i + 1 : Nat) : Int) ∧ Inv a.1 (i + 1)) Post)) : Ok (loop step (s0, 0)) Post := by
 refine ok_up2 n (fun s i => Inv s i.toNat) hn h0 (fun s i hI h1 h2 => ?_)
 obtain ⟨k, rfl⟩ := Int.eq_ofNat_of_zero_le h1
 refine (h s k hI (by omega)).mono ?_
 rintro (⟨a, b⟩ | b) hr
 ·obtain ⟨h3, h4, h5⟩ : k < n ∧ b = ((k + 1 : Nat) : Int) ∧ Inv a (k + 1) := hr
  refine ⟨by omega, by omega, ?_⟩
  rw [show ((k : Int) + 1).toNat = k + 1 by omega]; exact h5
 ·exact hr
theorem ok_upN {ρ : Type} {step : Int → Option (Int ⊕ ρ)} (n : Nat) (Inv : Nat → Prop) {Post : ρ → Prop} (hn : n ≤ 9223372036854775807) (h0 : Inv 0)
  (h : ∀ i : Nat, Inv i → i ≤ n → Ok (step (i : Int)) (InlR (fun a => i < n ∧ a = ((i + 1 : Nat) : Int) ∧ Inv (i + 1)) Post)) : Ok (loop step 0) Post := by
 refine ok_upI n (fun i => Inv i.toNat) hn h0 (fun i hI h1 h2 => ?_)
 obtain ⟨k, rfl⟩ := Int.eq_ofNat_of_zero_le h1
 refine (h k hI (by omega)).mono ?_
 rintro (b | b) hr
 ·obtain ⟨h3, h4, h5⟩ : k < n ∧ b = ((k + 1 : Nat) : Int) ∧ Inv (k + 1) := hr
  refine ⟨by omega, by omega, ?_⟩
  rw [show ((k : Int) + 1).toNat = k + 1 by omega]; exact h5
 ·exact hr
theorem ok_ixN {α : Type} {xs : List α} {i : Nat} (h : i < xs.length) : Ok (idx xs (i : Int)) (fun y => xs[i]? = some y) := by
 rw [idx_nat]; exact ⟨xs[i], by simp [h], by simp [h]⟩
theorem w64_N {i n : Nat} (h : i < n) (hn : n ≤ 9223372036854775807) : w64 ((i : Int) + 1) = ((i + 1 : Nat) : Int) := by rw [w64_of (by omega)]; omega
theorem contains_p (l : List Int) (a : Int) (hl : l.length ≤ 9223372036854775807) : slices_Contains_int_int l a = some (decide (a ∈ l)) := by
 have : Ok (slices_Index_int_int l a) (fun r => 0 ≤ r ↔ a ∈ l) := by
  unfold slices_Index_int_int
  refine ok_bindS (Q := InlR (fun _ => a ∉ l) (fun r => 0 ≤ r ∧ a ∈ l)) (ok_upN l.length (fun n => ∀ (k : Nat) z, k < n → l[k]? = some z → z ≠ a) hl (by intro k z hk; omega) (fun i hI h2 => ?_)) (fun _ hq => ok_some ⟨fun h => by omega, fun h => absurd h hq⟩) (fun r hr => ok_some ⟨fun _ => hr.2, fun _ => hr.1⟩)
  unfold slices_Index_int_int_L1
  refine ok_ite (fun hi => ?_) (fun hi => ok_inr (fun hm => ?_))
  ·refine ok_bind (ok_ixN (by omega)) (fun y hy => ?_)
   refine ok_ite (fun e => ok_inr ⟨by omega, e ▸ List.mem_of_getElem? hy⟩) (fun e => ?_)
   rw [w64_N (n := l.length) (by omega) hl]
   refine ok_inl ⟨by omega, rfl, fun k z hk hz => ?_⟩
   by_cases e2 : k = i
   ·subst e2; rw [hy] at hz; cases hz; exact fun h => e h.symm
   ·exact hI k z (by omega) hz
  ·obtain ⟨k, hk⟩ := List.getElem?_of_mem hm
   exact hI k a (by have := lt_of_get hk; omega) hk rfl
 obtain ⟨r, h1, h2⟩ := this
 unfold slices_Contains_int_int
 rw [h1, Option.bind_some]
 congr 1
 exact decide_eq_decide.2 h2
def idsN (ths : List api_Thread) : Nat → List Int
 | 0 => []
 | n + 1 => match ths[n]? with
  | some y => if y.fId ∈ idsN ths n then idsN ths n else idsN ths n ++ [y.fId]
  | none => idsN ths n
theorem idsN_len (ths : List api_Thread) : ∀ n, (idsN ths n).length ≤ n
 | 0 => by simp [idsN]
 | n + 1 => by
  have := idsN_len ths n
  simp only [idsN]
  split
  ·split
   ·omega
   ·simp; omega
  ·omega
theorem idsN_nodup (ths : List api_Thread) : ∀ n, (idsN ths n).Nodup
 | 0 => by simp [idsN]
 | n + 1 => by
  have := idsN_nodup ths n
  simp only [idsN]
  split
  ·split
   ·exact this
   ·rename_i hn
    exact List.nodup_append.2 ⟨this, by simp, by intro a ha b hb; simp at hb; subst hb; exact fun e => hn (e ▸ ha)⟩
  ·exact this
theorem idsN_mem (ths : List api_Thread) (a : Int) : ∀ n, a ∈ idsN ths n ↔ ∃ (k : Nat) (y : api_Thread), k < n ∧ ths[k]? = some y ∧ y.fId = a
 | 0 => by simp [idsN]
 | n + 1 => by
  have ih := idsN_mem ths a n
  simp only [idsN]
  cases hy : ths[n]? with
  | none =>
   simp only
   rw [ih]
   constructor
   ·rintro ⟨k, y, h1, h2, h3⟩; exact ⟨k, y, by omega, h2, h3⟩
   ·rintro ⟨k, y, h1, h2, h3⟩
    by_cases e : k = n
    ·subst e; rw [hy] at h2; simp at h2
    ·exact ⟨k, y, by omega, h2, h3⟩
  | some y =>
   simp only
   have key : a ∈ idsN ths n ∨ y.fId = a ↔ ∃ (k : Nat) (z : api_Thread), k < n + 1 ∧ ths[k]? = some z ∧ z.fId = a := by
    constructor
    ·rintro (h | h)
     ·obtain ⟨k, z, h1, h2, h3⟩ := ih.1 h; exact ⟨k, z, by omega, h2, h3⟩
     ·exact ⟨n, y, by omega, hy, h⟩
    ·rintro ⟨k, z, h1, h2, h3⟩
     by_cases e : k = n
     ·subst e; rw [hy] at h2; cases h2; exact .inr h3
     ·exact .inl (ih.2 ⟨k, z, by omega, h2, h3⟩)
   rw [← key]
   split
   ·rename_i hin
    exact ⟨.inl, fun h => h.elim id (fun e => e ▸ hin)⟩
   ·simp only [List.mem_append, List.mem_singleton]
    exact ⟨fun h => h.imp id Eq.symm, fun h => h.imp id Eq.symm⟩
theorem ids_p (ths : List api_Thread) (hl : ths.length ≤ 1000000) : state_distinct ths = some (idsN ths ths.length) := by
 have : Ok (state_distinct ths) (fun r => r = idsN ths ths.length) := by
  unfold state_distinct
  refine ok_bind (ok_up2N ths.length (fun a n => a = idsN ths n) (by omega) rfl (fun a i hI h2 => ?_)) (fun r hr => ok_some hr)
  unfold state_distinct_L1
  dsimp only
  subst hI
  have hlen := idsN_len ths i
  refine ok_ite (fun hi => ?_) (fun hi => ok_inr (by rw [show i = ths.length by omega]))
  obtain ⟨y, hiy, hy⟩ := ok_ixN (xs := ths) (i := i) (by omega)
  rw [hiy, Option.bind_some, contains_p _ _ (by omega), Option.bind_some]
  refine ok_bind (Q := fun r => r = idsN ths (i + 1)) ?_ (fun r hr => ok_inl ⟨by omega, w64_N (n := ths.length) (by omega) (by omega), hr⟩)
  simp only [idsN, hy]
  by_cases hm : y.fId ∈ idsN ths i
  ·simp only [hm, decide_true, Bool.not_true, cond_false, if_true]; exact ok_some rfl
  ·simp only [hm, decide_false, Bool.not_false, cond_true, if_false]
   rw [room_ok (by simp; omega) (by simp; omega)]
   exact ok_some rfl
 obtain ⟨r, h1, h2⟩ := this
 rw [h1, h2]
def tmE (e : api_Timed) : Int := max 0 (min e.fWhen.fLo 1000000000000)
theorem time_p (e : api_Timed) : state_time e = some (tmE e) := rfl
def popR (last : Int) : List state_change → List state_change
 | c :: d :: r => if last < c.fat then popR last (d :: r) else c :: d :: r
 | r => r
theorem popR_len (last : Int) : ∀ r, (popR last r).length ≤ r.length ∧ (r ≠ [] → popR last r ≠ [])
 | [] => by simp [popR]
 | [c] => by simp [popR]
 | c :: d :: r => by
  simp only [popR]
  have := popR_len last (d :: r)
  split
  ·exact ⟨by have := this.1; simp at this ⊢; omega, fun _ => this.2 (by simp)⟩
  ·exact ⟨Nat.le_refl _, fun h => h⟩
def chg (at' st cpu on by' : Int) : state_change := { fat := at', fstate := st, fcpu := cpu, fon := on, fby := by' }
def gapC (t : state_track) : List state_change := (popR t.flast t.fchanges.reverse).reverse ++ [chg t.flast 5 (-1) (-1) (-1)]
theorem becomes_p (t : state_track) (a b c d e : Int) (h : t.fchanges.length ≤ 1000000) : state_track_becomes_k1 t a b c d e = some { fchanges := t.fchanges ++ [chg a b c d e], fnext := t.fnext, flast := t.flast } := by
 unfold state_track_becomes_k1
 rw [room_ok (by simp; omega) (by simp; omega)]
 rfl
theorem now_p (t : state_track) (l : List state_change) (c : state_change) (h : t.fchanges = l ++ [c]) (hl : l.length ≤ 1000000) : state_track_now_k1 t = some c := by
 unfold state_track_now_k1
 rw [h, w64_of (by simp; omega)]
 have : ((((l ++ [c]).length : Nat) : Int) - 1) = ((l.length : Nat) : Int) := by simp
 rw [this, idx_nat]
 simp
theorem gap_p (t : state_track) (hl : t.fchanges.length ≤ 100000) : state_track_gap_k1 t = some { fchanges := gapC t, fnext := t.fnext, flast := t.flast } := by
 have key : Ok (loop (state_track_gap_k1_L1 t) t.fchanges) (fun r => r = (popR t.flast t.fchanges.reverse).reverse) := by
  refine ok_loop (fun s : List state_change => popR t.flast s.reverse = popR t.flast t.fchanges.reverse ∧ s.length ≤ 100000) (fun s => s.length) (fun s H => ?_) ⟨rfl, hl⟩ (by simp [manyRounds]; omega)
  obtain ⟨h1, h2⟩ := H
  unfold state_track_gap_k1_L1
  rcases List.eq_nil_or_concat s with hs | ⟨q, c, hs⟩
  ·subst hs
   have : ¬ ((1 : Int) < (([] : List state_change).length : Int)) := by simp
   simp only [this, decide_false, cond_false, Option.bind_some]
   refine ok_inr ?_
   rw [← h1]; rfl
  ·rw [List.concat_eq_append] at hs
   subst hs
   simp only [List.length_append, List.length_singleton] at h2
   rcases List.eq_nil_or_concat q with hq | ⟨p, d, hq⟩
   ·subst hq
    have : ¬ ((1 : Int) < (([] ++ [c] : List state_change).length : Int)) := by simp
    simp only [this, decide_false, cond_false, Option.bind_some]
    refine ok_inr ?_
    rw [← h1]; rfl
   ·rw [List.concat_eq_append] at hq
    subst hq
    simp only [List.length_append, List.length_singleton] at h2
    have hlt : (1 : Int) < ((p ++ [d] ++ [c] : List state_change).length : Int) := by simp; omega
    simp only [hlt, decide_true, cond_true]
    rw [now_p _ (p ++ [d]) c rfl (by simp; omega)]
    simp only [Option.bind_some]
    have hrev : (p ++ [d] ++ [c]).reverse = c :: d :: p.reverse := by simp
    rw [hrev] at h1
    simp only [popR] at h1
    refine ok_ite (fun e => ?_) (fun e => ok_inr ?_)
    ·rw [if_pos e] at h1
     have hlen : w64 (((p ++ [d] ++ [c] : List state_change).length : Int) - 1) = ((p ++ [d]).length : Int) := by
      rw [w64_of (by simp; omega)]; simp; omega
     rw [hlen]
     have hsl : slcPart (p ++ [d] ++ [c]) 0 ((p ++ [d]).length : Int) = some (p ++ [d]) := by
      unfold slcPart
      rw [if_pos ⟨by omega, by omega, by simp⟩]
      show some (List.drop 0 (List.take (p ++ [d]).length (p ++ [d] ++ [c]))) = _
      rw [List.take_left]; rfl
     rw [hsl, Option.bind_some]
     refine ok_inl ⟨⟨?_, by simp; omega⟩, by simp⟩
     rw [show (p ++ [d]).reverse = d :: p.reverse by simp]; exact h1
    ·rw [if_neg e] at h1
     rw [← h1]; simp
 obtain ⟨r, h1, h2⟩ := key
 unfold state_track_gap_k1
 rw [h1, Option.bind_some, h2]
 have hp := (popR_len t.flast t.fchanges.reverse).1
 rw [becomes_p _ _ _ _ _ _ (by simp at hp ⊢; omega)]
 rfl
def evT (t : state_track) (e : api_Timed) : state_track :=
 let cs := if e.fId.fSerial = t.fnext then t.fchanges else gapC t
 { fchanges := if e.fEvent.fKind = 8 then cs ++ [chg (tmE e) 4 e.fEvent.fN (-1) (-1)] else if e.fEvent.fKind = 9 then cs ++ [chg (tmE e) e.fEvent.fN (-1) (if e.fEvent.fN = 2 then e.fEvent.fM else -1) (-1)] else cs, fnext := w64 (e.fId.fSerial + 1), flast := tmE e }
theorem gapC_len (t : state_track) : (gapC t).length ≤ t.fchanges.length + 1 ∧ gapC t ≠ [] := by
 have hp := (popR_len t.flast t.fchanges.reverse).1
 unfold gapC
 exact ⟨by simp at hp ⊢; omega, by simp⟩
theorem event_p (t : state_track) (e : api_Timed) (hl : t.fchanges.length ≤ 100000) : state_track_event_k1 t e = some (evT t e) := by
 have hg := gapC_len t
 have key : Ok (state_track_event_k1 t e) (fun r => r = evT t e) := by
  unfold state_track_event_k1
  rw [time_p, Option.bind_some]
  refine ok_bind (Q := fun v => v.1 = (if e.fId.fSerial = t.fnext then t.fchanges else gapC t)) ?_ (fun v hv => ?_)
  ·refine ok_nite (fun h => ?_) (fun h => ok_some ?_)
   ·rw [gap_p t hl, Option.bind_some]
    exact ok_some (by rw [if_neg h])
   ·rw [if_pos h]
  ·obtain ⟨v1, v2, v3⟩ := v
   simp only at hv ⊢
   have hvl : v1.length ≤ 100001 := by rw [hv]; split <;> omega
   unfold evT
   simp only [← hv]
   refine ok_ite (fun h => ?_) (fun h => ?_)
   ·rw [becomes_p _ _ _ _ _ _ (by simp; omega), Option.bind_some]
    exact ok_some (by rw [if_pos h])
   ·refine ok_ite (fun h2 => ?_) (fun h2 => ok_some (by rw [if_neg h, if_neg h2]))
    refine ok_bind (Q := fun v => v = (if e.fEvent.fN = 2 then e.fEvent.fM else -1)) ?_ (fun v hv2 => ?_)
    ·refine ok_ite (fun h3 => ok_some (by rw [if_pos h3])) (fun h3 => ok_some (by rw [if_neg h3]))
    ·rw [becomes_p _ _ _ _ _ _ (by simp; omega), Option.bind_some]
     exact ok_some (by rw [if_neg h, if_pos h2, hv2])
 obtain ⟨r, h1, h2⟩ := key
 rw [h1, h2]
def lastS (t : state_track) : Int := match t.fchanges.getLast? with
 | some c => c.fstate
 | none => 0
def wkT (t : state_track) (a b : Int) : state_track := if lastS t = 1 ∨ lastS t = 2 then { fchanges := t.fchanges ++ [chg a 0 (-1) (-1) b], fnext := t.fnext, flast := t.flast } else t
theorem wake_p (t : state_track) (a b : Int) (hl : t.fchanges.length ≤ 100000) (hn : t.fchanges ≠ []) : state_track_wake_k1 t a b = some (wkT t a b) := by
 rcases List.eq_nil_or_concat t.fchanges with h | ⟨q, c, h⟩
 ·exact absurd h hn
 ·rw [List.concat_eq_append] at h
  have hql : q.length ≤ 100000 := by rw [h] at hl; simp at hl; omega
  have hls : lastS t = c.fstate := by unfold lastS; rw [h]; simp
  have key : Ok (state_track_wake_k1 t a b) (fun r => r = wkT t a b) := by
   unfold state_track_wake_k1
   rw [now_p t q c h (by omega), Option.bind_some]
   unfold wkT
   rw [hls]
   refine ok_bind (Q := fun v => v = decide (c.fstate = 1 ∨ c.fstate = 2)) ?_ (fun v hv => ?_)
   ·refine ok_ite (fun e => ok_some (by simp [e])) (fun e => ok_some (by simp [e]))
   ·subst hv
    refine ok_ite (fun e => ?_) (fun e => ok_some (by rw [if_neg e]))
    rw [becomes_p _ _ _ _ _ _ (by omega), Option.bind_some]
    exact ok_some (by rw [if_pos e])
  obtain ⟨r, h1, h2⟩ := key
  rw [h1, h2]
def stT (id : Int) (t : state_track) (e : api_Timed) : state_track :=
 let t1 := if e.fId.fThread = id then evT t e else t
 if e.fEvent.fN = id ∧ e.fEvent.fKind = 10 then wkT t1 (tmE e) e.fId.fThread else t1
def trk0 : state_track := { fchanges := [chg 0 5 (-1) (-1) (-1)], fnext := 0, flast := 0 }
def trkN (id : Int) (o : List api_Timed) : Nat → state_track
 | 0 => trk0
 | n + 1 => match o[n]? with
  | some e => stT id (trkN id o n) e
  | none => trkN id o n
theorem evT_len (t : state_track) (e : api_Timed) (hn : t.fchanges ≠ []) : (evT t e).fchanges.length ≤ t.fchanges.length + 2 ∧ (evT t e).fchanges ≠ [] := by
 have hg := gapC_len t
 have hc : (if e.fId.fSerial = t.fnext then t.fchanges else gapC t).length ≤ t.fchanges.length + 1 ∧ (if e.fId.fSerial = t.fnext then t.fchanges else gapC t) ≠ [] := by
  split
  ·exact ⟨by omega, hn⟩
  ·exact hg
 unfold evT
 simp only
 generalize (if e.fId.fSerial = t.fnext then t.fchanges else gapC t) = cs at *
 split
 ·exact ⟨by simp; omega, by simp⟩
 ·split
  ·exact ⟨by simp; omega, by simp⟩
  ·exact ⟨by omega, hc.2⟩
theorem wkT_len (t : state_track) (a b : Int) (hn : t.fchanges ≠ []) : (wkT t a b).fchanges.length ≤ t.fchanges.length + 1 ∧ (wkT t a b).fchanges ≠ [] := by
 unfold wkT
 split
 ·exact ⟨by simp, by simp⟩
 ·exact ⟨by omega, hn⟩
theorem trkN_len (id : Int) (o : List api_Timed) : ∀ n, (trkN id o n).fchanges.length ≤ 1 + 3 * n ∧ (trkN id o n).fchanges ≠ []
 | 0 => by simp [trkN, trk0]
 | n + 1 => by
  obtain ⟨h1, h2⟩ := trkN_len id o n
  simp only [trkN]
  split
  ·rename_i e _
   unfold stT
   simp only
   have h3 : (if e.fId.fThread = id then evT (trkN id o n) e else trkN id o n).fchanges.length ≤ 3 + 3 * n ∧ (if e.fId.fThread = id then evT (trkN id o n) e else trkN id o n).fchanges ≠ [] := by
    split
    ·have := evT_len (trkN id o n) e h2; exact ⟨by omega, this.2⟩
    ·exact ⟨by omega, h2⟩
   split
   ·have := wkT_len _ (tmE e) e.fId.fThread h3.2; exact ⟨by omega, this.2⟩
   ·exact ⟨by omega, h3.2⟩
  ·exact ⟨by omega, h2⟩
def endN (o : List api_Timed) (e0 : Int) : Nat → Int
 | 0 => e0
 | n + 1 => match o[n]? with
  | some e => max (endN o e0 n) (tmE e)
  | none => endN o e0 n
def Mp (ids : List Int) (f : Int → state_track) (m : List (Int × state_track)) : Prop := ∀ k, mget k m = if k ∈ ids then some (f k) else none
theorem Mp.put {ids : List Int} {f : Int → state_track} {m : List (Int × state_track)} (h : Mp ids f m) {a : Int} (ha : a ∈ ids) (x : state_track) : Mp ids (fun k => if k = a then x else f k) (mput a x m) := by
 intro k
 rw [mget_mput, h k]
 by_cases e : k = a
 ·subst e; simp [ha]
 ·simp [e]
theorem Mp.look {ids : List Int} {f : Int → state_track} {m : List (Int × state_track)} (h : Mp ids f m) (a : Int) : lookS a m = some (if a ∈ ids then .inr (f a) else .inl ()) := by
 unfold lookS
 rw [h a]
 by_cases e : a ∈ ids <;> simp [e]
theorem Of_L2_step (o : List api_Timed) (ids : List Int) (f : Int → state_track) (hf : ∀ k, (f k).fchanges.length ≤ 10000 ∧ (f k).fchanges ≠ []) (m : List (Int × state_track)) (hm : Mp ids f m) (e0 : Int) (i : Nat) (y : api_Timed) (hy : o[i]? = some y) (hi : i < o.length) (hl : o.length ≤ 1000000) :
  Ok (state_Of_L2 o (e0, m, (i : Int))) (fun r => ∃ m', r = .inl (max e0 (tmE y), m', ((i + 1 : Nat) : Int)) ∧ Mp ids (fun k => stT k (f k) y) m') := by
 unfold state_Of_L2
 dsimp only
 refine ok_ite (fun _ => ?_) (fun h => absurd (by omega) h)
 rw [show idx o (i : Int) = some y by rw [idx_nat]; exact hy, Option.bind_some, time_p, Option.bind_some, hm.look]
 have fin : ∀ v : Int × List (Int × state_track), v.1 = max e0 (tmE y) → Mp ids (fun k => stT k (f k) y) v.2 → Ok ((some v : Option (Int × List (Int × state_track))).bind fun (v121, v122) => some (.inl (v121, v122, (w64 ((i : Int) + 1))))) (fun r => ∃ m', r = (.inl (max e0 (tmE y), m', ((i + 1 : Nat) : Int)) : (Int × List (Int × state_track) × Int) ⊕ (Int × List (Int × state_track))) ∧ Mp ids (fun k => stT k (f k) y) m') := by
  intro v h1 h2
  obtain ⟨a, b⟩ := v
  simp only at h1 h2
  subst h1
  exact ok_some ⟨b, by rw [w64_N (n := o.length) hi (by omega)], h2⟩
 by_cases ha : y.fId.fThread ∈ ids
 ·rw [if_pos ha, Option.bind_some]
  simp only
  rw [event_p _ _ (by have := (hf y.fId.fThread).1; omega), Option.bind_some]
  have hm1 := hm.put ha (evT (f y.fId.fThread) y)
  rw [hm1.look]
  by_cases hb : y.fEvent.fN ∈ ids
  ·rw [if_pos hb, Option.bind_some]
   simp only
   by_cases hk : y.fEvent.fKind = 10
   ·simp only [hk, decide_true, cond_true, Option.bind_some]
    have hlen : (if y.fEvent.fN = y.fId.fThread then evT (f y.fId.fThread) y else f y.fEvent.fN).fchanges.length ≤ 100000 ∧ (if y.fEvent.fN = y.fId.fThread then evT (f y.fId.fThread) y else f y.fEvent.fN).fchanges ≠ [] := by
     split
     ·have h3 := hf y.fId.fThread
      have h4 := evT_len (f y.fId.fThread) y h3.2
      exact ⟨by omega, h4.2⟩
     ·have h3 := hf y.fEvent.fN; exact ⟨by omega, h3.2⟩
    rw [wake_p _ _ _ hlen.1 hlen.2]
    simp only [Option.bind_some]
    refine fin (_, _) rfl ?_
    intro k
    rw [hm1.put hb _ k]
    congr 2
    simp only [stT]
    by_cases e1 : k = y.fEvent.fN
    ·subst e1
     by_cases e2 : y.fEvent.fN = y.fId.fThread
     ·simp [e2, hk]
     ·have e3 : ¬ y.fId.fThread = y.fEvent.fN := fun h => e2 h.symm
      simp [e2, e3, hk]
    ·have e3 : ¬ y.fEvent.fN = k := fun h => e1 h.symm
     by_cases e2 : k = y.fId.fThread
     ·subst e2; simp [e1, e3]
     ·have e4 : ¬ y.fId.fThread = k := fun h => e2 h.symm
      simp [e1, e2, e3, e4]
   ·simp only [hk, decide_false, cond_false]
    refine fin (_, _) rfl ?_
    intro k
    rw [hm1 k]
    congr 2
    simp only [stT, hk, and_false, if_false]
    by_cases e2 : k = y.fId.fThread
    ·subst e2; simp
    ·have e4 : ¬ y.fId.fThread = k := fun h => e2 h.symm
     simp [e2, e4]
  ·rw [if_neg hb, Option.bind_some]
   simp only
   refine fin (_, _) rfl ?_
   intro k
   rw [hm1 k]
   by_cases hkk : k ∈ ids
   ·rw [if_pos hkk, if_pos hkk]
    congr 1
    have e3 : ¬ y.fEvent.fN = k := fun h => hb (h ▸ hkk)
    simp only [stT, e3, false_and, if_false]
    by_cases e2 : k = y.fId.fThread
    ·subst e2; simp
    ·have e4 : ¬ y.fId.fThread = k := fun h => e2 h.symm
     simp [e2, e4]
   ·rw [if_neg hkk, if_neg hkk]
 ·rw [if_neg ha, Option.bind_some]
  simp only
  rw [hm.look]
  by_cases hb : y.fEvent.fN ∈ ids
  ·rw [if_pos hb, Option.bind_some]
   simp only
   by_cases hk : y.fEvent.fKind = 10
   ·simp only [hk, decide_true, cond_true, Option.bind_some]
    have h3 := hf y.fEvent.fN
    rw [wake_p _ _ _ (by omega) h3.2]
    simp only [Option.bind_some]
    refine fin (_, _) rfl ?_
    intro k
    rw [hm.put hb _ k]
    by_cases hkk : k ∈ ids
    ·rw [if_pos hkk, if_pos hkk]
     congr 1
     have e4 : ¬ y.fId.fThread = k := fun h => ha (h ▸ hkk)
     simp only [stT, e4, if_false, hk, and_true]
     by_cases e1 : k = y.fEvent.fN
     ·subst e1; simp
     ·have e3 : ¬ y.fEvent.fN = k := fun h => e1 h.symm
      simp [e1, e3]
    ·rw [if_neg hkk, if_neg hkk]
   ·simp only [hk, decide_false, cond_false]
    refine fin (_, _) rfl ?_
    intro k
    rw [hm k]
    by_cases hkk : k ∈ ids
    ·rw [if_pos hkk, if_pos hkk]
     congr 1
     have e4 : ¬ y.fId.fThread = k := fun h => ha (h ▸ hkk)
     simp [stT, e4, hk]
    ·rw [if_neg hkk, if_neg hkk]
  ·rw [if_neg hb, Option.bind_some]
   simp only
   refine fin (_, _) rfl ?_
   intro k
   rw [hm k]
   by_cases hkk : k ∈ ids
   ·rw [if_pos hkk, if_pos hkk]
    congr 1
    have e4 : ¬ y.fId.fThread = k := fun h => ha (h ▸ hkk)
    have e3 : ¬ y.fEvent.fN = k := fun h => hb (h ▸ hkk)
    simp [stT, e4, e3]
   ·rw [if_neg hkk, if_neg hkk]
theorem same27_ok (a b : api_State) : Tot (state_same a b) := by
 unfold state_same
 refine ok_bind (Q := Yes) ?_ (fun _ _ => ok_yes)
 refine ok_ite (fun _ => ?_) (fun _ => ok_yes)
 exact ok_ite (fun _ => ok_yes) (fun _ => ok_yes)
theorem states_ok (t : state_track) (id e : Int) (hl : t.fchanges.length ≤ 100000) : Ok (state_track_states_k1 t id e) (fun r => r.length ≤ t.fchanges.length) := by
 unfold state_track_states_k1
 refine ok_bind (ok_up2N t.fchanges.length (fun (a : List api_State) n => a.length ≤ n) (by omega) (by simp) (fun a i hI h2 => ?_)) (fun r hr => ok_some hr)
 unfold state_track_states_k1_L1
 dsimp only
 refine ok_ite (fun hi => ?_) (fun hi => ok_inr (by omega))
 obtain ⟨y, hiy, hy⟩ := ok_ixN (xs := t.fchanges) (i := i) (by omega)
 rw [hiy, Option.bind_some]
 refine ok_bind (Q := fun v => v.length ≤ i + 1) ?_ (fun v hv => ok_inl ⟨by omega, w64_N (n := t.fchanges.length) (by omega) (by omega), hv⟩)
 rw [w64_N (n := t.fchanges.length) (by omega) (by omega)]
 refine ok_bind (Q := Yes) ?_ (fun v _ => ?_)
 ·refine ok_ite (fun h => ?_) (fun _ => ok_yes)
  obtain ⟨z, hz, _⟩ := ok_ixN (xs := t.fchanges) (i := i + 1) (by omega)
  rw [hz, Option.bind_some, Option.bind_some]
  exact ok_yes
 obtain ⟨v57, v58⟩ := v
 simp only
 refine ok_ite (fun _ => ok_some (by omega)) (fun _ => ?_)
 have hw : w64 ((a.length : Int) - 1) = (a.length : Int) - 1 := w64_of (by omega)
 rw [hw]
 refine ok_bind (Q := fun v => v = true → 0 < a.length) ?_ (fun v hv => ?_)
 ·refine ok_ite (fun h => ?_) (fun _ => ok_some (by simp))
  obtain ⟨z, hz, _⟩ := ok_idx (xs := a) (i := (a.length : Int) - 1) h (by omega)
  rw [hz, Option.bind_some]
  refine ok_bind (same27_ok _ _) (fun b _ => ok_some (fun _ => by omega))
 cases v with
 | true =>
  have hpos := hv rfl
  obtain ⟨z, hz, _⟩ := ok_idx (xs := a) (i := (a.length : Int) - 1) (by omega) (by omega)
  simp only [cond_true]
  rw [hz, Option.bind_some]
  refine ok_bind (Q := Yes) ?_ (fun w _ => ok_some (by simp; omega))
  obtain ⟨z', hz', _⟩ := ok_idx (xs := a.set ((a.length : Int) - 1).toNat { fThread := z.fThread, fState := z.fState, fSpan := { fFrom := z.fSpan.fFrom, fTo := v57 }, fCpu := z.fCpu, fOn := z.fOn, fBy := z.fBy }) (i := (a.length : Int) - 1) (by omega) (by simp; omega)
  rw [hz']
  exact ok_yes
 | false =>
  simp only [cond_false]
  rw [room_ok (by simp; omega) (by simp; omega)]
  exact ok_some (by simp; omega)
def stsT (t : state_track) (id e : Int) : List api_State := (state_track_states_k1 t id e).getD []
theorem states_p (t : state_track) (id e : Int) (hl : t.fchanges.length ≤ 100000) : state_track_states_k1 t id e = some (stsT t id e) ∧ (stsT t id e).length ≤ t.fchanges.length := by
 obtain ⟨r, h1, h2⟩ := states_ok t id e hl
 unfold stsT
 rw [h1]
 exact ⟨rfl, h2⟩
theorem Of_L2_p (o : List api_Timed) (ids : List Int) (hl : o.length ≤ 1000) (e0 : Int) (m : List (Int × state_track)) (hm : Mp ids (fun _ => trk0) m) :
  Ok (loop (state_Of_L2 o) (e0, m, 0)) (fun r => r.1 = endN o e0 o.length ∧ Mp ids (fun k => trkN k o o.length) r.2) := by
 refine ok_loop (fun s : Int × List (Int × state_track) × Int => ∃ i : Nat, i ≤ o.length ∧ s.2.2 = (i : Int) ∧ s.1 = endN o e0 i ∧ Mp ids (fun k => trkN k o i) s.2.1) (fun s => o.length - s.2.2.toNat) (fun s H => ?_) ⟨0, by omega, rfl, rfl, hm⟩ (by simp [manyRounds]; omega)
 obtain ⟨e, m, j⟩ := s
 obtain ⟨i, h1, h2, h3, h4⟩ := H
 simp only at h2 h3 h4
 subst h2 h3
 by_cases hi : i < o.length
 ·have hy : o[i]? = some o[i] := List.getElem?_eq_getElem hi
  obtain ⟨r, hr, m', rfl, hm'⟩ := Of_L2_step o ids (fun k => trkN k o i) (fun k => by have := trkN_len k o i; exact ⟨by omega, this.2⟩) m h4 (endN o e0 i) i o[i] hy hi (by omega)
  refine ⟨_, hr, ⟨i + 1, by omega, rfl, ?_, ?_⟩, ?_⟩
  ·simp only [endN, hy]
  ·intro k
   rw [hm' k]
   simp only [trkN, hy]
  ·simp only; omega
 ·have e : i = o.length := by omega
  subst e
  unfold state_Of_L2
  dsimp only
  refine ok_ite (fun h => by omega) (fun _ => ok_inr ⟨rfl, h4⟩)
theorem Of_L3_p (ids : List Int) (hnd : ids.Nodup) (hl : ids.length ≤ 1000) : Ok (loop (state_Of_L3 ids) ([], 0)) (fun r => Mp ids (fun _ => trk0) r) := by
 refine ok_up2N ids.length (fun (m : List (Int × state_track)) n => Mp (ids.take n) (fun _ => trk0) m) (by omega) (by intro k; simp [mget]) (fun m i hI h2 => ?_)
 unfold state_Of_L3
 dsimp only
 refine ok_ite (fun hi => ?_) (fun hi => ok_inr (by rw [show i = ids.length by omega, List.take_length] at hI; exact hI))
 obtain ⟨y, hiy, hy⟩ := ok_ixN (xs := ids) (i := i) (by omega)
 rw [hiy, Option.bind_some, becomes_p _ _ _ _ _ _ (by simp), Option.bind_some]
 refine ok_inl ⟨by omega, w64_N (n := ids.length) (by omega) (by omega), fun k => ?_⟩
 have hlt := lt_of_get hy
 have hy' : ids[i] = y := by have := List.getElem?_eq_getElem hlt; rw [hy] at this; exact (Option.some.inj this).symm
 rw [mget_mput, hI k, List.take_succ_eq_append_getElem hlt, hy']
 by_cases e : k = y
 ·subst e; simp [trk0]
 ·simp [e]
def endO (o : List api_Timed) (e0 : Int) : Int := max 0 (min (endN o e0 o.length) 1000000000000)
def ofL (o : List api_Timed) (e : Int) (ids : List Int) : List api_State := ids.flatMap fun id => stsT (trkN id o o.length) id e
theorem flatMap_snoc {α β : Type} (f : α → List β) (l : List α) (x : α) : (l ++ [x]).flatMap f = l.flatMap f ++ f x := by simp
theorem stsN_len (o : List api_Timed) (e id : Int) (hl : o.length ≤ 1000) : (stsT (trkN id o o.length) id e).length ≤ 3001 := by
 have h1 := trkN_len id o o.length
 have h2 := (states_p (trkN id o o.length) id e (by omega)).2
 omega
theorem ofL_len (o : List api_Timed) (e : Int) (hl : o.length ≤ 1000) : ∀ ids : List Int, (ofL o e ids).length ≤ 3001 * ids.length
 | [] => by simp [ofL]
 | id :: ids => by
  have h1 := stsN_len o e id hl
  have h2 := ofL_len o e hl ids
  unfold ofL at h2 ⊢
  simp only [List.flatMap_cons, List.length_append, List.length_cons]
  omega
theorem Of_p (ths : List api_Thread) (o : List api_Timed) (e0 : Int) (ht : ths.length ≤ 1000) (hl : o.length ≤ 1000) : state_Of ths o e0 = some (ofL o (endO o e0) (idsN ths ths.length)) := by
 have : Ok (state_Of ths o e0) (fun r => r = ofL o (endO o e0) (idsN ths ths.length)) := by
  unfold state_Of
  rw [ids_p ths (by omega), Option.bind_some]
  have hn := idsN_nodup ths ths.length
  have hil := idsN_len ths ths.length
  generalize idsN ths ths.length = ids at *
  refine ok_bind (Of_L3_p ids hn (by omega)) (fun m hm => ?_)
  refine ok_bind (Of_L2_p o ids hl e0 m hm) (fun r hr => ?_)
  obtain ⟨e, m'⟩ := r
  obtain ⟨h1, h2⟩ := hr
  simp only at h1 h2 ⊢
  subst h1
  refine ok_bind (ok_up2N ids.length (fun (a : List api_State) n => a = ofL o (endO o e0) (ids.take n)) (by omega) (by simp [ofL]) (fun a i hI h3 => ?_)) (fun r hr => ok_some hr)
  unfold state_Of_L1
  dsimp only
  subst hI
  refine ok_ite (fun hi => ?_) (fun hi => ok_inr (by rw [show i = ids.length by omega, List.take_length]))
  obtain ⟨y, hiy, hy⟩ := ok_ixN (xs := ids) (i := i) (by omega)
  rw [hiy, Option.bind_some, h2.look, if_pos (List.mem_of_getElem? hy), Option.bind_some]
  simp only
  have htl := trkN_len y o o.length
  have hst := states_p (trkN y o o.length) y (endO o e0) (by omega)
  have hsl := stsN_len o (endO o e0) y hl
  have hol := ofL_len o (endO o e0) hl (ids.take i)
  rw [List.length_take] at hol
  rw [show max 0 (min (endN o e0 o.length) 1000000000000) = endO o e0 from rfl, hst.1, Option.bind_some]
  have hmin : min i ids.length ≤ 1000 := by omega
  have hmul := Nat.mul_le_mul_left 3001 hmin
  rw [room_ok (by omega) (by omega)]
  have hlt := lt_of_get hy
  have hy' : ids[i] = y := by have := List.getElem?_eq_getElem hlt; rw [hy] at this; exact (Option.some.inj this).symm
  refine ok_inl ⟨by omega, w64_N (n := ids.length) (by omega) (by omega), ?_⟩
  rw [List.take_succ_eq_append_getElem hlt, hy']
  unfold ofL
  rw [flatMap_snoc]
 obtain ⟨r, h1, h2⟩ := this
 rw [h1, h2]
theorem Same27_refl (l : List api_State) (hl : l.length ≤ 9223372036854775807) : tracebookref27_Same l l = some true := by
 have : Ok (tracebookref27_Same l l) (fun b => b = true) := by
  unfold tracebookref27_Same
  refine ok_nite (fun h => absurd rfl h) (fun _ => ?_)
  refine ok_bindS (Q := InlR Yes (fun _ => False)) (ok_upN l.length (fun _ => True) hl trivial (fun i _ h2 => ?_)) (fun _ _ => ok_some rfl) (fun r hr => (hr : False).elim)
  unfold tracebookref27_Same_L1
  refine ok_ite (fun hi => ?_) (fun _ => ok_inr trivial)
  obtain ⟨y, hiy, hy⟩ := ok_ixN (xs := l) (i := i) (by omega)
  rw [hiy]
  simp only [Option.bind_some, decide_true, Bool.and_self, bne_self_eq_false, cond_false]
  rw [w64_N (n := l.length) (by omega) hl]
  exact ok_inl ⟨by omega, rfl, trivial⟩
 obtain ⟨r, h1, h2⟩ := this
 rw [h1, h2]
theorem awake27 : tracebooklaw27_awake = some true := by kernel_rfl
structure Ord27 (o : List api_Timed) : Prop where
 ser : ∀ (i : Nat) e, o[i]? = some e → 0 ≤ e.fId.fSerial ∧ e.fId.fSerial ≤ 1000000000000000
 tm : ∀ (i : Nat) e e', o[i]? = some e → o[i + 1]? = some e' → tmE e ≤ tmE e'
theorem Time_p (e : api_Timed) : tracebookref27_Time e = some (tmE e) := by
 have : Ok (tracebookref27_Time e) (fun r => r = tmE e) := by
  unfold tracebookref27_Time tmE
  refine ok_ite (fun h => ok_some (by omega)) (fun h => ?_)
  exact ok_ite (fun h => ok_some (by omega)) (fun h => ok_some (by omega))
 obtain ⟨r, h1, h2⟩ := this
 rw [h1, h2]
theorem ordered_ok (o : List api_Timed) (hl : o.length ≤ 1000000) : Ok (tracebookref27_Ordered o) (fun b => b = true → Ord27 o) := by
 unfold tracebookref27_Ordered
 refine ok_bindS (Q := InlR (fun _ => Ord27 o) (fun r => r = false)) (ok_upN o.length (fun n => (∀ (i : Nat) e, i < n → o[i]? = some e → 0 ≤ e.fId.fSerial ∧ e.fId.fSerial ≤ 1000000000000000) ∧ ∀ (i : Nat) e e', i + 1 < n → o[i]? = some e → o[i + 1]? = some e' → tmE e ≤ tmE e') (by omega) ⟨by intro i e h; omega, by intro i e e' h; omega⟩ (fun i hI h2 => ?_)) (fun _ hq => ok_some (fun _ => hq)) (fun r hr => ok_some (fun h => by rw [hr] at h; simp at h))
 unfold tracebookref27_Ordered_L1
 refine ok_ite (fun hi => ?_) (fun hi => ok_inr ⟨fun k e hk => hI.1 k e (by have := lt_of_get hk; omega) hk, fun k e e' hk hk' => hI.2 k e e' (by have := lt_of_get hk'; omega) hk hk'⟩)
 obtain ⟨y, hiy, hy⟩ := ok_ixN (xs := o) (i := i) (by omega)
 simp only [hiy, Option.bind_some]
 refine ok_bind (Q := fun v => v = false → (0 ≤ y.fId.fSerial ∧ y.fId.fSerial ≤ 1000000000000000) ∧ ∀ e, 0 < i → o[i - 1]? = some e → tmE e ≤ tmE y) ?_ (fun v hv => ?_)
 ·refine ok_ite (fun _ => ok_some (by simp)) (fun h => ?_)
  refine ok_ite (fun _ => ok_some (by simp)) (fun h3 => ?_)
  refine ok_ite (fun h4 => ?_) (fun h4 => ok_some (fun _ => ⟨by omega, fun e h5 => by omega⟩))
  rw [Time_p, Option.bind_some, w64_of (n := (i : Int) - 1) (by omega)]
  obtain ⟨z, hiz, hz⟩ := ok_idx (xs := o) (i := (i : Int) - 1) (by omega) (by omega)
  rw [hiz, Option.bind_some, Time_p, Option.bind_some]
  refine ok_some (fun h5 => ⟨by omega, fun e _ he => ?_⟩)
  rw [show ((i : Int) - 1).toNat = i - 1 by omega, he] at hz
  cases hz
  have := of_decide_eq_false h5; omega
 ·cases v with
  | true => exact ok_inr rfl
  | false =>
   obtain ⟨g1, g2⟩ := hv rfl
   refine ok_inl ⟨by omega, w64_N (n := o.length) (by omega) (by omega), fun k e hk he => ?_, fun k e e' hk he he' => ?_⟩
   ·by_cases e2 : k = i
    ·subst e2; rw [hy] at he; cases he; exact g1
    ·exact hI.1 k e (by omega) he
   ·by_cases e2 : k + 1 = i
    ·rw [e2, hy] at he'; cases he'
     exact g2 e (by omega) (by rw [show i - 1 = k by omega]; exact he)
    ·exact hI.2 k e e' (by omega) he he'
theorem light_ok (ths : List api_Thread) (o : List api_Timed) : Ok (tracebooklaw27_light ths o) (fun b => b = true → ths.length ≤ 20 ∧ o.length ≤ 200 ∧ Ord27 o) := by
 unfold tracebooklaw27_light
 refine ok_bind (Q := fun b => b = true → ths.length ≤ 20 ∧ o.length ≤ 200 ∧ Ord27 o) ?_ (fun b hb => ok_some hb)
 refine ok_ite (fun h1 => ?_) (fun _ => ok_some (by simp))
 refine ok_ite (fun h2 => ?_) (fun _ => ok_some (by simp))
 refine ok_bind (ordered_ok o (by omega)) (fun b hb => ok_some (fun e => ⟨by omega, by omega, hb e⟩))
theorem again_p (y : api_Thread) (l : List api_Thread) (hl : l.length ≤ 1000000) : Ok (loop (tracebooklaw27_StateAlone_L1 y l) (false, 0)) (fun r => r = true ↔ ∃ (k : Nat) (z : api_Thread), l[k]? = some z ∧ z.fId = y.fId) := by
 refine ok_up2N l.length (fun (b : Bool) n => b = true ↔ ∃ (k : Nat) (z : api_Thread), k < n ∧ l[k]? = some z ∧ z.fId = y.fId) (by omega) ⟨by simp, by rintro ⟨k, z, h, _⟩; omega⟩ (fun b i hI h2 => ?_)
 unfold tracebooklaw27_StateAlone_L1
 dsimp only
 refine ok_ite (fun hi => ?_) (fun hi => ok_inr ⟨fun h => by obtain ⟨k, z, _, h3, h4⟩ := hI.1 h; exact ⟨k, z, h3, h4⟩, fun ⟨k, z, h3, h4⟩ => hI.2 ⟨k, z, by have := lt_of_get h3; omega, h3, h4⟩⟩)
 obtain ⟨x, hix, hx⟩ := ok_ixN (xs := l) (i := i) (by omega)
 rw [hix, Option.bind_some]
 refine ok_bind (Q := fun v => v = true ↔ ∃ (k : Nat) (z : api_Thread), k < i + 1 ∧ l[k]? = some z ∧ z.fId = y.fId) ?_ (fun v hv => ok_inl ⟨by omega, w64_N (n := l.length) (by omega) (by omega), hv⟩)
 refine ok_cond (fun h => ok_some ⟨fun _ => by obtain ⟨k, z, h3, h4, h5⟩ := hI.1 h; exact ⟨k, z, by omega, h4, h5⟩, fun _ => rfl⟩) (fun h => ok_some ?_)
 rw [decide_eq_true_eq]
 constructor
 ·intro e; exact ⟨i, x, by omega, hx, e⟩
 ·rintro ⟨k, z, h3, h4, h5⟩
  by_cases e : k = i
  ·subst e; rw [hx] at h4; cases h4; exact h5
  ·have := hI.2 ⟨k, z, by omega, h4, h5⟩
   rw [h] at this; simp at this
theorem stateAlone_holds (ths : List api_Thread) (o : List api_Timed) (e0 : Int) : tracebooklaw27_StateAlone ths o e0 = some true := by
 have : Ok (tracebooklaw27_StateAlone ths o e0) (fun b => b = true) := by
  unfold tracebooklaw27_StateAlone
  rw [awake27]
  simp only [Option.bind_some]
  refine ok_bind (light_ok ths o) (fun b hb => ?_)
  refine ok_not (fun _ => ok_some rfl) (fun e => ?_)
  obtain ⟨ht, hl, _⟩ := hb e
  rw [Of_p ths o e0 (by omega) (by omega), Option.bind_some]
  refine ok_bind (Q := fun a => a = ofL o (endO o e0) (idsN ths ths.length)) (ok_up2N ths.length (fun (a : List api_State) n => a = ofL o (endO o e0) (idsN ths n)) (by omega) (by simp [ofL, idsN]) (fun a i hI h2 => ?_)) (fun r hr => ?_)
  ·unfold tracebooklaw27_StateAlone_L2
   dsimp only
   subst hI
   refine ok_ite (fun hi => ?_) (fun hi => ok_inr (by rw [show i = ths.length by omega]))
   obtain ⟨y, hiy, hy⟩ := ok_ixN (xs := ths) (i := i) (by omega)
   rw [hiy, Option.bind_some]
   have hsl : slcPart ths 0 (i : Int) = some (ths.take i) := by
    unfold slcPart
    rw [if_pos ⟨by omega, by omega, by omega⟩]
    rfl
   rw [hsl, Option.bind_some]
   refine ok_bind (Q := fun v => v = ofL o (endO o e0) (idsN ths (i + 1))) ?_ (fun v hv => ok_inl ⟨by omega, w64_N (n := ths.length) (by omega) (by omega), hv⟩)
   refine ok_bind (again_p y (ths.take i) (by simp; omega)) (fun b hb => ?_)
   have hmem : b = true ↔ y.fId ∈ idsN ths i := by
    rw [hb, idsN_mem]
    constructor
    ·rintro ⟨k, z, h3, h4⟩
     rw [List.getElem?_take] at h3
     split at h3
     ·exact ⟨k, z, by assumption, h3, h4⟩
     ·simp at h3
    ·rintro ⟨k, z, h3, h4, h5⟩
     exact ⟨k, z, by rw [List.getElem?_take, if_pos h3]; exact h4, h5⟩
   have hil := idsN_len ths i
   simp only [idsN, hy]
   refine ok_not (fun h => ?_) (fun h => ok_some (by rw [if_pos (hmem.1 h)]))
   have hn : y.fId ∉ idsN ths i := fun h' => by rw [hmem.2 h'] at h; simp at h
   rw [if_neg hn]
   have hO := Of_p [y] o e0 (by simp) (by omega)
   have hids : idsN [y] [y].length = [y.fId] := by simp [idsN]
   rw [hids] at hO
   rw [hO, Option.bind_some]
   have h1 := ofL_len o (endO o e0) (by omega) (idsN ths i)
   have h3 := ofL_len o (endO o e0) (by omega) [y.fId]
   have hmul := Nat.mul_le_mul_left 3001 (show (idsN ths i).length ≤ 20 by omega)
   simp only [List.length_singleton] at h3
   rw [room_ok (by omega) (by omega)]
   refine ok_some ?_
   unfold ofL
   rw [flatMap_snoc]
   simp
  ·subst hr
   have h1 := ofL_len o (endO o e0) (by omega) (idsN ths ths.length)
   have hil := idsN_len ths ths.length
   have hmul := Nat.mul_le_mul_left 3001 (show (idsN ths ths.length).length ≤ 20 by omega)
   rw [Same27_refl _ (by omega)]
   exact ok_some rfl
 obtain ⟨r, h1, h2⟩ := this
 rw [h1, h2]
end Go.VM
