/- The law holds: plain mathematics on what the functions compute. -/
import Derived.Test.YtnhjanhaokiahaaL27B
namespace Go.VM
theorem lt_of_get {α : Type} {xs : List α} {i : Nat} {y : α} (h : xs[i]? = some y) : i < xs.length := (List.getElem?_eq_some_iff.1 h).1
end Go.VM
namespace Go.VM
def Ok {α : Type} (x : Option α) (P : α → Prop) : Prop := ∃ r, x = some r ∧ P r
def Yes {α : Type} : α → Prop := fun _ => True
def InlR {α β : Type} (A : α → Prop) (B : β → Prop) : α ⊕ β → Prop
 | .inl a => A a
 | .inr b => B b
theorem ok_some {α : Type} {P : α → Prop} {r : α} (h : P r) : Ok (some r) P := ⟨r, rfl, h⟩
theorem ok_inl {α β : Type} {A : α → Prop} {B : β → Prop} {a : α} (h : A a) : Ok (some (.inl a)) (InlR A B) := ⟨_, rfl, h⟩
theorem ok_inr {α β : Type} {A : α → Prop} {B : β → Prop} {b : β} (h : B b) : Ok (some (.inr b)) (InlR A B) := ⟨_, rfl, h⟩
theorem ok_bind {α β : Type} {x : Option α} {f : α → Option β} {Q : α → Prop} {P : β → Prop} (hx : Ok x Q) (hf : ∀ r, Q r → Ok (f r) P) : Ok (x.bind f) P := by
 obtain ⟨r, h1, h2⟩ := hx
 subst h1; exact hf r h2
theorem ok_bindS {α β γ : Type} {x : Option (α ⊕ γ)} {f : α ⊕ γ → Option β} {Q : α ⊕ γ → Prop} {P : β → Prop} (hx : Ok x Q) (hf : ∀ r, Q (.inl r) → Ok (f (.inl r)) P) (hg : ∀ r, Q (.inr r) → Ok (f (.inr r)) P) : Ok (x.bind f) P :=
 ok_bind hx (fun r => match r with | .inl a => hf a | .inr b => hg b)
theorem ok_cond {α : Type} {b : Bool} {x y : Option α} {P : α → Prop} (h1 : b = true → Ok x P) (h2 : b = false → Ok y P) : Ok (cond b x y) P := by
 cases b
 ·exact h2 rfl
 ·exact h1 rfl
theorem Ok.mono {α : Type} {x : Option α} {P Q : α → Prop} (h : Ok x P) (hq : ∀ r, P r → Q r) : Ok x Q := by
 obtain ⟨r, h1, h2⟩ := h; exact ⟨r, h1, hq r h2⟩
theorem ok_idx {α : Type} {xs : List α} {i : Int} (h1 : 0 ≤ i) (h2 : i < xs.length) : Ok (idx xs i) (fun y => xs[i.toNat]? = some y) := by
 obtain ⟨n, rfl⟩ := Int.eq_ofNat_of_zero_le h1
 have h3 : n < xs.length := by omega
 rw [idx_nat]
 exact ⟨xs[n], by simp [h3], by simp [h3]⟩
theorem ok_loop {S ρ : Type} {step : S → Option (S ⊕ ρ)} (Inv : S → Prop) (m : S → Nat) {Post : ρ → Prop}
  (h : ∀ s, Inv s → Ok (step s) (InlR (fun s' => Inv s' ∧ m s' < m s) Post)) {s : S} (hs : Inv s) (hm : m s < manyRounds) : Ok (loop step s) Post := by
 refine loop_inv Inv m Post (fun s hs => ?_) hs hm
 obtain ⟨r, h1, h2⟩ := h s hs
 cases r with
 | inl a => exact Or.inl ⟨a, h1, h2⟩
 | inr b => exact Or.inr ⟨b, h1, h2⟩
theorem ok_yes {α : Type} {r : α} : Ok (some r) Yes := ⟨r, rfl, trivial⟩
theorem ok_ite {α : Type} {p : Prop} [Decidable p] {x y : Option α} {P : α → Prop} (h1 : p → Ok x P) (h2 : ¬p → Ok y P) : Ok (cond (decide p) x y) P :=
 ok_cond (fun h => h1 (of_decide_eq_true h)) (fun h => h2 (of_decide_eq_false h))
theorem ok_nite {α : Type} {p : Prop} [Decidable p] {x y : Option α} {P : α → Prop} (h1 : ¬p → Ok x P) (h2 : p → Ok y P) : Ok (cond (!decide p) x y) P := by
 by_cases h : p
 ·simpa [h] using h2 h
 ·simpa [h] using h1 h
theorem ok_not {α : Type} {b : Bool} {x y : Option α} {P : α → Prop} (h1 : b = false → Ok x P) (h2 : b = true → Ok y P) : Ok (cond (!b) x y) P := by
 cases b
 ·exact h1 rfl
 ·exact h2 rfl
abbrev Tot {α : Type} (x : Option α) : Prop := Ok x Yes
theorem ok_up2 {σ ρ : Type} {step : σ × Int → Option ((σ × Int) ⊕ ρ)} (n : Nat) (Inv : σ → Int → Prop) {Post : ρ → Prop} (hn : n ≤ 9223372036854775807) {s0 : σ} (h0 : Inv s0 0)
  (h : ∀ (s : σ) (i : Int), Inv s i → 0 ≤ i → i ≤ n → Ok (step (s, i)) (InlR (fun a => i < n ∧ a.2 = i + 1 ∧ Inv a.1 (i + 1)) Post)) : Ok (loop step (s0, 0)) Post := by
 refine ok_loop (fun s : σ × Int => Inv s.1 s.2 ∧ 0 ≤ s.2 ∧ s.2 ≤ (n : Int)) (fun s : σ × Int => ((n : Int) - s.2).toNat) (fun s hi => (h s.1 s.2 hi.1 hi.2.1 hi.2.2).mono ?_) ⟨h0, by simp, by simp⟩ (by simp [manyRounds]; omega)
 rintro (⟨a, j⟩ | b) hr
 ·obtain ⟨h1, h2, h3⟩ : s.2 < n ∧ j = s.2 + 1 ∧ Inv a (s.2 + 1) := hr
  subst h2
  exact ⟨⟨h3, by simp; omega, by simp; omega⟩, by simp; omega⟩
 ·exact hr
theorem ok_upI {ρ : Type} {step : Int → Option (Int ⊕ ρ)} (n : Nat) (Inv : Int → Prop) {Post : ρ → Prop} (hn : n ≤ 9223372036854775807) (h0 : Inv 0)
  (h : ∀ i : Int, Inv i → 0 ≤ i → i ≤ n → Ok (step i) (InlR (fun a => i < n ∧ a = i + 1 ∧ Inv (i + 1)) Post)) : Ok (loop step 0) Post := by
 refine ok_loop (fun i : Int => Inv i ∧ 0 ≤ i ∧ i ≤ (n : Int)) (fun i : Int => ((n : Int) - i).toNat) (fun i hi => (h i hi.1 hi.2.1 hi.2.2).mono ?_) ⟨h0, by omega, by omega⟩ (by simp [manyRounds]; omega)
 rintro (a | b) hr
 ·obtain ⟨h1, rfl, h3⟩ : i < n ∧ a = i + 1 ∧ Inv (i + 1) := hr
  exact ⟨⟨h3, by omega, by omega⟩, by omega⟩
 ·exact hr
theorem room_ok {b n : Nat} (h1 : n * b ≤ 140737488355328) (h2 : n ≤ 9223372036854775807) : room b n = true := by
 simp only [room, Bool.and_eq_true]
 exact ⟨Nat.ble_eq_true_of_le h1, Nat.ble_eq_true_of_le h2⟩
theorem mget_mput {κ ν : Type} [DecidableEq κ] (k k' : κ) (v : ν) : ∀ (m : List (κ × ν)), mget k (mput k' v m) = if k = k' then some v else mget k m
 | [] => by simp [mput, mget]
 | p :: r => by
  simp only [mput]
  by_cases e : k' = p.1
  ·subst e
   simp only [if_true, mget]
   by_cases e2 : k = p.1 <;> simp [e2]
  ·rw [if_neg e]
   simp only [mget]
   rw [mget_mput k k' v r]
   by_cases e2 : k = p.1
   ·subst e2
    rw [if_pos rfl, if_pos rfl, if_neg (fun h => e h.symm)]
   ·rw [if_neg e2, if_neg e2]
theorem ok_up2N {σ ρ : Type} {step : σ × Int → Option ((σ × Int) ⊕ ρ)} (n : Nat) (Inv : σ → Nat → Prop) {Post : ρ → Prop} (hn : n ≤ 9223372036854775807) {s0 : σ} (h0 : Inv s0 0)
  (h : ∀ (s : σ) (i : Nat), Inv s i → i ≤ n → Ok (step (s, (i : Int))) (InlR (fun a => i < n ∧ a.2 = ((i + 1 : Nat) : Int) ∧ Inv a.1 (i + 1)) Post)) : Ok (loop step (s0, 0)) Post := by
 refine ok_up2 n (fun s i => Inv s i.toNat) hn h0 (fun s i hI h1 h2 => ?_)
 obtain ⟨k, rfl⟩ := Int.eq_ofNat_of_zero_le h1
 refine (h s k hI (by omega)).mono ?_
 rintro (⟨a, b⟩ | b) hr
 ·obtain ⟨h3, h4, h5⟩ : k < n ∧ b = ((k + 1 : Nat) : Int) ∧ Inv a (k + 1) := hr
  refine ⟨by omega, by omega, ?_⟩
  rw [show ((k : Int) + 1).toNat = k + 1 by omega]; exact h5
 ·exact hr
theorem ok_upN {ρ : Type} {step : Int → Option (Int ⊕ ρ)} (n : Nat) (Inv : Nat → Prop) {Post : ρ → Prop} (hn : n ≤ 9223372036854775807) (h0 : Inv 0)
  (h : ∀ i : Nat, Inv i → i ≤ n → Ok (step (i : Int)) (InlR (fun a => i < n ∧ a = ((i + 1 : Nat) : Int) ∧ Inv (i + 1)) Post)) : Ok (loop step 0) Post := by
 refine ok_upI n (fun i => Inv i.toNat) hn h0 (fun i hI h1 h2 => ?_)
 obtain ⟨k, rfl⟩ := Int.eq_ofNat_of_zero_le h1
 refine (h k hI (by omega)).mono ?_
 rintro (b | b) hr
 ·obtain ⟨h3, h4, h5⟩ : k < n ∧ b = ((k + 1 : Nat) : Int) ∧ Inv (k + 1) := hr
  refine ⟨by omega, by omega, ?_⟩
  rw [show ((k : Int) + 1).toNat = k + 1 by omega]; exact h5
 ·exact hr
theorem ok_ixN {α : Type} {xs : List α} {i : Nat} (h : i < xs.length) : Ok (idx xs (i : Int)) (fun y => xs[i]? = some y) := by
 rw [idx_nat]; exact ⟨xs[i], by simp [h], by simp [h]⟩
theorem w64_N {i n : Nat} (h : i < n) (hn : n ≤ 9223372036854775807) : w64 ((i : Int) + 1) = ((i + 1 : Nat) : Int) := by rw [w64_of (by omega)]; omega
theorem contains_p (l : List Int) (a : Int) (hl : l.length ≤ 9223372036854775807) : slices_Contains_int_int l a = some (decide (a ∈ l)) := by
 have : Ok (slices_Index_int_int l a) (fun r => 0 ≤ r ↔ a ∈ l) := by
  unfold slices_Index_int_int
  refine ok_bindS (Q := InlR (fun _ => a ∉ l) (fun r => 0 ≤ r ∧ a ∈ l)) (ok_upN l.length (fun n => ∀ (k : Nat) z, k < n → l[k]? = some z → z ≠ a) hl (by intro k z hk; omega) (fun i hI h2 => ?_)) (fun _ hq => ok_some ⟨fun h => by omega, fun h => absurd h hq⟩) (fun r hr => ok_some ⟨fun _ => hr.2, fun _ => hr.1⟩)
  unfold slices_Index_int_int_L1
  refine ok_ite (fun hi => ?_) (fun hi => ok_inr (fun hm => ?_))
  ·refine ok_bind (ok_ixN (by omega)) (fun y hy => ?_)
   refine ok_ite (fun e => ok_inr ⟨by omega, e ▸ List.mem_of_getElem? hy⟩) (fun e => ?_)
   rw [w64_N (n := l.length) (by omega) hl]
   refine ok_inl ⟨by omega, rfl, fun k z hk hz => ?_⟩
   by_cases e2 : k = i
   ·subst e2; rw [hy] at hz; cases hz; exact fun h => e h.symm
   ·exact hI k z (by omega) hz
  ·obtain ⟨k, hk⟩ := List.getElem?_of_mem hm
   exact hI k a (by have := lt_of_get hk; omega) hk rfl
 obtain ⟨r, h1, h2⟩ := this
 unfold slices_Contains_int_int
 rw [h1, Option.bind_some]
 congr 1
 exact decide_eq_decide.2 h2
def idsN (ths : List api_Thread) : Nat → List Int
 | 0 => []
 | n + 1 => match ths[n]? with
  | some y => if y.fId ∈ idsN ths n then idsN ths n else idsN ths n ++ [y.fId]
  | none => idsN ths n
theorem idsN_len (ths : List api_Thread) : ∀ n, (idsN ths n).length ≤ n
 | 0 => by simp [idsN]
 | n + 1 => by
  have := idsN_len ths n
  simp only [idsN]
  split
  ·split
   ·omega
   ·simp; omega
  ·omega
theorem idsN_nodup (ths : List api_Thread) : ∀ n, (idsN ths n).Nodup
 | 0 => by simp [idsN]
 | n + 1 => by
  have := idsN_nodup ths n
  simp only [idsN]
  split
  ·split
   ·exact this
   ·rename_i hn
    exact List.nodup_append.2 ⟨this, by simp, by intro a ha b hb; simp at hb; subst hb; exact fun e => hn (e ▸ ha)⟩
  ·exact this
theorem idsN_mem (ths : List api_Thread) (a : Int) : ∀ n, a ∈ idsN ths n ↔ ∃ (k : Nat) (y : api_Thread), k < n ∧ ths[k]? = some y ∧ y.fId = a
 | 0 => by simp [idsN]
 | n + 1 => by
  have ih := idsN_mem ths a n
  simp only [idsN]
  cases hy : ths[n]? with
  | none =>
   simp only
   rw [ih]
   constructor
   ·rintro ⟨k, y, h1, h2, h3⟩; exact ⟨k, y, by omega, h2, h3⟩
   ·rintro ⟨k, y, h1, h2, h3⟩
    by_cases e : k = n
    ·subst e; rw [hy] at h2; simp at h2
    ·exact ⟨k, y, by omega, h2, h3⟩
  | some y =>
   simp only
   have key : a ∈ idsN ths n ∨ y.fId = a ↔ ∃ (k : Nat) (z : api_Thread), k < n + 1 ∧ ths[k]? = some z ∧ z.fId = a := by
    constructor
    ·rintro (h | h)
     ·obtain ⟨k, z, h1, h2, h3⟩ := ih.1 h; exact ⟨k, z, by omega, h2, h3⟩
     ·exact ⟨n, y, by omega, hy, h⟩
    ·rintro ⟨k, z, h1, h2, h3⟩
     by_cases e : k = n
     ·subst e; rw [hy] at h2; cases h2; exact .inr h3
     ·exact .inl (ih.2 ⟨k, z, by omega, h2, h3⟩)
   rw [← key]
   split
   ·rename_i hin
    exact ⟨.inl, fun h => h.elim id (fun e => e ▸ hin)⟩
   ·simp only [List.mem_append, List.mem_singleton]
    exact ⟨fun h => h.imp id Eq.symm, fun h => h.imp id Eq.symm⟩
theorem ids_p (ths : List api_Thread) (hl : ths.length ≤ 1000000) : state_distinct ths = some (idsN ths ths.length) := by
 have : Ok (state_distinct ths) (fun r => r = idsN ths ths.length) := by
  unfold state_distinct
  refine ok_bind (ok_up2N ths.length (fun a n => a = idsN ths n) (by omega) rfl (fun a i hI h2 => ?_)) (fun r hr => ok_some hr)
  unfold state_distinct_L1
  dsimp only
  subst hI
  have hlen := idsN_len ths i
  refine ok_ite (fun hi => ?_) (fun hi => ok_inr (by rw [show i = ths.length by omega]))
  obtain ⟨y, hiy, hy⟩ := ok_ixN (xs := ths) (i := i) (by omega)
  rw [hiy, Option.bind_some, contains_p _ _ (by omega), Option.bind_some]
  refine ok_bind (Q := fun r => r = idsN ths (i + 1)) ?_ (fun r hr => ok_inl ⟨by omega, w64_N (n := ths.length) (by omega) (by omega), hr⟩)
  simp only [idsN, hy]
  by_cases hm : y.fId ∈ idsN ths i
  ·simp only [hm, decide_true, Bool.not_true, cond_false, if_true]; exact ok_some rfl
  ·simp only [hm, decide_false, Bool.not_false, cond_true, if_false]
   rw [room_ok (by simp; omega) (by simp; omega)]
   exact ok_some rfl
 obtain ⟨r, h1, h2⟩ := this
 rw [h1, h2]
def tmE (e : api_Timed) : Int := max 0 (min e.fWhen.fLo 1000000000000)
theorem tmE_rng (e : api_Timed) : 0 ≤ tmE e ∧ tmE e ≤ 1000000000000 := by unfold tmE; omega
theorem time_p (e : api_Timed) : state_time e = some (tmE e) := rfl
def popR (last : Int) : List state_change → List state_change
 | c :: d :: r => if last < c.fat then popR last (d :: r) else c :: d :: r
 | r => r
theorem popR_len (last : Int) : ∀ r, (popR last r).length ≤ r.length ∧ (r ≠ [] → popR last r ≠ [])
 | [] => by simp [popR]
 | [c] => by simp [popR]
 | c :: d :: r => by
  simp only [popR]
  have := popR_len last (d :: r)
  split
  ·exact ⟨by have := this.1; simp at this ⊢; omega, fun _ => this.2 (by simp)⟩
  ·exact ⟨Nat.le_refl _, fun h => h⟩
def chg (at' st cpu on by' : Int) : state_change := { fat := at', fstate := st, fcpu := cpu, fon := on, fby := by' }
def gapC (t : state_track) : List state_change := (popR t.flast t.fchanges.reverse).reverse ++ [chg t.flast 5 (-1) (-1) (-1)]
theorem becomes_p (t : state_track) (a b c d e : Int) (h : t.fchanges.length ≤ 1000000) : state_track_becomes_k1 t a b c d e = some { fchanges := t.fchanges ++ [chg a b c d e], fnext := t.fnext, flast := t.flast } := by
 unfold state_track_becomes_k1
 rw [room_ok (by simp; omega) (by simp; omega)]
 rfl
theorem now_p (t : state_track) (l : List state_change) (c : state_change) (h : t.fchanges = l ++ [c]) (hl : l.length ≤ 1000000) : state_track_now_k1 t = some c := by
 unfold state_track_now_k1
 rw [h, w64_of (by simp; omega)]
 have : ((((l ++ [c]).length : Nat) : Int) - 1) = ((l.length : Nat) : Int) := by simp
 rw [this, idx_nat]
 simp
theorem gap_p (t : state_track) (hl : t.fchanges.length ≤ 100000) : state_track_gap_k1 t = some { fchanges := gapC t, fnext := t.fnext, flast := t.flast } := by
 have key : Ok (loop (state_track_gap_k1_L1 t) t.fchanges) (fun r => r = (popR t.flast t.fchanges.reverse).reverse) := by
  refine ok_loop (fun s : List state_change => popR t.flast s.reverse = popR t.flast t.fchanges.reverse ∧ s.length ≤ 100000) (fun s => s.length) (fun s H => ?_) ⟨rfl, hl⟩ (by simp [manyRounds]; omega)
  obtain ⟨h1, h2⟩ := H
  unfold state_track_gap_k1_L1
  rcases List.eq_nil_or_concat s with hs | ⟨q, c, hs⟩
  ·subst hs
   have : ¬ ((1 : Int) < (([] : List state_change).length : Int)) := by simp
   simp only [this, decide_false, cond_false, Option.bind_some]
   refine ok_inr ?_
   rw [← h1]; rfl
  ·rw [List.concat_eq_append] at hs
   subst hs
   simp only [List.length_append, List.length_singleton] at h2
   rcases List.eq_nil_or_concat q with hq | ⟨p, d, hq⟩
   ·subst hq
    have : ¬ ((1 : Int) < (([] ++ [c] : List state_change).length : Int)) := by simp
    simp only [this, decide_false, cond_false, Option.bind_some]
    refine ok_inr ?_
    rw [← h1]; rfl
   ·rw [List.concat_eq_append] at hq
    subst hq
    simp only [List.length_append, List.length_singleton] at h2
    have hlt : (1 : Int) < ((p ++ [d] ++ [c] : List state_change).length : Int) := by simp; omega
    simp only [hlt, decide_true, cond_true]
    rw [now_p _ (p ++ [d]) c rfl (by simp; omega)]
    simp only [Option.bind_some]
    have hrev : (p ++ [d] ++ [c]).reverse = c :: d :: p.reverse := by simp
    rw [hrev] at h1
    simp only [popR] at h1
    refine ok_ite (fun e => ?_) (fun e => ok_inr ?_)
    ·rw [if_pos e] at h1
     have hlen : w64 (((p ++ [d] ++ [c] : List state_change).length : Int) - 1) = ((p ++ [d]).length : Int) := by
      rw [w64_of (by simp; omega)]; simp; omega
     rw [hlen]
     have hsl : slcPart (p ++ [d] ++ [c]) 0 ((p ++ [d]).length : Int) = some (p ++ [d]) := by
      unfold slcPart
      rw [if_pos ⟨by omega, by omega, by simp⟩]
      show some (List.drop 0 (List.take (p ++ [d]).length (p ++ [d] ++ [c]))) = _
      rw [List.take_left]; rfl
     rw [hsl, Option.bind_some]
     refine ok_inl ⟨⟨?_, by simp; omega⟩, by simp⟩
     rw [show (p ++ [d]).reverse = d :: p.reverse by simp]; exact h1
    ·rw [if_neg e] at h1
     rw [← h1]; simp
 obtain ⟨r, h1, h2⟩ := key
 unfold state_track_gap_k1
 rw [h1, Option.bind_some, h2]
 have hp := (popR_len t.flast t.fchanges.reverse).1
 rw [becomes_p _ _ _ _ _ _ (by simp at hp ⊢; omega)]
 rfl
def evT (t : state_track) (e : api_Timed) : state_track :=
 let cs := if e.fId.fSerial = t.fnext then t.fchanges else gapC t
 { fchanges := if e.fEvent.fKind = 8 then cs ++ [chg (tmE e) 4 e.fEvent.fN (-1) (-1)] else if e.fEvent.fKind = 9 then cs ++ [chg (tmE e) e.fEvent.fN (-1) (if e.fEvent.fN = 2 then e.fEvent.fM else -1) (-1)] else cs, fnext := w64 (e.fId.fSerial + 1), flast := tmE e }
theorem gapC_len (t : state_track) : (gapC t).length ≤ t.fchanges.length + 1 ∧ gapC t ≠ [] := by
 have hp := (popR_len t.flast t.fchanges.reverse).1
 unfold gapC
 exact ⟨by simp at hp ⊢; omega, by simp⟩
theorem event_p (t : state_track) (e : api_Timed) (hl : t.fchanges.length ≤ 100000) : state_track_event_k1 t e = some (evT t e) := by
 have hg := gapC_len t
 have key : Ok (state_track_event_k1 t e) (fun r => r = evT t e) := by
  unfold state_track_event_k1
  rw [time_p, Option.bind_some]
  refine ok_bind (Q := fun v => v.1 = (if e.fId.fSerial = t.fnext then t.fchanges else gapC t)) ?_ (fun v hv => ?_)
  ·refine ok_nite (fun h => ?_) (fun h => ok_some ?_)
   ·rw [gap_p t hl, Option.bind_some]
    exact ok_some (by rw [if_neg h])
   ·rw [if_pos h]
  ·obtain ⟨v1, v2, v3⟩ := v
   simp only at hv ⊢
   have hvl : v1.length ≤ 100001 := by rw [hv]; split <;> omega
   unfold evT
   simp only [← hv]
   refine ok_ite (fun h => ?_) (fun h => ?_)
   ·rw [becomes_p _ _ _ _ _ _ (by simp; omega), Option.bind_some]
    exact ok_some (by rw [if_pos h])
   ·refine ok_ite (fun h2 => ?_) (fun h2 => ok_some (by rw [if_neg h, if_neg h2]))
    refine ok_bind (Q := fun v => v = (if e.fEvent.fN = 2 then e.fEvent.fM else -1)) ?_ (fun v hv2 => ?_)
    ·refine ok_ite (fun h3 => ok_some (by rw [if_pos h3])) (fun h3 => ok_some (by rw [if_neg h3]))
    ·rw [becomes_p _ _ _ _ _ _ (by simp; omega), Option.bind_some]
     exact ok_some (by rw [if_neg h, if_pos h2, hv2])
 obtain ⟨r, h1, h2⟩ := key
 rw [h1, h2]
def lastS (t : state_track) : Int := match t.fchanges.getLast? with
 | some c => c.fstate
 | none => 0
def wkT (t : state_track) (a b : Int) : state_track := if lastS t = 1 ∨ lastS t = 2 then { fchanges := t.fchanges ++ [chg a 0 (-1) (-1) b], fnext := t.fnext, flast := t.flast } else t
theorem wake_p (t : state_track) (a b : Int) (hl : t.fchanges.length ≤ 100000) (hn : t.fchanges ≠ []) : state_track_wake_k1 t a b = some (wkT t a b) := by
 rcases List.eq_nil_or_concat t.fchanges with h | ⟨q, c, h⟩
 ·exact absurd h hn
 ·rw [List.concat_eq_append] at h
  have hql : q.length ≤ 100000 := by rw [h] at hl; simp at hl; omega
  have hls : lastS t = c.fstate := by unfold lastS; rw [h]; simp
  have key : Ok (state_track_wake_k1 t a b) (fun r => r = wkT t a b) := by
   unfold state_track_wake_k1
   rw [now_p t q c h (by omega), Option.bind_some]
   unfold wkT
   rw [hls]
   refine ok_bind (Q := fun v => v = decide (c.fstate = 1 ∨ c.fstate = 2)) ?_ (fun v hv => ?_)
   ·refine ok_ite (fun e => ok_some (by simp [e])) (fun e => ok_some (by simp [e]))
   ·subst hv
    refine ok_ite (fun e => ?_) (fun e => ok_some (by rw [if_neg e]))
    rw [becomes_p _ _ _ _ _ _ (by omega), Option.bind_some]
    exact ok_some (by rw [if_pos e])
  obtain ⟨r, h1, h2⟩ := key
  rw [h1, h2]
def stT (id : Int) (t : state_track) (e : api_Timed) : state_track :=
 let t1 := if e.fId.fThread = id then evT t e else t
 if e.fEvent.fN = id ∧ e.fEvent.fKind = 10 then wkT t1 (tmE e) e.fId.fThread else t1
def trk0 : state_track := { fchanges := [chg 0 5 (-1) (-1) (-1)], fnext := 0, flast := 0 }
def trkN (id : Int) (o : List api_Timed) : Nat → state_track
 | 0 => trk0
 | n + 1 => match o[n]? with
  | some e => stT id (trkN id o n) e
  | none => trkN id o n
theorem evT_len (t : state_track) (e : api_Timed) (hn : t.fchanges ≠ []) : (evT t e).fchanges.length ≤ t.fchanges.length + 2 ∧ (evT t e).fchanges ≠ [] := by
 have hg := gapC_len t
 have hc : (if e.fId.fSerial = t.fnext then t.fchanges else gapC t).length ≤ t.fchanges.length + 1 ∧ (if e.fId.fSerial = t.fnext then t.fchanges else gapC t) ≠ [] := by
  split
  ·exact ⟨by omega, hn⟩
  ·exact hg
 unfold evT
 simp only
 generalize (if e.fId.fSerial = t.fnext then t.fchanges else gapC t) = cs at *
 split
 ·exact ⟨by simp; omega, by simp⟩
 ·split
  ·exact ⟨by simp; omega, by simp⟩
  ·exact ⟨by omega, hc.2⟩
theorem wkT_len (t : state_track) (a b : Int) (hn : t.fchanges ≠ []) : (wkT t a b).fchanges.length ≤ t.fchanges.length + 1 ∧ (wkT t a b).fchanges ≠ [] := by
 unfold wkT
 split
 ·exact ⟨by simp, by simp⟩
 ·exact ⟨by omega, hn⟩
theorem trkN_len (id : Int) (o : List api_Timed) : ∀ n, (trkN id o n).fchanges.length ≤ 1 + 3 * n ∧ (trkN id o n).fchanges ≠ []
 | 0 => by simp [trkN, trk0]
 | n + 1 => by
  obtain ⟨h1, h2⟩ := trkN_len id o n
  simp only [trkN]
  split
  ·rename_i e _
   unfold stT
   simp only
   have h3 : (if e.fId.fThread = id then evT (trkN id o n) e else trkN id o n).fchanges.length ≤ 3 + 3 * n ∧ (if e.fId.fThread = id then evT (trkN id o n) e else trkN id o n).fchanges ≠ [] := by
    split
    ·have := evT_len (trkN id o n) e h2; exact ⟨by omega, this.2⟩
    ·exact ⟨by omega, h2⟩
   split
   ·have := wkT_len _ (tmE e) e.fId.fThread h3.2; exact ⟨by omega, this.2⟩
   ·exact ⟨by omega, h3.2⟩
  ·exact ⟨by omega, h2⟩
def endN (o : List api_Timed) (e0 : Int) : Nat → Int
 | 0 => e0
 | n + 1 => match o[n]? with
  | some e => max (endN o e0 n) (tmE e)
  | none => endN o e0 n
def Mp (ids : List Int) (f : Int → state_track) (m : List (Int × state_track)) : Prop := ∀ k, mget k m = if k ∈ ids then some (f k) else none
theorem Mp.put {ids : List Int} {f : Int → state_track} {m : List (Int × state_track)} (h : Mp ids f m) {a : Int} (ha : a ∈ ids) (x : state_track) : Mp ids (fun k => if k = a then x else f k) (mput a x m) := by
 intro k
 rw [mget_mput, h k]
 by_cases e : k = a
 ·subst e; simp [ha]
 ·simp [e]
theorem Mp.look {ids : List Int} {f : Int → state_track} {m : List (Int × state_track)} (h : Mp ids f m) (a : Int) : lookS a m = some (if a ∈ ids then .inr (f a) else .inl ()) := by
 unfold lookS
 rw [h a]
 by_cases e : a ∈ ids <;> simp [e]
theorem Of_L2_step (o : List api_Timed) (ids : List Int) (f : Int → state_track) (hf : ∀ k, (f k).fchanges.length ≤ 10000 ∧ (f k).fchanges ≠ []) (m : List (Int × state_track)) (hm : Mp ids f m) (e0 : Int) (i : Nat) (y : api_Timed) (hy : o[i]? = some y) (hi : i < o.length) (hl : o.length ≤ 1000000) :
  Ok (state_Of_L2 o (e0, m, (i : Int))) (fun r => ∃ m', r = .inl (max e0 (tmE y), m', ((i + 1 : Nat) : Int)) ∧ Mp ids (fun k => stT k (f k) y) m') := by
 unfold state_Of_L2
 dsimp only
 refine ok_ite (fun _ => ?_) (fun h => absurd (by omega) h)
 rw [show idx o (i : Int) = some y by rw [idx_nat]; exact hy, Option.bind_some, time_p, Option.bind_some, hm.look]
 have fin : ∀ v : Int × List (Int × state_track), v.1 = max e0 (tmE y) → Mp ids (fun k => stT k (f k) y) v.2 → Ok ((some v : Option (Int × List (Int × state_track))).bind fun (v121, v122) => some (.inl (v121, v122, (w64 ((i : Int) + 1))))) (fun r => ∃ m', r = (.inl (max e0 (tmE y), m', ((i + 1 : Nat) : Int)) : (Int × List (Int × state_track) × Int) ⊕ (Int × List (Int × state_track))) ∧ Mp ids (fun k => stT k (f k) y) m') := by
  intro v h1 h2
  obtain ⟨a, b⟩ := v
  simp only at h1 h2
  subst h1
  exact ok_some ⟨b, by rw [w64_N (n := o.length) hi (by omega)], h2⟩
 by_cases ha : y.fId.fThread ∈ ids
 ·rw [if_pos ha, Option.bind_some]
  simp only
  rw [event_p _ _ (by have := (hf y.fId.fThread).1; omega), Option.bind_some]
  have hm1 := hm.put ha (evT (f y.fId.fThread) y)
  rw [hm1.look]
  by_cases hb : y.fEvent.fN ∈ ids
  ·rw [if_pos hb, Option.bind_some]
   simp only
   by_cases hk : y.fEvent.fKind = 10
   ·simp only [hk, decide_true, cond_true, Option.bind_some]
    have hlen : (if y.fEvent.fN = y.fId.fThread then evT (f y.fId.fThread) y else f y.fEvent.fN).fchanges.length ≤ 100000 ∧ (if y.fEvent.fN = y.fId.fThread then evT (f y.fId.fThread) y else f y.fEvent.fN).fchanges ≠ [] := by
     split
     ·have h3 := hf y.fId.fThread
      have h4 := evT_len (f y.fId.fThread) y h3.2
      exact ⟨by omega, h4.2⟩
     ·have h3 := hf y.fEvent.fN; exact ⟨by omega, h3.2⟩
    rw [wake_p _ _ _ hlen.1 hlen.2]
    simp only [Option.bind_some]
    refine fin (_, _) rfl ?_
    intro k
    rw [hm1.put hb _ k]
    congr 2
    simp only [stT]
    by_cases e1 : k = y.fEvent.fN
    ·subst e1
     by_cases e2 : y.fEvent.fN = y.fId.fThread
     ·simp [e2, hk]
     ·have e3 : ¬ y.fId.fThread = y.fEvent.fN := fun h => e2 h.symm
      simp [e2, e3, hk]
    ·have e3 : ¬ y.fEvent.fN = k := fun h => e1 h.symm
     by_cases e2 : k = y.fId.fThread
     ·subst e2; simp [e1, e3]
     ·have e4 : ¬ y.fId.fThread = k := fun h => e2 h.symm
      simp [e1, e2, e3, e4]
   ·simp only [hk, decide_false, cond_false]
    refine fin (_, _) rfl ?_
    intro k
    rw [hm1 k]
    congr 2
    simp only [stT, hk, and_false, if_false]
    by_cases e2 : k = y.fId.fThread
    ·subst e2; simp
    ·have e4 : ¬ y.fId.fThread = k := fun h => e2 h.symm
     simp [e2, e4]
  ·rw [if_neg hb, Option.bind_some]
   simp only
   refine fin (_, _) rfl ?_
   intro k
   rw [hm1 k]
   by_cases hkk : k ∈ ids
   ·rw [if_pos hkk, if_pos hkk]
    congr 1
    have e3 : ¬ y.fEvent.fN = k := fun h => hb (h ▸ hkk)
    simp only [stT, e3, false_and, if_false]
    by_cases e2 : k = y.fId.fThread
    ·subst e2; simp
    ·have e4 : ¬ y.fId.fThread = k := fun h => e2 h.symm
     simp [e2, e4]
   ·rw [if_neg hkk, if_neg hkk]
 ·rw [if_neg ha, Option.bind_some]
  simp only
  rw [hm.look]
  by_cases hb : y.fEvent.fN ∈ ids
  ·rw [if_pos hb, Option.bind_some]
   simp only
   by_cases hk : y.fEvent.fKind = 10
   ·simp only [hk, decide_true, cond_true, Option.bind_some]
    have h3 := hf y.fEvent.fN
    rw [wake_p _ _ _ (by omega) h3.2]
    simp only [Option.bind_some]
    refine fin (_, _) rfl ?_
    intro k
    rw [hm.put hb _ k]
    by_cases hkk : k ∈ ids
    ·rw [if_pos hkk, if_pos hkk]
     congr 1
     have e4 : ¬ y.fId.fThread = k := fun h => ha (h ▸ hkk)
     simp only [stT, e4, if_false, hk, and_true]
     by_cases e1 : k = y.fEvent.fN
     ·subst e1; simp
     ·have e3 : ¬ y.fEvent.fN = k := fun h => e1 h.symm
      simp [e1, e3]
    ·rw [if_neg hkk, if_neg hkk]
   ·simp only [hk, decide_false, cond_false]
    refine fin (_, _) rfl ?_
    intro k
    rw [hm k]
    by_cases hkk : k ∈ ids
    ·rw [if_pos hkk, if_pos hkk]
     congr 1
     have e4 : ¬ y.fId.fThread = k := fun h => ha (h ▸ hkk)
     simp [stT, e4, hk]
    ·rw [if_neg hkk, if_neg hkk]
  ·rw [if_neg hb, Option.bind_some]
   simp only
   refine fin (_, _) rfl ?_
   intro k
   rw [hm k]
   by_cases hkk : k ∈ ids
   ·rw [if_pos hkk, if_pos hkk]
    congr 1
    have e4 : ¬ y.fId.fThread = k := fun h => ha (h ▸ hkk)
    have e3 : ¬ y.fEvent.fN = k := fun h => hb (h ▸ hkk)
    simp [stT, e4, e3]
   ·rw [if_neg hkk, if_neg hkk]
theorem same27_ok (a b : api_State) : Tot (state_same a b) := by
 unfold state_same
 refine ok_bind (Q := Yes) ?_ (fun _ _ => ok_yes)
 refine ok_ite (fun _ => ?_) (fun _ => ok_yes)
 exact ok_ite (fun _ => ok_yes) (fun _ => ok_yes)
theorem states_ok (t : state_track) (id e : Int) (hl : t.fchanges.length ≤ 100000) : Ok (state_track_states_k1 t id e) (fun r => r.length ≤ t.fchanges.length) := by
 unfold state_track_states_k1
 refine ok_bind (ok_up2N t.fchanges.length (fun (a : List api_State) n => a.length ≤ n) (by omega) (by simp) (fun a i hI h2 => ?_)) (fun r hr => ok_some hr)
 unfold state_track_states_k1_L1
 dsimp only
 refine ok_ite (fun hi => ?_) (fun hi => ok_inr (by omega))
 obtain ⟨y, hiy, hy⟩ := ok_ixN (xs := t.fchanges) (i := i) (by omega)
 rw [hiy, Option.bind_some]
 refine ok_bind (Q := fun v => v.length ≤ i + 1) ?_ (fun v hv => ok_inl ⟨by omega, w64_N (n := t.fchanges.length) (by omega) (by omega), hv⟩)
 rw [w64_N (n := t.fchanges.length) (by omega) (by omega)]
 refine ok_bind (Q := Yes) ?_ (fun v _ => ?_)
 ·refine ok_ite (fun h => ?_) (fun _ => ok_yes)
  obtain ⟨z, hz, _⟩ := ok_ixN (xs := t.fchanges) (i := i + 1) (by omega)
  rw [hz, Option.bind_some, Option.bind_some]
  exact ok_yes
 obtain ⟨v57, v58⟩ := v
 simp only
 refine ok_ite (fun _ => ok_some (by omega)) (fun _ => ?_)
 have hw : w64 ((a.length : Int) - 1) = (a.length : Int) - 1 := w64_of (by omega)
 rw [hw]
 refine ok_bind (Q := fun v => v = true → 0 < a.length) ?_ (fun v hv => ?_)
 ·refine ok_ite (fun h => ?_) (fun _ => ok_some (by simp))
  obtain ⟨z, hz, _⟩ := ok_idx (xs := a) (i := (a.length : Int) - 1) h (by omega)
  rw [hz, Option.bind_some]
  refine ok_bind (same27_ok _ _) (fun b _ => ok_some (fun _ => by omega))
 cases v with
 | true =>
  have hpos := hv rfl
  obtain ⟨z, hz, _⟩ := ok_idx (xs := a) (i := (a.length : Int) - 1) (by omega) (by omega)
  simp only [cond_true]
  rw [hz, Option.bind_some]
  refine ok_bind (Q := Yes) ?_ (fun w _ => ok_some (by simp; omega))
  obtain ⟨z', hz', _⟩ := ok_idx (xs := a.set ((a.length : Int) - 1).toNat { fThread := z.fThread, fState := z.fState, fSpan := { fFrom := z.fSpan.fFrom, fTo := v57 }, fCpu := z.fCpu, fOn := z.fOn, fBy := z.fBy }) (i := (a.length : Int) - 1) (by omega) (by simp; omega)
  rw [hz']
  exact ok_yes
 | false =>
  simp only [cond_false]
  rw [room_ok (by simp; omega) (by simp; omega)]
  exact ok_some (by simp; omega)
def stsT (t : state_track) (id e : Int) : List api_State := (state_track_states_k1 t id e).getD []
theorem states_p (t : state_track) (id e : Int) (hl : t.fchanges.length ≤ 100000) : state_track_states_k1 t id e = some (stsT t id e) ∧ (stsT t id e).length ≤ t.fchanges.length := by
 obtain ⟨r, h1, h2⟩ := states_ok t id e hl
 unfold stsT
 rw [h1]
 exact ⟨rfl, h2⟩
theorem Of_L2_p (o : List api_Timed) (ids : List Int) (hl : o.length ≤ 1000) (e0 : Int) (m : List (Int × state_track)) (hm : Mp ids (fun _ => trk0) m) :
  Ok (loop (state_Of_L2 o) (e0, m, 0)) (fun r => r.1 = endN o e0 o.length ∧ Mp ids (fun k => trkN k o o.length) r.2) := by
 refine ok_loop (fun s : Int × List (Int × state_track) × Int => ∃ i : Nat, i ≤ o.length ∧ s.2.2 = (i : Int) ∧ s.1 = endN o e0 i ∧ Mp ids (fun k => trkN k o i) s.2.1) (fun s => o.length - s.2.2.toNat) (fun s H => ?_) ⟨0, by omega, rfl, rfl, hm⟩ (by simp [manyRounds]; omega)
 obtain ⟨e, m, j⟩ := s
 obtain ⟨i, h1, h2, h3, h4⟩ := H
 simp only at h2 h3 h4
 subst h2 h3
 by_cases hi : i < o.length
 ·have hy : o[i]? = some o[i] := List.getElem?_eq_getElem hi
  obtain ⟨r, hr, m', rfl, hm'⟩ := Of_L2_step o ids (fun k => trkN k o i) (fun k => by have := trkN_len k o i; exact ⟨by omega, this.2⟩) m h4 (endN o e0 i) i o[i] hy hi (by omega)
  refine ⟨_, hr, ⟨i + 1, by omega, rfl, ?_, ?_⟩, ?_⟩
  ·simp only [endN, hy]
  ·intro k
   rw [hm' k]
   simp only [trkN, hy]
  ·simp only; omega
 ·have e : i = o.length := by omega
  subst e
  unfold state_Of_L2
  dsimp only
  refine ok_ite (fun h => by omega) (fun _ => ok_inr ⟨rfl, h4⟩)
theorem Of_L3_p (ids : List Int) (hnd : ids.Nodup) (hl : ids.length ≤ 1000) : Ok (loop (state_Of_L3 ids) ([], 0)) (fun r => Mp ids (fun _ => trk0) r) := by
 refine ok_up2N ids.length (fun (m : List (Int × state_track)) n => Mp (ids.take n) (fun _ => trk0) m) (by omega) (by intro k; simp [mget]) (fun m i hI h2 => ?_)
 unfold state_Of_L3
 dsimp only
 refine ok_ite (fun hi => ?_) (fun hi => ok_inr (by rw [show i = ids.length by omega, List.take_length] at hI; exact hI))
 obtain ⟨y, hiy, hy⟩ := ok_ixN (xs := ids) (i := i) (by omega)
 rw [hiy, Option.bind_some, becomes_p _ _ _ _ _ _ (by simp), Option.bind_some]
 refine ok_inl ⟨by omega, w64_N (n := ids.length) (by omega) (by omega), fun k => ?_⟩
 have hlt := lt_of_get hy
 have hy' : ids[i] = y := by have := List.getElem?_eq_getElem hlt; rw [hy] at this; exact (Option.some.inj this).symm
 rw [mget_mput, hI k, List.take_succ_eq_append_getElem hlt, hy']
 by_cases e : k = y
 ·subst e; simp [trk0]
 ·simp [e]
def endO (o : List api_Timed) (e0 : Int) : Int := max 0 (min (endN o e0 o.length) 1000000000000)
def ofL (o : List api_Timed) (e : Int) (ids : List Int) : List api_State := ids.flatMap fun id => stsT (trkN id o o.length) id e
theorem flatMap_snoc {α β : Type} (f : α → List β) (l : List α) (x : α) : (l ++ [x]).flatMap f = l.flatMap f ++ f x := by simp
theorem stsN_len (o : List api_Timed) (e id : Int) (hl : o.length ≤ 1000) : (stsT (trkN id o o.length) id e).length ≤ 3001 := by
 have h1 := trkN_len id o o.length
 have h2 := (states_p (trkN id o o.length) id e (by omega)).2
 omega
theorem ofL_len (o : List api_Timed) (e : Int) (hl : o.length ≤ 1000) : ∀ ids : List Int, (ofL o e ids).length ≤ 3001 * ids.length
 | [] => by simp [ofL]
 | id :: ids => by
  have h1 := stsN_len o e id hl
  have h2 := ofL_len o e hl ids
  unfold ofL at h2 ⊢
  simp only [List.flatMap_cons, List.length_append, List.length_cons]
  omega
theorem Of_p (ths : List api_Thread) (o : List api_Timed) (e0 : Int) (ht : ths.length ≤ 1000) (hl : o.length ≤ 1000) : state_Of ths o e0 = some (ofL o (endO o e0) (idsN ths ths.length)) := by
 have : Ok (state_Of ths o e0) (fun r => r = ofL o (endO o e0) (idsN ths ths.length)) := by
  unfold state_Of
  rw [ids_p ths (by omega), Option.bind_some]
  have hn := idsN_nodup ths ths.length
  have hil := idsN_len ths ths.length
  generalize idsN ths ths.length = ids at *
  refine ok_bind (Of_L3_p ids hn (by omega)) (fun m hm => ?_)
  refine ok_bind (Of_L2_p o ids hl e0 m hm) (fun r hr => ?_)
  obtain ⟨e, m'⟩ := r
  obtain ⟨h1, h2⟩ := hr
  simp only at h1 h2 ⊢
  subst h1
  refine ok_bind (ok_up2N ids.length (fun (a : List api_State) n => a = ofL o (endO o e0) (ids.take n)) (by omega) (by simp [ofL]) (fun a i hI h3 => ?_)) (fun r hr => ok_some hr)
  unfold state_Of_L1
  dsimp only
  subst hI
  refine ok_ite (fun hi => ?_) (fun hi => ok_inr (by rw [show i = ids.length by omega, List.take_length]))
  obtain ⟨y, hiy, hy⟩ := ok_ixN (xs := ids) (i := i) (by omega)
  rw [hiy, Option.bind_some, h2.look, if_pos (List.mem_of_getElem? hy), Option.bind_some]
  simp only
  have htl := trkN_len y o o.length
  have hst := states_p (trkN y o o.length) y (endO o e0) (by omega)
  have hsl := stsN_len o (endO o e0) y hl
  have hol := ofL_len o (endO o e0) hl (ids.take i)
  rw [List.length_take] at hol
  rw [show max 0 (min (endN o e0 o.length) 1000000000000) = endO o e0 from rfl, hst.1, Option.bind_some]
  have hmin : min i ids.length ≤ 1000 := by omega
  have hmul := Nat.mul_le_mul_left 3001 hmin
  rw [room_ok (by omega) (by omega)]
  have hlt := lt_of_get hy
  have hy' : ids[i] = y := by have := List.getElem?_eq_getElem hlt; rw [hy] at this; exact (Option.some.inj this).symm
  refine ok_inl ⟨by omega, w64_N (n := ids.length) (by omega) (by omega), ?_⟩
  rw [List.take_succ_eq_append_getElem hlt, hy']
  unfold ofL
  rw [flatMap_snoc]
 obtain ⟨r, h1, h2⟩ := this
 rw [h1, h2]
theorem Same27_refl (l : List api_State) (hl : l.length ≤ 9223372036854775807) : tracebookref27_Same l l = some true := by
 have : Ok (tracebookref27_Same l l) (fun b => b = true) := by
  unfold tracebookref27_Same
  refine ok_nite (fun h => absurd rfl h) (fun _ => ?_)
  refine ok_bindS (Q := InlR Yes (fun _ => False)) (ok_upN l.length (fun _ => True) hl trivial (fun i _ h2 => ?_)) (fun _ _ => ok_some rfl) (fun r hr => (hr : False).elim)
  unfold tracebookref27_Same_L1
  refine ok_ite (fun hi => ?_) (fun _ => ok_inr trivial)
  obtain ⟨y, hiy, hy⟩ := ok_ixN (xs := l) (i := i) (by omega)
  rw [hiy]
  simp only [Option.bind_some, decide_true, Bool.and_self, bne_self_eq_false, cond_false]
  rw [w64_N (n := l.length) (by omega) hl]
  exact ok_inl ⟨by omega, rfl, trivial⟩
 obtain ⟨r, h1, h2⟩ := this
 rw [h1, h2]
theorem awake27 : tracebooklaw27_awake = some true := by kernel_rfl
structure Ord27 (o : List api_Timed) : Prop where
 ser : ∀ (i : Nat) e, o[i]? = some e → 0 ≤ e.fId.fSerial ∧ e.fId.fSerial ≤ 1000000000000000
 tm : ∀ (i : Nat) e e', o[i]? = some e → o[i + 1]? = some e' → tmE e ≤ tmE e'
theorem Time_p (e : api_Timed) : tracebookref27_Time e = some (tmE e) := by
 have : Ok (tracebookref27_Time e) (fun r => r = tmE e) := by
  unfold tracebookref27_Time tmE
  refine ok_ite (fun h => ok_some (by omega)) (fun h => ?_)
  exact ok_ite (fun h => ok_some (by omega)) (fun h => ok_some (by omega))
 obtain ⟨r, h1, h2⟩ := this
 rw [h1, h2]
theorem ordered_ok (o : List api_Timed) (hl : o.length ≤ 1000000) : Ok (tracebookref27_Ordered o) (fun b => b = true → Ord27 o) := by
 unfold tracebookref27_Ordered
 refine ok_bindS (Q := InlR (fun _ => Ord27 o) (fun r => r = false)) (ok_upN o.length (fun n => (∀ (i : Nat) e, i < n → o[i]? = some e → 0 ≤ e.fId.fSerial ∧ e.fId.fSerial ≤ 1000000000000000) ∧ ∀ (i : Nat) e e', i + 1 < n → o[i]? = some e → o[i + 1]? = some e' → tmE e ≤ tmE e') (by omega) ⟨by intro i e h; omega, by intro i e e' h; omega⟩ (fun i hI h2 => ?_)) (fun _ hq => ok_some (fun _ => hq)) (fun r hr => ok_some (fun h => by rw [hr] at h; simp at h))
 unfold tracebookref27_Ordered_L1
 refine ok_ite (fun hi => ?_) (fun hi => ok_inr ⟨fun k e hk => hI.1 k e (by have := lt_of_get hk; omega) hk, fun k e e' hk hk' => hI.2 k e e' (by have := lt_of_get hk'; omega) hk hk'⟩)
 obtain ⟨y, hiy, hy⟩ := ok_ixN (xs := o) (i := i) (by omega)
 simp only [hiy, Option.bind_some]
 refine ok_bind (Q := fun v => v = false → (0 ≤ y.fId.fSerial ∧ y.fId.fSerial ≤ 1000000000000000) ∧ ∀ e, 0 < i → o[i - 1]? = some e → tmE e ≤ tmE y) ?_ (fun v hv => ?_)
 ·refine ok_ite (fun _ => ok_some (by simp)) (fun h => ?_)
  refine ok_ite (fun _ => ok_some (by simp)) (fun h3 => ?_)
  refine ok_ite (fun h4 => ?_) (fun h4 => ok_some (fun _ => ⟨by omega, fun e h5 => by omega⟩))
  rw [Time_p, Option.bind_some, w64_of (n := (i : Int) - 1) (by omega)]
  obtain ⟨z, hiz, hz⟩ := ok_idx (xs := o) (i := (i : Int) - 1) (by omega) (by omega)
  rw [hiz, Option.bind_some, Time_p, Option.bind_some]
  refine ok_some (fun h5 => ⟨by omega, fun e _ he => ?_⟩)
  rw [show ((i : Int) - 1).toNat = i - 1 by omega, he] at hz
  cases hz
  have := of_decide_eq_false h5; omega
 ·cases v with
  | true => exact ok_inr rfl
  | false =>
   obtain ⟨g1, g2⟩ := hv rfl
   refine ok_inl ⟨by omega, w64_N (n := o.length) (by omega) (by omega), fun k e hk he => ?_, fun k e e' hk he he' => ?_⟩
   ·by_cases e2 : k = i
    ·subst e2; rw [hy] at he; cases he; exact g1
    ·exact hI.1 k e (by omega) he
   ·by_cases e2 : k + 1 = i
    ·rw [e2, hy] at he'; cases he'
     exact g2 e (by omega) (by rw [show i - 1 = k by omega]; exact he)
    ·exact hI.2 k e e' (by omega) he he'
theorem light_ok (ths : List api_Thread) (o : List api_Timed) : Ok (tracebooklaw27_light ths o) (fun b => b = true → ths.length ≤ 20 ∧ o.length ≤ 200 ∧ Ord27 o) := by
 unfold tracebooklaw27_light
 refine ok_bind (Q := fun b => b = true → ths.length ≤ 20 ∧ o.length ≤ 200 ∧ Ord27 o) ?_ (fun b hb => ok_some hb)
 refine ok_ite (fun h1 => ?_) (fun _ => ok_some (by simp))
 refine ok_ite (fun h2 => ?_) (fun _ => ok_some (by simp))
 refine ok_bind (ordered_ok o (by omega)) (fun b hb => ok_some (fun e => ⟨by omega, by omega, hb e⟩))
def mkS (id : Int) (c : state_change) (to by' : Int) : api_State := { fThread := id, fState := c.fstate, fSpan := { fFrom := c.fat, fTo := to }, fCpu := c.fcpu, fOn := c.fon, fBy := by' }
def extS (y : api_State) (to by' : Int) : api_State := { fThread := y.fThread, fState := y.fState, fSpan := { fFrom := y.fSpan.fFrom, fTo := to }, fCpu := y.fCpu, fOn := y.fOn, fBy := by' }
def sameC (y : api_State) (c : state_change) : Prop := y.fState = c.fstate ∧ y.fCpu = c.fcpu ∧ y.fOn = c.fon
instance (y : api_State) (c : state_change) : Decidable (sameC y c) := by unfold sameC; exact inferInstance
def push (id : Int) (L : List api_State) (c : state_change) (to by' : Int) : List api_State :=
 if c.fat < to then (match L.getLast? with
  | some y => if sameC y c then L.dropLast ++ [extS y to by'] else L ++ [mkS id c to by']
  | none => L ++ [mkS id c to by'])
 else L
theorem push_snoc (id : Int) (q : List api_State) (y : api_State) (c : state_change) (to by' : Int) (h : c.fat < to) : push id (q ++ [y]) c to by' = if sameC y c then q ++ [extS y to by'] else q ++ [y] ++ [mkS id c to by'] := by
 unfold push
 rw [if_pos h]
 simp
theorem push_len (id : Int) (L : List api_State) (c : state_change) (to by' : Int) : (push id L c to by').length ≤ L.length + 1 := by
 unfold push
 split
 ·split
  ·split
   ·simp
   ·simp
  ·simp
 ·omega
def runL (id : Int) : List state_change → List api_State × state_change
 | [] => ([], chg 0 5 (-1) (-1) (-1))
 | c :: r => r.foldl (fun p d => (push id p.1 p.2 d.fat d.fby, d)) ([], c)
theorem runL_snoc (id : Int) (cs : List state_change) (d : state_change) (h : cs ≠ []) : runL id (cs ++ [d]) = (push id (runL id cs).1 (runL id cs).2 d.fat d.fby, d) := by
 cases cs with
 | nil => exact absurd rfl h
 | cons c r => simp [runL]
theorem runL_last (id : Int) (cs : List state_change) (d : state_change) : (runL id (cs ++ [d])).2 = d := by
 cases cs with
 | nil => rfl
 | cons c r => rw [runL_snoc _ _ _ (by simp)]
theorem runL_len (id : Int) : ∀ (r : List state_change) (p : List api_State × state_change), (r.foldl (fun p d => (push id p.1 p.2 d.fat d.fby, d)) p).1.length ≤ p.1.length + r.length
 | [], p => by simp
 | d :: r, p => by
  have h1 := runL_len id r (push id p.1 p.2 d.fat d.fby, d)
  have h2 := push_len id p.1 p.2 d.fat d.fby
  simp only [List.foldl_cons, List.length_cons] at h1 ⊢
  omega
theorem runL_len' (id : Int) (cs : List state_change) : (runL id cs).1.length ≤ cs.length := by
 cases cs with
 | nil => simp [runL]
 | cons c r => have := runL_len id r ([], c); simp [runL] at this ⊢; omega
theorem set_last {α : Type} (q : List α) (y z : α) : (q ++ [y]).set q.length z = q ++ [z] := by simp
theorem idx_last {α : Type} (q : List α) (y : α) : idx (q ++ [y]) (q.length : Int) = some y := by rw [idx_nat]; simp
theorem same27_p (y : api_State) (s : api_State) : state_same y s = some (decide (y.fState = s.fState ∧ y.fCpu = s.fCpu ∧ y.fOn = s.fOn)) := by
 unfold state_same
 by_cases h1 : y.fState = s.fState <;> by_cases h2 : y.fCpu = s.fCpu <;> simp [h1, h2]
theorem piece_p (id : Int) (a : List api_State) (c : state_change) (to by' : Int) (hl : a.length ≤ 1000000) :
  Ok ((bif (decide (to ≤ c.fat)) then some a else (((bif (decide (0 ≤ (w64 ((List.length a : Int) - 1)))) then ((idx a (w64 ((List.length a : Int) - 1))).bind fun y65 => ((state_same y65 (mkS id c to by')).bind fun r66 => some r66)) else some false) : Option Bool).bind fun v59 => (bif v59 then ((idx a (w64 ((List.length a : Int) - 1))).bind fun y60 => ((idx (List.set a (Int.toNat (w64 ((List.length a : Int) - 1))) ({ fThread := y60.fThread, fState := y60.fState, fSpan := ({ fFrom := y60.fSpan.fFrom, fTo := to } : api_Span), fCpu := y60.fCpu, fOn := y60.fOn, fBy := y60.fBy } : api_State)) (w64 ((List.length a : Int) - 1))).bind fun y61 => some (List.set (List.set a (Int.toNat (w64 ((List.length a : Int) - 1))) ({ fThread := y60.fThread, fState := y60.fState, fSpan := ({ fFrom := y60.fSpan.fFrom, fTo := to } : api_Span), fCpu := y60.fCpu, fOn := y60.fOn, fBy := y60.fBy } : api_State)) (Int.toNat (w64 ((List.length a : Int) - 1))) ({ fThread := y61.fThread, fState := y61.fState, fSpan := y61.fSpan, fCpu := y61.fCpu, fOn := y61.fOn, fBy := by' } : api_State)))) else (bif room 56 (List.length a + List.length [mkS id c to by']) then some (a ++ [mkS id c to by']) else none)))) : Option (List api_State)) (fun r => r = push id a c to by') := by
 refine ok_ite (fun h => ok_some ?_) (fun h => ?_)
 ·unfold push; rw [if_neg (by omega)]
 have hlt : c.fat < to := by omega
 rw [w64_of (n := (a.length : Int) - 1) (by omega)]
 rcases List.eq_nil_or_concat a with ha | ⟨q, y, ha⟩
 ·subst ha
  have : ¬ ((0 : Int) ≤ (([] : List api_State).length : Int) - 1) := by simp
  simp only [this, decide_false, cond_false, Option.bind_some]
  rw [room_ok (by simp) (by simp)]
  exact ok_some (by unfold push; rw [if_pos hlt]; rfl)
 ·rw [List.concat_eq_append] at ha
  subst ha
  have e : (((q ++ [y]).length : Nat) : Int) - 1 = (q.length : Int) := by simp
  have h0 : (0 : Int) ≤ (q.length : Int) := by omega
  rw [e, idx_last]
  simp only [h0, decide_true, cond_true, Option.bind_some, same27_p]
  rw [push_snoc _ _ _ _ _ _ hlt]
  refine ok_ite (fun hs => ?_) (fun hs => ?_)
  ·rw [if_pos (show sameC y c from hs)]
   rw [show ((q.length : Int)).toNat = q.length from rfl, set_last, idx_last, Option.bind_some, set_last]
   exact ok_some rfl
  ·rw [if_neg (show ¬ sameC y c from hs)]
   rw [room_ok (by simp at hl ⊢; omega) (by simp at hl ⊢; omega)]
   exact ok_some rfl
theorem sts_p (t : state_track) (id E : Int) (hl : t.fchanges.length ≤ 100000) (hn : t.fchanges ≠ []) : stsT t id E = push id (runL id t.fchanges).1 (runL id t.fchanges).2 E (-1) := by
 have hpos : 0 < t.fchanges.length := List.length_pos_iff.2 hn
 have : Ok (state_track_states_k1 t id E) (fun r => r = push id (runL id t.fchanges).1 (runL id t.fchanges).2 E (-1)) := by
  unfold state_track_states_k1
  refine ok_bind (ok_up2N t.fchanges.length (fun (a : List api_State) n => (n < t.fchanges.length → a = (runL id (t.fchanges.take (n + 1))).1) ∧ (n = t.fchanges.length → a = push id (runL id t.fchanges).1 (runL id t.fchanges).2 E (-1))) (by omega) ⟨fun _ => ?_, fun h => by omega⟩ (fun a i hI h2 => ?_)) (fun r hr => ok_some hr)
  ·cases hc : t.fchanges with
   | nil => rw [hc] at hn; exact absurd rfl hn
   | cons c r => simp [runL]
  unfold state_track_states_k1_L1
  dsimp only
  refine ok_ite (fun hi => ?_) (fun hi => ok_inr (hI.2 (by omega)))
  have hlt : i < t.fchanges.length := by omega
  obtain ⟨y, hiy, hy⟩ := ok_ixN (xs := t.fchanges) (i := i) (by omega)
  have hy' : t.fchanges[i] = y := by have := List.getElem?_eq_getElem hlt; rw [hy] at this; exact (Option.some.inj this).symm
  have ha := hI.1 hlt
  have htk : t.fchanges.take (i + 1) = t.fchanges.take i ++ [y] := by rw [List.take_succ_eq_append_getElem hlt, hy']
  have hlast : (runL id (t.fchanges.take (i + 1))).2 = y := by rw [htk]; exact runL_last _ _ _
  have hal : a.length ≤ 100000 := by
   rw [ha]; have := runL_len' id (t.fchanges.take (i + 1)); rw [List.length_take] at this; omega
  rw [hiy, Option.bind_some, w64_N (n := t.fchanges.length) (by omega) (by omega)]
  refine ok_bind (Q := fun v => (i + 1 < t.fchanges.length → v = (runL id (t.fchanges.take (i + 1 + 1))).1) ∧ (i + 1 = t.fchanges.length → v = push id (runL id t.fchanges).1 (runL id t.fchanges).2 E (-1))) ?_ (fun v hv => ok_inl ⟨by omega, rfl, hv⟩)
  by_cases h1 : i + 1 < t.fchanges.length
  ·have hc : (((i + 1 : Nat) : Int) < (t.fchanges.length : Int)) := by omega
   obtain ⟨z, hiz, hz⟩ := ok_ixN (xs := t.fchanges) (i := i + 1) (by omega)
   have hz' : t.fchanges[i + 1] = z := by have := List.getElem?_eq_getElem h1; rw [hz] at this; exact (Option.some.inj this).symm
   simp only [hc, decide_true, cond_true, hiz, Option.bind_some]
   refine (piece_p id a y z.fat z.fby (by omega)).mono (fun r hr => ⟨fun _ => ?_, fun h => by omega⟩)
   rw [hr, List.take_succ_eq_append_getElem h1, hz', runL_snoc _ _ _ (by rw [htk]; simp), hlast, ← ha]
  ·have hc : ¬ (((i + 1 : Nat) : Int) < (t.fchanges.length : Int)) := by omega
   simp only [hc, decide_false, cond_false, Option.bind_some]
   refine (piece_p id a y E (-1) (by omega)).mono (fun r hr => ⟨fun h => by omega, fun h => ?_⟩)
   have hall : t.fchanges.take (i + 1) = t.fchanges := by rw [h, List.take_length]
   rw [hall] at ha hlast
   rw [hr, hlast, ← ha]
 obtain ⟨r, h1, h2⟩ := this
 unfold stsT
 rw [h1, ← h2]; rfl
def nowS (id : Int) (c : state_change) : api_State := { fThread := id, fState := c.fstate, fSpan := { fFrom := c.fat, fTo := 0 }, fCpu := c.fcpu, fOn := c.fon, fBy := -1 }
theorem turn_p (id : Int) (L : List api_State) (c d : state_change) (hl : L.length ≤ 1000000) : tracebookref27_track_turn_k1 { fL := L, fNow := nowS id c } d.fstate d.fcpu d.fon d.fat d.fby = some { fL := push id L c d.fat d.fby, fNow := nowS id d } := by
 have : Ok (tracebookref27_track_turn_k1 { fL := L, fNow := nowS id c } d.fstate d.fcpu d.fon d.fat d.fby) (fun r => r = { fL := push id L c d.fat d.fby, fNow := nowS id d }) := by
  unfold tracebookref27_track_turn_k1
  refine ok_bind (Q := fun v => v = push id L c d.fat d.fby) ?_ (fun v hv => ok_some (by rw [hv]; rfl))
  simp only [nowS]
  refine ok_ite (fun hlt => ?_) (fun hlt => ok_some (by unfold push; rw [if_neg hlt]))
  rw [w64_of (n := (L.length : Int) - 1) (by omega)]
  rcases List.eq_nil_or_concat L with ha | ⟨q, y, ha⟩
  ·subst ha
   have : ¬ ((0 : Int) < (([] : List api_State).length : Int)) := by simp
   simp only [this, decide_false, cond_false, Option.bind_some]
   rw [room_ok (by simp) (by simp)]
   exact ok_some (by unfold push; rw [if_pos hlt]; rfl)
  ·rw [List.concat_eq_append] at ha
   subst ha
   have e : (((q ++ [y]).length : Nat) : Int) - 1 = (q.length : Int) := by simp
   have h0 : (0 : Int) < ((q ++ [y]).length : Int) := by rw [List.length_append, List.length_singleton]; omega
   rw [e, idx_last]
   simp only [h0, decide_true, cond_true, Option.bind_some]
   rw [push_snoc _ _ _ _ _ _ hlt]
   refine ok_bind (Q := fun v => v = decide (sameC y c)) ?_ (fun v hv => ?_)
   ·refine ok_ite (fun h1 => ?_) (fun h1 => ok_some (by simp [sameC, h1]))
    refine ok_ite (fun h2 => ok_some (decide_eq_decide.2 ⟨fun h => ⟨h1, h2, h⟩, fun h => h.2.2⟩)) (fun h2 => ok_some (by simp [sameC, h2]))
   ·subst hv
    refine ok_ite (fun hs => ?_) (fun hs => ?_)
    ·rw [if_pos hs]
     rw [show ((q.length : Int)).toNat = q.length from rfl, set_last, idx_last, Option.bind_some, set_last]
     exact ok_some rfl
    ·rw [if_neg hs]
     rw [room_ok (by simp at hl ⊢; omega) (by simp at hl ⊢; omega)]
     exact ok_some rfl
 obtain ⟨r, h1, h2⟩ := this
 rw [h1, h2]
def ownB (id : Int) (e : api_Timed) : Bool := decide (e.fId.fThread = id)
def mism (id : Int) (o : List api_Timed) (n : Nat) : Bool := match (o.drop n).find? (ownB id) with
 | some e => !decide (e.fId.fSerial = (trkN id o n).fnext)
 | none => false
def skF (id : Int) (o : List api_Timed) (n : Nat) : Bool := match o[n]? with
 | some e => !ownB id e && (mism id o n && decide ((trkN id o n).flast < tmE e))
 | none => false
theorem wkT_next (t : state_track) (a b : Int) : (wkT t a b).fnext = t.fnext ∧ (wkT t a b).flast = t.flast := by
 unfold wkT
 split <;> exact ⟨rfl, rfl⟩
theorem stT_own {id : Int} {t : state_track} {e : api_Timed} (h : e.fId.fThread = id) : (stT id t e).fnext = w64 (e.fId.fSerial + 1) ∧ (stT id t e).flast = tmE e := by
 unfold stT
 simp only [h, if_true]
 split
 ·obtain ⟨h1, h2⟩ := wkT_next (evT t e) (tmE e) id
  exact ⟨h1, h2⟩
 ·exact ⟨rfl, rfl⟩
theorem stT_not {id : Int} {t : state_track} {e : api_Timed} (h : ¬ e.fId.fThread = id) : (stT id t e).fnext = t.fnext ∧ (stT id t e).flast = t.flast := by
 unfold stT
 simp only [h, if_false]
 split
 ·exact wkT_next t _ _
 ·exact ⟨rfl, rfl⟩
theorem drop_cons {o : List api_Timed} {n : Nat} {e : api_Timed} (h : o[n]? = some e) : o.drop n = e :: o.drop (n + 1) := by
 have hlt := lt_of_get h
 rw [List.drop_eq_getElem_cons hlt]
 have := List.getElem?_eq_getElem hlt
 rw [h] at this
 rw [← Option.some.inj this]
theorem trkN_succ {id : Int} {o : List api_Timed} {n : Nat} {e : api_Timed} (h : o[n]? = some e) : trkN id o (n + 1) = stT id (trkN id o n) e := by
 simp only [trkN, h]
theorem mism_not {id : Int} {o : List api_Timed} {n : Nat} {e : api_Timed} (h : o[n]? = some e) (hn : ¬ e.fId.fThread = id) : mism id o (n + 1) = mism id o n := by
 unfold mism
 rw [drop_cons h, List.find?_cons, show ownB id e = false from decide_eq_false hn, trkN_succ h, (stT_not hn).1]
theorem mism_own {id : Int} {o : List api_Timed} {n : Nat} {e : api_Timed} (h : o[n]? = some e) (hn : e.fId.fThread = id) : mism id o n = !decide (e.fId.fSerial = (trkN id o n).fnext) := by
 unfold mism
 rw [drop_cons h, List.find?_cons, show ownB id e = true from decide_eq_true hn]
theorem mism_end (id : Int) (o : List api_Timed) : mism id o o.length = false := by
 unfold mism
 rw [List.drop_length]; rfl
theorem stretch {id : Int} {o : List api_Timed} : ∀ (d a : Nat), (∀ j e, a ≤ j → j < a + d → o[j]? = some e → ¬ e.fId.fThread = id) → a + d ≤ o.length → (trkN id o (a + d)).fnext = (trkN id o a).fnext ∧ (trkN id o (a + d)).flast = (trkN id o a).flast ∧ mism id o (a + d) = mism id o a
 | 0, a, _, _ => ⟨rfl, rfl, rfl⟩
 | d + 1, a, h, hl => by
  obtain ⟨h1, h2, h3⟩ := stretch d a (fun j e hj1 hj2 => h j e hj1 (by omega)) (by omega)
  have he : o[a + d]? = some o[a + d] := List.getElem?_eq_getElem (by omega)
  have hn := h (a + d) _ (by omega) (by omega) he
  rw [show a + (d + 1) = a + d + 1 by omega, trkN_succ he, mism_not he hn]
  obtain ⟨g1, g2⟩ := stT_not (t := trkN id o (a + d)) hn
  exact ⟨g1.trans h1, g2.trans h2, h3⟩
theorem blank_L1_p (id : Int) (o : List api_Timed) (expect before : Int) (i : Nat) (e : api_Timed) (he : o[i]? = some e) (hl : o.length ≤ 1000000) (out : List Bool) (ho : out.length = o.length) (s : Nat) (hs : s ≤ i) :
  Ok (loop (tracebookref27_blank_L1 o expect before (i : Int)) (out, (s : Int))) (fun r => r.length = o.length ∧ ∀ k, k < o.length → r[k]? = if s ≤ k ∧ k < i ∧ ¬ e.fId.fSerial = expect then (o[k]?).map (fun x => decide (before < tmE x)) else out[k]?) := by
 have hil := lt_of_get he
 by_cases hm : e.fId.fSerial = expect
 ·refine ok_loop (fun st : List Bool × Int => st = (out, (s : Int))) (fun _ => 0) (fun st hst => ?_) rfl (by simp [manyRounds])
  subst hst
  unfold tracebookref27_blank_L1
  dsimp only
  rw [show idx o (i : Int) = some e by rw [idx_nat]; exact he]
  refine ok_bind (Q := fun v => v = false) ?_ (fun v hv => ?_)
  ·refine ok_ite (fun _ => ?_) (fun _ => ok_some rfl)
   rw [Option.bind_some]
   exact ok_some (by simp [hm])
  ·subst hv
   exact ok_inr ⟨ho, fun k hk => by simp [hm]⟩
 ·refine ok_loop (fun st : List Bool × Int => ∃ q : Nat, s ≤ q ∧ q ≤ i ∧ st.2 = (q : Int) ∧ st.1.length = o.length ∧ ∀ k, k < o.length → st.1[k]? = if s ≤ k ∧ k < q then (o[k]?).map (fun x => decide (before < tmE x)) else out[k]?) (fun st => i - st.2.toNat) (fun st hst => ?_) ⟨s, Nat.le_refl _, hs, rfl, ho, fun k hk => by rw [if_neg (by omega)]⟩ (by simp [manyRounds]; omega)
  obtain ⟨a, q'⟩ := st
  obtain ⟨q, h1, h2, h3, h4, h5⟩ := hst
  simp only at h3 h4 h5
  subst h3
  unfold tracebookref27_blank_L1
  dsimp only
  rw [show idx o (i : Int) = some e by rw [idx_nat]; exact he]
  refine ok_bind (Q := fun v => v = decide (q < i)) ?_ (fun v hv => ?_)
  ·refine ok_ite (fun h => ?_) (fun h => ok_some (by rw [decide_eq_false (by omega)]))
   rw [Option.bind_some]
   exact ok_some (by rw [decide_eq_true (show q < i by omega)]; simp [hm])
  ·subst hv
   refine ok_ite (fun h => ?_) (fun h => ok_inr ⟨h4, fun k hk => ?_⟩)
   ·obtain ⟨x, hix, hx⟩ := ok_ixN (xs := o) (i := q) (by omega)
    obtain ⟨z, hiz, _⟩ := ok_ixN (xs := a) (i := q) (by omega)
    rw [hix, Option.bind_some, Time_p, Option.bind_some, hiz, Option.bind_some, w64_N (n := o.length) (by omega) (by omega)]
    refine ok_inl ⟨⟨q + 1, by omega, by omega, rfl, by simpa using h4, fun k hk => ?_⟩, by simp; omega⟩
    rw [show ((q : Int)).toNat = q from rfl, List.getElem?_set]
    by_cases e1 : q = k
    ·subst e1
     have : q < a.length := by omega
     simp [this, h1, hx]
    ·rw [if_neg e1, h5 k hk]
     by_cases e2 : s ≤ k ∧ k < q
     ·rw [if_pos e2, if_pos (by omega)]
     ·rw [if_neg e2, if_neg (by omega)]
   ·rw [h5 k hk]
    have : q = i := by omega
    subst this
    by_cases e2 : s ≤ k ∧ k < q
    ·rw [if_pos e2, if_pos ⟨e2.1, e2.2, hm⟩]
    ·rw [if_neg e2, if_neg (fun h' => e2 ⟨h'.1, h'.2.1⟩)]
structure BlkI (id : Int) (o : List api_Timed) (out : List Bool) (expect last before : Int) (i : Nat) : Prop where
 len : out.length = o.length
 nx : expect = (trkN id o i).fnext
 la : before = (trkN id o i).flast
 rg : -1 ≤ last ∧ last < i
 non : ∀ (j : Nat) (e : api_Timed), last < (j : Int) → j < i → o[j]? = some e → ¬ e.fId.fThread = id
 val : ∀ (k : Nat), k < o.length → out[k]? = some (if (k : Int) ≤ last then skF id o k else false)
theorem blank_p (id : Int) (o : List api_Timed) (hl : o.length ≤ 1000) : Ok (tracebookref27_blank id o) (fun r => r.length = o.length ∧ ∀ k, k < o.length → r[k]? = some (skF id o k)) := by
 unfold tracebookref27_blank
 have hmk : mkB 1 (o.length : Int) = true := decide_eq_true (by omega)
 rw [hmk, cond_true]
 refine ok_bind (Q := fun r => r.length = o.length ∧ ∀ k, k < o.length → r[k]? = some (skF id o k)) ?_ (fun r hr => ok_some hr)
 refine ok_loop (fun s : List Bool × Int × Int × Int × Int => ∃ i : Nat, i ≤ o.length ∧ s.2.2.2.2 = (i : Int) ∧ BlkI id o s.1 s.2.1 s.2.2.1 s.2.2.2.1 i) (fun s => o.length - s.2.2.2.2.toNat) (fun s H => ?_) ⟨0, by omega, rfl, ⟨by simp, rfl, rfl, by simp, by intro j e _ h; omega, fun k hk => ?_⟩⟩ (by simp [manyRounds]; omega)
 rotate_left
 ·have : ¬ ((k : Int) ≤ -1) := by omega
  simp [this, hk]
 obtain ⟨out, expect, last, before, i'⟩ := s
 obtain ⟨i, h1, h2, H⟩ := H
 simp only at h2 H
 subst h2
 have hrg := H.rg
 unfold tracebookref27_blank_L2
 dsimp only
 refine ok_ite (fun hi => ?_) (fun hi => ok_inr ⟨H.len, fun k hk => ?_⟩)
 ·obtain ⟨e, hie, he⟩ := ok_ixN (xs := o) (i := i) (by omega)
  simp only [hie, Option.bind_some, Time_p]
  refine ok_bind (Q := fun v => BlkI id o v.1 v.2.1 v.2.2.1 v.2.2.2 (i + 1)) ?_ (fun v hv => ?_)
  ·refine ok_nite (fun hown => ok_some ?_) (fun hown => ?_)
   ·obtain ⟨g1, g2⟩ := stT_not (t := trkN id o i) hown
    refine ⟨H.len, by rw [trkN_succ he, g1]; exact H.nx, by rw [trkN_succ he, g2]; exact H.la, ⟨hrg.1, by simp only; omega⟩, fun j x hj1 hj2 hx => ?_, H.val⟩
    by_cases ej : j = i
    ·subst ej; rw [he] at hx; cases hx; exact hown
    ·exact H.non j x hj1 (by omega) hx
   ·obtain ⟨s0, hs0⟩ : ∃ s0 : Nat, w64 (last + 1) = (s0 : Int) ∧ (s0 : Int) = last + 1 := ⟨(last + 1).toNat, by rw [w64_of (by omega)]; omega, by omega⟩
    rw [hs0.1]
    refine ok_bind (blank_L1_p id o expect before i e he (by omega) out H.len s0 (by omega)) (fun r hr => ok_some ?_)
    obtain ⟨g1, g2⟩ := stT_own (t := trkN id o i) hown
    refine ⟨hr.1, by rw [trkN_succ he, g1], by rw [trkN_succ he, g2], ⟨by simp only; omega, by simp only; omega⟩, fun j x hj1 hj2 => by simp only at hj1; omega, fun k hk => ?_⟩
    rw [hr.2 k hk]
    by_cases hki : k ≤ i
    ·rw [if_pos (show (k : Int) ≤ (i : Int) by omega)]
     have hx : o[k]? = some o[k] := List.getElem?_eq_getElem hk
     by_cases hkl : (k : Int) ≤ last
     ·rw [if_neg (by omega), H.val k hk, if_pos hkl]
     ·by_cases hke : k = i
      ·subst hke
       rw [if_neg (by omega), H.val k hk, if_neg hkl]
       simp only [skF, he, show ownB id e = true from decide_eq_true hown, Bool.not_true, Bool.false_and]
      ·have hst := stretch (id := id) (o := o) (i - k) k (fun j x hj1 hj2 hx => H.non j x (by omega) (by omega) hx) (by omega)
       rw [show k + (i - k) = i by omega] at hst
       have hno := H.non k _ (by omega) (by omega) hx
       have hmi := mism_own he hown
       rw [← H.nx] at hmi
       simp only [skF, hx, show ownB id o[k] = false from decide_eq_false hno, Bool.not_false, Bool.true_and, ← hst.2.2, ← hst.2.1, hmi, ← H.la]
       by_cases hser : e.fId.fSerial = expect
       ·rw [if_neg (fun h => h.2.2 hser), H.val k hk, if_neg hkl]; simp [hser]
       ·rw [if_pos ⟨by omega, by omega, hser⟩]; simp [hser]
    ·rw [if_neg (by omega), H.val k hk, if_neg (by omega), if_neg (show ¬ (k : Int) ≤ (i : Int) by omega)]
  ·obtain ⟨v1, v2, v3, v4⟩ := v
   simp only at hv ⊢
   rw [w64_N (n := o.length) (by omega) (by omega)]
   exact ok_inl ⟨⟨i + 1, by omega, rfl, hv⟩, by simp; omega⟩
 ·have hin : i = o.length := by omega
  rw [H.val k hk]
  by_cases hkl : (k : Int) ≤ last
  ·rw [if_pos hkl]
  ·rw [if_neg hkl]
   have hx : o[k]? = some o[k] := List.getElem?_eq_getElem hk
   have hst := stretch (id := id) (o := o) (o.length - k) k (fun j x hj1 hj2 hx => H.non j x (by omega) (by omega) hx) (by omega)
   rw [show k + (o.length - k) = o.length by omega, mism_end] at hst
   simp only [skF, hx, ← hst.2.2, Bool.false_and, Bool.and_false]
theorem popR_id {last : Int} : ∀ {r : List state_change}, (∀ c ∈ r, c.fat ≤ last) → popR last r = r
 | [], _ => rfl
 | [c], _ => rfl
 | c :: d :: r, h => by
  have := h c (by simp)
  simp only [popR]
  rw [if_neg (by omega)]
theorem popR_cons {last : Int} {c : state_change} {r : List state_change} (h : last < c.fat) (hr : r ≠ []) : popR last (c :: r) = popR last r := by
 cases r with
 | nil => exact absurd rfl hr
 | cons d r => simp only [popR]; rw [if_pos h]
theorem popR_mem {last : Int} : ∀ {r : List state_change} {c : state_change}, c ∈ popR last r → c ∈ r
 | [], _, h => h
 | [_], _, h => h
 | c :: d :: r, x, h => by
  simp only [popR] at h
  split at h
  ·exact List.mem_cons_of_mem _ (popR_mem h)
  ·exact h
def popC (last : Int) (cs : List state_change) : List state_change := (popR last cs.reverse).reverse
theorem popC_ne {last : Int} {cs : List state_change} (h : cs ≠ []) : popC last cs ≠ [] := by
 unfold popC
 have := (popR_len last cs.reverse).2 (by simpa using h)
 simpa using this
theorem popC_id {last : Int} {cs : List state_change} (h : ∀ c ∈ cs, c.fat ≤ last) : popC last cs = cs := by
 unfold popC
 rw [popR_id (by simpa using h), List.reverse_reverse]
theorem popC_snoc {last : Int} {cs : List state_change} {c : state_change} (h : last < c.fat) (hn : cs ≠ []) : popC last (cs ++ [c]) = popC last cs := by
 unfold popC
 rw [List.reverse_append, List.reverse_singleton, List.singleton_append, popR_cons h (by simpa using hn)]
theorem gapC_pop (t : state_track) : gapC t = popC t.flast t.fchanges ++ [chg t.flast 5 (-1) (-1) (-1)] := rfl
def cutC (id : Int) (o : List api_Timed) (n : Nat) : List state_change := if mism id o n = true then popC (trkN id o n).flast (trkN id o n).fchanges else (trkN id o n).fchanges
theorem cutC_ne (id : Int) (o : List api_Timed) (n : Nat) : cutC id o n ≠ [] := by
 unfold cutC
 have := (trkN_len id o n).2
 split
 ·exact popC_ne this
 ·exact this
theorem cutC_len (id : Int) (o : List api_Timed) (n : Nat) : (cutC id o n).length ≤ 1 + 3 * n := by
 unfold cutC popC
 have h1 := (trkN_len id o n).1
 have h2 := (popR_len (trkN id o n).flast (trkN id o n).fchanges.reverse).1
 split
 ·simp at h2 ⊢; omega
 ·exact h1
structure AtMost (t : state_track) (x : Int) : Prop where
 cs : ∀ c ∈ t.fchanges, c.fat ≤ x
 la : t.flast ≤ x
theorem evT_at {t : state_track} {e : api_Timed} (h : AtMost t (tmE e)) : AtMost (evT t e) (tmE e) := by
 have hc : ∀ c ∈ (if e.fId.fSerial = t.fnext then t.fchanges else gapC t), c.fat ≤ tmE e := by
  intro c hc
  split at hc
  ·exact h.cs c hc
  ·rw [gapC_pop] at hc
   rcases List.mem_append.1 hc with hc | hc
   ·unfold popC at hc
    have h9 := popR_mem (show c ∈ popR t.flast t.fchanges.reverse by simpa using hc)
    exact h.cs c (by simpa using h9)
   ·simp at hc; subst hc; exact h.la
 refine ⟨fun c hm => ?_, Int.le_refl _⟩
 unfold evT at hm
 simp only at hm
 generalize (if e.fId.fSerial = t.fnext then t.fchanges else gapC t) = cs at *
 split at hm
 ·rcases List.mem_append.1 hm with hm | hm
  ·exact hc c hm
  ·simp at hm; subst hm; exact Int.le_refl _
 ·split at hm
  ·rcases List.mem_append.1 hm with hm | hm
   ·exact hc c hm
   ·simp at hm; subst hm; exact Int.le_refl _
  ·exact hc c hm
theorem wkT_at {t : state_track} {x b : Int} (h : AtMost t x) : AtMost (wkT t x b) x := by
 unfold wkT
 split
 ·refine ⟨fun c hm => ?_, h.la⟩
  rcases List.mem_append.1 hm with hm | hm
  ·exact h.cs c hm
  ·simp at hm; subst hm; exact Int.le_refl _
 ·exact h
theorem stT_at {id : Int} {t : state_track} {e : api_Timed} (h : AtMost t (tmE e)) : AtMost (stT id t e) (tmE e) := by
 unfold stT
 simp only
 split
 ·refine wkT_at ?_
  split
  ·exact evT_at h
  ·exact h
 ·split
  ·exact evT_at h
  ·exact h
theorem trkN_at {id : Int} {o : List api_Timed} (ho : Ord27 o) : ∀ (n : Nat) (e : api_Timed), o[n]? = some e → AtMost (trkN id o n) (tmE e)
 | 0, e, _ => by
  have := tmE_rng e
  exact ⟨fun c hc => by simp [trkN, trk0] at hc; subst hc; exact this.1, this.1⟩
 | n + 1, e, he => by
  have hl := lt_of_get he
  have hx : o[n]? = some o[n] := List.getElem?_eq_getElem (by omega)
  have h := trkN_at (id := id) ho n _ hx
  have h2 := stT_at (id := id) h
  have h3 := ho.tm n _ _ hx he
  rw [trkN_succ hx]
  exact ⟨fun c hc => by have := h2.cs c hc; omega, by have := h2.la; omega⟩
theorem runL_getLast (id : Int) {cs : List state_change} (h : cs ≠ []) : cs.getLast? = some (runL id cs).2 := by
 rcases List.eq_nil_or_concat cs with e | ⟨q, c, e⟩
 ·exact absurd e h
 ·rw [List.concat_eq_append] at e
  subst e
  rw [runL_last]; simp
theorem lastS_run (id : Int) (t : state_track) (h : t.fchanges ≠ []) : lastS t = (runL id t.fchanges).2.fstate := by
 unfold lastS
 rw [runL_getLast id h]
abbrev Tup := List api_State × Int × Int × Int × Int × Int × Int × Int
def tup (id : Int) (cs : List state_change) : Tup := ((runL id cs).1, id, (runL id cs).2.fstate, (runL id cs).2.fat, 0, (runL id cs).2.fcpu, (runL id cs).2.fon, -1)
theorem turn_tup (id : Int) (cs : List state_change) (at' s cpu on by' : Int) (hn : cs ≠ []) (hl : cs.length ≤ 100000) :
  (tracebookref27_track_turn_k1 ({ fL := (runL id cs).1, fNow := ({ fThread := id, fState := (runL id cs).2.fstate, fSpan := ({ fFrom := (runL id cs).2.fat, fTo := 0 } : api_Span), fCpu := (runL id cs).2.fcpu, fOn := (runL id cs).2.fon, fBy := -1 } : api_State) } : tracebookref27_track) s cpu on at' by') = some { fL := (runL id (cs ++ [chg at' s cpu on by'])).1, fNow := nowS id (chg at' s cpu on by') } := by
 have h := runL_len' id cs
 have := turn_p id (runL id cs).1 (runL id cs).2 (chg at' s cpu on by') (by omega)
 rw [runL_snoc _ _ _ hn]
 exact this
theorem stage (id : Int) (cs : List state_change) (b : Bool) (at' s cpu on by' : Int) (hn : cs ≠ []) (hl : cs.length ≤ 100000) :
  Ok ((bif b then ((tracebookref27_track_turn_k1 ({ fL := (runL id cs).1, fNow := ({ fThread := id, fState := (runL id cs).2.fstate, fSpan := ({ fFrom := (runL id cs).2.fat, fTo := 0 } : api_Span), fCpu := (runL id cs).2.fcpu, fOn := (runL id cs).2.fon, fBy := -1 } : api_State) } : tracebookref27_track) s cpu on at' by').bind fun r358 => some (r358.fL, r358.fNow.fThread, r358.fNow.fState, r358.fNow.fSpan.fFrom, r358.fNow.fSpan.fTo, r358.fNow.fCpu, r358.fNow.fOn, r358.fNow.fBy)) else some ((runL id cs).1, id, (runL id cs).2.fstate, (runL id cs).2.fat, 0, (runL id cs).2.fcpu, (runL id cs).2.fon, -1)) : Option Tup)
   (fun r => r = tup id (if b = true then cs ++ [chg at' s cpu on by'] else cs)) := by
 cases b with
 | false => exact ok_some rfl
 | true =>
  simp only [cond_true, if_true]
  rw [turn_tup id cs at' s cpu on by' hn hl, Option.bind_some]
  refine ok_some ?_
  unfold tup
  rw [runL_last]
  rfl
def cs1 (t : state_track) (e : api_Timed) : List state_change := if e.fId.fSerial = t.fnext then t.fchanges else gapC t
theorem cs1_ne (t : state_track) (e : api_Timed) (h : t.fchanges ≠ []) : cs1 t e ≠ [] := by
 unfold cs1
 split
 ·exact h
 ·exact (gapC_len t).2
theorem step27 (id : Int) (o : List api_Timed) (ho : Ord27 o) (hl : o.length ≤ 1000) (bl : List Bool) (hbl : ∀ k, k < o.length → bl[k]? = some (skF id o k)) (i : Nat) (e : api_Timed) (he : o[i]? = some e) :
  Ok (tracebookref27_states_k2_L1 id o bl ((tup id (cutC id o i)).1, (tup id (cutC id o i)).2.1, (tup id (cutC id o i)).2.2.1, (tup id (cutC id o i)).2.2.2.1, (tup id (cutC id o i)).2.2.2.2.1, (tup id (cutC id o i)).2.2.2.2.2.1, (tup id (cutC id o i)).2.2.2.2.2.2.1, (tup id (cutC id o i)).2.2.2.2.2.2.2, (trkN id o i).fnext, (trkN id o i).flast, (i : Int)))
   (fun r => r = .inl ((tup id (cutC id o (i + 1))).1, (tup id (cutC id o (i + 1))).2.1, (tup id (cutC id o (i + 1))).2.2.1, (tup id (cutC id o (i + 1))).2.2.2.1, (tup id (cutC id o (i + 1))).2.2.2.2.1, (tup id (cutC id o (i + 1))).2.2.2.2.2.1, (tup id (cutC id o (i + 1))).2.2.2.2.2.2.1, (tup id (cutC id o (i + 1))).2.2.2.2.2.2.2, (trkN id o (i + 1)).fnext, (trkN id o (i + 1)).flast, ((i + 1 : Nat) : Int))) := by
 have hil := lt_of_get he
 have hie : idx o (i : Int) = some e := by rw [idx_nat]; exact he
 have hib : idx bl (i : Int) = some (skF id o i) := by rw [idx_nat]; exact hbl i hil
 have htl := trkN_len id o i
 have hat := trkN_at (id := id) ho i e he
 have hat2 := stT_at (id := id) hat
 have hcn := cutC_ne id o i
 have hcl := cutC_len id o i
 rw [trkN_succ he]
 unfold tracebookref27_states_k2_L1
 simp only [tup]
 refine ok_ite (fun _ => ?_) (fun h => absurd (by omega) h)
 simp only [hie, hib, Option.bind_some, Time_p]
 rw [w64_N (n := o.length) hil (by omega)]
 have hskf : skF id o i = (!ownB id e && (mism id o i && decide ((trkN id o i).flast < tmE e))) := by simp only [skF, he]
 generalize ht : trkN id o i = t at *
 by_cases hown : e.fId.fThread = id
 ·
  obtain ⟨g1, g2⟩ := stT_own (t := t) hown
  rw [g1, g2]
  have hmi := mism_own he hown
  rw [ht] at hmi
  have hsk : skF id o i = false := by rw [hskf, show ownB id e = true from decide_eq_true hown]; rfl
  rw [hsk]
  have hcut : cutC id o (i + 1) = (stT id t e).fchanges := by
   unfold cutC
   rw [trkN_succ he, ht]
   split
   ·exact popC_id (fun c hc => by rw [g2]; exact hat2.cs c hc)
   ·rfl
  rw [hcut]
  have hc1 : (if (!decide (e.fId.fSerial = t.fnext)) = true then cutC id o i ++ [chg t.flast 5 (-1) (-1) (-1)] else cutC id o i) = cs1 t e := by
   unfold cs1
   by_cases hs : e.fId.fSerial = t.fnext
   ·simp only [hs, decide_true, Bool.not_true, Bool.false_eq_true, if_false, if_true]
    unfold cutC
    rw [hmi]; simp [hs, ht]
   ·simp only [hs, decide_false, Bool.not_false, if_true, if_false]
    unfold cutC
    rw [hmi]; simp [hs, ht, gapC_pop]
  have hc1n := cs1_ne t e htl.2
  have hc1l : (cs1 t e).length ≤ 10000 := by
   have := gapC_len t
   unfold cs1; split <;> omega
  simp only [hown, decide_true, cond_true, Option.bind_some]
  refine ok_bind (Q := fun v => v = ((runL id ((stT id t e).fchanges)).1, id, (runL id ((stT id t e).fchanges)).2.fstate, (runL id ((stT id t e).fchanges)).2.fat, 0, (runL id ((stT id t e).fchanges)).2.fcpu, (runL id ((stT id t e).fchanges)).2.fon, -1, w64 (e.fId.fSerial + 1), tmE e)) ?_ (fun v hv => by subst hv; exact ok_some rfl)
  refine ok_bind (stage id (cutC id o i) (!decide (e.fId.fSerial = t.fnext)) t.flast 5 (-1) (-1) (-1) hcn (by omega)) (fun v hv => ?_)
  subst hv
  rw [hc1]
  simp only [tup]
  have hstT : (stT id t e).fchanges = (if e.fEvent.fKind = 8 then cs1 t e ++ [chg (tmE e) 4 e.fEvent.fN (-1) (-1)] else if e.fEvent.fKind = 9 then cs1 t e ++ [chg (tmE e) e.fEvent.fN (-1) (if e.fEvent.fN = 2 then e.fEvent.fM else -1) (-1)] else if e.fEvent.fKind = 10 ∧ e.fEvent.fN = id ∧ ((runL id (cs1 t e)).2.fstate = 1 ∨ (runL id (cs1 t e)).2.fstate = 2) then cs1 t e ++ [chg (tmE e) 0 (-1) (-1) id] else cs1 t e) := by
   unfold stT
   simp only [hown, if_true]
   by_cases k8 : e.fEvent.fKind = 8
   ·simp [k8, evT, cs1]
   ·by_cases k9 : e.fEvent.fKind = 9
    ·simp [k9, evT, cs1]
    ·by_cases k10 : e.fEvent.fKind = 10
     ·have hev : (evT t e).fchanges = cs1 t e := by simp [evT, cs1, k10]
      by_cases hN : e.fEvent.fN = id
      ·simp only [k10, hN, and_self, if_true, true_and, show ¬ ((10 : Int) = 8) by decide, show ¬ ((10 : Int) = 9) by decide, if_false]
       unfold wkT
       rw [lastS_run id _ (by rw [hev]; exact hc1n), hev]
       split <;> simp [hev]
      ·simp [k10, hN, hev]
     ·simp [k8, k9, k10, evT, cs1]
  rw [hstT]
  refine ok_bind (Q := fun v => v = decide (e.fEvent.fKind = 10 ∧ e.fEvent.fN = id ∧ ((runL id (cs1 t e)).2.fstate = 1 ∨ (runL id (cs1 t e)).2.fstate = 2))) ?_ (fun v hv => ?_)
  ·refine ok_ite (fun h1 => ?_) (fun h1 => ok_some (by simp [h1]))
   refine ok_ite (fun h2 => ?_) (fun h2 => ok_some (by simp [h2]))
   simp only [Bool.not_false, cond_true]
   exact ok_ite (fun h3 => ok_some (by simp [h1, h2, h3])) (fun h3 => ok_some (by by_cases h5 : (runL id (cs1 t e)).2.fstate = 2 <;> simp [h1, h2, h3, h5]))
  subst hv
  refine ok_bind (stage id (cs1 t e) (decide (e.fEvent.fKind = 10 ∧ e.fEvent.fN = id ∧ ((runL id (cs1 t e)).2.fstate = 1 ∨ (runL id (cs1 t e)).2.fstate = 2))) (tmE e) 0 (-1) (-1) id hc1n (by omega)) (fun v hv => ?_)
  subst hv
  generalize hw : (if decide (e.fEvent.fKind = 10 ∧ e.fEvent.fN = id ∧ ((runL id (cs1 t e)).2.fstate = 1 ∨ (runL id (cs1 t e)).2.fstate = 2)) = true then cs1 t e ++ [chg (tmE e) 0 (-1) (-1) id] else cs1 t e) = c2
  have hc2n : c2 ≠ [] := by rw [← hw]; split <;> simp [hc1n]
  have hc2l : c2.length ≤ 10001 := by rw [← hw]; split <;> (try rw [List.length_append, List.length_singleton]) <;> omega
  simp only [tup, Bool.not_true, cond_false]
  refine ok_bind (stage id c2 (decide (e.fEvent.fKind = 8)) (tmE e) 4 e.fEvent.fN (-1) (-1) hc2n (by omega)) (fun v hv => ?_)
  subst hv
  generalize hw3 : (if decide (e.fEvent.fKind = 8) = true then c2 ++ [chg (tmE e) 4 e.fEvent.fN (-1) (-1)] else c2) = c3
  have hc3n : c3 ≠ [] := by rw [← hw3]; split <;> simp [hc2n]
  have hc3l : c3.length ≤ 10002 := by rw [← hw3]; split <;> (try rw [List.length_append, List.length_singleton]) <;> omega
  simp only [tup]
  refine ok_bind (Q := fun v => v = decide (e.fEvent.fKind = 9 ∧ e.fEvent.fN = 2)) ?_ (fun v hv => ?_)
  ·exact ok_ite (fun h1 => ok_some (by simp [h1])) (fun h1 => ok_some (by simp [h1]))
  subst hv
  refine ok_bind (stage id c3 (decide (e.fEvent.fKind = 9 ∧ e.fEvent.fN = 2)) (tmE e) 2 (-1) e.fEvent.fM (-1) hc3n (by omega)) (fun v hv => ?_)
  subst hv
  generalize hw4 : (if decide (e.fEvent.fKind = 9 ∧ e.fEvent.fN = 2) = true then c3 ++ [chg (tmE e) 2 (-1) e.fEvent.fM (-1)] else c3) = c4
  have hc4n : c4 ≠ [] := by rw [← hw4]; split <;> simp [hc3n]
  have hc4l : c4.length ≤ 10003 := by rw [← hw4]; split <;> (try rw [List.length_append, List.length_singleton]) <;> omega
  simp only [tup]
  refine ok_bind (Q := fun v => v = decide (e.fEvent.fKind = 9 ∧ ¬ e.fEvent.fN = 2)) ?_ (fun v hv => ?_)
  ·exact ok_ite (fun h1 => ok_some (by simp [h1])) (fun h1 => ok_some (by simp [h1]))
  subst hv
  have hfin : (if e.fEvent.fKind = 9 ∧ ¬ e.fEvent.fN = 2 then c4 ++ [chg (tmE e) e.fEvent.fN (-1) (-1) (-1)] else c4) = (if e.fEvent.fKind = 8 then cs1 t e ++ [chg (tmE e) 4 e.fEvent.fN (-1) (-1)] else if e.fEvent.fKind = 9 then cs1 t e ++ [chg (tmE e) e.fEvent.fN (-1) (if e.fEvent.fN = 2 then e.fEvent.fM else -1) (-1)] else if e.fEvent.fKind = 10 ∧ e.fEvent.fN = id ∧ ((runL id (cs1 t e)).2.fstate = 1 ∨ (runL id (cs1 t e)).2.fstate = 2) then cs1 t e ++ [chg (tmE e) 0 (-1) (-1) id] else cs1 t e) := by
   rw [← hw4, ← hw3, ← hw]
   by_cases k8 : e.fEvent.fKind = 8
   ·simp [k8]
   ·by_cases k9 : e.fEvent.fKind = 9
    ·by_cases hN : e.fEvent.fN = 2
     ·simp [k9, hN]
     ·simp [k9, hN]
    ·simp [k8, k9]
  rw [← hfin]
  refine ok_ite (fun h => ?_) (fun h => ok_some (by rw [if_neg h]))
  rw [turn_tup id c4 (tmE e) e.fEvent.fN (-1) (-1) (-1) hc4n (by omega), Option.bind_some]
  refine ok_some ?_
  rw [if_pos h, runL_last]
  rfl
 ·
  obtain ⟨g1, g2⟩ := stT_not (t := t) hown
  rw [g1, g2]
  have hmn := mism_not he hown
  simp only [hown, decide_false, cond_false, Option.bind_some]
  have hob : ownB id e = false := decide_eq_false hown
  have hstT : stT id t e = if e.fEvent.fN = id ∧ e.fEvent.fKind = 10 then wkT t (tmE e) e.fId.fThread else t := by
   unfold stT; simp only [hown, if_false]
  have hcut1 : cutC id o (i + 1) = if mism id o i = true then popC t.flast (stT id t e).fchanges else (stT id t e).fchanges := by
   unfold cutC
   rw [hmn, trkN_succ he, ht, g2]
  have hcut0 : cutC id o i = if mism id o i = true then popC t.flast t.fchanges else t.fchanges := by
   unfold cutC; rw [ht]
  have key : cutC id o (i + 1) = if e.fEvent.fKind = 10 ∧ e.fEvent.fN = id ∧ skF id o i = false ∧ ((runL id (cutC id o i)).2.fstate = 1 ∨ (runL id (cutC id o i)).2.fstate = 2) then cutC id o i ++ [chg (tmE e) 0 (-1) (-1) e.fId.fThread] else cutC id o i := by
   by_cases hk : e.fEvent.fN = id ∧ e.fEvent.fKind = 10
   ·rw [hcut1, hstT, if_pos hk]
    by_cases hs : mism id o i = true ∧ t.flast < tmE e
    ·have hsk : skF id o i = true := by rw [hskf, hob, hs.1]; simp [hs.2]
     refine Eq.trans ?_ (if_neg (fun h => by rw [hsk] at h; simp at h)).symm
     rw [if_pos hs.1, hcut0, if_pos hs.1]
     unfold wkT
     split
     ·exact popC_snoc hs.2 htl.2
     ·rfl
    ·have hsk : skF id o i = false := by
      rw [hskf, hob]
      by_cases hm : mism id o i = true
      ·have : ¬ t.flast < tmE e := fun h => hs ⟨hm, h⟩
       simp [this]
      ·simp [hm]
     have hc0 : cutC id o i = t.fchanges := by
      rw [hcut0]
      split
      ·rename_i hm
       have : ¬ t.flast < tmE e := fun h => hs ⟨hm, h⟩
       exact popC_id (fun c hc => by have := hat.cs c hc; omega)
      ·rfl
     have hc1 : (if mism id o i = true then popC t.flast (wkT t (tmE e) e.fId.fThread).fchanges else (wkT t (tmE e) e.fId.fThread).fchanges) = (wkT t (tmE e) e.fId.fThread).fchanges := by
      split
      ·rename_i hm
       have : ¬ t.flast < tmE e := fun h => hs ⟨hm, h⟩
       exact popC_id (fun c hc => by have := (wkT_at (b := e.fId.fThread) hat).cs c hc; omega)
      ·rfl
     rw [hc1, hc0]
     unfold wkT
     rw [lastS_run id t htl.2]
     by_cases hst : (runL id t.fchanges).2.fstate = 1 ∨ (runL id t.fchanges).2.fstate = 2
     ·rw [if_pos hst, if_pos ⟨hk.2, hk.1, hsk, hst⟩]
     ·rw [if_neg hst, if_neg (fun h => hst h.2.2.2)]
   ·rw [if_neg (fun h => hk ⟨h.2.1, h.1⟩), hcut1, hstT, if_neg hk, hcut0]
  rw [key]
  refine ok_bind (Q := fun v => v = ((runL id (if e.fEvent.fKind = 10 ∧ e.fEvent.fN = id ∧ skF id o i = false ∧ ((runL id (cutC id o i)).2.fstate = 1 ∨ (runL id (cutC id o i)).2.fstate = 2) then cutC id o i ++ [chg (tmE e) 0 (-1) (-1) e.fId.fThread] else cutC id o i)).1, id, (runL id (if e.fEvent.fKind = 10 ∧ e.fEvent.fN = id ∧ skF id o i = false ∧ ((runL id (cutC id o i)).2.fstate = 1 ∨ (runL id (cutC id o i)).2.fstate = 2) then cutC id o i ++ [chg (tmE e) 0 (-1) (-1) e.fId.fThread] else cutC id o i)).2.fstate, (runL id (if e.fEvent.fKind = 10 ∧ e.fEvent.fN = id ∧ skF id o i = false ∧ ((runL id (cutC id o i)).2.fstate = 1 ∨ (runL id (cutC id o i)).2.fstate = 2) then cutC id o i ++ [chg (tmE e) 0 (-1) (-1) e.fId.fThread] else cutC id o i)).2.fat, 0, (runL id (if e.fEvent.fKind = 10 ∧ e.fEvent.fN = id ∧ skF id o i = false ∧ ((runL id (cutC id o i)).2.fstate = 1 ∨ (runL id (cutC id o i)).2.fstate = 2) then cutC id o i ++ [chg (tmE e) 0 (-1) (-1) e.fId.fThread] else cutC id o i)).2.fcpu, (runL id (if e.fEvent.fKind = 10 ∧ e.fEvent.fN = id ∧ skF id o i = false ∧ ((runL id (cutC id o i)).2.fstate = 1 ∨ (runL id (cutC id o i)).2.fstate = 2) then cutC id o i ++ [chg (tmE e) 0 (-1) (-1) e.fId.fThread] else cutC id o i)).2.fon, -1, t.fnext, t.flast)) ?_ (fun v hv => by subst hv; exact ok_some rfl)
  refine ok_bind (Q := fun v => v = decide (e.fEvent.fKind = 10 ∧ e.fEvent.fN = id ∧ skF id o i = false ∧ ((runL id (cutC id o i)).2.fstate = 1 ∨ (runL id (cutC id o i)).2.fstate = 2))) ?_ (fun v hv => ?_)
  ·refine ok_ite (fun h1 => ?_) (fun h1 => ok_some (by simp [h1]))
   refine ok_ite (fun h2 => ?_) (fun h2 => ok_some (by simp [h2]))
   refine ok_not (fun h4 => ?_) (fun h4 => ok_some (by simp [h4]))
   exact ok_ite (fun h3 => ok_some (by simp [h1, h2, h3, h4])) (fun h3 => ok_some (by by_cases h5 : (runL id (cutC id o i)).2.fstate = 2 <;> simp [h1, h2, h3, h4, h5]))
  subst hv
  refine ok_bind (stage id (cutC id o i) (decide (e.fEvent.fKind = 10 ∧ e.fEvent.fN = id ∧ skF id o i = false ∧ ((runL id (cutC id o i)).2.fstate = 1 ∨ (runL id (cutC id o i)).2.fstate = 2))) (tmE e) 0 (-1) (-1) e.fId.fThread hcn (by omega)) (fun v hv => ?_)
  subst hv
  simp only [tup, decide_eq_true_eq, Bool.not_false, cond_true, Option.bind_some]
  exact ok_some rfl
theorem End_p (o : List api_Timed) (e0 : Int) (hl : o.length ≤ 1000000) : tracebookref27_End o e0 = some (endO o e0) := by
 have : Ok (tracebookref27_End o e0) (fun r => r = endO o e0) := by
  unfold tracebookref27_End
  refine ok_bind (Q := fun v => v = max 0 e0) (ok_ite (fun h => ok_some (by omega)) (fun h => ok_some (by omega))) (fun v hv => ?_)
  subst hv
  refine ok_bind (Q := fun r => r = max 0 (endN o e0 o.length)) (ok_up2N o.length (fun (a : Int) n => a = max 0 (endN o e0 n)) (by omega) rfl (fun a i hI h2 => ?_)) (fun r hr => ?_)
  ·unfold tracebookref27_End_L1
   dsimp only
   refine ok_ite (fun hi => ?_) (fun hi => ok_inr (by rw [hI, show i = o.length by omega]))
   obtain ⟨y, hiy, hy⟩ := ok_ixN (xs := o) (i := i) (by omega)
   simp only [hiy, Option.bind_some, Time_p]
   refine ok_bind (Q := fun v => v = max 0 (endN o e0 (i + 1))) ?_ (fun v hv => ok_inl ⟨by omega, w64_N (n := o.length) (by omega) (by omega), hv⟩)
   have hm := tmE_rng y
   have he : endN o e0 (i + 1) = max (endN o e0 i) (tmE y) := by simp only [endN, hy]
   rw [he]
   exact ok_ite (fun h => ok_some (by omega)) (fun h => ok_some (by omega))
  ·subst hr
   refine ok_bind (Q := fun v => v = endO o e0) ?_ (fun v hv => ok_some hv)
   unfold endO
   exact ok_ite (fun h => ok_some (by omega)) (fun h => ok_some (by omega))
 obtain ⟨r, h1, h2⟩ := this
 rw [h1, h2]
theorem cut0 (id : Int) (o : List api_Timed) : cutC id o 0 = [chg 0 5 (-1) (-1) (-1)] := by
 unfold cutC
 split <;> rfl
theorem cutEnd (id : Int) (o : List api_Timed) : cutC id o o.length = (trkN id o o.length).fchanges := by
 unfold cutC
 rw [mism_end]
 rfl
theorem statesR_p (id : Int) (o : List api_Timed) (E : Int) (ho : Ord27 o) (hl : o.length ≤ 1000) : tracebookref27_states_k2 id o E = some (stsT (trkN id o o.length) id E) := by
 have : Ok (tracebookref27_states_k2 id o E) (fun r => r = stsT (trkN id o o.length) id E) := by
  unfold tracebookref27_states_k2
  refine ok_bind (blank_p id o hl) (fun bl hbl => ?_)
  have htl := trkN_len id o o.length
  refine ok_bind (Q := fun r => r = tup id (trkN id o o.length).fchanges) ?_ (fun r hr => ?_)
  ·refine ok_loop (fun s : List api_State × Int × Int × Int × Int × Int × Int × Int × Int × Int × Int => ∃ i : Nat, i ≤ o.length ∧ s = ((tup id (cutC id o i)).1, (tup id (cutC id o i)).2.1, (tup id (cutC id o i)).2.2.1, (tup id (cutC id o i)).2.2.2.1, (tup id (cutC id o i)).2.2.2.2.1, (tup id (cutC id o i)).2.2.2.2.2.1, (tup id (cutC id o i)).2.2.2.2.2.2.1, (tup id (cutC id o i)).2.2.2.2.2.2.2, (trkN id o i).fnext, (trkN id o i).flast, (i : Int))) (fun s => o.length - s.2.2.2.2.2.2.2.2.2.2.toNat) (fun s H => ?_) ⟨0, by omega, by rw [cut0]; rfl⟩ (by unfold manyRounds; omega)
   obtain ⟨i, h1, rfl⟩ := H
   by_cases hi : i < o.length
   ·have hy : o[i]? = some o[i] := List.getElem?_eq_getElem hi
    obtain ⟨r, hr, rfl⟩ := step27 id o ho hl bl hbl.2 i o[i] hy
    exact ⟨_, hr, ⟨i + 1, by omega, rfl⟩, by simp only; omega⟩
   ·have e : i = o.length := by omega
    subst e
    unfold tracebookref27_states_k2_L1
    simp only
    refine ok_ite (fun h => by omega) (fun _ => ok_inr (by rw [cutEnd]))
  ·subst hr
   have hq := runL_len' id (trkN id o o.length).fchanges
   have ht := turn_p id (runL id (trkN id o o.length).fchanges).1 (runL id (trkN id o o.length).fchanges).2 (chg E 5 (-1) (-1) (-1)) (by omega)
   simp only [nowS, chg] at ht
   simp only [tup]
   rw [ht, Option.bind_some, sts_p _ _ _ (by omega) htl.2]
   exact ok_some rfl
 obtain ⟨r, h1, h2⟩ := this
 rw [h1, h2]
theorem first_p (ths : List api_Thread) (i : Nat) (y : api_Thread) (hy : ths[i]? = some y) (hl : ths.length ≤ 1000) : Ok (loop (tracebookref27_Of_L1 ths (i : Int)) (true, 0)) (fun r => r = true ↔ ¬ y.fId ∈ idsN ths i) := by
 have hlt := lt_of_get hy
 refine (ok_up2N i (fun (b : Bool) n => b = true ↔ ¬ ∃ (k : Nat) (z : api_Thread), k < n ∧ ths[k]? = some z ∧ z.fId = y.fId) (by omega) ⟨fun _ => by rintro ⟨k, z, h, _⟩; omega, fun _ => rfl⟩ (fun b j hI h2 => ?_)).mono (fun r hr => by rw [idsN_mem]; exact hr)
 unfold tracebookref27_Of_L1
 dsimp only
 refine ok_ite (fun hj => ?_) (fun hj => ok_inr (by rw [show i = j by omega]; exact hI))
 obtain ⟨x, hix, hx⟩ := ok_ixN (xs := ths) (i := j) (by omega)
 have hiy : idx ths (i : Int) = some y := by rw [idx_nat]; exact hy
 simp only [hix, hiy, Option.bind_some]
 refine ok_bind (Q := fun v => v = true ↔ ¬ ∃ (k : Nat) (z : api_Thread), k < j + 1 ∧ ths[k]? = some z ∧ z.fId = y.fId) ?_ (fun v hv => ok_inl ⟨by omega, w64_N (n := i) (by omega) (by omega), hv⟩)
 refine ok_ite (fun h => ok_some ⟨fun e => by simp at e, fun e => absurd ⟨j, x, by omega, hx, h⟩ e⟩) (fun h => ok_some ?_)
 rw [hI]
 constructor
 ·rintro e ⟨k, z, h3, h4, h5⟩
  by_cases e2 : k = j
  ·subst e2; rw [hx] at h4; cases h4; exact h h5
  ·exact e ⟨k, z, by omega, h4, h5⟩
 ·rintro e ⟨k, z, h3, h4, h5⟩
  exact e ⟨k, z, by omega, h4, h5⟩
theorem OfR_p (ths : List api_Thread) (o : List api_Timed) (e0 : Int) (ho : Ord27 o) (ht : ths.length ≤ 1000) (hl : o.length ≤ 1000) : tracebookref27_Of ths o e0 = some (ofL o (endO o e0) (idsN ths ths.length)) := by
 have : Ok (tracebookref27_Of ths o e0) (fun r => r = ofL o (endO o e0) (idsN ths ths.length)) := by
  unfold tracebookref27_Of
  refine ok_bind (ok_up2N ths.length (fun (a : List api_State) n => a = ofL o (endO o e0) (idsN ths n)) (by omega) (by simp [ofL, idsN]) (fun a i hI h2 => ?_)) (fun r hr => ok_some hr)
  unfold tracebookref27_Of_L2
  dsimp only
  subst hI
  refine ok_ite (fun hi => ?_) (fun hi => ok_inr (by rw [show i = ths.length by omega]))
  obtain ⟨y, hiy, hy⟩ := ok_ixN (xs := ths) (i := i) (by omega)
  refine ok_bind (Q := fun v => v = ofL o (endO o e0) (idsN ths (i + 1))) ?_ (fun v hv => ok_inl ⟨by omega, w64_N (n := ths.length) (by omega) (by omega), hv⟩)
  refine ok_bind (first_p ths i y hy ht) (fun b hb => ?_)
  have hs : idsN ths (i + 1) = if y.fId ∈ idsN ths i then idsN ths i else idsN ths i ++ [y.fId] := by simp only [idsN, hy]
  rw [hs]
  refine ok_cond (fun h => ?_) (fun h => ok_some ?_)
  ·rw [if_neg (hb.1 h)]
   simp only [hiy, Option.bind_some, End_p o e0 (by omega), statesR_p _ o _ ho hl]
   have hsl := stsN_len o (endO o e0) y.fId hl
   have hol := ofL_len o (endO o e0) hl (idsN ths i)
   have hil := idsN_len ths i
   have hmul := Nat.mul_le_mul_left 3001 (show (idsN ths i).length ≤ 1000 by omega)
   rw [room_ok (by omega) (by omega)]
   refine ok_some ?_
   unfold ofL
   rw [flatMap_snoc]
  ·have : y.fId ∈ idsN ths i := by
    refine Decidable.byContradiction (fun hc => ?_)
    rw [hb.2 hc] at h; simp at h
   rw [if_pos this]
 obtain ⟨r, h1, h2⟩ := this
 rw [h1, h2]
theorem stateOf_holds (ths : List api_Thread) (o : List api_Timed) (e0 : Int) : tracebooklaw27_StateOf ths o e0 = some true := by
 have : Ok (tracebooklaw27_StateOf ths o e0) (fun b => b = true) := by
  unfold tracebooklaw27_StateOf
  rw [awake27]
  obtain ⟨b, h1, h2⟩ := light_ok ths o
  rw [h1]
  simp only [Option.bind_some]
  cases b with
  | false => exact ok_some rfl
  | true =>
   obtain ⟨ht, hl, ho⟩ := h2 rfl
   have hle := ofL_len o (endO o e0) (by omega) (idsN ths ths.length)
   have hil := idsN_len ths ths.length
   have hmul := Nat.mul_le_mul_left 3001 (show (idsN ths ths.length).length ≤ 1000 by omega)
   rw [Of_p ths o e0 (by omega) (by omega), OfR_p ths o e0 ho (by omega) (by omega)]
   simp only [Option.bind_some]
   rw [Same27_refl _ (by omega)]
   exact ok_some rfl
 obtain ⟨r, h1, h2⟩ := this
 rw [h1, h2]
end Go.VM
