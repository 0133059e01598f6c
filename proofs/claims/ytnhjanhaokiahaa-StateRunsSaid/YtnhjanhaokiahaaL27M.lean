/- The law holds: plain mathematics on what the functions compute. -/
import Derived.Test.YtnhjanhaokiahaaL27B
namespace Go.VM
theorem lt_of_get {α : Type} {xs : List α} {i : Nat} {y : α} (h : xs[i]? = some y) : i < xs.length := (List.getElem?_eq_some_iff.1 h).1
end Go.VM
namespace Go.VM
def Ok {α : Type} (x : Option α) (P : α → Prop) : Prop := ∃ r, x = some r ∧ P r
def Yes {α : Type} : α → Prop := fun _ => True
def InlR {α β : Type} (A : α → Prop) (B : β → Prop) : α ⊕ β → Prop
 | .inl a => A a
 | .inr b => B b
theorem ok_some {α : Type} {P : α → Prop} {r : α} (h : P r) : Ok (some r) P := ⟨r, rfl, h⟩
theorem ok_inl {α β : Type} {A : α → Prop} {B : β → Prop} {a : α} (h : A a) : Ok (some (.inl a)) (InlR A B) := ⟨_, rfl, h⟩
theorem ok_inr {α β : Type} {A : α → Prop} {B : β → Prop} {b : β} (h : B b) : Ok (some (.inr b)) (InlR A B) := ⟨_, rfl, h⟩
theorem ok_bind {α β : Type} {x : Option α} {f : α → Option β} {Q : α → Prop} {P : β → Prop} (hx : Ok x Q) (hf : ∀ r, Q r → Ok (f r) P) : Ok (x.bind f) P := by
 obtain ⟨r, h1, h2⟩ := hx
 subst h1; exact hf r h2
theorem ok_bindS {α β γ : Type} {x : Option (α ⊕ γ)} {f : α ⊕ γ → Option β} {Q : α ⊕ γ → Prop} {P : β → Prop} (hx : Ok x Q) (hf : ∀ r, Q (.inl r) → Ok (f (.inl r)) P) (hg : ∀ r, Q (.inr r) → Ok (f (.inr r)) P) : Ok (x.bind f) P :=
 ok_bind hx (fun r => match r with | .inl a => hf a | .inr b => hg b)
theorem ok_cond {α : Type} {b : Bool} {x y : Option α} {P : α → Prop} (h1 : b = true → Ok x P) (h2 : b = false → Ok y P) : Ok (cond b x y) P := by
 cases b
 ·exact h2 rfl
 ·exact h1 rfl
theorem Ok.mono {α : Type} {x : Option α} {P Q : α → Prop} (h : Ok x P) (hq : ∀ r, P r → Q r) : Ok x Q := by
 obtain ⟨r, h1, h2⟩ := h; exact ⟨r, h1, hq r h2⟩
theorem ok_idx {α : Type} {xs : List α} {i : Int} (h1 : 0 ≤ i) (h2 : i < xs.length) : Ok (idx xs i) (fun y => xs[i.toNat]? = some y) := by
 obtain ⟨n, rfl⟩ := Int.eq_ofNat_of_zero_le h1
 have h3 : n < xs.length := by omega
 rw [idx_nat]
 exact ⟨xs[n], by simp [h3], by simp [h3]⟩
theorem ok_loop {S ρ : Type} {step : S → Option (S ⊕ ρ)} (Inv : S → Prop) (m : S → Nat) {Post : ρ → Prop}
  (h : ∀ s, Inv s → Ok (step s) (InlR (fun s' => Inv s' ∧ m s' < m s) Post)) {s : S} (hs : Inv s) (hm : m s < manyRounds) : Ok (loop step s) Post := by
 refine loop_inv Inv m Post (fun s hs => ?_) hs hm
 obtain ⟨r, h1, h2⟩ := h s hs
 cases r with
 | inl a => exact Or.inl ⟨a, h1, h2⟩
 | inr b => exact Or.inr ⟨b, h1, h2⟩
theorem ok_yes {α : Type} {r : α} : Ok (some r) Yes := ⟨r, rfl, trivial⟩
theorem ok_ite {α : Type} {p : Prop} [Decidable p] {x y : Option α} {P : α → Prop} (h1 : p → Ok x P) (h2 : ¬p → Ok y P) : Ok (cond (decide p) x y) P :=
 ok_cond (fun h => h1 (of_decide_eq_true h)) (fun h => h2 (of_decide_eq_false h))
theorem ok_nite {α : Type} {p : Prop} [Decidable p] {x y : Option α} {P : α → Prop} (h1 : ¬p → Ok x P) (h2 : p → Ok y P) : Ok (cond (!decide p) x y) P := by
 by_cases h : p
 ·simpa [h] using h2 h
 ·simpa [h] using h1 h
theorem ok_not {α : Type} {b : Bool} {x y : Option α} {P : α → Prop} (h1 : b = false → Ok x P) (h2 : b = true → Ok y P) : Ok (cond (!b) x y) P := by
 cases b
 ·exact h1 rfl
 ·exact h2 rfl
abbrev Tot {α : Type} (x : Option α) : Prop := Ok x Yes
theorem ok_up2 {σ ρ : Type} {step : σ × Int → Option ((σ × Int) ⊕ ρ)} (n : Nat) (Inv : σ → Int → Prop) {Post : ρ → Prop} (hn : n ≤ 9223372036854775807) {s0 : σ} (h0 : Inv s0 0)
  (h : ∀ (s : σ) (i : Int), Inv s i → 0 ≤ i → i ≤ n → Ok (step (s, i)) (InlR (fun a => i < n ∧ a.2 = i + 1 ∧ Inv a.1 (i + 1)) Post)) : Ok (loop step (s0, 0)) Post := by
 refine ok_loop (fun s : σ × Int => Inv s.1 s.2 ∧ 0 ≤ s.2 ∧ s.2 ≤ (n : Int)) (fun s : σ × Int => ((n : Int) - s.2).toNat) (fun s hi => (h s.1 s.2 hi.1 hi.2.1 hi.2.2).mono ?_) ⟨h0, by simp, by simp⟩ (by simp [manyRounds]; omega)
 rintro (⟨a, j⟩ | b) hr
 ·obtain ⟨h1, h2, h3⟩ : s.2 < n ∧ j = s.2 + 1 ∧ Inv a (s.2 + 1) := hr
  subst h2
  exact ⟨⟨h3, by simp; omega, by simp; omega⟩, by simp; omega⟩
 ·exact hr
theorem ok_upI {ρ : Type} {step : Int → Option (Int ⊕ ρ)} (n : Nat) (Inv : Int → Prop) {Post : ρ → Prop} (hn : n ≤ 9223372036854775807) (h0 : Inv 0)
  (h : ∀ i : Int, Inv i → 0 ≤ i → i ≤ n → Ok (step i) (InlR (fun a => i < n ∧ a = i + 1 ∧ Inv (i + 1)) Post)) : Ok (loop step 0) Post := by
 refine ok_loop (fun i : Int => Inv i ∧ 0 ≤ i ∧ i ≤ (n : Int)) (fun i : Int => ((n : Int) - i).toNat) (fun i hi => (h i hi.1 hi.2.1 hi.2.2).mono ?_) ⟨h0, by omega, by omega⟩ (by simp [manyRounds]; omega)
 rintro (a | b) hr
 ·obtain ⟨h1, rfl, h3⟩ : i < n ∧ a = i + 1 ∧ Inv (i + 1) := hr
  exact ⟨⟨h3, by omega, by omega⟩, by omega⟩
 ·exact hr
theorem room_ok {b n : Nat} (h1 : n * b ≤ 140737488355328) (h2 : n ≤ 9223372036854775807) : room b n = true := by
 simp only [room, Bool.and_eq_true]
 exact ⟨Nat.ble_eq_true_of_le h1, Nat.ble_eq_true_of_le h2⟩
theorem mget_mput {κ ν : Type} [DecidableEq κ] (k k' : κ) (v : ν) : ∀ (m : List (κ × ν)), mget k (mput k' v m) = if k = k' then some v else mget k m
 | [] => by simp [mput, mget]
 | p :: r => by
  simp only [mput]
  by_cases e : k' = p.1
  ·subst e
   simp only [if_true, mget]
   by_cases e2 : k = p.1 <;> simp [e2]
  ·rw [if_neg e]
   simp only [mget]
   rw [mget_mput k k' v r]
   by_cases e2 : k = p.1
   ·subst e2
    rw [if_pos rfl, if_pos rfl, if_neg (fun h => e h.symm)]
   ·rw [if_neg e2, if_neg e2]
theorem ok_up2N {σ ρ : Type} {step : σ × Int → Option ((σ × Int) ⊕ ρ)} (n : Nat) (Inv : σ → Nat → Prop) {Post : ρ → Prop} (hn : n ≤ 9223372036854775807) {s0 : σ} (h0 : Inv s0 0)
  (h : ∀ (s : σ) (i : Nat), Inv s i → i ≤ n → Ok (step (s, (i : Int))) (InlR (fun a => i < n ∧ a.2 = ((i + 1 : Nat) : Int) ∧ Inv a.1 (i + 1)) Post)) : Ok (loop step (s0, 0)) Post := by
 refine ok_up2 n (fun s i => Inv s i.toNat) hn h0 (fun s i hI h1 h2 => ?_)
 obtain ⟨k, rfl⟩ := Int.eq_ofNat_of_zero_le h1
 refine (h s k hI (by omega)).mono ?_
 rintro (⟨a, b⟩ | b) hr
 ·obtain ⟨h3, h4, h5⟩ : k < n ∧ b = ((k + 1 : Nat) : Int) ∧ Inv a (k + 1) := hr
  refine ⟨by omega, by omega, ?_⟩
  rw [show ((k : Int) + 1).toNat = k + 1 by omega]; exact h5
 ·exact hr
theorem ok_upN {ρ : Type} {step : Int → Option (Int ⊕ ρ)} (n : Nat) (Inv : Nat → Prop) {Post : ρ → Prop} (hn : n ≤ 9223372036854775807) (h0 : Inv 0)
  (h : ∀ i : Nat, Inv i → i ≤ n → Ok (step (i : Int)) (InlR (fun a => i < n ∧ a = ((i + 1 : Nat) : Int) ∧ Inv (i + 1)) Post)) : Ok (loop step 0) Post := by
 refine ok_upI n (fun i => Inv i.toNat) hn h0 (fun i hI h1 h2 => ?_)
 obtain ⟨k, rfl⟩ := Int.eq_ofNat_of_zero_le h1
 refine (h k hI (by omega)).mono ?_
 rintro (b | b) hr
 ·obtain ⟨h3, h4, h5⟩ : k < n ∧ b = ((k + 1 : Nat) : Int) ∧ Inv (k + 1) := hr
  refine ⟨by omega, by omega, ?_⟩
  rw [show ((k : Int) + 1).toNat = k + 1 by omega]; exact h5
 ·exact hr
theorem ok_ixN {α : Type} {xs : List α} {i : Nat} (h : i < xs.length) : Ok (idx xs (i : Int)) (fun y => xs[i]? = some y) := by
 rw [idx_nat]; exact ⟨xs[i], by simp [h], by simp [h]⟩
theorem w64_N {i n : Nat} (h : i < n) (hn : n ≤ 9223372036854775807) : w64 ((i : Int) + 1) = ((i + 1 : Nat) : Int) := by rw [w64_of (by omega)]; omega
theorem contains_p (l : List Int) (a : Int) (hl : l.length ≤ 9223372036854775807) : slices_Contains_int_int l a = some (decide (a ∈ l)) := by
 have : Ok (slices_Index_int_int l a) (fun r => 0 ≤ r ↔ a ∈ l) := by
  unfold slices_Index_int_int
  refine ok_bindS (Q := InlR (fun _ => a ∉ l) (fun r => 0 ≤ r ∧ a ∈ l)) (ok_upN l.length (fun n => ∀ (k : Nat) z, k < n → l[k]? = some z → z ≠ a) hl (by intro k z hk; omega) (fun i hI h2 => ?_)) (fun _ hq => ok_some ⟨fun h => by omega, fun h => absurd h hq⟩) (fun r hr => ok_some ⟨fun _ => hr.2, fun _ => hr.1⟩)
  unfold slices_Index_int_int_L1
  refine ok_ite (fun hi => ?_) (fun hi => ok_inr (fun hm => ?_))
  ·refine ok_bind (ok_ixN (by omega)) (fun y hy => ?_)
   refine ok_ite (fun e => ok_inr ⟨by omega, e ▸ List.mem_of_getElem? hy⟩) (fun e => ?_)
   rw [w64_N (n := l.length) (by omega) hl]
   refine ok_inl ⟨by omega, rfl, fun k z hk hz => ?_⟩
   by_cases e2 : k = i
   ·subst e2; rw [hy] at hz; cases hz; exact fun h => e h.symm
   ·exact hI k z (by omega) hz
  ·obtain ⟨k, hk⟩ := List.getElem?_of_mem hm
   exact hI k a (by have := lt_of_get hk; omega) hk rfl
 obtain ⟨r, h1, h2⟩ := this
 unfold slices_Contains_int_int
 rw [h1, Option.bind_some]
 congr 1
 exact decide_eq_decide.2 h2
def idsN (ths : List api_Thread) : Nat → List Int
 | 0 => []
 | n + 1 => match ths[n]? with
  | some y => if y.fId ∈ idsN ths n then idsN ths n else idsN ths n ++ [y.fId]
  | none => idsN ths n
theorem idsN_len (ths : List api_Thread) : ∀ n, (idsN ths n).length ≤ n
 | 0 => by simp [idsN]
 | n + 1 => by
  have := idsN_len ths n
  simp only [idsN]
  split
  ·split
   ·omega
   ·simp; omega
  ·omega
theorem idsN_nodup (ths : List api_Thread) : ∀ n, (idsN ths n).Nodup
 | 0 => by simp [idsN]
 | n + 1 => by
  have := idsN_nodup ths n
  simp only [idsN]
  split
  ·split
   ·exact this
   ·rename_i hn
    exact List.nodup_append.2 ⟨this, by simp, by intro a ha b hb; simp at hb; subst hb; exact fun e => hn (e ▸ ha)⟩
  ·exact this
theorem idsN_mem (ths : List api_Thread) (a : Int) : ∀ n, a ∈ idsN ths n ↔ ∃ (k : Nat) (y : api_Thread), k < n ∧ ths[k]? = some y ∧ y.fId = a
 | 0 => by simp [idsN]
 | n + 1 => by
  have ih := idsN_mem ths a n
  simp only [idsN]
  cases hy : ths[n]? with
  | none =>
   simp only
   rw [ih]
   constructor
   ·rintro ⟨k, y, h1, h2, h3⟩; exact ⟨k, y, by omega, h2, h3⟩
   ·rintro ⟨k, y, h1, h2, h3⟩
    by_cases e : k = n
    ·subst e; rw [hy] at h2; simp at h2
    ·exact ⟨k, y, by omega, h2, h3⟩
  | some y =>
   simp only
   have key : a ∈ idsN ths n ∨ y.fId = a ↔ ∃ (k : Nat) (z : api_Thread), k < n + 1 ∧ ths[k]? = some z ∧ z.fId = a := by
    constructor
    ·rintro (h | h)
     ·obtain ⟨k, z, h1, h2, h3⟩ := ih.1 h; exact ⟨k, z, by omega, h2, h3⟩
     ·exact ⟨n, y, by omega, hy, h⟩
    ·rintro ⟨k, z, h1, h2, h3⟩
     by_cases e : k = n
     ·subst e; rw [hy] at h2; cases h2; exact .inr h3
     ·exact .inl (ih.2 ⟨k, z, by omega, h2, h3⟩)
   rw [← key]
   split
   ·rename_i hin
    exact ⟨.inl, fun h => h.elim id (fun e => e ▸ hin)⟩
   ·simp only [List.mem_append, List.mem_singleton]
    exact ⟨fun h => h.imp id Eq.symm, fun h => h.imp id Eq.symm⟩
theorem ids_p (ths : List api_Thread) (hl : ths.length ≤ 1000000) : state_distinct ths = some (idsN ths ths.length) := by
 have : Ok (state_distinct ths) (fun r => r = idsN ths ths.length) := by
  unfold state_distinct
  refine ok_bind (ok_up2N ths.length (fun a n => a = idsN ths n) (by omega) rfl (fun a i hI h2 => ?_)) (fun r hr => ok_some hr)
  unfold state_distinct_L1
  dsimp only
  subst hI
  have hlen := idsN_len ths i
  refine ok_ite (fun hi => ?_) (fun hi => ok_inr (by rw [show i = ths.length by omega]))
  obtain ⟨y, hiy, hy⟩ := ok_ixN (xs := ths) (i := i) (by omega)
  rw [hiy, Option.bind_some, contains_p _ _ (by omega), Option.bind_some]
  refine ok_bind (Q := fun r => r = idsN ths (i + 1)) ?_ (fun r hr => ok_inl ⟨by omega, w64_N (n := ths.length) (by omega) (by omega), hr⟩)
  simp only [idsN, hy]
  by_cases hm : y.fId ∈ idsN ths i
  ·simp only [hm, decide_true, Bool.not_true, cond_false, if_true]; exact ok_some rfl
  ·simp only [hm, decide_false, Bool.not_false, cond_true, if_false]
   rw [room_ok (by simp; omega) (by simp; omega)]
   exact ok_some rfl
 obtain ⟨r, h1, h2⟩ := this
 rw [h1, h2]
def tmE (e : api_Timed) : Int := max 0 (min e.fWhen.fLo 1000000000000)
theorem tmE_rng (e : api_Timed) : 0 ≤ tmE e ∧ tmE e ≤ 1000000000000 := by unfold tmE; omega
theorem time_p (e : api_Timed) : state_time e = some (tmE e) := rfl
def popR (last : Int) : List state_change → List state_change
 | c :: d :: r => if last < c.fat then popR last (d :: r) else c :: d :: r
 | r => r
theorem popR_len (last : Int) : ∀ r, (popR last r).length ≤ r.length ∧ (r ≠ [] → popR last r ≠ [])
 | [] => by simp [popR]
 | [c] => by simp [popR]
 | c :: d :: r => by
  simp only [popR]
  have := popR_len last (d :: r)
  split
  ·exact ⟨by have := this.1; simp at this ⊢; omega, fun _ => this.2 (by simp)⟩
  ·exact ⟨Nat.le_refl _, fun h => h⟩
def chg (at' st cpu on by' : Int) : state_change := { fat := at', fstate := st, fcpu := cpu, fon := on, fby := by' }
def gapC (t : state_track) : List state_change := (popR t.flast t.fchanges.reverse).reverse ++ [chg t.flast 5 (-1) (-1) (-1)]
theorem becomes_p (t : state_track) (a b c d e : Int) (h : t.fchanges.length ≤ 1000000) : state_track_becomes_k1 t a b c d e = some { fchanges := t.fchanges ++ [chg a b c d e], fnext := t.fnext, flast := t.flast } := by
 unfold state_track_becomes_k1
 rw [room_ok (by simp; omega) (by simp; omega)]
 rfl
theorem now_p (t : state_track) (l : List state_change) (c : state_change) (h : t.fchanges = l ++ [c]) (hl : l.length ≤ 1000000) : state_track_now_k1 t = some c := by
 unfold state_track_now_k1
 rw [h, w64_of (by simp; omega)]
 have : ((((l ++ [c]).length : Nat) : Int) - 1) = ((l.length : Nat) : Int) := by simp
 rw [this, idx_nat]
 simp
theorem gap_p (t : state_track) (hl : t.fchanges.length ≤ 100000) : state_track_gap_k1 t = some { fchanges := gapC t, fnext := t.fnext, flast := t.flast } := by
 have key : Ok (loop (state_track_gap_k1_L1 t) t.fchanges) (fun r => r = (popR t.flast t.fchanges.reverse).reverse) := by
  refine ok_loop (fun s : List state_change => popR t.flast s.reverse = popR t.flast t.fchanges.reverse ∧ s.length ≤ 100000) (fun s => s.length) (fun s H => ?_) ⟨rfl, hl⟩ (by simp [manyRounds]; omega)
  obtain ⟨h1, h2⟩ := H
  unfold state_track_gap_k1_L1
  rcases List.eq_nil_or_concat s with hs | ⟨q, c, hs⟩
  ·subst hs
   have : ¬ ((1 : Int) < (([] : List state_change).length : Int)) := by simp
   simp only [this, decide_false, cond_false, Option.bind_some]
   refine ok_inr ?_
   rw [← h1]; rfl
  ·rw [List.concat_eq_append] at hs
   subst hs
   simp only [List.length_append, List.length_singleton] at h2
   rcases List.eq_nil_or_concat q with hq | ⟨p, d, hq⟩
   ·subst hq
    have : ¬ ((1 : Int) < (([] ++ [c] : List state_change).length : Int)) := by simp
    simp only [this, decide_false, cond_false, Option.bind_some]
    refine ok_inr ?_
    rw [← h1]; rfl
   ·rw [List.concat_eq_append] at hq
    subst hq
    simp only [List.length_append, List.length_singleton] at h2
    have hlt : (1 : Int) < ((p ++ [d] ++ [c] : List state_change).length : Int) := by simp; omega
    simp only [hlt, decide_true, cond_true]
    rw [now_p _ (p ++ [d]) c rfl (by simp; omega)]
    simp only [Option.bind_some]
    have hrev : (p ++ [d] ++ [c]).reverse = c :: d :: p.reverse := by simp
    rw [hrev] at h1
    simp only [popR] at h1
    refine ok_ite (fun e => ?_) (fun e => ok_inr ?_)
    ·rw [if_pos e] at h1
     have hlen : w64 (((p ++ [d] ++ [c] : List state_change).length : Int) - 1) = ((p ++ [d]).length : Int) := by
      rw [w64_of (by simp; omega)]; simp; omega
     rw [hlen]
     have hsl : slcPart (p ++ [d] ++ [c]) 0 ((p ++ [d]).length : Int) = some (p ++ [d]) := by
      unfold slcPart
      rw [if_pos ⟨by omega, by omega, by simp⟩]
      show some (List.drop 0 (List.take (p ++ [d]).length (p ++ [d] ++ [c]))) = _
      rw [List.take_left]; rfl
     rw [hsl, Option.bind_some]
     refine ok_inl ⟨⟨?_, by simp; omega⟩, by simp⟩
     rw [show (p ++ [d]).reverse = d :: p.reverse by simp]; exact h1
    ·rw [if_neg e] at h1
     rw [← h1]; simp
 obtain ⟨r, h1, h2⟩ := key
 unfold state_track_gap_k1
 rw [h1, Option.bind_some, h2]
 have hp := (popR_len t.flast t.fchanges.reverse).1
 rw [becomes_p _ _ _ _ _ _ (by simp at hp ⊢; omega)]
 rfl
def evT (t : state_track) (e : api_Timed) : state_track :=
 let cs := if e.fId.fSerial = t.fnext then t.fchanges else gapC t
 { fchanges := if e.fEvent.fKind = 8 then cs ++ [chg (tmE e) 4 e.fEvent.fN (-1) (-1)] else if e.fEvent.fKind = 9 then cs ++ [chg (tmE e) e.fEvent.fN (-1) (if e.fEvent.fN = 2 then e.fEvent.fM else -1) (-1)] else cs, fnext := w64 (e.fId.fSerial + 1), flast := tmE e }
theorem gapC_len (t : state_track) : (gapC t).length ≤ t.fchanges.length + 1 ∧ gapC t ≠ [] := by
 have hp := (popR_len t.flast t.fchanges.reverse).1
 unfold gapC
 exact ⟨by simp at hp ⊢; omega, by simp⟩
theorem event_p (t : state_track) (e : api_Timed) (hl : t.fchanges.length ≤ 100000) : state_track_event_k1 t e = some (evT t e) := by
 have hg := gapC_len t
 have key : Ok (state_track_event_k1 t e) (fun r => r = evT t e) := by
  unfold state_track_event_k1
  rw [time_p, Option.bind_some]
  refine ok_bind (Q := fun v => v.1 = (if e.fId.fSerial = t.fnext then t.fchanges else gapC t)) ?_ (fun v hv => ?_)
  ·refine ok_nite (fun h => ?_) (fun h => ok_some ?_)
   ·rw [gap_p t hl, Option.bind_some]
    exact ok_some (by rw [if_neg h])
   ·rw [if_pos h]
  ·obtain ⟨v1, v2, v3⟩ := v
   simp only at hv ⊢
   have hvl : v1.length ≤ 100001 := by rw [hv]; split <;> omega
   unfold evT
   simp only [← hv]
   refine ok_ite (fun h => ?_) (fun h => ?_)
   ·rw [becomes_p _ _ _ _ _ _ (by simp; omega), Option.bind_some]
    exact ok_some (by rw [if_pos h])
   ·refine ok_ite (fun h2 => ?_) (fun h2 => ok_some (by rw [if_neg h, if_neg h2]))
    refine ok_bind (Q := fun v => v = (if e.fEvent.fN = 2 then e.fEvent.fM else -1)) ?_ (fun v hv2 => ?_)
    ·refine ok_ite (fun h3 => ok_some (by rw [if_pos h3])) (fun h3 => ok_some (by rw [if_neg h3]))
    ·rw [becomes_p _ _ _ _ _ _ (by simp; omega), Option.bind_some]
     exact ok_some (by rw [if_neg h, if_pos h2, hv2])
 obtain ⟨r, h1, h2⟩ := key
 rw [h1, h2]
def lastS (t : state_track) : Int := match t.fchanges.getLast? with
 | some c => c.fstate
 | none => 0
def wkT (t : state_track) (a b : Int) : state_track := if lastS t = 1 ∨ lastS t = 2 then { fchanges := t.fchanges ++ [chg a 0 (-1) (-1) b], fnext := t.fnext, flast := t.flast } else t
theorem wake_p (t : state_track) (a b : Int) (hl : t.fchanges.length ≤ 100000) (hn : t.fchanges ≠ []) : state_track_wake_k1 t a b = some (wkT t a b) := by
 rcases List.eq_nil_or_concat t.fchanges with h | ⟨q, c, h⟩
 ·exact absurd h hn
 ·rw [List.concat_eq_append] at h
  have hql : q.length ≤ 100000 := by rw [h] at hl; simp at hl; omega
  have hls : lastS t = c.fstate := by unfold lastS; rw [h]; simp
  have key : Ok (state_track_wake_k1 t a b) (fun r => r = wkT t a b) := by
   unfold state_track_wake_k1
   rw [now_p t q c h (by omega), Option.bind_some]
   unfold wkT
   rw [hls]
   refine ok_bind (Q := fun v => v = decide (c.fstate = 1 ∨ c.fstate = 2)) ?_ (fun v hv => ?_)
   ·refine ok_ite (fun e => ok_some (by simp [e])) (fun e => ok_some (by simp [e]))
   ·subst hv
    refine ok_ite (fun e => ?_) (fun e => ok_some (by rw [if_neg e]))
    rw [becomes_p _ _ _ _ _ _ (by omega), Option.bind_some]
    exact ok_some (by rw [if_pos e])
  obtain ⟨r, h1, h2⟩ := key
  rw [h1, h2]
def stT (id : Int) (t : state_track) (e : api_Timed) : state_track :=
 let t1 := if e.fId.fThread = id then evT t e else t
 if e.fEvent.fN = id ∧ e.fEvent.fKind = 10 then wkT t1 (tmE e) e.fId.fThread else t1
def trk0 : state_track := { fchanges := [chg 0 5 (-1) (-1) (-1)], fnext := 0, flast := 0 }
def trkN (id : Int) (o : List api_Timed) : Nat → state_track
 | 0 => trk0
 | n + 1 => match o[n]? with
  | some e => stT id (trkN id o n) e
  | none => trkN id o n
theorem evT_len (t : state_track) (e : api_Timed) (hn : t.fchanges ≠ []) : (evT t e).fchanges.length ≤ t.fchanges.length + 2 ∧ (evT t e).fchanges ≠ [] := by
 have hg := gapC_len t
 have hc : (if e.fId.fSerial = t.fnext then t.fchanges else gapC t).length ≤ t.fchanges.length + 1 ∧ (if e.fId.fSerial = t.fnext then t.fchanges else gapC t) ≠ [] := by
  split
  ·exact ⟨by omega, hn⟩
  ·exact hg
 unfold evT
 simp only
 generalize (if e.fId.fSerial = t.fnext then t.fchanges else gapC t) = cs at *
 split
 ·exact ⟨by simp; omega, by simp⟩
 ·split
  ·exact ⟨by simp; omega, by simp⟩
  ·exact ⟨by omega, hc.2⟩
theorem wkT_len (t : state_track) (a b : Int) (hn : t.fchanges ≠ []) : (wkT t a b).fchanges.length ≤ t.fchanges.length + 1 ∧ (wkT t a b).fchanges ≠ [] := by
 unfold wkT
 split
 ·exact ⟨by simp, by simp⟩
 ·exact ⟨by omega, hn⟩
theorem trkN_len (id : Int) (o : List api_Timed) : ∀ n, (trkN id o n).fchanges.length ≤ 1 + 3 * n ∧ (trkN id o n).fchanges ≠ []
 | 0 => by simp [trkN, trk0]
 | n + 1 => by
  obtain ⟨h1, h2⟩ := trkN_len id o n
  simp only [trkN]
  split
  ·rename_i e _
   unfold stT
   simp only
   have h3 : (if e.fId.fThread = id then evT (trkN id o n) e else trkN id o n).fchanges.length ≤ 3 + 3 * n ∧ (if e.fId.fThread = id then evT (trkN id o n) e else trkN id o n).fchanges ≠ [] := by
    split
    ·have := evT_len (trkN id o n) e h2; exact ⟨by omega, this.2⟩
    ·exact ⟨by omega, h2⟩
   split
   ·have := wkT_len _ (tmE e) e.fId.fThread h3.2; exact ⟨by omega, this.2⟩
   ·exact ⟨by omega, h3.2⟩
  ·exact ⟨by omega, h2⟩
def endN (o : List api_Timed) (e0 : Int) : Nat → Int
 | 0 => e0
 | n + 1 => match o[n]? with
  | some e => max (endN o e0 n) (tmE e)
  | none => endN o e0 n
def Mp (ids : List Int) (f : Int → state_track) (m : List (Int × state_track)) : Prop := ∀ k, mget k m = if k ∈ ids then some (f k) else none
theorem Mp.put {ids : List Int} {f : Int → state_track} {m : List (Int × state_track)} (h : Mp ids f m) {a : Int} (ha : a ∈ ids) (x : state_track) : Mp ids (fun k => if k = a then x else f k) (mput a x m) := by
 intro k
 rw [mget_mput, h k]
 by_cases e : k = a
 ·subst e; simp [ha]
 ·simp [e]
theorem Mp.look {ids : List Int} {f : Int → state_track} {m : List (Int × state_track)} (h : Mp ids f m) (a : Int) : lookS a m = some (if a ∈ ids then .inr (f a) else .inl ()) := by
 unfold lookS
 rw [h a]
 by_cases e : a ∈ ids <;> simp [e]
theorem Of_L2_step (o : List api_Timed) (ids : List Int) (f : Int → state_track) (hf : ∀ k, (f k).fchanges.length ≤ 10000 ∧ (f k).fchanges ≠ []) (m : List (Int × state_track)) (hm : Mp ids f m) (e0 : Int) (i : Nat) (y : api_Timed) (hy : o[i]? = some y) (hi : i < o.length) (hl : o.length ≤ 1000000) :
  Ok (state_Of_L2 o (e0, m, (i : Int))) (fun r => ∃ m', r = .inl (max e0 (tmE y), m', ((i + 1 : Nat) : Int)) ∧ Mp ids (fun k => stT k (f k) y) m') := by
 unfold state_Of_L2
 dsimp only
 refine ok_ite (fun _ => ?_) (fun h => absurd (by omega) h)
 rw [show idx o (i : Int) = some y by rw [idx_nat]; exact hy, Option.bind_some, time_p, Option.bind_some, hm.look]
 have fin : ∀ v : Int × List (Int × state_track), v.1 = max e0 (tmE y) → Mp ids (fun k => stT k (f k) y) v.2 → Ok ((some v : Option (Int × List (Int × state_track))).bind fun (v121, v122) => some (.inl (v121, v122, (w64 ((i : Int) + 1))))) (fun r => ∃ m', r = (.inl (max e0 (tmE y), m', ((i + 1 : Nat) : Int)) : (Int × List (Int × state_track) × Int) ⊕ (Int × List (Int × state_track))) ∧ Mp ids (fun k => stT k (f k) y) m') := by
  intro v h1 h2
  obtain ⟨a, b⟩ := v
  simp only at h1 h2
  subst h1
  exact ok_some ⟨b, by rw [w64_N (n := o.length) hi (by omega)], h2⟩
 by_cases ha : y.fId.fThread ∈ ids
 ·rw [if_pos ha, Option.bind_some]
  simp only
  rw [event_p _ _ (by have := (hf y.fId.fThread).1; omega), Option.bind_some]
  have hm1 := hm.put ha (evT (f y.fId.fThread) y)
  rw [hm1.look]
  by_cases hb : y.fEvent.fN ∈ ids
  ·rw [if_pos hb, Option.bind_some]
   simp only
   by_cases hk : y.fEvent.fKind = 10
   ·simp only [hk, decide_true, cond_true, Option.bind_some]
    have hlen : (if y.fEvent.fN = y.fId.fThread then evT (f y.fId.fThread) y else f y.fEvent.fN).fchanges.length ≤ 100000 ∧ (if y.fEvent.fN = y.fId.fThread then evT (f y.fId.fThread) y else f y.fEvent.fN).fchanges ≠ [] := by
     split
     ·have h3 := hf y.fId.fThread
      have h4 := evT_len (f y.fId.fThread) y h3.2
      exact ⟨by omega, h4.2⟩
     ·have h3 := hf y.fEvent.fN; exact ⟨by omega, h3.2⟩
    rw [wake_p _ _ _ hlen.1 hlen.2]
    simp only [Option.bind_some]
    refine fin (_, _) rfl ?_
    intro k
    rw [hm1.put hb _ k]
    congr 2
    simp only [stT]
    by_cases e1 : k = y.fEvent.fN
    ·subst e1
     by_cases e2 : y.fEvent.fN = y.fId.fThread
     ·simp [e2, hk]
     ·have e3 : ¬ y.fId.fThread = y.fEvent.fN := fun h => e2 h.symm
      simp [e2, e3, hk]
    ·have e3 : ¬ y.fEvent.fN = k := fun h => e1 h.symm
     by_cases e2 : k = y.fId.fThread
     ·subst e2; simp [e1, e3]
     ·have e4 : ¬ y.fId.fThread = k := fun h => e2 h.symm
      simp [e1, e2, e3, e4]
   ·simp only [hk, decide_false, cond_false]
    refine fin (_, _) rfl ?_
    intro k
    rw [hm1 k]
    congr 2
    simp only [stT, hk, and_false, if_false]
    by_cases e2 : k = y.fId.fThread
    ·subst e2; simp
    ·have e4 : ¬ y.fId.fThread = k := fun h => e2 h.symm
     simp [e2, e4]
  ·rw [if_neg hb, Option.bind_some]
   simp only
   refine fin (_, _) rfl ?_
   intro k
   rw [hm1 k]
   by_cases hkk : k ∈ ids
   ·rw [if_pos hkk, if_pos hkk]
    congr 1
    have e3 : ¬ y.fEvent.fN = k := fun h => hb (h ▸ hkk)
    simp only [stT, e3, false_and, if_false]
    by_cases e2 : k = y.fId.fThread
    ·subst e2; simp
    ·have e4 : ¬ y.fId.fThread = k := fun h => e2 h.symm
     simp [e2, e4]
   ·rw [if_neg hkk, if_neg hkk]
 ·rw [if_neg ha, Option.bind_some]
  simp only
  rw [hm.look]
  by_cases hb : y.fEvent.fN ∈ ids
  ·rw [if_pos hb, Option.bind_some]
   simp only
   by_cases hk : y.fEvent.fKind = 10
   ·simp only [hk, decide_true, cond_true, Option.bind_some]
    have h3 := hf y.fEvent.fN
    rw [wake_p _ _ _ (by omega) h3.2]
    simp only [Option.bind_some]
    refine fin (_, _) rfl ?_
    intro k
    rw [hm.put hb _ k]
    by_cases hkk : k ∈ ids
    ·rw [if_pos hkk, if_pos hkk]
     congr 1
     have e4 : ¬ y.fId.fThread = k := fun h => ha (h ▸ hkk)
     simp only [stT, e4, if_false, hk, and_true]
     by_cases e1 : k = y.fEvent.fN
     ·subst e1; simp
     ·have e3 : ¬ y.fEvent.fN = k := fun h => e1 h.symm
      simp [e1, e3]
    ·rw [if_neg hkk, if_neg hkk]
   ·simp only [hk, decide_false, cond_false]
    refine fin (_, _) rfl ?_
    intro k
    rw [hm k]
    by_cases hkk : k ∈ ids
    ·rw [if_pos hkk, if_pos hkk]
     congr 1
     have e4 : ¬ y.fId.fThread = k := fun h => ha (h ▸ hkk)
     simp [stT, e4, hk]
    ·rw [if_neg hkk, if_neg hkk]
  ·rw [if_neg hb, Option.bind_some]
   simp only
   refine fin (_, _) rfl ?_
   intro k
   rw [hm k]
   by_cases hkk : k ∈ ids
   ·rw [if_pos hkk, if_pos hkk]
    congr 1
    have e4 : ¬ y.fId.fThread = k := fun h => ha (h ▸ hkk)
    have e3 : ¬ y.fEvent.fN = k := fun h => hb (h ▸ hkk)
    simp [stT, e4, e3]
   ·rw [if_neg hkk, if_neg hkk]
theorem same27_ok (a b : api_State) : Tot (state_same a b) := by
 unfold state_same
 refine ok_bind (Q := Yes) ?_ (fun _ _ => ok_yes)
 refine ok_ite (fun _ => ?_) (fun _ => ok_yes)
 exact ok_ite (fun _ => ok_yes) (fun _ => ok_yes)
theorem states_ok (t : state_track) (id e : Int) (hl : t.fchanges.length ≤ 100000) : Ok (state_track_states_k1 t id e) (fun r => r.length ≤ t.fchanges.length) := by
 unfold state_track_states_k1
 refine ok_bind (ok_up2N t.fchanges.length (fun (a : List api_State) n => a.length ≤ n) (by omega) (by simp) (fun a i hI h2 => ?_)) (fun r hr => ok_some hr)
 unfold state_track_states_k1_L1
 dsimp only
 refine ok_ite (fun hi => ?_) (fun hi => ok_inr (by omega))
 obtain ⟨y, hiy, hy⟩ := ok_ixN (xs := t.fchanges) (i := i) (by omega)
 rw [hiy, Option.bind_some]
 refine ok_bind (Q := fun v => v.length ≤ i + 1) ?_ (fun v hv => ok_inl ⟨by omega, w64_N (n := t.fchanges.length) (by omega) (by omega), hv⟩)
 rw [w64_N (n := t.fchanges.length) (by omega) (by omega)]
 refine ok_bind (Q := Yes) ?_ (fun v _ => ?_)
 ·refine ok_ite (fun h => ?_) (fun _ => ok_yes)
  obtain ⟨z, hz, _⟩ := ok_ixN (xs := t.fchanges) (i := i + 1) (by omega)
  rw [hz, Option.bind_some, Option.bind_some]
  exact ok_yes
 obtain ⟨v57, v58⟩ := v
 simp only
 refine ok_ite (fun _ => ok_some (by omega)) (fun _ => ?_)
 have hw : w64 ((a.length : Int) - 1) = (a.length : Int) - 1 := w64_of (by omega)
 rw [hw]
 refine ok_bind (Q := fun v => v = true → 0 < a.length) ?_ (fun v hv => ?_)
 ·refine ok_ite (fun h => ?_) (fun _ => ok_some (by simp))
  obtain ⟨z, hz, _⟩ := ok_idx (xs := a) (i := (a.length : Int) - 1) h (by omega)
  rw [hz, Option.bind_some]
  refine ok_bind (same27_ok _ _) (fun b _ => ok_some (fun _ => by omega))
 cases v with
 | true =>
  have hpos := hv rfl
  obtain ⟨z, hz, _⟩ := ok_idx (xs := a) (i := (a.length : Int) - 1) (by omega) (by omega)
  simp only [cond_true]
  rw [hz, Option.bind_some]
  refine ok_bind (Q := Yes) ?_ (fun w _ => ok_some (by simp; omega))
  obtain ⟨z', hz', _⟩ := ok_idx (xs := a.set ((a.length : Int) - 1).toNat { fThread := z.fThread, fState := z.fState, fSpan := { fFrom := z.fSpan.fFrom, fTo := v57 }, fCpu := z.fCpu, fOn := z.fOn, fBy := z.fBy }) (i := (a.length : Int) - 1) (by omega) (by simp; omega)
  rw [hz']
  exact ok_yes
 | false =>
  simp only [cond_false]
  rw [room_ok (by simp; omega) (by simp; omega)]
  exact ok_some (by simp; omega)
def stsT (t : state_track) (id e : Int) : List api_State := (state_track_states_k1 t id e).getD []
theorem states_p (t : state_track) (id e : Int) (hl : t.fchanges.length ≤ 100000) : state_track_states_k1 t id e = some (stsT t id e) ∧ (stsT t id e).length ≤ t.fchanges.length := by
 obtain ⟨r, h1, h2⟩ := states_ok t id e hl
 unfold stsT
 rw [h1]
 exact ⟨rfl, h2⟩
theorem Of_L2_p (o : List api_Timed) (ids : List Int) (hl : o.length ≤ 1000) (e0 : Int) (m : List (Int × state_track)) (hm : Mp ids (fun _ => trk0) m) :
  Ok (loop (state_Of_L2 o) (e0, m, 0)) (fun r => r.1 = endN o e0 o.length ∧ Mp ids (fun k => trkN k o o.length) r.2) := by
 refine ok_loop (fun s : Int × List (Int × state_track) × Int => ∃ i : Nat, i ≤ o.length ∧ s.2.2 = (i : Int) ∧ s.1 = endN o e0 i ∧ Mp ids (fun k => trkN k o i) s.2.1) (fun s => o.length - s.2.2.toNat) (fun s H => ?_) ⟨0, by omega, rfl, rfl, hm⟩ (by simp [manyRounds]; omega)
 obtain ⟨e, m, j⟩ := s
 obtain ⟨i, h1, h2, h3, h4⟩ := H
 simp only at h2 h3 h4
 subst h2 h3
 by_cases hi : i < o.length
 ·have hy : o[i]? = some o[i] := List.getElem?_eq_getElem hi
  obtain ⟨r, hr, m', rfl, hm'⟩ := Of_L2_step o ids (fun k => trkN k o i) (fun k => by have := trkN_len k o i; exact ⟨by omega, this.2⟩) m h4 (endN o e0 i) i o[i] hy hi (by omega)
  refine ⟨_, hr, ⟨i + 1, by omega, rfl, ?_, ?_⟩, ?_⟩
  ·simp only [endN, hy]
  ·intro k
   rw [hm' k]
   simp only [trkN, hy]
  ·simp only; omega
 ·have e : i = o.length := by omega
  subst e
  unfold state_Of_L2
  dsimp only
  refine ok_ite (fun h => by omega) (fun _ => ok_inr ⟨rfl, h4⟩)
theorem Of_L3_p (ids : List Int) (hnd : ids.Nodup) (hl : ids.length ≤ 1000) : Ok (loop (state_Of_L3 ids) ([], 0)) (fun r => Mp ids (fun _ => trk0) r) := by
 refine ok_up2N ids.length (fun (m : List (Int × state_track)) n => Mp (ids.take n) (fun _ => trk0) m) (by omega) (by intro k; simp [mget]) (fun m i hI h2 => ?_)
 unfold state_Of_L3
 dsimp only
 refine ok_ite (fun hi => ?_) (fun hi => ok_inr (by rw [show i = ids.length by omega, List.take_length] at hI; exact hI))
 obtain ⟨y, hiy, hy⟩ := ok_ixN (xs := ids) (i := i) (by omega)
 rw [hiy, Option.bind_some, becomes_p _ _ _ _ _ _ (by simp), Option.bind_some]
 refine ok_inl ⟨by omega, w64_N (n := ids.length) (by omega) (by omega), fun k => ?_⟩
 have hlt := lt_of_get hy
 have hy' : ids[i] = y := by have := List.getElem?_eq_getElem hlt; rw [hy] at this; exact (Option.some.inj this).symm
 rw [mget_mput, hI k, List.take_succ_eq_append_getElem hlt, hy']
 by_cases e : k = y
 ·subst e; simp [trk0]
 ·simp [e]
def endO (o : List api_Timed) (e0 : Int) : Int := max 0 (min (endN o e0 o.length) 1000000000000)
def ofL (o : List api_Timed) (e : Int) (ids : List Int) : List api_State := ids.flatMap fun id => stsT (trkN id o o.length) id e
theorem flatMap_snoc {α β : Type} (f : α → List β) (l : List α) (x : α) : (l ++ [x]).flatMap f = l.flatMap f ++ f x := by simp
theorem stsN_len (o : List api_Timed) (e id : Int) (hl : o.length ≤ 1000) : (stsT (trkN id o o.length) id e).length ≤ 3001 := by
 have h1 := trkN_len id o o.length
 have h2 := (states_p (trkN id o o.length) id e (by omega)).2
 omega
theorem ofL_len (o : List api_Timed) (e : Int) (hl : o.length ≤ 1000) : ∀ ids : List Int, (ofL o e ids).length ≤ 3001 * ids.length
 | [] => by simp [ofL]
 | id :: ids => by
  have h1 := stsN_len o e id hl
  have h2 := ofL_len o e hl ids
  unfold ofL at h2 ⊢
  simp only [List.flatMap_cons, List.length_append, List.length_cons]
  omega
theorem Of_p (ths : List api_Thread) (o : List api_Timed) (e0 : Int) (ht : ths.length ≤ 1000) (hl : o.length ≤ 1000) : state_Of ths o e0 = some (ofL o (endO o e0) (idsN ths ths.length)) := by
 have : Ok (state_Of ths o e0) (fun r => r = ofL o (endO o e0) (idsN ths ths.length)) := by
  unfold state_Of
  rw [ids_p ths (by omega), Option.bind_some]
  have hn := idsN_nodup ths ths.length
  have hil := idsN_len ths ths.length
  generalize idsN ths ths.length = ids at *
  refine ok_bind (Of_L3_p ids hn (by omega)) (fun m hm => ?_)
  refine ok_bind (Of_L2_p o ids hl e0 m hm) (fun r hr => ?_)
  obtain ⟨e, m'⟩ := r
  obtain ⟨h1, h2⟩ := hr
  simp only at h1 h2 ⊢
  subst h1
  refine ok_bind (ok_up2N ids.length (fun (a : List api_State) n => a = ofL o (endO o e0) (ids.take n)) (by omega) (by simp [ofL]) (fun a i hI h3 => ?_)) (fun r hr => ok_some hr)
  unfold state_Of_L1
  dsimp only
  subst hI
  refine ok_ite (fun hi => ?_) (fun hi => ok_inr (by rw [show i = ids.length by omega, List.take_length]))
  obtain ⟨y, hiy, hy⟩ := ok_ixN (xs := ids) (i := i) (by omega)
  rw [hiy, Option.bind_some, h2.look, if_pos (List.mem_of_getElem? hy), Option.bind_some]
  simp only
  have htl := trkN_len y o o.length
  have hst := states_p (trkN y o o.length) y (endO o e0) (by omega)
  have hsl := stsN_len o (endO o e0) y hl
  have hol := ofL_len o (endO o e0) hl (ids.take i)
  rw [List.length_take] at hol
  rw [show max 0 (min (endN o e0 o.length) 1000000000000) = endO o e0 from rfl, hst.1, Option.bind_some]
  have hmin : min i ids.length ≤ 1000 := by omega
  have hmul := Nat.mul_le_mul_left 3001 hmin
  rw [room_ok (by omega) (by omega)]
  have hlt := lt_of_get hy
  have hy' : ids[i] = y := by have := List.getElem?_eq_getElem hlt; rw [hy] at this; exact (Option.some.inj this).symm
  refine ok_inl ⟨by omega, w64_N (n := ids.length) (by omega) (by omega), ?_⟩
  rw [List.take_succ_eq_append_getElem hlt, hy']
  unfold ofL
  rw [flatMap_snoc]
 obtain ⟨r, h1, h2⟩ := this
 rw [h1, h2]
theorem awake27 : tracebooklaw27_awake = some true := by kernel_rfl
structure Ord27 (o : List api_Timed) : Prop where
 ser : ∀ (i : Nat) e, o[i]? = some e → 0 ≤ e.fId.fSerial ∧ e.fId.fSerial ≤ 1000000000000000
 tm : ∀ (i : Nat) e e', o[i]? = some e → o[i + 1]? = some e' → tmE e ≤ tmE e'
theorem Time_p (e : api_Timed) : tracebookref27_Time e = some (tmE e) := by
 have : Ok (tracebookref27_Time e) (fun r => r = tmE e) := by
  unfold tracebookref27_Time tmE
  refine ok_ite (fun h => ok_some (by omega)) (fun h => ?_)
  exact ok_ite (fun h => ok_some (by omega)) (fun h => ok_some (by omega))
 obtain ⟨r, h1, h2⟩ := this
 rw [h1, h2]
theorem ordered_ok (o : List api_Timed) (hl : o.length ≤ 1000000) : Ok (tracebookref27_Ordered o) (fun b => b = true → Ord27 o) := by
 unfold tracebookref27_Ordered
 refine ok_bindS (Q := InlR (fun _ => Ord27 o) (fun r => r = false)) (ok_upN o.length (fun n => (∀ (i : Nat) e, i < n → o[i]? = some e → 0 ≤ e.fId.fSerial ∧ e.fId.fSerial ≤ 1000000000000000) ∧ ∀ (i : Nat) e e', i + 1 < n → o[i]? = some e → o[i + 1]? = some e' → tmE e ≤ tmE e') (by omega) ⟨by intro i e h; omega, by intro i e e' h; omega⟩ (fun i hI h2 => ?_)) (fun _ hq => ok_some (fun _ => hq)) (fun r hr => ok_some (fun h => by rw [hr] at h; simp at h))
 unfold tracebookref27_Ordered_L1
 refine ok_ite (fun hi => ?_) (fun hi => ok_inr ⟨fun k e hk => hI.1 k e (by have := lt_of_get hk; omega) hk, fun k e e' hk hk' => hI.2 k e e' (by have := lt_of_get hk'; omega) hk hk'⟩)
 obtain ⟨y, hiy, hy⟩ := ok_ixN (xs := o) (i := i) (by omega)
 simp only [hiy, Option.bind_some]
 refine ok_bind (Q := fun v => v = false → (0 ≤ y.fId.fSerial ∧ y.fId.fSerial ≤ 1000000000000000) ∧ ∀ e, 0 < i → o[i - 1]? = some e → tmE e ≤ tmE y) ?_ (fun v hv => ?_)
 ·refine ok_ite (fun _ => ok_some (by simp)) (fun h => ?_)
  refine ok_ite (fun _ => ok_some (by simp)) (fun h3 => ?_)
  refine ok_ite (fun h4 => ?_) (fun h4 => ok_some (fun _ => ⟨by omega, fun e h5 => by omega⟩))
  rw [Time_p, Option.bind_some, w64_of (n := (i : Int) - 1) (by omega)]
  obtain ⟨z, hiz, hz⟩ := ok_idx (xs := o) (i := (i : Int) - 1) (by omega) (by omega)
  rw [hiz, Option.bind_some, Time_p, Option.bind_some]
  refine ok_some (fun h5 => ⟨by omega, fun e _ he => ?_⟩)
  rw [show ((i : Int) - 1).toNat = i - 1 by omega, he] at hz
  cases hz
  have := of_decide_eq_false h5; omega
 ·cases v with
  | true => exact ok_inr rfl
  | false =>
   obtain ⟨g1, g2⟩ := hv rfl
   refine ok_inl ⟨by omega, w64_N (n := o.length) (by omega) (by omega), fun k e hk he => ?_, fun k e e' hk he he' => ?_⟩
   ·by_cases e2 : k = i
    ·subst e2; rw [hy] at he; cases he; exact g1
    ·exact hI.1 k e (by omega) he
   ·by_cases e2 : k + 1 = i
    ·rw [e2, hy] at he'; cases he'
     exact g2 e (by omega) (by rw [show i - 1 = k by omega]; exact he)
    ·exact hI.2 k e e' (by omega) he he'
theorem light_ok (ths : List api_Thread) (o : List api_Timed) : Ok (tracebooklaw27_light ths o) (fun b => b = true → ths.length ≤ 20 ∧ o.length ≤ 200 ∧ Ord27 o) := by
 unfold tracebooklaw27_light
 refine ok_bind (Q := fun b => b = true → ths.length ≤ 20 ∧ o.length ≤ 200 ∧ Ord27 o) ?_ (fun b hb => ok_some hb)
 refine ok_ite (fun h1 => ?_) (fun _ => ok_some (by simp))
 refine ok_ite (fun h2 => ?_) (fun _ => ok_some (by simp))
 refine ok_bind (ordered_ok o (by omega)) (fun b hb => ok_some (fun e => ⟨by omega, by omega, hb e⟩))
def mkS (id : Int) (c : state_change) (to by' : Int) : api_State := { fThread := id, fState := c.fstate, fSpan := { fFrom := c.fat, fTo := to }, fCpu := c.fcpu, fOn := c.fon, fBy := by' }
def extS (y : api_State) (to by' : Int) : api_State := { fThread := y.fThread, fState := y.fState, fSpan := { fFrom := y.fSpan.fFrom, fTo := to }, fCpu := y.fCpu, fOn := y.fOn, fBy := by' }
def sameC (y : api_State) (c : state_change) : Prop := y.fState = c.fstate ∧ y.fCpu = c.fcpu ∧ y.fOn = c.fon
instance (y : api_State) (c : state_change) : Decidable (sameC y c) := by unfold sameC; exact inferInstance
def push (id : Int) (L : List api_State) (c : state_change) (to by' : Int) : List api_State :=
 if c.fat < to then (match L.getLast? with
  | some y => if sameC y c then L.dropLast ++ [extS y to by'] else L ++ [mkS id c to by']
  | none => L ++ [mkS id c to by'])
 else L
theorem push_snoc (id : Int) (q : List api_State) (y : api_State) (c : state_change) (to by' : Int) (h : c.fat < to) : push id (q ++ [y]) c to by' = if sameC y c then q ++ [extS y to by'] else q ++ [y] ++ [mkS id c to by'] := by
 unfold push
 rw [if_pos h]
 simp
theorem push_len (id : Int) (L : List api_State) (c : state_change) (to by' : Int) : (push id L c to by').length ≤ L.length + 1 := by
 unfold push
 split
 ·split
  ·split
   ·simp
   ·simp
  ·simp
 ·omega
def runL (id : Int) : List state_change → List api_State × state_change
 | [] => ([], chg 0 5 (-1) (-1) (-1))
 | c :: r => r.foldl (fun p d => (push id p.1 p.2 d.fat d.fby, d)) ([], c)
theorem runL_snoc (id : Int) (cs : List state_change) (d : state_change) (h : cs ≠ []) : runL id (cs ++ [d]) = (push id (runL id cs).1 (runL id cs).2 d.fat d.fby, d) := by
 cases cs with
 | nil => exact absurd rfl h
 | cons c r => simp [runL]
theorem runL_last (id : Int) (cs : List state_change) (d : state_change) : (runL id (cs ++ [d])).2 = d := by
 cases cs with
 | nil => rfl
 | cons c r => rw [runL_snoc _ _ _ (by simp)]
theorem runL_len (id : Int) : ∀ (r : List state_change) (p : List api_State × state_change), (r.foldl (fun p d => (push id p.1 p.2 d.fat d.fby, d)) p).1.length ≤ p.1.length + r.length
 | [], p => by simp
 | d :: r, p => by
  have h1 := runL_len id r (push id p.1 p.2 d.fat d.fby, d)
  have h2 := push_len id p.1 p.2 d.fat d.fby
  simp only [List.foldl_cons, List.length_cons] at h1 ⊢
  omega
theorem runL_len' (id : Int) (cs : List state_change) : (runL id cs).1.length ≤ cs.length := by
 cases cs with
 | nil => simp [runL]
 | cons c r => have := runL_len id r ([], c); simp [runL] at this ⊢; omega
theorem set_last {α : Type} (q : List α) (y z : α) : (q ++ [y]).set q.length z = q ++ [z] := by simp
theorem idx_last {α : Type} (q : List α) (y : α) : idx (q ++ [y]) (q.length : Int) = some y := by rw [idx_nat]; simp
theorem same27_p (y : api_State) (s : api_State) : state_same y s = some (decide (y.fState = s.fState ∧ y.fCpu = s.fCpu ∧ y.fOn = s.fOn)) := by
 unfold state_same
 by_cases h1 : y.fState = s.fState <;> by_cases h2 : y.fCpu = s.fCpu <;> simp [h1, h2]
theorem piece_p (id : Int) (a : List api_State) (c : state_change) (to by' : Int) (hl : a.length ≤ 1000000) :
  Ok ((bif (decide (to ≤ c.fat)) then some a else (((bif (decide (0 ≤ (w64 ((List.length a : Int) - 1)))) then ((idx a (w64 ((List.length a : Int) - 1))).bind fun y65 => ((state_same y65 (mkS id c to by')).bind fun r66 => some r66)) else some false) : Option Bool).bind fun v59 => (bif v59 then ((idx a (w64 ((List.length a : Int) - 1))).bind fun y60 => ((idx (List.set a (Int.toNat (w64 ((List.length a : Int) - 1))) ({ fThread := y60.fThread, fState := y60.fState, fSpan := ({ fFrom := y60.fSpan.fFrom, fTo := to } : api_Span), fCpu := y60.fCpu, fOn := y60.fOn, fBy := y60.fBy } : api_State)) (w64 ((List.length a : Int) - 1))).bind fun y61 => some (List.set (List.set a (Int.toNat (w64 ((List.length a : Int) - 1))) ({ fThread := y60.fThread, fState := y60.fState, fSpan := ({ fFrom := y60.fSpan.fFrom, fTo := to } : api_Span), fCpu := y60.fCpu, fOn := y60.fOn, fBy := y60.fBy } : api_State)) (Int.toNat (w64 ((List.length a : Int) - 1))) ({ fThread := y61.fThread, fState := y61.fState, fSpan := y61.fSpan, fCpu := y61.fCpu, fOn := y61.fOn, fBy := by' } : api_State)))) else (bif room 56 (List.length a + List.length [mkS id c to by']) then some (a ++ [mkS id c to by']) else none)))) : Option (List api_State)) (fun r => r = push id a c to by') := by
 refine ok_ite (fun h => ok_some ?_) (fun h => ?_)
 ·unfold push; rw [if_neg (by omega)]
 have hlt : c.fat < to := by omega
 rw [w64_of (n := (a.length : Int) - 1) (by omega)]
 rcases List.eq_nil_or_concat a with ha | ⟨q, y, ha⟩
 ·subst ha
  have : ¬ ((0 : Int) ≤ (([] : List api_State).length : Int) - 1) := by simp
  simp only [this, decide_false, cond_false, Option.bind_some]
  rw [room_ok (by simp) (by simp)]
  exact ok_some (by unfold push; rw [if_pos hlt]; rfl)
 ·rw [List.concat_eq_append] at ha
  subst ha
  have e : (((q ++ [y]).length : Nat) : Int) - 1 = (q.length : Int) := by simp
  have h0 : (0 : Int) ≤ (q.length : Int) := by omega
  rw [e, idx_last]
  simp only [h0, decide_true, cond_true, Option.bind_some, same27_p]
  rw [push_snoc _ _ _ _ _ _ hlt]
  refine ok_ite (fun hs => ?_) (fun hs => ?_)
  ·rw [if_pos (show sameC y c from hs)]
   rw [show ((q.length : Int)).toNat = q.length from rfl, set_last, idx_last, Option.bind_some, set_last]
   exact ok_some rfl
  ·rw [if_neg (show ¬ sameC y c from hs)]
   rw [room_ok (by simp at hl ⊢; omega) (by simp at hl ⊢; omega)]
   exact ok_some rfl
theorem sts_p (t : state_track) (id E : Int) (hl : t.fchanges.length ≤ 100000) (hn : t.fchanges ≠ []) : stsT t id E = push id (runL id t.fchanges).1 (runL id t.fchanges).2 E (-1) := by
 have hpos : 0 < t.fchanges.length := List.length_pos_iff.2 hn
 have : Ok (state_track_states_k1 t id E) (fun r => r = push id (runL id t.fchanges).1 (runL id t.fchanges).2 E (-1)) := by
  unfold state_track_states_k1
  refine ok_bind (ok_up2N t.fchanges.length (fun (a : List api_State) n => (n < t.fchanges.length → a = (runL id (t.fchanges.take (n + 1))).1) ∧ (n = t.fchanges.length → a = push id (runL id t.fchanges).1 (runL id t.fchanges).2 E (-1))) (by omega) ⟨fun _ => ?_, fun h => by omega⟩ (fun a i hI h2 => ?_)) (fun r hr => ok_some hr)
  ·cases hc : t.fchanges with
   | nil => rw [hc] at hn; exact absurd rfl hn
   | cons c r => simp [runL]
  unfold state_track_states_k1_L1
  dsimp only
  refine ok_ite (fun hi => ?_) (fun hi => ok_inr (hI.2 (by omega)))
  have hlt : i < t.fchanges.length := by omega
  obtain ⟨y, hiy, hy⟩ := ok_ixN (xs := t.fchanges) (i := i) (by omega)
  have hy' : t.fchanges[i] = y := by have := List.getElem?_eq_getElem hlt; rw [hy] at this; exact (Option.some.inj this).symm
  have ha := hI.1 hlt
  have htk : t.fchanges.take (i + 1) = t.fchanges.take i ++ [y] := by rw [List.take_succ_eq_append_getElem hlt, hy']
  have hlast : (runL id (t.fchanges.take (i + 1))).2 = y := by rw [htk]; exact runL_last _ _ _
  have hal : a.length ≤ 100000 := by
   rw [ha]; have := runL_len' id (t.fchanges.take (i + 1)); rw [List.length_take] at this; omega
  rw [hiy, Option.bind_some, w64_N (n := t.fchanges.length) (by omega) (by omega)]
  refine ok_bind (Q := fun v => (i + 1 < t.fchanges.length → v = (runL id (t.fchanges.take (i + 1 + 1))).1) ∧ (i + 1 = t.fchanges.length → v = push id (runL id t.fchanges).1 (runL id t.fchanges).2 E (-1))) ?_ (fun v hv => ok_inl ⟨by omega, rfl, hv⟩)
  by_cases h1 : i + 1 < t.fchanges.length
  ·have hc : (((i + 1 : Nat) : Int) < (t.fchanges.length : Int)) := by omega
   obtain ⟨z, hiz, hz⟩ := ok_ixN (xs := t.fchanges) (i := i + 1) (by omega)
   have hz' : t.fchanges[i + 1] = z := by have := List.getElem?_eq_getElem h1; rw [hz] at this; exact (Option.some.inj this).symm
   simp only [hc, decide_true, cond_true, hiz, Option.bind_some]
   refine (piece_p id a y z.fat z.fby (by omega)).mono (fun r hr => ⟨fun _ => ?_, fun h => by omega⟩)
   rw [hr, List.take_succ_eq_append_getElem h1, hz', runL_snoc _ _ _ (by rw [htk]; simp), hlast, ← ha]
  ·have hc : ¬ (((i + 1 : Nat) : Int) < (t.fchanges.length : Int)) := by omega
   simp only [hc, decide_false, cond_false, Option.bind_some]
   refine (piece_p id a y E (-1) (by omega)).mono (fun r hr => ⟨fun h => by omega, fun h => ?_⟩)
   have hall : t.fchanges.take (i + 1) = t.fchanges := by rw [h, List.take_length]
   rw [hall] at ha hlast
   rw [hr, hlast, ← ha]
 obtain ⟨r, h1, h2⟩ := this
 unfold stsT
 rw [h1, ← h2]; rfl
theorem wkT_next (t : state_track) (a b : Int) : (wkT t a b).fnext = t.fnext ∧ (wkT t a b).flast = t.flast := by
 unfold wkT
 split <;> exact ⟨rfl, rfl⟩
theorem trkN_succ {id : Int} {o : List api_Timed} {n : Nat} {e : api_Timed} (h : o[n]? = some e) : trkN id o (n + 1) = stT id (trkN id o n) e := by
 simp only [trkN, h]
theorem popR_id {last : Int} : ∀ {r : List state_change}, (∀ c ∈ r, c.fat ≤ last) → popR last r = r
 | [], _ => rfl
 | [c], _ => rfl
 | c :: d :: r, h => by
  have := h c (by simp)
  simp only [popR]
  rw [if_neg (by omega)]
theorem popR_cons {last : Int} {c : state_change} {r : List state_change} (h : last < c.fat) (hr : r ≠ []) : popR last (c :: r) = popR last r := by
 cases r with
 | nil => exact absurd rfl hr
 | cons d r => simp only [popR]; rw [if_pos h]
theorem popR_mem {last : Int} : ∀ {r : List state_change} {c : state_change}, c ∈ popR last r → c ∈ r
 | [], _, h => h
 | [_], _, h => h
 | c :: d :: r, x, h => by
  simp only [popR] at h
  split at h
  ·exact List.mem_cons_of_mem _ (popR_mem h)
  ·exact h
def popC (last : Int) (cs : List state_change) : List state_change := (popR last cs.reverse).reverse
theorem popC_id {last : Int} {cs : List state_change} (h : ∀ c ∈ cs, c.fat ≤ last) : popC last cs = cs := by
 unfold popC
 rw [popR_id (by simpa using h), List.reverse_reverse]
theorem popC_snoc {last : Int} {cs : List state_change} {c : state_change} (h : last < c.fat) (hn : cs ≠ []) : popC last (cs ++ [c]) = popC last cs := by
 unfold popC
 rw [List.reverse_append, List.reverse_singleton, List.singleton_append, popR_cons h (by simpa using hn)]
theorem gapC_pop (t : state_track) : gapC t = popC t.flast t.fchanges ++ [chg t.flast 5 (-1) (-1) (-1)] := rfl
structure AtMost (t : state_track) (x : Int) : Prop where
 cs : ∀ c ∈ t.fchanges, c.fat ≤ x
 la : t.flast ≤ x
theorem evT_at {t : state_track} {e : api_Timed} (h : AtMost t (tmE e)) : AtMost (evT t e) (tmE e) := by
 have hc : ∀ c ∈ (if e.fId.fSerial = t.fnext then t.fchanges else gapC t), c.fat ≤ tmE e := by
  intro c hc
  split at hc
  ·exact h.cs c hc
  ·rw [gapC_pop] at hc
   rcases List.mem_append.1 hc with hc | hc
   ·unfold popC at hc
    have h9 := popR_mem (show c ∈ popR t.flast t.fchanges.reverse by simpa using hc)
    exact h.cs c (by simpa using h9)
   ·simp at hc; subst hc; exact h.la
 refine ⟨fun c hm => ?_, Int.le_refl _⟩
 unfold evT at hm
 simp only at hm
 generalize (if e.fId.fSerial = t.fnext then t.fchanges else gapC t) = cs at *
 split at hm
 ·rcases List.mem_append.1 hm with hm | hm
  ·exact hc c hm
  ·simp at hm; subst hm; exact Int.le_refl _
 ·split at hm
  ·rcases List.mem_append.1 hm with hm | hm
   ·exact hc c hm
   ·simp at hm; subst hm; exact Int.le_refl _
  ·exact hc c hm
theorem wkT_at {t : state_track} {x b : Int} (h : AtMost t x) : AtMost (wkT t x b) x := by
 unfold wkT
 split
 ·refine ⟨fun c hm => ?_, h.la⟩
  rcases List.mem_append.1 hm with hm | hm
  ·exact h.cs c hm
  ·simp at hm; subst hm; exact Int.le_refl _
 ·exact h
theorem stT_at {id : Int} {t : state_track} {e : api_Timed} (h : AtMost t (tmE e)) : AtMost (stT id t e) (tmE e) := by
 unfold stT
 simp only
 split
 ·refine wkT_at ?_
  split
  ·exact evT_at h
  ·exact h
 ·split
  ·exact evT_at h
  ·exact h
theorem trkN_at {id : Int} {o : List api_Timed} (ho : Ord27 o) : ∀ (n : Nat) (e : api_Timed), o[n]? = some e → AtMost (trkN id o n) (tmE e)
 | 0, e, _ => by
  have := tmE_rng e
  exact ⟨fun c hc => by simp [trkN, trk0] at hc; subst hc; exact this.1, this.1⟩
 | n + 1, e, he => by
  have hl := lt_of_get he
  have hx : o[n]? = some o[n] := List.getElem?_eq_getElem (by omega)
  have h := trkN_at (id := id) ho n _ hx
  have h2 := stT_at (id := id) h
  have h3 := ho.tm n _ _ hx he
  rw [trkN_succ hx]
  exact ⟨fun c hc => by have := h2.cs c hc; omega, by have := h2.la; omega⟩
def PieceT (id : Int) (y : api_State) : Prop := y.fThread = id ∧ 0 ≤ y.fSpan.fFrom ∧ y.fSpan.fFrom < y.fSpan.fTo ∧ y.fSpan.fTo ≤ 1000000000000
structure Row27 (id : Int) (x : Int) (L : List api_State) : Prop where
 mem : ∀ y ∈ L, PieceT id y ∧ y.fSpan.fTo ≤ x
 ord : L.Pairwise (fun a b => a.fSpan.fTo ≤ b.fSpan.fFrom)
theorem Row27.push {id : Int} {L : List api_State} {c : state_change} (to by' : Int) (H : Row27 id c.fat L) (h0 : 0 ≤ c.fat) (h1 : c.fat ≤ to) (h2 : to ≤ 1000000000000) : Row27 id to (push id L c to by') := by
 by_cases hlt : c.fat < to
 ·have hm : PieceT id (mkS id c to by') ∧ (mkS id c to by').fSpan.fTo ≤ to := ⟨⟨rfl, h0, hlt, h2⟩, Int.le_refl _⟩
  rcases List.eq_nil_or_concat L with hL | ⟨q, y, hL⟩
  ·subst hL
   have e : VM.push id [] c to by' = [mkS id c to by'] := by unfold VM.push; rw [if_pos hlt]; rfl
   rw [e]
   exact ⟨fun y hy => by simp at hy; subst hy; exact hm, List.pairwise_singleton _ _⟩
  ·rw [List.concat_eq_append] at hL
   subst hL
   have hy := H.mem y (by simp)
   have ho := List.pairwise_append.1 H.ord
   rw [push_snoc _ _ _ _ _ _ hlt]
   obtain ⟨⟨y1, y2, y3, y4⟩, y5⟩ := hy
   by_cases hc : sameC y c
   ·rw [if_pos hc]
    refine ⟨fun z hz => ?_, List.pairwise_append.2 ⟨ho.1, List.pairwise_singleton _ _, fun a ha b hb => ?_⟩⟩
    ·rcases List.mem_append.1 hz with hz | hz
     ·have := H.mem z (List.mem_append_left _ hz)
      exact ⟨this.1, by omega⟩
     ·simp at hz; subst hz
      exact ⟨⟨y1, y2, by simp only [extS]; omega, h2⟩, Int.le_refl _⟩
    ·simp at hb; subst hb
     exact ho.2.2 a ha y (by simp)
   ·rw [if_neg hc]
    refine ⟨fun z hz => ?_, List.pairwise_append.2 ⟨H.ord, List.pairwise_singleton _ _, fun a ha b hb => ?_⟩⟩
    ·rcases List.mem_append.1 hz with hz | hz
     ·have := H.mem z hz
      exact ⟨this.1, by omega⟩
     ·simp at hz; subst hz; exact hm
    ·simp at hb; subst hb
     exact (H.mem a ha).2
 ·have e : VM.push id L c to by' = L := by unfold VM.push; rw [if_neg hlt]
  rw [e, show to = c.fat by omega]
  exact H
inductive GT : List state_change → Prop
 | one (c : state_change) : c.fat = 0 → GT [c]
 | snoc (q : List state_change) (c d : state_change) : GT (q ++ [c]) → c.fat ≤ d.fat → GT (q ++ [c] ++ [d])
theorem GT.last {cs : List state_change} (h : GT cs) : ∃ q c, cs = q ++ [c] ∧ 0 ≤ c.fat ∧ ∀ x ∈ cs, x.fat ≤ c.fat := by
 induction h with
 | one c h1 => exact ⟨[], c, rfl, by omega, fun x hx => by simp at hx; subst hx; exact Int.le_refl _⟩
 | snoc q c d _ h2 ih =>
  obtain ⟨q', c', e, i1, i3⟩ := ih
  obtain ⟨e1, e2⟩ := List.append_inj' e rfl
  cases e2
  refine ⟨q ++ [c], d, rfl, by omega, fun x hx => ?_⟩
  rcases List.mem_append.1 hx with hx | hx
  ·have := i3 x hx; omega
  ·simp at hx; subst hx; exact Int.le_refl _
theorem GT.ext {cs : List state_change} (h : GT cs) (d : state_change) (h1 : ∀ c ∈ cs, c.fat ≤ d.fat) : GT (cs ++ [d]) := by
 obtain ⟨q, c, e, i1, i3⟩ := h.last
 subst e
 exact GT.snoc q c d h (h1 c (by simp))
theorem GT.pop {last : Int} (h0 : 0 ≤ last) {cs : List state_change} (h : GT cs) : GT (popC last cs) ∧ ∀ c ∈ popC last cs, c.fat ≤ last := by
 induction h with
 | one c h1 => exact ⟨GT.one c h1, fun x hx => by have : popC last [c] = [c] := rfl; rw [this] at hx; simp at hx; subst hx; omega⟩
 | snoc q c d g h2 ih =>
  by_cases hl : last < d.fat
  ·rw [popC_snoc hl (by simp)]
   exact ih
  ·have G := GT.snoc q c d g h2
   obtain ⟨q', c', e, i1, i3⟩ := G.last
   obtain ⟨e1, e2⟩ := List.append_inj' e rfl
   cases e2
   have hall : ∀ x ∈ q ++ [c] ++ [d], x.fat ≤ last := fun x hx => by have := i3 x hx; omega
   rw [popC_id hall]
   exact ⟨G, hall⟩
theorem evT_gt {t : state_track} {e : api_Timed} (h : GT t.fchanges) (h0 : 0 ≤ t.flast) (ha : AtMost t (tmE e)) : GT (evT t e).fchanges := by
 have hc : GT (if e.fId.fSerial = t.fnext then t.fchanges else gapC t) ∧ ∀ c ∈ (if e.fId.fSerial = t.fnext then t.fchanges else gapC t), c.fat ≤ tmE e := by
  split
  ·exact ⟨h, ha.cs⟩
  ·obtain ⟨g1, g2⟩ := h.pop h0
   rw [gapC_pop]
   refine ⟨g1.ext _ g2, fun c hm => ?_⟩
   have := ha.la
   rcases List.mem_append.1 hm with hm | hm
   ·have := g2 c hm; omega
   ·simp at hm; subst hm; exact this
 obtain ⟨c1, c2⟩ := hc
 unfold evT
 simp only
 generalize (if e.fId.fSerial = t.fnext then t.fchanges else gapC t) = cs at *
 split
 ·exact c1.ext _ c2
 ·split
  ·exact c1.ext _ c2
  ·exact c1
theorem wkT_gt {t : state_track} {x b : Int} (h : GT t.fchanges) (ha : AtMost t x) : GT (wkT t x b).fchanges := by
 unfold wkT
 split
 ·exact h.ext _ ha.cs
 ·exact h
theorem stT_gt {id : Int} {t : state_track} {e : api_Timed} (h : GT t.fchanges) (h0 : 0 ≤ t.flast) (ha : AtMost t (tmE e)) : GT (stT id t e).fchanges ∧ 0 ≤ (stT id t e).flast := by
 have hr := tmE_rng e
 have key : ∀ t1 : state_track, t1 = (if e.fId.fThread = id then evT t e else t) → GT t1.fchanges ∧ 0 ≤ t1.flast ∧ AtMost t1 (tmE e) := by
  intro t1 ht
  subst ht
  split
  ·exact ⟨evT_gt h h0 ha, hr.1, evT_at ha⟩
  ·exact ⟨h, h0, ha⟩
 obtain ⟨g1, g2, g3⟩ := key _ rfl
 unfold stT
 simp only
 generalize (if e.fId.fThread = id then evT t e else t) = t1 at *
 split
 ·refine ⟨wkT_gt g1 g3, ?_⟩
  rw [(wkT_next t1 _ _).2]; exact g2
 ·exact ⟨g1, g2⟩
theorem trk_gt {id : Int} {o : List api_Timed} (ho : Ord27 o) : ∀ n, n ≤ o.length → GT (trkN id o n).fchanges ∧ 0 ≤ (trkN id o n).flast
 | 0, _ => ⟨GT.one _ rfl, Int.le_refl 0⟩
 | n + 1, h => by
  have hx : o[n]? = some o[n] := List.getElem?_eq_getElem (by omega)
  obtain ⟨h1, h2⟩ := trk_gt (id := id) ho n (by omega)
  rw [trkN_succ hx]
  exact stT_gt h1 h2 (trkN_at ho n _ hx)
theorem trk_endT {id : Int} {o : List api_Timed} (ho : Ord27 o) (e0 : Int) : ∀ n, n ≤ o.length → AtMost (trkN id o n) (max 0 (min (endN o e0 n) 1000000000000))
 | 0, _ => by
  refine ⟨fun c hc => ?_, ?_⟩
  ·simp [trkN, trk0] at hc; subst hc; simp only [chg]; omega
  ·simp only [trkN, trk0]; omega
 | n + 1, h => by
  have hx : o[n]? = some o[n] := List.getElem?_eq_getElem (by omega)
  have h1 := stT_at (id := id) (trkN_at (id := id) ho n _ hx)
  have hr := tmE_rng o[n]
  have he : endN o e0 (n + 1) = max (endN o e0 n) (tmE o[n]) := by simp only [endN, hx]
  rw [trkN_succ hx, he]
  exact ⟨fun c hc => by have := h1.cs c hc; omega, by have := h1.la; omega⟩
theorem run_row {id : Int} {cs : List state_change} (h : GT cs) : (∀ c ∈ cs, c.fat ≤ 1000000000000) → Row27 id (runL id cs).2.fat (runL id cs).1 := by
 induction h with
 | one c h1 =>
  intro _
  have : runL id [c] = ([], c) := rfl
  rw [this]
  exact ⟨by simp, List.Pairwise.nil⟩
 | snoc q c d g h2 ih =>
  intro hb
  have := ih (fun c hc => hb c (List.mem_append_left _ hc))
  rw [runL_snoc _ _ _ (by simp)]
  obtain ⟨q', c', e, i1, i3⟩ := g.last
  obtain ⟨e1, e2⟩ := List.append_inj' e rfl
  cases e2
  rw [runL_last] at this
  simp only
  rw [runL_last]
  exact this.push d.fat d.fby i1 h2 (hb d (by simp))
theorem sts_row {id : Int} {o : List api_Timed} (ho : Ord27 o) (hl : o.length ≤ 1000) (e0 : Int) : Row27 id (endO o e0) (stsT (trkN id o o.length) id (endO o e0)) := by
 have htl := trkN_len id o o.length
 have hg := (trk_gt (id := id) ho o.length (Nat.le_refl _)).1
 have ha := trk_endT (id := id) ho e0 o.length (Nat.le_refl _)
 have hE : endO o e0 ≤ 1000000000000 := by unfold endO; omega
 rw [sts_p _ _ _ (by omega) htl.2]
 have hs := run_row (id := id) hg (fun c hc => by have := ha.cs c hc; omega)
 obtain ⟨q, c, e, i1, i3⟩ := hg.last
 have hc2 : (runL id (trkN id o o.length).fchanges).2 = c := by rw [e, runL_last]
 rw [hc2] at hs ⊢
 exact hs.push _ _ i1 (ha.cs c (by rw [e]; simp)) hE
def covT (t : Int) (s : api_Span) : Prop := s.fFrom ≤ t ∧ t < s.fTo
theorem pair_unique {α : Type} {R : α → α → Prop} : ∀ {L : List α}, L.Pairwise R → ∀ {a b : α}, a ∈ L → b ∈ L → ¬ R a b → ¬ R b a → a = b
 | [], _, _, _, h, _, _, _ => by simp at h
 | x :: L, hp, a, b, ha, hb, h1, h2 => by
  obtain ⟨p1, p2⟩ := List.pairwise_cons.1 hp
  rcases List.mem_cons.1 ha with e | ha2
  ·rcases List.mem_cons.1 hb with e' | hb2
   ·rw [e, e']
   ·exact absurd (by rw [e]; exact p1 b hb2) h1
  ·rcases List.mem_cons.1 hb with e' | hb2
   ·exact absurd (by rw [e']; exact p1 a ha2) h2
   ·exact pair_unique p2 ha2 hb2 h1 h2
theorem one27 {o : List api_Timed} (ho : Ord27 o) (hl : o.length ≤ 1000) (e0 : Int) {ids : List Int} {a b : api_State} (ha : a ∈ ofL o (endO o e0) ids) (hb : b ∈ ofL o (endO o e0) ids) (hth : a.fThread = b.fThread) {t : Int} (h1 : covT t a.fSpan) (h2 : covT t b.fSpan) : a = b := by
 obtain ⟨i, _, hi⟩ := List.mem_flatMap.1 ha
 obtain ⟨j, _, hj⟩ := List.mem_flatMap.1 hb
 have ri := sts_row (id := i) ho hl e0
 have rj := sts_row (id := j) ho hl e0
 have e1 := (ri.mem a hi).1.1
 have e2 := (rj.mem b hj).1.1
 have : i = j := by omega
 subst this
 obtain ⟨c1, c2⟩ := h1
 obtain ⟨c3, c4⟩ := h2
 exact pair_unique ri.ord hi hj (fun h => by omega) (fun h => by omega)
theorem mem27 {o : List api_Timed} (ho : Ord27 o) (hl : o.length ≤ 1000) (e0 : Int) {ids : List Int} {a : api_State} (ha : a ∈ ofL o (endO o e0) ids) : PieceT a.fThread a ∧ a.fThread ∈ ids := by
 obtain ⟨i, h1, hi⟩ := List.mem_flatMap.1 ha
 have := ((sts_row (id := i) ho hl e0).mem a hi).1
 exact ⟨by rw [this.1]; exact this, by rw [this.1]; exact h1⟩
theorem valid_w {p : api_Span} (h0 : 0 ≤ p.fFrom) (h1 : p.fFrom < p.fTo) (h2 : p.fTo ≤ 1000000000000) : spans_Valid p = some true := by
 have : Ok (spans_Valid p) (fun r => r = true) := by
  unfold spans_Valid
  refine ok_bind (Q := fun v => v = true) ?_ (fun v hv => ok_some hv)
  exact ok_ite (fun _ => ok_ite (fun _ => ok_some (decide_eq_true h2)) (fun h => absurd h1 h)) (fun h => absurd h0 h)
 obtain ⟨r, g1, g2⟩ := this
 rw [g1, g2]
def ValS (p : api_Span) : Prop := 0 ≤ p.fFrom ∧ p.fFrom < p.fTo ∧ p.fTo ≤ 1000000000000
theorem At_p (l : List api_State) (hl : l.length ≤ 1000000) (id t : Int) : Ok (state_At l id t) (fun r => (r.2 = true → r.1 ∈ l ∧ r.1.fThread = id ∧ covT t r.1.fSpan) ∧ (r.2 = false → ∀ y ∈ l, ¬ (y.fThread = id ∧ covT t y.fSpan))) := by
 unfold state_At
 refine ok_bindS (Q := InlR (fun _ => ∀ y ∈ l, ¬ (y.fThread = id ∧ covT t y.fSpan)) (fun r => r.2 = true ∧ r.1 ∈ l ∧ r.1.fThread = id ∧ covT t r.1.fSpan)) (ok_upN l.length (fun n => ∀ (k : Nat) y, k < n → l[k]? = some y → ¬ (y.fThread = id ∧ covT t y.fSpan)) (by omega) (fun k y h => by omega) (fun i hI h2 => ?_)) (fun _ h => ok_some ⟨fun e => by simp at e, fun _ => h⟩) (fun r hr => ok_some ⟨fun _ => hr.2, fun e => by rw [hr.1] at e; simp at e⟩)
 unfold state_At_L1
 refine ok_ite (fun hi => ?_) (fun hi => ok_inr (fun y hy => ?_))
 ·obtain ⟨y, hiy, hy⟩ := ok_ixN (xs := l) (i := i) (by omega)
  rw [hiy, Option.bind_some]
  refine ok_bind (Q := fun v => v = true ↔ (y.fThread = id ∧ covT t y.fSpan)) ?_ (fun v hv => ?_)
  ·refine ok_ite (fun h1 => ?_) (fun h1 => ok_some ⟨fun e => by simp at e, fun e => absurd e.1 h1⟩)
   refine ok_ite (fun h3 => ok_some ?_) (fun h3 => ok_some ⟨fun e => by simp at e, fun e => absurd e.2.1 h3⟩)
   rw [decide_eq_true_eq]
   exact ⟨fun e => ⟨h1, h3, e⟩, fun e => e.2.2⟩
  refine ok_cond (fun h => ok_inr ⟨rfl, List.mem_of_getElem? hy, hv.1 h⟩) (fun h => ok_inl ⟨by omega, w64_N (n := l.length) (by omega) (by omega), fun k z hk hz => ?_⟩)
  by_cases e2 : k = i
  ·subst e2; rw [hy] at hz; cases hz
   exact fun hc => by rw [hv.2 hc] at h; simp at h
  ·exact hI k z (by omega) hz
 ·obtain ⟨k, hk⟩ := List.getElem?_of_mem hy
  exact hI k y (by have := lt_of_get hk; omega) hk
def runS (l : List api_State) (cpu : Int) : List api_Span := (l.filter fun y => decide (y.fState = 4 ∧ y.fCpu = cpu)).map (·.fSpan)
theorem runS_snoc (l : List api_State) (y : api_State) (cpu : Int) : runS (l ++ [y]) cpu = if y.fState = 4 ∧ y.fCpu = cpu then runS l cpu ++ [y.fSpan] else runS l cpu := by
 unfold runS
 rw [List.filter_append, List.map_append]
 by_cases h : y.fState = 4 ∧ y.fCpu = cpu
 ·rw [if_pos h]; simp [h]
 ·rw [if_neg h]; simp [h]
theorem runS_len (l : List api_State) (cpu : Int) : (runS l cpu).length ≤ l.length := by
 unfold runS
 rw [List.length_map]
 exact List.length_filter_le _ _
theorem lastQ {α : Type} (q : List α) (y : α) : (q ++ [y]).getLast? = some y := by simp
theorem Normal_cov (R : List api_Span) (hl : R.length ≤ 1000000) (hv : ∀ s ∈ R, ValS s) : Ok (spans_Normal R) (fun out => out.length ≤ 1000000 ∧ (∀ s ∈ out, ValS s) ∧ ∀ t, (∃ s ∈ out, covT t s) ↔ ∃ s ∈ R, covT t s) := by
 unfold spans_Normal
 refine ok_bind (Q := fun r => r = R) (ok_up2N R.length (fun (a : List api_Span) n => a = R.take n) (by omega) rfl (fun a i hI h2 => ?_)) (fun r hr => ?_)
 ·unfold spans_Normal_L2
  dsimp only
  refine ok_ite (fun hi => ?_) (fun hi => ok_inr (by rw [hI, show i = R.length by omega, List.take_length]))
  obtain ⟨y, hiy, hy⟩ := ok_ixN (xs := R) (i := i) (by omega)
  have hlt := lt_of_get hy
  have hy' : R[i] = y := by have := List.getElem?_eq_getElem hlt; rw [hy] at this; exact (Option.some.inj this).symm
  obtain ⟨v1, v2, v3⟩ := hv y (List.mem_of_getElem? hy)
  rw [hiy, Option.bind_some, valid_w v1 v2 v3, Option.bind_some]
  simp only [cond_true]
  have hal : a.length ≤ 1000000 := by rw [hI, List.length_take]; omega
  rw [room_ok (by simp; omega) (by simp; omega)]
  refine ok_inl ⟨by omega, w64_N (n := R.length) (by omega) (by omega), ?_⟩
  rw [List.take_succ_eq_append_getElem hlt, hy', hI]
 ·subst hr
  unfold slices_SortFunc_api_Span_api_Span_k1
  have hc : r.length < 4611686018427387904 := by omega
  simp only [hc, decide_true, cond_true, Option.bind_some]
  have hp := sortBy_perm (fun x : api_Span => x.fFrom) r
  have hso := sortBy_sorted (fun x : api_Span => x.fFrom) r
  generalize sortBy (fun x : api_Span => x.fFrom) r = S at *
  have hSl : S.length = r.length := hp.length_eq
  have hSv : ∀ s ∈ S, ValS s := fun s hs => hv s (hp.mem_iff.1 hs)
  refine ok_bind (Q := fun out => out.length ≤ 1000000 ∧ (∀ s ∈ out, ValS s) ∧ ∀ t, (∃ s ∈ out, covT t s) ↔ ∃ s ∈ S, covT t s) ?_ (fun out ho => ok_some ⟨ho.1, ho.2.1, fun t => (ho.2.2 t).trans ⟨fun ⟨s, h1, h2⟩ => ⟨s, hp.mem_iff.1 h1, h2⟩, fun ⟨s, h1, h2⟩ => ⟨s, hp.mem_iff.2 h1, h2⟩⟩⟩)
  refine ok_up2N S.length (fun (a : List api_Span) n => a.length ≤ n ∧ (∀ s ∈ a, ValS s) ∧ (∀ t, (∃ s ∈ a, covT t s) ↔ ∃ s ∈ S.take n, covT t s) ∧ ∀ y, a.getLast? = some y → ∀ (j : Nat) z, n ≤ j → S[j]? = some z → y.fFrom ≤ z.fFrom) (by omega) ⟨by simp, by simp, fun t => by simp, by simp⟩ (fun a i hI h2 => ?_)
  unfold spans_Normal_L1
  dsimp only
  obtain ⟨a1, a2, a3, a4⟩ := hI
  refine ok_ite (fun hi => ?_) (fun hi => ok_inr ⟨by omega, a2, by rw [show i = S.length by omega, List.take_length] at a3; exact a3⟩)
  obtain ⟨y, hiy, hy⟩ := ok_ixN (xs := S) (i := i) (by omega)
  have hlt := lt_of_get hy
  have hy' : S[i] = y := by have := List.getElem?_eq_getElem hlt; rw [hy] at this; exact (Option.some.inj this).symm
  have hyv := hSv y (List.mem_of_getElem? hy)
  have hnx : ∀ (j : Nat) z, i + 1 ≤ j → S[j]? = some z → y.fFrom ≤ z.fFrom := fun j z hj hz => hso i j y z (by omega) hy hz
  rw [hiy, Option.bind_some]
  refine ok_bind (Q := fun b => b.length ≤ i + 1 ∧ (∀ s ∈ b, ValS s) ∧ (∀ t, (∃ s ∈ b, covT t s) ↔ ((∃ s ∈ a, covT t s) ∨ covT t y)) ∧ ∀ x, b.getLast? = some x → x.fFrom ≤ y.fFrom) ?_ (fun b hb => ok_inl ⟨by omega, w64_N (n := S.length) (by omega) (by omega), hb.1, hb.2.1, fun t => ?_, fun x hx j z hj hz => ?_⟩)
  ·rcases List.eq_nil_or_concat a with ha | ⟨q, x, ha⟩
   ·subst ha
    have h0 : ¬ ((0 : Int) < (([] : List api_Span).length : Int)) := by simp
    simp only [h0, decide_false, cond_false, Option.bind_some]
    rw [room_ok (by simp) (by simp)]
    refine ok_some ⟨by simp, by simpa using hyv, fun t => by simp, fun x hx => ?_⟩
    simp at hx; subst hx; exact Int.le_refl _
   ·rw [List.concat_eq_append] at ha
    subst ha
    have hql : q.length ≤ 1000000 := by simp at a1; omega
    have e : (((q ++ [x]).length : Nat) : Int) - 1 = (q.length : Int) := by simp
    have h0 : (0 : Int) < ((q ++ [x]).length : Int) := by rw [List.length_append, List.length_singleton]; omega
    rw [w64_of (n := (((q ++ [x]).length : Nat) : Int) - 1) (by omega), e, idx_last]
    simp only [h0, decide_true, cond_true, Option.bind_some]
    have hxv := a2 x (by simp)
    have hxy := a4 x (lastQ q x) i y (Nat.le_refl _) hy
    refine ok_ite (fun hc => ?_) (fun hc => ?_)
    ·rw [show ((q.length : Int)).toNat = q.length from rfl, set_last]
     obtain ⟨y1, y2, y3⟩ := hyv
     obtain ⟨x1, x2, x3⟩ := hxv
     refine ok_some ⟨by simp at a1 ⊢; omega, fun s hs => ?_, fun t => ?_, fun z hz => ?_⟩
     ·rcases List.mem_append.1 hs with hs | hs
      ·exact a2 s (List.mem_append_left _ hs)
      ·simp at hs; subst hs
       exact ⟨x1, by show x.fFrom < max x.fTo y.fTo; omega, by show max x.fTo y.fTo ≤ _; omega⟩
     ·have key : covT t { fFrom := x.fFrom, fTo := max x.fTo y.fTo } ↔ (covT t x ∨ covT t y) := by
       simp only [covT]; omega
      constructor
      ·rintro ⟨s, hs, ht⟩
       rcases List.mem_append.1 hs with hs | hs
       ·exact .inl ⟨s, List.mem_append_left _ hs, ht⟩
       ·simp at hs; subst hs
        rcases key.1 ht with h | h
        ·exact .inl ⟨x, by simp, h⟩
        ·exact .inr h
      ·rintro (⟨s, hs, ht⟩ | ht)
       ·rcases List.mem_append.1 hs with hs | hs
        ·exact ⟨s, List.mem_append_left _ hs, ht⟩
        ·simp at hs; subst hs
         exact ⟨_, by simp, key.2 (.inl ht)⟩
       ·exact ⟨_, by simp, key.2 (.inr ht)⟩
     ·rw [lastQ] at hz; cases hz; exact hxy
    ·rw [room_ok (by simp; omega) (by simp; omega)]
     refine ok_some ⟨by simp at a1 ⊢; omega, fun s hs => ?_, fun t => ?_, fun z hz => ?_⟩
     ·rcases List.mem_append.1 hs with hs | hs
      ·exact a2 s hs
      ·simp at hs; subst hs; exact hyv
     ·constructor
      ·rintro ⟨s, hs, ht⟩
       rcases List.mem_append.1 hs with hs | hs
       ·exact .inl ⟨s, hs, ht⟩
       ·simp at hs; subst hs; exact .inr ht
      ·rintro (⟨s, hs, ht⟩ | ht)
       ·exact ⟨s, List.mem_append_left _ hs, ht⟩
       ·exact ⟨y, by simp, ht⟩
     ·rw [lastQ] at hz; cases hz; exact Int.le_refl _
  ·rw [hb.2.2.1 t, a3 t, List.take_succ_eq_append_getElem hlt, hy']
   constructor
   ·rintro (⟨s, hs, ht⟩ | ht)
    ·exact ⟨s, List.mem_append_left _ hs, ht⟩
    ·exact ⟨y, by simp, ht⟩
   ·rintro ⟨s, hs, ht⟩
    rcases List.mem_append.1 hs with hs | hs
    ·exact .inl ⟨s, hs, ht⟩
    ·simp at hs; subst hs; exact .inr ht
  ·have := hb.2.2.2 x hx
   have := hnx j z hj hz
   omega
theorem Covers_p (R : List api_Span) (t : Int) (hl : R.length ≤ 9223372036854775807) (hv : ∀ s ∈ R, ValS s) : Ok (spans_Covers R t) (fun b => b = true ↔ ∃ s ∈ R, covT t s) := by
 unfold spans_Covers slices_ContainsFunc_api_Span_api_Span_k1
 refine ok_bind (ok_bind (Q := fun r => 0 ≤ r ↔ ∃ s ∈ R, covT t s) ?_ (fun r hr => ok_some (by rw [decide_eq_true_eq]; exact hr))) (fun b hb => ok_some hb)
 unfold slices_IndexFunc_api_Span_api_Span_k1
 refine ok_bindS (Q := InlR (fun _ => ¬ ∃ s ∈ R, covT t s) (fun r => 0 ≤ r ∧ ∃ s ∈ R, covT t s)) (ok_upN R.length (fun n => ∀ (k : Nat) s, k < n → R[k]? = some s → ¬ covT t s) hl (fun k s h => by omega) (fun i hI h2 => ?_)) (fun _ h => ok_some ⟨fun e => by omega, fun e => absurd e h⟩) (fun r hr => ok_some ⟨fun _ => hr.2, fun _ => hr.1⟩)
 unfold slices_IndexFunc_api_Span_api_Span_k1_L1
 refine ok_ite (fun hi => ?_) (fun hi => ok_inr (fun ⟨s, hs, ht⟩ => ?_))
 ·obtain ⟨y, hiy, hy⟩ := ok_ixN (xs := R) (i := i) (by omega)
  obtain ⟨v1, v2, v3⟩ := hv y (List.mem_of_getElem? hy)
  rw [hiy, Option.bind_some]
  refine ok_bind (Q := fun v => v = true ↔ covT t y) ?_ (fun v hv => ?_)
  ·unfold spans_Covers_1_k1
   rw [valid_w v1 v2 v3]
   simp only [Option.bind_some, cond_true]
   refine ok_bind (Q := fun v => v = true ↔ covT t y) ?_ (fun v hv => ok_some hv)
   refine ok_ite (fun h3 => ok_some ?_) (fun h3 => ok_some ⟨fun e => by simp at e, fun e => absurd e.1 h3⟩)
   rw [decide_eq_true_eq]
   exact ⟨fun e => ⟨h3, e⟩, fun e => e.2⟩
  refine ok_cond (fun h => ok_inr ⟨by omega, y, List.mem_of_getElem? hy, hv.1 h⟩) (fun h => ok_inl ⟨by omega, w64_N (n := R.length) (by omega) hl, fun k z hk hz => ?_⟩)
  by_cases e2 : k = i
  ·subst e2; rw [hy] at hz; cases hz
   exact fun hc => by rw [hv.2 hc] at h; simp at h
  ·exact hI k z (by omega) hz
 ·obtain ⟨k, hk⟩ := List.getElem?_of_mem hs
  exact hI k s (by have := lt_of_get hk; omega) hk ht
theorem Running_p (l : List api_State) (cpu : Int) (hl : l.length ≤ 1000000) (hv : ∀ y ∈ l, ValS y.fSpan) : Ok (state_Running l cpu) (fun out => out.length ≤ 9223372036854775807 ∧ (∀ s ∈ out, ValS s) ∧ ∀ t, (∃ s ∈ out, covT t s) ↔ ∃ y ∈ l, y.fState = 4 ∧ y.fCpu = cpu ∧ covT t y.fSpan) := by
 unfold state_Running
 refine ok_bind (Q := fun r => r = runS l cpu) (ok_up2N l.length (fun (a : List api_Span) n => a = runS (l.take n) cpu) (by omega) rfl (fun a i hI h2 => ?_)) (fun r hr => ?_)
 ·unfold state_Running_L1
  dsimp only
  refine ok_ite (fun hi => ?_) (fun hi => ok_inr (by rw [hI, show i = l.length by omega, List.take_length]))
  obtain ⟨y, hiy, hy⟩ := ok_ixN (xs := l) (i := i) (by omega)
  have hlt := lt_of_get hy
  have hy' : l[i] = y := by have := List.getElem?_eq_getElem hlt; rw [hy] at this; exact (Option.some.inj this).symm
  have hal := runS_len (l.take i) cpu
  rw [List.length_take] at hal
  rw [hiy, Option.bind_some]
  refine ok_bind (Q := fun v => v = runS (l.take (i + 1)) cpu) ?_ (fun v hv => ok_inl ⟨by omega, w64_N (n := l.length) (by omega) (by omega), hv⟩)
  rw [List.take_succ_eq_append_getElem hlt, hy', runS_snoc]
  refine ok_bind (Q := fun v => v = decide (y.fState = 4 ∧ y.fCpu = cpu)) (ok_ite (fun e => ok_some (by simp [e])) (fun e => ok_some (by simp [e]))) (fun v hv => ?_)
  subst hv
  subst hI
  refine ok_ite (fun e => ?_) (fun e => ok_some (by rw [if_neg e]))
  rw [if_pos e, room_ok (by simp; omega) (by simp; omega)]
  exact ok_some rfl
 ·subst hr
  have hrl := runS_len l cpu
  have hmem : ∀ s, s ∈ runS l cpu ↔ ∃ y ∈ l, (y.fState = 4 ∧ y.fCpu = cpu) ∧ y.fSpan = s := by
   intro s
   unfold runS
   simp only [List.mem_map, List.mem_filter, decide_eq_true_eq]
   constructor
   ·rintro ⟨y, ⟨h1, h2⟩, h3⟩; exact ⟨y, h1, h2, h3⟩
   ·rintro ⟨y, h1, h2, h3⟩; exact ⟨y, ⟨h1, h2⟩, h3⟩
  refine ok_bind (Normal_cov (runS l cpu) (by omega) (fun s hs => ?_)) (fun out ho => ok_some ⟨by have := ho.1; omega, ho.2.1, fun t => (ho.2.2 t).trans ⟨?_, ?_⟩⟩)
  ·obtain ⟨y, h1, _, h3⟩ := (hmem s).1 hs
   rw [← h3]; exact hv y h1
  ·rintro ⟨s, hs, ht⟩
   obtain ⟨y, h1, h2, h3⟩ := (hmem s).1 hs
   exact ⟨y, h1, h2.1, h2.2, by rw [h3]; exact ht⟩
  ·rintro ⟨y, h1, h2, h3, h4⟩
   exact ⟨y.fSpan, (hmem _).2 ⟨y, h1, ⟨h2, h3⟩, rfl⟩, h4⟩
theorem stateRuns_holds (ths : List api_Thread) (o : List api_Timed) (e0 cpu t : Int) : tracebooklaw27_StateRuns ths o e0 cpu t = some true := by
 have : Ok (tracebooklaw27_StateRuns ths o e0 cpu t) (fun b => b = true) := by
  unfold tracebooklaw27_StateRuns
  rw [awake27]
  refine ok_bind (light_ok ths o) (fun b hb => ?_)
  refine ok_not (fun _ => ok_some rfl) (fun e => ?_)
  obtain ⟨ht, hl, ho⟩ := hb e
  rw [Of_p ths o e0 (by omega) (by omega), Option.bind_some]
  have hil := idsN_len ths ths.length
  have hol : (ofL o (endO o e0) (idsN ths ths.length)).length ≤ 100000 := by
   have h1 := ofL_len o (endO o e0) (by omega) (idsN ths ths.length)
   have h2 := Nat.mul_le_mul_left 3001 (show (idsN ths ths.length).length ≤ 20 by omega)
   omega
  have hone : ∀ a ∈ ofL o (endO o e0) (idsN ths ths.length), ∀ b ∈ ofL o (endO o e0) (idsN ths ths.length), a.fThread = b.fThread → covT t a.fSpan → covT t b.fSpan → a = b := fun a ha b hb h1 h2 h3 => one27 ho (by omega) e0 ha hb h1 h2 h3
  have hmem : ∀ a ∈ ofL o (endO o e0) (idsN ths ths.length), ValS a.fSpan ∧ ∃ (k : Nat) (y : api_Thread), ths[k]? = some y ∧ y.fId = a.fThread := fun a ha => by
   obtain ⟨⟨_, h1, h2, h3⟩, h4⟩ := mem27 ho (by omega) e0 ha
   obtain ⟨k, y, _, h5, h6⟩ := (idsN_mem ths a.fThread ths.length).1 h4
   exact ⟨⟨h1, h2, h3⟩, k, y, h5, h6⟩
  generalize ofL o (endO o e0) (idsN ths ths.length) = l at *
  refine ok_bind (Q := fun v => v = true ↔ ∃ y ∈ l, y.fState = 4 ∧ y.fCpu = cpu ∧ covT t y.fSpan) ?_ (fun v hv => ?_)
  ·refine Ok.mono (P := fun v : Bool => v = true ↔ ∃ (k : Nat) (x : api_Thread), k < ths.length ∧ ths[k]? = some x ∧ ∃ y ∈ l, y.fThread = x.fId ∧ y.fState = 4 ∧ y.fCpu = cpu ∧ covT t y.fSpan) (ok_up2N ths.length (fun (a : Bool) n => a = true ↔ ∃ (k : Nat) (x : api_Thread), k < n ∧ ths[k]? = some x ∧ ∃ y ∈ l, y.fThread = x.fId ∧ y.fState = 4 ∧ y.fCpu = cpu ∧ covT t y.fSpan) (by omega) ⟨by simp, by rintro ⟨k, x, h, _⟩; omega⟩ (fun a i hI h2 => ?_)) (fun v hv => ?_)
   ·unfold tracebooklaw27_StateRuns_L1
    dsimp only
    refine ok_ite (fun hi => ?_) (fun hi => ok_inr (by rw [show ths.length = i by omega]; exact hI))
    obtain ⟨x, hix, hx⟩ := ok_ixN (xs := ths) (i := i) (by omega)
    rw [hix, Option.bind_some]
    refine ok_bind (Q := fun v => v = true ↔ (a = true ∨ ∃ y ∈ l, y.fThread = x.fId ∧ y.fState = 4 ∧ y.fCpu = cpu ∧ covT t y.fSpan)) ?_ (fun v hv => ok_inl ⟨by omega, w64_N (n := ths.length) (by omega) (by omega), ?_⟩)
    ·refine ok_bind (At_p l (by omega) x.fId t) (fun r hr => ?_)
     refine ok_cond (fun h => ok_some ⟨fun _ => .inl h, fun _ => rfl⟩) (fun h => ?_)
     have ha : ¬ a = true := by rw [h]; simp
     refine ok_cond (fun h3 => ?_) (fun h3 => ok_some ⟨fun e => by simp at e, ?_⟩)
     ·obtain ⟨m1, m2, m3⟩ := hr.1 h3
      refine ok_ite (fun h4 => ok_some ?_) (fun h4 => ok_some ?_)
      ·rw [decide_eq_true_eq]
       constructor
       ·intro h5; exact .inr ⟨r.1, m1, m2, h4, h5, m3⟩
       ·rintro (h5 | ⟨y, h5, h6, h7, h8, h9⟩)
        ·exact absurd h5 ha
        ·have := hone r.1 m1 y h5 (by rw [m2, h6]) m3 h9
         rw [this]; exact h8
      ·refine ⟨fun e => by simp at e, ?_⟩
       rintro (h5 | ⟨y, h5, h6, h7, h8, h9⟩)
       ·exact absurd h5 ha
       ·have := hone r.1 m1 y h5 (by rw [m2, h6]) m3 h9
        rw [this] at h4; exact absurd h7 h4
     ·rintro (h5 | ⟨y, h5, h6, h7, h8, h9⟩)
      ·exact absurd h5 ha
      ·exact absurd ⟨h6, h9⟩ (hr.2 h3 y h5)
    ·rw [hv, hI]
     constructor
     ·rintro (⟨k, z, h1, h3, h4⟩ | h4)
      ·exact ⟨k, z, by omega, h3, h4⟩
      ·exact ⟨i, x, by omega, hx, h4⟩
     ·rintro ⟨k, z, h1, h3, h4⟩
      by_cases e2 : k = i
      ·subst e2; rw [hx] at h3; cases h3; exact .inr h4
      ·exact .inl ⟨k, z, by omega, h3, h4⟩
   ·rw [hv]
    constructor
    ·rintro ⟨k, x, _, _, y, h1, _, h2, h3, h4⟩; exact ⟨y, h1, h2, h3, h4⟩
    ·rintro ⟨y, h1, h2, h3, h4⟩
     obtain ⟨_, k, x, h5, h6⟩ := hmem y h1
     exact ⟨k, x, lt_of_get h5, h5, y, h1, h6.symm, h2, h3, h4⟩
  ·refine ok_bind (Q := fun b => b = true) ?_ (fun b hb => ok_some hb)
   refine ok_bind (Running_p l cpu (by omega) (fun y hy => (hmem y hy).1)) (fun R hR => ?_)
   refine ok_bind (Covers_p R t hR.1 hR.2.1) (fun b hb => ?_)
   have heq : b = v := by
    rw [Bool.eq_iff_iff, hb, hR.2.2 t, hv]
   subst heq
   simp only [decide_true, bne, Option.bind_some]
   exact ok_some rfl
 obtain ⟨r, h1, h2⟩ := this
 rw [h1, h2]
end Go.VM
