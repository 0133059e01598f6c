/- The law holds: plain mathematics on what the functions compute. -/
import Derived.Test.YtnngonjaoebkfaaGreatL49B
namespace Go.VM
end Go.VM
namespace Go.VM
def Ok {α : Type} (x : Option α) (P : α → Prop) : Prop := ∃ r, x = some r ∧ P r
def InlR {α β : Type} (A : α → Prop) (B : β → Prop) : α ⊕ β → Prop
  | .inl a => A a
  | .inr b => B b
theorem ok_some {α : Type} {P : α → Prop} {r : α} (h : P r) : Ok (some r) P := ⟨r, rfl, h⟩
theorem ok_inl {α β : Type} {A : α → Prop} {B : β → Prop} {a : α} (h : A a) : Ok (some (.inl a)) (InlR A B) := ⟨_, rfl, h⟩
theorem ok_inr {α β : Type} {A : α → Prop} {B : β → Prop} {b : β} (h : B b) : Ok (some (.inr b)) (InlR A B) := ⟨_, rfl, h⟩
theorem ok_bind {α β : Type} {x : Option α} {f : α → Option β} {Q : α → Prop} {P : β → Prop} (hx : Ok x Q) (hf : ∀ r, Q r → Ok (f r) P) : Ok (x.bind f) P := by
  obtain ⟨r, h1, h2⟩ := hx
  subst h1; exact hf r h2
theorem ok_cond {α : Type} {b : Bool} {x y : Option α} {P : α → Prop} (h1 : b = true → Ok x P) (h2 : b = false → Ok y P) : Ok (cond b x y) P := by
  cases b
  · exact h2 rfl
  · exact h1 rfl
theorem Ok.mono {α : Type} {x : Option α} {P Q : α → Prop} (h : Ok x P) (hq : ∀ r, P r → Q r) : Ok x Q := by
  obtain ⟨r, h1, h2⟩ := h; exact ⟨r, h1, hq r h2⟩
theorem ok_idx {α : Type} {xs : List α} {i : Int} (h1 : 0 ≤ i) (h2 : i < xs.length) : Ok (idx xs i) (fun y => xs[i.toNat]? = some y) := by
  obtain ⟨n, rfl⟩ := Int.eq_ofNat_of_zero_le h1
  have h3 : n < xs.length := by omega
  rw [idx_nat]
  exact ⟨xs[n], by simp [h3], by simp [h3]⟩
theorem ok_loop {S ρ : Type} {step : S → Option (S ⊕ ρ)} (Inv : S → Prop) (m : S → Nat) {Post : ρ → Prop}
    (h : ∀ s, Inv s → Ok (step s) (InlR (fun s' => Inv s' ∧ m s' < m s) Post)) {s : S} (hs : Inv s) (hm : m s < manyRounds) : Ok (loop step s) Post := by
  refine loop_inv Inv m Post (fun s hs => ?_) hs hm
  obtain ⟨r, h1, h2⟩ := h s hs
  cases r with
  | inl a => exact Or.inl ⟨a, h1, h2⟩
  | inr b => exact Or.inr ⟨b, h1, h2⟩
theorem ok_ite {α : Type} {p : Prop} [Decidable p] {x y : Option α} {P : α → Prop} (h1 : p → Ok x P) (h2 : ¬p → Ok y P) : Ok (cond (decide p) x y) P :=
  ok_cond (fun h => h1 (of_decide_eq_true h)) (fun h => h2 (of_decide_eq_false h))
theorem ok_nite {α : Type} {p : Prop} [Decidable p] {x y : Option α} {P : α → Prop} (h1 : ¬p → Ok x P) (h2 : p → Ok y P) : Ok (cond (!decide p) x y) P := by
  by_cases h : p
  · simpa [h] using h2 h
  · simpa [h] using h1 h
theorem ok_up2 {σ ρ : Type} {step : σ × Int → Option ((σ × Int) ⊕ ρ)} (n : Nat) (Inv : σ → Int → Prop) {Post : ρ → Prop} (hn : n ≤ 9223372036854775807) {s0 : σ} (h0 : Inv s0 0)
    (h : ∀ (s : σ) (i : Int), Inv s i → 0 ≤ i → i ≤ n → Ok (step (s, i)) (InlR (fun a => i < n ∧ a.2 = i + 1 ∧ Inv a.1 (i + 1)) Post)) : Ok (loop step (s0, 0)) Post := by
  refine ok_loop (fun s : σ × Int => Inv s.1 s.2 ∧ 0 ≤ s.2 ∧ s.2 ≤ (n : Int)) (fun s : σ × Int => ((n : Int) - s.2).toNat) (fun s hi => (h s.1 s.2 hi.1 hi.2.1 hi.2.2).mono ?_) ⟨h0, by simp, by simp⟩ (by simp [manyRounds]; omega)
  rintro (⟨a, j⟩ | b) hr
  · obtain ⟨h1, h2, h3⟩ : s.2 < n ∧ j = s.2 + 1 ∧ Inv a (s.2 + 1) := hr
    subst h2
    exact ⟨⟨h3, by simp; omega, by simp; omega⟩, by simp; omega⟩
  · exact hr
theorem ok_upI {ρ : Type} {step : Int → Option (Int ⊕ ρ)} (n : Nat) (Inv : Int → Prop) {Post : ρ → Prop} (hn : n ≤ 9223372036854775807) (h0 : Inv 0)
    (h : ∀ i : Int, Inv i → 0 ≤ i → i ≤ n → Ok (step i) (InlR (fun a => i < n ∧ a = i + 1 ∧ Inv (i + 1)) Post)) : Ok (loop step 0) Post := by
  refine ok_loop (fun i : Int => Inv i ∧ 0 ≤ i ∧ i ≤ (n : Int)) (fun i : Int => ((n : Int) - i).toNat) (fun i hi => (h i hi.1 hi.2.1 hi.2.2).mono ?_) ⟨h0, by omega, by omega⟩ (by simp [manyRounds]; omega)
  rintro (a | b) hr
  · obtain ⟨h1, rfl, h3⟩ : i < n ∧ a = i + 1 ∧ Inv (i + 1) := hr
    exact ⟨⟨h3, by omega, by omega⟩, by omega⟩
  · exact hr
theorem room_ok {b n : Nat} (h1 : n * b ≤ 140737488355328) (h2 : n ≤ 9223372036854775807) : room b n = true := by
  simp only [room, Bool.and_eq_true]
  exact ⟨Nat.ble_eq_true_of_le h1, Nat.ble_eq_true_of_le h2⟩
inductive Desc (l : List api_Slice) (j : Int) : Int → Prop
  | self : Desc l j j
  | up {a : Int} {y : api_Slice} : 0 ≤ a → l[a.toNat]? = some y → Desc l j y.fParent → Desc l j a
theorem Desc.step {l : List api_Slice} {j a : Int} {y : api_Slice} (h0 : 0 ≤ a) (hy : l[a.toNat]? = some y) (hne : j ≠ a) : Desc l j a ↔ Desc l j y.fParent := by
  constructor
  · intro h
    cases h with
    | self => exact absurd rfl hne
    | up _ hy' h => rw [hy] at hy'; cases hy'; exact h
  · exact Desc.up h0 hy
theorem ok_up2M {σ ρ : Type} {step : σ × Int → Option ((σ × Int) ⊕ ρ)} (n : Nat) (Inv : σ → Nat → Prop) {Post : ρ → Prop} (hn : n ≤ 9223372036854775807) {s0 : σ} (h0 : Inv s0 0)
    (h : ∀ (s : σ) (i : Nat), Inv s i → i ≤ n → Ok (step (s, (i : Int))) (InlR (fun a => i < n ∧ a.2 = ((i + 1 : Nat) : Int) ∧ Inv a.1 (i + 1)) Post)) : Ok (loop step (s0, 0)) Post := by
  refine ok_up2 n (fun s i => Inv s i.toNat) hn h0 (fun s i hI h1 h2 => ?_)
  obtain ⟨k, rfl⟩ := Int.eq_ofNat_of_zero_le h1
  refine (h s k hI (by omega)).mono ?_
  rintro (⟨a, b⟩ | b) hr
  · obtain ⟨h3, h4, h5⟩ : k < n ∧ b = ((k + 1 : Nat) : Int) ∧ Inv a (k + 1) := hr
    refine ⟨by omega, by omega, ?_⟩
    rw [show ((k : Int) + 1).toNat = k + 1 by omega]; exact h5
  · exact hr
theorem ok_upM {ρ : Type} {step : Int → Option (Int ⊕ ρ)} (n : Nat) (Inv : Nat → Prop) {Post : ρ → Prop} (hn : n ≤ 9223372036854775807) (h0 : Inv 0)
    (h : ∀ i : Nat, Inv i → i ≤ n → Ok (step (i : Int)) (InlR (fun a => i < n ∧ a = ((i + 1 : Nat) : Int) ∧ Inv (i + 1)) Post)) : Ok (loop step 0) Post := by
  refine ok_upI n (fun i => Inv i.toNat) hn h0 (fun i hI h1 h2 => ?_)
  obtain ⟨k, rfl⟩ := Int.eq_ofNat_of_zero_le h1
  refine (h k hI (by omega)).mono ?_
  rintro (b | b) hr
  · obtain ⟨h3, h4, h5⟩ : k < n ∧ b = ((k + 1 : Nat) : Int) ∧ Inv (k + 1) := hr
    refine ⟨by omega, by omega, ?_⟩
    rw [show ((k : Int) + 1).toNat = k + 1 by omega]; exact h5
  · exact hr
theorem ok_ixM {α : Type} {xs : List α} {i : Nat} (h : i < xs.length) : Ok (idx xs (i : Int)) (fun y => xs[i]? = some y) := by
  rw [idx_nat]; exact ⟨xs[i], by simp [h], by simp [h]⟩
theorem w64_M {i n : Nat} (h : i < n) (hn : n ≤ 9223372036854775807) : w64 ((i : Int) + 1) = ((i + 1 : Nat) : Int) := by rw [w64_of (by omega)]; omega
theorem awake49 : tracebooklaw49_awake = some true := by kernel_rfl
def sumL : List Int → Int
  | [] => 0
  | x :: l => x + sumL l
theorem sumL_append (a b : List Int) : sumL (a ++ b) = sumL a + sumL b := by
  induction a with
  | nil => simp [sumL]
  | cons x a ih => simp only [List.cons_append, sumL, ih]; omega
theorem sumL_pos {l : List Int} (h : ∀ x ∈ l, 0 ≤ x) : 0 ≤ sumL l := by
  induction l with
  | nil => simp [sumL]
  | cons x l ih =>
    have := h x (by simp)
    have := ih (fun y hy => h y (by simp [hy]))
    simp only [sumL]; omega
theorem sumL_sub {a b : List Int} (hs : a.Sublist b) (h : ∀ x ∈ b, 0 ≤ x) : sumL a ≤ sumL b := by
  induction hs with
  | slnil => simp
  | cons x _ ih =>
    have := h x (by simp)
    have := ih (fun y hy => h y (by simp [hy]))
    simp only [sumL]; omega
  | cons_cons x _ ih =>
    have := ih (fun y hy => h y (by simp [hy]))
    simp only [sumL]; omega
theorem u64_of {n : Int} (h : 0 ≤ n ∧ n < 18446744073709551616) : IntKind.wrap .u64 n = n := by
  have e : (2 : Int) ^ (64 : Nat) = 18446744073709551616 := by decide
  simp only [IntKind.wrap, IntKind.bits, IntKind.signed, e, Bool.false_and, Bool.false_eq_true, if_false]
  omega
theorem shR_32 {a : Int} : shR .u64 a 32 = a / 4294967296 := by
  have e : (2 : Int) ^ min (32 : Int).toNat (IntKind.u64).bits = 4294967296 := by decide
  unfold shR
  rw [e, Int.fdiv_eq_ediv_of_nonneg _ (by omega)]
def bitsN (n : Nat) : Nat := if n = 0 then 0 else Nat.log2 n + 1
theorem bits_half {n : Nat} (h : 0 < n) : bitsN n = bitsN (n / 2) + 1 := by
  unfold bitsN
  rw [if_neg (by omega)]
  by_cases h1 : n / 2 = 0
  · rw [if_pos h1]
    have : n = 1 := by omega
    subst this; rfl
  · rw [if_neg h1, Nat.log2_def n, if_pos (by omega)]
theorem bits_shift (k : Nat) : ∀ n : Nat, 2 ^ k ≤ n → bitsN n = bitsN (n / 2 ^ k) + k := by
  induction k with
  | zero => intro n _; simp
  | succ k ih =>
    intro n h
    have hp : 0 < 2 ^ k := Nat.two_pow_pos k
    have h2 : 2 ^ (k + 1) = 2 ^ k * 2 := Nat.pow_succ 2 k
    rw [ih n (by omega)]
    have h3 : 0 < n / 2 ^ k := Nat.div_pos (by omega) hp
    rw [bits_half h3, Nat.div_div_eq_div_mul, ← h2]
    omega
theorem bits_top {n : Nat} (h : n < 9223372036854775808) : bitsN n ≤ 63 := by
  unfold bitsN
  split
  · omega
  · rename_i h0
    have := (Nat.log2_lt h0).2 (show n < 2 ^ 63 from h)
    omega
theorem bits_r (n : Nat) (h : n < 9223372036854775808) : tracebookref49_bits (n : Int) = some (bitsN n : Int) := by
  have hb := bits_top h
  have : Ok (tracebookref49_bits (n : Int)) (fun r => r = (bitsN n : Int)) := by
    unfold tracebookref49_bits
    refine ok_bind (Q := fun r => r = (bitsN n : Int)) (ok_loop (fun s : Int × Int => 0 ≤ s.1 ∧ s.1 ≤ n ∧ 0 ≤ s.2 ∧ s.2 + (bitsN s.1.toNat : Int) = bitsN n) (fun s => s.1.toNat) (fun s hs => ?_) ⟨by simp, by simp, by simp, by simp⟩ (by simp [manyRounds]; omega)) (fun r hr => ok_some hr)
    obtain ⟨a, b⟩ := s
    obtain ⟨h1, h2, h3, h4⟩ := hs
    simp only at h1 h2 h3 h4
    obtain ⟨a, rfl⟩ := Int.eq_ofNat_of_zero_le h1
    unfold tracebookref49_bits_L1
    dsimp only
    refine ok_ite (fun hp => ?_) (fun hp => ok_inr ?_)
    · have e : Int.tdiv (a : Int) 2 = ((a / 2 : Nat) : Int) := by rw [Int.tdiv_eq_ediv_of_nonneg (by omega)]; omega
      have hh := bits_half (n := a) (by omega)
      simp only [Int.toNat_natCast] at h4
      rw [e, w64_of (n := ((a / 2 : Nat) : Int)) (by omega), w64_of (n := b + 1) (by omega)]
      refine ok_inl ⟨⟨by simp only; omega, by simp only; omega, by simp only; omega, ?_⟩, by simp only [Int.toNat_natCast]; omega⟩
      simp only [Int.toNat_natCast]
      omega
    · have : a = 0 := by omega
      subst this
      simpa [bitsN] using h4
  obtain ⟨r, h1, h2⟩ := this
  rw [h1, h2]
theorem len_tab : (List.range 256).all (fun v => decide (math_bits_Len64 (v : Int) = some (bitsN v : Int))) = true := by kernel_rfl
theorem len_small {v : Nat} (h : v < 256) : math_bits_Len64 (v : Int) = some (bitsN v : Int) := of_decide_eq_true (List.all_eq_true.1 len_tab v (List.mem_range.2 h))
theorem shR_16 {a : Int} : shR .u64 a 16 = a / 65536 := by
  have e : (2 : Int) ^ min (16 : Int).toNat (IntKind.u64).bits = 65536 := by decide
  unfold shR
  rw [e, Int.fdiv_eq_ediv_of_nonneg _ (by omega)]
theorem shR_8 {a : Int} : shR .u64 a 8 = a / 256 := by
  have e : (2 : Int) ^ min (8 : Int).toNat (IntKind.u64).bits = 256 := by decide
  unfold shR
  rw [e, Int.fdiv_eq_ediv_of_nonneg _ (by omega)]
theorem bits_p (n : Nat) (h : n < 9223372036854775808) : math_bits_Len (IntKind.wrap .u64 (n : Int)) = some (bitsN n : Int) := by
  have hb := bits_top h
  have h1 : ∃ (v : Nat) (c : Nat), ((bif (decide (4294967296 ≤ (n : Int))) then some ((shR .u64 (n : Int) 32), 32) else some ((n : Int), 0)) : Option (Int × Int)) = some ((v : Int), (c : Int)) ∧ v < 4294967296 ∧ bitsN n = bitsN v + c := by
    by_cases g : 4294967296 ≤ n
    · refine ⟨n / 2 ^ 32, 32, ?_, by omega, bits_shift 32 n g⟩
      have : 4294967296 ≤ (n : Int) := by omega
      rw [decide_eq_true this, cond_true, shR_32]
      congr 2
    · refine ⟨n, 0, ?_, by omega, rfl⟩
      have : ¬ 4294967296 ≤ (n : Int) := by omega
      rw [decide_eq_false this, cond_false]
      rfl
  obtain ⟨v1, c1, e1, b1, s1⟩ := h1
  have h2 : ∃ (v : Nat) (c : Nat), ((bif (decide (65536 ≤ (v1 : Int))) then some ((shR .u64 (v1 : Int) 16), (w64 ((c1 : Int) + 16))) else some ((v1 : Int), (c1 : Int))) : Option (Int × Int)) = some ((v : Int), (c : Int)) ∧ v < 65536 ∧ bitsN n = bitsN v + c := by
    by_cases g : 65536 ≤ v1
    · refine ⟨v1 / 2 ^ 16, c1 + 16, ?_, by omega, by rw [s1, bits_shift 16 v1 g]; omega⟩
      have : 65536 ≤ (v1 : Int) := by omega
      have := bits_shift 16 v1 g
      rw [decide_eq_true (by omega : 65536 ≤ (v1 : Int)), cond_true, shR_16, w64_of (by omega)]
      congr 2
    · refine ⟨v1, c1, ?_, by omega, s1⟩
      rw [decide_eq_false (by omega : ¬ 65536 ≤ (v1 : Int)), cond_false]
  obtain ⟨v2, c2, e2, b2, s2⟩ := h2
  have h3 : ∃ (v : Nat) (c : Nat), ((bif (decide (256 ≤ (v2 : Int))) then some ((shR .u64 (v2 : Int) 8), (w64 ((c2 : Int) + 8))) else some ((v2 : Int), (c2 : Int))) : Option (Int × Int)) = some ((v : Int), (c : Int)) ∧ v < 256 ∧ bitsN n = bitsN v + c := by
    by_cases g : 256 ≤ v2
    · refine ⟨v2 / 2 ^ 8, c2 + 8, ?_, by omega, by rw [s2, bits_shift 8 v2 g]; omega⟩
      have := bits_shift 8 v2 g
      rw [decide_eq_true (by omega : 256 ≤ (v2 : Int)), cond_true, shR_8, w64_of (by omega)]
      congr 2
    · refine ⟨v2, c2, ?_, by omega, s2⟩
      rw [decide_eq_false (by omega : ¬ 256 ≤ (v2 : Int)), cond_false]
  obtain ⟨v3, c3, e3, b3, s3⟩ := h3
  have base := len_small b3
  unfold math_bits_Len
  rw [u64_of (by omega)]
  unfold math_bits_Len64 at base ⊢
  rw [e1, Option.bind_some]
  dsimp only
  rw [e2, Option.bind_some]
  dsimp only
  rw [e3, Option.bind_some]
  rw [decide_eq_false (by omega : ¬ 4294967296 ≤ (v3 : Int)), cond_false, Option.bind_some] at base
  dsimp only at base ⊢
  rw [decide_eq_false (by omega : ¬ 65536 ≤ (v3 : Int)), cond_false, Option.bind_some] at base
  dsimp only at base
  rw [decide_eq_false (by omega : ¬ 256 ≤ (v3 : Int)), cond_false, Option.bind_some] at base
  dsimp only at base
  obtain ⟨y, hy, base⟩ := bB base
  rw [hy, Option.bind_some, Option.bind_some]
  have yl := UInt8.toNat_lt y
  rw [w64_of (n := (y.toNat : Int)) (by omega), w64_of (n := 0 + (y.toNat : Int)) (by omega), Option.some.injEq] at base
  rw [w64_of (n := (y.toNat : Int)) (by omega), w64_of (by omega)]
  congr 1
  omega
def extH (h : List Int) (b : Nat) : List Int := h ++ List.replicate (b + 1 - h.length) 0
theorem ext_loop (b : Nat) (h : List Int) (hb : b ≤ 63) (hh : h.length ≤ 64) : loop (latency_Histogram_L1 (b : Int)) h = some (extH h b) := by
  have : Ok (loop (latency_Histogram_L1 (b : Int)) h) (fun r => r = extH h b) := by
    refine ok_loop (fun s : List Int => s.length ≤ 64 ∧ extH s b = extH h b) (fun s => 64 - s.length) (fun s hs => ?_) ⟨hh, rfl⟩ (by simp [manyRounds]; omega)
    obtain ⟨h1, h2⟩ := hs
    unfold latency_Histogram_L1
    refine ok_ite (fun hle => ?_) (fun hgt => ok_inr ?_)
    · rw [room_ok (by simp; omega) (by simp; omega)]
      refine ok_inl ⟨⟨by simp; omega, ?_⟩, by simp; omega⟩
      rw [← h2]
      unfold extH
      rw [List.length_append, List.append_assoc]
      congr 1
      have : b + 1 - s.length = (b + 1 - (s.length + [(0 : Int)].length)) + 1 := by simp; omega
      rw [this, List.replicate_succ]
      rfl
    · rw [← h2]
      unfold extH
      have : b + 1 - s.length = 0 := by omega
      rw [this]; simp
  obtain ⟨r, h1, h2⟩ := this
  rw [h1, h2]
theorem ext_len (h : List Int) (b : Nat) : (extH h b).length = max h.length (b + 1) := by
  unfold extH; rw [List.length_append, List.length_replicate]; omega
def addH (h : List Int) (y : Int) : List Int := if y < 0 then h else (extH h (bitsN y.toNat)).set (bitsN y.toNat) (((extH h (bitsN y.toNat))[bitsN y.toNat]?).getD 0 + 1)
def histN (l : List Int) : Nat → List Int
  | 0 => []
  | n + 1 => match l[n]? with
    | some y => addH (histN l n) y
    | none => histN l n
theorem sumL_rep0 (k : Nat) : sumL (List.replicate k 0) = 0 := by
  induction k with
  | zero => rfl
  | succ k ih => rw [List.replicate_succ]; simp only [sumL, ih]; rfl
theorem sumL_set : ∀ (l : List Int) (i : Nat) (x v : Int), l[i]? = some x → sumL (l.set i v) = sumL l - x + v
  | [], i, x, v, h => by simp at h
  | a :: l, 0, x, v, h => by simp at h; subst h; simp only [List.set_cons_zero, sumL]; omega
  | a :: l, i + 1, x, v, h => by
    have := sumL_set l i x v (by simpa using h)
    simp only [List.set_cons_succ, sumL, this]; omega
def nnN (l : List Int) (n : Nat) : Nat := ((l.take n).filter (fun y => decide (0 ≤ y))).length
theorem nnN_le (l : List Int) (n : Nat) : nnN l n ≤ n := by
  unfold nnN
  have := List.length_filter_le (fun y : Int => decide (0 ≤ y)) (l.take n)
  rw [List.length_take] at this; omega
theorem nnN_step {l : List Int} {i : Nat} {y : Int} (hy : l[i]? = some y) : nnN l (i + 1) = nnN l i + (if 0 ≤ y then 1 else 0) := by
  unfold nnN
  rw [List.take_add_one, hy]
  simp only [Option.toList_some, List.filter_append, List.length_append, List.filter_cons, List.filter_nil]
  by_cases g : 0 ≤ y <;> simp [g]
structure HiG (l : List Int) (n : Nat) (h : List Int) : Prop where
  len : h.length ≤ 64
  nn : ∀ x ∈ h, 0 ≤ x
  sum : sumL h = nnN l n
  last : ∀ x, h[h.length - 1]? = some x → 0 < x
theorem elt_le_sum {l : List Int} (h : ∀ x ∈ l, 0 ≤ x) {x : Int} (hx : x ∈ l) : x ≤ sumL l := by
  induction l with
  | nil => simp at hx
  | cons a l ih =>
    have h0 := h a (by simp)
    have hp := sumL_pos (l := l) (fun y hy => h y (by simp [hy]))
    simp only [sumL]
    rcases List.mem_cons.1 hx with rfl | hx
    · omega
    · have := ih (fun y hy => h y (by simp [hy])) hx
      omega
theorem HiG.step {l : List Int} {i : Nat} {h : List Int} (H : HiG l i h) {y : Int} (hy : l[i]? = some y) (hyt : y ≤ 9223372036854775807) : HiG l (i + 1) (addH h y) := by
  unfold addH
  by_cases hneg : y < 0
  · rw [if_pos hneg]
    exact ⟨H.len, H.nn, by rw [H.sum, nnN_step hy, if_neg (by omega)]; rfl, H.last⟩
  · rw [if_neg hneg]
    have hb := bits_top (n := y.toNat) (by omega)
    generalize bitsN y.toNat = b at *
    have hel := ext_len h b
    have hex : ∀ x ∈ extH h b, 0 ≤ x := by
      intro x hx
      unfold extH at hx
      rcases List.mem_append.1 hx with hx | hx
      · exact H.nn x hx
      · have := (List.mem_replicate.1 hx).2; omega
    have hes : sumL (extH h b) = sumL h := by unfold extH; rw [sumL_append, sumL_rep0]; omega
    obtain ⟨v, hv⟩ : ∃ v, (extH h b)[b]? = some v := ⟨_, List.getElem?_eq_getElem (by omega)⟩
    have hv0 := hex v (List.mem_of_getElem? hv)
    rw [hv]
    simp only [Option.getD_some]
    refine ⟨by rw [List.length_set]; have := H.len; omega, fun x hx => ?_, ?_, fun x hx => ?_⟩
    · rcases List.mem_or_eq_of_mem_set hx with hx | rfl
      · exact hex x hx
      · omega
    · rw [sumL_set _ _ _ _ hv, hes, H.sum, nnN_step hy, if_pos (by omega)]; omega
    · rw [List.length_set] at hx
      rw [List.getElem?_set] at hx
      by_cases e : b = (extH h b).length - 1
      · rw [if_pos e, if_pos (by omega)] at hx
        have := Option.some.inj hx
        omega
      · rw [if_neg e] at hx
        have hl : (extH h b).length = h.length := by omega
        have he : extH h b = h := by
          unfold extH
          have : b + 1 - h.length = 0 := by omega
          rw [this]; simp
        rw [he] at hx
        exact H.last x hx
theorem hist_step {l : List Int} {i : Nat} {h : List Int} (H : HiG l i h) (hi : i ≤ 1000) {y : Int} (hyt : y ≤ 9223372036854775807) (hneg : ¬ y < 0) : ((math_bits_Len (IntKind.wrap .u64 y)).bind fun r72 => ((loop (latency_Histogram_L1 r72) h).bind fun e83 => ((idx e83 r72).bind fun y84 => ((idx e83 r72).bind fun y85 => some (List.set e83 (Int.toNat r72) (w64 (y84 + 1))))))) = some (addH h y) := by
  have hb := bits_top (n := y.toNat) (by omega)
  have ey : y = ((y.toNat : Nat) : Int) := by omega
  have hbp := bits_p y.toNat (by omega)
  rw [← ey] at hbp
  rw [hbp, Option.bind_some]
  unfold addH
  rw [if_neg hneg]
  generalize bitsN y.toNat = b at *
  rw [ext_loop b h hb H.len, Option.bind_some]
  have hel := ext_len h b
  obtain ⟨v, hv⟩ : ∃ v, (extH h b)[b]? = some v := ⟨_, List.getElem?_eq_getElem (by omega)⟩
  have hex : ∀ x ∈ extH h b, 0 ≤ x := by
    intro x hx
    unfold extH at hx
    rcases List.mem_append.1 hx with hx | hx
    · exact H.nn x hx
    · have := (List.mem_replicate.1 hx).2; omega
  have hes : sumL (extH h b) = sumL h := by unfold extH; rw [sumL_append, sumL_rep0]; omega
  have hv0 := hex v (List.mem_of_getElem? hv)
  have hv1 := elt_le_sum hex (List.mem_of_getElem? hv)
  have hnn := nnN_le l i
  have hsum := H.sum
  rw [idx_nat, hv]
  simp only [Option.bind_some, Option.getD_some, Int.toNat_natCast]
  rw [w64_of (by omega)]
theorem hist_p (l : List Int) (h : l.length ≤ 1000) (hx : ∀ y ∈ l, y ≤ 9223372036854775807) : Ok (latency_Histogram l) (fun r => r = histN l l.length ∧ HiG l l.length r) := by
  unfold latency_Histogram
  refine ok_bind (Q := fun r => r = histN l l.length ∧ HiG l l.length r) (ok_up2M l.length (fun a n => a = histN l n ∧ HiG l n a) (by omega) ⟨rfl, ⟨by simp, by simp, by simp [sumL, nnN], by simp⟩⟩ (fun a i hI h2 => ?_)) (fun r hr => ok_some hr)
  obtain ⟨ha, H⟩ := hI
  unfold latency_Histogram_L2
  dsimp only
  refine ok_ite (fun hi => ?_) (fun hi => ok_inr (by have e : i = l.length := by omega
                                                     subst e; exact ⟨ha, H⟩))
  obtain ⟨y, hiy, hy⟩ := ok_ixM (xs := l) (i := i) (by omega)
  have hyt := hx y (List.mem_of_getElem? hy)
  refine ok_bind (Q := fun r => r = addH a y) ?_ (fun r hr => ?_)
  · rw [hiy, Option.bind_some]
    refine ok_ite (fun g => ok_some (by unfold addH; rw [if_pos g])) (fun g => ?_)
    rw [hist_step H (by omega) hyt g]
    exact ok_some rfl
  · rw [w64_M (n := l.length) (by omega) (by omega)]
    refine ok_inl ⟨by omega, rfl, ?_, by rw [hr]; exact H.step hy hyt⟩
    rw [hr, ha]
    simp only [histN, hy]
theorem hist_r (l : List Int) (h : l.length ≤ 1000) (hx : ∀ y ∈ l, y ≤ 9223372036854775807) : tracebookref49_Histogram l = some (histN l l.length) := by
  have : Ok (tracebookref49_Histogram l) (fun r => r = histN l l.length) := by
    unfold tracebookref49_Histogram
    refine ok_bind (Q := fun r => r = histN l l.length) (ok_up2M l.length (fun a n => a = histN l n ∧ HiG l n a) (by omega) ⟨rfl, ⟨by simp, by simp, by simp [sumL, nnN], by simp⟩⟩ (fun a i hI h2 => ?_)) (fun r hr => ok_some hr)
    obtain ⟨ha, H⟩ := hI
    unfold tracebookref49_Histogram_L2
    dsimp only
    refine ok_ite (fun hi => ?_) (fun hi => ok_inr (by have e : i = l.length := by omega
                                                       subst e; exact ha))
    obtain ⟨y, hiy, hy⟩ := ok_ixM (xs := l) (i := i) (by omega)
    have hyt := hx y (List.mem_of_getElem? hy)
    refine ok_bind (Q := fun r => r = addH a y) ?_ (fun r hr => ?_)
    · rw [hiy, Option.bind_some]
      refine ok_ite (fun g => ok_some (by unfold addH; rw [if_pos g])) (fun g => ?_)
      have hb := hist_step H (by omega) hyt g
      have ey : y = ((y.toNat : Nat) : Int) := by omega
      have hbp := bits_p y.toNat (by omega)
      have hbr := bits_r y.toNat (by omega)
      rw [← ey] at hbp hbr
      rw [hbp, Option.bind_some] at hb
      have hl : tracebookref49_Histogram_L1 l (i : Int) = latency_Histogram_L1 (bitsN y.toNat : Int) := by
        funext x
        unfold tracebookref49_Histogram_L1 latency_Histogram_L1
        rw [hiy, Option.bind_some, hbr, Option.bind_some]
      rw [hl]
      cases hc : loop (latency_Histogram_L1 (bitsN y.toNat : Int)) a with
      | none => rw [hc] at hb; simp at hb
      | some e83 =>
        rw [hc, Option.bind_some] at hb
        rw [Option.bind_some, Option.bind_some, hbr, Option.bind_some, hb]
        exact ok_some rfl
    · rw [w64_M (n := l.length) (by omega) (by omega)]
      refine ok_inl ⟨by omega, rfl, ?_, by rw [hr]; exact H.step hy hyt⟩
      rw [hr, ha]
      simp only [histN, hy]
  obtain ⟨r, h1, h2⟩ := this
  rw [h1, h2]
theorem sameInts_p (l : List Int) (h : l.length ≤ 1000000) : tracebookref49_SameInts l l = some true := by
  unfold tracebookref49_SameInts
  have : Ok (loop (tracebookref49_SameInts_L1 l l) 0) (fun q => q = .inl ()) := by
    refine ok_upM l.length (fun _ => True) (by omega) trivial (fun i _ h2 => ?_)
    unfold tracebookref49_SameInts_L1
    refine ok_ite (fun hi => ?_) (fun _ => ok_inr rfl)
    obtain ⟨y, hiy, hy⟩ := ok_ixM (xs := l) (i := i) (by omega)
    rw [hiy, Option.bind_some, Option.bind_some]
    refine ok_nite (fun hne => absurd rfl hne) (fun _ => ?_)
    rw [w64_M (n := l.length) (by omega) (by omega)]
    exact ok_inl ⟨by omega, rfl, trivial⟩
  obtain ⟨q, h1, h2⟩ := this
  rw [h1, h2]
  simp
theorem latencyHistogram_holds (l : List Int) (h : okL okr_i64 l) : tracebooklaw49_LatencyHistogram l = some true := by
  have hx : ∀ y ∈ l, y ≤ 9223372036854775807 := fun y hy => (inI64 (h.2 y hy)).2
  unfold tracebooklaw49_LatencyHistogram
  rw [awake49]
  by_cases g : (1000 : Int) < l.length
  · rw [decide_eq_true g]; rfl
  · rw [decide_eq_false g, cond_false]
    obtain ⟨r, h1, h2, H⟩ := hist_p l (by omega) hx
    rw [h1, Option.bind_some]
    have hn := nnN_le l l.length
    have e1 : loop (tracebooklaw49_LatencyHistogram_L2 l) (0, 0) = some (nnN l l.length : Int) := by
      have : Ok (loop (tracebooklaw49_LatencyHistogram_L2 l) (0, 0)) (fun q => q = (nnN l l.length : Int)) := by
        refine ok_up2M l.length (fun x n => x = (nnN l n : Int)) (by omega) (by simp [nnN]) (fun x i hI h2 => ?_)
        have hi2 := nnN_le l i
        unfold tracebooklaw49_LatencyHistogram_L2
        dsimp only
        refine ok_ite (fun hi => ?_) (fun hi => ok_inr (by rw [hI, show i = l.length by omega]))
        obtain ⟨y, hiy, hy⟩ := ok_ixM (xs := l) (i := i) (by omega)
        refine ok_bind (Q := fun q => q = (nnN l (i + 1) : Int)) ?_ (fun q hq => ?_)
        · rw [hiy, Option.bind_some, nnN_step hy]
          refine ok_ite (fun e => ok_some ?_) (fun e => ok_some ?_)
          · rw [if_pos e, hI, w64_of (by omega)]; omega
          · rw [if_neg e, hI]; rfl
        · rw [w64_M (n := l.length) (by omega) (by omega)]
          exact ok_inl ⟨by omega, rfl, hq⟩
      obtain ⟨q, h1, h2⟩ := this
      rw [h1, h2]
    rw [e1, Option.bind_some]
    have hlen := H.len
    have hsum := H.sum
    have hnn := H.nn
    have e2 : loop (tracebooklaw49_LatencyHistogram_L1 r) ((nnN l l.length : Int), 0) = some 0 := by
      have : Ok (loop (tracebooklaw49_LatencyHistogram_L1 r) ((nnN l l.length : Int), 0)) (fun q => q = 0) := by
        refine ok_up2M r.length (fun x n => x = (nnN l l.length : Int) - sumL (r.take n)) (by omega) (by simp [sumL]) (fun x i hI h2 => ?_)
        unfold tracebooklaw49_LatencyHistogram_L1
        dsimp only
        refine ok_ite (fun hi => ?_) (fun hi => ok_inr (by rw [hI, List.take_of_length_le (by omega)]; omega))
        obtain ⟨y, hiy, hy⟩ := ok_ixM (xs := r) (i := i) (by omega)
        have st : sumL (r.take (i + 1)) = sumL (r.take i) + y := by
          rw [List.take_add_one, hy, sumL_append]; simp [sumL]
        have p1 := sumL_sub (List.take_sublist i r) hnn
        have p2 := sumL_pos (l := r.take i) (fun z hz => hnn z (List.mem_of_mem_take hz))
        have p3 := hnn y (List.mem_of_getElem? hy)
        have p4 := sumL_sub (List.take_sublist (i + 1) r) hnn
        rw [hiy, Option.bind_some, w64_M (n := r.length) (by omega) (by omega), w64_of (by omega)]
        exact ok_inl ⟨by omega, rfl, by rw [st, hI]; omega⟩
      obtain ⟨q, h1, h2⟩ := this
      rw [h1, h2]
    rw [e2, Option.bind_some, hist_r l (by omega) hx, Option.bind_some, ← h2, sameInts_p r (by omega)]
    simp only [Option.bind_some, cond_true, decide_true]
    by_cases h0 : (r.length : Int) = 0
    · simp [h0]
    · obtain ⟨y, hy, hy2⟩ := ok_idx (xs := r) (i := (r.length : Int) - 1) (by omega) (by omega)
      have := H.last y (by rw [← hy2]; congr 1; omega)
      rw [w64_of (by omega), hy, Option.bind_some, decide_eq_false h0, decide_eq_true this]
      rfl
end Go.VM
