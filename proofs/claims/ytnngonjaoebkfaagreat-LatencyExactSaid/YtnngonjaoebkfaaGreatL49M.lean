/- The law holds: plain mathematics on what the functions compute. -/
import Derived.Test.YtnngonjaoebkfaaGreatL49M1
namespace Go.VM
theorem first_ok (S : List DS) (hn : S.length ≤ 1000000) (hS : S.Pairwise (fun x y => x.2 < y.2)) :
  Ok ((loop (slices_stableCmpFunc_api_State_k1_L3 (S.length : Int)) (S.map (·.1), 0, 20)).bind fun (e19, e20) => (slices_insertionSortCmpFunc_api_State_k1 e19 e20 (S.length : Int))) (fun r => ∃ L : List (List DS), r = L.flatten.map (·.1) ∧ Bk 20 L ∧ Bs S L) := by
 refine ok_bind (Q := fun s : List api_State × Int => ∃ (M : List (List DS)) (T : List DS), s = ((M.flatten ++ T).map (·.1), (M.flatten.length : Int)) ∧ (∀ X ∈ M, X.length = 20) ∧ T.length < 20 ∧ T.Pairwise (fun x y => x.2 < y.2) ∧ (∀ X ∈ M, X.Pairwise lt) ∧ M.Pairwise (fun X Y => ∀ x ∈ X, ∀ y ∈ Y, x.2 < y.2) ∧ (∀ X ∈ M, ∀ x ∈ X, ∀ y ∈ T, x.2 < y.2) ∧ (M.flatten ++ T).Perm S)
  (ok_loop (fun s : List api_State × Int × Int => ∃ (M : List (List DS)) (T : List DS), s.1 = (M.flatten ++ T).map (·.1) ∧ s.2.1 = (M.flatten.length : Nat) ∧ s.2.2 = (M.flatten.length + 20 : Nat) ∧ (∀ X ∈ M, X.length = 20) ∧ T.Pairwise (fun x y => x.2 < y.2) ∧ (∀ X ∈ M, X.Pairwise lt) ∧ M.Pairwise (fun X Y => ∀ x ∈ X, ∀ y ∈ Y, x.2 < y.2) ∧ (∀ X ∈ M, ∀ x ∈ X, ∀ y ∈ T, x.2 < y.2) ∧ (M.flatten ++ T).Perm S) (fun s => ((S.length + 21 : Nat) - s.2.2).toNat) (fun s hs => ?_) ⟨[], S, by simp, by simp, by simp, by simp, hS, by simp, List.Pairwise.nil, by simp, by simp⟩ (by simp [manyRounds]; omega)) (fun s hs => ?_)
 ·obtain ⟨a, i, j⟩ := s
  obtain ⟨M, T, h1, h2, h3, h4, h5, h6, h7, h8, h9⟩ := hs
  simp only at h1 h2 h3
  subst h1 h2 h3
  have hlen : M.flatten.length + T.length = S.length := by have := h9.length_eq; rw [List.length_append] at this; exact this
  unfold slices_stableCmpFunc_api_State_k1_L3
  dsimp only
  refine ok_ite (fun hle => ?_) (fun hgt => ok_inr ⟨M, T, rfl, h4, by omega, h5, h6, h7, h8, h9⟩)
  have hT : T = T.take 20 ++ T.drop 20 := (List.take_append_drop _ _).symm
  have t1 : (T.take 20).length = 20 := by rw [List.length_take]; omega
  have s5 := h5
  rw [hT, List.pairwise_append] at s5
  have hi := insSort_ok M.flatten (T.take 20) (T.drop 20) s5.1 (by rw [List.append_assoc, List.take_append_drop, List.length_append]; omega) (M.flatten.length : Int) ((M.flatten.length + 20 : Nat) : Int) rfl (by rw [t1])
  rw [List.append_assoc, List.take_append_drop] at hi
  refine ok_bind hi (fun r hr => ?_)
  obtain ⟨C, rfl, c1, c2⟩ := hr
  have lC : C.length = 20 := by rw [c1.length_eq, t1]
  have hfl : (M ++ [C]).flatten.length = M.flatten.length + 20 := by simp [lC]
  rw [w64_of (by omega)]
  refine ok_inl ⟨⟨M ++ [C], T.drop 20, by simp, by simp only; omega, by simp only; omega, fun X hX => ?_, s5.2.1, fun X hX => ?_, List.pairwise_append.2 ⟨h7, List.pairwise_singleton _ _, fun X hX Y hY x hx y hy => ?_⟩, fun X hX x hx y hy => ?_, ?_⟩, by simp only; omega⟩
  ·rcases List.mem_append.1 hX with hX | hX
   ·exact h4 X hX
   ·simp at hX; subst hX; exact lC
  ·rcases List.mem_append.1 hX with hX | hX
   ·exact h6 X hX
   ·simp at hX; subst hX; exact c2
  ·simp at hY; subst hY
   exact h8 X hX x hx y (List.mem_of_mem_take (c1.mem_iff.1 hy))
  ·rcases List.mem_append.1 hX with hX | hX
   ·exact h8 X hX x hx y (List.mem_of_mem_drop hy)
   ·simp at hX; subst hX
    exact s5.2.2 x (c1.mem_iff.1 hx) y hy
  ·refine List.Perm.trans ?_ h9
   simp only [List.flatten_append, List.flatten_cons, List.flatten_nil, List.append_nil, List.append_assoc]
   refine List.Perm.append_left _ ?_
   have := c1.append_right (T.drop 20)
   rwa [List.take_append_drop] at this
 ·obtain ⟨M, T, rfl, h4, h3, h5, h6, h7, h8, h9⟩ := hs
  have hlen : M.flatten.length + T.length = S.length := by have := h9.length_eq; rw [List.length_append] at this; exact this
  dsimp only
  have hi := insSort_ok M.flatten T [] h5 (by simp only [List.length_append, List.length_nil]; omega) (M.flatten.length : Int) (S.length : Int) rfl (by rw [← hlen])
  rw [List.append_nil] at hi
  refine hi.mono (fun r hr => ?_)
  obtain ⟨C, rfl, c1, c2⟩ := hr
  by_cases hT : T = []
  ·subst hT
   have hC : C = [] := List.eq_nil_of_length_eq_zero (by rw [c1.length_eq]; rfl)
   subst hC
   refine ⟨M, by simp, ?_, h6, h7, by simpa using h9⟩
   have := Bk_app (bs := 20) (by omega) M [] h4 trivial
   simpa using this
  ·have hp := List.length_pos_iff.2 hT
   have lC : C.length = T.length := c1.length_eq
   refine ⟨M ++ [C], by simp, Bk_app (by omega) M [C] h4 ⟨by omega, by omega⟩, fun X hX => ?_, List.pairwise_append.2 ⟨h7, List.pairwise_singleton _ _, fun X hX Y hY x hx y hy => ?_⟩, ?_⟩
   ·rcases List.mem_append.1 hX with hX | hX
    ·exact h6 X hX
    ·simp at hX; subst hX; exact c2
   ·simp at hY; subst hY
    exact h8 X hX x hx y (c1.mem_iff.1 hy)
   ·refine List.Perm.trans ?_ h9
    simp only [List.flatten_append, List.flatten_cons, List.flatten_nil, List.append_nil]
    exact c1.append_left _
theorem stable_ok (S : List DS) (hn : S.length ≤ 1000000) (hS : S.Pairwise (fun x y => x.2 < y.2)) : Ok (slices_stableCmpFunc_api_State_k1 (S.map (·.1)) (S.length : Int)) (fun r => ∃ C : List DS, r = C.map (·.1) ∧ C.Perm S ∧ C.Pairwise lt) := by
 unfold slices_stableCmpFunc_api_State_k1
 have h1 := first_ok S hn hS
 obtain ⟨r21, hr, L, rfl, hk, hb⟩ := h1
 obtain ⟨⟨e19, e20⟩, ha, hr⟩ := bB hr
 rw [ha, Option.bind_some]
 dsimp only at hr ⊢
 rw [hr, Option.bind_some]
 refine ok_loop (fun s : List api_State × Int => ∃ (bs : Nat) (L : List (List DS)), 20 ≤ bs ∧ s.1 = L.flatten.map (·.1) ∧ s.2 = (bs : Int) ∧ Bk bs L ∧ Bs S L) (fun s => ((S.length : Int) - s.2).toNat) (fun s hs => ?_) ⟨20, L, by omega, rfl, rfl, hk, hb⟩ (by simp [manyRounds]; omega)
 obtain ⟨a, b⟩ := s
 obtain ⟨bs, L, h20, h2, h3, h4, h5⟩ := hs
 simp only at h2 h3
 subst h2 h3
 unfold slices_stableCmpFunc_api_State_k1_L2
 dsimp only
 refine ok_ite (fun hlt => ?_) (fun hge => ok_inr ?_)
 ·obtain ⟨v, hv, L', rfl, k1, k2⟩ := round_ok S hn bs (by omega) (by omega) L h4 h5
  obtain ⟨⟨e100, e101⟩, hp, hv⟩ := bB hv
  rw [hp, Option.bind_some]
  dsimp only at hv ⊢
  rw [hv, Option.bind_some, w64_of (by omega)]
  exact ok_inl ⟨⟨2 * bs, L', by omega, rfl, by simp only; omega, k1, k2⟩, by simp only; omega⟩
 ·have hlen : L.flatten.length = S.length := h5.prm.length_eq
  match L, h4, h5, hlen with
  | [], _, h5, _ => exact ⟨[], rfl, by simpa using h5.prm, List.Pairwise.nil⟩
  | [X], _, h5, _ => exact ⟨X, by simp, by simpa using h5.prm, h5.srt X (by simp)⟩
  | X :: Y :: r, h4, _, hlen =>
   exfalso
   have h8 := h4.1
   have h9 : 0 < Y.length := by
    cases r with
    | nil => exact h4.2.1
    | cons Z r => have := h4.2.1; omega
   simp only [List.flatten_cons, List.length_append] at hlen
   omega
theorem zip_pair (w : List api_State) : w.zipIdx.Pairwise (fun x y : DS => x.2 < y.2) := by
 have h : (w.zipIdx.map (fun x : DS => x.2)).Pairwise (· < ·) := by
  have : w.zipIdx.map (fun x : DS => x.2) = List.range' 0 w.length := by
   have := List.zipIdx_map_snd 0 w
   exact this
  rw [this]
  exact List.pairwise_lt_range' ..
 exact List.pairwise_map.1 h
theorem zip_fst (w : List api_State) : w.zipIdx.map (fun x : DS => x.1) = w := List.zipIdx_map_fst 0 w
theorem sortStable_ok (w : List api_State) (h : w.length ≤ 1000000) : Ok (slices_SortStableFunc_api_State_api_State_k1 w) (fun r => ∃ C : List DS, r = C.map (·.1) ∧ C.Perm w.zipIdx ∧ C.Pairwise lt) := by
 unfold slices_SortStableFunc_api_State_api_State_k1
 have hl : w.zipIdx.length = w.length := by simp
 have := stable_ok w.zipIdx (by omega) (zip_pair w)
 rw [zip_fst, hl] at this
 exact ok_bind this (fun r hr => ok_some hr)
theorem lt_unique : ∀ a b : List DS, a.Perm b → a.Pairwise lt → b.Pairwise lt → a = b
 | [], b, h, _, _ => (List.nil_perm.1 h).symm ▸ rfl
 | x :: a, [], h, _, _ => by have := h.length_eq; simp at this
 | x :: a, y :: b, h, ha, hb => by
  have ha' := List.pairwise_cons.1 ha
  have hb' := List.pairwise_cons.1 hb
  have e : x = y := by
   rcases List.mem_cons.1 (h.mem_iff.2 (List.mem_cons_self : y ∈ y :: b)) with e | e
   ·exact e.symm
   ·rcases List.mem_cons.1 (h.mem_iff.1 (List.mem_cons_self : x ∈ x :: a)) with e2 | e2
    ·exact e2
    ·exact (lt_irr (ha'.1 y e) (hb'.1 x e2)).elim
  subst e
  rw [lt_unique a b h.cons_inv ha'.2 hb'.2]
def wortL (w : List api_State) : List api_State := (slices_SortStableFunc_api_State_api_State_k1 w).getD []
theorem wort_p (w : List api_State) (h : w.length ≤ 1000000) : slices_SortStableFunc_api_State_api_State_k1 w = some (wortL w) ∧ ∃ C : List DS, wortL w = C.map (fun x => x.1) ∧ C.Perm w.zipIdx ∧ C.Pairwise lt := by
 obtain ⟨r, h1, C, rfl, h3⟩ := sortStable_ok w h
 unfold wortL
 rw [h1]
 exact ⟨rfl, C, rfl, h3⟩
theorem zip_at {w : List api_State} {i : Nat} {x : api_State} (h : w[i]? = some x) : w.zipIdx[i]? = some (x, i) := by
 rw [List.getElem?_zipIdx, h]; simp
theorem worst_r (w : List api_State) (h : w.length ≤ 1000) : loop (tracebookref49_Worst_L2 w) ([], 0) = some (wortL w) := by
 have : Ok (loop (tracebookref49_Worst_L2 w) ([], 0)) (fun r => r = wortL w) := by
  obtain ⟨_, D, d1, d2, d3⟩ := wort_p w (by omega)
  refine ok_up2M w.length (fun a i => ∃ C : List DS, a = C.map (fun x => x.1) ∧ C.Perm (w.zipIdx.take i) ∧ C.Pairwise lt) (by omega) ⟨[], rfl, by simp, List.Pairwise.nil⟩ (fun a i hI h2 => ?_)
  obtain ⟨C, rfl, c1, c2⟩ := hI
  have hz : w.zipIdx.length = w.length := by simp
  have hcl : C.length ≤ i := by rw [c1.length_eq, List.length_take]; omega
  unfold tracebookref49_Worst_L2
  dsimp only
  refine ok_ite (fun hi => ?_) (fun hi => ok_inr ?_)
  ·obtain ⟨x, hix, hx⟩ := ok_ixM (xs := w) (i := i) (by omega)
   have hxz := zip_at hx
   have hidx : ∀ y ∈ C, y.2 < i := by
    intro y hy
    have hy2 := c1.mem_iff.1 hy
    obtain ⟨q, hq, rfl⟩ := List.mem_take_iff_getElem.1 hy2
    have := zip_pair w
    have := List.pairwise_iff_getElem.1 this q i (by omega) (by omega) (by omega)
    rw [List.getElem?_eq_getElem (by omega)] at hxz
    have e := Option.some.inj hxz
    rw [e] at this
    exact this
   have hcm : (C.map (fun x : DS => x.1)).length = C.length := by simp
   refine ok_bind (Q := fun e : Int => ∃ q : Nat, e = (q : Int) ∧ q ≤ C.length ∧ (∀ (j : Nat) y, q ≤ j → C[j]? = some y → lenT y.1 < lenT x) ∧ (∀ (j : Nat) y, j < q → C[j]? = some y → lenT x ≤ lenT y.1)) (ok_loop (fun s : Int => ∃ q : Nat, s = (q : Int) ∧ q ≤ C.length ∧ ∀ (j : Nat) y, q ≤ j → C[j]? = some y → lenT y.1 < lenT x) (fun s => s.toNat) (fun s hs => ?_) ⟨C.length, by rw [hcm], by omega, fun j y h1 h2 => by have := lt_of_get h2; omega⟩ (by simp [manyRounds]; omega)) (fun e he => ?_)
   ·obtain ⟨q, rfl, q1, q2⟩ := hs
    unfold tracebookref49_Worst_L1
    by_cases g : (0 : Int) < (q : Int)
    ·obtain ⟨y, hy⟩ : ∃ y, C[q - 1]? = some y := ⟨_, List.getElem?_eq_getElem (by omega)⟩
     have hq1 : w64 ((q : Int) - 1) = ((q - 1 : Nat) : Int) := by rw [w64_of (by omega)]; omega
     have hym : (C.map (fun x : DS => x.1))[q - 1]? = some y.1 := by rw [List.getElem?_map, hy]; rfl
     unfold tracebookref49_length
     rw [decide_eq_true g, cond_true, hq1, idx_nat, hym, hix]
     simp only [Option.bind_some]
     refine ok_ite (fun hlt => ok_inl ⟨⟨q - 1, rfl, by omega, fun j z hj hz => ?_⟩, by omega⟩) (fun hge => ok_inr ⟨q, rfl, q1, q2, fun j z hj hz => ?_⟩)
     ·by_cases e : q ≤ j
      ·exact q2 j z e hz
      ·have : j = q - 1 := by omega
       subst this; rw [hy] at hz; cases hz; exact hlt
     ·have := key_le c2 hz hy (by omega)
      change ¬ lenT y.1 < lenT x at hge
      omega
    ·rw [decide_eq_false g]
     simp only [cond_false, Option.bind_some]
     exact ok_inr ⟨q, rfl, q1, q2, fun j y hj => by omega⟩
   ·obtain ⟨q, rfl, q1, q2, q3⟩ := he
    have s1 : slcPart (C.map (fun x : DS => x.1)) 0 (q : Int) = some ((C.take q).map (fun x => x.1)) := by
     unfold slcPart; rw [if_pos ⟨by omega, by omega, by omega⟩]; simp
    have s2 : slcPart (C.map (fun x : DS => x.1)) (q : Int) ((C.map (fun x : DS => x.1)).length : Int) = some ((C.drop q).map (fun x => x.1)) := by
     unfold slcPart; rw [if_pos ⟨by omega, by omega, by omega⟩]
     rw [Int.toNat_natCast, Int.toNat_natCast, List.take_length, ← List.map_drop]
    rw [s1, s2, hix]
    simp only [Option.bind_some]
    have l1 : ((C.take q).map (fun x : DS => x.1)).length ≤ 1000 := by rw [List.length_map, List.length_take]; omega
    have l2 : ((C.drop q).map (fun x : DS => x.1)).length ≤ 1000 := by rw [List.length_map, List.length_drop]; omega
    rw [room_ok (by simp only [List.length_nil]; omega) (by simp only [List.length_nil]; omega)]
    simp only [cond_true, List.nil_append]
    rw [room_ok (by simp only [List.length_cons, List.length_nil]; omega) (by simp only [List.length_cons, List.length_nil]; omega)]
    simp only [cond_true]
    rw [room_ok (by simp only [List.length_append, List.length_cons, List.length_nil]; omega) (by simp only [List.length_append, List.length_cons, List.length_nil]; omega)]
    simp only [cond_true]
    rw [w64_M (n := w.length) (by omega) (by omega)]
    refine ok_inl ⟨by omega, rfl, C.take q ++ (x, i) :: C.drop q, by simp only [List.map_append, List.map_cons, List.append_assoc, List.cons_append, List.nil_append], ?_, ins_sorted (by rw [List.take_append_drop]; exact c2) (fun y hy => ?_) (fun y hy => ?_)⟩
    ·refine List.perm_middle.trans ?_
     rw [List.take_append_drop, List.take_add_one, hxz]
     simp only [Option.toList_some]
     exact (c1.cons _).trans (List.perm_append_singleton _ _).symm
    ·obtain ⟨k, hk, rfl⟩ := List.mem_take_iff_getElem.1 hy
     have h3 := q3 k C[k] (by omega) (List.getElem?_eq_getElem (by omega))
     have h4 := hidx C[k] (List.getElem_mem _)
     unfold lt; simp only; omega
    ·obtain ⟨k, hk, rfl⟩ := List.mem_drop_iff_getElem.1 hy
     have h3 := q2 (q + k) C[q + k] (by omega) (List.getElem?_eq_getElem (by omega))
     exact .inl h3
  ·rw [List.take_of_length_le (by omega)] at c1
   rw [d1, lt_unique C D (c1.trans d2.symm) c2 d3]
 obtain ⟨r, h1, h2⟩ := this
 rw [h1, h2]
theorem wort_len (w : List api_State) (h : w.length ≤ 1000000) : (wortL w).length = w.length := by
 obtain ⟨_, C, h1, h2, _⟩ := wort_p w h
 rw [h1, List.length_map, h2.length_eq]; simp
theorem refWorst_eq (t : api_Trace) (n : Int) (hz : Siz t) (ht : t.fThreads.length ≤ 1000000) (hs : t.fStates.length ≤ 300) : tracebookref49_Worst t n = latency_Worst t n := by
 unfold tracebookref49_Worst latency_Worst
 rw [← trace_Check_eq t hz ht]
 obtain ⟨r, hr, _⟩ := trace_Check_ok t hz ht
 rw [hr, Option.bind_some, Option.bind_some]
 by_cases e : r = 0
 ·subst e
  have := waitsN_len t.fStates t.fStates.length
  have hw : (waitsL t.fStates).length ≤ 300 := by unfold waitsL; omega
  rw [waits_p t (by omega), waits_r _ (by omega), Option.bind_some, Option.bind_some, worst_r _ (by omega), (wort_p _ (by omega)).1]
 ·simp [e]
theorem Worst_p (t : api_Trace) (n : Int) (e : trace_Check t = some 0) (hs : t.fStates.length ≤ 300) : latency_Worst t n = some (if n < 0 then ([], 2) else ((wortL (waitsL t.fStates)).take n.toNat, 0)) := by
 have := waitsN_len t.fStates t.fStates.length
 have hw : (waitsL t.fStates).length ≤ 300 := by unfold waitsL; omega
 have hl := wort_len (waitsL t.fStates) (by omega)
 unfold latency_Worst
 rw [e, Option.bind_some, waits_p t (by omega), Option.bind_some, (wort_p _ (by omega)).1, Option.bind_some]
 simp only [decide_true, Bool.not_true, cond_false]
 by_cases g : n < 0
 ·simp [g]
 ·rw [decide_eq_false g, cond_false, if_neg g]
  have s1 : slcPart (wortL (waitsL t.fStates)) 0 (min n ((wortL (waitsL t.fStates)).length : Int)) = some ((wortL (waitsL t.fStates)).take n.toNat) := by
   unfold slcPart
   rw [if_pos ⟨by omega, by omega, by omega⟩]
   simp only [Int.toNat_zero, List.drop_zero]
   congr 1
   by_cases g2 : n ≤ ((wortL (waitsL t.fStates)).length : Int)
   ·rw [show min n ((wortL (waitsL t.fStates)).length : Int) = n by omega]
   ·rw [show min n ((wortL (waitsL t.fStates)).length : Int) = ((wortL (waitsL t.fStates)).length : Int) by omega, Int.toNat_natCast, List.take_length, List.take_of_length_le (by omega)]
  rw [s1, Option.bind_some]
theorem Worst_err (t : api_Trace) (n : Int) {r : Int} (e : trace_Check t = some r) (h : r ≠ 0) : latency_Worst t n = some ([], r) := by
 unfold latency_Worst
 rw [e, Option.bind_some]
 simp [h]
theorem known_r (t : api_Trace) (a : Int) (h : t.fThreads.length ≤ 1000000) : tracebookref49_known t a = some (t.fThreads.any (fun x => decide (x.fId = a))) := by
 have : Ok (tracebookref49_known t a) (fun r => r = t.fThreads.any (fun x => decide (x.fId = a))) := by
  unfold tracebookref49_known
  refine ok_bindS (Q := InlR (fun _ => t.fThreads.any (fun x => decide (x.fId = a)) = false) (fun r : Bool => r = true ∧ t.fThreads.any (fun x => decide (x.fId = a)) = true)) (ok_upM t.fThreads.length (fun n => ∀ (j : Nat) z, j < n → t.fThreads[j]? = some z → z.fId ≠ a) (by omega) (by intro j z hj; omega) (fun i hI h2 => ?_)) (fun _ hr => ok_some hr.symm) (fun r hr => ok_some (by rw [hr.1, hr.2]))
  unfold tracebookref49_known_L1
  refine ok_ite (fun hi => ?_) (fun hi => ok_inr (show t.fThreads.any (fun x => decide (x.fId = a)) = false from ?_))
  ·obtain ⟨y, hiy, hy⟩ := ok_ixM (xs := t.fThreads) (i := i) (by omega)
   rw [hiy, Option.bind_some]
   refine ok_ite (fun e => ok_inr (show true = true ∧ _ from ⟨rfl, List.any_eq_true.2 ⟨y, List.mem_of_getElem? hy, decide_eq_true e⟩⟩)) (fun e => ?_)
   rw [w64_M (n := t.fThreads.length) (by omega) (by omega)]
   refine ok_inl ⟨by omega, rfl, fun j z hj hz => ?_⟩
   by_cases e2 : j = i
   ·subst e2; rw [hy] at hz; cases hz; exact e
   ·exact hI j z (by omega) hz
  ·rw [List.any_eq_false]
   intro x hx
   obtain ⟨j, hj⟩ := List.getElem?_of_mem hx
   have := hI j x (by have := lt_of_get hj; omega) hj
   simpa using this
 obtain ⟨r, h1, h2⟩ := this
 rw [h1, h2]
theorem refOf_eq (t : api_Trace) (a : Int) (hz : Siz t) (ht : t.fThreads.length ≤ 1000000) (hs : t.fStates.length ≤ 300) : tracebookref49_Of t a = latency_Of t a := by
 unfold tracebookref49_Of latency_Of
 rw [← trace_Check_eq t hz ht]
 obtain ⟨r, hr, _⟩ := trace_Check_ok t hz ht
 rw [hr, Option.bind_some, Option.bind_some]
 by_cases e : r = 0
 ·subst e
  have := waitsN_len t.fStates t.fStates.length
  rw [waits_p t (by omega), waits_r _ (by omega), known_r t a ht, contains_p _ _ ht]
  have : ∀ w, tracebookref49_Of_L1 a w = latency_Of_L1 a w := by
   intro w
   funext s
   obtain ⟨x, i⟩ := s
   unfold tracebookref49_Of_L1 latency_Of_L1
   dsimp only
   cases idx w i with
   | none => rfl
   | some y => simp only [Option.bind_some, tracebookref49_length, latency_length]
  simp only [Option.bind_some, this]
 ·simp [e]
theorem sameStates_p (l : List api_State) (h : l.length ≤ 1000000) : tracebookref49_SameStates l l = some true := by
 unfold tracebookref49_SameStates
 have : Ok (loop (tracebookref49_SameStates_L1 l l) 0) (fun q => q = .inl ()) := by
  refine ok_upM l.length (fun _ => True) (by omega) trivial (fun i _ h2 => ?_)
  unfold tracebookref49_SameStates_L1
  refine ok_ite (fun hi => ?_) (fun _ => ok_inr rfl)
  obtain ⟨y, hiy, hy⟩ := ok_ixM (xs := l) (i := i) (by omega)
  rw [hiy, Option.bind_some, Option.bind_some]
  simp only [decide_true, Bool.and_true, bne_self_eq_false, cond_false]
  rw [w64_M (n := l.length) (by omega) (by omega)]
  exact ok_inl ⟨by omega, rfl, trivial⟩
 obtain ⟨q, h1, h2⟩ := this
 rw [h1, h2]
 simp
theorem latencyExact_holds (t : api_Trace) (a n : Int) (h : okr_api_Trace t) : tracebooklaw49_LatencyExact t a n = some true := by
 have hz := siz49 h
 unfold tracebooklaw49_LatencyExact
 rw [awake49]
 obtain ⟨b, hb1, hb2⟩ := small_ok h
 rw [hb1, Option.bind_some]
 cases b with
 | false => rfl
 | true =>
  obtain ⟨ht, hs⟩ := hb2 rfl
  simp only [Bool.not_true, cond_false, refOf_eq t a hz ht hs, refAll_eq t hz ht hs, refWorst_eq t n hz ht hs]
  obtain ⟨r, hr, _⟩ := trace_Check_ok t hz ht
  have hw := waitsN_len t.fStates t.fStates.length
  have hw2 : (waitsL t.fStates).length ≤ 300 := by unfold waitsL; omega
  have h1 : ∃ x : List Int × Int, latency_Of t a = some x ∧ x.1.length ≤ 1000000 := by
   by_cases e : r = 0
   ·subst e
    rw [Of_p t a hr hs ht]
    refine ⟨_, rfl, ?_⟩
    have := ofL_len (waitsL t.fStates) a
    split
    ·simp only; omega
    ·simp
   ·rw [Of_err t a hr e]; exact ⟨_, rfl, by simp⟩
  have h2 : ∃ x : List Int × Int, latency_All t = some x ∧ x.1.length ≤ 1000000 := by
   by_cases e : r = 0
   ·subst e
    rw [All_p t hr hs]
    have := allL_top t.fStates hs
    exact ⟨_, rfl, by simp only; omega⟩
   ·rw [All_err t hr e]; exact ⟨_, rfl, by simp⟩
  have h3 : ∃ x : List api_State × Int, latency_Worst t n = some x ∧ x.1.length ≤ 1000000 := by
   by_cases e : r = 0
   ·subst e
    rw [Worst_p t n hr hs]
    refine ⟨_, rfl, ?_⟩
    have := wort_len (waitsL t.fStates) (by omega)
    split
    ·simp
    ·simp only [List.length_take]; omega
   ·rw [Worst_err t n hr e]; exact ⟨_, rfl, by simp⟩
  obtain ⟨x1, e1, l1⟩ := h1
  obtain ⟨x2, e2, l2⟩ := h2
  obtain ⟨x3, e3, l3⟩ := h3
  rw [e1, e2, e3]
  simp only [Option.bind_some, sameInts_p _ l1, sameInts_p _ l2, sameStates_p _ l3, cond_true, decide_true]
end Go.VM
