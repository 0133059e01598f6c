/- The value machine, in parts: what a stretch of code comes to, over value trees. -/
import Derived.Test.YtnhjanhaokiahaaVm2
import Derived.WalkKit
import Derived.MapKept
import Derived.MapFrom
import Derived.Great.BuildSlice
import Derived.LoopN
import Derived.Orders
import Derived.Laws.StructEq
import Derived.ProofKit
import Derived.OpenShut
import Derived.ChangeArms
import Derived.DataReads
import Derived.Carry
import Derived.SizedLaws
import Derived.ChangeCalls
import Derived.ChangeKeysEq
namespace Go.VM
section
variable {P : Program} {K : Ctx}
theorem any_orderT {n : Nat} (hK : K.ntmps = n) (hn : n ≤ 1000) {ops : Array Oper} {vl : List VOp} {fs : List (Option Foot)} (hm : ops.toList.mapM (cOper P n ops) = some vl) (N : Nat) (hN : N ≤ ops.size) (hlen : vl.length = ops.size) (hedge : ∀ i, i < ops.size → ∀ e ∈ (ops.getD i default).after.toList, Region.binds .any e = true → e.on < i)
  (htable : ∀ i, i < ops.size → ∀ a, a < ops.size → ((Region.before ops).getD i 0).testBit a = true → ∃ e ∈ (ops.getD i default).after.toList, Region.binds .any e = true ∧ (a = e.on ∨ ((Region.before ops).getD e.on 0).testBit a = true))
  (hpair : ∀ i, i < N → ∀ a, a < i → (((Region.before ops).getD i 0).testBit a = true ∨ Indep (vl.getD a default) (vl.getD i default) (fs.getD a none) (fs.getD i none)) ∧ effApart (vl.getD a default) (vl.getD i default) = true ∧ effApart (vl.getD i default) (vl.getD a default) = true)
  (hplain : ∀ o ∈ vl, o.op.plain = true) (ms : List Nat) (hlast : ∀ i, N ≤ i → i < ops.size → ∀ b, b < N → b ∉ ms → ((Region.before ops).getD i 0).testBit b = true) {Q : Exit → Act → World → Prop} {k : Env → Heap → Prop}
  (hk : ∀ (fuel : Nat) (listed : Array Bool) Γ' h' a' w', listed.size = ops.size → (∀ j, j < N → listed.getD j true = true) → (∀ j, N ≤ j → j < ops.size → listed.getD j true = false) → ops.size - N ≤ fuel → k Γ' h' → St K Γ' h' a' w' → wpAny P .any ops Q fuel listed a' w') :
  ∀ (fuel : Nat) (listed : Array Bool) (Γ : Env) (h : Heap) (a : Act) (w : World), listed.size = ops.size → (rest N listed).length + (ops.size - N) ≤ fuel → (∀ j, N ≤ j → j < ops.size → listed.getD j true = false) → (∀ b ∈ ms, listed.getD b true = true) →
   (∀ j, j < ops.size → listed.getD j true = true → ∀ b, b < ops.size → ((Region.before ops).getD j 0).testBit b = true → listed.getD b true = true) →
   St K Γ h a w → rawR P ((rest N listed).map fun i => (vl.getD i default, fs.getD i none)) Γ h k → FreshAll ((rest N listed).map fun i => vl.getD i default) Γ h → wpAny P .any ops Q fuel listed a w := by
 have ready_of : ∀ (listed : Array Bool) i, i ∈ Region.ready .any ops listed ↔ i < ops.size ∧ listed.getD i true = false ∧ ∀ e ∈ (ops.getD i default).after.toList, Region.binds .any e = true → listed.getD e.on false = true := by
  intro listed i
  simp only [Region.ready, List.mem_filter, List.mem_range, Bool.and_eq_true, Bool.not_eq_true']
  constructor
  ·rintro ⟨h1, h2, h3⟩
   refine ⟨h1, h2, fun e he hb => ?_⟩
   simp only [Array.getElem?_eq_getElem h1, Option.map_some, Option.getD_some, Array.all_eq_true'] at h3
   have := h3 e (by simpa [Array.getD, h1] using he)
   simpa [hb] using this
  ·rintro ⟨h1, h2, h3⟩
   refine ⟨h1, h2, ?_⟩
   simp only [Array.getElem?_eq_getElem h1, Option.map_some, Option.getD_some, Array.all_eq_true']
   intro e he
   by_cases hb : Region.binds .any e = true
   ·have := h3 e (by simpa [Array.getD, h1] using he) hb
    simp [this]
   ·simp [hb]
 have done_of : ∀ (listed : Array Bool), listed.size = ops.size → Region.ready .any ops listed = [] → ∀ j, j < ops.size → listed.getD j true = true := by
  intro listed hs hr
  have all : ∀ j, j < ops.size → listed.getD j true = true := by
   intro j
   induction j using Nat.strongRecOn with
   | _ j ih =>
    intro hj
    cases hb : listed.getD j true with
    | true => rfl
    | false =>
     exfalso
     have hready : j ∈ Region.ready .any ops listed := by
      rw [ready_of]
      refine ⟨hj, hb, fun e he hbe => ?_⟩
      have hlt := hedge j hj e he hbe
      have := ih e.on hlt (by omega)
      have hsz : e.on < listed.size := by omega
      simpa [Array.getD, hsz] using this
     rw [hr] at hready
     simp at hready
  exact all
 have nil_all : ∀ (listed : Array Bool), (rest N listed = [] ↔ ∀ j, j < N → listed.getD j true = true) := by
  intro listed
  unfold rest
  rw [List.filter_eq_nil_iff]
  constructor
  ·intro h j hj; simpa using h j (List.mem_range.2 hj)
  ·intro h j hj; simp [h j (List.mem_range.1 hj)]
 intro fuel
 induction fuel with
 | zero =>
  intro listed Γ h a w hs hf hun hms hcl st hr hfr
  have hnil : rest N listed = [] := List.eq_nil_of_length_eq_zero (by omega)
  rw [hnil] at hr
  exact hk 0 listed Γ h a w hs ((nil_all listed).1 hnil) hun (by omega) hr st
 | succ fuel ih =>
  intro listed Γ h a w hs hf hun hms hcl st hr hfr
  by_cases hnil : rest N listed = []
  ·rw [hnil] at hr
   exact hk (fuel + 1) listed Γ h a w hs ((nil_all listed).1 hnil) hun (by rw [hnil] at hf; simpa using hf) hr st
  refine ⟨fun hrd => ?_, fun i hi => ?_⟩
  ·exact absurd ((nil_all listed).2 (fun j hj => done_of listed hs hrd j (by omega))) hnil
  ·rw [ready_of] at hi
   obtain ⟨hil, hiu, hie⟩ := hi
   have htest : ∀ b, b < ops.size → ((Region.before ops).getD i 0).testBit b = true → listed.getD b true = true := by
    intro b hb ht
    obtain ⟨e, he, hbe, hor⟩ := htable i hil b hb ht
    have hlist := hie e he hbe
    have hon : e.on < ops.size := by have := hedge i hil e he hbe; omega
    have hon' : listed.getD e.on true = true := by
     have hsz : e.on < listed.size := by omega
     simpa [Array.getD, hsz] using hlist
    rcases hor with rfl | hor
    ·exact hon'
    ·exact hcl e.on hon hon' b hb hor
   have hiN : i < N := by
    rcases Nat.lt_or_ge i N with h | h
    ·exact h
    ·exact absurd ((nil_all listed).2 (fun b hb => by
      by_cases hbm : b ∈ ms
      ·exact hms b hbm
      ·exact htest b (by omega) (hlast i h hil b hb hbm))) hnil
   obtain ⟨A, C, h1, h2, h3, h4⟩ := rest_split (n := N) (by omega) hiN hiu
   have hind : ∀ b ∈ A, Indep (vl.getD b default) (vl.getD i default) (fs.getD b none) (fs.getD i none) := by
    intro b hb
    have hb' := h3 b hb
    rcases (hpair i hiN b hb'.1).1 with ht | hx
    ·have := htest b (by omega) ht
     rw [hb'.2] at this; simp at this
    ·exact hx
   rw [h1] at hr hfr
   simp only [List.map_append, List.map_cons] at hr hfr
   have hpw : (A.map fun i => vl.getD i default).Pairwise fun a b => effApart a b = true := by
    rw [List.pairwise_map]
    have hsub : A.Pairwise (· < ·) := by
     have hall : (rest N listed).Pairwise (· < ·) := List.Pairwise.filter _ (by rw [List.range_eq_range']; exact List.pairwise_lt_range')
     rw [h1, List.pairwise_append] at hall
     exact hall.1
    refine hsub.imp_of_mem fun {x y} hx hy hlt => ?_
    have := h3 y hy
    exact (hpair y (by omega) x hlt).2.1
   have hpw2 : (A.map fun i => (vl.getD i default, fs.getD i none)).Pairwise fun a b => effApart a.1 b.1 = true := by
    rw [List.pairwise_map] at hpw ⊢
    exact hpw
   obtain ⟨x, h', ho, _, hr'⟩ := raw_first (A.map fun i => (vl.getD i default, fs.getD i none)) Γ h (fun b hb => by obtain ⟨j, hj, rfl⟩ := List.mem_map.1 hb; exact hind j hj)
    (fun b hb => by obtain ⟨j, hj, rfl⟩ := List.mem_map.1 hb; exact (hpair i hiN j (h3 j hj).1).2.1)
    (fun y hy => hfr y (by
     obtain ⟨z, hz, rfl⟩ := List.mem_map.1 hy
     rcases List.mem_append.1 hz with hz | hz
     ·obtain ⟨q, hq, rfl⟩ := List.mem_map.1 hz
      exact List.mem_append.2 (.inl (List.mem_map.2 ⟨q, hq, rfl⟩))
     ·rw [List.mem_singleton.1 hz]; exact List.mem_append.2 (.inr (by simp)))) hpw2 hr
   have hoi : ops[i]? = some ops[i] := Array.getElem?_eq_getElem hil
   obtain ⟨vo, hvo, hco⟩ := getD_mapM hm i ops[i] (by simp)
   have hvl : vl.getD i default = vo := by simp [List.getD, hvo]
   simp only [hvl] at ho hr'
   have hfi : isNew vo.op = true → Fresh (vo.dst.getD 999, 0) Γ h := by
    intro hn'
    have := hfr (vl.getD i default) (by simp) (by rw [hvl]; exact hn')
    rwa [hvl] at this
   have hpl : vo.op.plain = true := hplain vo (List.mem_of_getElem? hvo)
   obtain ⟨hdst, hop, hd, hg⟩ := guard_sound st hco
   have next : ∀ a' w', St K (putO vo.dst x Γ) h' a' w' → wpAny P .any ops Q fuel (listed.setIfInBounds i true) a' w' := by
    intro a' w' st'
    have hsz : (listed.setIfInBounds i true).size = ops.size := by simpa using hs
    have hgd : ∀ j, (listed.setIfInBounds i true).getD j true = if j = i then true else listed.getD j true := by
     intro j
     simp only [Array.getD_eq_getD_getElem?, Array.getElem?_setIfInBounds]
     by_cases e : i = j
     ·subst e; simp [hs, hil]
     ·have e' : ¬ j = i := fun x => e x.symm
      simp only [e, e', if_false]
    refine ih _ _ _ a' w' hsz ?_ ?_ (fun b hb => by rw [hgd]; split; rfl; exact hms b hb) ?_ st' ?_ ?_
    ·rw [h2]; rw [h1] at hf; simp at hf ⊢; omega
    ·intro j h5 h6
     rw [hgd, if_neg (by omega)]; exact hun j h5 h6
    ·intro j hj hl b hb ht
     rw [hgd] at hl ⊢
     by_cases ebi : b = i
     ·simp [ebi]
     ·simp only [ebi, if_false]
      by_cases eji : j = i
      ·subst eji; exact htest b hb ht
      ·simp only [eji, if_false] at hl; exact hcl j hj hl b hb ht
    ·rw [h2]; simpa using hr'
    ·rw [h2]
     have hfAC : FreshAll ((A ++ C).map fun i => vl.getD i default) Γ h := fun y hy hn' => hfr y (by
      rw [List.map_append] at hy
      rcases List.mem_append.1 hy with hy | hy
      ·exact List.mem_append.2 (.inl hy)
      ·exact List.mem_append.2 (.inr (List.mem_cons_of_mem _ hy))) hn'
     refine FreshAll.step hfAC hpl (fun y hy => ?_) ho
     obtain ⟨j, hj, rfl⟩ := List.mem_map.1 hy
     rw [← hvl]
     rcases List.mem_append.1 hj with hj | hj
     ·exact (hpair i hiN j (h3 j hj).1).2.2
     ·have := h4 j hj
      exact (hpair j this.2 i this.1).2.1
   unfold wpOp
   rw [hoi]
   simp only
   rcases hg (guard_of_outG ho) with ⟨hw, hy⟩ | ⟨hw, hx, hh⟩
   ·simp only [hw, if_true]
    left
    have hst := step_of_outR (P := P) hfi hy
    rw [hdst] at hst
    exact step_sound st hop (by omega) (fun d he => by rw [hK]; exact hd d he) hst fun Γ' h'' a' w' hkk st' => by
     obtain ⟨rfl, rfl⟩ := hkk
     exact next a' w' (by rw [hdst]; exact st')
   ·simp only [hw, Bool.false_eq_true, if_false]
    subst hx; subst hh
    refine next _ _ ?_
    rw [hdst]
    obtain ⟨B, s⟩ := st
    exact St.putO s (fun d he => by rw [hK]; exact hd d he) (show RepV w _ B undef nonV from ⟨#[], rfl, Pt.nil⟩)
theorem bit_lt {ops : Array Oper} (hedge : ∀ i, i < ops.size → ∀ e ∈ (ops.getD i default).after.toList, Region.binds .any e = true → e.on < i)
  (htable : ∀ i, i < ops.size → ∀ a, a < ops.size → ((Region.before ops).getD i 0).testBit a = true → ∃ e ∈ (ops.getD i default).after.toList, Region.binds .any e = true ∧ (a = e.on ∨ ((Region.before ops).getD e.on 0).testBit a = true)) {m : Nat} (hm : m < ops.size) :
  ∀ q, q < ops.size → ((Region.before ops).getD q 0).testBit m = true → m < q := by
 intro q
 induction q using Nat.strongRecOn with
 | _ q ih =>
  intro hq hb
  obtain ⟨e, he, hbe, h⟩ := htable q hq m hm hb
  have hlt := hedge q hq e he hbe
  rcases h with h | h
  ·omega
  ·have := ih e.on hlt (by omega) h; omega
end
section
variable {P : Program} {K : Ctx} {n : Nat} {I : Option (List Oid)} {Q : Exit → Env → Heap → Prop}
theorem tail_run (hK : Knows K n I) (hn : n ≤ 1000) {ops : Array Oper} {vl : List VOp} (hvl : ops.toList.mapM (cOper P n ops) = some vl) (hlen : vl.length = ops.size)
  (hedge : ∀ i, i < ops.size → ∀ e ∈ (ops.getD i default).after.toList, Region.binds .any e = true → e.on < i)
  (htable : ∀ i, i < ops.size → ∀ a, a < ops.size → ((Region.before ops).getD i 0).testBit a = true → ∃ e ∈ (ops.getD i default).after.toList, Region.binds .any e = true ∧ (a = e.on ∨ ((Region.before ops).getD e.on 0).testBit a = true))
  (N : Nat) (htail : ∀ i, N ≤ i → i < ops.size → ∀ b, N ≤ b → b < i → ((Region.before ops).getD i 0).testBit b = true) {Q' : Exit → Act → World → Prop} (hQ : ∀ Γ h a w, Q .normal Γ h → St K Γ h a w → Q' .normal a w) :
  ∀ (zs : List VOp) (m fuel : Nat) (listed : Array Bool) (Γ : Env) (h : Heap) (a : Act) (w : World), N ≤ m → m ≤ ops.size → vl.drop m = zs → listed.size = ops.size → (∀ j, j < m → listed.getD j true = true) → (∀ j, m ≤ j → j < ops.size → listed.getD j true = false) →
   ops.size - m ≤ fuel → regionS (stepV P n I) zs Γ h (fun Γ h => Q .normal Γ h) → St K Γ h a w → wpAny P .any ops Q' fuel listed a w
 | [], m, fuel, listed, Γ, h, a, w, hNm, hmle, hz, hs, hd, hu, hfu, hk, st => by
  have hm : m = ops.size := by
   have := congrArg List.length hz
   simp at this; omega
  have hnil : Region.ready .any ops listed = [] := by
   unfold Region.ready
   rw [List.filter_eq_nil_iff]
   intro j hj
   have := hd j (by have := List.mem_range.1 hj; omega)
   simp [this]
  cases fuel with
  | zero => exact ⟨hnil, hQ _ _ _ _ hk st⟩
  | succ fuel => exact ⟨fun _ => hQ _ _ _ _ hk st, fun i hi => by rw [hnil] at hi; simp at hi⟩
 | z :: zs, m, fuel, listed, Γ, h, a, w, hNm, hmle, hz, hs, hd, hu, hfu, hk, st => by
  have hml : m < ops.size := by
   have := congrArg List.length hz
   simp at this; omega
  cases fuel with
  | zero => omega
  | succ fuel =>
  refine ⟨fun hrd => ?_, fun i hi => ?_⟩
  ·exfalso
   have hz : m ∈ Region.ready .any ops listed := by
    simp only [Region.ready, List.mem_filter, List.mem_range, Bool.and_eq_true, Bool.not_eq_true']
    refine ⟨hml, hu _ (Nat.le_refl _) hml, ?_⟩
    simp only [Array.getElem?_eq_getElem hml, Option.map_some, Option.getD_some, Array.all_eq_true']
    intro e he
    by_cases hbe : Region.binds .any e = true
    ·have h9 : e.on < m := hedge m hml e (by simpa [Array.getD, hml] using he) hbe
     have := hd e.on h9
     have hsz2 : e.on < listed.size := by omega
     have h10 : listed.getD e.on false = true := by simpa [Array.getD, hsz2] using this
     simp [h10]
    ·simp [hbe]
   rw [hrd] at hz; simp at hz
  ·simp only [Region.ready, List.mem_filter, List.mem_range, Bool.and_eq_true, Bool.not_eq_true'] at hi
   obtain ⟨hi1, hi2, hi3⟩ := hi
   have him : i = m := by
    rcases Nat.lt_trichotomy i m with h | h | h
    ·rw [hd i h] at hi2; simp at hi2
    ·exact h
    ·exfalso
     obtain ⟨e, he, hbe, hor⟩ := htable i hi1 m hml (htail i (by omega) hi1 m hNm h)
     have hlt := hedge i hi1 e he hbe
     simp only [Array.getElem?_eq_getElem hi1, Option.map_some, Option.getD_some, Array.all_eq_true'] at hi3
     have h4 := hi3 e (by simpa [Array.getD, hi1] using he)
     have hon : listed.getD e.on false = true := by simpa [hbe] using h4
     have hsz2 : e.on < listed.size := by omega
     have hon' : listed.getD e.on true = true := by simpa [Array.getD, hsz2] using hon
     have hem : e.on < m := by
      rcases Nat.lt_or_ge e.on m with h' | h'
      ·exact h'
      ·rw [hu e.on h' (by omega)] at hon'; simp at hon'
     rcases hor with hor | hor
     ·omega
     ·have := bit_lt hedge htable hml e.on (by omega) hor; omega
   subst him
   have hoi : ops[i]? = some ops[i] := Array.getElem?_eq_getElem hml
   obtain ⟨vo, hvo, hco⟩ := getD_mapM hvl i ops[i] (by simp)
   have hd0 := List.drop_eq_getElem_cons (l := vl) (i := i) (by omega)
   rw [hz] at hd0
   obtain ⟨e1, e2⟩ := List.cons.inj hd0
   have hvz : vo = z := by
    have := List.getElem?_eq_getElem (l := vl) (i := i) (by omega)
    rw [hvo] at this
    rw [e1]; exact Option.some.inj this
   subst hvz
   have next : ∀ Γ2 h2 a2 w2, regionS (stepV P n I) zs Γ2 h2 (fun Γ h => Q .normal Γ h) → St K Γ2 h2 a2 w2 → wpAny P .any ops Q' fuel (listed.setIfInBounds i true) a2 w2 := by
    intro Γ2 h2 a2 w2 hQ2 st2
    have hgd : ∀ j, (listed.setIfInBounds i true).getD j true = if j = i then true else listed.getD j true := by
     intro j
     simp only [Array.getD_eq_getD_getElem?, Array.getElem?_setIfInBounds]
     by_cases e : i = j
     ·subst e; simp [hs, hml]
     ·have e' : ¬ j = i := fun x => e x.symm
      simp only [e, e', if_false]
    refine tail_run hK hn hvl hlen hedge htable N htail hQ zs (i + 1) fuel _ Γ2 h2 a2 w2 (by omega) (by omega) e2.symm (by simpa using hs) (fun j hj => ?_) (fun j hj1 hj2 => ?_) (by omega) hQ2 st2
    ·rw [hgd]; split
     ·rfl
     ·exact hd j (by omega)
    ·rw [hgd, if_neg (by omega)]; exact hu j (by omega) hj2
   unfold wpOp
   rw [hoi]
   simp only
   obtain ⟨hdst, hop, hd', hg⟩ := guard_sound st hco
   simp only [regionS] at hk
   rcases hg hk with ⟨hw, hy⟩ | ⟨hw, hno⟩
   ·simp only [hw, if_true]
    left
    rw [hdst] at hy
    obtain ⟨Γ1, h1', hs1, hx⟩ := hy
    exact stepX_sound (hs1 K hK a w st) hop (by rw [hK.1]; omega) (fun d he => by rw [hK.1]; exact hd' d he) hx fun Γ3 h3' a3 w3 ⟨Γ4, h4, hs4, hk4⟩ s3 => next Γ4 h4 a3 w3 hk4 (hs4 K hK a3 w3 s3)
   ·simp only [hw, Bool.false_eq_true, if_false]
    refine next _ _ _ _ hno ?_
    rw [hdst]
    obtain ⟨B, s⟩ := st
    exact St.putO s (fun d he => by rw [hK.1]; exact hd' d he) (show RepV w _ B undef nonV from ⟨#[], rfl, Pt.nil⟩)
end
section
variable {P : Program} {K : Ctx}
theorem mvFree_spec {ops : Array Oper} {i : Nat} (h : mvFree ops i = true) : ∃ o, ops[i]? = some o ∧ (∃ x, o.op = .move x ∨ o.op = .assign x) ∧ o.guard = none ∧ (∀ e ∈ o.after.toList, Region.binds .any e = false) ∧ Region.noSelect ops = true ∧
  ∀ j oj, ops[j]? = some oj → j ≠ i → (∀ e ∈ oj.after, Region.binds .any e = true → e.on ≠ i) → o.apart ops oj = true := by
 unfold mvFree at h
 cases ho : ops[i]? with
 | none => rw [ho] at h; simp at h
 | some o =>
  rw [ho] at h
  simp only [Bool.and_eq_true, Option.isNone_iff_eq_none, List.all_eq_true, Bool.not_eq_true', List.mem_range, Bool.or_eq_true, beq_iff_eq] at h
  obtain ⟨⟨⟨⟨h1, h2⟩, h3⟩, h4⟩, h5⟩ := h
  refine ⟨o, rfl, ?_, h2, h3, h4, fun j oj hj hne hno => ?_⟩
  ·split at h1
   ·rename_i x hx; exact ⟨x, .inl hx⟩
   ·rename_i x hx; exact ⟨x, .inr hx⟩
   ·simp at h1
  ·rcases h5 j (Array.getElem?_eq_some_iff.1 hj).1 with h6 | h6
   ·exact absurd h6 hne
   ·rw [hj] at h6
    simp only [Bool.or_eq_true] at h6
    rcases h6 with h6 | h6
    ·obtain ⟨e, he, hb⟩ := List.any_eq_true.1 h6
     simp only [Bool.and_eq_true, beq_iff_eq] at hb
     exact absurd hb.2 (hno e (by simpa using he) hb.1)
    ·exact h6
theorem any_orderM {n : Nat} (hK : K.ntmps = n) (hn : n ≤ 1000) {ops : Array Oper} {vl : List VOp} {fs : List (Option Foot)} (hm : ops.toList.mapM (cOper P n ops) = some vl) (N : Nat) (hN : N ≤ ops.size) (hlen : vl.length = ops.size) (hedge : ∀ i, i < ops.size → ∀ e ∈ (ops.getD i default).after.toList, Region.binds .any e = true → e.on < i)
  (htable : ∀ i, i < ops.size → ∀ a, a < ops.size → ((Region.before ops).getD i 0).testBit a = true → ∃ e ∈ (ops.getD i default).after.toList, Region.binds .any e = true ∧ (a = e.on ∨ ((Region.before ops).getD e.on 0).testBit a = true))
  (hpair : ∀ i, i < N → ∀ a, a < i → (((Region.before ops).getD i 0).testBit a = true ∨ Indep (vl.getD a default) (vl.getD i default) (fs.getD a none) (fs.getD i none)) ∧ effApart (vl.getD a default) (vl.getD i default) = true ∧ effApart (vl.getD i default) (vl.getD a default) = true)
  (hplain : ∀ o ∈ vl, o.op.plain = true) (ms : List Nat) (hlast : ∀ i, N ≤ i → i < ops.size → ∀ b, b < N → b ∉ ms → ((Region.before ops).getD i 0).testBit b = true) {Q : Exit → Act → World → Prop} (hQp : ∀ c a w, ¬ Q (.panic c) a w) {k : Env → Heap → Prop}
  (hk : ∀ (fuel : Nat) (listed : Array Bool) Γ' h' a' w', listed.size = ops.size → (∀ j, j < N → listed.getD j true = true) → (∀ j, N ≤ j → j < ops.size → listed.getD j true = false) → ops.size - N ≤ fuel → k Γ' h' → St K Γ' h' a' w' → wpAny P .any ops Q fuel listed a' w') :
  ∀ (todo : List Nat) (fuel : Nat) (listed : Array Bool) (Γ : Env) (h : Heap) (a : Act) (w : World), todo.Nodup → (∀ i ∈ todo, i < N ∧ mvFree ops i = true ∧ listed.getD i true = false) → (∀ b ∈ ms, b ∈ todo ∨ listed.getD b true = true) → listed.size = ops.size → (rest N listed).length + (ops.size - N) ≤ fuel → (∀ j, N ≤ j → j < ops.size → listed.getD j true = false) →
   (∀ j, j < ops.size → listed.getD j true = true → ∀ b, b < ops.size → ((Region.before ops).getD j 0).testBit b = true → listed.getD b true = true) →
   St K Γ h a w → rawR P ((rest N listed).map fun i => (vl.getD i default, fs.getD i none)) Γ h k → FreshAll ((rest N listed).map fun i => vl.getD i default) Γ h → wpAny P .any ops Q fuel listed a w
 | [], fuel, listed, Γ, h, a, w, _, _, hms, hs, hf, hun, hcl, st, hr, hfr =>
  any_orderT hK hn hm N hN hlen hedge htable hpair hplain ms hlast hk fuel listed Γ h a w hs hf hun (fun b hb => (hms b hb).resolve_left (by simp)) hcl st hr hfr
 | i :: todo, fuel, listed, Γ, h, a, w, hnd, htd, hms, hs, hf, hun, hcl, st, hr, hfr => by
  obtain ⟨hiN, hmv, hiu⟩ := htd i (by simp)
  rw [List.nodup_cons] at hnd
  have hil : i < ops.size := by omega
  obtain ⟨o, ho, ⟨x0, hop0⟩, hgd0, haft, hns, hfree⟩ := mvFree_spec hmv
  obtain ⟨A, C, h1, h2, h3, h4⟩ := rest_split (n := N) (by omega) hiN hiu
  have hnobit : ∀ b, b < ops.size → ((Region.before ops).getD i 0).testBit b = true → False := by
   intro b hb ht
   obtain ⟨e, he, hbe, _⟩ := htable i hil b hb ht
   have hoi : ops.getD i default = o := by
    have := Array.getElem?_eq_getElem hil
    rw [ho] at this
    simp [Array.getD, hil, (Option.some.inj this).symm]
   rw [hoi] at he
   rw [haft e he] at hbe; simp at hbe
  have hind : ∀ b ∈ A, Indep (vl.getD b default) (vl.getD i default) (fs.getD b none) (fs.getD i none) := by
   intro b hb
   have hb' := h3 b hb
   rcases (hpair i hiN b hb'.1).1 with ht | hx
   ·exact (hnobit b (by omega) ht).elim
   ·exact hx
  rw [h1] at hr hfr
  simp only [List.map_append, List.map_cons] at hr hfr
  have hpw : (A.map fun i => vl.getD i default).Pairwise fun a b => effApart a b = true := by
   rw [List.pairwise_map]
   have hsub : A.Pairwise (· < ·) := by
    have hall : (rest N listed).Pairwise (· < ·) := List.Pairwise.filter _ (by rw [List.range_eq_range']; exact List.pairwise_lt_range')
    rw [h1, List.pairwise_append] at hall
    exact hall.1
   refine hsub.imp_of_mem fun {x y} hx hy hlt => ?_
   have := h3 y hy
   exact (hpair y (by omega) x hlt).2.1
  have hpw2 : (A.map fun i => (vl.getD i default, fs.getD i none)).Pairwise fun a b => effApart a.1 b.1 = true := by
   rw [List.pairwise_map] at hpw ⊢
   exact hpw
  obtain ⟨x, h', ho', _, hr'⟩ := raw_first (A.map fun i => (vl.getD i default, fs.getD i none)) Γ h (fun b hb => by obtain ⟨j, hj, rfl⟩ := List.mem_map.1 hb; exact hind j hj)
   (fun b hb => by obtain ⟨j, hj, rfl⟩ := List.mem_map.1 hb; exact (hpair i hiN j (h3 j hj).1).2.1)
   (fun y hy => hfr y (by
    obtain ⟨z, hz, rfl⟩ := List.mem_map.1 hy
    rcases List.mem_append.1 hz with hz | hz
    ·obtain ⟨q, hq, rfl⟩ := List.mem_map.1 hz
     exact List.mem_append.2 (.inl (List.mem_map.2 ⟨q, hq, rfl⟩))
    ·rw [List.mem_singleton.1 hz]; exact List.mem_append.2 (.inr (by simp)))) hpw2 hr
  obtain ⟨vo, hvo, hco⟩ := getD_mapM hm i o (by rw [← ho]; simp)
  have hvl : vl.getD i default = vo := by simp [List.getD, hvo]
  simp only [hvl] at ho' hr'
  have hpl : vo.op.plain = true := hplain vo (List.mem_of_getElem? hvo)
  obtain ⟨hdst, hop, hd, hg⟩ := guard_sound st hco
  have hform : ∃ y, cOpd x0 = some y ∧ vo.op = .mv y := by
   rcases hop0 with e | e
   ·simp only [cOp, e, Option.map_eq_some_iff] at hop
    obtain ⟨y, hy, e2⟩ := hop; exact ⟨y, hy, e2.symm⟩
   ·simp only [cOp, e, Option.map_eq_some_iff] at hop
    obtain ⟨y, hy, e2⟩ := hop; exact ⟨y, hy, e2.symm⟩
  obtain ⟨y, hy, hvop⟩ := hform
  have hvg : vo.guard = none := by
   simp only [cOper] at hco
   split at hco
   ·obtain ⟨op', _, hco⟩ := Option.bind_eq_some_iff.1 hco
    rw [hgd0] at hco
    simp only [Option.some.injEq] at hco
    rw [← hco]
   ·simp at hco
  have hxe : x = ev Γ y ∧ h' = h := by
   unfold outG at ho'
   rw [hvg] at ho'
   simp only [outR, hvop] at ho'
   obtain ⟨e1, e2⟩ := ho'
   exact ⟨e1, e2⟩
  obtain ⟨rfl, eh⟩ := hxe
  have eh := eh.symm
  subst eh
  have hexec : ∀ a : Act, execOp a.eval o = pure (.value (a.eval x0)) := by
   intro a
   rcases hop0 with e | e <;> simp only [execOp, e]
  cases fuel with
  | zero => rw [h1] at hf; simp at hf
  | succ fuel =>
  have hrdy : i ∈ Region.ready .any ops listed := by
   simp only [Region.ready, List.mem_filter, List.mem_range, Bool.and_eq_true, Bool.not_eq_true']
   refine ⟨hil, hiu, ?_⟩
   rw [ho]
   simp only [Option.map_some, Option.getD_some, Array.all_eq_true']
   intro e he
   simp [haft e (by simpa using he)]
  refine wpAny_first (v := a.eval x0) ho (Region.noSelect_spec hns) (fun c a w hq => absurd hq (hQp c _ w)) fuel listed a w (fun j oj hj hne _ hno => hfree j oj hj hne hno) hrdy (.inl ⟨by simp [Region.wanted, hgd0], fun w => by rw [hexec]; rfl⟩) ?_
  have hgd : ∀ j, (listed.setIfInBounds i true).getD j true = if j = i then true else listed.getD j true := by
   intro j
   simp only [Array.getD_eq_getD_getElem?, Array.getElem?_setIfInBounds]
   by_cases e : i = j
   ·subst e; simp [hs, hil]
   ·have e' : ¬ j = i := fun x => e x.symm
    simp only [e, e', if_false]
  have hst : St K (putO vo.dst (ev Γ y) Γ) h (a.put o.dst (a.eval x0)) w := by
   obtain ⟨B, s⟩ := st
   rw [hdst]
   exact St.putO s (fun d he => by rw [hK]; exact hd d he) (ev_sound s hy)
  refine any_orderM hK hn hm N hN hlen hedge htable hpair hplain ms hlast hQp hk todo fuel _ _ _ _ w hnd.2 (fun j hj => ?_) (fun b hb => ?_) (by simpa using hs) ?_ (fun j h5 h6 => ?_) ?_ hst ?_ ?_
  ·obtain ⟨g1, g2, g3⟩ := htd j (by simp [hj])
   exact ⟨g1, g2, by rw [hgd, if_neg (fun e : j = i => by rw [e] at hj; exact hnd.1 hj)]; exact g3⟩
  ·rcases hms b hb with h | h
   ·rcases List.mem_cons.1 h with rfl | h
    ·exact .inr (by rw [hgd]; simp)
    ·exact .inl h
   ·exact .inr (by rw [hgd]; split; rfl; exact h)
  ·rw [h2]; rw [h1] at hf; simp at hf ⊢; omega
  ·rw [hgd, if_neg (by omega)]; exact hun j h5 h6
  ·intro j hj hl b hb ht
   rw [hgd] at hl ⊢
   by_cases ebi : b = i
   ·simp [ebi]
   ·simp only [ebi, if_false]
    by_cases eji : j = i
    ·subst eji; exact (hnobit b hb ht).elim
    ·simp only [eji, if_false] at hl; exact hcl j hj hl b hb ht
  ·rw [h2]; simpa using hr'
  ·rw [h2]
   have hfAC : FreshAll ((A ++ C).map fun i => vl.getD i default) Γ h := fun y hy hn' => hfr y (by
    rw [List.map_append] at hy
    rcases List.mem_append.1 hy with hy | hy
    ·exact List.mem_append.2 (.inl hy)
    ·exact List.mem_append.2 (.inr (List.mem_cons_of_mem _ hy))) hn'
   refine FreshAll.step hfAC hpl (fun y hy => ?_) ho'
   obtain ⟨j, hj, rfl⟩ := List.mem_map.1 hy
   rw [← hvl]
   rcases List.mem_append.1 hj with hj | hj
   ·exact (hpair i hiN j (h3 j hj).1).2.2
   ·have := h4 j hj
    exact (hpair j this.2 i this.1).2.1
end
section
variable {P : Program} {n : Nat} {I : Option (List Oid)} {Q : Exit → Env → Heap → Prop} {Γ : Env} {h : Heap}
def allBits (ms : List Nat) (b : Nat) : Nat → Bool
 | 0 => true
 | k + 1 => (ms.contains k || b.testBit k) && allBits ms b k
theorem allBits_spec {ms : List Nat} {b : Nat} : ∀ {k : Nat}, allBits ms b k = true → ∀ j, j < k → j ∉ ms → b.testBit j = true
 | 0, _, j, h, _ => by omega
 | k + 1, h, j, hj, hm => by
  simp only [allBits, Bool.and_eq_true, Bool.or_eq_true] at h
  by_cases e : j = k
  ·rcases h.1 with h1 | h1
   ·rw [e] at hm; exact absurd (by simpa using h1) hm
   ·rw [e]; exact h1
  ·exact allBits_spec h.2 j (by omega) hm
def tailOk (bs : List Nat) (n N : Nat) (ms : List Nat) : Bool :=
 Nat.ble N n && (ms.all fun i => Nat.blt i N && Nat.beq (bs.getD (n + i) 0) 1) && decide ms.Nodup && (List.range (n - N)).all fun t => allBits ms (bs.getD (N + t) 0) (N + t)
theorem W_region_last {bs : List Nat} {ops : List VOp} (N : Nat) (ms : List Nat) (hn : n ≤ 1000) (hp : pairsOk bs (ops.take N) (List.replicate N none) = true) (hb : tailOk bs ops.length N ms = true) (hf : FreshAll (ops.take N) Γ h)
  (hq : regionP P (ops.take N) Γ h fun Γ' h' => regionS (stepV P n I) (ops.drop N) Γ' h' fun Γ' h' => Q .normal Γ' h') : W P n I (.region (some bs) ops) Q Γ h := by
 intro c hc K hK a w s
 obtain ⟨id, ops', b, rfl, hvl, _, hord⟩ := region_form hc
 obtain ⟨rfl, rfl, hoo, hmx⟩ := hord bs rfl
 have hoo' := hoo
 simp only [orderOk, Bool.and_eq_true, decide_eq_true_eq, List.all_eq_true, List.mem_range, Bool.or_eq_true, Bool.not_eq_true', List.any_eq_true, beq_iff_eq] at hoo'
 obtain ⟨⟨⟨h1, h2⟩, h3⟩, h5⟩ := hoo'
 simp only [tailOk, Bool.and_eq_true, List.all_eq_true, List.mem_range, decide_eq_true_eq] at hb
 obtain ⟨⟨⟨hNn, hmsb⟩, hnd⟩, htl⟩ := hb
 have hNn := Nat.le_of_ble_eq_true hNn
 have hms : ∀ i ∈ ms, i < N ∧ mvFree ops' i = true := by
  intro i hi
  obtain ⟨e1, e2⟩ := hmsb i hi
  have hiN : i < N := by simpa using e1
  exact ⟨hiN, tab_mv (by omega) (by rw [← h1]; exact Nat.eq_of_beq_eq_true e2)⟩
 have hbits : ∀ i, N ≤ i → i < ops'.size → ∀ b, b < i → b ∉ ms → ((Region.before ops').getD i 0).testBit b = true := by
  intro i h6 h7 b hb hbm
  have := htl (i - N) (by omega)
  rw [show N + (i - N) = i by omega, tab_get h7] at this
  exact allBits_spec this b hb hbm
 have hlt : (ops.take N).length = N := by simp; omega
 have gd : ∀ i, i < N → ops.getD i default = (ops.take N).getD i default := by
  intro i hi
  simp [List.getD, List.getElem?_take, hi]
 have hp' := hp
 simp only [pairsOk, Bool.and_eq_true, List.all_eq_true, List.mem_range, Bool.or_eq_true] at hp'
 have hedge : ∀ i, i < ops'.size → ∀ e ∈ (ops'.getD i default).after.toList, Region.binds .any e = true → e.on < i := by
  intro i hi e he hb
  rcases h2 i hi e he with h | h
  ·rw [hb] at h; simp at h
  ·exact h
 have htable : ∀ i, i < ops'.size → ∀ a, a < ops'.size → ((Region.before ops').getD i 0).testBit a = true → ∃ e ∈ (ops'.getD i default).after.toList, Region.binds .any e = true ∧ (a = e.on ∨ ((Region.before ops').getD e.on 0).testBit a = true) := by
  intro i hi a ha hb
  rcases h3 i hi a ha with h | h
  ·rw [hb] at h; simp at h
  ·obtain ⟨e, he, h6, h7⟩ := h; exact ⟨e, he, h6, h7⟩
 have e0 : rest N (Array.replicate ops'.size false) = List.range N := by
  unfold rest
  rw [List.filter_eq_self]
  intro i hi
  have hi := List.mem_range.1 hi
  have : i < ops'.size := by omega
  simp [Array.getD, this]
 let Q' : Exit → Act → World → Prop := fun e a w => match e with
  | .normal => lift K Q .normal a w
  | _ => False
 refine wp_mono (Q := Q') ?_ (fun e a w hq => ?_)
 rotate_left
 ·cases e <;> first | exact hq | exact hq.elim
 refine wp_region_any hmx ?_
 refine any_orderM (fs := List.replicate N none) (k := fun Γ' h' => regionS (stepV P n I) (ops.drop N) Γ' h' fun Γ' h' => Q .normal Γ' h') hK.1 hn hvl N (by omega) h1 hedge htable (fun i hi a ha => ?_) h5 ms (fun i h6 h7 b hb hbm => hbits i h6 h7 b (by omega) hbm) (fun c a w hq => hq) ?_ ms ops'.size _ Γ h a _ hnd (fun i hi => ⟨(hms i hi).1, (hms i hi).2, ?_⟩) (fun b hb => .inl hb) (by simp) ?_ ?_ ?_ ?_ ?_ ?_
 ·obtain ⟨⟨g1, g2⟩, g3⟩ := hp' i (by omega) a ha
  rw [tab_get (by omega)] at g1
  rw [gd i hi, gd a (by omega)]
  exact ⟨g1.imp (fun x => x) indep_spec, g2, g3⟩
 ·intro fuel listed Γ' h' a' w' hs hd hu hfu hk st
  exact tail_run hK hn hvl h1 hedge htable N (fun i h6 h7 b h8 h9 => hbits i h6 h7 b h9 (fun hbm => by have := (hms b hbm).1; omega)) (fun Γ h a w hq st => ⟨Γ, h, hq, st⟩) (ops.drop N) N fuel listed Γ' h' a' w' (Nat.le_refl _) (by omega) rfl hs hd hu hfu hk st
 ·have : i < ops'.size := by have := (hms i hi).1; omega
  simp [Array.getD, this]
 ·rw [e0]; simp; omega
 ·intro j hj1 hj2
  simp [Array.getD, hj2]
 ·intro j hj hl
  simp [Array.getD, hj] at hl
 ·obtain ⟨B, s⟩ := s
  exact ⟨B, s.grow (Fr.drew w _)⟩
 ·rw [e0]
  have : (List.range N).map (fun i => (ops.getD i default, (List.replicate N (none : Option Foot)).getD i none)) = noFoot (ops.take N) := by
   rw [← noFoot_eq (ops.take N) (List.replicate N none) (by rw [hlt]), ← zip_range (by simp [hlt]), hlt]
   refine List.map_congr_left fun i hi => ?_
   rw [gd i (List.mem_range.1 hi)]
  rw [this]
  exact raw_of_region (regionZ_of hq)
 ·rw [e0]
  have : (List.range N).map (fun i => ops.getD i default) = ops.take N := by
   have h9 := map_range_getD (ops.take N)
   rw [hlt] at h9
   exact (List.map_congr_left fun i hi => gd i (List.mem_range.1 hi)).trans h9
  rw [this]
  exact hf
end
section
variable {P : Program} {n : Nat} {I : Option (List Oid)} {Q : Exit → Env → Heap → Prop} {l : L} {m : M}
theorem W_regDL {bs : List Nat} {ops : List VOp} (N : Nat) (ms : List Nat) (hn : n ≤ 1000) (hp : pairsOk bs (ops.take N) (List.replicate N none) = true) (hb : tailOk bs ops.length N ms = true) (hf : freshOps (ops.take N) l m = true)
  (hq : regionS (stepP P) (ops.take N) (envOf l) (heapOf m) fun Γ' h' => regionS (stepV P n I) (ops.drop N) Γ' h' fun Γ' h' => Q .normal Γ' h') : W P n I (.region (some bs) ops) Q (envOf l) (heapOf m) :=
 W_region_last N ms hn hp hb (freshOps_all hf) (regionP_eq _ _ _ _ hq)
end
end Go.VM
namespace Go.VM
theorem resB_mid {o : Oid} (h1 : 950 ≤ o.1) (h2 : o.1 ≤ 998) : resB o = true := by
 unfold resB
 rw [Bool.or_eq_true, Bool.and_eq_true]
 exact .inr ⟨Nat.ble_eq_true_of_le h1, Nat.ble_eq_true_of_le h2⟩
theorem famGet_of {G : Oid → Option Ob} {o : Oid} {ob : Ob} (h : G o = some ob) (hf : famOf ob = none) (hr : ∀ p ∈ ob.refs, resB p = true) : famGet G o = some ob := by
 unfold famGet
 rw [h]
 have : ((famOf ob).isNone && ob.refs.all resB) = true := by
  rw [Bool.and_eq_true, hf, List.all_eq_true]; exact ⟨rfl, hr⟩
 simp only [this, cond_true]
section
variable {κ ν : Type}
def mbE (kv : κ → Value) (F : Nat) : Nat → List (κ × ν) → List (Value × C)
 | _, [] => []
 | i, p :: r => (kv p.1, .ptrO (F, i) 0) :: mbE kv F (i + 1) r
def mix [DecidableEq κ] (k : κ) : List (κ × ν) → Nat
 | [] => 0
 | p :: r => if k = p.1 then 0 else mix k r + 1
def mapG (N : Nat) (kd : TypeDesc) (kv : κ → Value) (bx : Nat → ν → List C) (ars : Nat → ν → Option Ob) (es : List (κ × ν)) : Oid → Option Ob := fun o =>
 if o.1 = N then (if o.2 = 0 then some (.mapC kd (mbE kv (N + 1) 0 es)) else none)
 else if o.1 = N + 1 then (es[o.2]?).map (fun p => .box (bx o.2 p.2))
 else if N + 2 ≤ o.1 then (es[o.2]?).bind (fun p => ars (o.1 - (N + 2)) p.2) else none
structure FamK (N : Nat) (bx : Nat → ν → List C) (ars : Nat → ν → Option Ob) : Prop where
 n : 950 ≤ N ∧ N + 10 ≤ 998
 c : ∀ i x, ∀ o ∈ (bx i x).flatMap C.refs, ∃ j, (ars j x).isSome = true ∧ o = (N + 2 + j, i)
 a : ∀ j x ob, ars j x = some ob → j < 8 ∧ ∃ e k rows, ob = .arr e k rows
theorem FamK.b {N : Nat} {bx : Nat → ν → List C} {ars : Nat → ν → Option Ob} (K : FamK N bx ars) (i : Nat) (x : ν) (o : Oid) (h : o ∈ (bx i x).flatMap C.refs) : ∃ j, j < 8 ∧ o = (N + 2 + j, i) := by
 obtain ⟨j, h1, h2⟩ := K.c i x o h
 obtain ⟨ob, h3⟩ := Option.isSome_iff_exists.1 h1
 exact ⟨j, (K.a _ _ _ h3).1, h2⟩
theorem mix_some [DecidableEq κ] {k : κ} : ∀ {es : List (κ × ν)} {x : ν}, mget k es = some x → es[mix k es]? = some (k, x)
 | [], x, h => by simp [mget] at h
 | p :: r, x, h => by
  simp only [mget] at h
  simp only [mix]
  split at h
  ·rename_i e; cases h; rw [if_pos e, e]; rfl
  ·rename_i e; rw [if_neg e]; simpa using mix_some h
theorem mput_at [DecidableEq κ] (k : κ) (x : ν) : ∀ (es : List (κ × ν)), (mput k x es)[mix k es]? = some (k, x)
 | [] => rfl
 | p :: r => by
  simp only [mput, mix]
  by_cases e : k = p.1
  ·simp [e]
  ·simpa [e] using mput_at k x r
theorem mput_ne [DecidableEq κ] (k : κ) (x : ν) : ∀ (es : List (κ × ν)) (j : Nat), j ≠ mix k es → (mput k x es)[j]? = es[j]?
 | [], 0, h => absurd rfl h
 | [], j + 1, _ => by simp [mput]
 | p :: r, j, h => by
  simp only [mix] at h
  simp only [mput]
  by_cases e : k = p.1
  ·simp only [e, if_true] at h ⊢
   cases j with
   | zero => exact absurd rfl h
   | succ j => simp
  ·simp only [e, if_false] at h ⊢
   cases j with
   | zero => simp
   | succ j => simpa using mput_ne k x r j (by omega)
theorem getK_mbE [DecidableEq κ] {kd : TypeDesc} {kv : κ → Value} (hk : KeyT kd kv) (F : Nat) (k : κ) : ∀ (es : List (κ × ν)) (i : Nat), getK (kv k) (mbE kv F i es) = (mget k es).map fun _ => .ptrO (F, i + mix k es) 0
 | [], _ => rfl
 | p :: r, i => by
  simp only [mbE, getK, mget, mix, hk.eqv]
  by_cases e : k = p.1
  ·simp [e]
  ·simp only [e, decide_false, Bool.false_eq_true, if_false]
   rw [getK_mbE hk F k r (i + 1)]
   congr 1
   funext _
   rw [show i + 1 + mix k r = i + (mix k r + 1) by omega]
theorem mbE_fix {kv : κ → Value} {F : Nat} {σ : Oid → Oid} : ∀ (es : List (κ × ν)) (i : Nat), (∀ j, i ≤ j → σ (F, j) = (F, j)) → (mbE kv F i es).map (fun p => (p.1, renC σ p.2)) = mbE kv F i es
 | [], _, _ => rfl
 | p :: r, i, h => by
  simp only [mbE, List.map_cons]
  rw [mbE_fix r (i + 1) (fun j hj => h j (by omega))]
  simp only [renC, h i (Nat.le_refl _)]
theorem mbE_put [DecidableEq κ] {kd : TypeDesc} {kv : κ → Value} (hk : KeyT kd kv) {F : Nat} {σ : Oid → Oid} (k : κ) (x : ν) (b : Oid) : ∀ (es : List (κ × ν)) (i : Nat), σ b = (F, i + mix k es) → (∀ j, j ≠ i + mix k es → σ (F, j) = (F, j)) →
  (putK (kv k) (.ptrO b 0) (mbE kv F i es)).map (fun p => (p.1, renC σ p.2)) = mbE kv F i (mput k x es)
 | [], i, hb, _ => by simp [mbE, putK, mput, renC, hb, mix]
 | p :: r, i, hb, h => by
  simp only [mix] at hb h
  simp only [mbE, putK, mput, hk.eqv]
  by_cases e : k = p.1
  ·rw [if_pos e] at hb h
   simp only [e, decide_true, if_true, List.map_cons, mbE]
   rw [mbE_fix r (i + 1) (fun j hj => h j (by omega))]
   simp only [renC, hb]
   rfl
  ·rw [if_neg e] at hb h
   simp only [e, decide_false, Bool.false_eq_true, if_false, List.map_cons, mbE]
   rw [mbE_put hk k x b r (i + 1) (by rw [hb]; congr 1; omega) (fun j hj => h j (by omega))]
   simp only [renC, h i (by omega)]
theorem mbE_keys [DecidableEq κ] {kv : κ → Value} {F : Nat} {k : κ} {x x0 : ν} : ∀ {es : List (κ × ν)} {i : Nat}, mget k es = some x0 → mbE kv F i (mput k x es) = mbE kv F i es
 | [], i, h => by simp [mget] at h
 | p :: r, i, h => by
  simp only [mget] at h
  simp only [mput]
  split at h
  ·rename_i e; rw [if_pos e]; simp only [mbE, e]
  ·rename_i e; rw [if_neg e]; simp only [mbE, mbE_keys h]
theorem mbE_refs {kv : κ → Value} {F : Nat} : ∀ (es : List (κ × ν)) (i : Nat), ∀ o ∈ (mbE kv F i es).flatMap (fun p => p.2.refs), ∃ j, o = (F, j)
 | [], _, o, h => by simp [mbE] at h
 | p :: r, i, o, h => by
  simp only [mbE, List.flatMap_cons, C.refs, List.mem_append, List.mem_singleton] at h
  rcases h with rfl | h
  ·exact ⟨i, rfl⟩
  ·exact mbE_refs r (i + 1) o h
variable {N : Nat} {kd : TypeDesc} {kv : κ → Value} {bx : Nat → ν → List C} {ars : Nat → ν → Option Ob} {es : List (κ × ν)}
theorem G_map (K : FamK N bx ars) : famGet (mapG N kd kv bx ars es) (N, 0) = some (.mapC kd (mbE kv (N + 1) 0 es)) := by
 have hn := K.n
 refine famGet_of (by simp [mapG]) rfl (fun p hp => ?_)
 obtain ⟨j, rfl⟩ := mbE_refs es 0 p hp
 exact resB_mid (by show 950 ≤ N + 1; omega) (by show N + 1 ≤ 998; omega)
theorem G_box (K : FamK N bx ars) {i : Nat} {p : κ × ν} (h : es[i]? = some p) : famGet (mapG N kd kv bx ars es) (N + 1, i) = some (.box (bx i p.2)) := by
 have hn := K.n
 refine famGet_of (by simp [mapG, h]) rfl (fun q hq => ?_)
 obtain ⟨j, hj, rfl⟩ := K.b i p.2 q hq
 exact resB_mid (by show 950 ≤ N + 2 + j; omega) (by show N + 2 + j ≤ 998; omega)
theorem G_arr (K : FamK N bx ars) {i j : Nat} {p : κ × ν} {ob : Ob} (h : es[i]? = some p) (ha : ars j p.2 = some ob) : famGet (mapG N kd kv bx ars es) (N + 2 + j, i) = some ob := by
 obtain ⟨_, e, k, rows, rfl⟩ := K.a _ _ _ ha
 refine famGet_of ?_ rfl (fun q hq => by simp [Ob.refs] at hq)
 have h1 : ¬ N + 2 + j = N := by omega
 have h2 : ¬ N + 2 + j = N + 1 := by omega
 have h3 : N + 2 ≤ N + 2 + j := by omega
 simp only [mapG, h1, h2, h3, if_false, if_true, h, Option.bind_some]
 rw [show N + 2 + j - (N + 2) = j by omega]; exact ha
theorem G_inv (K : FamK N bx ars) {o : Oid} {ob : Ob} (h : famGet (mapG N kd kv bx ars es) o = some ob) :
  (o = (N, 0) ∧ ob = .mapC kd (mbE kv (N + 1) 0 es)) ∨ (∃ i p, o = (N + 1, i) ∧ es[i]? = some p ∧ ob = .box (bx i p.2)) ∨ (∃ j i p, o = (N + 2 + j, i) ∧ es[i]? = some p ∧ ars j p.2 = some ob) := by
 obtain ⟨h, _, _⟩ := famGet_spec h
 obtain ⟨a, i⟩ := o
 simp only [mapG] at h
 split at h
 ·rename_i e1
  split at h
  ·rename_i e2; cases h; exact .inl ⟨by rw [e1, e2], rfl⟩
  ·simp at h
 ·split at h
  ·rename_i e1
   cases hp : es[i]? with
   | none => rw [hp] at h; simp at h
   | some p => rw [hp] at h; cases h; exact .inr (.inl ⟨i, p, by rw [e1], hp, rfl⟩)
  ·split at h
   ·rename_i e1
    cases hp : es[i]? with
    | none => rw [hp] at h; simp at h
    | some p => rw [hp] at h; exact .inr (.inr ⟨a - (N + 2), i, p, by rw [show N + 2 + (a - (N + 2)) = a by omega], hp, h⟩)
   ·simp at h
end
def offR (ds : List Oid) : List Oid → Bool
 | [] => true
 | o :: r => !(memB o ds) && !(resB o) && offR ds r
def offM (ds : List Oid) : M → Bool
 | [] => false
 | p :: r => match famOf p.2 with
  | some _ => r.isEmpty
  | none => !(resB p.1) && (memB p.1 ds || offR ds p.2.refs) && offM ds r
def subFam (ds : List Oid) (G : Oid → Option Ob) : M → M
 | [] => []
 | p :: r => match famOf p.2 with
  | some _ => [(p.1, .fam G)]
  | none => bif memB p.1 ds then subFam ds G r else p :: subFam ds G r
theorem offR_spec {ds : List Oid} : ∀ {l : List Oid}, offR ds l = true → ∀ o ∈ l, o ∉ ds ∧ resB o = false
 | [], _, o, h => by simp at h
 | p :: r, h, o, ho => by
  simp only [offR, Bool.and_eq_true, Bool.not_eq_true'] at h
  rcases List.mem_cons.1 ho with rfl | ho
  ·exact ⟨memB_not h.1.1, h.1.2⟩
  ·exact offR_spec h.2 o ho
theorem sub_get {ds : List Oid} {G : Oid → Option Ob} {o : Oid} {ob : Ob} : ∀ {m : M}, offM ds m = true → hget (subFam ds G m) o = some ob →
  (resB o = true ∧ famGet G o = some ob) ∨ (resB o = false ∧ o ∉ ds ∧ hget m o = some ob ∧ ∀ r ∈ ob.refs, r ∉ ds ∧ resB r = false)
 | [], h, _ => by simp [offM] at h
 | p :: r, h, ho => by
  simp only [offM] at h
  simp only [subFam] at ho
  cases hx : famOf p.2 with
  | some G0 =>
   simp only [hx, hget] at ho
   cases hr : resB o with
   | true => simp only [hr, cond_true] at ho; exact .inl ⟨rfl, ho⟩
   | false => simp [hr] at ho
  | none =>
   simp only [hx, Bool.and_eq_true, Bool.not_eq_true', Bool.or_eq_true] at h
   simp only [hx] at ho
   cases hm : memB p.1 ds with
   | true =>
    simp only [hm, cond_true] at ho
    rcases sub_get h.2 ho with h1 | ⟨h1, h2, h3, h4⟩
    ·exact .inl h1
    ·refine .inr ⟨h1, h2, ?_, h4⟩
     simp only [hget, hx]
     cases hb : oidB o p.1 with
     | true => exact absurd (oidB_iff.1 hb ▸ memB_mem hm) h2
     | false => exact h3
   | false =>
    simp only [hm, cond_false, hget, hx] at ho
    cases hb : oidB o p.1 with
    | true =>
     simp only [hb, cond_true, Option.some.injEq] at ho
     have e := oidB_iff.1 hb
     subst ho
     rcases h.1.2 with h5 | h5
     ·rw [hm] at h5; simp at h5
     ·exact .inr ⟨by rw [e]; exact h.1.1, by rw [e]; exact memB_not hm, by simp only [hget, hx, hb, cond_true], offR_spec h5⟩
    | false =>
     simp only [hb, cond_false] at ho
     rcases sub_get h.2 ho with h1 | ⟨h1, h2, h3, h4⟩
     ·exact .inl h1
     ·refine .inr ⟨h1, h2, ?_, h4⟩
      simp only [hget, hx, hb, cond_false]; exact h3
theorem renM_eq0 (σ : Oid → Oid) (hσ : ∀ o, σ (σ o) = o) : ∀ m : M, (∀ p ∈ m, famOf p.2 = none) → renH σ (heapOf m) = heapOf (renM σ m)
 | [], _ => rfl
 | p :: r, hm => by
  funext o
  have ih : renH σ (heapOf r) o = heapOf (renM σ r) o := congrFun (renM_eq0 σ hσ r (fun q hq => hm q (by simp [hq]))) o
  unfold renH at ih ⊢
  rw [heapOf_eq, heapOf_eq] at ih ⊢
  have hp := hm p (by simp)
  simp only [hget, renM, famOf_ren, hp]
  have e : oidB (σ o) p.1 = oidB o (σ p.1) := by
   rw [Bool.eq_iff_iff, oidB_iff, oidB_iff]
   exact ⟨fun h => by rw [← h, hσ], fun h => by rw [h, hσ]⟩
  rw [e]
  cases oidB o (σ p.1) with
  | true => rfl
  | false => exact ih
end Go.VM
namespace Go.VM
theorem renS_fix {σ : Oid → Oid} {v : V} (h : ∀ o ∈ v.refs, σ o = o) : renS σ v = v := by
 cases v with
 | c x => simp only [renS]; rw [renC_fix h]
 | agg cs => simp only [renS]; rw [renCs_fix h]
 | tup vs => rfl
 | junk => rfl
theorem renV_fix {σ : Oid → Oid} {v : V} (h : ∀ o ∈ v.refs, σ o = o) : renV σ v = v := by
 cases v with
 | c x => exact renS_fix h
 | agg cs => exact renS_fix h
 | junk => rfl
 | tup vs =>
  simp only [renV]
  congr 1
  refine (List.map_congr_left (g := id) (fun x hx => ?_)).trans (List.map_id _)
  cases x with
  | tup _ => rfl
  | c y => exact renS_fix fun o ho => h o (by simp only [V.refs]; exact List.mem_flatMap.2 ⟨_, hx, ho⟩)
  | agg cs => exact renS_fix fun o ho => h o (by simp only [V.refs]; exact List.mem_flatMap.2 ⟨_, hx, ho⟩)
  | junk => rfl
theorem swapsF_off : ∀ {l : List (Oid × Oid)} {o : Oid}, o ∉ swNames l → swapsF l o = o
 | [], _, _ => rfl
 | p :: r, o, h => by
  simp only [swNames, List.mem_cons, not_or] at h
  simp only [swapsF]
  cases h1 : oidB o p.1 with
  | true => exact absurd (oidB_iff.1 h1) h.1
  | false =>
   cases h2 : oidB o p.2 with
   | true => exact absurd (oidB_iff.1 h2) h.2.1
   | false => simpa using swapsF_off h.2.2
theorem swNames_mem : ∀ {l : List (Oid × Oid)} {p : Oid × Oid}, p ∈ l → p.1 ∈ swNames l ∧ p.2 ∈ swNames l
 | q :: r, p, h => by
  simp only [swNames, List.mem_cons]
  rcases List.mem_cons.1 h with rfl | h
  ·exact ⟨.inl rfl, .inr (.inl rfl)⟩
  ·obtain ⟨h1, h2⟩ := swNames_mem h
   exact ⟨.inr (.inr h1), .inr (.inr h2)⟩
theorem swapsF_get : ∀ {l : List (Oid × Oid)}, swOk0 l = true → ∀ p ∈ l, swapsF l p.1 = p.2 ∧ swapsF l p.2 = p.1
 | q :: r, hl, p, h => by
  simp only [swOk0, Bool.and_eq_true, Bool.not_eq_true'] at hl
  obtain ⟨⟨h1, h2⟩, h3⟩ := hl
  simp only [swapsF]
  rcases List.mem_cons.1 h with rfl | h
  ·rw [show oidB p.1 p.1 = true from oidB_iff.2 rfl, show oidB p.2 p.2 = true from oidB_iff.2 rfl]
   simp only [cond_true, true_and]
   cases e : oidB p.2 p.1 with
   | true => rw [oidB_iff.1 e]; rfl
   | false => rfl
  ·obtain ⟨m1, m2⟩ := swNames_mem h
   have f : ∀ o, o ∈ swNames r → oidB o q.1 = false ∧ oidB o q.2 = false := by
    intro o ho
    constructor
    ·cases e : oidB o q.1 with
     | false => rfl
     | true => exact absurd (oidB_iff.1 e ▸ ho) (memB_not h1)
    ·cases e : oidB o q.2 with
     | false => rfl
     | true => exact absurd (oidB_iff.1 e ▸ ho) (memB_not h2)
   rw [(f _ m1).1, (f _ m1).2, (f _ m2).1, (f _ m2).2]
   exact swapsF_get h3 p h
def ltL : List Oid → Bool
 | [] => true
 | o :: r => Nat.blt o.1 1000 && ltL r
theorem ltL_spec : ∀ {l : List Oid}, ltL l = true → ∀ o ∈ l, o.1 < 1000
 | [], _, o, h => by simp at h
 | p :: r, h, o, ho => by
  simp only [ltL, Bool.and_eq_true] at h
  rcases List.mem_cons.1 ho with rfl | ho
  ·simpa using h.1
  ·exact ltL_spec h.2 o ho
theorem freshL_refs {o : Oid} : ∀ {l : L}, freshL o l = true → ∀ t, o ∉ (envOf l t).refs := by
 intro l hl t
 exact (fresh_of (m := []) hl rfl).env t
theorem Sim.mapC0 {n : Nat} {I : Option (List Oid)} {Γ : Env} {h : Heap} {o : Oid} {kd : TypeDesc} (hg : h o = some (.map kd [])) : Sim n I Γ h Γ (h.put o (.mapC kd [])) := by
 rintro K hK a w ⟨B, s⟩
 refine ⟨B, s.reob hg ?_⟩
 obtain ⟨b, es', clock, hB, hh, hc, hs, he⟩ := s.objs.rep o _ hg
 exact ⟨b, es', clock, hB, hh, hc, hs, fun i e p hi hp => by simp at hp⟩
section
variable {P : Program} {n : Nat} {I : Option (List Oid)} {l : L} {m : M} {kk : Env → Heap → Prop} {dst : Option Nat} {op : VO}
variable {κ ν : Type} [DecidableEq κ] {N : Nat} {kd : TypeDesc} {kv : κ → Value} {bx : Nat → ν → List C} {ars : Nat → ν → Option Ob} {es : List (κ × ν)}
theorem off_get {ds : List Oid} {o : Oid} {ob : Ob} (hr : resB o = false) (ho : o ∉ ds) : ∀ {m : M}, offM ds m = true → hget m o = some ob → ∀ r ∈ ob.refs, r ∉ ds ∧ resB r = false
 | [], h, _ => by simp [offM] at h
 | p :: r, h, hg => by
  simp only [offM] at h
  simp only [hget] at hg
  cases hx : famOf p.2 with
  | some G =>
   simp only [hx, List.isEmpty_iff] at h
   subst h
   simp [hx, hr, hget] at hg
  | none =>
   simp only [hx, Bool.and_eq_true, Bool.not_eq_true', Bool.or_eq_true] at h
   simp only [hx] at hg
   cases hb : oidB o p.1 with
   | true =>
    simp only [hb, cond_true, Option.some.injEq] at hg
    subst hg
    rcases h.1.2 with h5 | h5
    ·exact absurd (oidB_iff.1 hb ▸ memB_mem h5) ho
    ·exact offR_spec h5
   | false => simp only [hb, cond_false] at hg; exact off_get hr ho h.2 hg
theorem X_mkB {d : Nat} (hk : KeyT kd kv) (K : FamK N bx ars) (hp : plainM m = true) (hd : Nat.blt d 950 = true) (hf : (freshL (d, 0) l && freshM (d, 0) m) = true) (hf2 : (freshL (N, 0) l && offR [(N, 0)] (m.flatMap fun p => p.2.refs)) = true)
  (hkk : kk (envOf (putL (some d) (.c (.mapO (N, 0))) l)) (heapOf (m ++ [((1000000, 0), .fam (mapG N kd kv bx ars []))]))) : stepX P (some d) (.mkmap kd) (envOf l) (heapOf m) (thenSim n I kk) := by
 have hn := K.n
 rw [Bool.and_eq_true] at hf hf2
 have hd' : d < 950 := by simpa using hd
 refine .inl ⟨fun _ => fresh_of hf.1 hf.2, _, _, ⟨rfl, rfl⟩, ?_⟩
 have hne : ((N, 0) : Oid) ≠ (d, 0) := fun e => by cases e; omega
 have hoff : ∀ o, o ≠ (d, 0) → o ≠ (N, 0) → swapO (d, 0) (N, 0) o = o := by
  intro o h1 h2
  unfold swapO
  cases e1 : oidB o (d, 0) with
  | true => exact absurd (oidB_iff.1 e1) h1
  | false =>
   cases e2 : oidB o (N, 0) with
   | true => exact absurd (oidB_iff.1 e2) h2
   | false => rfl
 have hN : swapO (d, 0) (N, 0) (N, 0) = (d, 0) := by
  unfold swapO
  have : oidB ((N, 0) : Oid) (d, 0) = false := by
   cases e : oidB ((N, 0) : Oid) (d, 0) with
   | false => rfl
   | true => exact absurd (oidB_iff.1 e) hne
  rw [this, show oidB ((N, 0) : Oid) (N, 0) = true from oidB_iff.2 rfl]; rfl
 have hD : swapO (d, 0) (N, 0) (d, 0) = (N, 0) := by
  unfold swapO
  rw [show oidB ((d, 0) : Oid) (d, 0) = true from oidB_iff.2 rfl]; rfl
 refine ⟨_, _, ?_, hkk⟩
 refine Sim.trans (Sim.mapC0 (o := (d, 0)) (kd := kd) (by simp [Heap.put])) (Sim.trans (Sim.ren (swapO (d, 0) (N, 0)) (swapO_inv _ _) (fun o ho => hoff o (fun e => by subst e; simp at ho; omega) (fun e => by subst e; simp at ho; omega))) (Weak.sim ⟨fun t => .inr ?_, fun p ob hob => ?_⟩))
 ·rw [envOf_putL]
  show (putO (some d) (.c (.mapO (N, 0))) (envOf l)) t = renV (swapO (d, 0) (N, 0)) ((putO (some d) (.c (.mapO (d, 0))) (envOf l)) t)
  simp only [putO, Env.put]
  split
  ·simp only [renV, renS, renC]
   exact congrArg (fun x => V.c (.mapO x)) hD.symm
  ·exact (renV_fix fun o ho => hoff o (fun e => freshL_refs hf.1 t (e ▸ ho)) (fun e => freshL_refs hf2.1 t (e ▸ ho))).symm
 ·rw [heapOf_eq, hget_append _ _ _ hp] at hob
  cases hg : hget m p with
  | some ob' =>
   rw [hg] at hob
   cases hob
   have hres : resB p = false := by
    cases h : resB p with
    | false => rfl
    | true => rw [plain_res h hp] at hg; simp at hg
   have hfd := (fresh_of hf.1 hf.2).heap p ob (by rw [heapOf_eq]; exact hg)
   have hpN : p ≠ (N, 0) := fun e => by subst e; rw [resB_mid (by show 950 ≤ N; omega) (by show N ≤ 998; omega)] at hres; simp at hres
   rw [hoff p hfd.1 hpN]
   simp only [Heap.put, hfd.1, if_false]
   show Option.map (renOb (swapO (d, 0) (N, 0))) (if p = (d, 0) then _ else heapOf m p) = some ob
   rw [if_neg hfd.1, heapOf_eq, hg, Option.map_some, renOb_fix fun o ho => hoff o (fun e => hfd.2 (e ▸ ho)) (fun e => ?_)]
   have := offR_spec hf2.2 o (List.mem_flatMap.2 ⟨(p, ob), hget_mem hp hg, ho⟩)
   exact this.1 (by simp [e])
  | none =>
   rw [hg] at hob
   have hob : (bif resB p then famGet (mapG N kd kv bx ars ([] : List (κ × ν))) p else none) = some ob := hob
   cases hres : resB p with
   | false => simp [hres] at hob
   | true =>
    simp only [hres, cond_true] at hob
    rcases G_inv K hob with ⟨rfl, rfl⟩ | ⟨i, q, _, h, _⟩ | ⟨j, i, q, _, h, _⟩
    ·rw [hN]
     simp only [Heap.put, if_true, Option.map_some, renOb, mbE, List.map_nil]
    ·simp at h
    ·simp at h
theorem X_lookB_some (hk : KeyT kd kv) (K : FamK N bx ars) (hG : famAt m = some (mapG N kd kv bx ars es)) {z : V} {mx ix : Opd} {key : κ} {y : ν} (hx : ev (look l) mx = .c (.mapO (N, 0))) (hi : ev (look l) ix = scV (kv key)) (hg : mget key es = some y)
  (hkk : kk (envOf (putL dst (.c (.ptrO (N + 1, mix key es) 0)) l)) (heapOf m)) : stepX P dst (.look kd z false mx ix) (envOf l) (heapOf m) kk := by
 have hn := K.n
 rw [envOf_putL] at hkk
 refine .inr (.inr (.inr (.inr (.inr ⟨_, _, .inl ⟨kd, z, false, mx, ix, (N, 0), mbE kv (N + 1) 0 es, kv key, rfl, by rw [ev_look]; exact hx, ?_, by rw [ev_look]; exact hi, hk.key key, rfl, rfl⟩, ?_⟩))))
 ·rw [heapOf_eq, famAt_get (resB_mid (by show 950 ≤ N; omega) (by show N ≤ 998; omega)) hG]; exact G_map K
 ·rw [getK_mbE hk, hg]
  simpa [lookR] using hkk
theorem X_lookB_none (hk : KeyT kd kv) (K : FamK N bx ars) (hG : famAt m = some (mapG N kd kv bx ars es)) {z : V} {mx ix : Opd} {key : κ} (hx : ev (look l) mx = .c (.mapO (N, 0))) (hi : ev (look l) ix = scV (kv key)) (hg : mget key es = none)
  (hkk : kk (envOf (putL dst z l)) (heapOf m)) : stepX P dst (.look kd z false mx ix) (envOf l) (heapOf m) kk := by
 have hn := K.n
 rw [envOf_putL] at hkk
 refine .inr (.inr (.inr (.inr (.inr ⟨_, _, .inl ⟨kd, z, false, mx, ix, (N, 0), mbE kv (N + 1) 0 es, kv key, rfl, by rw [ev_look]; exact hx, ?_, by rw [ev_look]; exact hi, hk.key key, rfl, rfl⟩, ?_⟩))))
 ·rw [heapOf_eq, famAt_get (resB_mid (by show 950 ≤ N; omega) (by show N ≤ 998; omega)) hG]; exact G_map K
 ·rw [getK_mbE hk, hg]
  simpa [lookR] using hkk
end
end Go.VM
namespace Go.VM
theorem ne1 {a b c d : Nat} (h : a ≠ c) : ((a, b) : Oid) ≠ (c, d) := fun e => h (congrArg Prod.fst e)
theorem ne2 {a b c d : Nat} (h : b ≠ d) : ((a, b) : Oid) ≠ (c, d) := fun e => h (congrArg Prod.snd e)
def zipN (N i : Nat) : Nat → List Oid → List (Oid × Oid)
 | _, [] => []
 | j, a :: r => (a, (N + 2 + j, i)) :: zipN N i (j + 1) r
theorem zipN_mem {N i : Nat} : ∀ {as : List Oid} {j k : Nat} {a : Oid}, as[k]? = some a → (a, (N + 2 + (j + k), i)) ∈ zipN N i j as
 | x :: r, j, 0, a, h => by simp at h; subst h; simp [zipN]
 | x :: r, j, k + 1, a, h => by
  simp only [zipN, List.mem_cons]
  have := zipN_mem (N := N) (i := i) (j := j + 1) (k := k) (a := a) (as := r) (by simpa using h)
  rw [show j + (k + 1) = j + 1 + k by omega]
  exact .inr this
theorem zipN_names {N i : Nat} : ∀ {as : List Oid} {j : Nat} {o : Oid}, o ∈ swNames (zipN N i j as) → o ∈ as ∨ ∃ k, k < as.length ∧ o = (N + 2 + (j + k), i)
 | [], _, o, h => by simp [zipN, swNames] at h
 | x :: r, j, o, h => by
  simp only [zipN, swNames, List.mem_cons] at h
  rcases h with rfl | rfl | h
  ·exact .inl (by simp)
  ·exact .inr ⟨0, by simp, rfl⟩
  ·rcases zipN_names h with h | ⟨k, hk, e⟩
   ·exact .inl (by simp [h])
   ·exact .inr ⟨k + 1, by simp; omega, by rw [e, show j + 1 + k = j + (k + 1) by omega]⟩
def AsOk (m : M) (f : Nat → Option Ob) : Nat → List Oid → Prop
 | j, [] => ∀ k, j ≤ k → f k = none
 | j, a :: r => ((f j).isSome = true ∧ hget m a = f j) ∧ AsOk m f (j + 1) r
theorem AsOk.get {m : M} {f : Nat → Option Ob} : ∀ {as : List Oid} {j : Nat}, AsOk m f j as → ∀ k ob, f (j + k) = some ob → ∃ a, as[k]? = some a ∧ hget m a = some ob
 | [], j, h, k, ob, e => by rw [h (j + k) (by omega)] at e; simp at e
 | a :: r, j, h, 0, ob, e => ⟨a, rfl, by rw [h.1.2]; exact e⟩
 | a :: r, j, h, k + 1, ob, e => by
  obtain ⟨b, h1, h2⟩ := AsOk.get h.2 k ob (by rw [← e]; congr 1; omega)
  exact ⟨b, by simpa using h1, h2⟩
theorem AsOk.len {m : M} {f : Nat → Option Ob} : ∀ {as : List Oid} {j : Nat}, AsOk m f j as → ∀ k, k < as.length → (f (j + k)).isSome = true
 | [], j, h, k, e => by simp at e
 | a :: r, j, h, 0, e => h.1.1
 | a :: r, j, h, k + 1, e => by
  have := AsOk.len h.2 k (by simpa using e)
  rw [show j + (k + 1) = j + 1 + k by omega]; exact this
def nonRes : List Oid → Bool
 | [] => true
 | o :: r => !(resB o) && nonRes r
theorem nonRes_spec : ∀ {l : List Oid}, nonRes l = true → ∀ o ∈ l, resB o = false
 | [], _, o, h => by simp at h
 | p :: r, h, o, ho => by
  simp only [nonRes, Bool.and_eq_true, Bool.not_eq_true'] at h
  rcases List.mem_cons.1 ho with rfl | ho
  ·exact h.1
  ·exact nonRes_spec h.2 o ho
section
variable {P : Program} {n : Nat} {I : Option (List Oid)} {l : L} {m : M} {kk : Env → Heap → Prop} {dst : Option Nat} {op : VO}
variable {κ ν : Type} [DecidableEq κ] {N : Nat} {kd : TypeDesc} {kv : κ → Value} {bx : Nat → ν → List C} {ars : Nat → ν → Option Ob} {es : List (κ × ν)}
theorem X_mupdB (hk : KeyT kd kv) (K : FamK N bx ars) (hG : famAt m = some (mapG N kd kv bx ars es)) {mx ix vx : Opd} {key : κ} (x : ν) (b : Oid) (as : List Oid) {cs : List C}
  (hx : ev (look l) mx = .c (.mapO (N, 0))) (hi : ev (look l) ix = scV (kv key)) (hv : ev (look l) vx = .c (.ptrO b 0)) (hb : hget m b = some (.box cs))
  (hσ : swOk0 ((b, (N + 1, mix key es)) :: zipN N (mix key es) 0 as) = true) (hlt : ltL (b :: as) = true) (hnr : nonRes (b :: as) = true) (hoff : offM (b :: as) m = true)
  (hcs : cs.map (renC (swapsF ((b, (N + 1, mix key es)) :: zipN N (mix key es) 0 as))) = bx (mix key es) x) (hA : AsOk m (fun j => ars j x) 0 as)
  (hkk : kk (envOf (renL (swapsF ((b, (N + 1, mix key es)) :: zipN N (mix key es) 0 as)) (putL dst .junk l))) (heapOf (subFam (b :: as) (mapG N kd kv bx ars (mput key x es)) m))) :
  stepX P dst (.mupd kd mx ix vx) (envOf l) (heapOf m) (thenSim n I kk) := by
 have hn := K.n
 have hNr : resB (N, 0) = true := resB_mid (by show 950 ≤ N; omega) (by show N ≤ 998; omega)
 refine .inr (.inr (.inr (.inr (.inr ⟨_, _, .inr ⟨kd, mx, ix, vx, (N, 0), mbE kv (N + 1) 0 es, kv key, .ptrO b 0, rfl, by rw [ev_look]; exact hx, ?_, by rw [ev_look]; exact hi, hk.key key, by rw [ev_look]; exact hv, rfl, rfl⟩, ?_⟩))))
 ·rw [heapOf_eq, famAt_get hNr hG]; exact G_map K
 generalize hi0 : mix key es = i at *
 generalize hσl : (b, (N + 1, i)) :: zipN N i 0 as = σl at *
 have hbl := nonRes_spec hnr
 have hltl := ltL_spec hlt
 have hlen : as.length ≤ 8 := by
  rcases Nat.lt_or_ge 8 as.length with h | h
  ·have := hA.len 8 h
   cases hf : ars (0 + 8) x with
   | none => simp only [hf] at this; simp at this
   | some ob => have := (K.a _ _ _ hf).1; omega
  ·exact h
 have hmb : σl.head? = some (b, (N + 1, i)) := by rw [← hσl]; rfl
 have hmem : (b, (N + 1, i)) ∈ σl := by rw [← hσl]; simp
 have hσb : swapsF σl b = (N + 1, i) := (swapsF_get hσ _ hmem).1
 have hσb' : swapsF σl (N + 1, i) = b := (swapsF_get hσ _ hmem).2
 have hσa : ∀ k a, as[k]? = some a → swapsF σl (N + 2 + k, i) = a := by
  intro k a hka
  have := zipN_mem (N := N) (i := i) (j := 0) hka
  rw [Nat.zero_add] at this
  exact (swapsF_get hσ _ (by rw [← hσl]; exact List.mem_cons_of_mem _ this)).2
 have hnames : ∀ o, o ∈ swNames σl → o ∈ b :: as ∨ o = (N + 1, i) ∨ ∃ k, k < 8 ∧ o = (N + 2 + k, i) := by
  intro o ho
  rw [← hσl] at ho
  simp only [swNames, List.mem_cons] at ho
  rcases ho with rfl | rfl | ho
  ·exact .inl (by simp)
  ·exact .inr (.inl rfl)
  ·rcases zipN_names ho with h | ⟨k, hk', e⟩
   ·exact .inl (by simp [h])
   ·exact .inr (.inr ⟨k, by omega, by rw [e, Nat.zero_add]⟩)
 have hfix : ∀ o, o ∉ b :: as → o ≠ (N + 1, i) → (∀ k, k < 8 → o ≠ (N + 2 + k, i)) → swapsF σl o = o := by
  intro o h1 h2 h3
  refine swapsF_off fun h => ?_
  rcases hnames o h with h | h | ⟨k, hk', h⟩
  ·exact h1 h
  ·exact h2 h
  ·exact h3 k hk' h
 have hres : ∀ j k : Nat, j < 10 → ((N + j, k) : Oid) ∉ b :: as := by
  intro j k hj h
  have := hbl _ h
  rw [resB_mid (by show 950 ≤ N + j; omega) (by show N + j ≤ 998; omega)] at this; simp at this
 refine ⟨_, _, ?_, hkk⟩
 refine Sim.trans (Sim.ren (swapsF σl) (swapsF_inv0 σl hσ) (fun o ho => ?_)) (Weak.sim ⟨fun t => .inr ?_, fun p ob hob => ?_⟩)
 ·refine swapsF_off fun h => ?_
  rcases hnames o h with h | h | ⟨k, hk', h⟩
  ·have := hltl o h; omega
  ·subst h; simp at ho; omega
  ·subst h; simp at ho; omega
 ·rw [← envOf_putL]
  exact (congrFun (renL_eq (swapsF σl) (putL dst .junk l)) t).symm
 ·rw [heapOf_eq] at hob
  show Option.map (renOb (swapsF σl)) (Heap.put (heapOf m) (N, 0) _ (swapsF σl p)) = some ob
  rcases sub_get hoff hob with ⟨h1, h2⟩ | ⟨h1, h2, h3, h4⟩
  ·rcases G_inv K h2 with ⟨rfl, rfl⟩ | ⟨k, q, rfl, hq, rfl⟩ | ⟨j, k, q, rfl, hq, ha⟩
   ·have : swapsF σl (N, 0) = (N, 0) := hfix _ (hres 0 0 (by omega)) (ne1 (by omega)) (fun k _ => ne1 (by omega))
    rw [this]
    simp only [Heap.put, if_true, Option.map_some, renOb]
    rw [mbE_put hk key x b es 0 (by rw [hσb, hi0, Nat.zero_add]) (fun j hj => hfix _ (hres 1 j (by omega)) (ne2 (fun e => hj (by omega))) (fun k _ => ne1 (by omega)))]
   ·by_cases hki : k = i
    ·subst hki
     rw [← hi0, mput_at] at hq
     cases hq
     rw [hσb']
     have hbN : b ≠ (N, 0) := fun e => by have := hbl b (by simp); rw [e, hNr] at this; simp at this
     simp only [Heap.put, hbN, if_false]
     rw [heapOf_eq, hb]
     simp only [Option.map_some, renOb, hcs, hi0]
    ·rw [mput_ne _ _ _ _ (by rw [hi0]; exact hki)] at hq
     rw [hfix _ (hres 1 k (by omega)) (ne2 hki) (fun k' _ => ne1 (by omega))]
     have hne : ((N + 1, k) : Oid) ≠ (N, 0) := ne1 (by omega)
     simp only [Heap.put, hne, if_false]
     rw [heapOf_eq, famAt_get h1 hG, G_box K hq, Option.map_some, renOb_fix]
     intro o ho
     obtain ⟨j, hj, rfl⟩ := K.b k q.2 o ho
     have := hres (2 + j) k (by omega)
     rw [show N + (2 + j) = N + 2 + j by omega] at this
     exact hfix _ this (ne1 (by omega)) (fun k' _ => ne2 hki)
   ·have hj8 := (K.a _ _ _ ha).1
    by_cases hki : k = i
    ·subst hki
     rw [← hi0, mput_at] at hq
     cases hq
     obtain ⟨a, h5, h6⟩ := hA.get j ob (by rw [Nat.zero_add]; exact ha)
     rw [hσa j a h5]
     have haN : a ≠ (N, 0) := fun e => by have := hbl a (by simp [List.mem_of_getElem? h5]); rw [e, hNr] at this; simp at this
     simp only [Heap.put, haN, if_false]
     rw [heapOf_eq, h6]
     obtain ⟨e, k', rows, rfl⟩ := (K.a _ _ _ ha).2
     rfl
    ·rw [mput_ne _ _ _ _ (by rw [hi0]; exact hki)] at hq
     have := hres (2 + j) k (by omega)
     rw [show N + (2 + j) = N + 2 + j by omega] at this
     rw [hfix _ this (ne1 (by omega)) (fun k' _ => ne2 hki)]
     have hne : ((N + 2 + j, k) : Oid) ≠ (N, 0) := ne1 (by omega)
     simp only [Heap.put, hne, if_false]
     rw [heapOf_eq, famAt_get h1 hG, G_arr K hq ha]
     obtain ⟨e, k', rows, rfl⟩ := (K.a _ _ _ ha).2
     rfl
  ·have hpr : ∀ q, resB q = true → p ≠ q := fun q hq e => by rw [e, hq] at h1; simp at h1
   rw [hfix p h2 (hpr _ (resB_mid (by show 950 ≤ N + 1; omega) (by show N + 1 ≤ 998; omega))) (fun k hk8 e => hpr _ (resB_mid (by show 950 ≤ N + 2 + k; omega) (by show N + 2 + k ≤ 998; omega)) e)]
   have hne := hpr _ hNr
   simp only [Heap.put, hne, if_false]
   rw [heapOf_eq, h3, Option.map_some, renOb_fix]
   intro o ho
   obtain ⟨h5, h6⟩ := h4 o ho
   refine swapsF_off fun h => ?_
   rcases hnames o h with h | h | ⟨k, hk', h⟩
   ·exact h5 h
   ·subst h; rw [resB_mid (by show 950 ≤ N + 1; omega) (by show N + 1 ≤ 998; omega)] at h6; simp at h6
   ·subst h; rw [resB_mid (by show 950 ≤ N + 2 + k; omega) (by show N + 2 + k ≤ 998; omega)] at h6; simp at h6
def memA (N i : Nat) : Nat → List Ob → M
 | _, [] => []
 | j, ob :: r => ((N + 2 + j, i), ob) :: memA N i (j + 1) r
def memM (N i : Nat) (cs : List C) (obs : List Ob) : M := ((N + 1, i), .box cs) :: memA N i 0 obs
theorem memA_get {N i : Nat} : ∀ {obs : List Ob} {j k : Nat}, (∀ ob ∈ obs, famOf ob = none) → hget (memA N i j obs) (N + 2 + (j + k), i) = obs[k]?
 | [], _, _, _ => rfl
 | ob :: r, j, 0, h => by
  simp only [memA, hget, h ob (by simp)]
  rw [show oidB ((N + 2 + (j + 0), i) : Oid) (N + 2 + j, i) = true from oidB_iff.2 rfl]; rfl
 | ob :: r, j, k + 1, h => by
  simp only [memA, hget, h ob (by simp)]
  have : oidB ((N + 2 + (j + (k + 1)), i) : Oid) (N + 2 + j, i) = false := by
   cases e : oidB ((N + 2 + (j + (k + 1)), i) : Oid) (N + 2 + j, i) with
   | false => rfl
   | true => exact absurd (oidB_iff.1 e) (ne1 (by omega))
  rw [this, cond_false, show j + (k + 1) = j + 1 + k by omega, memA_get (fun q hq => h q (by simp [hq]))]
  simp
theorem memA_inv {N i : Nat} {o : Oid} {ob : Ob} : ∀ {obs : List Ob} {j : Nat}, (∀ ob ∈ obs, famOf ob = none) → hget (memA N i j obs) o = some ob → ∃ k, o = (N + 2 + (j + k), i) ∧ obs[k]? = some ob
 | [], _, _, h => by simp [memA, hget] at h
 | x :: r, j, hx, h => by
  simp only [memA, hget, hx x (by simp)] at h
  cases e : oidB o (N + 2 + j, i) with
  | true => simp only [e, cond_true, Option.some.injEq] at h; subst h; exact ⟨0, oidB_iff.1 e, rfl⟩
  | false =>
   simp only [e, cond_false] at h
   obtain ⟨k, h1, h2⟩ := memA_inv (fun q hq => hx q (by simp [hq])) h
   exact ⟨k + 1, by rw [h1, show j + 1 + k = j + (k + 1) by omega], by simpa using h2⟩
theorem memM_box {N i : Nat} {cs : List C} {obs : List Ob} : hget (memM N i cs obs) (N + 1, i) = some (.box cs) := by
 simp only [memM, hget]
 rw [show oidB ((N + 1, i) : Oid) (N + 1, i) = true from oidB_iff.2 rfl]; rfl
theorem memM_arr {N i j : Nat} {cs : List C} {obs : List Ob} (h : ∀ ob ∈ obs, famOf ob = none) : hget (memM N i cs obs) (N + 2 + j, i) = obs[j]? := by
 simp only [memM, hget]
 have : oidB ((N + 2 + j, i) : Oid) (N + 1, i) = false := by
  cases e : oidB ((N + 2 + j, i) : Oid) (N + 1, i) with
  | false => rfl
  | true => exact absurd (oidB_iff.1 e) (ne1 (by omega))
 rw [this]
 have := memA_get (N := N) (i := i) (j := 0) (k := j) h
 rw [Nat.zero_add] at this; exact this
theorem memM_inv {N i : Nat} {cs : List C} {obs : List Ob} {o : Oid} {ob : Ob} (h : ∀ ob ∈ obs, famOf ob = none) (hg : hget (memM N i cs obs) o = some ob) : (o = (N + 1, i) ∧ ob = .box cs) ∨ ∃ j, o = (N + 2 + j, i) ∧ obs[j]? = some ob := by
 simp only [memM, hget] at hg
 cases e : oidB o (N + 1, i) with
 | true => simp only [e, cond_true, Option.some.injEq] at hg; exact .inl ⟨oidB_iff.1 e, hg.symm⟩
 | false =>
  simp only [e, cond_false] at hg
  obtain ⟨k, h1, h2⟩ := memA_inv h hg
  exact .inr ⟨k, by rw [h1, Nat.zero_add], h2⟩
def ObsOk (f : Nat → Option Ob) : Nat → List Ob → Prop
 | j, [] => ∀ k, j ≤ k → f k = none
 | j, ob :: r => f j = some ob ∧ ObsOk f (j + 1) r
theorem ObsOk.get {f : Nat → Option Ob} : ∀ {obs : List Ob} {j : Nat}, ObsOk f j obs → ∀ k, f (j + k) = obs[k]?
 | [], j, h, k => by rw [h (j + k) (by omega)]; rfl
 | ob :: r, j, h, 0 => h.1
 | ob :: r, j, h, k + 1 => by
  have := ObsOk.get h.2 k
  rw [show j + (k + 1) = j + 1 + k by omega, this]; simp
def noFamB : M → Bool
 | [] => true
 | p :: r => (famOf p.2).isNone && noFamB r
theorem noFamB_spec : ∀ {m : M}, noFamB m = true → ∀ p ∈ m, famOf p.2 = none
 | [], _, p, h => by simp at h
 | q :: r, h, p, hp => by
  simp only [noFamB, Bool.and_eq_true, Option.isNone_iff_eq_none] at h
  rcases List.mem_cons.1 hp with rfl | hp
  ·exact h.1
  ·exact noFamB_spec h.2 p hp
def slotOk (N : Nat) : L → Bool
 | [] => true
 | p :: r => (p.2.refs.all fun o => !(resB o) || Nat.ble o.1 (N + 1)) && slotOk N r
theorem slotOk_spec {N : Nat} : ∀ {l : L}, slotOk N l = true → ∀ t, ∀ o ∈ (envOf l t).refs, resB o = false ∨ o.1 ≤ N + 1
 | [], _, t, o, ho => by simp [envOf, noEnv, V.refs] at ho
 | p :: r, h, t, o, ho => by
  rw [envOf_eq] at ho
  simp only [slotOk, Bool.and_eq_true, List.all_eq_true, Bool.or_eq_true, Bool.not_eq_true'] at h
  simp only [look] at ho
  cases hb : Nat.beq t p.1 with
  | true =>
   simp only [hb, cond_true] at ho
   exact (h.1 o ho).imp id Nat.le_of_ble_eq_true
  | false =>
   simp only [hb, cond_false] at ho
   exact slotOk_spec h.2 t o (by rw [envOf_eq]; exact ho)
theorem X_callMB {f : FuncId} {vs : List V} (K : FamK N bx ars) (hG : famAt m = some (mapG N kd kv bx ars es)) (hoff : offM [] m = true) (hsl : slotOk N l = true) {key : κ} {y : ν} (y' : ν) (hy : mget key es = some y) (σl : List (Oid × Oid)) (hσ : swOk0 σl = true)
  (hC : CallOf P (envOf l) op f vs) {pins : List Oid} {us : List V} {mi mo : M} {r : V} (hF : Fun P f false pins us (heapOf mi) r (heapOf mo)) (hnf : (noFamB mi && noFamB mo) = true)
  {obs0 obs1 : List Ob} (hmi : renM (swapsF σl) mi = memM N (mix key es) (bx (mix key es) y) obs0) (hmo : renM (swapsF σl) mo = memM N (mix key es) (bx (mix key es) y') obs1)
  (h0 : ObsOk (fun j => ars j y) 0 obs0) (h1 : ObsOk (fun j => ars j y') 0 obs1) (hpin : pins.map (swapsF σl) = [(N + 1, mix key es)]) (hs : subGs vs (us.map (renV (swapsF σl)))) (hr : (renV (swapsF σl) r).refs = [])
  (hkk : kk (envOf (putL dst (normV (renV (swapsF σl) r)) l)) (heapOf (subFam [] (mapG N kd kv bx ars (mput key y' es)) m))) : stepX P dst op (envOf l) (heapOf m) (thenSim n I kk) := by
 have hn := K.n
 rw [Bool.and_eq_true] at hnf
 have hiy := mix_some hy
 have hi := swapsF_inv0 σl hσ
 have hF' := hF.ren (swapsF σl) hi
 rw [renM_eq0 _ hi mi (noFamB_spec hnf.1), renM_eq0 _ hi mo (noFamB_spec hnf.2), hmi, hmo, hpin] at hF'
 generalize hi0 : mix key es = i at *
 have g0 := fun j => h0.get j
 have g1 := fun j => h1.get j
 simp only [Nat.zero_add] at g0 g1
 have f0 : ∀ ob ∈ obs0, famOf ob = none := by
  intro ob hob
  obtain ⟨k, hk'⟩ := List.getElem?_of_mem hob
  obtain ⟨e, kk', rows, rfl⟩ := (K.a k y ob (by rw [g0]; exact hk')).2
  rfl
 have f1 : ∀ ob ∈ obs1, famOf ob = none := by
  intro ob hob
  obtain ⟨k, hk'⟩ := List.getElem?_of_mem hob
  obtain ⟨e, kk', rows, rfl⟩ := (K.a k y' ob (by rw [g1]; exact hk')).2
  rfl
 have j8 : ∀ {j x ob}, ars j x = some ob → j < 8 := fun h => (K.a _ _ _ h).1
 have rB : resB (N + 1, i) = true := resB_mid (by show 950 ≤ N + 1; omega) (by show N + 1 ≤ 998; omega)
 have rA : ∀ j, j < 8 → resB (N + 2 + j, i) = true := fun j hj => resB_mid (by show 950 ≤ N + 2 + j; omega) (by show N + 2 + j ≤ 998; omega)
 have hmiy : ∀ j, obs1[j]?.isSome = true → j < 8 := by
  intro j hj
  cases h : obs1[j]? with
  | none => rw [h] at hj; simp at hj
  | some ob => exact j8 (by rw [g1]; exact h)
 refine .inr (.inr (.inl ⟨f, vs, _, _, _, _, hC, ⟨⟨_, hs, hF'⟩, fun o ob ho => ?_, fun o ob ho => ?_, fun o ob ho p hp => ?_, fun p hp => by rw [hr] at hp; simp at hp⟩, ?_⟩))
 ·rw [heapOf_eq] at ho ⊢
  rcases memM_inv f0 ho with ⟨rfl, rfl⟩ | ⟨j, rfl, hj⟩
  ·rw [famAt_get rB hG, G_box K hiy]
  ·have ha : ars j y = some ob := by rw [g0]; exact hj
   rw [famAt_get (rA j (j8 ha)) hG, G_arr K hiy ha]
 ·rw [heapOf_eq] at ho
  rcases memM_inv f1 ho with ⟨rfl, rfl⟩ | ⟨j, rfl, hj⟩
  ·exact .inl (by simp)
  ·have ha : ars j y' = some ob := by rw [g1]; exact hj
   have hj8 := j8 ha
   refine .inr ⟨by show N + 2 + j < 1000; omega, fun t hm => ?_, fun p ob' hp hin => ?_⟩
   ·rcases slotOk_spec hsl t _ hm with h | h
    ·rw [rA j hj8] at h; simp at h
    ·simp only at h; omega
   ·rw [heapOf_eq] at hp hin
    cases hres : resB p with
    | true =>
     rw [famAt_get hres hG] at hp
     rcases G_inv K hp with ⟨rfl, rfl⟩ | ⟨k, q, rfl, hq, rfl⟩ | ⟨j', k, q, rfl, hq, ha'⟩
     ·refine ⟨ne1 (by omega), fun hm => ?_⟩
      obtain ⟨q, hq⟩ := mbE_refs es 0 _ hm
      have := congrArg Prod.fst hq; simp only at this; omega
     ·refine ⟨ne1 (by omega), fun hm => ?_⟩
      obtain ⟨q', _, hq'⟩ := K.b k q.2 _ hm
      have e := congrArg Prod.snd hq'
      simp only at e
      subst e
      rw [memM_box] at hin; simp at hin
     ·obtain ⟨e, kk', rows, rfl⟩ := (K.a _ _ _ ha').2
      refine ⟨fun e2 => ?_, by simp [Ob.refs]⟩
      have e3 := congrArg Prod.snd e2
      simp only at e3
      subst e3
      rw [hiy] at hq
      cases hq
      rw [memM_arr f0, ← g0, ha'] at hin; simp at hin
    | false =>
     refine ⟨fun e2 => by rw [e2, rA j hj8] at hres; simp at hres, fun hm => ?_⟩
     have := (off_get hres (by simp) hoff hp _ hm).2
     rw [rA j hj8] at this; simp at this
 ·rw [heapOf_eq] at ho
  rcases memM_inv f1 ho with ⟨rfl, rfl⟩ | ⟨j, rfl, hj⟩
  ·obtain ⟨j, hj, rfl⟩ := K.c i y' p hp
   left
   rw [heapOf_eq, memM_arr f1, ← g1]; exact hj
  ·have ha : ars j y' = some ob := by rw [g1]; exact hj
   obtain ⟨e, kk', rows, rfl⟩ := (K.a _ _ _ ha).2
   simp [Ob.refs] at hp
 ·rw [envOf_putL, normV_eq] at hkk
  refine ⟨_, _, Weak.sim ⟨fun t => .inr rfl, fun p ob hob => ?_⟩, hkk⟩
  rw [heapOf_eq] at hob
  unfold mergeH
  rw [heapOf_eq, heapOf_eq, heapOf_eq]
  rcases sub_get hoff hob with ⟨r1, r2⟩ | ⟨r1, r2, r3, r4⟩
  ·have hother : ∀ q : Oid, (q.2 ≠ i ∨ q = (N, 0)) → hget (memM N i (bx i y) obs0) q = none ∧ hget (memM N i (bx i y') obs1) q = none := by
    intro q hq
    constructor
    ·cases h : hget (memM N i (bx i y) obs0) q with
     | none => rfl
     | some ob =>
      rcases memM_inv f0 h with ⟨rfl, _⟩ | ⟨j, rfl, _⟩
      ·rcases hq with hq | hq
       ·exact absurd rfl hq
       ·exact absurd hq (ne1 (by omega))
      ·rcases hq with hq | hq
       ·exact absurd rfl hq
       ·exact absurd hq (ne1 (by omega))
    ·cases h : hget (memM N i (bx i y') obs1) q with
     | none => rfl
     | some ob =>
      rcases memM_inv f1 h with ⟨rfl, _⟩ | ⟨j, rfl, _⟩
      ·rcases hq with hq | hq
       ·exact absurd rfl hq
       ·exact absurd hq (ne1 (by omega))
      ·rcases hq with hq | hq
       ·exact absurd rfl hq
       ·exact absurd hq (ne1 (by omega))
   rcases G_inv K r2 with ⟨rfl, rfl⟩ | ⟨k, q, rfl, hq, rfl⟩ | ⟨j, k, q, rfl, hq, ha⟩
   ·obtain ⟨e1, e2⟩ := hother (N, 0) (.inr rfl)
    simp only [e1, e2]
    rw [famAt_get r1 hG, G_map K, mbE_keys hy]
   ·by_cases hki : k = i
    ·subst hki
     rw [← hi0, mput_at] at hq
     cases hq
     rw [memM_box]
    ·obtain ⟨e1, e2⟩ := hother (N + 1, k) (.inl hki)
     simp only [e1, e2]
     rw [mput_ne _ _ _ _ (by rw [hi0]; exact hki)] at hq
     rw [famAt_get r1 hG, G_box K hq]
   ·by_cases hki : k = i
    ·subst hki
     rw [← hi0, mput_at] at hq
     cases hq
     rw [memM_arr f1, ← g1, ha]
    ·obtain ⟨e1, e2⟩ := hother (N + 2 + j, k) (.inl hki)
     simp only [e1, e2]
     rw [mput_ne _ _ _ _ (by rw [hi0]; exact hki)] at hq
     rw [famAt_get r1 hG, G_arr K hq ha]
  ·have none0 : ∀ (cs : List C) (obs : List Ob), (∀ ob ∈ obs, famOf ob = none) → (∀ j, obs[j]?.isSome = true → j < 8) → hget (memM N i cs obs) p = none := by
    intro cs obs hf hb
    cases h : hget (memM N i cs obs) p with
    | none => rfl
    | some ob =>
     rcases memM_inv hf h with ⟨rfl, _⟩ | ⟨j, rfl, hj⟩
     ·rw [rB] at r1; simp at r1
     ·rw [rA j (hb j (by rw [hj]; rfl))] at r1; simp at r1
   rw [none0 _ _ f1 hmiy, none0 _ _ f0 (fun j hj => by
    cases h : obs0[j]? with
    | none => rw [h] at hj; simp at hj
    | some ob => exact j8 (by rw [g0]; exact h))]
   exact r3
end
end Go.VM
namespace Go.VM
section
variable {κ ν : Type} [DecidableEq κ] {N : Nat} {kd : TypeDesc} {kv : κ → Value} {bx : Nat → ν → List C} {ars : Nat → ν → Option Ob} {es : List (κ × ν)} {m : M}
def lookS (key : κ) (es : List (κ × ν)) : Option (Unit ⊕ ν) := some (match mget key es with
 | none => .inl ()
 | some x => .inr x)
theorem lookS_none {key : κ} {u : Unit} (h : lookS key es = some (.inl u)) : mget key es = none := by
 unfold lookS at h
 cases e : mget key es with
 | none => rfl
 | some x => rw [e] at h; simp at h
theorem lookS_some {key : κ} {x : ν} (h : lookS key es = some (.inr x)) : mget key es = some x := by
 unfold lookS at h
 cases e : mget key es with
 | none => rw [e] at h; simp at h
 | some y => rw [e] at h; simp at h; rw [h]
theorem MB_box (K : FamK N bx ars) (hG : famAt m = some (mapG N kd kv bx ars es)) {key : κ} {y : ν} (hy : mget key es = some y) : heapOf m (N + 1, mix key es) = some (.box (bx (mix key es) y)) := by
 have hn := K.n
 rw [heapOf_eq, famAt_get (resB_mid (by show 950 ≤ N + 1; omega) (by show N + 1 ≤ 998; omega)) hG, G_box K (mix_some hy)]
theorem MB_arr (K : FamK N bx ars) (hG : famAt m = some (mapG N kd kv bx ars es)) {key : κ} {y : ν} (hy : mget key es = some y) {j : Nat} {ob : Ob} (ha : ars j y = some ob) : heapOf m (N + 2 + j, mix key es) = some ob := by
 have hn := K.n
 have := (K.a _ _ _ ha).1
 rw [heapOf_eq, famAt_get (resB_mid (by show 950 ≤ N + 2 + j; omega) (by show N + 2 + j ≤ 998; omega)) hG, G_arr K (mix_some hy) ha]
end
section
variable {P : Program} {n : Nat} {I : Option (List Oid)} {l l' : L} {m m' : M} {kk : Env → Heap → Prop} {dst : Option Nat} {op : VO}
end
end Go.VM
