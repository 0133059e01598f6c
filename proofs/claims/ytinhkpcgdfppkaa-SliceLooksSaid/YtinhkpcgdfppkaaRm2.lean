/- The raw machine, in parts: a walk that is reckoned, over an explicit memory. -/
import Derived.Test.YtinhkpcgdfppkaaRm1
import Derived.Lib.Bytealg
import Derived.Laws.Externs
import Derived.KernelRfl
import Derived.MapFrom
import Derived.Maps.RangeRun
namespace Go.RM
open Go.VM (Pt Fr isAggD run_loadVar_lies)
def XM : Exit → Ex → Prop
 | .normal, .normal => True
 | .exit i, .exit j => i = j
 | .ret, .ret => True
 | _, _ => False
def TOk (P : Program) (T : Tr RF) : Prop := ∀ f rf, T.get f = some rf → ∃ fn c, P.funcs[f]? = some fn ∧ fn.body = some c ∧ cCode P fn.ntmps c = some rf.code ∧ fn.results.toList.mapM (cRes P) = some rf.res ∧ (fn.name == "runtime.NumGoroutine") = false
section
variable {P : Program} {w0 : World} {φ : Ren} {g h2 : Hp} {s : S} {Γ : Tr V} {a : Act} {w : World} {call : CallF}
theorem cReg_form {n : Nat} {ops : Array Oper} {draw : Bool} : (cReg P n ops draw).getD .bad = .bad ∨ ∃ d vl, (cReg P n ops draw).getD .bad = .region d vl := by
 unfold cReg
 cases ops.toList.mapM (cOper P n ops) with
 | none => exact .inl rfl
 | some vl =>
  simp only [Option.bind_some]
  split
  ·exact .inr ⟨_, _, rfl⟩
  ·exact .inl rfl
theorem cReg_ne {n : Nat} {ops : Array Oper} {draw : Bool} {c : RC} (h : (cReg P n ops draw).getD .bad = c) : c = .bad ∨ ∃ d vl, c = .region d vl := by
 rw [← h]; exact cReg_form
theorem region_form {n : Nat} {c : Code} {d : Option (List Nat)} {vl : List (ROp × Nat)} (hc : cCode P n c = some (.region d vl)) :
  ∃ id ops draw, c = .region id ops draw ∧ ops.toList.mapM (cOper P n ops) = some vl ∧ (d = none → draw = false) ∧ (∀ bs, d = some bs → draw = true ∧ bs = tabOf ops ∧ ordOk ops = true ∧ P.follows .mixedOrders = true) := by
 cases c <;> simp only [cCode, Option.bind_eq_some_iff, Option.map_eq_some_iff, Option.some.injEq, reduceCtorEq, and_false, exists_false] at hc
 rename_i id ops draw
 unfold cReg at hc
 cases hm : ops.toList.mapM (cOper P n ops) with
 | none => rw [hm] at hc; simp at hc
 | some vl' =>
  rw [hm] at hc
  simp only [Option.bind_some] at hc
  split at hc
  ·rename_i hd
   simp only [Option.getD_some, RC.region.injEq] at hc
   obtain ⟨h1, rfl⟩ := hc
   refine ⟨id, ops, draw, rfl, hm, fun h => ?_, fun bs hbs => ?_⟩
   ·subst h
    cases draw with
    | false => rfl
    | true => simp at h1
   ·subst hbs
    cases draw with
    | false => simp at h1
    | true =>
     simp only [if_true, Option.some.injEq] at h1
     exact ⟨rfl, h1.symm, hd rfl⟩
  ·simp at hc
theorem wpAny_start (hcall : CallOk P w0 call) (hinv : CallInv call) {n : Nat} {φ0 : Ren} {ops : Array Oper} {vl : List (ROp × Nat)} (hm : ops.toList.mapM (cOper P n ops) = some vl) (hok : ordOk ops = true) (hf : P.follows .mixedOrders = true) {id : Nat}
  {outs : List (Tr V × S)} {r : Nat} (hx : drawO call vl (tabOf ops) 0 [] Γ s 0 = some (outs, r)) (hr : ∀ n, r.testBit n = true → h2 n = g n) (st : StR w0 n g h2 φ0 (look Γ) s a w) {Q : Exit → Act → World → Prop}
  (hk : ∀ p ∈ outs, ∀ a' w', StR w0 n g h2 φ0 (look p.1) p.2 a' w' → Q .normal a' w') : (Code.region id ops true).wp P Q a w := by
 obtain ⟨Γs, ss, rs, ws, e1, e2, e3, ht, hrr, _, _⟩ := drawO_tra vl (tabOf ops) 0 [] Γ s 0 outs r hx
 obtain ⟨φ, hle, he, R, hi, hd, hs⟩ := st
 have hnone : ∀ j, (Array.replicate ops.size false).getD j false = false := by
  intro j
  by_cases hj : j < ops.size <;> simp [Array.getD, hj]
 have hc0 : ∀ {β : Type} (f : Nat → Nat → β) (Wr : Nat → Nat → Bool) (base : Nat → β), cur f Wr ops.size base (fun j => (Array.replicate ops.size false).getD j false) = base := by
  intro β f Wr base
  funext q
  unfold cur
  have : lastB (fun m => (Array.replicate ops.size false).getD m false && Wr m q) ops.size = none := by
   cases h : lastB (fun m => (Array.replicate ops.size false).getD m false && Wr m q) ops.size with
   | none => rfl
   | some m => obtain ⟨_, h2, _⟩ := lastB_some h; rw [hnone m] at h2; simp at h2
  rw [this]
 refine wp_region_any hf (any_order (Q := Q) hcall hinv hm (ordOk_spec hok) ht (fun k hk n hn => hr n (hrr k hk n hn)) (by rw [e2]; exact hi) (fun a' w' st' => hk _ (by rw [e3]; exact List.mem_singleton.2 rfl) a' w' st') ops.size _ φ a _ (by simp) ?_ ?_ hle ?_ ?_ hd hs)
 ·refine Nat.le_trans (List.length_filter_le _ _) (by simp)
 ·intro j hj hl; rw [hnone j] at hl; simp at hl
 ·rw [hc0, e1]; exact he
 ·rw [hc0, e2]
  exact R.turn (fun _ => False) (Ren.le_refl φ) (fun _ _ => rfl) (fun n l h1 h2 => by rw [h1] at h2; simp at h2) (Fr.drew w _) (fun _ _ h => h.elim) (fun _ _ _ h => h.elim) (fun _ _ _ _ _ h => h.elim) (fun _ _ _ _ _ h => by rcases h with h | h <;> exact h.elim) (fun _ _ _ _ _ _ _ h => h.elim) (fun _ h => h.elim) (fun _ _ h => h.elim)
theorem res1_run {E : Nat → V} (he : EnvR φ a (look Γ)) (R : Rel w0 φ (over h2 s) w) (hi : Inv g s) {rv : ResultVar} {vr : RR} (hc : cRes P rv = some vr) {x : V} {r : Nat} (hr : ∀ n, r.testBit n = true → h2 n = g n) {xs : List V} {vrs : List RR} (hx : resL Γ s (vr :: vrs) = some (x :: xs, r)) :
  ∃ v, Sem.run P (match rv with | .tmp t => (pure (a.tmps.getD t undef) : Sem Value) | .cell p t => (do loadVar t (← asAddr (a.tmps.getD p undef)))) w = .ok v w ∧ RepS φ v x ∧ ∃ r', resL Γ s vrs = some (xs, r') ∧ ∀ n, r'.testBit n = true → h2 n = g n := by
 cases rv with
 | tmp t =>
  simp only [cRes, Option.some.injEq] at hc
  subst hc
  simp only [resL] at hx
  rw [gd_some] at hx
  obtain ⟨hp, hx⟩ := hx
  simp only [Option.map_eq_some_iff] at hx
  obtain ⟨⟨xs', r'⟩, h1, h2'⟩ := hx
  cases h2'
  exact ⟨_, rfl, repS_of hp (he t), _, h1, hr⟩
 | cell p t =>
  simp only [cRes, tyOf, Option.map_eq_some_iff, Option.bind_eq_some_iff] at hc
  obtain ⟨⟨d, i⟩, ⟨d', hd, i', hti, hee⟩, hc⟩ := hc
  cases hee
  have key : ∀ n, n = (if isAggD d then i.size else 1) → resL Γ s (.cell p n (isAggD d) :: vrs) = some (x :: xs, r) →
    ∃ v, Sem.run P (do loadVar t (← asAddr (a.tmps.getD p undef))) w = .ok v w ∧ RepS φ v x ∧ ∃ r', resL Γ s vrs = some (xs, r') ∧ ∀ n, r'.testBit n = true → h2 n = g n := by
   intro n hn hx
   simp only [resL] at hx
   split at hx
   ·rename_i m off heq
    simp only [Option.bind_eq_some_iff] at hx
    obtain ⟨q, hg, cs, hcut, hx⟩ := hx
    rw [gd_some] at hx
    obtain ⟨hp, hx⟩ := hx
    simp only [Option.map_eq_some_iff] at hx
    obtain ⟨⟨xs', r'⟩, h1, h2'⟩ := hx
    cases h2'
    have hs0 := he p
    have hl : look Γ p = .c (.ptr m off) := heq
    rw [hl] at hs0
    obtain ⟨b, β, lim, hφ, hv⟩ := ptr_form hs0
    have hrep := R.rep m _ ((over_get hi (hr m (lor_l (bit_self m)))).trans (getC_get hg))
    obtain ⟨vs, hlen, hlie, hpt⟩ := cells_at hrep hφ hcut
    have hrun := run_loadVar_lies (P := P) hd hti hlie
    refine ⟨if isAggD d then .agg vs.toArray else vs.headD undef, ?_, ?_, r', h1, fun n hn => hr n (lor_r hn)⟩
    ·cases hag : isAggD d with
     | true =>
      simp [hag] at hn
      simp only [hv, asAddr, Sem.run_bind, Sem.run_pure, Result.andThen_ok, if_true]; exact hrun.1 hag (hlen.trans hn)
     | false =>
      simp [hag] at hn
      match vs, hlen.trans hn with
      | [v], _ =>
       simp only [hv, asAddr, Sem.run_bind, Sem.run_pure, Result.andThen_ok, Bool.false_eq_true, if_false]; exact hrun.2 hag v rfl
    ·cases hag : isAggD d with
     | true =>
      rw [hag] at hp
      exact repS_of hp (mkV_rep hpt)
     | false =>
      simp [hag] at hn
      match vs, hlen.trans hn with
      | [v], _ =>
       rw [hag] at hp
       exact repS_of hp (mkV_rep1 hpt)
   ·simp at hx
  cases hg : isAggD d with
  | true => simp only [hg, if_true] at hc; subst hc; exact key i.size (by simp [hg]) (by rw [hg]; exact hx)
  | false => simp only [hg, Bool.false_eq_true, if_false] at hc; subst hc; exact key 1 (by simp [hg]) (by rw [hg]; exact hx)
theorem resL_ne {vr : RR} {vrs : List RR} {xs : List V} {r : Nat} (hx : resL Γ s (vr :: vrs) = some (xs, r)) : ∃ x xs', xs = x :: xs' := by
 cases vr with
 | tmp t =>
  simp only [resL] at hx
  rw [gd_some] at hx
  obtain ⟨_, hx⟩ := hx
  simp only [Option.map_eq_some_iff] at hx
  obtain ⟨_, _, h⟩ := hx
  cases h; exact ⟨_, _, rfl⟩
 | cell t n g =>
  simp only [resL] at hx
  split at hx
  ·simp only [Option.bind_eq_some_iff] at hx
   obtain ⟨_, _, _, _, hx⟩ := hx
   rw [gd_some] at hx
   obtain ⟨_, hx⟩ := hx
   simp only [Option.map_eq_some_iff] at hx
   obtain ⟨_, _, h⟩ := hx
   cases h; exact ⟨_, _, rfl⟩
  ·simp at hx
theorem resL_run (he : EnvR φ a (look Γ)) (R : Rel w0 φ (over h2 s) w) (hi : Inv g s) : ∀ (rs : List ResultVar) (vrs : List RR) (xs : List V) (r : Nat), rs.mapM (cRes P) = some vrs → resL Γ s vrs = some (xs, r) → (∀ n, r.testBit n = true → h2 n = g n) →
  ∃ vs, Sem.run P (rs.mapM fun rv => (match rv with | .tmp t => (pure (a.tmps.getD t undef) : Sem Value) | .cell p t => (do loadVar t (← asAddr (a.tmps.getD p undef))))) w = .ok vs w ∧ Pt (RepS φ) vs xs
 | [], vrs, xs, r, hm, hx, hr => by
  simp at hm; subst hm
  simp only [resL] at hx; cases hx
  exact ⟨[], by simp, Go.VM.Pt.nil⟩
 | rv :: rs, vrs, xs, r, hm, hx, hr => by
  simp only [List.mapM_cons, Option.bind_eq_bind, Option.pure_def] at hm
  cases hrv : cRes P rv with
  | none => simp [hrv] at hm
  | some vr =>
   cases hrs : rs.mapM (cRes P) with
   | none => simp [hrv, hrs] at hm
   | some vrs' =>
    simp [hrv, hrs] at hm
    subst hm
    obtain ⟨x, xs', rfl⟩ := resL_ne hx
    obtain ⟨v, hv, hrep, r', h1, h2'⟩ := res1_run (E := look Γ) (P := P) he R hi hrv hr hx
    obtain ⟨vs, hvs, hreps⟩ := resL_run he R hi rs vrs' xs' r' hrs h1 h2'
    refine ⟨v :: vs, ?_, Go.VM.Pt.cons hrep hreps⟩
    rw [List.mapM_cons, Sem.run_bind, hv, Result.andThen_ok, Sem.run_bind, hvs]
    rfl
theorem results_run (he : EnvR φ a (look Γ)) (R : Rel w0 φ (over h2 s) w) (hi : Inv g s) {fn : Func} {vrs : List RR} {outs : List (V × S)} {r : Nat} (hm : fn.results.toList.mapM (cRes P) = some vrs) (hx : resO vrs Γ s = some (outs, r)) (hr : ∀ n, r.testBit n = true → h2 n = g n) :
  ∃ v, (results fn a.tmps).run P w = .ok v w ∧ ∃ p ∈ outs, p.2 = s ∧ RepV φ v p.1 := by
 unfold resO at hx
 split at hx
 ·simp at hx
 ·rename_i xs r' hl
  cases hx
  obtain ⟨vs, hvs, hp⟩ := resL_run (P := P) he R hi fn.results.toList vrs xs r hm hl hr
  have hrun : (results fn a.tmps).run P w = .ok (if h : vs.toArray.size = 1 then vs.toArray[0] else .tuple vs.toArray) w := by
   unfold results
   rw [← Array.toArray_toList (xs := fn.results), List.mapM_toArray]
   simp only [Sem.run_bind, Sem.run_map]
   exact (congrArg (fun r : Result (List Value) => ((r.andThen fun a w' => Result.ok a.toArray w').andThen fun a w' => Sem.run P (pure (if h : a.size = 1 then a[0] else Value.tuple a)) w')) hvs).trans rfl
  refine ⟨_, hrun, _, List.mem_singleton.2 rfl, rfl, ?_⟩
  match vs, xs, hp with
  | [], [], hp => exact ⟨#[], by simp, Go.VM.Pt.nil⟩
  | [v], [x], hp =>
   simp only [tupV]
   simpa using repV_of (hp.2 0 v x rfl rfl)
  | v :: v' :: vs, x :: x' :: xs, hp =>
   simp only [tupV]
   exact ⟨(v :: v' :: vs).toArray, by simp, hp⟩
  | [], _ :: _, hp => have := hp.1; simp at this
  | [_], [], hp => have := hp.1; simp at this
  | [_], _ :: _ :: _, hp => have := hp.1; simp at this
  | _ :: _ :: _, [], hp => have := hp.1; simp at this
  | _ :: _ :: _, [_], hp => have := hp.1; simp at this
theorem resO_inv {vrs : List RR} {outs : List (V × S)} {r : Nat} (hx : resO vrs Γ s = some (outs, r)) : ∀ p ∈ outs, p.2 = s := by
 unfold resO at hx
 split at hx
 ·simp at hx
 ·cases hx; intro p hp; rw [List.mem_singleton.1 hp]
theorem get_ofL {α : Type} : ∀ (xs : List α) (i : Nat) (t : Tr α) (m : Nat), (ofL xs i t).get m = if i ≤ m then (match xs[m - i]? with | some x => some x | none => t.get m) else t.get m
 | [], i, t, m => by simp [ofL]
 | x :: xs, i, t, m => by
  simp only [ofL]
  rw [get_ofL xs (i + 1) _ m, Tr.get_set]
  by_cases h1 : i + 1 ≤ m
  ·have h2 : i ≤ m := by omega
   have h3 : ¬ m = i := by omega
   obtain ⟨d, hd⟩ : ∃ d, m - i = d + 1 := ⟨m - i - 1, by omega⟩
   have h4 : m - (i + 1) = d := by omega
   simp [h1, h2, h3, hd, h4]
  ·by_cases h2 : m = i
   ·subst h2
    have h3 : ¬ m + 1 ≤ m := by omega
    simp [h3]
   ·have h3 : ¬ i ≤ m := by omega
    simp [h1, h2, h3]
theorem get_entry {α : Type} (xs : List α) (m : Nat) : (ofL xs 0 .lf).get m = xs[m]? := by
 rw [get_ofL]
 simp only [Nat.zero_le, if_true, Nat.sub_zero, Tr.get]
 cases xs[m]? <;> rfl
end
section
variable {P : Program} {w0 : World} {orc : CallF} {T : Tr RF}
theorem exec_succ (orc : CallF) (T : Tr RF) (n : Nat) (rc : RC) (Γ : Tr V) (s : S) : exec orc T (n + 1) rc Γ s = match rc with
 | .skip => one (.normal, Γ, s)
 | .region none ops => bindO (seqO (callF orc T n) ops Γ s) fun p => one (.normal, p.1, p.2)
 | .region (some tab) ops => bindO (drawO (callF orc T n) ops tab 0 [] Γ s 0) fun p => one (.normal, p.1, p.2)
 | .seq a b => bindO (exec orc T n a Γ s) fun p => match p.1 with
  | .normal => exec orc T n b p.2.1 p.2.2
  | _ => one p
 | .cond c a b => match isB (ev Γ c) with
  | none => none
  | some true => exec orc T n a Γ s
  | some false => exec orc T n b Γ s
 | .block id b => bindO (exec orc T n b Γ s) fun p => match p.1 with
  | .exit id' => bif Nat.beq id' id then one (.normal, p.2.1, p.2.2) else one p
  | _ => one p
 | .loop b => bindO (exec orc T n b Γ s) fun p => match p.1 with
  | .normal => exec orc T n (.loop b) p.2.1 p.2.2
  | _ => one p
 | .exit id => one (.exit id, Γ, s)
 | .ret => one (.ret, Γ, s)
 | .bad => none := by cases rc <;> rfl
theorem rounds_mono {P : Program} {c : Code} {Q Q' : Exit → Act → World → Prop} (hq : ∀ e a w, Q e a w → Q' e a w) : ∀ (m : Nat) (a : Act) (w : World), Code.rounds P c Q m a w → Code.rounds P c Q' m a w
 | 0, _, _, h => h
 | m + 1, a, w, h => by
  rw [rounds_succ] at h ⊢
  refine wp_mono h fun e a' w' hh => ?_
  cases e with
  | normal => exact rounds_mono hq m a' w' hh
  | _ => exact hq _ _ _ hh
def ExecOk (P : Program) (w0 : World) (orc : CallF) (T : Tr RF) (n : Nat) : Prop :=
 ∀ rc Γ s outs r, exec orc T n rc Γ s = some (outs, r) → (∀ g, Inv g s → ∀ p ∈ outs, Inv g p.2.2) ∧
  ∀ nt c, cCode P nt c = some rc → ∀ g h2 φ0 a w, (∀ n, r.testBit n = true → h2 n = g n) → StR w0 nt g h2 φ0 (look Γ) s a w →
   c.wp P (fun e a' w' => ∃ p ∈ outs, XM e p.1 ∧ StR w0 nt g h2 φ0 (look p.2.1) p.2.2 a' w') a w ∧
   ∀ b, c = .loop b → Code.rounds P b (fun e a' w' => ∃ p ∈ outs, XM e p.1 ∧ StR w0 nt g h2 φ0 (look p.2.1) p.2.2 a' w') n a w
theorem call_of_exec (hT : TOk P T) (ho : CallOk P w0 orc) (hoi : CallInv orc) {n : Nat} (hE : ExecOk P w0 orc T n) : CallOk P w0 (callF orc T n) ∧ CallInv (callF orc T n) := by
 refine ⟨fun f args s outs r hx => ?_, fun f args s outs r hx g hi p hp => ?_⟩
 ·unfold callF at hx
  split at hx
  ·exact ho f args s outs r hx
  ·rename_i rf hget
   obtain ⟨fn, c, hfn, hb, hc, hres, hnm⟩ := hT f rf hget
   refine ⟨⟨fn, hfn, by rw [hb]; rfl, hnm⟩, fun g h2 φ w vs hr hi R hargs => ?_⟩
   obtain ⟨l, r0, hl, hr0, hmem⟩ := bindO_mem hx
   have hwp := (hE rf.code (ofL args 0 .lf) s l r0 hl).2 fn.ntmps c hc g h2 φ { tmps := vs.toArray ++ Array.replicate (fn.ntmps - vs.toArray.size) undef, defers := [] } w (fun n hn => hr n (hr0 n hn)) (by
    refine ⟨φ, Ren.le_refl φ, fun t => ?_, R, hi, rfl, by simp; omega⟩
    unfold look
    rw [get_entry]
    cases hx : args[t]? with
    | none => trivial
    | some x =>
     have hlt : t < vs.length := by rw [hargs.1]; exact (List.getElem?_eq_some_iff.1 hx).1
     have hget : (vs.toArray ++ Array.replicate (fn.ntmps - vs.toArray.size) undef).getD t undef = vs[t] := by
      simp [Array.getD, hlt]
      intro hh; omega
     rw [hget]
     exact hargs.2 t _ x (List.getElem?_eq_getElem hlt) hx)
   refine calls_of_wp hfn hb (wp_mono hwp.1 fun e a' w' hq => ?_)
   obtain ⟨p, hp, hxm, φ', hle, he, R', hi', hd, _⟩ := hq
   obtain ⟨zs, q, hz, hzs, hq⟩ := hmem p hp
   have fin : (p.1 = .normal ∨ p.1 = .ret) → a'.defers = [] ∧ ∃ v, (results fn a'.tmps).run P w' = .ok v w' ∧ ∃ v', Ending.returned v = .returned v' ∧ ∃ p ∈ outs, ∃ φ', φ.le φ' ∧ Rel w0 φ' (over h2 p.2) w' ∧ RepV φ' v' p.1 := by
    intro hpe
    have hz' : resO rf.res p.2.1 p.2.2 = some (zs, q) := by rcases hpe with h | h <;> (rw [h] at hz; exact hz)
    obtain ⟨v, hv, p2, hp2, hs2, hrep⟩ := results_run (P := P) he R' hi' hres hz' (fun n hn => hr n (hq n hn))
    exact ⟨hd, v, hv, v, rfl, p2, hzs p2 hp2, φ', hle, by rw [hs2]; exact R', hrep⟩
   cases e with
   | normal => exact fin (.inl (by revert hxm; cases p.1 <;> simp [XM]))
   | ret => exact fin (.inr (by revert hxm; cases p.1 <;> simp [XM]))
   | exit id =>
    exfalso
    revert hxm hz
    cases p.1 <;> simp [XM]
   | goto _ => exact hxm.elim
   | panic _ => exact hxm.elim
   | outgrown => exact hxm.elim
 ·unfold callF at hx
  split at hx
  ·exact hoi f args s outs r hx g hi p hp
  ·rename_i rf hget
   refine bindO_all (C := fun p => Inv g p.2) hx (fun l r0 hl a ha zs q hz z hzm => ?_) p hp
   have h1 := (hE rf.code (ofL args 0 .lf) s l r0 hl).1 g hi a ha
   split at hz
   ·rw [resO_inv hz z hzm]; exact h1
   ·rw [resO_inv hz z hzm]; exact h1
   ·simp at hz
theorem seqO_inv {call : CallF} (hinv : CallInv call) {g : Hp} : ∀ (vl : List (ROp × Nat)) (Γ : Tr V) (s : S) (outs : List (Tr V × S)) (r : Nat), seqO call vl Γ s = some (outs, r) → Inv g s → ∀ p ∈ outs, Inv g p.2
 | [], Γ, s, outs, r, h, hi => by simp only [seqO] at h; cases h; intro p hp; rw [List.mem_singleton.1 hp]; exact hi
 | o :: os, Γ, s, outs, r, h, hi => by
  simp only [seqO] at h
  exact bindO_all (C := fun p => Inv g p.2) h fun l r0 hl a ha zs q hz z hzm => seqO_inv hinv os a.1 a.2 zs q hz (stepO_inv hinv hl hi a ha) z hzm
theorem drawO_inv {call : CallF} (hinv : CallInv call) {g : Hp} {vl : List (ROp × Nat)} {tab : List Nat} {Γ : Tr V} {s : S} {outs : List (Tr V × S)} {r : Nat} (h : drawO call vl tab 0 [] Γ s 0 = some (outs, r)) (hi : Inv g s) : ∀ p ∈ outs, Inv g p.2 := by
 obtain ⟨Γs, ss, rs, ws, e1, e2, e3, ht, _, _, _⟩ := drawO_tra vl tab 0 [] Γ s 0 outs r h
 have key : ∀ k, k ≤ vl.length → Inv g (ss k) := by
  intro k
  induction k with
  | zero => intro _; rw [e2]; exact hi
  | succ k ih =>
   intro hk n hn
   obtain ⟨t, h1, h2, h3⟩ := ht.step k vl[k] (List.getElem?_eq_getElem (by omega))
   have hi1 := stepO_inv (g := (ss k).h.get) hinv h1 (fun _ _ => rfl) _ (List.mem_singleton.2 rfl)
   rw [h2] at hn ⊢
   simp only [lor_test, Bool.or_eq_false_iff] at hn
   rw [hi1 n hn.2]
   exact ih (by omega) n hn.1
 intro p hp
 rw [e3] at hp
 rw [List.mem_singleton.1 hp]
 exact key _ (Nat.le_refl _)
theorem exec_ok (hT : TOk P T) (ho : CallOk P w0 orc) (hoi : CallInv orc) : ∀ n, ExecOk P w0 orc T n
 | 0 => fun rc Γ s outs r h => by simp [exec] at h
 | n + 1 => by
  have ih := exec_ok hT ho hoi n
  obtain ⟨hcall, hinv⟩ := call_of_exec hT ho hoi ih
  intro rc Γ s outs r hx
  rw [exec_succ] at hx
  cases rc with
  | skip =>
   cases hx
   refine ⟨fun g hi p hp => by rw [List.mem_singleton.1 hp]; exact hi, fun nt c hc g h2 φ0 a w hr st => ?_⟩
   cases c <;> simp only [cCode, Option.bind_eq_some_iff, Option.map_eq_some_iff, Option.some.injEq, reduceCtorEq, and_false, exists_false] at hc
   ·exact ⟨wp_skip ⟨_, List.mem_singleton.2 rfl, trivial, st⟩, fun b h => by simp at h⟩
   ·rcases cReg_ne hc with h | ⟨_, _, h⟩ <;> simp at h
  | ret =>
   cases hx
   refine ⟨fun g hi p hp => by rw [List.mem_singleton.1 hp]; exact hi, fun nt c hc g h2 φ0 a w hr st => ?_⟩
   cases c <;> simp only [cCode, Option.bind_eq_some_iff, Option.map_eq_some_iff, Option.some.injEq, reduceCtorEq, and_false, exists_false] at hc
   ·rcases cReg_ne hc with h | ⟨_, _, h⟩ <;> simp at h
   ·exact ⟨wp_ret ⟨_, List.mem_singleton.2 rfl, trivial, st⟩, fun b h => by simp at h⟩
  | exit id =>
   cases hx
   refine ⟨fun g hi p hp => by rw [List.mem_singleton.1 hp]; exact hi, fun nt c hc g h2 φ0 a w hr st => ?_⟩
   cases c <;> simp only [cCode, Option.bind_eq_some_iff, Option.map_eq_some_iff, Option.some.injEq, reduceCtorEq, and_false, exists_false, RC.exit.injEq] at hc
   ·rcases cReg_ne hc with h | ⟨_, _, h⟩ <;> simp at h
   ·subst hc; exact ⟨wp_exit ⟨_, List.mem_singleton.2 rfl, rfl, st⟩, fun b h => by simp at h⟩
  | bad => simp at hx
  | region d ops =>
   cases d with
   | none =>
    obtain ⟨l, r0, hl, hr0, hmem⟩ := bindO_mem hx
    have hin : ∀ p ∈ l, ((Ex.normal, p.1, p.2) : Ex × Tr V × S) ∈ outs := fun p hp => by
     obtain ⟨zs, q, hz, hzs, _⟩ := hmem p hp
     cases hz; exact hzs _ (List.mem_singleton.2 rfl)
    refine ⟨fun g hi => ?_, fun nt c hc g h2 φ0 a w hr st => ?_⟩
    ·exact bindO_all (C := fun p => Inv g p.2.2) hx fun l' r' hl' b hb zs q hz z hzm => by
      cases hz; rw [List.mem_singleton.1 hzm]
      exact seqO_inv hinv ops Γ s l' r' hl' hi b hb
    ·obtain ⟨id, ops', dr, rfl, hm, hd, _⟩ := region_form hc
     obtain rfl := hd rfl
     refine ⟨wp_region_list (seq_sound (φ0 := φ0) (ops := ops') hcall hinv ops'.toList ops Γ s a w l r0 hm hl (fun n hn => hr n (hr0 n hn)) st fun p hp a' w' st' => ⟨_, hin p hp, trivial, st'⟩), fun b h => by simp at h⟩
   | some tab =>
    obtain ⟨l, r0, hl, hr0, hmem⟩ := bindO_mem hx
    have hin : ∀ p ∈ l, ((Ex.normal, p.1, p.2) : Ex × Tr V × S) ∈ outs := fun p hp => by
     obtain ⟨zs, q, hz, hzs, _⟩ := hmem p hp
     cases hz; exact hzs _ (List.mem_singleton.2 rfl)
    refine ⟨fun g hi => ?_, fun nt c hc g h2 φ0 a w hr st => ?_⟩
    ·exact bindO_all (C := fun p => Inv g p.2.2) hx fun l' r' hl' b hb zs q hz z hzm => by
      cases hz; rw [List.mem_singleton.1 hzm]
      exact drawO_inv hinv hl' hi b hb
    ·obtain ⟨id, ops', dr, rfl, hm, _, hd⟩ := region_form hc
     obtain ⟨rfl, rfl, hoo, hmx⟩ := hd tab rfl
     exact ⟨wpAny_start hcall hinv hm hoo hmx hl (fun n hn => hr n (hr0 n hn)) st fun p hp a' w' st' => ⟨_, hin p hp, trivial, st'⟩, fun b h => by simp at h⟩
  | seq x y =>
   obtain ⟨l, r0, hl, hr0, hmem⟩ := bindO_mem hx
   have hi1 := ih x Γ s l r0 hl
   refine ⟨fun g hi => ?_, fun nt c hc g h2 φ0 a w hr st => ?_⟩
   ·refine bindO_all (C := fun p => Inv g p.2.2) hx fun l' r' hl' b hb zs q hz z hzm => ?_
    have h1 := (ih x Γ s l' r' hl').1 g hi b hb
    split at hz
    ·exact (ih y _ _ zs q hz).1 g h1 z hzm
    ·cases hz; rw [List.mem_singleton.1 hzm]; exact h1
   ·cases c <;> simp only [cCode, Option.bind_eq_some_iff, Option.map_eq_some_iff, Option.some.injEq, reduceCtorEq, and_false, exists_false, RC.seq.injEq] at hc
    ·rcases cReg_ne hc with h | ⟨_, _, h⟩ <;> simp at h
    ·obtain ⟨x', hx', y', hy', rfl, rfl⟩ := hc
     refine ⟨wp_seq (wp_mono (hi1.2 nt _ hx' g h2 φ0 a w (fun n hn => hr n (hr0 n hn)) st).1 fun e a' w' hq => ?_), fun b h => by simp at h⟩
     obtain ⟨p, hp, hxm, st'⟩ := hq
     obtain ⟨zs, q, hz, hzs, hq⟩ := hmem p hp
     cases e with
     | normal =>
      have hpe : p.1 = .normal := by revert hxm; cases p.1 <;> simp [XM]
      rw [hpe] at hz
      exact wp_mono ((ih y' p.2.1 p.2.2 zs q hz).2 nt _ hy' g h2 φ0 a' w' (fun n hn => hr n (hq n hn)) st').1 fun e2 a2 w2 ⟨p2, hp2, hx2, st2⟩ => ⟨p2, hzs p2 hp2, hx2, st2⟩
     | exit id =>
      have hz : one p = some (zs, q) := by revert hz hxm; cases p.1 <;> first | exact fun h _ => h | simp [XM]
      cases hz
      exact ⟨p, hzs p (List.mem_singleton.2 rfl), hxm, st'⟩
     | ret =>
      have hz : one p = some (zs, q) := by revert hz hxm; cases p.1 <;> first | exact fun h _ => h | simp [XM]
      cases hz
      exact ⟨p, hzs p (List.mem_singleton.2 rfl), hxm, st'⟩
     | goto _ => exact hxm.elim
     | panic _ => exact hxm.elim
     | outgrown => exact hxm.elim
  | cond q x y =>
   simp only at hx
   cases hb : isB (ev Γ q) with
   | none => rw [hb] at hx; simp at hx
   | some t =>
    have hsel : exec orc T n (if t = true then x else y) Γ s = some (outs, r) := by
     rw [hb] at hx
     cases t <;> simpa using hx
    have hi1 := ih _ Γ s outs r hsel
    refine ⟨hi1.1, fun nt c hc g h2 φ0 a w hr st => ?_⟩
    cases c <;> simp only [cCode, Option.bind_eq_some_iff, Option.map_eq_some_iff, Option.some.injEq, reduceCtorEq, and_false, exists_false, RC.cond.injEq] at hc
    ·rcases cReg_ne hc with h | ⟨_, _, h⟩ <;> simp at h
    ·obtain ⟨c', hc', x', hx', y', hy', rfl, rfl, rfl⟩ := hc
     have hv := (fun (st : StR w0 nt g h2 φ0 (look Γ) s a w) => let ⟨φ, _, he, _⟩ := st; isB_rep (ev_sound he hc') hb) st
     refine ⟨wp_cond_split hv (fun ht => ?_) (fun ht => ?_), fun b h => by simp at h⟩
     ·subst ht
      exact (hi1.2 nt _ (by simpa using hx') g h2 φ0 a w hr st).1
     ·subst ht
      exact (hi1.2 nt _ (by simpa using hy') g h2 φ0 a w hr st).1
  | block id b =>
   obtain ⟨l, r0, hl, hr0, hmem⟩ := bindO_mem hx
   have hi1 := ih b Γ s l r0 hl
   refine ⟨fun g hi => ?_, fun nt c hc g h2 φ0 a w hr st => ?_⟩
   ·refine bindO_all (C := fun p => Inv g p.2.2) hx fun l' r' hl' b' hb zs q hz z hzm => ?_
    have h1 := (ih b Γ s l' r' hl').1 g hi b' hb
    split at hz
    ·rename_i id' _
     cases hbq : Nat.beq id' id with
     | true => rw [hbq] at hz; cases hz; rw [List.mem_singleton.1 hzm]; exact h1
     | false => rw [hbq] at hz; cases hz; rw [List.mem_singleton.1 hzm]; exact h1
    ·cases hz; rw [List.mem_singleton.1 hzm]; exact h1
   ·cases c <;> simp only [cCode, Option.bind_eq_some_iff, Option.map_eq_some_iff, Option.some.injEq, reduceCtorEq, and_false, exists_false, RC.block.injEq] at hc
    ·rcases cReg_ne hc with h | ⟨_, _, h⟩ <;> simp at h
    ·rename_i id0 cb
     obtain ⟨b', hb', hid, hbe⟩ := hc
     subst hbe
     rw [hid]
     refine ⟨wp_block (wp_mono (hi1.2 nt _ hb' g h2 φ0 a w (fun n hn => hr n (hr0 n hn)) st).1 fun e a' w' hq => ?_), fun b h => by simp at h⟩
     obtain ⟨p, hp, hxm, st'⟩ := hq
     obtain ⟨zs, q, hz, hzs, hq⟩ := hmem p hp
     cases e with
     | normal =>
      have hz : one p = some (zs, q) := by revert hz hxm; cases p.1 <;> first | exact fun h _ => h | simp [XM]
      cases hz
      exact ⟨p, hzs p (List.mem_singleton.2 rfl), hxm, st'⟩
     | ret =>
      have hz : one p = some (zs, q) := by revert hz hxm; cases p.1 <;> first | exact fun h _ => h | simp [XM]
      cases hz
      exact ⟨p, hzs p (List.mem_singleton.2 rfl), hxm, st'⟩
     | exit id' =>
      have hpe : p.1 = .exit id' := by revert hxm; cases p.1 <;> simp [XM]; exact fun h => h.symm
      rw [hpe] at hz
      simp only [Exit.inBlock]
      by_cases e : id' = id
      ·subst e
       have hz : one (Ex.normal, p.2.1, p.2.2) = some (zs, q) := by simpa using hz
       cases hz
       rw [if_pos rfl]
       exact ⟨_, hzs _ (List.mem_singleton.2 rfl), trivial, st'⟩
      ·have hbq : Nat.beq id' id = false := by
        cases h : Nat.beq id' id with
        | false => rfl
        | true => exact absurd (beq_t h) e
       simp only [hbq, cond_false] at hz
       cases hz
       rw [if_neg e]
       exact ⟨_, hzs _ (List.mem_singleton.2 rfl), by rw [hpe]; rfl, st'⟩
     | goto _ => exact hxm.elim
     | panic _ => exact hxm.elim
     | outgrown => exact hxm.elim
  | loop b =>
   obtain ⟨l, r0, hl, hr0, hmem⟩ := bindO_mem hx
   have hi1 := ih b Γ s l r0 hl
   refine ⟨fun g hi => ?_, fun nt c hc g h2 φ0 a w hr st => ?_⟩
   ·refine bindO_all (C := fun p => Inv g p.2.2) hx fun l' r' hl' b' hb zs q hz z hzm => ?_
    have h1 := (ih b Γ s l' r' hl').1 g hi b' hb
    split at hz
    ·exact (ih (.loop b) _ _ zs q hz).1 g h1 z hzm
    ·cases hz; rw [List.mem_singleton.1 hzm]; exact h1
   ·have hc' := hc
    cases c <;> simp only [cCode, Option.bind_eq_some_iff, Option.map_eq_some_iff, Option.some.injEq, reduceCtorEq, and_false, exists_false, RC.loop.injEq] at hc
    ·rcases cReg_ne hc with h | ⟨_, _, h⟩ <;> simp at h
    ·rename_i cb
     obtain ⟨b', hb', hbe⟩ := hc
     have hbe := hbe.symm
     subst hbe
     have key : Code.rounds P cb (fun e a' w' => ∃ p ∈ outs, XM e p.1 ∧ StR w0 nt g h2 φ0 (look p.2.1) p.2.2 a' w') (n + 1) a w := by
      rw [rounds_succ]
      refine wp_mono (hi1.2 nt _ hb' g h2 φ0 a w (fun n hn => hr n (hr0 n hn)) st).1 fun e a' w' hq => ?_
      obtain ⟨p, hp, hxm, st'⟩ := hq
      obtain ⟨zs, q, hz, hzs, hq⟩ := hmem p hp
      cases e with
      | normal =>
       have hpe : p.1 = .normal := by revert hxm; cases p.1 <;> simp [XM]
       rw [hpe] at hz
       exact rounds_mono (fun e2 a2 w2 ⟨p2, hp2, hx2, st2⟩ => ⟨p2, hzs p2 hp2, hx2, st2⟩) n a' w' (((ih (.loop b) p.2.1 p.2.2 zs q hz).2 nt _ hc' g h2 φ0 a' w' (fun n hn => hr n (hq n hn)) st').2 cb rfl)
      | exit id =>
       have hz : one p = some (zs, q) := by revert hz hxm; cases p.1 <;> first | exact fun h _ => h | simp [XM]
       cases hz
       exact ⟨p, hzs p (List.mem_singleton.2 rfl), hxm, st'⟩
      | ret =>
       have hz : one p = some (zs, q) := by revert hz hxm; cases p.1 <;> first | exact fun h _ => h | simp [XM]
       cases hz
       exact ⟨p, hzs p (List.mem_singleton.2 rfl), hxm, st'⟩
      | goto _ => exact hxm.elim
      | panic _ => exact hxm.elim
      | outgrown => exact hxm.elim
     exact ⟨wp_loop_rounds (n + 1) key, fun b'' h => by cases h; exact key⟩
end
end Go.RM
namespace Go.RM
open Go.VM (Pt Fr T RepT RepC Fun noHeap blks resOk okOf Oid Lies)
def toX : Go.VM.C → Option X
 | .imm t => some (imX t)
 | .nilS => some (.sc nilSl)
 | .nilM => some (.sc (.map none))
 | _ => none
def toV : Go.VM.V → Option V
 | .c x => (toX x).map .c
 | .agg cs => (cs.mapM toX).map .agg
 | _ => none
theorem toX_rep {w : World} {ok : Nat → Prop} {B : Oid → Value} {φ : Ren} (hw : φ.w0 = w) (hk : φ.ok = ok) {v : Value} {c : Go.VM.C} {x : X} (h : RepC w ok B v c) (hx : toX c = some x) : RepX φ v x := by
 subst hw; subst hk
 cases h <;> simp only [toX, Option.some.injEq, reduceCtorEq] at hx
 ·subst hx; exact imX_rep ‹_›
 ·subst hx; exact .sc _ rfl
 ·subst hx; exact .sc _ rfl
theorem toXs_rep {w : World} {ok : Nat → Prop} {B : Oid → Value} {φ : Ren} (hw : φ.w0 = w) (hk : φ.ok = ok) : ∀ (vs : List Value) (cs : List Go.VM.C) (xs : List X), Pt (RepC w ok B) vs cs → cs.mapM toX = some xs → Pt (RepX φ) vs xs
 | [], cs, xs, hp, hx => by
  have : cs = [] := List.eq_nil_of_length_eq_zero (by have := hp.1; simpa using this.symm)
  subst this
  simp at hx; subst hx; exact Go.VM.Pt.nil
 | v :: vs, cs, xs, hp, hx => by
  cases cs with
  | nil => have := hp.1; simp at this
  | cons c cs =>
   simp only [List.mapM_cons, Option.bind_eq_bind, Option.pure_def] at hx
   cases h1 : toX c with
   | none => simp [h1] at hx
   | some x =>
    cases h2 : cs.mapM toX with
    | none => simp [h1, h2] at hx
    | some r =>
     simp [h1, h2] at hx
     subst hx
     have ht : Pt (RepC w ok B) vs cs := ⟨by have := hp.1; simpa using this, fun j u z hu hz => hp.2 (j + 1) u z (by simpa using hu) (by simpa using hz)⟩
     exact Go.VM.Pt.cons (toX_rep hw hk (hp.2 0 v c rfl rfl) h1) (toXs_rep hw hk vs cs r ht h2)
theorem toV_rep {w : World} {ok : Nat → Prop} {B : Oid → Value} {φ : Ren} (hw : φ.w0 = w) (hk : φ.ok = ok) {v : Value} {c : Go.VM.V} {x : V} (h : Go.VM.RepV w ok B v c) (hx : toV c = some x) : RepV φ v x := by
 cases c with
 | c y =>
  simp only [toV, Option.map_eq_some_iff] at hx
  obtain ⟨z, hz, rfl⟩ := hx
  exact toX_rep (B := B) hw hk h hz
 | agg cs =>
  simp only [toV, Option.map_eq_some_iff] at hx
  obtain ⟨z, hz, rfl⟩ := hx
  obtain ⟨us, rfl, hp⟩ := h
  exact ⟨us, rfl, toXs_rep hw hk _ _ _ hp hz⟩
 | tup _ => simp [toV] at hx
 | junk => simp [toV] at hx
theorem toVs_rep {w : World} {ok : Nat → Prop} {B : Oid → Value} {φ : Ren} (hw : φ.w0 = w) (hk : φ.ok = ok) : ∀ (vs : List Value) (cs : List Go.VM.V) (xs : List V), Pt (Go.VM.RepV w ok B) vs cs → cs.mapM toV = some xs → Pt (RepV φ) vs xs
 | [], cs, xs, hp, hx => by
  have : cs = [] := List.eq_nil_of_length_eq_zero (by have := hp.1; simpa using this.symm)
  subst this
  simp at hx; subst hx; exact Go.VM.Pt.nil
 | v :: vs, cs, xs, hp, hx => by
  cases cs with
  | nil => have := hp.1; simp at this
  | cons c cs =>
   simp only [List.mapM_cons, Option.bind_eq_bind, Option.pure_def] at hx
   cases h1 : toV c with
   | none => simp [h1] at hx
   | some x =>
    cases h2 : cs.mapM toV with
    | none => simp [h1, h2] at hx
    | some r =>
     simp [h1, h2] at hx
     subst hx
     have ht : Pt (Go.VM.RepV w ok B) vs cs := ⟨by have := hp.1; simpa using this, fun j u z hu hz => hp.2 (j + 1) u z (by simpa using hu) (by simpa using hz)⟩
     exact Go.VM.Pt.cons (toV_rep hw hk (hp.2 0 v c rfl rfl) h1) (toVs_rep hw hk vs cs r ht h2)
inductive TreeX (h : Hp) (fresh : Bool) : X → T → Prop
 | sc (v : Value) : TreeX h fresh (.sc v) (.sc v)
 | nil (k : Nat) : TreeX h fresh (.sc nilSl) (.sl k [])
 | es (k : Nat) : TreeX h fresh .es (.sl k [])
 | ez (k : Nat) : TreeX h fresh .ez (.sl k [])
 | im (k : Nat) (rows : List (List T)) : fresh = false → TreeX h fresh (.im k rows) (.sl k rows)
 | im0 (k k' : Nat) : TreeX h fresh (.im k []) (.sl k' [])
 | sl0 (n k off k' : Nat) : TreeX h fresh (.sl n k off 0) (.sl k' [])
 | sl (n k off : Nat) (rows : List (List T)) (e : TypeId) (cs xs : List X) : h n = some (.cells e cs) → cut cs off (rows.length * k) = some xs → (∀ row ∈ rows, row.length = k) → xs.length = rows.flatten.length →
   (∀ (j : Nat) x t, xs[j]? = some x → rows.flatten[j]? = some t → TreeX h fresh x t) → TreeX h fresh (.sl n k off rows.length) (.sl k rows)
def TreeS (h : Hp) (fresh : Bool) : V → Go.VM.V → Prop
 | .c x, .c (.imm t) => TreeX h fresh x t
 | .agg xs, .agg cs => Pt (fun x c => ∃ t, c = .imm t ∧ TreeX h fresh x t) xs cs
 | _, _ => False
def TreeV (h : Hp) (fresh : Bool) : V → Go.VM.V → Prop
 | .tup xs, .tup ys => Pt (TreeS h fresh) xs ys
 | x, y => TreeS h fresh x y
section
variable {w0 w : World} {φ : Ren} {h : Hp} {fresh : Bool} {B : Oid → Value}
theorem treeX_rep (R : Rel w0 φ h w) {v : Value} {x : X} {t : T} (hx : RepX φ v x) (ht : TreeX h fresh x t) : RepT w (resOk fresh w0.heap.size φ.ok w B noHeap) v t := by
 induction ht generalizing v with
 | sc u => cases hx with | sc _ h => exact .sc _ h
 | nil k => cases hx; exact .nil _ _ _
 | es k => cases hx; exact .nil _ _ _
 | ez k => cases hx; exact .nil _ _ _
 | im k rows hf =>
  cases hx with
  | im _ _ _ hrt =>
   rw [R.w0e] at hrt
   exact hrt.mono (fun b hb => R.fr.block b (R.okl b hb) id) fun b hb => ⟨⟨Nat.lt_of_lt_of_le (R.okl b hb) R.fr.size, fun _ => hb, fun o ob ho => by simp [noHeap] at ho⟩, fun h => by rw [hf] at h; simp at h⟩
 | im0 k k' =>
  rcases im_form (φ := φ) hx with ⟨_, a, cap, rfl⟩ | ⟨b, off, cap, rfl, _⟩
  ·exact .nil _ _ _
  ·exact .nil _ _ _
 | sl0 n k off k' =>
  cases hx with
  | sl => exact .nil _ _ _
 | sl n k off rows e cs xs hn hcut hk hl _ ih =>
  cases hx with
  | sl _ _ _ _ b β lim o cap hφ hlen ho hlim =>
   by_cases h0 : rows = []
   ·subst h0; exact .nil _ _ _
   ·have hpos : 0 < rows.length := List.length_pos_iff.2 h0
    have ho := ho hpos
    subst ho
    obtain ⟨vs, hvl, hlie, hp⟩ := cells_at (R.rep n _ hn) hφ hcut
    have hb : w0.heap.size ≤ b := R.old n _ b hn rfl ⟨_, _, hφ⟩
    have hget : ∀ (i : Nat) row (j : Nat) x, rows[i]? = some row → row[j]? = some x → rows.flatten[i * k + j]? = some x := by
     intro i row j x hi hj
     have hrl := hk row (List.mem_of_getElem? hi)
     have hjl : j < k := by rw [← hrl]; exact (List.getElem?_eq_some_iff.1 hj).1
     have hf := Go.VM.flatten_get rows i row hk hi
     have : ((rows.flatten.drop (i * k)).take k)[j]? = some x := by rw [hf]; exact hj
     simpa [List.getElem?_take, hjl, List.getElem?_drop] using this
    have hval : ∀ (i : Nat) row (j : Nat) x, rows[i]? = some row → row[j]? = some x → ∃ u, vs[i * k + j]? = some u ∧ RepT w (resOk fresh w0.heap.size φ.ok w B noHeap) u x := by
     intro i row j x hi hj
     have hx := hget i row j x hi hj
     have hlt : i * k + j < xs.length := by rw [hl]; exact (List.getElem?_eq_some_iff.1 hx).1
     have hlt' : i * k + j < vs.length := by rw [hp.1]; exact hlt
     exact ⟨vs[i * k + j], List.getElem?_eq_getElem hlt', ih _ _ _ (List.getElem?_eq_getElem hlt) hx (hp.2 _ _ _ (List.getElem?_eq_getElem hlt') (List.getElem?_eq_getElem hlt))⟩
    refine .sl b (β + off) cap k rows (fun i j => vs.getD (i * k + j) undef) ⟨⟨R.lt n b ⟨_, _, hφ⟩, fun hlt => by omega, fun o ob ho => by simp [noHeap] at ho⟩, fun _ => hb⟩ hlen hk ?_ ?_
    ·intro i row j x hi hj
     obtain ⟨u, hu, _⟩ := hval i row j x hi hj
     have := hlie _ u hu
     simp only [List.getD, hu, Option.getD_some]
     rw [Nat.add_assoc]; exact this
    ·intro i row j x hi hj
     obtain ⟨u, hu, hr⟩ := hval i row j x hi hj
     simp only [List.getD, hu, Option.getD_some]
     exact hr
theorem treeS_rep (R : Rel w0 φ h w) {v : Value} {x : V} {y : Go.VM.V} (hx : RepS φ v x) (ht : TreeS h fresh x y) : Go.VM.RepS w (resOk fresh w0.heap.size φ.ok w B noHeap) B v y := by
 unfold TreeS at ht
 split at ht
 ·exact RepC.imm _ _ (treeX_rep R hx ht)
 ·obtain ⟨cs, rfl, hp⟩ := hx
  refine ⟨cs, rfl, hp.1.trans ht.1, fun j u c hu hc => ?_⟩
  have hlt : j < cs.toList.length := (List.getElem?_eq_some_iff.1 hu).1
  have hlt' : j < _ := hp.1 ▸ hlt
  obtain ⟨t, rfl, hx⟩ := ht.2 j _ c (List.getElem?_eq_getElem hlt') hc
  exact RepC.imm _ _ (treeX_rep R (hp.2 j u _ hu (List.getElem?_eq_getElem hlt')) hx)
 ·exact ht.elim
theorem treeV_rep (R : Rel w0 φ h w) {v : Value} {x : V} {y : Go.VM.V} (hx : RepV φ v x) (ht : TreeV h fresh x y) : Go.VM.RepV w (resOk fresh w0.heap.size φ.ok w B noHeap) B v y := by
 unfold TreeV at ht
 split at ht
 ·obtain ⟨vs, rfl, hp⟩ := hx
  refine ⟨vs, rfl, hp.1.trans ht.1, fun j u c hu hc => ?_⟩
  have hlt : j < vs.toList.length := (List.getElem?_eq_some_iff.1 hu).1
  have hlt' : j < _ := hp.1 ▸ hlt
  exact treeS_rep R (hp.2 j u _ hu (List.getElem?_eq_getElem hlt')) (ht.2 j _ c (List.getElem?_eq_getElem hlt') hc)
 ·cases x with
  | c _ =>
   cases y with
   | c _ => exact treeS_rep R (x := .c _) (y := .c _) hx ht
   | _ => simp [TreeS] at ht
  | agg _ =>
   cases y with
   | agg _ => exact treeS_rep R (x := .agg _) (y := .agg _) hx ht
   | _ => simp [TreeS] at ht
  | tup _ => simp [TreeS] at ht
  | junk => simp [TreeS] at ht
end
def ofPairs : List (Nat × RF) → Tr RF
 | [] => .lf
 | p :: r => (ofPairs r).set p.1 p.2
theorem ofPairs_get : ∀ {l : List (Nat × RF)} {f : Nat} {rf : RF}, (ofPairs l).get f = some rf → (f, rf) ∈ l
 | [], f, rf, h => by simp [ofPairs, Tr.get] at h
 | p :: l, f, rf, h => by
  simp only [ofPairs, Tr.get_set] at h
  by_cases e : f = p.1
  ·rw [if_pos e] at h
   cases h
   rw [e]; exact List.mem_cons_self
  ·rw [if_neg e] at h
   exact List.mem_cons_of_mem _ (ofPairs_get h)
def nameOk (P : Program) (f : FuncId) : Bool := match P.funcs[f]? with
 | some fn => !(fn.name == "runtime.NumGoroutine")
 | none => false
theorem tok_of {P : Program} {l : List (Nat × RF)} (h : ∀ p ∈ l, cFun P p.1 = some p.2 ∧ nameOk P p.1 = true) : TOk P (ofPairs l) := by
 intro f rf hf
 obtain ⟨h1, h2⟩ := h _ (ofPairs_get hf)
 simp only [cFun, Option.bind_eq_some_iff, Option.map_eq_some_iff] at h1
 obtain ⟨fn, hfn, c, hc, rc, hrc, rs, hrs, rfl⟩ := h1
 refine ⟨fn, c, hfn, hc, hrc, hrs, ?_⟩
 simp only [nameOk, hfn, Bool.not_eq_true'] at h2
 exact h2
def s0 : S := ⟨.lf, 0, 0⟩
def noOrc : CallF := fun _ _ _ => none
theorem noOrc_ok (P : Program) (w0 : World) : CallOk P w0 noOrc := fun _ _ _ _ _ h => by simp [noOrc] at h
theorem noOrc_inv : CallInv noOrc := fun _ _ _ _ _ h => by simp [noOrc] at h
theorem fun_of_run {P : Program} {orc : CallF} {T : Tr RF} (hT : TOk P T) (ho : ∀ w0, CallOk P w0 orc) (hoi : CallInv orc) {f : FuncId} {vs : List Go.VM.V} {us : List V} (hus : vs.mapM toV = some us) {fresh : Bool} {r : Go.VM.V}
  {n : Nat} {outs : List (V × S)} {rr : Nat} (hx : callF orc T n f us s0 = some (outs, rr)) (hr : ∀ p ∈ outs, TreeV p.2.h.get fresh p.1 r) : Fun P f fresh [] vs noHeap r noHeap := by
 intro w ok B args hlt hbl hp hobjs
 obtain ⟨hcall, hinv⟩ := call_of_exec hT (ho w) hoi (exec_ok hT (ho w) hoi n)
 let φ : Ren := ⟨fun _ => none, w, ok⟩
 have R : Rel w φ (over (fun _ => none) s0) w := by
  have hn : ∀ m, over (fun _ => none) s0 m = none := fun m => by simp [over, s0]
  exact ⟨fun m o h => by rw [hn] at h; simp at h, fun m _ o _ _ h => by rw [hn] at h; simp at h, fun m o _ h => by rw [hn] at h; simp at h, fun m _ _ _ h => by rw [hn] at h; simp at h, fun _ _ => rfl, fun m b ⟨_, _, h⟩ => by simp [φ] at h, Fr.refl _ _, rfl, hlt⟩
 refine ((hcall f us s0 outs rr hx).2 (fun _ => none) (fun _ => none) φ w args (fun _ _ => rfl) (fun m _ => rfl) R (toVs_rep rfl rfl _ _ _ hp hus)).mono fun e w' hh => ?_
 obtain ⟨v, rfl, p, hpm, φ', hle, R', hrep⟩ := hh
 have hov : over (fun _ => none) p.2 = p.2.h.get := by
  funext m
  unfold over
  cases hb : p.2.w.testBit m with
  | true => rfl
  | false => exact (hinv f us s0 outs rr hx (fun _ => none) (fun _ _ => rfl) p hpm m hb).symm
 rw [hov] at R'
 have hok : φ'.ok = ok := hle.ok
 refine ⟨v, B, rfl, ⟨R'.fr.os, R'.fr.tape, R'.fr.output, R'.fr.size, fun b hb _ => R'.fr.block b hb id⟩, ?_, ⟨fun o ob h => by simp [noHeap] at h, fun o o' ob ob' b h => by simp [noHeap] at h⟩, fun o ob b h => by simp [noHeap] at h, fun o h => by simp at h⟩
 have := treeV_rep (B := B) (fresh := fresh) R' hrep (hr p hpm)
 rw [hok] at this
 exact this
def allT : List (V × S) → Bool
 | [] => true
 | p :: r => match p.1 with
  | .c (.sc (.bool true)) => allT r
  | _ => false
theorem allT_mem : ∀ {l : List (V × S)}, allT l = true → ∀ p ∈ l, p.1 = .c (.sc (.bool true))
 | [], _, p, h => by simp at h
 | q :: r, h, p, hp => by
  simp only [allT] at h
  split at h
  ·rename_i hq
   rcases List.mem_cons.1 hp with rfl | hp
   ·exact hq
   ·exact allT_mem h p hp
  ·simp at h
def isT : Out (V × S) → Bool
 | some (l, _) => allT l
 | none => false
theorem fun_true {P : Program} {T : Tr RF} (hT : TOk P T) {f : FuncId} (fresh : Bool) (n : Nat) (h : isT (callF noOrc T n f [] s0) = true) : Fun P f fresh [] [] noHeap (.c (.imm (.sc (.bool true)))) noHeap := by
 unfold isT at h
 split at h
 ·rename_i heq
  exact fun_of_run hT (fun w0 => noOrc_ok P w0) noOrc_inv (vs := []) (us := []) rfl heq fun p hp => by
   rw [allT_mem h p hp]
   exact TreeX.sc _
 ·simp at h
end Go.RM
namespace Go.RM
def Up {α : Type} (f f' : Option α) : Prop := ∀ x, f = some x → f' = some x
theorem Up.refl {α : Type} (f : Option α) : Up f f := fun _ h => h
theorem Up.trans {α : Type} {f f' f'' : Option α} (h : Up f f') (h' : Up f' f'') : Up f f'' := fun x hx => h' x (h x hx)
theorem eachO_up {α β : Type} {f f' : α → Out β} : ∀ (l : List α) (r : Nat), (∀ a ∈ l, Up (f a) (f' a)) → Up (eachO f l r) (eachO f' l r)
 | [], r, _ => fun x h => h
 | a :: l, r, h => fun x hx => by
  simp only [eachO] at hx ⊢
  split at hx
  ·simp at hx
  ·rename_i ys r1 hf
   rw [h a List.mem_cons_self _ hf]
   split at hx
   ·simp at hx
   ·rename_i zs r2 he
    rw [eachO_up l _ (fun b hb => h b (List.mem_cons_of_mem _ hb)) _ he]
    exact hx
theorem bindO_up {α β : Type} {x x' : Out α} {f f' : α → Out β} (hx : Up x x') (h : ∀ a, Up (f a) (f' a)) : Up (bindO x f) (bindO x' f') := by
 intro y hy
 unfold bindO at hy ⊢
 split at hy
 ·simp at hy
 ·rename_i l r
  rw [hx _ rfl]
  exact eachO_up l r (fun a _ => h a) y hy
def CallUp (call call' : CallF) : Prop := ∀ f args s, Up (call f args s) (call' f args s)
theorem opX_up {call call' : CallF} (h : CallUp call call') (e : Opd → V) (s : S) (ro : RO) : Up (opX call e s ro) (opX call' e s ro) := by
 intro x hx
 cases ro
 case call f args => exact h _ _ _ x hx
 case callv y args =>
  simp only [opX] at hx ⊢
  split at hx
  ·exact h _ _ _ x hx
  ·simp at hx
 all_goals exact hx
theorem stepO_up {call call' : CallF} (h : CallUp call call') (o : ROp) (Γ : Tr V) (s : S) : Up (stepO call o Γ s) (stepO call' o Γ s) := by
 intro x hx
 unfold stepO at hx ⊢
 split at hx
 ·simp at hx
 ·exact hx
 ·exact bindO_up (opX_up h _ _ _) (fun a => Up.refl _) x hx
theorem seqO_up {call call' : CallF} (h : CallUp call call') : ∀ (os : List (ROp × Nat)) (Γ : Tr V) (s : S), Up (seqO call os Γ s) (seqO call' os Γ s)
 | [], _, _ => Up.refl _
 | o :: os, Γ, s => by
  intro x hx
  simp only [seqO] at hx ⊢
  exact bindO_up (stepO_up h _ _ _) (fun a => seqO_up h os a.1 a.2) x hx
theorem drawO_up {call call' : CallF} (h : CallUp call call') : ∀ (os : List (ROp × Nat)) (tab : List Nat) (i : Nat) (ds : List Did) (Γ : Tr V) (s : S) (r : Nat), Up (drawO call os tab i ds Γ s r) (drawO call' os tab i ds Γ s r)
 | [], _, _, _, _, _, _ => Up.refl _
 | o :: os, [], i, ds, Γ, s, r => by intro x hx; simp [drawO] at hx
 | o :: os, b :: tab, i, ds, Γ, s, r => by
  intro x hx
  simp only [drawO] at hx ⊢
  split at hx
  ·rename_i Γ' s' r' hst
   rw [stepO_up h _ _ _ _ hst]
   simp only
   cases hall : ds.all (fun x => apartB b x ⟨i, o.2, dstM o.1.dst, r', s'.w⟩) with
   | false => simp [hall] at hx
   | true =>
    simp only [hall, cond_true] at hx ⊢
    exact drawO_up h os tab _ _ _ _ _ x hx
  ·simp at hx
theorem exec_up (orc : CallF) (T : Tr RF) : ∀ (n : Nat) (c : RC) (Γ : Tr V) (s : S), Up (exec orc T n c Γ s) (exec orc T (n + 1) c Γ s)
 | 0, _, _, _ => fun x h => by simp [exec] at h
 | n + 1, c, Γ, s => by
  have hc : CallUp (callF orc T n) (callF orc T (n + 1)) := by
   intro f args s x hx
   unfold callF at hx ⊢
   split at hx
   ·exact hx
   ·exact bindO_up (exec_up orc T n _ _ _) (fun a => Up.refl _) x hx
  intro x hx
  rw [exec_succ] at hx ⊢
  cases c with
  | skip => exact hx
  | ret => exact hx
  | exit _ => exact hx
  | bad => exact hx
  | region d ops =>
   cases d with
   | none => exact bindO_up (seqO_up hc _ _ _) (fun a => Up.refl _) x hx
   | some tab => exact bindO_up (drawO_up hc _ _ _ _ _ _ _) (fun a => Up.refl _) x hx
  | seq a b =>
   refine bindO_up (exec_up orc T n a Γ s) (fun p => ?_) x hx
   intro y hy
   split at hy
   ·exact exec_up orc T n b _ _ y hy
   ·exact hy
  | cond q a b =>
   simp only at hx ⊢
   split at hx
   ·simp at hx
   ·rename_i hb
    exact exec_up orc T n a _ _ x hx
   ·rename_i hb
    exact exec_up orc T n b _ _ x hx
  | block id b => exact bindO_up (exec_up orc T n b Γ s) (fun a => Up.refl _) x hx
  | loop b =>
   refine bindO_up (exec_up orc T n b Γ s) (fun p => ?_) x hx
   intro y hy
   split at hy
   ·exact exec_up orc T n (.loop b) _ _ y hy
   ·exact hy
theorem callF_up (orc : CallF) (T : Tr RF) (n : Nat) : CallUp (callF orc T n) (callF orc T (n + 1)) := by
 intro f args s x hx
 unfold callF at hx ⊢
 split at hx
 ·exact hx
 ·exact bindO_up (exec_up orc T n _ _ _) (fun a => Up.refl _) x hx
def Mono {α : Type} (g : Nat → Out α) : Prop := ∀ n, Up (g n) (g (n + 1))
theorem Mono.le {α : Type} {g : Nat → Out α} (h : Mono g) {n m : Nat} (hnm : n ≤ m) : Up (g n) (g m) := by
 obtain ⟨d, rfl⟩ := Nat.le.dest hnm
 clear hnm
 induction d with
 | zero => exact Up.refl _
 | succ d ih => exact ih.trans (h (n + d))
theorem Mono.exec (orc : CallF) (T : Tr RF) (c : RC) (Γ : Tr V) (s : S) : Mono fun n => exec orc T n c Γ s := fun n => exec_up orc T n c Γ s
theorem Mono.call (orc : CallF) (T : Tr RF) (f : FuncId) (args : List V) (s : S) : Mono fun n => callF orc T n f args s := fun n => callF_up orc T n f args s
theorem Mono.const {α : Type} (x : Out α) : Mono fun _ => x := fun _ => Up.refl _
theorem Mono.bind {α β : Type} {g : Nat → Out α} {f : Nat → α → Out β} (h : Mono g) (h' : ∀ a, Mono fun n => f n a) : Mono fun n => bindO (g n) (f n) := fun n => bindO_up (h n) fun a => h' a n
def Ev {α : Type} (g : Nat → Out α) (F : Nat → Prop) (D : Prop) (Q : α → Prop) : Prop :=
 ∃ n outs r, g n = some (outs, r) ∧ (∀ p ∈ outs, Q p) ∧ (∀ k, r.testBit k = true → F k) ∧ (D → ∃ p, outs = [p])
theorem Ev.mono {α : Type} {g : Nat → Out α} {F F' : Nat → Prop} {D D' : Prop} {Q Q' : α → Prop} (h : Ev g F D Q) (hF : ∀ k, F k → F' k) (hD : D' → D) (hQ : ∀ p, Q p → Q' p) : Ev g F' D' Q' := by
 obtain ⟨n, outs, r, h1, h2, h3, h4⟩ := h
 exact ⟨n, outs, r, h1, fun p hp => hQ p (h2 p hp), fun k hk => hF k (h3 k hk), fun d => h4 (hD d)⟩
theorem Ev.congr {α : Type} {g g' : Nat → Out α} {F : Nat → Prop} {D : Prop} {Q : α → Prop} (h : Ev g F D Q) (e : ∀ n, g' n = g n) : Ev g' F D Q := by
 obtain ⟨n, outs, r, h1, h2⟩ := h
 exact ⟨n, outs, r, (e n).trans h1, h2⟩
theorem Ev.shift {α : Type} {g : Nat → Out α} {F : Nat → Prop} {D : Prop} {Q : α → Prop} (h : Ev (fun n => g (n + 1)) F D Q) : Ev g F D Q := by
 obtain ⟨n, outs, r, h1, h2⟩ := h
 exact ⟨n + 1, outs, r, h1, h2⟩
theorem Ev.one {α : Type} {x : α} {F : Nat → Prop} {D : Prop} {Q : α → Prop} (h : Q x) : Ev (fun _ => one x) F D Q :=
 ⟨0, [x], 0, rfl, fun p hp => by rw [List.mem_singleton.1 hp]; exact h, fun k hk => by simp at hk, fun _ => ⟨x, rfl⟩⟩
theorem Ev.some {α : Type} {x : α} {r : Nat} {F : Nat → Prop} {D : Prop} {Q : α → Prop} (h : Q x) (hr : ∀ k, r.testBit k = true → F k) : Ev (fun _ => some ([x], r)) F D Q :=
 ⟨0, [x], r, rfl, fun p hp => by rw [List.mem_singleton.1 hp]; exact h, hr, fun _ => ⟨x, rfl⟩⟩
theorem eachO_ev {α β : Type} {f : Nat → α → Out β} (hm : ∀ a, Mono fun n => f n a) {F : Nat → Prop} {D : Prop} {Q : β → Prop} : ∀ (l : List α) (r0 : Nat), (∀ k, r0.testBit k = true → F k) → (∀ a ∈ l, Ev (fun n => f n a) F D Q) → (D → ∃ p, l = [p]) →
  ∃ n outs r, eachO (f n) l r0 = Option.some (outs, r) ∧ (∀ p ∈ outs, Q p) ∧ (∀ k, r.testBit k = true → F k) ∧ (D → ∃ p, outs = [p])
 | [], r0, h0, _, hD => ⟨0, [], r0, rfl, by simp, h0, fun d => by obtain ⟨p, hp⟩ := hD d; simp at hp⟩
 | a :: l, r0, h0, h, hD => by
  obtain ⟨n1, o1, r1, e1, q1, f1, d1⟩ := h a List.mem_cons_self
  have hD' : D → l = [] := fun d => by obtain ⟨p, hp⟩ := hD d; cases hp; rfl
  have h1 : ∀ k, (Nat.lor r0 r1).testBit k = true → F k := fun k hk => by
   rw [lor_test, Bool.or_eq_true] at hk
   exact hk.elim (h0 k) (f1 k)
  by_cases hl : l = []
  ·subst hl
   refine ⟨n1, o1, Nat.lor r0 r1, ?_, q1, h1, d1⟩
   simp [eachO, e1]
  ·obtain ⟨n2, o2, r2, e2, q2, f2, _⟩ := eachO_ev (D := False) hm l (Nat.lor r0 r1) h1 (fun b hb => (h b (List.mem_cons_of_mem _ hb)).mono (fun _ h => h) (fun h => h.elim) (fun _ h => h)) (fun h => h.elim)
   refine ⟨max n1 n2, o1 ++ o2, r2, ?_, fun p hp => (List.mem_append.1 hp).elim (q1 p) (q2 p), f2, fun d => absurd (hD' d) hl⟩
   simp only [eachO]
   rw [(hm a).le (Nat.le_max_left n1 n2) _ e1]
   simp only
   have : Up (eachO (f n2) l (Nat.lor r0 r1)) (eachO (f (max n1 n2)) l (Nat.lor r0 r1)) := eachO_up l _ fun b _ => (hm b).le (Nat.le_max_right n1 n2)
   rw [this _ e2]
theorem Ev.bind {α β : Type} {g : Nat → Out α} {f : Nat → α → Out β} (hg : Mono g) (hm : ∀ a, Mono fun n => f n a) {F : Nat → Prop} {D : Prop} {Q : β → Prop} (h : Ev g F D fun a => Ev (fun n => f n a) F D Q) : Ev (fun n => bindO (g n) (f n)) F D Q := by
 obtain ⟨n1, l, r0, e1, q1, f1, d1⟩ := h
 obtain ⟨n2, outs, r, e2, q2, f2, d2⟩ := eachO_ev hm l r0 f1 q1 d1
 refine ⟨max n1 n2, outs, r, ?_, q2, f2, d2⟩
 show bindO (g (max n1 n2)) (f (max n1 n2)) = _
 rw [hg.le (Nat.le_max_left n1 n2) _ e1]
 simp only [bindO]
 have : Up (eachO (f n2) l r0) (eachO (f (max n1 n2)) l r0) := eachO_up l _ fun b _ => (hm b).le (Nat.le_max_right n1 n2)
 exact this _ e2
section
variable (orc : CallF) (T : Tr RF)
def Wp (c : RC) (Γ : Tr V) (s : S) (F : Nat → Prop) (D : Prop) (Q : Ex → Tr V → S → Prop) : Prop := Ev (fun n => exec orc T n c Γ s) F D fun p => Q p.1 p.2.1 p.2.2
def Cp (f : FuncId) (args : List V) (s : S) (F : Nat → Prop) (D : Prop) (Q : V → S → Prop) : Prop := Ev (fun n => callF orc T n f args s) F D fun p => Q p.1 p.2
def Op (ro : RO) (e : Opd → V) (s : S) (F : Nat → Prop) (D : Prop) (Q : V → S → Prop) : Prop := Ev (fun n => opX (callF orc T n) e s ro) F D fun p => Q p.1 p.2
def Sq (os : List (ROp × Nat)) (Γ : Tr V) (s : S) (F : Nat → Prop) (D : Prop) (Q : Tr V → S → Prop) : Prop := Ev (fun n => seqO (callF orc T n) os Γ s) F D fun p => Q p.1 p.2
end
section
variable {orc : CallF} {T : Tr RF} {Γ : Tr V} {s : S} {F : Nat → Prop} {D : Prop} {Q : Ex → Tr V → S → Prop}
theorem Wp.mono {c : RC} {F' : Nat → Prop} {D' : Prop} {Q' : Ex → Tr V → S → Prop} (h : Wp orc T c Γ s F D Q) (hF : ∀ k, F k → F' k) (hD : D' → D) (hQ : ∀ e Γ s, Q e Γ s → Q' e Γ s) : Wp orc T c Γ s F' D' Q' := Ev.mono h hF hD fun p => hQ _ _ _
theorem Cp.mono {f : FuncId} {args : List V} {F' : Nat → Prop} {D' : Prop} {Q Q' : V → S → Prop} (h : Cp orc T f args s F D Q) (hF : ∀ k, F k → F' k) (hD : D' → D) (hQ : ∀ v s, Q v s → Q' v s) : Cp orc T f args s F' D' Q' := Ev.mono h hF hD fun p => hQ _ _
theorem Wp_skip (h : Q .normal Γ s) : Wp orc T .skip Γ s F D Q := Ev.shift (Ev.one (x := (Ex.normal, Γ, s)) h)
theorem Wp_ret (h : Q .ret Γ s) : Wp orc T .ret Γ s F D Q := Ev.shift (Ev.one (x := (Ex.ret, Γ, s)) h)
def thenX (k : Tr V → S → Prop) (Q : Ex → Tr V → S → Prop) : Ex → Tr V → S → Prop
 | .normal, Γ, s => k Γ s
 | e, Γ, s => Q e Γ s
theorem Wp_seq {a b : RC} (h : Wp orc T a Γ s F D (thenX (fun Γ s => Wp orc T b Γ s F D Q) Q)) : Wp orc T (.seq a b) Γ s F D Q := by
 refine Ev.shift (Ev.congr (Ev.bind (g := fun n => exec orc T n a Γ s) (f := fun n (p : Ex × Tr V × S) => match p.1 with
   | .normal => exec orc T n b p.2.1 p.2.2
   | _ => one p) (Mono.exec orc T a Γ s) (fun p => ?_) (Ev.mono h (fun _ h => h) (fun h => h) fun p hp => ?_)) fun n => exec_succ orc T n (.seq a b) Γ s)
 ·obtain ⟨e, Γ', s'⟩ := p
  cases e
  ·exact Mono.exec orc T b Γ' s'
  ·exact Mono.const _
  ·exact Mono.const _
 ·obtain ⟨e, Γ', s'⟩ := p
  cases e
  ·exact hp
  ·exact Ev.one hp
  ·exact Ev.one hp
theorem Wp_cond {q : Opd} {a b : RC} {t : Bool} (hb : isB (ev Γ q) = some t) (h : Wp orc T (bif t then a else b) Γ s F D Q) : Wp orc T (.cond q a b) Γ s F D Q := by
 refine Ev.shift (Ev.congr h fun n => ?_)
 rw [exec_succ]
 simp only [hb]
 cases t <;> rfl
theorem Wp_region {os : List (ROp × Nat)} (h : Sq orc T os Γ s F D fun Γ s => Q .normal Γ s) : Wp orc T (.region none os) Γ s F D Q := by
 refine Ev.shift (Ev.congr (Ev.bind (g := fun n => seqO (callF orc T n) os Γ s) (f := fun _ (p : Tr V × S) => one (Ex.normal, p.1, p.2)) (fun n => seqO_up (callF_up orc T n) _ _ _) (fun p => Mono.const _) (Ev.mono h (fun _ h => h) (fun h => h) fun p hp => Ev.one hp)) fun n => exec_succ orc T n (.region none os) Γ s)
theorem Sq_nil {Q : Tr V → S → Prop} (h : Q Γ s) : Sq orc T [] Γ s F D Q := Ev.one (x := (Γ, s)) h
theorem Sq_cons {o : ROp} {m : Nat} {os : List (ROp × Nat)} {Q : Tr V → S → Prop} (hw : wants Γ o.guard = some true) (h : Op orc T o.op (ev Γ) s F D fun v s' => Sq orc T os (putO o.dst v Γ) s' F D Q) : Sq orc T ((o, m) :: os) Γ s F D Q := by
 have h1 : Ev (fun n => stepO (callF orc T n) o Γ s) F D fun p => Sq orc T os p.1 p.2 F D Q := by
  refine Ev.congr (Ev.bind (g := fun n => opX (callF orc T n) (ev Γ) s o.op) (f := fun _ (p : V × S) => one (putO o.dst p.1 Γ, p.2)) (fun n => opX_up (callF_up orc T n) _ _ _) (fun p => Mono.const _) (Ev.mono h (fun _ h => h) (fun h => h) fun p hp => Ev.one hp)) fun n => ?_
  simp only [stepO, hw]
 refine Ev.congr (Ev.bind (g := fun n => stepO (callF orc T n) o Γ s) (f := fun n (p : Tr V × S) => seqO (callF orc T n) os p.1 p.2) (fun n => stepO_up (callF_up orc T n) _ _ _) (fun p n => seqO_up (callF_up orc T n) _ _ _) (Ev.mono h1 (fun _ h => h) (fun h => h) fun p hp => hp)) fun n => rfl
theorem Sq_skip {o : ROp} {m : Nat} {os : List (ROp × Nat)} {Q : Tr V → S → Prop} (hw : wants Γ o.guard = some false) (h : Sq orc T os (putO o.dst nonV Γ) s F D Q) : Sq orc T ((o, m) :: os) Γ s F D Q := by
 have h1 : Ev (fun n => stepO (callF orc T n) o Γ s) F D fun p => Sq orc T os p.1 p.2 F D Q := by
  refine Ev.congr (Ev.one (x := (putO o.dst nonV Γ, s)) h) fun n => ?_
  simp only [stepO, hw]
 refine Ev.congr (Ev.bind (g := fun n => stepO (callF orc T n) o Γ s) (f := fun n (p : Tr V × S) => seqO (callF orc T n) os p.1 p.2) (fun n => stepO_up (callF_up orc T n) _ _ _) (fun p n => seqO_up (callF_up orc T n) _ _ _) (Ev.mono h1 (fun _ h => h) (fun h => h) fun p hp => hp)) fun n => rfl
theorem Op_pure {ro : RO} {e : Opd → V} {Q : V → S → Prop} {v : V} (hp : pureR e ro = some v) (h : Q v s) : Op orc T ro e s F D Q := by
 have hpl : ro.plainOp = true := by cases ro <;> first | rfl | simp [pureR] at hp
 refine Ev.congr (Ev.one (x := (v, s)) h) fun n => ?_
 rw [opX_plain hpl, hp]
theorem Op_mem {ro : RO} {e : Opd → V} {Q : V → S → Prop} {v : V} {s' : S} {r : Nat} (hn : pureR e ro = none) (hp : memR e s ro = some (v, s', r)) (hr : ∀ k, r.testBit k = true → F k) (h : Q v s') : Op orc T ro e s F D Q := by
 have hpl : ro.plainOp = true := by cases ro <;> first | rfl | simp [memR] at hp
 refine Ev.congr (Ev.some (x := (v, s')) h hr) fun n => ?_
 rw [opX_plain hpl, hn, hp]
theorem Op_callv {x : Opd} {f : FuncId} {caps : List X} {as : List Opd} {e : Opd → V} {Q : V → S → Prop} (hx : e x = .c (.fn f caps)) (h : Cp orc T f (as.map e ++ caps.map .c) s F D Q) : Op orc T (.callv x as) e s F D Q := by
 refine Ev.congr h fun n => ?_
 simp only [opX, hx]
theorem Cp_code {f : FuncId} {args : List V} {rf : RF} {Q : V → S → Prop} (hf : T.get f = some rf)
  (h : Wp orc T rf.code (ofL args 0 .lf) s F D fun e Γ s => (e = .normal ∨ e = .ret) ∧ ∃ vs r, resL Γ s rf.res = some (vs, r) ∧ (∀ k, r.testBit k = true → F k) ∧ Q (tupV vs) s) : Cp orc T f args s F D Q := by
 refine Ev.congr (Ev.bind (g := fun n => exec orc T n rf.code (ofL args 0 .lf) s) (f := fun _ (p : Ex × Tr V × S) => match p.1 with
   | .normal | .ret => resO rf.res p.2.1 p.2.2
   | .exit _ => none) (Mono.exec orc T _ _ _) (fun p => Mono.const _) (Ev.mono h (fun _ h => h) (fun h => h) fun p hp => ?_)) fun n => ?_
 ·obtain ⟨he, vs, r, h1, h2, h3⟩ := hp
  have : (fun _ : Nat => (match p.1 with
   | .normal | .ret => resO rf.res p.2.1 p.2.2
   | .exit _ => none : Out (V × S))) = fun _ => some ([(tupV vs, p.2.2)], r) := by
   funext _
   rcases he with he | he <;> simp only [he, resO, h1]
  rw [this]
  exact Ev.some h3 h2
 ·simp only [callF, hf]
  exact congrArg _ (funext fun p => by cases p.1 <;> rfl)
end
end Go.RM
namespace Go.RM
section
variable (orc : CallF) (T : Tr RF)
def opP (F : Nat → Prop) (D : Prop) (e : Opd → V) (s : S) (k : V → S → Prop) : RO → Prop
 | .call f args => Cp orc T f (args.map e) s F D k
 | .callv x args => match e x with
  | .c (.fn f caps) => Cp orc T f (args.map e ++ caps.map .c) s F D k
  | _ => False
 | .nxt x => match nxtR s (e x) with
  | some (outs, r) => (∀ j, r.testBit j = true → F j) ∧ (D → ∃ p, outs = [p]) ∧ ∀ p ∈ outs, k p.1 p.2
  | none => False
 | op => match pureR e op with
  | some v => k v s
  | none => match memR e s op with
   | some (v, s', r) => (∀ j, r.testBit j = true → F j) ∧ k v s'
   | none => False
def runP (F : Nat → Prop) (D : Prop) : List (ROp × Nat) → Tr V → S → (Tr V → S → Prop) → Prop
 | [], Γ, s, k => k Γ s
 | o :: os, Γ, s, k => match wants Γ o.1.guard with
  | some true => opP orc T F D (ev Γ) s (fun v s' => runP F D os (putO o.1.dst v Γ) s' k) o.1.op
  | some false => runP F D os (putO o.1.dst nonV Γ) s k
  | none => False
end
section
variable {orc : CallF} {T : Tr RF} {Γ : Tr V} {s : S} {F : Nat → Prop} {D : Prop}
theorem Op_of {e : Opd → V} {k : V → S → Prop} {ro : RO} (h : opP orc T F D e s k ro) : Op orc T ro e s F D k := by
 have rest : ro.plainOp = true → (match pureR e ro with
  | some v => k v s
  | none => match memR e s ro with
   | some (v, s', r) => (∀ j, r.testBit j = true → F j) ∧ k v s'
   | none => False) → Op orc T ro e s F D k := by
  intro hpl h
  split at h
  ·rename_i v hv
   exact Op_pure hv h
  ·rename_i hn
   split at h
   ·rename_i v s' r hm
    exact Op_mem hn hm h.1 h.2
   ·exact h.elim
 cases ro
 case call f args => exact h
 case callv x args =>
  simp only [opP] at h
  split at h
  ·rename_i f caps hx
   exact Op_callv hx h
  ·exact h.elim
 case nxt x =>
  simp only [opP] at h
  split at h
  ·rename_i outs r hx
   exact ⟨0, outs, r, hx, h.2.2, h.1, h.2.1⟩
  ·exact h.elim
 all_goals exact rest rfl h
theorem Sq_of : ∀ {os : List (ROp × Nat)} {Γ : Tr V} {s : S} {k : Tr V → S → Prop}, runP orc T F D os Γ s k → Sq orc T os Γ s F D k
 | [], Γ, s, k, h => Sq_nil h
 | (o, m) :: os, Γ, s, k, h => by
  simp only [runP] at h
  split at h
  ·rename_i hw
   exact Sq_cons hw (Ev.mono (Op_of h) (fun _ h => h) (fun h => h) fun p hp => Sq_of hp)
  ·rename_i hw
   exact Sq_skip hw (Sq_of h)
  ·exact h.elim
theorem Wp_run {os : List (ROp × Nat)} {Q : Ex → Tr V → S → Prop} (h : runP orc T F D os Γ s fun Γ s => Q .normal Γ s) : Wp orc T (.region none os) Γ s F D Q := Wp_region (Sq_of h)
end
theorem look_putO (d : Nat) (v : V) (Γ : Tr V) (t : Nat) : look (putO (some d) v Γ) t = if d = t then v else look Γ t := by
 have := congrFun (look_put (some d) v Γ) t
 rw [this]
 simp [putE]
theorem look_none (v : V) (Γ : Tr V) (t : Nat) : look (putO none v Γ) t = look Γ t := rfl
theorem ev_tmp (Γ : Tr V) (t : Nat) : ev Γ (.tmp t) = look Γ t := rfl
theorem ev_con (Γ : Tr V) (x : V) : ev Γ (.con x) = x := rfl
end Go.RM
namespace Go.RM
structure Fp where
 i : Nat
 R : Nat → Prop
 W : Nat → Prop
def apO (b : Nat) (x : Fp) (R W : Nat → Prop) : Prop := Nat.testBit b x.i = true ∨ ∀ k, ¬ (x.W k ∧ R k) ∧ ¬ (W k ∧ x.R k) ∧ ¬ (x.W k ∧ W k)
def slotB (b i tr tw tr' tw' : Nat) : Bool := Nat.testBit b i || (Nat.beq (Nat.land tw tr') 0 && (Nat.beq (Nat.land tw' tr) 0 && Nat.beq (Nat.land tw tw') 0))
def slotsB : List (ROp × Nat) → List Nat → Nat → List (Nat × Nat × Nat) → Bool
 | [], _, _, _ => true
 | _ :: _, [], _, _ => false
 | o :: os, b :: tab, i, ds => ds.all (fun x => slotB b x.1 x.2.1 x.2.2 o.2 (dstM o.1.dst)) && slotsB os tab (i + 1) (ds ++ [(i, o.2, dstM o.1.dst)])
def bits (r : Nat) : Nat → Prop := fun k => r.testBit k = true
section
variable {orc : CallF} {T : Tr RF} {F : Nat → Prop} {D : Prop}
def Cov (ds : List Fp) (sl : List (Nat × Nat × Nat)) (cs : List Did) : Prop :=
 sl = cs.map (fun d => (d.i, d.tr, d.tw)) ∧ ∀ c ∈ cs, (c.r = 0 ∧ c.w = 0) ∨ ∃ d ∈ ds, d.i = c.i ∧ (∀ k, c.r.testBit k = true → d.R k) ∧ (∀ k, c.w.testBit k = true → d.W k)
theorem land_zero {a b : Nat} (h : ∀ k, ¬ (a.testBit k = true ∧ b.testBit k = true)) : Nat.beq (Nat.land a b) 0 = true := by
 have : Nat.land a b = 0 := by
  apply Nat.eq_of_testBit_eq
  intro k
  show (a &&& b).testBit k = _
  rw [Nat.testBit_and, Nat.zero_testBit]
  cases ha : a.testBit k with
  | false => rfl
  | true =>
   cases hb : b.testBit k with
   | false => rfl
   | true => exact absurd ⟨ha, hb⟩ (h k)
 rw [this]; rfl
theorem apart_all {ds : List Fp} {sl : List (Nat × Nat × Nat)} {cs : List Did} (hc : Cov ds sl cs) {b tr tw : Nat} (hs : sl.all (fun x => slotB b x.1 x.2.1 x.2.2 tr tw) = true) {R W : Nat → Prop} (ho : ∀ x ∈ ds, apO b x R W) {y : Did} (ht : y.tr = tr) (hw : y.tw = tw) (hr : ∀ k, y.r.testBit k = true → R k) (hww : ∀ k, y.w.testBit k = true → W k) : cs.all (fun x => apartB b x y) = true := by
 rw [List.all_eq_true]
 intro c hcm
 rw [hc.1, List.all_map, List.all_eq_true] at hs
 have h1 := hs c hcm
 simp only [Function.comp, slotB] at h1
 unfold apartB
 rw [ht, hw]
 cases hb : Nat.testBit b c.i with
 | true => rfl
 | false =>
  rw [hb, Bool.false_or] at h1
  simp only [Bool.and_eq_true] at h1
  rw [Bool.false_or, h1.1, h1.2.1, h1.2.2, Bool.true_and, Bool.true_and, Bool.true_and]
  rcases hc.2 c hcm with ⟨hr0, hw0⟩ | ⟨d, hd, hi, hdr, hdw⟩
  ·rw [hr0, hw0]
   rw [land_zero (a := 0) (fun k h => by simp at h), land_zero (b := 0) (fun k h => by simp at h), land_zero (a := 0) (fun k h => by simp at h)]
   rfl
  ·rcases ho d hd with e | e
   ·rw [hi, hb] at e; simp at e
   ·rw [land_zero (fun k h => (e k).1 ⟨hdw k h.1, hr k h.2⟩), land_zero (fun k h => (e k).2.1 ⟨hww k h.1, hdr k h.2⟩), land_zero (fun k h => (e k).2.2 ⟨hdw k h.1, hww k h.2⟩)]
    rfl
theorem Cov.snoc {ds : List Fp} {sl : List (Nat × Nat × Nat)} {cs : List Did} (hc : Cov ds sl cs) {y : Did} {R W : Nat → Prop} (hr : ∀ k, y.r.testBit k = true → R k) (hw : ∀ k, y.w.testBit k = true → W k) : Cov (ds ++ [⟨y.i, R, W⟩]) (sl ++ [(y.i, y.tr, y.tw)]) (cs ++ [y]) := by
 refine ⟨by rw [hc.1, List.map_append]; rfl, fun c h => ?_⟩
 rcases List.mem_append.1 h with h | h
 ·rcases hc.2 c h with h | ⟨d, hd, h⟩
  ·exact .inl h
  ·exact .inr ⟨d, List.mem_append_left _ hd, h⟩
 ·rw [List.mem_singleton.1 h]
  exact .inr ⟨_, List.mem_append_right _ (List.mem_singleton.2 rfl), rfl, hr, hw⟩
theorem Cov.pure {ds : List Fp} {sl : List (Nat × Nat × Nat)} {cs : List Did} (hc : Cov ds sl cs) {y : Did} (hr : y.r = 0) (hw : y.w = 0) : Cov ds (sl ++ [(y.i, y.tr, y.tw)]) (cs ++ [y]) := by
 refine ⟨by rw [hc.1, List.map_append]; rfl, fun c h => ?_⟩
 rcases List.mem_append.1 h with h | h
 ·exact hc.2 c h
 ·rw [List.mem_singleton.1 h]; exact .inl ⟨hr, hw⟩
theorem stepO_one {call : CallF} {o : ROp} {Γ : Tr V} {s : S} {v : V} {s' : S} {r : Nat} (hw : wants Γ o.guard = some true) (h : opX call (ev Γ) s o.op = some ([(v, s')], r)) : ∃ r', stepO call o Γ s = some ([(putO o.dst v Γ, s')], r') ∧ ∀ k, r'.testBit k = true → r.testBit k = true := by
 refine ⟨Nat.lor r 0, ?_, fun k hk => ?_⟩
 ·simp only [stepO, hw, h, bindO, eachO, one]
  rfl
 ·rw [lor_test, Bool.or_eq_true] at hk
  rcases hk with h | h
  ·exact h
  ·simp at h
def Dr (orc : CallF) (T : Tr RF) (F : Nat → Prop) (D : Prop) (os : List (ROp × Nat)) (tab : List Nat) (i : Nat) (ds : List Fp) (Γ : Tr V) (s : S) (k : Tr V → S → Prop) : Prop :=
 ∀ (sl : List (Nat × Nat × Nat)) (cs : List Did) (r : Nat), slotsB os tab i sl = true → Cov ds sl cs → (∀ j, r.testBit j = true → F j) → Ev (fun n => drawO (callF orc T n) os tab i cs Γ s r) F D fun p => k p.1 p.2
section
variable {os : List (ROp × Nat)} {o : ROp × Nat} {b : Nat} {tab : List Nat} {i : Nat} {ds : List Fp} {Γ : Tr V} {s : S} {k : Tr V → S → Prop}
theorem Dr_nil (h : k Γ s) : Dr orc T F D [] tab i ds Γ s k := fun sl cs r _ _ hr => ⟨0, [(Γ, s)], r, by simp only [drawO], fun p hp => by rw [List.mem_singleton.1 hp]; exact h, hr, fun _ => ⟨_, rfl⟩⟩
theorem Dr_step {sl : List (Nat × Nat × Nat)} {cs : List Did} {r : Nat} (hs : slotsB (o :: os) (b :: tab) i sl = true) (hr : ∀ j, r.testBit j = true → F j) {v : V} {s' : S} {r1 n1 : Nat} {ds' : List Fp} (h1 : stepO (callF orc T n1) o.1 Γ { s with w := 0 } = some ([(putO o.1.dst v Γ, s')], r1)) (hr1 : ∀ j, r1.testBit j = true → F j)
  (hap : cs.all (fun x => apartB b x ⟨i, o.2, dstM o.1.dst, r1, s'.w⟩) = true) (hcov : Cov ds' (sl ++ [(i, o.2, dstM o.1.dst)]) (cs ++ [⟨i, o.2, dstM o.1.dst, r1, s'.w⟩])) (hk : Dr orc T F D os tab (i + 1) ds' (putO o.1.dst v Γ) { s' with w := Nat.lor s.w s'.w } k) :
  Ev (fun n => drawO (callF orc T n) (o :: os) (b :: tab) i cs Γ s r) F D fun p => k p.1 p.2 := by
 simp only [slotsB, Bool.and_eq_true] at hs
 obtain ⟨n2, outs, r2, e2, q2, f2, d2⟩ := hk _ _ (Nat.lor r r1) hs.2 hcov (fun j hj => by
  rw [lor_test, Bool.or_eq_true] at hj
  exact hj.elim (hr j) (hr1 j))
 refine ⟨max n1 n2, outs, r2, ?_, q2, f2, d2⟩
 have m1 : stepO (callF orc T (max n1 n2)) o.1 Γ { s with w := 0 } = some ([(putO o.1.dst v Γ, s')], r1) :=
  (Mono.le (g := fun n => stepO (callF orc T n) o.1 Γ { s with w := 0 }) (fun n => stepO_up (callF_up orc T n) _ _ _) (Nat.le_max_left n1 n2)) _ h1
 have m2 := (Mono.le (g := fun n => drawO (callF orc T n) os tab (i + 1) (cs ++ [⟨i, o.2, dstM o.1.dst, r1, s'.w⟩]) (putO o.1.dst v Γ) { s' with w := Nat.lor s.w s'.w } (Nat.lor r r1)) (fun n => drawO_up (callF_up orc T n) _ _ _ _ _ _ _) (Nat.le_max_right n1 n2)) _ e2
 simp only [drawO, m1, hap, cond_true]
 exact m2
theorem Dr_free {v : V} (h1 : ∃ r n, stepO (callF orc T n) o.1 Γ { s with w := 0 } = some ([(putO o.1.dst v Γ, { s with w := 0 })], r) ∧ r = 0) (h : Dr orc T F D os tab (i + 1) ds (putO o.1.dst v Γ) s k) : Dr orc T F D (o :: os) (b :: tab) i ds Γ s k := by
 intro sl cs r hs hc hr
 obtain ⟨r1, n1, h1, rfl⟩ := h1
 have hs' := hs
 simp only [slotsB, Bool.and_eq_true] at hs'
 refine Dr_step hs hr h1 (fun j hj => by simp at hj) (apart_all hc hs'.1 (R := fun _ => False) (W := fun _ => False) (fun x _ => .inr fun j => ⟨fun h => h.2, fun h => h.1, fun h => h.2⟩) rfl rfl (fun j hj => by simp at hj) (fun j hj => by simp at hj)) (hc.pure (y := ⟨i, o.2, dstM o.1.dst, 0, 0⟩) rfl rfl) ?_
 have : Nat.lor s.w 0 = s.w := Nat.or_zero _
 show Dr orc T F D os tab (i + 1) ds (putO o.1.dst v Γ) { s with w := Nat.lor s.w 0 } k
 rw [this]; exact h
theorem stepO_zero {call : CallF} {o : ROp} {Γ : Tr V} {s : S} {v : V} {s' : S} (hw : wants Γ o.guard = some true) (h : opX call (ev Γ) s o.op = some ([(v, s')], 0)) : stepO call o Γ s = some ([(putO o.dst v Γ, s')], 0) := by
 obtain ⟨r1, h1, h2⟩ := stepO_one hw h
 have hz : r1 = 0 := Nat.eq_of_testBit_eq fun j => by
  cases hj : r1.testBit j with
  | false => simp
  | true => have := h2 j hj; simp at this
 rw [← hz]; exact h1
theorem Dr_pure {v : V} (hw : wants Γ o.1.guard = some true) (hp : pureR (ev Γ) o.1.op = some v) (h : Dr orc T F D os tab (i + 1) ds (putO o.1.dst v Γ) s k) : Dr orc T F D (o :: os) (b :: tab) i ds Γ s k := by
 have hpl : o.1.op.plainOp = true := by cases ho : o.1.op <;> rw [ho] at hp <;> first | rfl | simp [pureR] at hp
 exact Dr_free ⟨0, 0, stepO_zero hw (by rw [opX_plain hpl, hp]; rfl), rfl⟩ h
theorem Dr_mem0 {v : V} (hw : wants Γ o.1.guard = some true) (hn : pureR (ev Γ) o.1.op = none) (hm : memR (ev Γ) { s with w := 0 } o.1.op = some (v, { s with w := 0 }, 0)) (h : Dr orc T F D os tab (i + 1) ds (putO o.1.dst v Γ) s k) : Dr orc T F D (o :: os) (b :: tab) i ds Γ s k := by
 have hpl : o.1.op.plainOp = true := by cases ho : o.1.op <;> rw [ho] at hm <;> first | rfl | simp [memR] at hm
 exact Dr_free ⟨0, 0, stepO_zero hw (by rw [opX_plain hpl, hn, hm]), rfl⟩ h
theorem Dr_mem {v : V} {s' : S} {r1 : Nat} (hw : wants Γ o.1.guard = some true) (hn : pureR (ev Γ) o.1.op = none) (hm : memR (ev Γ) { s with w := 0 } o.1.op = some (v, s', r1)) (hF : ∀ j, bits r1 j → F j) (ha : ∀ x ∈ ds, apO b x (bits r1) (bits s'.w))
  (h : Dr orc T F D os tab (i + 1) (ds ++ [⟨i, bits r1, bits s'.w⟩]) (putO o.1.dst v Γ) { s' with w := Nat.lor s.w s'.w } k) : Dr orc T F D (o :: os) (b :: tab) i ds Γ s k := by
 have hpl : o.1.op.plainOp = true := by cases ho : o.1.op <;> rw [ho] at hm <;> first | rfl | simp [memR] at hm
 intro sl cs r hs hc hr
 have hs' := hs
 simp only [slotsB, Bool.and_eq_true] at hs'
 obtain ⟨r1', h1, h2⟩ := stepO_one (call := callF orc T 0) (o := o.1) (v := v) (s' := s') (r := r1) hw (by rw [opX_plain hpl, hn, hm])
 exact Dr_step hs hr h1 (fun j hj => hF j (h2 j hj)) (apart_all hc hs'.1 ha rfl rfl h2 (fun j hj => hj)) (hc.snoc (y := ⟨i, o.2, dstM o.1.dst, r1', s'.w⟩) h2 (fun j hj => hj)) h
theorem Dr_call' {f : FuncId} {args : List V} (R W : Nat → Prop) (hw : wants Γ o.1.guard = some true) (hX : ∀ n, opX (callF orc T n) (ev Γ) { s with w := 0 } o.1.op = callF orc T n f args { s with w := 0 }) (hF : ∀ j, R j → F j) (ha : ∀ x ∈ ds, apO b x R W)
  (hC : Cp orc T f args { s with w := 0 } R True fun v s' => (∀ j, s'.w.testBit j = true → W j) ∧ Dr orc T F D os tab (i + 1) (ds ++ [⟨i, R, W⟩]) (putO o.1.dst v Γ) { s' with w := Nat.lor s.w s'.w } k) : Dr orc T F D (o :: os) (b :: tab) i ds Γ s k := by
 intro sl cs r hs hc hr
 have hs' := hs
 simp only [slotsB, Bool.and_eq_true] at hs'
 obtain ⟨n1, outs, r1, e1, q1, f1, d1⟩ := hC
 obtain ⟨⟨v, s'⟩, rfl⟩ := d1 trivial
 obtain ⟨hW, hk⟩ := q1 _ (List.mem_singleton.2 rfl)
 obtain ⟨r1', h1, h2⟩ := stepO_one (v := v) (s' := s') (r := r1) hw ((hX n1).trans e1)
 exact Dr_step hs hr h1 (fun j hj => hF j (f1 j (h2 j hj))) (apart_all hc hs'.1 ha rfl rfl (fun j hj => f1 j (h2 j hj)) hW) (hc.snoc (y := ⟨i, o.2, dstM o.1.dst, r1', s'.w⟩) (fun j hj => f1 j (h2 j hj)) hW) hk
theorem Dr_call {d : Option Nat} {g : Option (Nat × Bool)} {m : Nat} {f : FuncId} {as : List Opd} {args : List V} (R W : Nat → Prop) (hw : wants Γ g = some true) (hargs : as.map (ev Γ) = args) (hF : ∀ j, R j → F j) (ha : ∀ x ∈ ds, apO b x R W)
  (hC : Cp orc T f args { s with w := 0 } R True fun v s' => (∀ j, s'.w.testBit j = true → W j) ∧ Dr orc T F D os tab (i + 1) (ds ++ [⟨i, R, W⟩]) (putO d v Γ) { s' with w := Nat.lor s.w s'.w } k) : Dr orc T F D ((⟨d, .call f as, g⟩, m) :: os) (b :: tab) i ds Γ s k := by
 subst hargs
 exact Dr_call' (o := (⟨d, .call f as, g⟩, m)) R W hw (fun n => rfl) hF ha hC
end
theorem Wp_draw {os : List (ROp × Nat)} {tab : List Nat} {Γ : Tr V} {s : S} {Q : Ex → Tr V → S → Prop} (hs : slotsB os tab 0 [] = true) (h : Dr orc T F D os tab 0 [] Γ s fun Γ s => Q .normal Γ s) : Wp orc T (.region (some tab) os) Γ s F D Q := by
 refine Ev.shift (Ev.congr (Ev.bind (g := fun n => drawO (callF orc T n) os tab 0 [] Γ s 0) (f := fun _ (p : Tr V × S) => one (Ex.normal, p.1, p.2)) (fun n => drawO_up (callF_up orc T n) _ _ _ _ _ _ _) (fun p => Mono.const _) (Ev.mono (h [] [] 0 hs ⟨rfl, fun c h => by simp at h⟩ (fun j hj => by simp at hj)) (fun _ h => h) (fun h => h) fun p hp => Ev.one hp)) fun n => exec_succ orc T n (.region (some tab) os) Γ s)
end
end Go.RM
