/- The raw machine, in parts: a walk that is reckoned, over an explicit memory. -/
import Derived.Test.YtinhkpcgdfppkaaRm1
import Derived.Lib.Bytealg
import Derived.Laws.Externs
import Derived.KernelRfl
import Derived.MapFrom
import Derived.Maps.RangeRun
namespace Go.RM
open Go.VM (Pt Fr isAggD run_loadVar_lies)
def XM : Exit → Ex → Prop
 | .normal, .normal => True
 | .exit i, .exit j => i = j
 | .ret, .ret => True
 | _, _ => False
def TOk (P : Program) (T : Tr RF) : Prop := ∀ f rf, T.get f = some rf → ∃ fn c, P.funcs[f]? = some fn ∧ fn.body = some c ∧ cCode P fn.ntmps c = some rf.code ∧ fn.results.toList.mapM (cRes P) = some rf.res ∧ (fn.name == "runtime.NumGoroutine") = false
section
variable {P : Program} {w0 : World} {φ : Ren} {g h2 : Hp} {s : S} {Γ : Tr V} {a : Act} {w : World} {call : CallF}
theorem cReg_form {n : Nat} {ops : Array Oper} {draw : Bool} : (cReg P n ops draw).getD .bad = .bad ∨ ∃ d vl, (cReg P n ops draw).getD .bad = .region d vl := by
 unfold cReg
 cases ops.toList.mapM (cOper P n ops) with
 | none => exact .inl rfl
 | some vl =>
  simp only [Option.bind_some]
  split
  ·exact .inr ⟨_, _, rfl⟩
  ·exact .inl rfl
theorem cReg_ne {n : Nat} {ops : Array Oper} {draw : Bool} {c : RC} (h : (cReg P n ops draw).getD .bad = c) : c = .bad ∨ ∃ d vl, c = .region d vl := by
 rw [← h]; exact cReg_form
theorem region_form {n : Nat} {c : Code} {d : Option (List Nat)} {vl : List (ROp × Nat)} (hc : cCode P n c = some (.region d vl)) :
  ∃ id ops draw, c = .region id ops draw ∧ ops.toList.mapM (cOper P n ops) = some vl ∧ (d = none → draw = false) ∧ (∀ bs, d = some bs → draw = true ∧ bs = tabOf ops ∧ ordOk ops = true ∧ P.follows .mixedOrders = true) := by
 cases c <;> simp only [cCode, Option.bind_eq_some_iff, Option.map_eq_some_iff, Option.some.injEq, reduceCtorEq, and_false, exists_false] at hc
 rename_i id ops draw
 unfold cReg at hc
 cases hm : ops.toList.mapM (cOper P n ops) with
 | none => rw [hm] at hc; simp at hc
 | some vl' =>
  rw [hm] at hc
  simp only [Option.bind_some] at hc
  split at hc
  ·rename_i hd
   simp only [Option.getD_some, RC.region.injEq] at hc
   obtain ⟨h1, rfl⟩ := hc
   refine ⟨id, ops, draw, rfl, hm, fun h => ?_, fun bs hbs => ?_⟩
   ·subst h
    cases draw with
    | false => rfl
    | true => simp at h1
   ·subst hbs
    cases draw with
    | false => simp at h1
    | true =>
     simp only [if_true, Option.some.injEq] at h1
     exact ⟨rfl, h1.symm, hd rfl⟩
  ·simp at hc
theorem wpAny_start (hcall : CallOk P w0 call) (hinv : CallInv call) {n : Nat} {φ0 : Ren} {ops : Array Oper} {vl : List (ROp × Nat)} (hm : ops.toList.mapM (cOper P n ops) = some vl) (hok : ordOk ops = true) (hf : P.follows .mixedOrders = true) {id : Nat}
  {outs : List (Tr V × S)} {r : Nat} (hx : drawO call vl (tabOf ops) 0 [] Γ s 0 = some (outs, r)) (hr : ∀ n, r.testBit n = true → h2 n = g n) (st : StR w0 n g h2 φ0 (look Γ) s a w) {Q : Exit → Act → World → Prop}
  (hk : ∀ p ∈ outs, ∀ a' w', StR w0 n g h2 φ0 (look p.1) p.2 a' w' → Q .normal a' w') : (Code.region id ops true).wp P Q a w := by
 obtain ⟨Γs, ss, rs, ws, e1, e2, e3, ht, hrr, _, _⟩ := drawO_tra vl (tabOf ops) 0 [] Γ s 0 outs r hx
 obtain ⟨φ, hle, he, R, hi, hd, hs⟩ := st
 have hnone : ∀ j, (Array.replicate ops.size false).getD j false = false := by
  intro j
  by_cases hj : j < ops.size <;> simp [Array.getD, hj]
 have hc0 : ∀ {β : Type} (f : Nat → Nat → β) (Wr : Nat → Nat → Bool) (base : Nat → β), cur f Wr ops.size base (fun j => (Array.replicate ops.size false).getD j false) = base := by
  intro β f Wr base
  funext q
  unfold cur
  have : lastB (fun m => (Array.replicate ops.size false).getD m false && Wr m q) ops.size = none := by
   cases h : lastB (fun m => (Array.replicate ops.size false).getD m false && Wr m q) ops.size with
   | none => rfl
   | some m => obtain ⟨_, h2, _⟩ := lastB_some h; rw [hnone m] at h2; simp at h2
  rw [this]
 refine wp_region_any hf (any_order (Q := Q) hcall hinv hm (ordOk_spec hok) ht (fun k hk n hn => hr n (hrr k hk n hn)) (by rw [e2]; exact hi) (fun a' w' st' => hk _ (by rw [e3]; exact List.mem_singleton.2 rfl) a' w' st') ops.size _ φ a _ (by simp) ?_ ?_ hle ?_ ?_ hd hs)
 ·refine Nat.le_trans (List.length_filter_le _ _) (by simp)
 ·intro j hj hl; rw [hnone j] at hl; simp at hl
 ·rw [hc0, e1]; exact he
 ·rw [hc0, e2]
  exact R.turn (fun _ => False) (Ren.le_refl φ) (fun _ _ => rfl) (fun n l h1 h2 => by rw [h1] at h2; simp at h2) (Fr.drew w _) (fun _ _ h => h.elim) (fun _ _ _ h => h.elim) (fun _ _ _ _ _ h => h.elim) (fun _ _ _ _ _ h => by rcases h with h | h <;> exact h.elim) (fun _ _ _ _ _ _ _ h => h.elim) (fun _ h => h.elim) (fun _ _ h => h.elim)
theorem res1_run {E : Nat → V} (he : EnvR φ a (look Γ)) (R : Rel w0 φ (over h2 s) w) (hi : Inv g s) {rv : ResultVar} {vr : RR} (hc : cRes P rv = some vr) {x : V} {r : Nat} (hr : ∀ n, r.testBit n = true → h2 n = g n) {xs : List V} {vrs : List RR} (hx : resL Γ s (vr :: vrs) = some (x :: xs, r)) :
  ∃ v, Sem.run P (match rv with | .tmp t => (pure (a.tmps.getD t undef) : Sem Value) | .cell p t => (do loadVar t (← asAddr (a.tmps.getD p undef)))) w = .ok v w ∧ RepS φ v x ∧ ∃ r', resL Γ s vrs = some (xs, r') ∧ ∀ n, r'.testBit n = true → h2 n = g n := by
 cases rv with
 | tmp t =>
  simp only [cRes, Option.some.injEq] at hc
  subst hc
  simp only [resL] at hx
  rw [gd_some] at hx
  obtain ⟨hp, hx⟩ := hx
  simp only [Option.map_eq_some_iff] at hx
  obtain ⟨⟨xs', r'⟩, h1, h2'⟩ := hx
  cases h2'
  exact ⟨_, rfl, repS_of hp (he t), _, h1, hr⟩
 | cell p t =>
  simp only [cRes, tyOf, Option.map_eq_some_iff, Option.bind_eq_some_iff] at hc
  obtain ⟨⟨d, i⟩, ⟨d', hd, i', hti, hee⟩, hc⟩ := hc
  cases hee
  have key : ∀ n, n = (if isAggD d then i.size else 1) → resL Γ s (.cell p n (isAggD d) :: vrs) = some (x :: xs, r) →
    ∃ v, Sem.run P (do loadVar t (← asAddr (a.tmps.getD p undef))) w = .ok v w ∧ RepS φ v x ∧ ∃ r', resL Γ s vrs = some (xs, r') ∧ ∀ n, r'.testBit n = true → h2 n = g n := by
   intro n hn hx
   simp only [resL] at hx
   split at hx
   ·rename_i m off heq
    simp only [Option.bind_eq_some_iff] at hx
    obtain ⟨q, hg, cs, hcut, hx⟩ := hx
    rw [gd_some] at hx
    obtain ⟨hp, hx⟩ := hx
    simp only [Option.map_eq_some_iff] at hx
    obtain ⟨⟨xs', r'⟩, h1, h2'⟩ := hx
    cases h2'
    have hs0 := he p
    have hl : look Γ p = .c (.ptr m off) := heq
    rw [hl] at hs0
    obtain ⟨b, β, lim, hφ, hv⟩ := ptr_form hs0
    have hrep := R.rep m _ ((over_get hi (hr m (lor_l (bit_self m)))).trans (getC_get hg))
    obtain ⟨vs, hlen, hlie, hpt⟩ := cells_at hrep hφ hcut
    have hrun := run_loadVar_lies (P := P) hd hti hlie
    refine ⟨if isAggD d then .agg vs.toArray else vs.headD undef, ?_, ?_, r', h1, fun n hn => hr n (lor_r hn)⟩
    ·cases hag : isAggD d with
     | true =>
      simp [hag] at hn
      simp only [hv, asAddr, Sem.run_bind, Sem.run_pure, Result.andThen_ok, if_true]; exact hrun.1 hag (hlen.trans hn)
     | false =>
      simp [hag] at hn
      match vs, hlen.trans hn with
      | [v], _ =>
       simp only [hv, asAddr, Sem.run_bind, Sem.run_pure, Result.andThen_ok, Bool.false_eq_true, if_false]; exact hrun.2 hag v rfl
    ·cases hag : isAggD d with
     | true =>
      rw [hag] at hp
      exact repS_of hp (mkV_rep hpt)
     | false =>
      simp [hag] at hn
      match vs, hlen.trans hn with
      | [v], _ =>
       rw [hag] at hp
       exact repS_of hp (mkV_rep1 hpt)
   ·simp at hx
  cases hg : isAggD d with
  | true => simp only [hg, if_true] at hc; subst hc; exact key i.size (by simp [hg]) (by rw [hg]; exact hx)
  | false => simp only [hg, Bool.false_eq_true, if_false] at hc; subst hc; exact key 1 (by simp [hg]) (by rw [hg]; exact hx)
theorem resL_ne {vr : RR} {vrs : List RR} {xs : List V} {r : Nat} (hx : resL Γ s (vr :: vrs) = some (xs, r)) : ∃ x xs', xs = x :: xs' := by
 cases vr with
 | tmp t =>
  simp only [resL] at hx
  rw [gd_some] at hx
  obtain ⟨_, hx⟩ := hx
  simp only [Option.map_eq_some_iff] at hx
  obtain ⟨_, _, h⟩ := hx
  cases h; exact ⟨_, _, rfl⟩
 | cell t n g =>
  simp only [resL] at hx
  split at hx
  ·simp only [Option.bind_eq_some_iff] at hx
   obtain ⟨_, _, _, _, hx⟩ := hx
   rw [gd_some] at hx
   obtain ⟨_, hx⟩ := hx
   simp only [Option.map_eq_some_iff] at hx
   obtain ⟨_, _, h⟩ := hx
   cases h; exact ⟨_, _, rfl⟩
  ·simp at hx
theorem resL_run (he : EnvR φ a (look Γ)) (R : Rel w0 φ (over h2 s) w) (hi : Inv g s) : ∀ (rs : List ResultVar) (vrs : List RR) (xs : List V) (r : Nat), rs.mapM (cRes P) = some vrs → resL Γ s vrs = some (xs, r) → (∀ n, r.testBit n = true → h2 n = g n) →
  ∃ vs, Sem.run P (rs.mapM fun rv => (match rv with | .tmp t => (pure (a.tmps.getD t undef) : Sem Value) | .cell p t => (do loadVar t (← asAddr (a.tmps.getD p undef))))) w = .ok vs w ∧ Pt (RepS φ) vs xs
 | [], vrs, xs, r, hm, hx, hr => by
  simp at hm; subst hm
  simp only [resL] at hx; cases hx
  exact ⟨[], by simp, Go.VM.Pt.nil⟩
 | rv :: rs, vrs, xs, r, hm, hx, hr => by
  simp only [List.mapM_cons, Option.bind_eq_bind, Option.pure_def] at hm
  cases hrv : cRes P rv with
  | none => simp [hrv] at hm
  | some vr =>
   cases hrs : rs.mapM (cRes P) with
   | none => simp [hrv, hrs] at hm
   | some vrs' =>
    simp [hrv, hrs] at hm
    subst hm
    obtain ⟨x, xs', rfl⟩ := resL_ne hx
    obtain ⟨v, hv, hrep, r', h1, h2'⟩ := res1_run (E := look Γ) (P := P) he R hi hrv hr hx
    obtain ⟨vs, hvs, hreps⟩ := resL_run he R hi rs vrs' xs' r' hrs h1 h2'
    refine ⟨v :: vs, ?_, Go.VM.Pt.cons hrep hreps⟩
    rw [List.mapM_cons, Sem.run_bind, hv, Result.andThen_ok, Sem.run_bind, hvs]
    rfl
theorem results_run (he : EnvR φ a (look Γ)) (R : Rel w0 φ (over h2 s) w) (hi : Inv g s) {fn : Func} {vrs : List RR} {outs : List (V × S)} {r : Nat} (hm : fn.results.toList.mapM (cRes P) = some vrs) (hx : resO vrs Γ s = some (outs, r)) (hr : ∀ n, r.testBit n = true → h2 n = g n) :
  ∃ v, (results fn a.tmps).run P w = .ok v w ∧ ∃ p ∈ outs, p.2 = s ∧ RepV φ v p.1 := by
 unfold resO at hx
 split at hx
 ·simp at hx
 ·rename_i xs r' hl
  cases hx
  obtain ⟨vs, hvs, hp⟩ := resL_run (P := P) he R hi fn.results.toList vrs xs r hm hl hr
  have hrun : (results fn a.tmps).run P w = .ok (if h : vs.toArray.size = 1 then vs.toArray[0] else .tuple vs.toArray) w := by
   unfold results
   rw [← Array.toArray_toList (xs := fn.results), List.mapM_toArray]
   simp only [Sem.run_bind, Sem.run_map]
   exact (congrArg (fun r : Result (List Value) => ((r.andThen fun a w' => Result.ok a.toArray w').andThen fun a w' => Sem.run P (pure (if h : a.size = 1 then a[0] else Value.tuple a)) w')) hvs).trans rfl
  refine ⟨_, hrun, _, List.mem_singleton.2 rfl, rfl, ?_⟩
  match vs, xs, hp with
  | [], [], hp => exact ⟨#[], by simp, Go.VM.Pt.nil⟩
  | [v], [x], hp =>
   simp only [tupV]
   simpa using repV_of (hp.2 0 v x rfl rfl)
  | v :: v' :: vs, x :: x' :: xs, hp =>
   simp only [tupV]
   exact ⟨(v :: v' :: vs).toArray, by simp, hp⟩
  | [], _ :: _, hp => have := hp.1; simp at this
  | [_], [], hp => have := hp.1; simp at this
  | [_], _ :: _ :: _, hp => have := hp.1; simp at this
  | _ :: _ :: _, [], hp => have := hp.1; simp at this
  | _ :: _ :: _, [_], hp => have := hp.1; simp at this
theorem resO_inv {vrs : List RR} {outs : List (V × S)} {r : Nat} (hx : resO vrs Γ s = some (outs, r)) : ∀ p ∈ outs, p.2 = s := by
 unfold resO at hx
 split at hx
 ·simp at hx
 ·cases hx; intro p hp; rw [List.mem_singleton.1 hp]
theorem get_ofL {α : Type} : ∀ (xs : List α) (i : Nat) (t : Tr α) (m : Nat), (ofL xs i t).get m = if i ≤ m then (match xs[m - i]? with | some x => some x | none => t.get m) else t.get m
 | [], i, t, m => by simp [ofL]
 | x :: xs, i, t, m => by
  simp only [ofL]
  rw [get_ofL xs (i + 1) _ m, Tr.get_set]
  by_cases h1 : i + 1 ≤ m
  ·have h2 : i ≤ m := by omega
   have h3 : ¬ m = i := by omega
   obtain ⟨d, hd⟩ : ∃ d, m - i = d + 1 := ⟨m - i - 1, by omega⟩
   have h4 : m - (i + 1) = d := by omega
   simp [h1, h2, h3, hd, h4]
  ·by_cases h2 : m = i
   ·subst h2
    have h3 : ¬ m + 1 ≤ m := by omega
    simp [h3]
   ·have h3 : ¬ i ≤ m := by omega
    simp [h1, h2, h3]
theorem get_entry {α : Type} (xs : List α) (m : Nat) : (ofL xs 0 .lf).get m = xs[m]? := by
 rw [get_ofL]
 simp only [Nat.zero_le, if_true, Nat.sub_zero, Tr.get]
 cases xs[m]? <;> rfl
end
section
variable {P : Program} {w0 : World} {orc : CallF} {T : Tr RF}
theorem exec_succ (orc : CallF) (T : Tr RF) (n : Nat) (rc : RC) (Γ : Tr V) (s : S) : exec orc T (n + 1) rc Γ s = match rc with
 | .skip => one (.normal, Γ, s)
 | .region none ops => bindO (seqO (callF orc T n) ops Γ s) fun p => one (.normal, p.1, p.2)
 | .region (some tab) ops => bindO (drawO (callF orc T n) ops tab 0 [] Γ s 0) fun p => one (.normal, p.1, p.2)
 | .seq a b => bindO (exec orc T n a Γ s) fun p => match p.1 with
  | .normal => exec orc T n b p.2.1 p.2.2
  | _ => one p
 | .cond c a b => match isB (ev Γ c) with
  | none => none
  | some true => exec orc T n a Γ s
  | some false => exec orc T n b Γ s
 | .block id b => bindO (exec orc T n b Γ s) fun p => match p.1 with
  | .exit id' => bif Nat.beq id' id then one (.normal, p.2.1, p.2.2) else one p
  | _ => one p
 | .loop b => bindO (exec orc T n b Γ s) fun p => match p.1 with
  | .normal => exec orc T n (.loop b) p.2.1 p.2.2
  | _ => one p
 | .exit id => one (.exit id, Γ, s)
 | .ret => one (.ret, Γ, s)
 | .bad => none := by cases rc <;> rfl
theorem rounds_mono {P : Program} {c : Code} {Q Q' : Exit → Act → World → Prop} (hq : ∀ e a w, Q e a w → Q' e a w) : ∀ (m : Nat) (a : Act) (w : World), Code.rounds P c Q m a w → Code.rounds P c Q' m a w
 | 0, _, _, h => h
 | m + 1, a, w, h => by
  rw [rounds_succ] at h ⊢
  refine wp_mono h fun e a' w' hh => ?_
  cases e with
  | normal => exact rounds_mono hq m a' w' hh
  | _ => exact hq _ _ _ hh
def ExecOk (P : Program) (w0 : World) (orc : CallF) (T : Tr RF) (n : Nat) : Prop :=
 ∀ rc Γ s outs r, exec orc T n rc Γ s = some (outs, r) → (∀ g, Inv g s → ∀ p ∈ outs, Inv g p.2.2) ∧
  ∀ nt c, cCode P nt c = some rc → ∀ g h2 φ0 a w, (∀ n, r.testBit n = true → h2 n = g n) → StR w0 nt g h2 φ0 (look Γ) s a w →
   c.wp P (fun e a' w' => ∃ p ∈ outs, XM e p.1 ∧ StR w0 nt g h2 φ0 (look p.2.1) p.2.2 a' w') a w ∧
   ∀ b, c = .loop b → Code.rounds P b (fun e a' w' => ∃ p ∈ outs, XM e p.1 ∧ StR w0 nt g h2 φ0 (look p.2.1) p.2.2 a' w') n a w
theorem call_of_exec (hT : TOk P T) (ho : CallOk P w0 orc) (hoi : CallInv orc) {n : Nat} (hE : ExecOk P w0 orc T n) : CallOk P w0 (callF orc T n) ∧ CallInv (callF orc T n) := by
 refine ⟨fun f args s outs r hx => ?_, fun f args s outs r hx g hi p hp => ?_⟩
 ·unfold callF at hx
  split at hx
  ·exact ho f args s outs r hx
  ·rename_i rf hget
   obtain ⟨fn, c, hfn, hb, hc, hres, hnm⟩ := hT f rf hget
   refine ⟨⟨fn, hfn, by rw [hb]; rfl, hnm⟩, fun g h2 φ w vs hr hi R hargs => ?_⟩
   obtain ⟨l, r0, hl, hr0, hmem⟩ := bindO_mem hx
   have hwp := (hE rf.code (ofL args 0 .lf) s l r0 hl).2 fn.ntmps c hc g h2 φ { tmps := vs.toArray ++ Array.replicate (fn.ntmps - vs.toArray.size) undef, defers := [] } w (fun n hn => hr n (hr0 n hn)) (by
    refine ⟨φ, Ren.le_refl φ, fun t => ?_, R, hi, rfl, by simp; omega⟩
    unfold look
    rw [get_entry]
    cases hx : args[t]? with
    | none => trivial
    | some x =>
     have hlt : t < vs.length := by rw [hargs.1]; exact (List.getElem?_eq_some_iff.1 hx).1
     have hget : (vs.toArray ++ Array.replicate (fn.ntmps - vs.toArray.size) undef).getD t undef = vs[t] := by
      simp [Array.getD, hlt]
      intro hh; omega
     rw [hget]
     exact hargs.2 t _ x (List.getElem?_eq_getElem hlt) hx)
   refine calls_of_wp hfn hb (wp_mono hwp.1 fun e a' w' hq => ?_)
   obtain ⟨p, hp, hxm, φ', hle, he, R', hi', hd, _⟩ := hq
   obtain ⟨zs, q, hz, hzs, hq⟩ := hmem p hp
   have fin : (p.1 = .normal ∨ p.1 = .ret) → a'.defers = [] ∧ ∃ v, (results fn a'.tmps).run P w' = .ok v w' ∧ ∃ v', Ending.returned v = .returned v' ∧ ∃ p ∈ outs, ∃ φ', φ.le φ' ∧ Rel w0 φ' (over h2 p.2) w' ∧ RepV φ' v' p.1 := by
    intro hpe
    have hz' : resO rf.res p.2.1 p.2.2 = some (zs, q) := by rcases hpe with h | h <;> (rw [h] at hz; exact hz)
    obtain ⟨v, hv, p2, hp2, hs2, hrep⟩ := results_run (P := P) he R' hi' hres hz' (fun n hn => hr n (hq n hn))
    exact ⟨hd, v, hv, v, rfl, p2, hzs p2 hp2, φ', hle, by rw [hs2]; exact R', hrep⟩
   cases e with
   | normal => exact fin (.inl (by revert hxm; cases p.1 <;> simp [XM]))
   | ret => exact fin (.inr (by revert hxm; cases p.1 <;> simp [XM]))
   | exit id =>
    exfalso
    revert hxm hz
    cases p.1 <;> simp [XM]
   | goto _ => exact hxm.elim
   | panic _ => exact hxm.elim
   | outgrown => exact hxm.elim
 ·unfold callF at hx
  split at hx
  ·exact hoi f args s outs r hx g hi p hp
  ·rename_i rf hget
   refine bindO_all (C := fun p => Inv g p.2) hx (fun l r0 hl a ha zs q hz z hzm => ?_) p hp
   have h1 := (hE rf.code (ofL args 0 .lf) s l r0 hl).1 g hi a ha
   split at hz
   ·rw [resO_inv hz z hzm]; exact h1
   ·rw [resO_inv hz z hzm]; exact h1
   ·simp at hz
theorem seqO_inv {call : CallF} (hinv : CallInv call) {g : Hp} : ∀ (vl : List (ROp × Nat)) (Γ : Tr V) (s : S) (outs : List (Tr V × S)) (r : Nat), seqO call vl Γ s = some (outs, r) → Inv g s → ∀ p ∈ outs, Inv g p.2
 | [], Γ, s, outs, r, h, hi => by simp only [seqO] at h; cases h; intro p hp; rw [List.mem_singleton.1 hp]; exact hi
 | o :: os, Γ, s, outs, r, h, hi => by
  simp only [seqO] at h
  exact bindO_all (C := fun p => Inv g p.2) h fun l r0 hl a ha zs q hz z hzm => seqO_inv hinv os a.1 a.2 zs q hz (stepO_inv hinv hl hi a ha) z hzm
theorem drawO_inv {call : CallF} (hinv : CallInv call) {g : Hp} {vl : List (ROp × Nat)} {tab : List Nat} {Γ : Tr V} {s : S} {outs : List (Tr V × S)} {r : Nat} (h : drawO call vl tab 0 [] Γ s 0 = some (outs, r)) (hi : Inv g s) : ∀ p ∈ outs, Inv g p.2 := by
 obtain ⟨Γs, ss, rs, ws, e1, e2, e3, ht, _, _, _⟩ := drawO_tra vl tab 0 [] Γ s 0 outs r h
 have key : ∀ k, k ≤ vl.length → Inv g (ss k) := by
  intro k
  induction k with
  | zero => intro _; rw [e2]; exact hi
  | succ k ih =>
   intro hk n hn
   obtain ⟨t, h1, h2, h3⟩ := ht.step k vl[k] (List.getElem?_eq_getElem (by omega))
   have hi1 := stepO_inv (g := (ss k).h.get) hinv h1 (fun _ _ => rfl) _ (List.mem_singleton.2 rfl)
   rw [h2] at hn ⊢
   simp only [lor_test, Bool.or_eq_false_iff] at hn
   rw [hi1 n hn.2]
   exact ih (by omega) n hn.1
 intro p hp
 rw [e3] at hp
 rw [List.mem_singleton.1 hp]
 exact key _ (Nat.le_refl _)
theorem exec_ok (hT : TOk P T) (ho : CallOk P w0 orc) (hoi : CallInv orc) : ∀ n, ExecOk P w0 orc T n
 | 0 => fun rc Γ s outs r h => by simp [exec] at h
 | n + 1 => by
  have ih := exec_ok hT ho hoi n
  obtain ⟨hcall, hinv⟩ := call_of_exec hT ho hoi ih
  intro rc Γ s outs r hx
  rw [exec_succ] at hx
  cases rc with
  | skip =>
   cases hx
   refine ⟨fun g hi p hp => by rw [List.mem_singleton.1 hp]; exact hi, fun nt c hc g h2 φ0 a w hr st => ?_⟩
   cases c <;> simp only [cCode, Option.bind_eq_some_iff, Option.map_eq_some_iff, Option.some.injEq, reduceCtorEq, and_false, exists_false] at hc
   ·exact ⟨wp_skip ⟨_, List.mem_singleton.2 rfl, trivial, st⟩, fun b h => by simp at h⟩
   ·rcases cReg_ne hc with h | ⟨_, _, h⟩ <;> simp at h
  | ret =>
   cases hx
   refine ⟨fun g hi p hp => by rw [List.mem_singleton.1 hp]; exact hi, fun nt c hc g h2 φ0 a w hr st => ?_⟩
   cases c <;> simp only [cCode, Option.bind_eq_some_iff, Option.map_eq_some_iff, Option.some.injEq, reduceCtorEq, and_false, exists_false] at hc
   ·rcases cReg_ne hc with h | ⟨_, _, h⟩ <;> simp at h
   ·exact ⟨wp_ret ⟨_, List.mem_singleton.2 rfl, trivial, st⟩, fun b h => by simp at h⟩
  | exit id =>
   cases hx
   refine ⟨fun g hi p hp => by rw [List.mem_singleton.1 hp]; exact hi, fun nt c hc g h2 φ0 a w hr st => ?_⟩
   cases c <;> simp only [cCode, Option.bind_eq_some_iff, Option.map_eq_some_iff, Option.some.injEq, reduceCtorEq, and_false, exists_false, RC.exit.injEq] at hc
   ·rcases cReg_ne hc with h | ⟨_, _, h⟩ <;> simp at h
   ·subst hc; exact ⟨wp_exit ⟨_, List.mem_singleton.2 rfl, rfl, st⟩, fun b h => by simp at h⟩
  | bad => simp at hx
  | region d ops =>
   cases d with
   | none =>
    obtain ⟨l, r0, hl, hr0, hmem⟩ := bindO_mem hx
    have hin : ∀ p ∈ l, ((Ex.normal, p.1, p.2) : Ex × Tr V × S) ∈ outs := fun p hp => by
     obtain ⟨zs, q, hz, hzs, _⟩ := hmem p hp
     cases hz; exact hzs _ (List.mem_singleton.2 rfl)
    refine ⟨fun g hi => ?_, fun nt c hc g h2 φ0 a w hr st => ?_⟩
    ·exact bindO_all (C := fun p => Inv g p.2.2) hx fun l' r' hl' b hb zs q hz z hzm => by
      cases hz; rw [List.mem_singleton.1 hzm]
      exact seqO_inv hinv ops Γ s l' r' hl' hi b hb
    ·obtain ⟨id, ops', dr, rfl, hm, hd, _⟩ := region_form hc
     obtain rfl := hd rfl
     refine ⟨wp_region_list (seq_sound (φ0 := φ0) (ops := ops') hcall hinv ops'.toList ops Γ s a w l r0 hm hl (fun n hn => hr n (hr0 n hn)) st fun p hp a' w' st' => ⟨_, hin p hp, trivial, st'⟩), fun b h => by simp at h⟩
   | some tab =>
    obtain ⟨l, r0, hl, hr0, hmem⟩ := bindO_mem hx
    have hin : ∀ p ∈ l, ((Ex.normal, p.1, p.2) : Ex × Tr V × S) ∈ outs := fun p hp => by
     obtain ⟨zs, q, hz, hzs, _⟩ := hmem p hp
     cases hz; exact hzs _ (List.mem_singleton.2 rfl)
    refine ⟨fun g hi => ?_, fun nt c hc g h2 φ0 a w hr st => ?_⟩
    ·exact bindO_all (C := fun p => Inv g p.2.2) hx fun l' r' hl' b hb zs q hz z hzm => by
      cases hz; rw [List.mem_singleton.1 hzm]
      exact drawO_inv hinv hl' hi b hb
    ·obtain ⟨id, ops', dr, rfl, hm, _, hd⟩ := region_form hc
     obtain ⟨rfl, rfl, hoo, hmx⟩ := hd tab rfl
     exact ⟨wpAny_start hcall hinv hm hoo hmx hl (fun n hn => hr n (hr0 n hn)) st fun p hp a' w' st' => ⟨_, hin p hp, trivial, st'⟩, fun b h => by simp at h⟩
  | seq x y =>
   obtain ⟨l, r0, hl, hr0, hmem⟩ := bindO_mem hx
   have hi1 := ih x Γ s l r0 hl
   refine ⟨fun g hi => ?_, fun nt c hc g h2 φ0 a w hr st => ?_⟩
   ·refine bindO_all (C := fun p => Inv g p.2.2) hx fun l' r' hl' b hb zs q hz z hzm => ?_
    have h1 := (ih x Γ s l' r' hl').1 g hi b hb
    split at hz
    ·exact (ih y _ _ zs q hz).1 g h1 z hzm
    ·cases hz; rw [List.mem_singleton.1 hzm]; exact h1
   ·cases c <;> simp only [cCode, Option.bind_eq_some_iff, Option.map_eq_some_iff, Option.some.injEq, reduceCtorEq, and_false, exists_false, RC.seq.injEq] at hc
    ·rcases cReg_ne hc with h | ⟨_, _, h⟩ <;> simp at h
    ·obtain ⟨x', hx', y', hy', rfl, rfl⟩ := hc
     refine ⟨wp_seq (wp_mono (hi1.2 nt _ hx' g h2 φ0 a w (fun n hn => hr n (hr0 n hn)) st).1 fun e a' w' hq => ?_), fun b h => by simp at h⟩
     obtain ⟨p, hp, hxm, st'⟩ := hq
     obtain ⟨zs, q, hz, hzs, hq⟩ := hmem p hp
     cases e with
     | normal =>
      have hpe : p.1 = .normal := by revert hxm; cases p.1 <;> simp [XM]
      rw [hpe] at hz
      exact wp_mono ((ih y' p.2.1 p.2.2 zs q hz).2 nt _ hy' g h2 φ0 a' w' (fun n hn => hr n (hq n hn)) st').1 fun e2 a2 w2 ⟨p2, hp2, hx2, st2⟩ => ⟨p2, hzs p2 hp2, hx2, st2⟩
     | exit id =>
      have hz : one p = some (zs, q) := by revert hz hxm; cases p.1 <;> first | exact fun h _ => h | simp [XM]
      cases hz
      exact ⟨p, hzs p (List.mem_singleton.2 rfl), hxm, st'⟩
     | ret =>
      have hz : one p = some (zs, q) := by revert hz hxm; cases p.1 <;> first | exact fun h _ => h | simp [XM]
      cases hz
      exact ⟨p, hzs p (List.mem_singleton.2 rfl), hxm, st'⟩
     | goto _ => exact hxm.elim
     | panic _ => exact hxm.elim
     | outgrown => exact hxm.elim
  | cond q x y =>
   simp only at hx
   cases hb : isB (ev Γ q) with
   | none => rw [hb] at hx; simp at hx
   | some t =>
    have hsel : exec orc T n (if t = true then x else y) Γ s = some (outs, r) := by
     rw [hb] at hx
     cases t <;> simpa using hx
    have hi1 := ih _ Γ s outs r hsel
    refine ⟨hi1.1, fun nt c hc g h2 φ0 a w hr st => ?_⟩
    cases c <;> simp only [cCode, Option.bind_eq_some_iff, Option.map_eq_some_iff, Option.some.injEq, reduceCtorEq, and_false, exists_false, RC.cond.injEq] at hc
    ·rcases cReg_ne hc with h | ⟨_, _, h⟩ <;> simp at h
    ·obtain ⟨c', hc', x', hx', y', hy', rfl, rfl, rfl⟩ := hc
     have hv := (fun (st : StR w0 nt g h2 φ0 (look Γ) s a w) => let ⟨φ, _, he, _⟩ := st; isB_rep (ev_sound he hc') hb) st
     refine ⟨wp_cond_split hv (fun ht => ?_) (fun ht => ?_), fun b h => by simp at h⟩
     ·subst ht
      exact (hi1.2 nt _ (by simpa using hx') g h2 φ0 a w hr st).1
     ·subst ht
      exact (hi1.2 nt _ (by simpa using hy') g h2 φ0 a w hr st).1
  | block id b =>
   obtain ⟨l, r0, hl, hr0, hmem⟩ := bindO_mem hx
   have hi1 := ih b Γ s l r0 hl
   refine ⟨fun g hi => ?_, fun nt c hc g h2 φ0 a w hr st => ?_⟩
   ·refine bindO_all (C := fun p => Inv g p.2.2) hx fun l' r' hl' b' hb zs q hz z hzm => ?_
    have h1 := (ih b Γ s l' r' hl').1 g hi b' hb
    split at hz
    ·rename_i id' _
     cases hbq : Nat.beq id' id with
     | true => rw [hbq] at hz; cases hz; rw [List.mem_singleton.1 hzm]; exact h1
     | false => rw [hbq] at hz; cases hz; rw [List.mem_singleton.1 hzm]; exact h1
    ·cases hz; rw [List.mem_singleton.1 hzm]; exact h1
   ·cases c <;> simp only [cCode, Option.bind_eq_some_iff, Option.map_eq_some_iff, Option.some.injEq, reduceCtorEq, and_false, exists_false, RC.block.injEq] at hc
    ·rcases cReg_ne hc with h | ⟨_, _, h⟩ <;> simp at h
    ·rename_i id0 cb
     obtain ⟨b', hb', hid, hbe⟩ := hc
     subst hbe
     rw [hid]
     refine ⟨wp_block (wp_mono (hi1.2 nt _ hb' g h2 φ0 a w (fun n hn => hr n (hr0 n hn)) st).1 fun e a' w' hq => ?_), fun b h => by simp at h⟩
     obtain ⟨p, hp, hxm, st'⟩ := hq
     obtain ⟨zs, q, hz, hzs, hq⟩ := hmem p hp
     cases e with
     | normal =>
      have hz : one p = some (zs, q) := by revert hz hxm; cases p.1 <;> first | exact fun h _ => h | simp [XM]
      cases hz
      exact ⟨p, hzs p (List.mem_singleton.2 rfl), hxm, st'⟩
     | ret =>
      have hz : one p = some (zs, q) := by revert hz hxm; cases p.1 <;> first | exact fun h _ => h | simp [XM]
      cases hz
      exact ⟨p, hzs p (List.mem_singleton.2 rfl), hxm, st'⟩
     | exit id' =>
      have hpe : p.1 = .exit id' := by revert hxm; cases p.1 <;> simp [XM]; exact fun h => h.symm
      rw [hpe] at hz
      simp only [Exit.inBlock]
      by_cases e : id' = id
      ·subst e
       have hz : one (Ex.normal, p.2.1, p.2.2) = some (zs, q) := by simpa using hz
       cases hz
       rw [if_pos rfl]
       exact ⟨_, hzs _ (List.mem_singleton.2 rfl), trivial, st'⟩
      ·have hbq : Nat.beq id' id = false := by
        cases h : Nat.beq id' id with
        | false => rfl
        | true => exact absurd (beq_t h) e
       simp only [hbq, cond_false] at hz
       cases hz
       rw [if_neg e]
       exact ⟨_, hzs _ (List.mem_singleton.2 rfl), by rw [hpe]; rfl, st'⟩
     | goto _ => exact hxm.elim
     | panic _ => exact hxm.elim
     | outgrown => exact hxm.elim
  | loop b =>
   obtain ⟨l, r0, hl, hr0, hmem⟩ := bindO_mem hx
   have hi1 := ih b Γ s l r0 hl
   refine ⟨fun g hi => ?_, fun nt c hc g h2 φ0 a w hr st => ?_⟩
   ·refine bindO_all (C := fun p => Inv g p.2.2) hx fun l' r' hl' b' hb zs q hz z hzm => ?_
    have h1 := (ih b Γ s l' r' hl').1 g hi b' hb
    split at hz
    ·exact (ih (.loop b) _ _ zs q hz).1 g h1 z hzm
    ·cases hz; rw [List.mem_singleton.1 hzm]; exact h1
   ·have hc' := hc
    cases c <;> simp only [cCode, Option.bind_eq_some_iff, Option.map_eq_some_iff, Option.some.injEq, reduceCtorEq, and_false, exists_false, RC.loop.injEq] at hc
    ·rcases cReg_ne hc with h | ⟨_, _, h⟩ <;> simp at h
    ·rename_i cb
     obtain ⟨b', hb', hbe⟩ := hc
     have hbe := hbe.symm
     subst hbe
     have key : Code.rounds P cb (fun e a' w' => ∃ p ∈ outs, XM e p.1 ∧ StR w0 nt g h2 φ0 (look p.2.1) p.2.2 a' w') (n + 1) a w := by
      rw [rounds_succ]
      refine wp_mono (hi1.2 nt _ hb' g h2 φ0 a w (fun n hn => hr n (hr0 n hn)) st).1 fun e a' w' hq => ?_
      obtain ⟨p, hp, hxm, st'⟩ := hq
      obtain ⟨zs, q, hz, hzs, hq⟩ := hmem p hp
      cases e with
      | normal =>
       have hpe : p.1 = .normal := by revert hxm; cases p.1 <;> simp [XM]
       rw [hpe] at hz
       exact rounds_mono (fun e2 a2 w2 ⟨p2, hp2, hx2, st2⟩ => ⟨p2, hzs p2 hp2, hx2, st2⟩) n a' w' (((ih (.loop b) p.2.1 p.2.2 zs q hz).2 nt _ hc' g h2 φ0 a' w' (fun n hn => hr n (hq n hn)) st').2 cb rfl)
      | exit id =>
       have hz : one p = some (zs, q) := by revert hz hxm; cases p.1 <;> first | exact fun h _ => h | simp [XM]
       cases hz
       exact ⟨p, hzs p (List.mem_singleton.2 rfl), hxm, st'⟩
      | ret =>
       have hz : one p = some (zs, q) := by revert hz hxm; cases p.1 <;> first | exact fun h _ => h | simp [XM]
       cases hz
       exact ⟨p, hzs p (List.mem_singleton.2 rfl), hxm, st'⟩
      | goto _ => exact hxm.elim
      | panic _ => exact hxm.elim
      | outgrown => exact hxm.elim
     exact ⟨wp_loop_rounds (n + 1) key, fun b'' h => by cases h; exact key⟩
end
end Go.RM
namespace Go.RM
open Go.VM (Pt Fr T RepT RepC Fun noHeap blks resOk okOf Oid Lies)
def toX : Go.VM.C → Option X
 | .imm t => some (imX t)
 | .nilS => some (.sc nilSl)
 | .nilM => some (.sc (.map none))
 | _ => none
def toV : Go.VM.V → Option V
 | .c x => (toX x).map .c
 | .agg cs => (cs.mapM toX).map .agg
 | _ => none
theorem toX_rep {w : World} {ok : Nat → Prop} {B : Oid → Value} {φ : Ren} (hw : φ.w0 = w) (hk : φ.ok = ok) {v : Value} {c : Go.VM.C} {x : X} (h : RepC w ok B v c) (hx : toX c = some x) : RepX φ v x := by
 subst hw; subst hk
 cases h <;> simp only [toX, Option.some.injEq, reduceCtorEq] at hx
 ·subst hx; exact imX_rep ‹_›
 ·subst hx; exact .sc _ rfl
 ·subst hx; exact .sc _ rfl
theorem toXs_rep {w : World} {ok : Nat → Prop} {B : Oid → Value} {φ : Ren} (hw : φ.w0 = w) (hk : φ.ok = ok) : ∀ (vs : List Value) (cs : List Go.VM.C) (xs : List X), Pt (RepC w ok B) vs cs → cs.mapM toX = some xs → Pt (RepX φ) vs xs
 | [], cs, xs, hp, hx => by
  have : cs = [] := List.eq_nil_of_length_eq_zero (by have := hp.1; simpa using this.symm)
  subst this
  simp at hx; subst hx; exact Go.VM.Pt.nil
 | v :: vs, cs, xs, hp, hx => by
  cases cs with
  | nil => have := hp.1; simp at this
  | cons c cs =>
   simp only [List.mapM_cons, Option.bind_eq_bind, Option.pure_def] at hx
   cases h1 : toX c with
   | none => simp [h1] at hx
   | some x =>
    cases h2 : cs.mapM toX with
    | none => simp [h1, h2] at hx
    | some r =>
     simp [h1, h2] at hx
     subst hx
     have ht : Pt (RepC w ok B) vs cs := ⟨by have := hp.1; simpa using this, fun j u z hu hz => hp.2 (j + 1) u z (by simpa using hu) (by simpa using hz)⟩
     exact Go.VM.Pt.cons (toX_rep hw hk (hp.2 0 v c rfl rfl) h1) (toXs_rep hw hk vs cs r ht h2)
theorem toV_rep {w : World} {ok : Nat → Prop} {B : Oid → Value} {φ : Ren} (hw : φ.w0 = w) (hk : φ.ok = ok) {v : Value} {c : Go.VM.V} {x : V} (h : Go.VM.RepV w ok B v c) (hx : toV c = some x) : RepV φ v x := by
 cases c with
 | c y =>
  simp only [toV, Option.map_eq_some_iff] at hx
  obtain ⟨z, hz, rfl⟩ := hx
  exact toX_rep (B := B) hw hk h hz
 | agg cs =>
  simp only [toV, Option.map_eq_some_iff] at hx
  obtain ⟨z, hz, rfl⟩ := hx
  obtain ⟨us, rfl, hp⟩ := h
  exact ⟨us, rfl, toXs_rep hw hk _ _ _ hp hz⟩
 | tup _ => simp [toV] at hx
 | junk => simp [toV] at hx
theorem toVs_rep {w : World} {ok : Nat → Prop} {B : Oid → Value} {φ : Ren} (hw : φ.w0 = w) (hk : φ.ok = ok) : ∀ (vs : List Value) (cs : List Go.VM.V) (xs : List V), Pt (Go.VM.RepV w ok B) vs cs → cs.mapM toV = some xs → Pt (RepV φ) vs xs
 | [], cs, xs, hp, hx => by
  have : cs = [] := List.eq_nil_of_length_eq_zero (by have := hp.1; simpa using this.symm)
  subst this
  simp at hx; subst hx; exact Go.VM.Pt.nil
 | v :: vs, cs, xs, hp, hx => by
  cases cs with
  | nil => have := hp.1; simp at this
  | cons c cs =>
   simp only [List.mapM_cons, Option.bind_eq_bind, Option.pure_def] at hx
   cases h1 : toV c with
   | none => simp [h1] at hx
   | some x =>
    cases h2 : cs.mapM toV with
    | none => simp [h1, h2] at hx
    | some r =>
     simp [h1, h2] at hx
     subst hx
     have ht : Pt (Go.VM.RepV w ok B) vs cs := ⟨by have := hp.1; simpa using this, fun j u z hu hz => hp.2 (j + 1) u z (by simpa using hu) (by simpa using hz)⟩
     exact Go.VM.Pt.cons (toV_rep hw hk (hp.2 0 v c rfl rfl) h1) (toVs_rep hw hk vs cs r ht h2)
inductive TreeX (h : Hp) (fresh : Bool) : X → T → Prop
 | sc (v : Value) : TreeX h fresh (.sc v) (.sc v)
 | nil (k : Nat) : TreeX h fresh (.sc nilSl) (.sl k [])
 | es (k : Nat) : TreeX h fresh .es (.sl k [])
 | ez (k : Nat) : TreeX h fresh .ez (.sl k [])
 | im (k : Nat) (rows : List (List T)) : fresh = false → TreeX h fresh (.im k rows) (.sl k rows)
 | im0 (k k' : Nat) : TreeX h fresh (.im k []) (.sl k' [])
 | sl0 (n k off k' : Nat) : TreeX h fresh (.sl n k off 0) (.sl k' [])
 | sl (n k off : Nat) (rows : List (List T)) (e : TypeId) (cs xs : List X) : h n = some (.cells e cs) → cut cs off (rows.length * k) = some xs → (∀ row ∈ rows, row.length = k) → xs.length = rows.flatten.length →
   (∀ (j : Nat) x t, xs[j]? = some x → rows.flatten[j]? = some t → TreeX h fresh x t) → TreeX h fresh (.sl n k off rows.length) (.sl k rows)
def TreeS (h : Hp) (fresh : Bool) : V → Go.VM.V → Prop
 | .c x, .c (.imm t) => TreeX h fresh x t
 | .agg xs, .agg cs => Pt (fun x c => ∃ t, c = .imm t ∧ TreeX h fresh x t) xs cs
 | _, _ => False
def TreeV (h : Hp) (fresh : Bool) : V → Go.VM.V → Prop
 | .tup xs, .tup ys => Pt (TreeS h fresh) xs ys
 | x, y => TreeS h fresh x y
section
variable {w0 w : World} {φ : Ren} {h : Hp} {fresh : Bool} {B : Oid → Value}
theorem treeX_rep (R : Rel w0 φ h w) {v : Value} {x : X} {t : T} (hx : RepX φ v x) (ht : TreeX h fresh x t) : RepT w (resOk fresh w0.heap.size φ.ok w B noHeap) v t := by
 induction ht generalizing v with
 | sc u => cases hx with | sc _ h => exact .sc _ h
 | nil k => cases hx; exact .nil _ _ _
 | es k => cases hx; exact .nil _ _ _
 | ez k => cases hx; exact .nil _ _ _
 | im k rows hf =>
  cases hx with
  | im _ _ _ hrt =>
   rw [R.w0e] at hrt
   exact hrt.mono (fun b hb => R.fr.block b (R.okl b hb) id) fun b hb => ⟨⟨Nat.lt_of_lt_of_le (R.okl b hb) R.fr.size, fun _ => hb, fun o ob ho => by simp [noHeap] at ho⟩, fun h => by rw [hf] at h; simp at h⟩
 | im0 k k' =>
  rcases im_form (φ := φ) hx with ⟨_, a, cap, rfl⟩ | ⟨b, off, cap, rfl, _⟩
  ·exact .nil _ _ _
  ·exact .nil _ _ _
 | sl0 n k off k' =>
  cases hx with
  | sl => exact .nil _ _ _
 | sl n k off rows e cs xs hn hcut hk hl _ ih =>
  cases hx with
  | sl _ _ _ _ b β lim o cap hφ hlen ho hlim =>
   by_cases h0 : rows = []
   ·subst h0; exact .nil _ _ _
   ·have hpos : 0 < rows.length := List.length_pos_iff.2 h0
    have ho := ho hpos
    subst ho
    obtain ⟨vs, hvl, hlie, hp⟩ := cells_at (R.rep n _ hn) hφ hcut
    have hb : w0.heap.size ≤ b := R.old n _ b hn rfl ⟨_, _, hφ⟩
    have hget : ∀ (i : Nat) row (j : Nat) x, rows[i]? = some row → row[j]? = some x → rows.flatten[i * k + j]? = some x := by
     intro i row j x hi hj
     have hrl := hk row (List.mem_of_getElem? hi)
     have hjl : j < k := by rw [← hrl]; exact (List.getElem?_eq_some_iff.1 hj).1
     have hf := Go.VM.flatten_get rows i row hk hi
     have : ((rows.flatten.drop (i * k)).take k)[j]? = some x := by rw [hf]; exact hj
     simpa [List.getElem?_take, hjl, List.getElem?_drop] using this
    have hval : ∀ (i : Nat) row (j : Nat) x, rows[i]? = some row → row[j]? = some x → ∃ u, vs[i * k + j]? = some u ∧ RepT w (resOk fresh w0.heap.size φ.ok w B noHeap) u x := by
     intro i row j x hi hj
     have hx := hget i row j x hi hj
     have hlt : i * k + j < xs.length := by rw [hl]; exact (List.getElem?_eq_some_iff.1 hx).1
     have hlt' : i * k + j < vs.length := by rw [hp.1]; exact hlt
     exact ⟨vs[i * k + j], List.getElem?_eq_getElem hlt', ih _ _ _ (List.getElem?_eq_getElem hlt) hx (hp.2 _ _ _ (List.getElem?_eq_getElem hlt') (List.getElem?_eq_getElem hlt))⟩
    refine .sl b (β + off) cap k rows (fun i j => vs.getD (i * k + j) undef) ⟨⟨R.lt n b ⟨_, _, hφ⟩, fun hlt => by omega, fun o ob ho => by simp [noHeap] at ho⟩, fun _ => hb⟩ hlen hk ?_ ?_
    ·intro i row j x hi hj
     obtain ⟨u, hu, _⟩ := hval i row j x hi hj
     have := hlie _ u hu
     simp only [List.getD, hu, Option.getD_some]
     rw [Nat.add_assoc]; exact this
    ·intro i row j x hi hj
     obtain ⟨u, hu, hr⟩ := hval i row j x hi hj
     simp only [List.getD, hu, Option.getD_some]
     exact hr
theorem treeS_rep (R : Rel w0 φ h w) {v : Value} {x : V} {y : Go.VM.V} (hx : RepS φ v x) (ht : TreeS h fresh x y) : Go.VM.RepS w (resOk fresh w0.heap.size φ.ok w B noHeap) B v y := by
 unfold TreeS at ht
 split at ht
 ·exact RepC.imm _ _ (treeX_rep R hx ht)
 ·obtain ⟨cs, rfl, hp⟩ := hx
  refine ⟨cs, rfl, hp.1.trans ht.1, fun j u c hu hc => ?_⟩
  have hlt : j < cs.toList.length := (List.getElem?_eq_some_iff.1 hu).1
  have hlt' : j < _ := hp.1 ▸ hlt
  obtain ⟨t, rfl, hx⟩ := ht.2 j _ c (List.getElem?_eq_getElem hlt') hc
  exact RepC.imm _ _ (treeX_rep R (hp.2 j u _ hu (List.getElem?_eq_getElem hlt')) hx)
 ·exact ht.elim
theorem treeV_rep (R : Rel w0 φ h w) {v : Value} {x : V} {y : Go.VM.V} (hx : RepV φ v x) (ht : TreeV h fresh x y) : Go.VM.RepV w (resOk fresh w0.heap.size φ.ok w B noHeap) B v y := by
 unfold TreeV at ht
 split at ht
 ·obtain ⟨vs, rfl, hp⟩ := hx
  refine ⟨vs, rfl, hp.1.trans ht.1, fun j u c hu hc => ?_⟩
  have hlt : j < vs.toList.length := (List.getElem?_eq_some_iff.1 hu).1
  have hlt' : j < _ := hp.1 ▸ hlt
  exact treeS_rep R (hp.2 j u _ hu (List.getElem?_eq_getElem hlt')) (ht.2 j _ c (List.getElem?_eq_getElem hlt') hc)
 ·cases x with
  | c _ =>
   cases y with
   | c _ => exact treeS_rep R (x := .c _) (y := .c _) hx ht
   | _ => simp [TreeS] at ht
  | agg _ =>
   cases y with
   | agg _ => exact treeS_rep R (x := .agg _) (y := .agg _) hx ht
   | _ => simp [TreeS] at ht
  | tup _ => simp [TreeS] at ht
  | junk => simp [TreeS] at ht
end
def ofPairs : List (Nat × RF) → Tr RF
 | [] => .lf
 | p :: r => (ofPairs r).set p.1 p.2
theorem ofPairs_get : ∀ {l : List (Nat × RF)} {f : Nat} {rf : RF}, (ofPairs l).get f = some rf → (f, rf) ∈ l
 | [], f, rf, h => by simp [ofPairs, Tr.get] at h
 | p :: l, f, rf, h => by
  simp only [ofPairs, Tr.get_set] at h
  by_cases e : f = p.1
  ·rw [if_pos e] at h
   cases h
   rw [e]; exact List.mem_cons_self
  ·rw [if_neg e] at h
   exact List.mem_cons_of_mem _ (ofPairs_get h)
def nameOk (P : Program) (f : FuncId) : Bool := match P.funcs[f]? with
 | some fn => !(fn.name == "runtime.NumGoroutine")
 | none => false
theorem tok_of {P : Program} {l : List (Nat × RF)} (h : ∀ p ∈ l, cFun P p.1 = some p.2 ∧ nameOk P p.1 = true) : TOk P (ofPairs l) := by
 intro f rf hf
 obtain ⟨h1, h2⟩ := h _ (ofPairs_get hf)
 simp only [cFun, Option.bind_eq_some_iff, Option.map_eq_some_iff] at h1
 obtain ⟨fn, hfn, c, hc, rc, hrc, rs, hrs, rfl⟩ := h1
 refine ⟨fn, c, hfn, hc, hrc, hrs, ?_⟩
 simp only [nameOk, hfn, Bool.not_eq_true'] at h2
 exact h2
def s0 : S := ⟨.lf, 0, 0⟩
def noOrc : CallF := fun _ _ _ => none
theorem noOrc_ok (P : Program) (w0 : World) : CallOk P w0 noOrc := fun _ _ _ _ _ h => by simp [noOrc] at h
theorem noOrc_inv : CallInv noOrc := fun _ _ _ _ _ h => by simp [noOrc] at h
theorem fun_of_run {P : Program} {orc : CallF} {T : Tr RF} (hT : TOk P T) (ho : ∀ w0, CallOk P w0 orc) (hoi : CallInv orc) {f : FuncId} {vs : List Go.VM.V} {us : List V} (hus : vs.mapM toV = some us) {fresh : Bool} {r : Go.VM.V}
  {n : Nat} {outs : List (V × S)} {rr : Nat} (hx : callF orc T n f us s0 = some (outs, rr)) (hr : ∀ p ∈ outs, TreeV p.2.h.get fresh p.1 r) : Fun P f fresh [] vs noHeap r noHeap := by
 intro w ok B args hlt hbl hp hobjs
 obtain ⟨hcall, hinv⟩ := call_of_exec hT (ho w) hoi (exec_ok hT (ho w) hoi n)
 let φ : Ren := ⟨fun _ => none, w, ok⟩
 have R : Rel w φ (over (fun _ => none) s0) w := by
  have hn : ∀ m, over (fun _ => none) s0 m = none := fun m => by simp [over, s0]
  exact ⟨fun m o h => by rw [hn] at h; simp at h, fun m _ o _ _ h => by rw [hn] at h; simp at h, fun m o _ h => by rw [hn] at h; simp at h, fun m _ _ _ h => by rw [hn] at h; simp at h, fun _ _ => rfl, fun m b ⟨_, _, h⟩ => by simp [φ] at h, Fr.refl _ _, rfl, hlt⟩
 refine ((hcall f us s0 outs rr hx).2 (fun _ => none) (fun _ => none) φ w args (fun _ _ => rfl) (fun m _ => rfl) R (toVs_rep rfl rfl _ _ _ hp hus)).mono fun e w' hh => ?_
 obtain ⟨v, rfl, p, hpm, φ', hle, R', hrep⟩ := hh
 have hov : over (fun _ => none) p.2 = p.2.h.get := by
  funext m
  unfold over
  cases hb : p.2.w.testBit m with
  | true => rfl
  | false => exact (hinv f us s0 outs rr hx (fun _ => none) (fun _ _ => rfl) p hpm m hb).symm
 rw [hov] at R'
 have hok : φ'.ok = ok := hle.ok
 refine ⟨v, B, rfl, ⟨R'.fr.os, R'.fr.tape, R'.fr.output, R'.fr.size, fun b hb _ => R'.fr.block b hb id⟩, ?_, ⟨fun o ob h => by simp [noHeap] at h, fun o o' ob ob' b h => by simp [noHeap] at h⟩, fun o ob b h => by simp [noHeap] at h, fun o h => by simp at h⟩
 have := treeV_rep (B := B) (fresh := fresh) R' hrep (hr p hpm)
 rw [hok] at this
 exact this
def allT : List (V × S) → Bool
 | [] => true
 | p :: r => match p.1 with
  | .c (.sc (.bool true)) => allT r
  | _ => false
theorem allT_mem : ∀ {l : List (V × S)}, allT l = true → ∀ p ∈ l, p.1 = .c (.sc (.bool true))
 | [], _, p, h => by simp at h
 | q :: r, h, p, hp => by
  simp only [allT] at h
  split at h
  ·rename_i hq
   rcases List.mem_cons.1 hp with rfl | hp
   ·exact hq
   ·exact allT_mem h p hp
  ·simp at h
def isT : Out (V × S) → Bool
 | some (l, _) => allT l
 | none => false
theorem fun_true {P : Program} {T : Tr RF} (hT : TOk P T) {f : FuncId} (fresh : Bool) (n : Nat) (h : isT (callF noOrc T n f [] s0) = true) : Fun P f fresh [] [] noHeap (.c (.imm (.sc (.bool true)))) noHeap := by
 unfold isT at h
 split at h
 ·rename_i heq
  exact fun_of_run hT (fun w0 => noOrc_ok P w0) noOrc_inv (vs := []) (us := []) rfl heq fun p hp => by
   rw [allT_mem h p hp]
   exact TreeX.sc _
 ·simp at h
end Go.RM
