/- The raw machine, in parts: a walk that is reckoned, d7 an explicit memory. -/
import Derived.Test.YtliccamocpglcabRm1
import Derived.Lib.Bytealg
import Derived.Laws.Externs
import Derived.KernelRfl
import Derived.MapFrom
import Derived.Maps.RangeRun
import Derived.RangeFuncLeaves
import Derived.RangeFuncCalls
import Derived.LoopNIn
import Derived.OrdersIn
import Derived.TacticsIn
import Derived.RangeFuncNested
namespace Go.RM
def Up {α:Type} (f f':Option α):Prop:=∀ x,f = some x→f' = some x
theorem Up.refl {α:Type} (f:Option α):Up f f:=fun _ h=>h
theorem Up.trans {α:Type} {f f' f'':Option α} (h:Up f f') (h':Up f' f''):Up f f'':=fun x hx=>h' x (h x hx)
theorem LX {α β:Type} {f f':α→Out β}:∀ (l:List α) (r:Nat),(∀ a∈l,Up (f a) (f' a))→Up (vV f l r) (vV f' l r)
 | [],r,_=>fun x h=>h
 | a :: l,r,h=>fun x hx=>by
  simp only [vV] at hx ⊢
  split at hx
  ·simp at hx
  ·rename_i ys r1 hf
   rw [h a List.mem_cons_self _ hf]
   split at hx
   ·simp at hx
   ·rename_i zs r2 he
    rw [LX l _ (fun b hb=>h b (List.mem_cons_of_mem _ hb)) _ he]
    exact hx
theorem uj {α β:Type} {x x':Out α} {f f':α→Out β} (hx:Up x x') (h:∀ a,Up (f a) (f' a)):Up (p5 x f) (p5 x' f'):=by
 intro y hy
 unfold p5 at hy ⊢
 split at hy
 ·simp at hy
 ·rename_i l r
  rw [hx _ rfl]
  exact LX l r (fun a _=>h a) y hy
def NK (call call':bZ):Prop:=∀ f args s,Up (call f args s) (call' f args s)
theorem azj {call call':bZ} (h:NK call call') (e:Opd→V) (s:S) (ro:RO):Up (opX call e s ro) (opX call' e s ro):=by
 intro x hx
 cases ro
 case call f args=>exact h _ _ _ x hx
 case callv y args =>
  simp only [opX] at hx ⊢
  split at hx
  ·exact h _ _ _ x hx
  ·simp at hx
 all_goals exact hx
theorem F9 {call call':bZ} (h:NK call call') (o:ROp) (Γ:Tr V) (s:S):Up (p4 call o Γ s) (p4 call' o Γ s):=by
 intro x hx
 unfold p4 at hx ⊢
 split at hx
 ·simp at hx
 ·exact hx
 ·exact uj (azj h _ _ _) (fun a=>Up.refl _) x hx
theorem LV {call call':bZ} (h:NK call call'):∀ (os:List (ROp × Nat)) (Γ:Tr V) (s:S),Up (H9 call os Γ s) (H9 call' os Γ s)
 | [],_,_=>Up.refl _
 | o :: os,Γ,s=>by
  intro x hx
  simp only [H9] at hx ⊢
  exact uj (F9 h _ _ _) (fun a=>LV h os a.1 a.2) x hx
theorem L9 {call call':bZ} (h:NK call call'):∀ (os:List (ROp × Nat)) (tab:List Nat) (i:Nat) (ds:List Did) (Γ:Tr V) (s:S) (r:Nat),Up (vZ call os tab i ds Γ s r) (vZ call' os tab i ds Γ s r)
 | [],_,_,_,_,_,_=>Up.refl _
 | o :: os,[],i,ds,Γ,s,r=>by intro x hx; simp [vZ] at hx
 | o :: os,b :: tab,i,ds,Γ,s,r=>by
  intro x hx
  simp only [vZ] at hx ⊢
  split at hx
  ·rename_i Γ' s' r' hst
   rw [F9 h _ _ _ _ hst]
   simp only
   cases hall:ds.all (fun x=>CJ b x ⟨i,o.2,rK o.1.dst,r',s'.w⟩) with
   | false=>simp [hall] at hx
   | true =>
    simp only [hall,cond_true] at hx ⊢
    exact L9 h os tab _ _ _ _ _ x hx
  ·simp at hx
theorem xJ (orc:bZ) (T:Tr RF):∀ (n:Nat) (c:RC) (Γ:Tr V) (s:S),Up (exec orc T n c Γ s) (exec orc T (n + 1) c Γ s)
 | 0,_,_,_=>fun x h=>by simp [exec] at h
 | n + 1,c,Γ,s=>by
  have hc:NK (j9 orc T n) (j9 orc T (n + 1)):=by
   intro f args s x hx
   unfold j9 at hx ⊢
   split at hx
   ·exact hx
   ·exact uj (xJ orc T n _ _ _) (fun a=>Up.refl _) x hx
  intro x hx
  rw [tj] at hx ⊢
  cases c with
  | skip=>exact hx
  | ret=>exact hx
  | exit _=>exact hx
  | bad=>exact hx
  | region d ops =>
   cases d with
   | none=>exact uj (LV hc _ _ _) (fun a=>Up.refl _) x hx
   | some tab=>exact uj (L9 hc _ _ _ _ _ _ _) (fun a=>Up.refl _) x hx
  | seq a b =>
   refine uj (xJ orc T n a Γ s) (fun p=>?_) x hx
   intro y hy
   split at hy
   ·exact xJ orc T n b _ _ y hy
   ·exact hy
  | cond q a b =>
   simp only at hx ⊢
   split at hx
   ·simp at hx
   ·rename_i hb
    exact xJ orc T n a _ _ x hx
   ·rename_i hb
    exact xJ orc T n b _ _ x hx
  | block id b=>exact uj (xJ orc T n b Γ s) (fun a=>Up.refl _) x hx
  | loop b =>
   refine uj (xJ orc T n b Γ s) (fun p=>?_) x hx
   intro y hy
   split at hy
   ·exact xJ orc T n (.loop b) _ _ y hy
   ·exact hy
theorem t7 (orc:bZ) (T:Tr RF) (n:Nat):NK (j9 orc T n) (j9 orc T (n + 1)):=by
 intro f args s x hx
 unfold j9 at hx ⊢
 split at hx
 ·exact hx
 ·exact uj (xJ orc T n _ _ _) (fun a=>Up.refl _) x hx
def Mono {α:Type} (g:Nat→Out α):Prop:=∀ n,Up (g n) (g (n + 1))
theorem Mono.le {α:Type} {g:Nat→Out α} (h:Mono g) {n m:Nat} (hnm:n≤m):Up (g n) (g m):=by
 obtain ⟨d,rfl⟩:=Nat.le.dest hnm
 clear hnm
 induction d with
 | zero=>exact Up.refl _
 | succ d ih=>exact ih.trans (h (n + d))
theorem Mono.exec (orc:bZ) (T:Tr RF) (c:RC) (Γ:Tr V) (s:S):Mono fun n=>exec orc T n c Γ s:=fun n=>xJ orc T n c Γ s
theorem Mono.call (orc:bZ) (T:Tr RF) (f:FuncId) (args:List V) (s:S):Mono fun n=>j9 orc T n f args s:=fun n=>t7 orc T n f args s
theorem Mono.const {α:Type} (x:Out α):Mono fun _=>x:=fun _=>Up.refl _
theorem Mono.bind {α β:Type} {g:Nat→Out α} {f:Nat→α→Out β} (h:Mono g) (h':∀ a,Mono fun n=>f n a):Mono fun n=>p5 (g n) (f n):=fun n=>uj (h n) fun a=>h' a n
def Ev {α:Type} (g:Nat→Out α) (F:Nat→Prop) (D:Prop) (Q:α→Prop):Prop :=
 ∃ n outs r,g n = some (outs,r)∧(∀ p∈outs,Q p)∧(∀ k,r.testBit k = true→F k)∧(D→∃ p,outs = [p])
theorem Ev.mono {α:Type} {g:Nat→Out α} {F F':Nat→Prop} {D D':Prop} {Q Q':α→Prop} (h:Ev g F D Q) (hF:∀ k,F k→F' k) (hD:D'→D) (hQ:∀ p,Q p→Q' p):Ev g F' D' Q':=by
 obtain ⟨n,outs,r,h1,h2,h3,h4⟩:=h
 exact ⟨n,outs,r,h1,fun p hp=>hQ p (h2 p hp),fun k hk=>hF k (h3 k hk),fun d=>h4 (hD d)⟩
theorem Ev.congr {α:Type} {g g':Nat→Out α} {F:Nat→Prop} {D:Prop} {Q:α→Prop} (h:Ev g F D Q) (e:∀ n,g' n = g n):Ev g' F D Q:=by
 obtain ⟨n,outs,r,h1,h2⟩:=h
 exact ⟨n,outs,r,(e n).trans h1,h2⟩
theorem Ev.shift {α:Type} {g:Nat→Out α} {F:Nat→Prop} {D:Prop} {Q:α→Prop} (h:Ev (fun n=>g (n + 1)) F D Q):Ev g F D Q:=by
 obtain ⟨n,outs,r,h1,h2⟩:=h
 exact ⟨n + 1,outs,r,h1,h2⟩
theorem Ev.one {α:Type} {x:α} {F:Nat→Prop} {D:Prop} {Q:α→Prop} (h:Q x):Ev (fun _=>one x) F D Q :=
 ⟨0,[x],0,rfl,fun p hp=>by rw [gk.1 hp]; exact h,fun k hk=>by simp at hk,fun _=>⟨x,rfl⟩⟩
theorem Ev.some {α:Type} {x:α} {r:Nat} {F:Nat→Prop} {D:Prop} {Q:α→Prop} (h:Q x) (hr:∀ k,r.testBit k = true→F k):Ev (fun _=>some ([x],r)) F D Q :=
 ⟨0,[x],r,rfl,fun p hp=>by rw [gk.1 hp]; exact h,hr,fun _=>⟨x,rfl⟩⟩
theorem agZ {α β:Type} {f:Nat→α→Out β} (hm:∀ a,Mono fun n=>f n a) {F:Nat→Prop} {D:Prop} {Q:β→Prop}:∀ (l:List α) (r0:Nat),(∀ k,r0.testBit k = true→F k)→(∀ a∈l,Ev (fun n=>f n a) F D Q)→(D→∃ p,l = [p]) →
  ∃ n outs r,vV (f n) l r0 = Option.some (outs,r)∧(∀ p∈outs,Q p)∧(∀ k,r.testBit k = true→F k)∧(D→∃ p,outs = [p])
 | [],r0,h0,_,hD=>⟨0,[],r0,rfl,by simp,h0,fun d=>by obtain ⟨p,hp⟩:=hD d; simp at hp⟩
 | a :: l,r0,h0,h,hD=>by
  obtain ⟨n1,o1,r1,e1,q1,f1,d1⟩:=h a List.mem_cons_self
  have hD':D→l = []:=fun d=>by obtain ⟨p,hp⟩:=hD d; cases hp; rfl
  have h1:∀ k,(Nat.lor r0 r1).testBit k = true→F k:=fun k hk=>by
   rw [iZ,zw] at hk
   exact hk.elim (h0 k) (f1 k)
  by_cases hl:l = []
  ·subst hl
   refine ⟨n1,o1,Nat.lor r0 r1,?_,q1,h1,d1⟩
   simp [vV,e1]
  ·obtain ⟨n2,o2,r2,e2,q2,f2,_⟩:=agZ (D:=False) hm l (Nat.lor r0 r1) h1 (fun b hb=>(h b (List.mem_cons_of_mem _ hb)).mono (fun _ h=>h) (fun h=>h.elim) (fun _ h=>h)) (fun h=>h.elim)
   refine ⟨max n1 n2,o1++o2,r2,?_,fun p hp=>(sk.1 hp).elim (q1 p) (q2 p),f2,fun d=>absurd (hD' d) hl⟩
   simp only [vV]
   rw [(hm a).le (Nat.le_max_left n1 n2) _ e1]
   simp only
   have:Up (vV (f n2) l (Nat.lor r0 r1)) (vV (f (max n1 n2)) l (Nat.lor r0 r1)):=LX l _ fun b _=>(hm b).le (Nat.le_max_right n1 n2)
   rw [this _ e2]
theorem Ev.bind {α β:Type} {g:Nat→Out α} {f:Nat→α→Out β} (hg:Mono g) (hm:∀ a,Mono fun n=>f n a) {F:Nat→Prop} {D:Prop} {Q:β→Prop} (h:Ev g F D fun a=>Ev (fun n=>f n a) F D Q):Ev (fun n=>p5 (g n) (f n)) F D Q:=by
 obtain ⟨n1,l,r0,e1,q1,f1,d1⟩:=h
 obtain ⟨n2,outs,r,e2,q2,f2,d2⟩:=agZ hm l r0 f1 q1 d1
 refine ⟨max n1 n2,outs,r,?_,q2,f2,d2⟩
 show p5 (g (max n1 n2)) (f (max n1 n2)) = _
 rw [hg.le (Nat.le_max_left n1 n2) _ e1]
 simp only [p5]
 have:Up (vV (f n2) l r0) (vV (f (max n1 n2)) l r0):=LX l _ fun b _=>(hm b).le (Nat.le_max_right n1 n2)
 exact this _ e2
section
variable (orc:bZ) (T:Tr RF)
def Wp (c:RC) (Γ:Tr V) (s:S) (F:Nat→Prop) (D:Prop) (Q:Ex→Tr V→S→Prop):Prop:=Ev (fun n=>exec orc T n c Γ s) F D fun p=>Q p.1 p.2.1 p.2.2
def Cp (f:FuncId) (args:List V) (s:S) (F:Nat→Prop) (D:Prop) (Q:V→S→Prop):Prop:=Ev (fun n=>j9 orc T n f args s) F D fun p=>Q p.1 p.2
def Op (ro:RO) (e:Opd→V) (s:S) (F:Nat→Prop) (D:Prop) (Q:V→S→Prop):Prop:=Ev (fun n=>opX (j9 orc T n) e s ro) F D fun p=>Q p.1 p.2
def Sq (os:List (ROp × Nat)) (Γ:Tr V) (s:S) (F:Nat→Prop) (D:Prop) (Q:Tr V→S→Prop):Prop:=Ev (fun n=>H9 (j9 orc T n) os Γ s) F D fun p=>Q p.1 p.2
end
section
variable {orc:bZ} {T:Tr RF} {Γ:Tr V} {s:S} {F:Nat→Prop} {D:Prop} {Q:Ex→Tr V→S→Prop}
theorem Wp.mono {c:RC} {F':Nat→Prop} {D':Prop} {Q':Ex→Tr V→S→Prop} (h:Wp orc T c Γ s F D Q) (hF:∀ k,F k→F' k) (hD:D'→D) (hQ:∀ e Γ s,Q e Γ s→Q' e Γ s):Wp orc T c Γ s F' D' Q':=Ev.mono h hF hD fun p=>hQ _ _ _
theorem Cp.mono {f:FuncId} {args:List V} {F':Nat→Prop} {D':Prop} {Q Q':V→S→Prop} (h:Cp orc T f args s F D Q) (hF:∀ k,F k→F' k) (hD:D'→D) (hQ:∀ v s,Q v s→Q' v s):Cp orc T f args s F' D' Q':=Ev.mono h hF hD fun p=>hQ _ _
theorem eW (h:Q .normal Γ s):Wp orc T .skip Γ s F D Q:=Ev.shift (Ev.one (x:=(Ex.normal,Γ,s)) h)
theorem pZ (h:Q .ret Γ s):Wp orc T .ret Γ s F D Q:=Ev.shift (Ev.one (x:=(Ex.ret,Γ,s)) h)
theorem ox {id:Nat} (h:Q (.exit id) Γ s):Wp orc T (.exit id) Γ s F D Q:=Ev.shift (Ev.one (x:=(Ex.exit id,Γ,s)) h)
def aQ (k:Tr V→S→Prop) (Q:Ex→Tr V→S→Prop):Ex→Tr V→S→Prop
 | .normal,Γ,s=>k Γ s
 | e,Γ,s=>Q e Γ s
theorem az {a b:RC} (h:Wp orc T a Γ s F D (aQ (fun Γ s=>Wp orc T b Γ s F D Q) Q)):Wp orc T (.seq a b) Γ s F D Q:=by
 refine Ev.shift (Ev.congr (Ev.bind (g:=fun n=>exec orc T n a Γ s) (f:=fun n (p:Ex × Tr V × S)=>match p.1 with
   | .normal=>exec orc T n b p.2.1 p.2.2
   | _=>one p) (Mono.exec orc T a Γ s) (fun p=>?_) (Ev.mono h (fun _ h=>h) (fun h=>h) fun p hp=>?_)) fun n=>tj orc T n (.seq a b) Γ s)
 ·obtain ⟨e,Γ',s'⟩:=p
  cases e
  ·exact Mono.exec orc T b Γ' s'
  ·exact Mono.const _
  ·exact Mono.const _
 ·obtain ⟨e,Γ',s'⟩:=p
  cases e
  ·exact hp
  ·exact Ev.one hp
  ·exact Ev.one hp
theorem bQ {q:Opd} {a b:RC} {t:Bool} (hb:isB (ev Γ q) = some t) (h:Wp orc T (bif t then a else b) Γ s F D Q):Wp orc T (.cond q a b) Γ s F D Q:=by
 refine Ev.shift (Ev.congr h fun n=>?_)
 rw [tj]
 simp only [hb]
 cases t <;> rfl
theorem dz {id:Nat} {b:RC} (h:Wp orc T b Γ s F D fun e Γ s=>match e with
  | .exit i=>bif Nat.beq i id then Q .normal Γ s else Q (.exit i) Γ s
  | e=>Q e Γ s):Wp orc T (.block id b) Γ s F D Q:=by
 refine Ev.shift (Ev.congr (Ev.bind (g:=fun n=>exec orc T n b Γ s) (f:=fun _ (p:Ex × Tr V × S)=>match p.1 with
   | .exit id'=>bif Nat.beq id' id then one (.normal,p.2.1,p.2.2) else one p
   | _=>one p) (Mono.exec orc T b Γ s) (fun p=>Mono.const _) (Ev.mono h (fun _ h=>h) (fun h=>h) fun p hp=>?_)) fun n=>tj orc T n (.block id b) Γ s)
 obtain ⟨e,Γ',s'⟩:=p
 cases e with
 | normal=>exact Ev.one hp
 | ret=>exact Ev.one hp
 | exit i =>
  simp only at hp ⊢
  cases hi:Nat.beq i id with
  | true=>rw [hi] at hp; exact Ev.one hp
  | false=>rw [hi] at hp; exact Ev.one hp
theorem acz {b:RC} (h:Wp orc T b Γ s F D (aQ (fun Γ s=>Wp orc T (.loop b) Γ s F D Q) Q)):Wp orc T (.loop b) Γ s F D Q:=by
 refine Ev.shift (Ev.congr (Ev.bind (g:=fun n=>exec orc T n b Γ s) (f:=fun n (p:Ex × Tr V × S)=>match p.1 with
   | .normal=>exec orc T n (.loop b) p.2.1 p.2.2
   | _=>one p) (Mono.exec orc T b Γ s) (fun p=>?_) (Ev.mono h (fun _ h=>h) (fun h=>h) fun p hp=>?_)) fun n=>tj orc T n (.loop b) Γ s)
 ·obtain ⟨e,Γ',s'⟩:=p
  cases e
  ·exact Mono.exec orc T _ Γ' s'
  ·exact Mono.const _
  ·exact Mono.const _
 ·obtain ⟨e,Γ',s'⟩:=p
  cases e
  ·exact hp
  ·exact Ev.one hp
  ·exact Ev.one hp
theorem uJ {b:RC} (I:Tr V→S→Prop) (m:Tr V→S→Nat) (hI:I Γ s) (h:∀ Γ s,I Γ s→Wp orc T b Γ s F D (aQ (fun Γ' s'=>I Γ' s'∧m Γ' s' < m Γ s) Q)):Wp orc T (.loop b) Γ s F D Q:=by
 have key:∀ n Γ s,m Γ s < n→I Γ s→Wp orc T (.loop b) Γ s F D Q:=by
  intro n
  induction n with
  | zero=>intro Γ s hn; omega
  | succ n ih =>
   intro Γ s hn hI
   refine acz (Wp.mono (h Γ s hI) (fun _ h=>h) (fun h=>h) fun e Γ' s' hq=>?_)
   cases e with
   | normal=>exact ih Γ' s' (by have:=hq.2; omega) hq.1
   | _=>exact hq
 exact key _ Γ s (Nat.lt_succ_self _) hI
theorem aq {os:List (ROp × Nat)} (h:Sq orc T os Γ s F D fun Γ s=>Q .normal Γ s):Wp orc T (.region none os) Γ s F D Q:=by
 refine Ev.shift (Ev.congr (Ev.bind (g:=fun n=>H9 (j9 orc T n) os Γ s) (f:=fun _ (p:Tr V × S)=>one (Ex.normal,p.1,p.2)) (fun n=>LV (t7 orc T n) _ _ _) (fun p=>Mono.const _) (Ev.mono h (fun _ h=>h) (fun h=>h) fun p hp=>Ev.one hp)) fun n=>tj orc T n (.region none os) Γ s)
theorem aX {Q:Tr V→S→Prop} (h:Q Γ s):Sq orc T [] Γ s F D Q:=Ev.one (x:=(Γ,s)) h
theorem P6 {o:ROp} {m:Nat} {os:List (ROp × Nat)} {Q:Tr V→S→Prop} (hw:ux Γ o.guard = some true) (h:Op orc T o.op (ev Γ) s F D fun v s'=>Sq orc T os (putO o.dst v Γ) s' F D Q):Sq orc T ((o,m) :: os) Γ s F D Q:=by
 have h1:Ev (fun n=>p4 (j9 orc T n) o Γ s) F D fun p=>Sq orc T os p.1 p.2 F D Q:=by
  refine Ev.congr (Ev.bind (g:=fun n=>opX (j9 orc T n) (ev Γ) s o.op) (f:=fun _ (p:V × S)=>one (putO o.dst p.1 Γ,p.2)) (fun n=>azj (t7 orc T n) _ _ _) (fun p=>Mono.const _) (Ev.mono h (fun _ h=>h) (fun h=>h) fun p hp=>Ev.one hp)) fun n=>?_
  simp only [p4,hw]
 refine Ev.congr (Ev.bind (g:=fun n=>p4 (j9 orc T n) o Γ s) (f:=fun n (p:Tr V × S)=>H9 (j9 orc T n) os p.1 p.2) (fun n=>F9 (t7 orc T n) _ _ _) (fun p n=>LV (t7 orc T n) _ _ _) (Ev.mono h1 (fun _ h=>h) (fun h=>h) fun p hp=>hp)) fun n=>rfl
theorem zY {o:ROp} {m:Nat} {os:List (ROp × Nat)} {Q:Tr V→S→Prop} (hw:ux Γ o.guard = some false) (h:Sq orc T os (putO o.dst B4 Γ) s F D Q):Sq orc T ((o,m) :: os) Γ s F D Q:=by
 have h1:Ev (fun n=>p4 (j9 orc T n) o Γ s) F D fun p=>Sq orc T os p.1 p.2 F D Q:=by
  refine Ev.congr (Ev.one (x:=(putO o.dst B4 Γ,s)) h) fun n=>?_
  simp only [p4,hw]
 refine Ev.congr (Ev.bind (g:=fun n=>p4 (j9 orc T n) o Γ s) (f:=fun n (p:Tr V × S)=>H9 (j9 orc T n) os p.1 p.2) (fun n=>F9 (t7 orc T n) _ _ _) (fun p n=>LV (t7 orc T n) _ _ _) (Ev.mono h1 (fun _ h=>h) (fun h=>h) fun p hp=>hp)) fun n=>rfl
theorem aMV {ro:RO} {e:Opd→V} {Q:V→S→Prop} {v:V} (hp:bJ e ro = some v) (h:Q v s):Op orc T ro e s F D Q:=by
 have hpl:ro.plainOp = true:=by cases ro <;> first | rfl | simp [bJ] at hp
 refine Ev.congr (Ev.one (x:=(v,s)) h) fun n=>?_
 rw [DY hpl,hp]
theorem aSq {ro:RO} {e:Opd→V} {Q:V→S→Prop} {v:V} {s':S} {r:Nat} (hn:bJ e ro = none) (hp:iq e s ro = some (v,s',r)) (hr:∀ k,r.testBit k = true→F k) (h:Q v s'):Op orc T ro e s F D Q:=by
 have hpl:ro.plainOp = true:=by cases ro <;> first | rfl | simp [iq] at hp
 refine Ev.congr (Ev.some (x:=(v,s')) h hr) fun n=>?_
 rw [DY hpl,hn,hp]
theorem aKZ {f:FuncId} {as:List Opd} {e:Opd→V} {Q:V→S→Prop} (h:Cp orc T f (as.map e) s F D Q):Op orc T (.call f as) e s F D Q:=h
theorem ayK {x:Opd} {f:FuncId} {caps:List X} {as:List Opd} {e:Opd→V} {Q:V→S→Prop} (hx:e x = .c (.fn f caps)) (h:Cp orc T f (as.map e++caps.map .c) s F D Q):Op orc T (.callv x as) e s F D Q:=by
 refine Ev.congr h fun n=>?_
 simp only [opX,hx]
theorem k8 {f:FuncId} {args:List V} {rf:RF} {Q:V→S→Prop} (hf:T.get f = some rf)
  (h:Wp orc T rf.code (ofL args 0 .lf) s F D fun e Γ s=>(e = .normal∨e = .ret)∧∃ vs r,tK Γ s rf.res = some (vs,r)∧(∀ k,r.testBit k = true→F k)∧Q (PJ vs) s):Cp orc T f args s F D Q:=by
 refine Ev.congr (Ev.bind (g:=fun n=>exec orc T n rf.code (ofL args 0 .lf) s) (f:=fun _ (p:Ex × Tr V × S)=>match p.1 with
   | .normal | .ret=>PW rf.res p.2.1 p.2.2
   | .exit _=>none) (Mono.exec orc T _ _ _) (fun p=>Mono.const _) (Ev.mono h (fun _ h=>h) (fun h=>h) fun p hp=>?_)) fun n=>?_
 ·obtain ⟨he,vs,r,h1,h2,h3⟩:=hp
  have:(fun _:Nat=>(match p.1 with
   | .normal | .ret=>PW rf.res p.2.1 p.2.2
   | .exit _=>none:Out (V × S))) = fun _=>some ([(PJ vs,p.2.2)],r):=by
   funext _
   rcases he with he | he <;> simp only [he,PW,h1]
  rw [this]
  exact Ev.some h3 h2
 ·simp only [j9,hf]
  exact congrArg _ (funext fun p=>by cases p.1 <;> rfl)
theorem Q2 {f:FuncId} {args:List V} {outs:List (V × S)} {r:Nat} {Q:V→S→Prop} (hf:T.get f = none) (ho:orc f args s = some (outs,r)) (hr:∀ k,r.testBit k = true→F k) (hD:D→∃ p,outs = [p]) (h:∀ p∈outs,Q p.1 p.2):Cp orc T f args s F D Q :=
 ⟨0,outs,r,by simp only [j9,hf,ho],h,hr,hD⟩
end
end Go.RM
namespace Go.RM
section
variable (orc:bZ) (T:Tr RF)
end
section
variable {orc:bZ} {T:Tr RF} {Γ:Tr V} {s:S} {F:Nat→Prop} {D:Prop}
end
theorem cq (d:Nat) (v:V) (Γ:Tr V) (t:Nat):look (putO (some d) v Γ) t = if d = t then v else look Γ t:=by
 have:=congrFun (K4 (some d) v Γ) t
 rw [this]
 simp [R8]
theorem Dq (v:V) (Γ:Tr V) (t:Nat):look (putO none v Γ) t = look Γ t:=rfl
theorem kq (Γ:Tr V) (t:Nat):ev Γ (.tmp t) = look Γ t:=rfl
theorem aSX (Γ:Tr V) (x:V):ev Γ (.con x) = x:=rfl
theorem aSY (Γ:Tr V) (f:FuncId):ev Γ (.fn f) = .c (.fn f []):=rfl
end Go.RM
namespace Go.RM
structure Fp where
 i:Nat
 R:Nat→Prop
 W:Nat→Prop
def apO (b:Nat) (x:Fp) (R W:Nat→Prop):Prop:=Nat.testBit b x.i = true∨∀ k,¬ (x.W k∧R k)∧¬ (W k∧x.R k)∧¬ (x.W k∧W k)
def azX (b i tr tw tr' tw':Nat):Bool:=Nat.testBit b i || (Nat.beq (Nat.land tw tr') 0 && (Nat.beq (Nat.land tw' tr) 0 && Nat.beq (Nat.land tw tw') 0))
def GQ:List (ROp × Nat)→List Nat→Nat→List (Nat × Nat × Nat)→Bool
 | [],_,_,_=>true
 | _ :: _,[],_,_=>false
 | o :: os,b :: tab,i,ds=>ds.all (fun x=>azX b x.1 x.2.1 x.2.2 o.2 (rK o.1.dst)) && GQ os tab (i + 1) (ds++[(i,o.2,rK o.1.dst)])
def bits (r:Nat):Nat→Prop:=fun k=>r.testBit k = true
section
variable {orc:bZ} {T:Tr RF} {F:Nat→Prop} {D:Prop}
def Cov (ds:List Fp) (sl:List (Nat × Nat × Nat)) (cs:List Did):Prop :=
 sl = cs.map (fun d=>(d.i,d.tr,d.tw))∧∀ c∈cs,(c.r = 0∧c.w = 0)∨∃ d∈ds,d.i = c.i∧(∀ k,c.r.testBit k = true→d.R k)∧(∀ k,c.w.testBit k = true→d.W k)
theorem AQ {a b:Nat} (h:∀ k,¬ (a.testBit k = true∧b.testBit k = true)):Nat.beq (Nat.land a b) 0 = true:=by
 have:Nat.land a b = 0:=by
  apply Nat.eq_of_testBit_eq
  intro k
  show (a &&& b).testBit k = _
  rw [Nat.testBit_and,Nat.zero_testBit]
  cases ha:a.testBit k with
  | false=>rfl
  | true =>
   cases hb:b.testBit k with
   | false=>rfl
   | true=>exact absurd ⟨ha,hb⟩ (h k)
 rw [this]; rfl
theorem NZ {ds:List Fp} {sl:List (Nat × Nat × Nat)} {cs:List Did} (hc:Cov ds sl cs) {b tr tw:Nat} (hs:sl.all (fun x=>azX b x.1 x.2.1 x.2.2 tr tw) = true) {R W:Nat→Prop} (ho:∀ x∈ds,apO b x R W) {y:Did} (ht:y.tr = tr) (hw:y.tw = tw) (hr:∀ k,y.r.testBit k = true→R k) (hww:∀ k,y.w.testBit k = true→W k):cs.all (fun x=>CJ b x y) = true:=by
 rw [tk]
 intro c hcm
 rw [hc.1,List.all_map,tk] at hs
 have h1:=hs c hcm
 simp only [Function.comp,azX] at h1
 unfold CJ
 rw [ht,hw]
 cases hb:Nat.testBit b c.i with
 | true=>rfl
 | false =>
  rw [hb,Bool.false_or] at h1
  simp only [fk] at h1
  rw [Bool.false_or,h1.1,h1.2.1,h1.2.2,Bool.true_and,Bool.true_and,Bool.true_and]
  rcases hc.2 c hcm with ⟨hr0,hw0⟩ | ⟨d,hd,hi,hdr,hdw⟩
  ·rw [hr0,hw0]
   rw [AQ (a:=0) (fun k h=>by simp at h),AQ (b:=0) (fun k h=>by simp at h),AQ (a:=0) (fun k h=>by simp at h)]
   rfl
  ·rcases ho d hd with e | e
   ·rw [hi,hb] at e; simp at e
   ·rw [AQ (fun k h=>(e k).1 ⟨hdw k h.1,hr k h.2⟩),AQ (fun k h=>(e k).2.1 ⟨hww k h.1,hdr k h.2⟩),AQ (fun k h=>(e k).2.2 ⟨hdw k h.1,hww k h.2⟩)]
    rfl
theorem Cov.snoc {ds:List Fp} {sl:List (Nat × Nat × Nat)} {cs:List Did} (hc:Cov ds sl cs) {y:Did} {R W:Nat→Prop} (hr:∀ k,y.r.testBit k = true→R k) (hw:∀ k,y.w.testBit k = true→W k):Cov (ds++[⟨y.i,R,W⟩]) (sl++[(y.i,y.tr,y.tw)]) (cs++[y]):=by
 refine ⟨by rw [hc.1,List.map_append]; rfl,fun c h=>?_⟩
 rcases sk.1 h with h | h
 ·rcases hc.2 c h with h | ⟨d,hd,h⟩
  ·exact .inl h
  ·exact .inr ⟨d,List.mem_append_left _ hd,h⟩
 ·rw [gk.1 h]
  exact .inr ⟨_,List.mem_append_right _ (gk.2 rfl),rfl,hr,hw⟩
theorem Cov.pure {ds:List Fp} {sl:List (Nat × Nat × Nat)} {cs:List Did} (hc:Cov ds sl cs) {y:Did} (hr:y.r = 0) (hw:y.w = 0):Cov ds (sl++[(y.i,y.tr,y.tw)]) (cs++[y]):=by
 refine ⟨by rw [hc.1,List.map_append]; rfl,fun c h=>?_⟩
 rcases sk.1 h with h | h
 ·exact hc.2 c h
 ·rw [gk.1 h]; exact .inl ⟨hr,hw⟩
theorem Nq {call:bZ} {o:ROp} {Γ:Tr V} {s:S} {v:V} {s':S} {r:Nat} (hw:ux Γ o.guard = some true) (h:opX call (ev Γ) s o.op = some ([(v,s')],r)):∃ r',p4 call o Γ s = some ([(putO o.dst v Γ,s')],r')∧∀ k,r'.testBit k = true→r.testBit k = true:=by
 refine ⟨Nat.lor r 0,?_,fun k hk=>?_⟩
 ·simp only [p4,hw,h,p5,vV,one]
  rfl
 ·rw [iZ,zw] at hk
  rcases hk with h | h
  ·exact h
  ·simp at h
def Dr (orc:bZ) (T:Tr RF) (F:Nat→Prop) (D:Prop) (os:List (ROp × Nat)) (tab:List Nat) (i:Nat) (ds:List Fp) (Γ:Tr V) (s:S) (k:Tr V→S→Prop):Prop :=
 ∀ (sl:List (Nat × Nat × Nat)) (cs:List Did) (r:Nat),GQ os tab i sl = true→Cov ds sl cs→(∀ j,r.testBit j = true→F j)→Ev (fun n=>vZ (j9 orc T n) os tab i cs Γ s r) F D fun p=>k p.1 p.2
section
variable {os:List (ROp × Nat)} {o:ROp × Nat} {b:Nat} {tab:List Nat} {i:Nat} {ds:List Fp} {Γ:Tr V} {s:S} {k:Tr V→S→Prop}
theorem wz (h:k Γ s):Dr orc T F D [] tab i ds Γ s k:=fun sl cs r _ _ hr=>⟨0,[(Γ,s)],r,by simp only [vZ],fun p hp=>by rw [gk.1 hp]; exact h,hr,fun _=>⟨_,rfl⟩⟩
theorem Y2 {sl:List (Nat × Nat × Nat)} {cs:List Did} {r:Nat} (hs:GQ (o :: os) (b :: tab) i sl = true) (hr:∀ j,r.testBit j = true→F j) {v:V} {s':S} {r1 n1:Nat} {ds':List Fp} (h1:p4 (j9 orc T n1) o.1 Γ { s with w:=0 } = some ([(putO o.1.dst v Γ,s')],r1)) (hr1:∀ j,r1.testBit j = true→F j)
  (hap:cs.all (fun x=>CJ b x ⟨i,o.2,rK o.1.dst,r1,s'.w⟩) = true) (hcov:Cov ds' (sl++[(i,o.2,rK o.1.dst)]) (cs++[⟨i,o.2,rK o.1.dst,r1,s'.w⟩])) (hk:Dr orc T F D os tab (i + 1) ds' (putO o.1.dst v Γ) { s' with w:=Nat.lor s.w s'.w } k) :
  Ev (fun n=>vZ (j9 orc T n) (o :: os) (b :: tab) i cs Γ s r) F D fun p=>k p.1 p.2:=by
 simp only [GQ,fk] at hs
 obtain ⟨n2,outs,r2,e2,q2,f2,d2⟩:=hk _ _ (Nat.lor r r1) hs.2 hcov (fun j hj=>by
  rw [iZ,zw] at hj
  exact hj.elim (hr j) (hr1 j))
 refine ⟨max n1 n2,outs,r2,?_,q2,f2,d2⟩
 have m1:p4 (j9 orc T (max n1 n2)) o.1 Γ { s with w:=0 } = some ([(putO o.1.dst v Γ,s')],r1) :=
  (Mono.le (g:=fun n=>p4 (j9 orc T n) o.1 Γ { s with w:=0 }) (fun n=>F9 (t7 orc T n) _ _ _) (Nat.le_max_left n1 n2)) _ h1
 have m2:=(Mono.le (g:=fun n=>vZ (j9 orc T n) os tab (i + 1) (cs++[⟨i,o.2,rK o.1.dst,r1,s'.w⟩]) (putO o.1.dst v Γ) { s' with w:=Nat.lor s.w s'.w } (Nat.lor r r1)) (fun n=>L9 (t7 orc T n) _ _ _ _ _ _ _) (Nat.le_max_right n1 n2)) _ e2
 simp only [vZ,m1,hap,cond_true]
 exact m2
theorem aLQ {v:V} (h1:∃ r n,p4 (j9 orc T n) o.1 Γ { s with w:=0 } = some ([(putO o.1.dst v Γ,{ s with w:=0 })],r)∧r = 0) (h:Dr orc T F D os tab (i + 1) ds (putO o.1.dst v Γ) s k):Dr orc T F D (o :: os) (b :: tab) i ds Γ s k:=by
 intro sl cs r hs hc hr
 obtain ⟨r1,n1,h1,rfl⟩:=h1
 have hs':=hs
 simp only [GQ,fk] at hs'
 refine Y2 hs hr h1 (fun j hj=>by simp at hj) (NZ hc hs'.1 (R:=fun _=>False) (W:=fun _=>False) (fun x _=>.inr fun j=>⟨fun h=>h.2,fun h=>h.1,fun h=>h.2⟩) rfl rfl (fun j hj=>by simp at hj) (fun j hj=>by simp at hj)) (hc.pure (y:=⟨i,o.2,rK o.1.dst,0,0⟩) rfl rfl) ?_
 have:Nat.lor s.w 0 = s.w:=Nat.or_zero _
 show Dr orc T F D os tab (i + 1) ds (putO o.1.dst v Γ) { s with w:=Nat.lor s.w 0 } k
 rw [this]; exact h
theorem aiV {call:bZ} {o:ROp} {Γ:Tr V} {s:S} {v:V} {s':S} (hw:ux Γ o.guard = some true) (h:opX call (ev Γ) s o.op = some ([(v,s')],0)):p4 call o Γ s = some ([(putO o.dst v Γ,s')],0):=by
 obtain ⟨r1,h1,h2⟩:=Nq hw h
 have hz:r1 = 0:=Nat.eq_of_testBit_eq fun j=>by
  cases hj:r1.testBit j with
  | false=>simp
  | true=>have:=h2 j hj; simp at this
 rw [← hz]; exact h1
theorem uX {v:V} (hw:ux Γ o.1.guard = some true) (hp:bJ (ev Γ) o.1.op = some v) (h:Dr orc T F D os tab (i + 1) ds (putO o.1.dst v Γ) s k):Dr orc T F D (o :: os) (b :: tab) i ds Γ s k:=by
 have hpl:o.1.op.plainOp = true:=by cases ho:o.1.op <;> rw [ho] at hp <;> first | rfl | simp [bJ] at hp
 exact aLQ ⟨0,0,aiV hw (by rw [DY hpl,hp]; rfl),rfl⟩ h
theorem azZ {f:FuncId} {args:List V} (R W:Nat→Prop) (hw:ux Γ o.1.guard = some true) (hX:∀ n,opX (j9 orc T n) (ev Γ) { s with w:=0 } o.1.op = j9 orc T n f args { s with w:=0 }) (hF:∀ j,R j→F j) (ha:∀ x∈ds,apO b x R W)
  (hC:Cp orc T f args { s with w:=0 } R True fun v s'=>(∀ j,s'.w.testBit j = true→W j)∧Dr orc T F D os tab (i + 1) (ds++[⟨i,R,W⟩]) (putO o.1.dst v Γ) { s' with w:=Nat.lor s.w s'.w } k):Dr orc T F D (o :: os) (b :: tab) i ds Γ s k:=by
 intro sl cs r hs hc hr
 have hs':=hs
 simp only [GQ,fk] at hs'
 obtain ⟨n1,outs,r1,e1,q1,f1,d1⟩:=hC
 obtain ⟨⟨v,s'⟩,rfl⟩:=d1 trivial
 obtain ⟨hW,hk⟩:=q1 _ (gk.2 rfl)
 obtain ⟨r1',h1,h2⟩:=Nq (v:=v) (s':=s') (r:=r1) hw ((hX n1).trans e1)
 exact Y2 hs hr h1 (fun j hj=>hF j (f1 j (h2 j hj))) (NZ hc hs'.1 ha rfl rfl (fun j hj=>f1 j (h2 j hj)) hW) (hc.snoc (y:=⟨i,o.2,rK o.1.dst,r1',s'.w⟩) (fun j hj=>f1 j (h2 j hj)) hW) hk
theorem aIK {d:Option Nat} {g:Option (Nat × Bool)} {m:Nat} {f:FuncId} {as:List Opd} {args:List V} (R W:Nat→Prop) (hw:ux Γ g = some true) (hargs:as.map (ev Γ) = args) (hF:∀ j,R j→F j) (ha:∀ x∈ds,apO b x R W)
  (hC:Cp orc T f args { s with w:=0 } R True fun v s'=>(∀ j,s'.w.testBit j = true→W j)∧Dr orc T F D os tab (i + 1) (ds++[⟨i,R,W⟩]) (putO d v Γ) { s' with w:=Nat.lor s.w s'.w } k):Dr orc T F D ((⟨d,.call f as,g⟩,m) :: os) (b :: tab) i ds Γ s k:=by
 subst hargs
 exact azZ (o:=(⟨d,.call f as,g⟩,m)) R W hw (fun n=>rfl) hF ha hC
end
theorem aqK {d:Option Nat} {g:Option (Nat × Bool)} {m:Nat} {f:FuncId} {as:List Opd} {args:List V} {os:List (ROp × Nat)} {Γ:Tr V} {s:S} {Q:Tr V→S→Prop} (hw:ux Γ g = some true) (hargs:as.map (ev Γ) = args) (h:Cp orc T f args s F D fun v s'=>Sq orc T os (putO d v Γ) s' F D Q):Sq orc T ((⟨d,.call f as,g⟩,m) :: os) Γ s F D Q:=by
 subst hargs
 exact P6 hw (aKZ h)
theorem dq {o:ROp} {m:Nat} {os:List (ROp × Nat)} {Γ:Tr V} {s:S} {Q:Tr V→S→Prop} {v:V} (hw:ux Γ o.guard = some true) (hp:bJ (ev Γ) o.op = some v) (h:Sq orc T os (putO o.dst v Γ) s F D Q):Sq orc T ((o,m) :: os) Γ s F D Q:=P6 hw (aMV hp h)
theorem aRZ {o:ROp} {m:Nat} {os:List (ROp × Nat)} {Γ:Tr V} {s s':S} {Q:Tr V→S→Prop} {v:V} {r:Nat} (hw:ux Γ o.guard = some true) (hn:bJ (ev Γ) o.op = none) (hp:iq (ev Γ) s o.op = some (v,s',r)) (hr:∀ k,r.testBit k = true→F k) (h:Sq orc T os (putO o.dst v Γ) s' F D Q):Sq orc T ((o,m) :: os) Γ s F D Q:=P6 hw (aSq hn hp hr h)
theorem sj {os:List (ROp × Nat)} {tab:List Nat} {Γ:Tr V} {s:S} {Q:Ex→Tr V→S→Prop} (hs:GQ os tab 0 [] = true) (h:Dr orc T F D os tab 0 [] Γ s fun Γ s=>Q .normal Γ s):Wp orc T (.region (some tab) os) Γ s F D Q:=by
 refine Ev.shift (Ev.congr (Ev.bind (g:=fun n=>vZ (j9 orc T n) os tab 0 [] Γ s 0) (f:=fun _ (p:Tr V × S)=>one (Ex.normal,p.1,p.2)) (fun n=>L9 (t7 orc T n) _ _ _ _ _ _ _) (fun p=>Mono.const _) (Ev.mono (h [] [] 0 hs ⟨rfl,fun c h=>by simp at h⟩ (fun j hj=>by simp at hj)) (fun _ h=>h) (fun h=>h) fun p hp=>Ev.one hp)) fun n=>tj orc T n (.region (some tab) os) Γ s)
end
end Go.RM
namespace Go.RM
open Go.VM (Pt Fr T RepT RepC Fun aZ lZ pV kX Oid Lies)
section
variable {w0 w w':World} {φ:Ren} {h h':Hp}
theorem Rel.later (R:Rel w0 φ h w) (hfr:Fr w w' fun _=>False):Rel w0 φ h w' :=
 ⟨fun n o hn=>(R.rep n o hn).keep (Ren.le_refl φ) (fun b _ hb=>hfr.block b (R.lt n b hb) id) (fun m _ _ b _ hb=>hfr.block b (R.lt m b hb) id),R.inj,R.old,R.iters,R.dom,
  fun n b hb=>vw (R.lt n b hb) hfr.size,R.fr.trans hfr (fun _ _ h=>h),R.w0e,R.okl,fun D o hD=>⟨(hfr.block D (nw.1 (R.fz D o hD).1).1 id).trans (R.fz D o hD).1,(R.fz D o hD).2⟩⟩
theorem TreeX.mono {fresh:Bool} {x:X} {t:T} (hh:∀ n o,h n = some o→h' n = some o) (ht:TreeX h fresh x t):TreeX h' fresh x t:=by
 induction ht with
 | sc v=>exact .sc v
 | nil k=>exact .nil k
 | es k=>exact .es k
 | ez k=>exact .ez k
 | im k rows hf=>exact .im k rows hf
 | im0 k k'=>exact .im0 k k'
 | sl0 n k off k'=>exact .sl0 n k off k'
 | sl n k off rows e cs xs hn hcut hk hl _ ih=>exact .sl n k off rows e cs xs (hh _ _ hn) hcut hk hl ih
theorem Pt.imp {α β:Type} {r r':α→β→Prop} (h:∀ a b,r a b→r' a b) {xs:List α} {ys:List β} (hp:Pt r xs ys):Pt r' xs ys:=⟨hp.1,fun j a b ha hb=>h a b (hp.2 j a b ha hb)⟩
theorem TreeS.mono {fresh:Bool} {x:V} {t:Go.VM.V} (hh:∀ n o,h n = some o→h' n = some o) (ht:TreeS h fresh x t):TreeS h' fresh x t:=by
 cases x <;> cases t <;> simp only [TreeS] at ht ⊢
 case c.c x y =>
  cases y <;> simp only at ht ⊢
  exact ht.mono hh
 case agg.agg xs ys=>exact Pt.imp (fun a b ⟨t,e,ht⟩=>⟨t,e,ht.mono hh⟩) ht
theorem TreeV.mono {fresh:Bool} {x:V} {t:Go.VM.V} (hh:∀ n o,h n = some o→h' n = some o) (ht:TreeV h fresh x t):TreeV h' fresh x t:=by
 unfold TreeV at ht ⊢
 split at ht
 ·exact Pt.imp (fun a b=>TreeS.mono hh) ht
 ·exact TreeS.mono hh ht
end
def aCK:Go.VM.V→Option V
 | .c (.imm (.sc v))=>some (.c (.sc v))
 | _=>none
def toR:Go.VM.V→Option V
 | .tup ys=>(ys.mapM aCK).map .tup
 | y=>aCK y
theorem afX {w:World} {ok:Nat→Prop} {B:Oid→Value} {φ:Ren} {v:Value} {y:Go.VM.V} {x:V} (h:Go.VM.RepS w ok B v y) (hx:aCK y = some x):RepS φ v x:=by
 unfold aCK at hx
 split at hx
 ·cases hx
  cases h with
  | imm _ _ hrt => cases hrt with | sc _ h1 => exact RepX.sc _ h1
 ·simp at hx
theorem aMY {w:World} {ok:Nat→Prop} {B:Oid→Value} {φ:Ren} {v:Value} {y:Go.VM.V} {x:V} (h:Go.VM.RepV w ok B v y) (hx:toR y = some x):RepV φ v x:=by
 unfold toR at hx
 split at hx
 ·rename_i ys
  obtain ⟨xs,hxs,rfl⟩:=aw.1 hx
  obtain ⟨vs,rfl,hp⟩:=h
  refine ⟨vs,rfl,?_⟩
  have key:∀ (ys:List Go.VM.V) (xs:List V) (us:List Value),ys.mapM aCK = some xs→Pt (Go.VM.RepS w ok B) us ys→Pt (RepS φ) us xs:=by
   intro ys
   induction ys with
   | nil =>
    intro xs us h1 h2
    simp at h1; subst h1
    have:us = []:=jk (by have:=h2.1; simpa using this)
    subst this
    exact Go.VM.Pt.nil
   | cons y ys ih =>
    intro xs us h1 h2
    cases us with
    | nil=>have:=h2.1; simp at this
    | cons u us =>
     simp only [List.mapM_cons,Option.bind_eq_bind,Option.pure_def,ak] at h1
     obtain ⟨x1,g1,xs1,g2,g3⟩:=h1
     cases g3
     exact Go.VM.Pt.cons (afX (h2.2 0 u y rfl rfl) g1) (ih _ _ g2 ⟨by have:=h2.1; simpa using this,fun j u z hu hz=>h2.2 (j + 1) u z (by simpa using hu) (by simpa using hz)⟩)
  exact key _ _ _ hxs hp
 ·rename_i hne
  have h1:Go.VM.RepS w ok B v y:=by
   cases y with
   | tup ys=>exact absurd rfl (hne ys)
   | c _=>exact h
   | agg _=>exact h
   | junk=>exact h
  have h2:=afX (φ:=φ) h1 hx
  cases x with
  | tup xs=>exact h2.elim
  | c _=>exact h2
  | agg _=>exact h2
  | junk=>exact h2
structure W1 (P:Program) (f:FuncId) (args:List V) (s:S) (mask:Nat) (res:V):Prop where
 fn : ∃ fn, P.funcs[f]? = some fn ∧ fn.body.isSome = true ∧ (fn.name == "runtime.NumGoroutine") = false
 run:∃ vs r fresh,Pt (TreeV (fun n=>bif mask.testBit n then s.h.get n else none) false) args vs∧Fun P f fresh [] vs aZ r aZ∧toR r = some res
def IZ (K:FuncId→List V→S→Option (V × Nat)):bZ:=fun f args s=>(K f args s).map fun p=>([(p.1,s)],p.2)
theorem Dj (K:FuncId→List V→S→Option (V × Nat)):fq (IZ K):=by
 intro f args s outs r h g hi p hp
 obtain ⟨q,_,e⟩:=aw.1 h
 cases e
 rw [gk.1 hp]; exact hi
theorem aiW {w0 w:World} {φ:Ren} {h:Hp} {fresh:Bool} {B:Oid→Value} (R:Rel w0 φ h w) {vs:List Value} {xs:List V} {ys:List Go.VM.V} (hx:Pt (RepV φ) vs xs) (ht:Pt (TreeV h fresh) xs ys):Pt (Go.VM.RepV w (pV fresh w0.heap.size φ.ok w B aZ) B) vs ys:=by
 refine ⟨hx.1.trans ht.1,fun j u c hu hc=>?_⟩
 have hlt:j < vs.length:=(cw.1 hu).1
 have hlt':j < xs.length:=hx.1 ▸ hlt
 exact NJ R (hx.2 j u _ hu (ck hlt')) (ht.2 j _ c (ck hlt') hc)
theorem F0 {P:Program} {K:FuncId→List V→S→Option (V × Nat)} (hK:∀ f args s res mask,K f args s = some (res,mask)→W1 P f args s mask res):∀ w0,jY P w0 (IZ K):=by
 intro w0 f args s outs r h
 obtain ⟨⟨res,mask⟩,hq,e⟩:=aw.1 h
 cases e
 obtain ⟨hfn,vs',y,fresh,hargs,hfun,hres⟩:=hK f args s res mask hq
 refine ⟨hfn,fun g h2 φ w vs hr hi R hp=>?_⟩
 have hargs':Pt (TreeV (d7 h2 s) false) args vs':=Pt.imp (fun a b=>TreeV.mono fun n o hn=>by
  cases hm:mask.testBit n with
  | false=>rw [hm] at hn; simp at hn
  | true =>
   rw [hm] at hn
   simp only [cond_true] at hn
   unfold d7
   cases hw:s.w.testBit n with
   | true=>exact hn
   | false =>
    simp only [cond_false]
    rw [hr n hm,← hi n hw]; exact hn) hargs
 have hrep:=aiW (B:=fun _=>undef) R hp hargs'
 refine (hfun w _ (fun _=>undef) vs (fun b hb=>hb.1.1) (fun b _ ⟨o,ob,ho,_⟩=>by simp [aZ] at ho) hrep ⟨fun o ob ho=>by simp [aZ] at ho,fun o o' ob ob' b ho=>by simp [aZ] at ho⟩).mono fun e w' hh=>?_
 obtain ⟨v,B',rfl,hfr,hv,_⟩:=hh
 have hfr':Fr w w' fun _=>False:=⟨hfr.os,hfr.tape,hfr.output,hfr.size,fun b hb _=>hfr.block b hb (fun ⟨o,ob,ho,_⟩=>by simp [aZ] at ho)⟩
 exact ⟨v,rfl,(res,s),gk.2 rfl,φ,Ren.le_refl φ,R.later hfr',aMY hv hres⟩
theorem KZ {K:FuncId→List V→S→Option (V × Nat)} {T:Tr RF} {f:FuncId} {args:List V} {s:S} {F:Nat→Prop} {D:Prop} {Q:V→S→Prop} {res:V} {mask:Nat} (hf:T.get f = none) (hk:K f args s = some (res,mask)) (hF:∀ k,mask.testBit k = true→F k) (h:Q res s):Cp (IZ K) T f args s F D Q :=
 Q2 (outs:=[(res,s)]) (r:=mask) hf (by unfold IZ; rw [hk]; rfl) hF (fun _=>⟨_,rfl⟩) fun p hp=>by rw [gk.1 hp]; exact h
end Go.RM
namespace Go.RM
open Go.VM (T mV)
def tW (s:S) (n:Nat) (o:O):S:={ s with h:=s.h.set n o,w:=Nat.lor s.w (bit n) }
def y6 (s:S) (o:O):S:={ h:=s.h.set s.c o,c:=s.c + 1,w:=Nat.lor s.w (bit s.c) }
structure Sb (b:Nat) (s:S):Prop where
 le:b≤s.c
 free:∀ k,s.c≤k→s.h.get k = none
 own:∀ k,s.w.testBit k = true→b≤k∧k < s.c
structure St (s s1:S) (n:Nat) (o:O):Prop where
 self:s1.h.get n = some o
 keep:∀ k,k ≠ n→s1.h.get k = s.h.get k
theorem St.at {s s1:S} {n k:Nat} {o o':O} (h:St s s1 n o) (hk:s.h.get k = some o') (hne:k ≠ n):s1.h.get k = some o':=(h.keep k hne).trans hk
theorem Sb.lt {b k:Nat} {s:S} {o:O} (h:Sb b s) (hk:s.h.get k = some o):k < s.c:=by
 rcases Nat.lt_or_ge k s.c with h1 | h1
 ·exact h1
 ·rw [h.free k h1] at hk; simp at hk
theorem D2 (s:S) (n:Nat) (o:O):St s (tW s n o) n o:=⟨by simp [tW,Tr.get_set],fun k hk=>by simp [tW,Tr.get_set,hk]⟩
theorem CK (s:S) (o:O):St s (y6 s o) s.c o:=⟨by simp [y6,Tr.get_set],fun k hk=>by simp [y6,Tr.get_set,hk]⟩
theorem Sb.put {b n:Nat} {s:S} (h:Sb b s) (hb:b≤n) (hn:n < s.c) (o:O):Sb b (tW s n o) :=
 ⟨h.le,fun k hk=>by rw [(D2 s n o).keep k (by have:s.c≤k:=hk; omega)]; exact h.free k hk,fun k hk=>by
  simp only [tW,iZ,pz,zw,ow] at hk
  rcases hk with hk | rfl
  ·exact h.own k hk
  ·exact ⟨hb,hn⟩⟩
theorem Sb.new {b:Nat} {s:S} (h:Sb b s) (o:O):Sb b (y6 s o) :=
 ⟨Nat.le_succ_of_le h.le,fun k hk=>by have hk:s.c + 1≤k:=hk; rw [(CK s o).keep k (by omega)]; exact h.free k (by omega),fun k hk=>by
  simp only [y6,iZ,pz,zw,ow] at hk
  rcases hk with hk | rfl
  ·exact ⟨(h.own k hk).1,Nat.lt_succ_of_lt (h.own k hk).2⟩
  ·exact ⟨h.le,Nat.lt_succ_self _⟩⟩
def MS (e:Opd→V) (s:S) (op:RO) (v:V) (s':S) (R W:Nat→Prop):Prop :=
 ∃ r wm,bJ e op = none∧(∀ w0,iq e { s with w:=w0 } op = some (v,{ s' with w:=Nat.lor w0 wm },r))∧s'.w = Nat.lor s.w wm∧(∀ k,r.testBit k = true→R k)∧(∀ k,wm.testBit k = true→W k)
theorem uz (w:Nat):Nat.lor w 0 = w:=Nat.or_zero w
theorem T4 (a b c:Nat):Nat.lor (Nat.lor a b) c = Nat.lor a (Nat.lor b c):=Nat.or_assoc a b c
theorem MS.plain {e:Opd→V} {s s':S} {op:RO} {v:V} {R W:Nat→Prop} (h:MS e s op v s' R W):op.plainOp = true:=by
 obtain ⟨r,wm,_,h2,_⟩:=h
 have h2:=h2 0
 cases op <;> first | rfl | simp [iq] at h2
theorem MS.one {e:Opd→V} {s s':S} {op:RO} {v:V} {R W:Nat→Prop} (h:MS e s op v s' R W):∃ r,bJ e op = none∧iq e s op = some (v,s',r)∧∀ k,r.testBit k = true→R k:=by
 obtain ⟨r,wm,h1,h2,h3,h4,_⟩:=h
 refine ⟨r,h1,?_,h4⟩
 have:=h2 s.w
 rw [← h3] at this
 exact this
section
variable {orc:bZ} {T:Tr RF} {F:Nat→Prop} {D:Prop}
theorem oY {d:Option Nat} {op:RO} {g:Option (Nat × Bool)} {m:Nat} {os:List (ROp × Nat)} {Γ:Tr V} {s s':S} {Q:Tr V→S→Prop} {v:V} {R W:Nat→Prop} (hw:ux Γ g = some true) (h:MS (ev Γ) s op v s' R W) (hF:∀ k,R k→F k) (hk:Sq orc T os (putO d v Γ) s' F D Q):Sq orc T ((⟨d,op,g⟩,m) :: os) Γ s F D Q:=by
 obtain ⟨r,h1,h2,h3⟩:=h.one
 exact aRZ (o:=⟨d,op,g⟩) hw h1 h2 (fun k hk=>hF k (h3 k hk)) hk
theorem aTY {o:ROp × Nat} {os:List (ROp × Nat)} {b:Nat} {tab:List Nat} {i:Nat} {ds:List Fp} {Γ:Tr V} {s s':S} {k:Tr V→S→Prop} {v:V} {R W:Nat→Prop} (hw:ux Γ o.1.guard = some true) (h:MS (ev Γ) s o.1.op v s' R W) (hF:∀ k,R k→F k) (ha:∀ x∈ds,apO b x R W)
  (hk:Dr orc T F D os tab (i + 1) (ds++[⟨i,R,W⟩]) (putO o.1.dst v Γ) s' k):Dr orc T F D (o :: os) (b :: tab) i ds Γ s k:=by
 have hpl:=h.plain
 obtain ⟨r,wm,h1,h2,h3,h4,h5⟩:=h
 have h2:=h2 0
 intro sl cs rr hs hc hr
 have hs':=hs
 simp only [GQ,fk] at hs'
 have hz:Nat.lor 0 wm = wm:=Nat.zero_or wm
 rw [hz] at h2
 obtain ⟨r1',g1,g2⟩:=Nq (call:=j9 orc T 0) (o:=o.1) (s:={ s with w:=0 }) (v:=v) (s':={ s' with w:=wm }) (r:=r) hw (by rw [DY hpl,h1]; simp only [h2])
 refine Y2 (s':={ s' with w:=wm }) hs hr g1 (fun j hj=>hF j (h4 j (g2 j hj))) (NZ hc hs'.1 ha rfl rfl (fun j hj=>h4 j (g2 j hj)) h5) (hc.snoc (y:=⟨i,o.2,rK o.1.dst,r1',wm⟩) (fun j hj=>h4 j (g2 j hj)) h5) ?_
 have e:({ s' with w:=Nat.lor s.w wm }:S) = s':=by rw [← h3]
 show Dr orc T F D os tab (i + 1) _ _ { s' with w:=Nat.lor s.w wm } k
 rw [e]
 exact hk
theorem Az {d:Option Nat} {op:RO} {g:Option (Nat × Bool)} {m:Nat} {os:List (ROp × Nat)} {b:Nat} {tab:List Nat} {i:Nat} {ds:List Fp} {Γ:Tr V} {s s':S} {k:Tr V→S→Prop} {v:V} {R W:Nat→Prop} (hw:ux Γ g = some true) (h:MS (ev Γ) s op v s' R W) (hF:∀ k,R k→F k) (ha:∀ x∈ds,apO b x R W)
  (hk:Dr orc T F D os tab (i + 1) (ds++[⟨i,R,W⟩]) (putO d v Γ) s' k):Dr orc T F D ((⟨d,op,g⟩,m) :: os) (b :: tab) i ds Γ s k :=
 aTY (o:=(⟨d,op,g⟩,m)) hw h hF ha hk
end
section
variable {e:Opd→V} {s:S} {b:Nat}
theorem aMx {xs:List X} {off:Nat} {y:X} (h:xs[off]? = some y):cut xs off 1 = some [y]:=by
 unfold cut
 have hlt:=(cw.1 h).1
 have:(xs.drop off).take 1 = [y]:=by
  rw [List.drop_eq_getElem_cons hlt]
  have:=(cw.1 h).2
  rw [this]; rfl
 simp [this,gd]
theorem awK (xs:List X) (off:Nat) (y:X) (h:off < xs.length):setAt xs off [y] = xs.set off y:=by
 unfold setAt
 simp only [xw]
 rw [List.set_eq_take_append_cons_drop,if_pos h]
 rfl
theorem cY {P:Nat→Prop}:∀ k,(0:Nat).testBit k = true→P k:=fun k h=>by simp at h
theorem dW {n:Nat}:∀ k,(bit n).testBit k = true→k = n:=fun k h=>by rw [pz] at h; exact of_decide_eq_true h
theorem MS.load1 {x:Opd} {m off:Nat} {t:TypeId} {xs:List X} {y:X} (hx:e x = .c (.ptr m off)) (hm:s.h.get m = some (.cells t xs)) (hy:xs[off]? = some y):MS e s (.load 1 false x) (.c y) s (fun k=>k = m) (fun _=>False) :=
 ⟨bit m,0,rfl,fun w0=>by simp only [iq,hx,Ij,hm,fw,aMx hy,wk,uz]; rfl,(uz _).symm,dW,cY⟩
theorem MS.loadA {x:Opd} {n m off:Nat} {t:TypeId} {xs cs:List X} (hx:e x = .c (.ptr m off)) (hm:s.h.get m = some (.cells t xs)) (hc:cut xs off n = some cs):MS e s (.load n true x) (.agg cs) s (fun k=>k = m) (fun _=>False) :=
 ⟨bit m,0,rfl,fun w0=>by simp only [iq,hx,Ij,hm,fw,hc,wk,uz]; rfl,(uz _).symm,dW,cY⟩
theorem MS.loadI {x:Opd} {n:Nat} {ag:Bool} {cs:List T} (hx:e x = .c (.pI cs)) (hl:Nat.ble n cs.length = true):MS e s (.load n ag x) (mkV ag ((cs.take n).map imX)) s (fun _=>False) (fun _=>False) :=
 ⟨0,0,rfl,fun w0=>by simp only [iq,hx,hl,gd,cond_true,uz],(uz _).symm,cY,cY⟩
theorem MS.store1 {x v:Opd} {m off:Nat} {t:TypeId} {xs:List X} {y:X} (hx:e x = .c (.ptr m off)) (hv:e v = .c y) (hm:s.h.get m = some (.cells t xs)) (hl:off < xs.length):MS e s (.store 1 x v) .junk (tW s m (.cells t (xs.set off y))) (fun k=>k = m) (fun k=>k = m) :=
 ⟨bit m,bit m,rfl,fun w0=>by
  have h2:Nat.ble (off + 1) xs.length = true:=by rw [Nat.ble_eq]; omega
  simp only [iq,hx,hv,dK,Ij,hm,fw,xw,h2,Nat.beq_refl,Bool.and_self,gd,cond_true,put,wk,awK xs off y hl,tW],rfl,dW,dW⟩
theorem MS.storeA {n:Nat} {x v:Opd} {m off:Nat} {t:TypeId} {xs ys:List X} (hx:e x = .c (.ptr m off)) (hv:dK (e v) = some ys) (hm:s.h.get m = some (.cells t xs)) (hn:ys.length = n) (hl:off + n≤xs.length):MS e s (.store n x v) .junk (tW s m (.cells t (setAt xs off ys))) (fun k=>k = m) (fun k=>k = m) :=
 ⟨bit m,bit m,rfl,fun w0=>by
  have h2:Nat.ble (off + n) xs.length = true:=by rw [Nat.ble_eq]; exact hl
  have h3:Nat.beq ys.length n = true:=by rw [hn]; exact Nat.beq_refl n
  simp only [iq,hx,hv,Ij,hm,fw,h2,h3,Bool.and_self,gd,cond_true,put,wk,tW],rfl,dW,dW⟩
theorem E3 {o:O} (h:s.h.get s.c = none) (w0:Nat):new { s with w:=w0 } o = some { y6 s o with w:=Nat.lor w0 (bit s.c) }:=by
 unfold new
 simp only [h,Option.isNone_none,gd,cond_true]
 rfl
theorem MS.alloc {t:TypeId} {z:List X} (hS:Sb b s):MS e s (.alloc t z) (.c (.ptr s.c 0)) (y6 s (.cells t z)) (fun k=>k = s.c) (fun k=>k = s.c) :=
 ⟨bit s.c,bit s.c,rfl,fun w0=>by simp only [iq,E3 (hS.free _ (ik _)),wk],rfl,dW,dW⟩
theorem MS.box {t:TypeId} {x:Opd} {cs:List X} (hS:Sb b s) (hx:dK (e x) = some cs):MS e s (.box t x) (.c (.ptr s.c 0)) (y6 s (.cells t cs)) (fun k=>k = s.c) (fun k=>k = s.c) :=
 ⟨bit s.c,bit s.c,rfl,fun w0=>by simp only [iq,hx,fw,E3 (hS.free _ (ik _)),wk],rfl,dW,dW⟩
theorem MS.mksl {t:TypeId} {k bytes:Nat} {z:List X} {l c:Opd} {m mc:Nat} (hS:Sb b s) (hl:e l = iV (m:Int)) (hc:e c = iV (mc:Int)) (hle:m≤mc) (hr:nJ bytes mc = true):MS e s (.mksl t k bytes z l c) (.c (.sl s.c k 0 m)) (y6 s (.cells t (List.replicate m z).flatten)) (fun k=>k = s.c) (fun k=>k = s.c) :=
 ⟨bit s.c,bit s.c,rfl,fun w0=>by
  have h1:Nat.ble m mc = true:=by rw [Nat.ble_eq]; exact hle
  have h2:∀ k:Nat,DJ (k:Int) = some k:=fun k=>rfl
  simp only [iq,hl,hc,iV,pX,fw,h2,h1,hr,Bool.and_self,gd,cond_true,E3 (hS.free _ (ik _)),wk],rfl,dW,dW⟩
theorem MS.bsl {t:TypeId} {k len:Nat} {z:List X} {ps:List (Nat × Nat × Opd)} {cs:List X} (hS:Sb b s) (hf:fill e (List.replicate len z).flatten ps = some cs):MS e s (.bsl t k len z ps) (.c (.sl s.c k 0 len)) (y6 s (.cells t cs)) (fun k=>k = s.c) (fun k=>k = s.c) :=
 ⟨bit s.c,bit s.c,rfl,fun w0=>by simp only [iq,hf,fw,E3 (hS.free _ (ik _)),wk],rfl,dW,dW⟩
theorem MS.bsl1 {t:TypeId} {z y:X} {x:Opd} (hS:Sb b s) (hx:e x = .c y):MS e s (.bsl t 1 1 [z] [(0,1,x)]) (.c (.sl s.c 1 0 1)) (y6 s (.cells t [y])) (fun k=>k = s.c) (fun k=>k = s.c) :=
 MS.bsl hS (by simp only [List.replicate_succ,List.replicate_zero,List.flatten_cons,List.flatten_nil,List.append_nil,fill,hx,dK,fw,setAt]; rfl)
theorem MS.mkmap {kd:TypeDesc} (hS:Sb b s):MS e s (.mkmap kd) (.c (.mp s.c)) (y6 s (.map kd false [])) (fun k=>k = s.c) (fun k=>k = s.c) :=
 ⟨bit s.c,bit s.c,rfl,fun w0=>by simp only [iq,E3 (hS.free _ (ik _)),wk],rfl,dW,dW⟩
theorem MS.app_nil {t:TypeId} {k bytes:Nat} {sl x:Opd} {m len:Nat} {t2:TypeId} {ys zs:List X} (hS:Sb b s) (hs:e sl = .c (.sc dZ)) (hx:e x = .c (.sl m k 0 len)) (hm:s.h.get m = some (.cells t2 ys)) (hc:cut ys 0 (len * k) = some zs) (h0:Nat.beq len 0 = false) (hr:nJ bytes len = true) :
  MS e s (.app t k bytes sl x) (.c (.sl s.c k 0 len)) (y6 s (.cells t zs)) (fun k=>k = m∨k = s.c) (fun k=>k = s.c) :=
 ⟨Nat.lor (bit m) (bit s.c),bit s.c,rfl,fun w0=>by
  simp only [iq,awY,hx,Ij,hm,Nat.beq_refl,gd,cond_true,fw,hc,wk,hs,dZ,h0,cond_false,hr,E3 (hS.free _ (ik _))],rfl,fun j hj=>by
   rw [iZ,zw] at hj
   exact hj.imp (dW j) (dW j),dW⟩
theorem MS.app_own {t:TypeId} {k bytes:Nat} {sl x:Opd} {n off ln m len:Nat} {t2:TypeId} {xs os ys zs:List X} (hS:Sb b s) (hs:e sl = .c (.sl n k off ln)) (hn:s.h.get n = some (.cells t xs)) (hcs:cut xs off (ln * k) = some os) (hx:e x = .c (.sl m k 0 len)) (hm:s.h.get m = some (.cells t2 ys)) (hc:cut ys 0 (len * k) = some zs) (h0:Nat.beq len 0 = false) (hr:nJ bytes (ln + len) = true) :
  MS e s (.app t k bytes sl x) (.c (.sl s.c k 0 (ln + len))) (y6 (tW s n .dead) (.cells t (os++zs))) (fun k=>k = m∨k = n∨k = s.c) (fun k=>k = n∨k = s.c) :=
 ⟨Nat.lor (Nat.lor (bit m) (bit n)) (bit s.c),Nat.lor (bit n) (bit s.c),rfl,fun w0=>by
  have hnc:((tW s n .dead).h.get (tW s n .dead).c) = none:=by
   have hlt:=hS.lt hn
   show (tW s n .dead).h.get s.c = none
   rw [(D2 s n .dead).keep s.c (by omega)]
   exact hS.free _ (ik _)
  have hnew:∀ o,new ({ h:=s.h.set n .dead,c:=s.c,w:=Nat.lor w0 (bit n) }:S) o = some { y6 (tW s n .dead) o with w:=Nat.lor (Nat.lor w0 (bit n)) (bit s.c) }:=fun o=>E3 (s:=tW s n .dead) hnc (Nat.lor w0 (bit n))
  simp only [iq,awY,hx,Ij,hm,Nat.beq_refl,gd,cond_true,fw,hc,wk,hs,hn,hcs,h0,cond_false,hr,Bool.and_self,put,hnew,T4],by show Nat.lor (Nat.lor s.w (bit n)) (bit s.c) = _; rw [T4],fun j hj=>by
   rw [iZ,iZ,zw,zw] at hj
   rcases hj with (hj | hj) | hj
   ·exact .inl (dW j hj)
   ·exact .inr (.inl (dW j hj))
   ·exact .inr (.inr (dW j hj)),fun j hj=>by
   rw [iZ,zw] at hj
   exact hj.imp (dW j) (dW j)⟩
theorem MS.app_zero {t:TypeId} {k bytes:Nat} {sl x:Opd} {n off ln m:Nat} {t2:TypeId} {xs os ys:List X} (hs:e sl = .c (.sl n k off ln)) (hn:s.h.get n = some (.cells t xs)) (hcs:cut xs off (ln * k) = some os) (hx:e x = .c (.sl m k 0 0)) (hm:s.h.get m = some (.cells t2 ys)) (hr:nJ bytes (ln + 0) = true) :
  MS e s (.app t k bytes sl x) (.c (.sl n k off ln)) s (fun k=>k = m∨k = n) (fun _=>False) :=
 ⟨Nat.lor (bit m) (bit n),0,rfl,fun w0=>by
  have hc:cut ys 0 (0 * k) = some []:=by simp [cut,gd]
  simp only [iq,awY,hx,Ij,hm,Nat.beq_refl,gd,cond_true,fw,hc,wk,hs,hn,hcs,hr,Bool.and_self,uz],(uz _).symm,fun j hj=>by
   rw [iZ,zw] at hj
   exact hj.imp (dW j) (dW j),cY⟩
structure Sa (s s1:S) (n:Nat) (o:O):Prop where
 self:s1.h.get s.c = some o
 dead:s1.h.get n = some .dead
 keep:∀ k,k ≠ n→k ≠ s.c→s1.h.get k = s.h.get k
 c:s1.c = s.c + 1
theorem alj {n:Nat} {o:O} (hn:n < s.c):Sa s (y6 (tW s n .dead) o) n o :=
 ⟨(CK (tW s n .dead) o).self,by rw [(CK (tW s n .dead) o).keep n (by show n ≠ s.c; omega)]; exact (D2 s n .dead).self,fun k h1 h2=>by rw [(CK (tW s n .dead) o).keep k h2]; exact (D2 s n .dead).keep k h1,rfl⟩
theorem MS.look {kd:TypeDesc} {z:V} {ok:Bool} {x i:Opd} {m:Nat} {key:Value} {kd':TypeDesc} {es:List (Value × V)} (hx:e x = .c (.mp m)) (hi:TJ kd (e i) = some key) (hm:getMD s m = some (kd',es)) (hk:aeK kd' kd = true):MS e s (.look kd z ok x i) (E8 ok z (Go.VM.getK key es)) s (fun k=>k = m) (fun _=>False) :=
 ⟨bit m,0,rfl,fun w0=>by
  have h2:getMD { s with w:=w0 } m = some (kd',es):=hm
  simp only [iq,hi,hx,fw,h2,hk,gd,cond_true,uz],(uz _).symm,dW,cY⟩
theorem MS.mupd {kd:TypeDesc} {x i v:Opd} {m:Nat} {key:Value} {kd':TypeDesc} {es:List (Value × V)} (hx:e x = .c (.mp m)) (hi:TJ kd (e i) = some key) (hm:s.h.get m = some (.map kd' false es)) (hk:aeK kd' kd = true) (hv:m8 (e v) = true):MS e s (.mupd kd x i v) .junk (tW s m (.map kd false (Go.VM.putK key (e v) es))) (fun k=>k = m) (fun k=>k = m) :=
 ⟨bit m,bit m,rfl,fun w0=>by
  simp only [iq,hi,hx,fw,aLq,hm,hk,hv,Bool.not_false,Bool.and_self,gd,cond_true,put,wk,tW],rfl,dW,dW⟩
theorem MS.mdel {kd:TypeDesc} {x i:Opd} {m:Nat} {key:Value} {kd':TypeDesc} {es:List (Value × V)} (hx:e x = .c (.mp m)) (hi:TJ kd (e i) = some key) (hm:getD s m = some (kd',es)) (hk:aeK kd' kd = true):MS e s (.mdel kd x i) .junk (tW s m (.dmap kd (VJ key es))) (fun k=>k = m) (fun k=>k = m) :=
 ⟨bit m,bit m,rfl,fun w0=>by
  have h2:getD { s with w:=w0 } m = some (kd',es):=hm
  simp only [iq,hi,hx,fw,h2,hk,gd,cond_true,put,wk,tW],rfl,dW,dW⟩
end
section
variable {orc:bZ} {T:Tr RF} {F:Nat→Prop} {D:Prop} {os:List (ROp × Nat)} {Γ:Tr V} {s:S} {b n:Nat} {o:O}
theorem xX {Q:Tr V→S→Prop} (hS:Sb b s) (hb:b≤n) (hn:n < s.c) (h:∀ s1,St s s1 n o→s1.c = s.c→Sb b s1→Sq orc T os Γ s1 F D Q):Sq orc T os Γ (tW s n o) F D Q:=h _ (D2 s n o) rfl (hS.put hb hn o)
theorem ej {Q:Tr V→S→Prop} (hS:Sb b s) (h:∀ s1,St s s1 s.c o→s1.c = s.c + 1→Sb b s1→Sq orc T os Γ s1 F D Q):Sq orc T os Γ (y6 s o) F D Q:=h _ (CK s o) rfl (hS.new o)
theorem ZK {Q:Tr V→S→Prop} (hS:Sb b s) (hb:b≤n) (hn:n < s.c) (h:∀ s1,Sa s s1 n o→Sb b s1→Sq orc T os Γ s1 F D Q):Sq orc T os Γ (y6 (tW s n .dead) o) F D Q:=h _ (alj hn) ((hS.put hb hn .dead).new o)
variable {tab:List Nat} {i:Nat} {ds:List Fp}
theorem zX {k:Tr V→S→Prop} (hS:Sb b s) (hb:b≤n) (hn:n < s.c) (h:∀ s1,St s s1 n o→s1.c = s.c→Sb b s1→Dr orc T F D os tab i ds Γ s1 k):Dr orc T F D os tab i ds Γ (tW s n o) k:=h _ (D2 s n o) rfl (hS.put hb hn o)
theorem zW {k:Tr V→S→Prop} (hS:Sb b s) (h:∀ s1,St s s1 s.c o→s1.c = s.c + 1→Sb b s1→Dr orc T F D os tab i ds Γ s1 k):Dr orc T F D os tab i ds Γ (y6 s o) k:=h _ (CK s o) rfl (hS.new o)
theorem Sa.at {s1:S} {k:Nat} {o':O} (h:Sa s s1 n o) (hk:s.h.get k = some o') (hne:k ≠ n) (hc:k ≠ s.c):s1.h.get k = some o':=(h.keep k hne hc).trans hk
theorem Sb.zero {b':Nat} (h:Sb b s) (hle:b'≤s.c):Sb b' { s with w:=0 }:=⟨hle,h.free,fun k hk=>by simp at hk⟩
theorem Sb.join {s1:S} {b':Nat} (h:Sb b s) (h1:Sb b' s1) (hc:b≤b') (hl:s.c≤s1.c):Sb b { s1 with w:=Nat.lor s.w s1.w }:=⟨Nat.le_trans hc h1.le,h1.free,fun k hk=>by
 simp only [iZ,zw] at hk
 rcases hk with hk | hk
 ·exact ⟨(h.own k hk).1,vw (h.own k hk).2 hl⟩
 ·exact ⟨Nat.le_trans hc (h1.own k hk).1,(h1.own k hk).2⟩⟩
theorem aeX {d:Option Nat} {g:Option (Nat × Bool)} {m:Nat} {x:Opd} {as:List Opd} {f:FuncId} {caps:List X} {args:List V} {Q:Tr V→S→Prop} (hw:ux Γ g = some true) (hx:ev Γ x = .c (.fn f caps)) (hargs:as.map (ev Γ)++caps.map .c = args) (h:Cp orc T f args s F D fun v s'=>Sq orc T os (putO d v Γ) s' F D Q):Sq orc T ((⟨d,.callv x as,g⟩,m) :: os) Γ s F D Q:=by
 subst hargs
 exact P6 hw (ayK hx h)
theorem LJ {d:Option Nat} {g:Option (Nat × Bool)} {m bb:Nat} {f:FuncId} {as:List Opd} {args:List V} {k:Tr V→S→Prop} (R:Nat→Prop) (hw:ux Γ g = some true) (hargs:as.map (ev Γ) = args) (hS:Sb b s) (hF:∀ j,R j→F j) (ha:∀ x∈ds,apO bb x R R)
  (hC:Cp orc T f args { s with w:=0 } R True fun v s'=>Sb s.c s'∧(∀ j,s.c≤j→j < s'.c→R j)∧∀ s1,s1.h = s'.h→s1.c = s'.c→Sb b s1→Dr orc T F D os tab (i + 1) (ds++[⟨i,R,R⟩]) (putO d v Γ) s1 k):Dr orc T F D ((⟨d,.call f as,g⟩,m) :: os) (bb :: tab) i ds Γ s k:=by
 refine aIK R R hw hargs hF ha (Cp.mono hC (fun _ h=>h) (fun h=>h) fun v s' hq=>?_)
 obtain ⟨h1,h2,h3⟩:=hq
 exact ⟨fun j hj=>h2 j (h1.own j hj).1 (h1.own j hj).2,h3 _ rfl rfl (hS.join h1 hS.le h1.le)⟩
end
section
variable {e:Opd→V}
theorem aCZ {x i:Opd} {n j len:Nat} (hx:e x = .c (.sl n 1 0 len)) (hi:e i = iV (j:Int)) (hj:j < len):bJ e (.ixA 1 x i) = some (.c (.ptr n j)):=by
 have h2:∀ k:Nat,DJ (k:Int) = some k:=fun k=>rfl
 have h3:Nat.blt j len = true:=by rw [Nat.blt_eq]; exact hj
 simp only [bJ,hx,hi,iV,isI,fw,h2,Nat.beq_refl,h3,Bool.and_self,gd,cond_true,Nat.mul_one,Nat.zero_add]
theorem aBx {x i:Opd} {n k off j len:Nat} (hx:e x = .c (.sl n k off len)) (hi:e i = iV (j:Int)) (hj:j < len):bJ e (.ixA k x i) = some (.c (.ptr n (off + j * k))):=by
 have h2:∀ k:Nat,DJ (k:Int) = some k:=fun k=>rfl
 have h3:Nat.blt j len = true:=by rw [Nat.blt_eq]; exact hj
 simp only [bJ,hx,hi,iV,isI,fw,h2,Nat.beq_refl,h3,Bool.and_self,gd,cond_true]
theorem aNQ {x i:Opd} {k j:Nat} {rows:List (List T)} {row:List T} (hx:e x = .c (.im k rows)) (hi:e i = iV (j:Int)) (hj:rows[j]? = some row):bJ e (.ixA k x i) = some (.c (.pI row)):=by
 have h2:∀ k:Nat,DJ (k:Int) = some k:=fun k=>rfl
 simp only [bJ,hx,hi,iV,isI,fw,h2,Nat.beq_refl,gd,cond_true,hj,wk]
end
def RowN (h:Hp) (t:TypeId) (x:X) (cs:List X) (n:Nat):Prop:=(x = .sc dZ∧cs = [])∨(x = .sl n 1 0 cs.length∧h n = some (.cells t cs))
theorem RowN.keep {h h':Hp} {t:TypeId} {x:X} {cs:List X} {n:Nat} (hr:RowN h t x cs n) (hk:h' n = h n):RowN h' t x cs n:=by
 rcases hr with hr | ⟨h1,h2⟩
 ·exact .inl hr
 ·exact .inr ⟨h1,hk.trans h2⟩
structure SaN (s s1:S) (n:Nat) (o:O):Prop where
 self:s1.h.get s.c = some o
 keep:∀ k,k ≠ n→k ≠ s.c→s1.h.get k = s.h.get k
 c:s1.c = s.c + 1
theorem SaN.at {s s1:S} {n k:Nat} {o o':O} (h:SaN s s1 n o) (hk:s.h.get k = some o') (hne:k ≠ n) (hc:k ≠ s.c):s1.h.get k = some o':=(h.keep k hne hc).trans hk
theorem Z5 {xs:List X} {n:Nat} (h:xs.length = n):cut xs 0 (n * 1) = some xs:=by
 unfold cut
 simp only [List.drop_zero,Nat.mul_one]
 rw [List.take_of_length_le (by omega),h,Nat.beq_refl]
 rfl
theorem aqq {e:Opd→V} {s:S} {b:Nat} {t:TypeId} {bytes:Nat} {sl x:Opd} {xv y:X} {cs:List X} {n m:Nat} {t2:TypeId} (hS:Sb b s) (hs:e sl = .c xv) (hr:RowN s.h.get t xv cs n) (hbn:b≤n) (hx:e x = .c (.sl m 1 0 1)) (hm:s.h.get m = some (.cells t2 [y])) (hr1:nJ bytes (cs.length + 1) = true) :
  ∃ s1,MS e s (.app t 1 bytes sl x) (.c (.sl s.c 1 0 (cs.length + 1))) s1 (fun k=>k = m∨k = n∨k = s.c) (fun k=>k = n∨k = s.c)∧SaN s s1 n (.cells t (cs++[y]))∧Sb b s1:=by
 rcases hr with ⟨rfl,rfl⟩ | ⟨rfl,hn⟩
 ·refine ⟨y6 s (.cells t [y]),?_,⟨(CK s _).self,fun k _ h=>(CK s _).keep k h,rfl⟩,hS.new _⟩
  obtain ⟨r,wm,h1,h2,h3,h4,h5⟩:=MS.app_nil (t:=t) (k:=1) (bytes:=bytes) hS hs hx hm rfl rfl hr1
  exact ⟨r,wm,h1,h2,h3,fun k hk=>(h4 k hk).imp id .inr,fun k hk=>.inr (h5 k hk)⟩
 ·have hlt:=hS.lt hn
  exact ⟨_,MS.app_own (t:=t) (k:=1) (bytes:=bytes) hS hs hn (Z5 rfl) hx hm rfl rfl hr1,⟨(alj hlt).self,(alj hlt).keep,rfl⟩,(hS.put hbn hlt .dead).new _⟩
section
variable {orc:bZ} {T:Tr RF} {F:Nat→Prop} {D:Prop} {os:List (ROp × Nat)} {Γ:Tr V} {s:S} {b n m:Nat} {d:Option Nat} {g:Option (Nat × Bool)} {mk:Nat} {t t2:TypeId} {bytes:Nat} {sl x:Opd} {xv y:X} {cs:List X}
theorem HQ {Q:Tr V→S→Prop} (hw:ux Γ g = some true) (hS:Sb b s) (hs:ev Γ sl = .c xv) (hr:RowN s.h.get t xv cs n) (hbn:b≤n) (hx:ev Γ x = .c (.sl m 1 0 1)) (hm:s.h.get m = some (.cells t2 [y])) (hr1:nJ bytes (cs.length + 1) = true) (hF:∀ k,(k = m∨k = n∨k = s.c)→F k)
  (hk:∀ s1,SaN s s1 n (.cells t (cs++[y]))→Sb b s1→Sq orc T os (putO d (.c (.sl s.c 1 0 (cs.length + 1))) Γ) s1 F D Q):Sq orc T ((⟨d,.app t 1 bytes sl x,g⟩,mk) :: os) Γ s F D Q:=by
 obtain ⟨s1,h1,h2,h3⟩:=aqq (bytes:=bytes) hS hs hr hbn hx hm hr1
 exact oY hw h1 hF (hk s1 h2 h3)
theorem arX {bb:Nat} {tab:List Nat} {i:Nat} {ds:List Fp} {k:Tr V→S→Prop} (hw:ux Γ g = some true) (hS:Sb b s) (hs:ev Γ sl = .c xv) (hr:RowN s.h.get t xv cs n) (hbn:b≤n) (hx:ev Γ x = .c (.sl m 1 0 1)) (hm:s.h.get m = some (.cells t2 [y])) (hr1:nJ bytes (cs.length + 1) = true) (hF:∀ k,(k = m∨k = n∨k = s.c)→F k)
  (ha:∀ z∈ds,apO bb z (fun k=>k = m∨k = n∨k = s.c) (fun k=>k = n∨k = s.c))
  (hk:∀ s1,SaN s s1 n (.cells t (cs++[y]))→Sb b s1→Dr orc T F D os tab (i + 1) (ds++[⟨i,fun k=>k = m∨k = n∨k = s.c,fun k=>k = n∨k = s.c⟩]) (putO d (.c (.sl s.c 1 0 (cs.length + 1))) Γ) s1 k):Dr orc T F D ((⟨d,.app t 1 bytes sl x,g⟩,mk) :: os) (bb :: tab) i ds Γ s k:=by
 obtain ⟨s1,h1,h2,h3⟩:=aqq (bytes:=bytes) hS hs hr hbn hx hm hr1
 exact Az hw h1 hF ha (hk s1 h2 h3)
end
section
variable {e:Opd→V} {s:S}
theorem MS.loadI1 {x:Opd} {v:Value} {cs:List T} (hx:e x = .c (.pI (.sc v :: cs))):MS e s (.load 1 false x) (.c (.sc v)) s (fun _=>False) (fun _=>False):=MS.loadI hx rfl
theorem MS.loadI2 {x:Opd} {k:Nat} {rows:List (List T)} {cs:List T} (hx:e x = .c (.pI (.sl k rows :: cs))):MS e s (.load 1 false x) (.c (.im k rows)) s (fun _=>False) (fun _=>False):=MS.loadI hx rfl
theorem MS.loadIA {x:Opd} {n:Nat} {cs:List T} {ys:List X} (hx:e x = .c (.pI cs)) (hl:Nat.ble n cs.length = true) (hy:(cs.take n).map imX = ys):MS e s (.load n true x) (.agg ys) s (fun _=>False) (fun _=>False):=by subst hy; exact MS.loadI hx hl
end
theorem evS:(∀ (Γ:Tr V) t,ev Γ (.tmp t) = look Γ t)∧(∀ (Γ:Tr V) x,ev Γ (.con x) = x)∧(∀ (Γ:Tr V) f,ev Γ (.fn f) = .c (.fn f []))∧(∀ d v (Γ:Tr V) t,look (putO (some d) v Γ) t = if d = t then v else look Γ t)∧(∀ v (Γ:Tr V) t,look (putO none v Γ) t = look Γ t):=⟨kq,aSX,aSY,cq,Dq⟩
theorem RW {e:Opd→V} {x h:Opd} {n len m:Nat} (hx:e x = .c (.sl n 1 0 len)) (hh:e h = iV (m:Int)) (hm:m≤len):bJ e (.sub 1 x none (some h)) = some (.c (.sl n 1 0 m)):=by
 have h2:DJ (m:Int) = some m:=rfl
 have h3:Nat.ble m len = true:=by rw [Nat.ble_eq]; exact hm
 have h4:Nat.ble 0 m = true:=by rw [Nat.ble_eq]; omega
 simp only [bJ,hx,bnd,hh,iV,pX,fw,h2,Nat.beq_refl,h3,h4,Bool.and_self,gd,cond_true,Nat.zero_mul,Nat.add_zero,Nat.sub_zero]
theorem alX {e:Opd→V} {x h:Opd} {n len off m:Nat} (hx:e x = .c (.sl n 1 off len)) (hh:e h = iV (m:Int)) (hm:m≤len):bJ e (.sub 1 x (some h) none) = some (.c (.sl n 1 (off + m) (len - m))):=by
 have h2:DJ (m:Int) = some m:=rfl
 have h3:Nat.ble m len = true:=by rw [Nat.ble_eq]; exact hm
 have h4:Nat.ble len len = true:=by rw [Nat.ble_eq]; exact ik _
 simp only [bJ,hx,bnd,hh,iV,pX,fw,h2,Nat.beq_refl,h3,h4,Bool.and_self,gd,cond_true,Nat.mul_one]
end Go.RM
namespace Go.RM
open Go.VM (Pt Fr T RepT RepC Fun aZ lZ pV kX Oid Lies)
theorem GW {P:Program} {orc:bZ} {T:Tr RF} (hT:TOk P T) {w0:World} (ho:jY P w0 orc) (hoi:fq orc) {rc:RC} {Γ:Tr V} {s:S} {F:Nat→Prop} {D:Prop} {Q:Ex→Tr V→S→Prop} (h:Wp orc T rc Γ s F D Q) {nt:Nat} {c:Code} (hc:cV P nt c = some rc)
  {fr:Option Nat} {dn:Nat} {ds:List Deferred} {g h2:Hp} {φ0:Ren} {a:Act} {w:World} (hF:∀ n,F n→h2 n = g n) (st:StR ds w0 nt g h2 φ0 (look Γ) s a w) :
  c.wpIn (FW fr) dn P (fun e a' w'=>∃ ex Γ' s',XM e ex∧Q ex Γ' s'∧StR ds w0 nt g h2 φ0 (look Γ') s' a' w') a w:=by
 obtain ⟨n,outs,r,h1,h2',h3,_⟩:=h
 exact wpIn_mono ((Yz hT ho hoi n rc Γ s outs r h1).2 nt c hc fr dn ds g h2 φ0 a w (fun k hk=>hF k (h3 k hk)) st).1 fun e a' w' ⟨p,hp,hx,st'⟩=>⟨p.1,p.2.1,p.2.2,hx,h2' p hp,st'⟩
def Ren.withFz (φ:Ren) (g:Nat→Option Obj):Ren:=⟨φ.loc,φ.w0,φ.ok,g⟩
theorem RepX.refz {φ:Ren} (g:Nat→Option Obj) {v:Value} {x:X} (h:RepX φ v x):RepX (φ.withFz g) v x:=by
 induction h with
 | sc v h=>exact .sc v h
 | ptr n off b β lim h=>exact .ptr n off b β lim h
 | sl n k off len b β lim o cap h h1 h2 h3=>exact .sl n k off len b β lim o cap h h1 h2 h3
 | es a=>exact .es a
 | mp n b β lim h=>exact .mp n b β lim h
 | fn f cs caps hl _ ih=>exact .fn f cs caps hl ih
 | im v k rows h=>exact .im v k rows h
 | pI b off cells h=>exact .pI b off cells h
 | ez a=>exact .ez a
theorem RepS.refz {φ:Ren} (g:Nat→Option Obj) {v:Value} {x:V} (h:RepS φ v x):RepS (φ.withFz g) v x:=by
 cases x with
 | c x=>exact RepX.refz g h
 | agg xs=>obtain ⟨cs,h1,h2⟩:=h; exact ⟨cs,h1,h2.1,fun j v x hv hx=>(h2.2 j v x hv hx).refz g⟩
 | tup xs=>exact h.elim
 | junk=>trivial
theorem RepV.refz {φ:Ren} (g:Nat→Option Obj) {v:Value} {x:V} (h:RepV φ v x):RepV (φ.withFz g) v x:=by
 cases x with
 | c x=>exact RepS.refz (x:=.c x) g h
 | agg xs=>exact RepS.refz (x:=.agg xs) g h
 | tup xs=>obtain ⟨cs,h1,h2⟩:=h; exact ⟨cs,h1,h2.1,fun j v x hv hx=>(h2.2 j v x hv hx).refz g⟩
 | junk=>trivial
theorem RepO.refz {φ:Ren} (g:Nat→Option Obj) {w:World} {n:Nat} {o:O} (h:RepO φ w n o):RepO (φ.withFz g) w n o:=by
 cases o with
 | cells e xs=>obtain ⟨b,β,lim,arr,h1,h2,h3,h4,h5⟩:=h; exact ⟨b,β,lim,arr,h1,h2,h3,h4,fun j x hx=>by obtain ⟨v,e1,e2⟩:=h5 j x hx; exact ⟨v,e1,e2.refz g⟩⟩
 | map kd rng es=>obtain ⟨b,es',clock,h1,h2,h3,h4,h5⟩:=h; exact ⟨b,es',clock,h1,h2,h3,h4,fun i e p he hp=>by obtain ⟨e1,e2,e3,e4⟩:=h5 i e p he hp; exact ⟨e1,e2,e3,e4.refz g⟩⟩
 | iter m size seen=>exact h
 | itern=>exact h
 | dmap kd es=>obtain ⟨b,es',clock,h1,h2,h4,h5⟩:=h; exact ⟨b,es',clock,h1,h2,h4,fun i e p he hp=>by obtain ⟨e1,e2,e4⟩:=h5 i e p he hp; exact ⟨e1,e2,e4.refz g⟩⟩
 | dead=>trivial
theorem Rel.refz {w0 w:World} {φ:Ren} {h:Hp} (R:Rel w0 φ h w) (g:Nat→Option Obj) (hg:∀ D o,g D = some o→w.heap[D]? = some o∧∀ n p,h n = some p→p.live = true→¬ blk φ n D):Rel w0 (φ.withFz g) h w :=
 ⟨fun n o hn=>(R.rep n o hn).refz g,R.inj,R.old,R.iters,R.dom,R.lt,R.fr,R.w0e,R.okl,hg⟩
theorem Rel.grown {w0 X Y:World} {φ:Ren} {h:Hp} (R:Rel w0 φ h X) (hf:∀ D,φ.fz D = none) {row:Option Nat} (hg:X.grownBy Y row) {B:Nat} (hlive:∀ n p b,h n = some p→p.live = true→blk φ n b→b < B) (hr:∀ r,row = some r→B≤r) (hB:w0.heap.size≤B):Rel w0 φ h Y:=by
 have hsame:∀ b,b < B→b < X.heap.size→Y.heap[b]? = X.heap[b]?:=fun b hb hl=>hg.block b hl (fun e=>by have:=hr b e.symm; omega)
 refine ⟨fun n o hn=>(R.rep n o hn).keep (Ren.le_refl φ) (fun b ho hb=>hsame b (hlive n o b hn ho hb) (R.lt n b hb)) (fun m size seen b ho hb=>?_),R.inj,R.old,R.iters,R.dom,fun n b hb=>vw (R.lt n b hb) hg.size,⟨hg.os.trans R.fr.os,hg.tape.trans R.fr.tape,hg.output.trans R.fr.output,Nat.le_trans R.fr.size hg.size,fun b hb _=>(hsame b (by omega) (vw hb R.fr.size)).trans (R.fr.block b hb id)⟩,R.w0e,R.okl,fun D o hD=>by rw [hf D] at hD; simp at hD⟩
 ·obtain ⟨kd,es,hm⟩:=R.iters n m size seen (ho ▸ hn)
  exact hsame b (hlive m _ b hm rfl hb) (R.lt m b hb)
end Go.RM
namespace Go.RM
open Go.VM (Pt Fr T RepT RepC Fun aZ lZ pV kX Oid Lies)
theorem pW {P:Program} {orc:bZ} {T:Tr RF} (hT:TOk P T) (ho:∀ w0,jY P w0 orc) (hoi:fq orc) {f:FuncId} {vs:List Go.VM.V} {us:List V} (hus:vs.mapM toV = some us) {fresh:Bool} {r:Go.VM.V} {F:Nat→Prop} {D:Prop} {Q:V→S→Prop}
  (h:Cp orc T f us s0 F D Q) (hQ:∀ v s,Q v s→TreeV s.h.get fresh v r):Fun P f fresh [] vs aZ r aZ:=by
 obtain ⟨n,outs,rr,h1,h2,_,_⟩:=h
 exact ajW hT ho hoi hus h1 fun p hp=>hQ _ _ (h2 p hp)
theorem aix {P:Program} {f:FuncId} {vs:List Go.VM.V} {us:List V} (hus:vs.mapM toV = some us) {fresh:Bool} {r:Go.VM.V}
  (h:∀ (w:World) (φ:Ren) (args:List Value),Rel w φ (d7 (fun _=>none) s0) w→Pt (RepV φ) args us→Calls P f args.toArray w fun e w'=>∃ (v:Value) (ψ:Ren) (t:S) (x:V),e = .returned v∧ψ.ok = φ.ok∧Rel w ψ t.h.get w'∧RepV ψ v x∧TreeV t.h.get fresh x r):Fun P f fresh [] vs aZ r aZ:=by
 intro w ok B args hlt hbl hp hobjs
 let φ:Ren:=⟨fun _=>none,w,ok,fun _=>none⟩
 have R:Rel w φ (d7 (fun _=>none) s0) w:=by
  have hn:∀ m,d7 (fun _=>none) s0 m = none:=fun m=>by simp [d7,s0]
  exact ⟨fun m o h=>by rw [hn] at h; simp at h,fun m _ o _ _ h=>by rw [hn] at h; simp at h,fun m o _ h=>by rw [hn] at h; simp at h,fun m _ _ _ h=>by rw [hn] at h; simp at h,fun _ _=>rfl,fun m b ⟨_,_,h⟩=>by simp [φ] at h,Fr.refl _ _,rfl,hlt,fun D o h=>by simp [φ] at h⟩
 refine (h w φ args R (UX rfl rfl _ _ _ hp hus)).mono fun e w' hh=>?_
 obtain ⟨v,ψ,t,x,rfl,hok,R',hrep,ht⟩:=hh
 refine ⟨v,B,rfl,⟨R'.fr.os,R'.fr.tape,R'.fr.output,R'.fr.size,fun b hb _=>R'.fr.block b hb id⟩,?_,⟨fun o ob h=>by simp [aZ] at h,fun o o' ob ob' b h=>by simp [aZ] at h⟩,fun o ob b h=>by simp [aZ] at h,fun o h=>by simp at h⟩
 have:=NJ (B:=B) (fresh:=fresh) R' hrep ht
 rw [hok] at this
 exact this
end Go.RM
namespace Go.RM
open Go.VM (Pt Fr T RepT RepC Fun aZ lZ pV kX Oid aj)
end Go.RM
namespace Go.RM
open Go.VM (T mV)
abbrev oP (d:Nat) (x:RO) (m:Nat):ROp × Nat:=(⟨some d,x,none⟩,m)
abbrev oN (x:RO) (m:Nat):ROp × Nat:=(⟨none,x,none⟩,m)
abbrev kI (n:Int):Opd:=.con (.c (.sc (.int .i64 n)))
abbrev tO (n:Nat):Opd:=.tmp n
theorem PU:(∀ a b:Int,mV .lss (.int .i64 a) (.int .i64 b) = some (.bool (decide (a < b))))∧(∀ a b:Int,mV .geq (.int .i64 a) (.int .i64 b) = some (.bool (decide (b≤a))))∧(∀ a b:Int,mV .leq (.int .i64 a) (.int .i64 b) = some (.bool (decide (a≤b))))∧(∀ a b:Int,mV .gtr (.int .i64 a) (.int .i64 b) = some (.bool (decide (b < a)))) ∧
  (∀ a b:Int,mV .eql (.int .i64 a) (.int .i64 b) = some (.bool (decide (a = b))))∧(∀ a b:Int,mV .neq (.int .i64 a) (.int .i64 b) = some (.bool (!decide (a = b))))∧(∀ a b:Int,mV .add (.int .i64 a) (.int .i64 b) = some (.int .i64 (IntKind.i64.wrap (a + b))))∧(∀ a b:Int,mV .sub (.int .i64 a) (.int .i64 b) = some (.int .i64 (IntKind.i64.wrap (a - b)))) ∧
  (∀ {α β:Type} (f:α→β) (a:α),Option.map f (some a) = some (f a))∧(∀ {α β:Type} (f:α→Option β) (a:α),(some a).bind f = f a)∧(∀ k:Nat,DJ (k:Int) = some k)∧(∀ {α:Type} (x:Option α),gd true x = x)∧(∀ n:Nat,0 + n = n)∧(∀ n:Nat,n + 0 = n)∧(∀ {α:Type} (a b:α),(bif true then a else b) = a)∧(∀ {α:Type} (a b:α),(bif false then a else b) = b) ∧
  (∀ b:Bool,Bool.xor b false = b)∧(!true) = false∧(!false) = true∧(∀ {α:Type} (l:List α),l.drop 0 = l)∧(∀ {α:Type} (n:Nat) (a:α) (l:List α),(a :: l).drop (n + 1) = l.drop n)∧(∀ {α β:Type} (f:α→β) (a:α) (l:List α),(a :: l).map f = f a :: l.map f)∧(∀ {α β:Type} (f:α→β),([]:List α).map f = []) :=
 ⟨fun _ _=>rfl,fun _ _=>rfl,fun _ _=>rfl,fun _ _=>rfl,fun _ _=>rfl,fun _ _=>rfl,fun _ _=>rfl,fun _ _=>rfl,fun _ _=>rfl,fun _ _=>rfl,fun _=>rfl,fun _=>rfl,fun n=>Nat.zero_add n,fun _=>rfl,fun _ _=>rfl,fun _ _=>rfl,fun b=>Bool.xor_false b,rfl,rfl,fun _=>rfl,fun _ _ _=>rfl,fun _ _ _=>rfl,fun _=>rfl⟩
theorem aK {α:Type} {a b:α} (h:a = b:=by simp only [evS,Nat.reduceEqDiff,reduceIte,G]; first | done | rfl):a = b:=h
theorem iW {α:Type} {a b:α} (h:a = b:=by simp only [evS,Nat.reduceEqDiff,reduceIte,List.length_map,G]; first | done | rfl):a = b:=h
theorem zj {α:Type} {a b:α} (h:a = b:=by simp only [evS,Nat.reduceEqDiff,reduceIte,dK,G]; first | done | rfl):a = b:=h
theorem abx {α:Type} {a b:α} (h:a = b:=by simp only [evS,Nat.reduceEqDiff,reduceIte,PU,bJ,scV,bV,iV,dZ,isB,isI,pX,wQ,mkV,G]; first | done | rfl):a = b:=h
theorem aPq {α:Type} {a b:α} (h:a = b:=by simp only [evS,Nat.reduceEqDiff,reduceIte,PU,bJ,scV,bV,iV,dZ,isB,isI,pX,wQ,mkV,List.length_map,G]; first | done | rfl):a = b:=h
theorem aHV {α:Type} {a b:α} (h:a = b:=by simp only [List.map_cons,List.map_nil,List.cons_append,List.nil_append,evS,Nat.reduceEqDiff,reduceIte,G]; first | done | rfl):a = b:=h
theorem abK {α:Type} {a b:α} (h:a = b:=by simp only [List.map_cons,List.map_nil,List.cons_append,List.nil_append,evS,Nat.reduceEqDiff,reduceIte,List.length_map,G]; first | done | rfl):a = b:=h
theorem ayq {α:Type} {a b:α} (h:a = b:=by simp only [evS,Nat.reduceEqDiff,reduceIte,G,bJ]; first | done | rfl):a = b:=h
theorem cK {R F:Nat→Prop} (h:∀ k,R k→F k:=by intro k hk; first | exact False.elim hk | (dsimp only at hk ⊢; omega) | omega):∀ k,R k→F k:=h
theorem G4 {e:Opd→V} {s:S} {op:RO} {v:V} {R:Nat→Prop} (h:MS e s op v s R (fun _=>False):=by first | exact MS.load1 aK (by assumption) (by first | rfl | assumption | (simp only [List.getElem?_set,gw,G]; done) | simp) | exact MS.loadI1 aK | exact MS.loadI2 aK):MS e s op v s R (fun _=>False):=h
theorem aSK {e:Opd→V} {s:S} {op:RO} {v:V} {R:Nat→Prop} (h:MS e s op v s R (fun _=>False):=by first | exact MS.loadA aK (by assumption) (by first | rfl | assumption) | exact MS.loadIA aK rfl rfl):MS e s op v s R (fun _=>False):=h
theorem aOK {e:Opd→V} {s s':S} {op:RO} {v:V} {R W:Nat→Prop} (h:MS e s op v s' R W:=by exact MS.store1 aK aK (by assumption) (by first | (simp only [uw,List.length_map,List.length_cons,List.length_nil,mw,lw]; omega) | (simp; done) | omega)):MS e s op v s' R W:=h
theorem aPX {e:Opd→V} {op:RO} {v:V} (h:bJ e op = some v:=by first | exact aCZ aK aK (by first | assumption | omega) | exact aNQ aK aK (by assumption) | exact aBx aK aK (by first | assumption | omega)):bJ e op = some v:=h
theorem aEj {e:Opd→V} {op:RO} {v:V} (h:bJ e op = some v:=by first | exact aCZ (j:=0) aK aK (by first | assumption | omega) | exact aNQ (j:=0) aK aK (by assumption) | exact aBx (j:=0) aK aK (by first | assumption | omega)):bJ e op = some v:=h
theorem Uz {e:Opd→V} {s:S} {op:RO} {v:V} {R:Nat→Prop} (h:MS e s op v s R (fun _=>False):=by first | exact MS.load1 iW (by assumption) (by first | rfl | assumption | (simp only [List.getElem?_set,gw,List.length_map,G]; done) | simp) | exact MS.loadI1 iW | exact MS.loadI2 iW):MS e s op v s R (fun _=>False):=h
theorem ajx {e:Opd→V} {s:S} {op:RO} {v:V} {R:Nat→Prop} (h:MS e s op v s R (fun _=>False):=by first | exact MS.loadA iW (by assumption) (by first | rfl | assumption) | exact MS.loadIA iW rfl rfl):MS e s op v s R (fun _=>False):=h
theorem aDZ {e:Opd→V} {s s':S} {op:RO} {v:V} {R W:Nat→Prop} (h:MS e s op v s' R W:=by exact MS.store1 iW iW (by assumption) (by first | (simp only [uw,List.length_map,List.length_cons,List.length_nil,mw,lw]; omega) | (simp; done) | omega)):MS e s op v s' R W:=h
theorem aHx {e:Opd→V} {op:RO} {v:V} (h:bJ e op = some v:=by first | exact aCZ iW iW (by first | assumption | omega) | exact aNQ iW iW (by assumption) | exact aBx iW iW (by first | assumption | omega)):bJ e op = some v:=h
theorem ahz {b:Nat} {ds:List Fp} {R W:Nat → Prop} (h:∀ x ∈ ds,apO b x R W := by intro x hx; simp only [List.nil_append,List.cons_append,qk,List.not_mem_nil,or_false] at hx; first | exact hx.elim | ((first | (rcases hx with rfl) | (rcases hx with rfl | rfl) | (rcases hx with rfl | rfl | rfl) | (rcases hx with rfl | rfl | rfl | rfl) | (rcases hx with rfl | rfl | rfl | rfl | rfl) | (rcases hx with rfl | rfl | rfl | rfl | rfl | rfl) | (rcases hx with rfl | rfl | rfl | rfl | rfl | rfl | rfl) | (rcases hx with rfl | rfl | rfl | rfl | rfl | rfl | rfl | rfl) | (rcases hx with rfl | rfl | rfl | rfl | rfl | rfl | rfl | rfl | rfl) | (rcases hx with rfl | rfl | rfl | rfl | rfl | rfl | rfl | rfl | rfl | rfl) | (rcases hx with rfl | rfl | rfl | rfl | rfl | rfl | rfl | rfl | rfl | rfl | rfl) | (rcases hx with rfl | rfl | rfl | rfl | rfl | rfl | rfl | rfl | rfl | rfl | rfl | rfl) | (rcases hx with rfl | rfl | rfl | rfl | rfl | rfl | rfl | rfl | rfl | rfl | rfl | rfl | rfl) | (rcases hx with rfl | rfl | rfl | rfl | rfl | rfl | rfl | rfl | rfl | rfl | rfl | rfl | rfl | rfl) | (rcases hx with rfl | rfl | rfl | rfl | rfl | rfl | rfl | rfl | rfl | rfl | rfl | rfl | rfl | rfl | rfl)) <;> (first | exact .inl (by dsimp only; decide) | (refine .inr fun k => ?_; refine ⟨?_,?_,?_⟩ <;> (intro hk; (try dsimp only at hk); first | exact hk.1.elim | exact hk.2.elim | omega))))):∀ x ∈ ds,apO b x R W := h
theorem wZ {α:Type} {a b:α} (h:a = b:=by simp only [ux,evS,Nat.reduceEqDiff,reduceIte,scV,bV,Bool.xor_false,Bool.xor_true,Bool.not_true,Bool.not_false,G]):a = b:=h
theorem pmv {e:Opd→V} {x:Opd} {v:V} (h:e x = v):bJ e (.mv x) = some v:=by rw [← h]; rfl
theorem lk {Γ:Tr V} {t:Nat} {v:V} (h:look Γ t = v:=by exact aK):look Γ t = v:=h
section
variable {orc:bZ} {T:Tr RF} {F:Nat→Prop} {D:Prop} {d:Option Nat} {m:Nat} {os:List (ROp × Nat)} {Γ:Tr V} {s:S} {Q:Tr V→S→Prop} {v:V}
theorem qV {x:Opd} (h:Sq orc T os (putO d v Γ) s F D Q) (hx:ev Γ x = v:=by exact aK):Sq orc T ((⟨d,.mv x,none⟩,m) :: os) Γ s F D Q:=dq rfl (pmv hx) h
theorem qP {op:RO} (h:Sq orc T os (putO d v Γ) s F D Q) (hp:bJ (ev Γ) op = some v:=by exact abx):Sq orc T ((⟨d,op,none⟩,m) :: os) Γ s F D Q:=dq rfl hp h
theorem qX {op:RO} (h:Sq orc T os (putO d v Γ) s F D Q) (hp:bJ (ev Γ) op = some v:=by exact aPX):Sq orc T ((⟨d,op,none⟩,m) :: os) Γ s F D Q:=dq rfl hp h
theorem qL {op:RO} {R:Nat→Prop} (h:Sq orc T os (putO d v Γ) s F D Q) (hm:MS (ev Γ) s op v s R (fun _=>False):=by exact G4) (hF:∀ k,R k→F k:=by exact cK):Sq orc T ((⟨d,op,none⟩,m) :: os) Γ s F D Q:=oY rfl hm hF h
theorem qA {op:RO} {R:Nat→Prop} (h:Sq orc T os (putO d v Γ) s F D Q) (hm:MS (ev Γ) s op v s R (fun _=>False):=by exact aSK) (hF:∀ k,R k→F k:=by exact cK):Sq orc T ((⟨d,op,none⟩,m) :: os) Γ s F D Q:=oY rfl hm hF h
theorem qT {op:RO} {s':S} {R W:Nat→Prop} (h:Sq orc T os (putO d v Γ) s' F D Q) (hm:MS (ev Γ) s op v s' R W:=by exact aOK) (hF:∀ k,R k→F k:=by exact cK):Sq orc T ((⟨d,op,none⟩,m) :: os) Γ s F D Q:=oY rfl hm hF h
theorem qC {f:FuncId} {as:List Opd} {args:List V} {F1:Nat→Prop} {Q1:V→S→Prop} (ha:as.map (ev Γ) = args:=by exact aHV) (hC:Cp orc T f args s F1 D Q1) (h:∀ v s',Q1 v s'→Sq orc T os (putO d v Γ) s' F D Q) (hF:∀ k,F1 k→F k:=by exact cK):Sq orc T ((⟨d,.call f as,none⟩,m) :: os) Γ s F D Q:=aqK rfl ha (Cp.mono hC hF (fun h=>h) h)
variable {b:Nat} {tab:List Nat} {i:Nat} {ds:List Fp} {k:Tr V→S→Prop}
theorem rV {x:Opd} (h:Dr orc T F D os tab (i + 1) ds (putO d v Γ) s k) (hx:ev Γ x = v:=by exact aK):Dr orc T F D ((⟨d,.mv x,none⟩,m) :: os) (b :: tab) i ds Γ s k:=uX rfl (pmv hx) h
theorem rP {op:RO} (h:Dr orc T F D os tab (i + 1) ds (putO d v Γ) s k) (hp:bJ (ev Γ) op = some v:=by exact abx):Dr orc T F D ((⟨d,op,none⟩,m) :: os) (b :: tab) i ds Γ s k:=uX rfl hp h
theorem rX {op:RO} (h:Dr orc T F D os tab (i + 1) ds (putO d v Γ) s k) (hp:bJ (ev Γ) op = some v:=by exact aPX):Dr orc T F D ((⟨d,op,none⟩,m) :: os) (b :: tab) i ds Γ s k:=uX rfl hp h
theorem rL {op:RO} {R:Nat→Prop} (h:Dr orc T F D os tab (i + 1) (ds++[⟨i,R,fun _=>False⟩]) (putO d v Γ) s k) (hm:MS (ev Γ) s op v s R (fun _=>False):=by exact G4) (hF:∀ k,R k→F k:=by exact cK) (ha:∀ x∈ds,apO b x R (fun _=>False):=by exact ahz):Dr orc T F D ((⟨d,op,none⟩,m) :: os) (b :: tab) i ds Γ s k:=Az rfl hm hF ha h
theorem rT {op:RO} {s':S} {R W:Nat→Prop} (h:Dr orc T F D os tab (i + 1) (ds++[⟨i,R,W⟩]) (putO d v Γ) s' k) (hm:MS (ev Γ) s op v s' R W:=by exact aOK) (hF:∀ k,R k→F k:=by exact cK) (ha:∀ x∈ds,apO b x R W:=by exact ahz):Dr orc T F D ((⟨d,op,none⟩,m) :: os) (b :: tab) i ds Γ s k:=Az rfl hm hF ha h
theorem qM {op:RO} {s':S} {R W:Nat→Prop} (hm:MS (ev Γ) s op v s' R W) (h:Sq orc T os (putO d v Γ) s' F D Q) (hF:∀ k,R k→F k:=by exact cK):Sq orc T ((⟨d,op,none⟩,m) :: os) Γ s F D Q:=oY rfl hm hF h
theorem rM {op:RO} {s':S} {R W:Nat→Prop} (hm:MS (ev Γ) s op v s' R W) (h:Dr orc T F D os tab (i + 1) (ds++[⟨i,R,W⟩]) (putO d v Γ) s' k) (hF:∀ k,R k→F k:=by exact cK) (ha:∀ x∈ds,apO b x R W:=by exact ahz):Dr orc T F D ((⟨d,op,none⟩,m) :: os) (b :: tab) i ds Γ s k:=Az rfl hm hF ha h
end
theorem lkL {Γ:Tr V} {t:Nat} {v:V} (h:look Γ t = v:=by exact iW):look Γ t = v:=h
section
variable {orc:bZ} {T:Tr RF} {F:Nat→Prop} {D:Prop} {d:Option Nat} {m:Nat} {os:List (ROp × Nat)} {Γ:Tr V} {s:S} {Q:Tr V→S→Prop} {v:V}
theorem qVL {x:Opd} (h:Sq orc T os (putO d v Γ) s F D Q) (hx:ev Γ x = v:=by exact iW):Sq orc T ((⟨d,.mv x,none⟩,m) :: os) Γ s F D Q:=dq rfl (pmv hx) h
theorem qPL {op:RO} (h:Sq orc T os (putO d v Γ) s F D Q) (hp:bJ (ev Γ) op = some v:=by exact aPq):Sq orc T ((⟨d,op,none⟩,m) :: os) Γ s F D Q:=dq rfl hp h
theorem qXL {op:RO} (h:Sq orc T os (putO d v Γ) s F D Q) (hp:bJ (ev Γ) op = some v:=by exact aHx):Sq orc T ((⟨d,op,none⟩,m) :: os) Γ s F D Q:=dq rfl hp h
theorem qLL {op:RO} {R:Nat→Prop} (h:Sq orc T os (putO d v Γ) s F D Q) (hm:MS (ev Γ) s op v s R (fun _=>False):=by exact Uz) (hF:∀ k,R k→F k:=by exact cK):Sq orc T ((⟨d,op,none⟩,m) :: os) Γ s F D Q:=oY rfl hm hF h
theorem qAL {op:RO} {R:Nat→Prop} (h:Sq orc T os (putO d v Γ) s F D Q) (hm:MS (ev Γ) s op v s R (fun _=>False):=by exact ajx) (hF:∀ k,R k→F k:=by exact cK):Sq orc T ((⟨d,op,none⟩,m) :: os) Γ s F D Q:=oY rfl hm hF h
theorem qTL {op:RO} {s':S} {R W:Nat→Prop} (h:Sq orc T os (putO d v Γ) s' F D Q) (hm:MS (ev Γ) s op v s' R W:=by exact aDZ) (hF:∀ k,R k→F k:=by exact cK):Sq orc T ((⟨d,op,none⟩,m) :: os) Γ s F D Q:=oY rfl hm hF h
theorem qCL {f:FuncId} {as:List Opd} {args:List V} {F1:Nat→Prop} {Q1:V→S→Prop} (ha:as.map (ev Γ) = args:=by exact abK) (hC:Cp orc T f args s F1 D Q1) (h:∀ v s',Q1 v s'→Sq orc T os (putO d v Γ) s' F D Q) (hF:∀ k,F1 k→F k:=by exact cK):Sq orc T ((⟨d,.call f as,none⟩,m) :: os) Γ s F D Q:=aqK rfl ha (Cp.mono hC hF (fun h=>h) h)
variable {b:Nat} {tab:List Nat} {i:Nat} {ds:List Fp} {k:Tr V→S→Prop}
theorem rVL {x:Opd} (h:Dr orc T F D os tab (i + 1) ds (putO d v Γ) s k) (hx:ev Γ x = v:=by exact iW):Dr orc T F D ((⟨d,.mv x,none⟩,m) :: os) (b :: tab) i ds Γ s k:=uX rfl (pmv hx) h
theorem rPL {op:RO} (h:Dr orc T F D os tab (i + 1) ds (putO d v Γ) s k) (hp:bJ (ev Γ) op = some v:=by exact aPq):Dr orc T F D ((⟨d,op,none⟩,m) :: os) (b :: tab) i ds Γ s k:=uX rfl hp h
theorem rXL {op:RO} (h:Dr orc T F D os tab (i + 1) ds (putO d v Γ) s k) (hp:bJ (ev Γ) op = some v:=by exact aHx):Dr orc T F D ((⟨d,op,none⟩,m) :: os) (b :: tab) i ds Γ s k:=uX rfl hp h
theorem rLL {op:RO} {R:Nat→Prop} (h:Dr orc T F D os tab (i + 1) (ds++[⟨i,R,fun _=>False⟩]) (putO d v Γ) s k) (hm:MS (ev Γ) s op v s R (fun _=>False):=by exact Uz) (hF:∀ k,R k→F k:=by exact cK) (ha:∀ x∈ds,apO b x R (fun _=>False):=by exact ahz):Dr orc T F D ((⟨d,op,none⟩,m) :: os) (b :: tab) i ds Γ s k:=Az rfl hm hF ha h
theorem rTL {op:RO} {s':S} {R W:Nat→Prop} (h:Dr orc T F D os tab (i + 1) (ds++[⟨i,R,W⟩]) (putO d v Γ) s' k) (hm:MS (ev Γ) s op v s' R W:=by exact aDZ) (hF:∀ k,R k→F k:=by exact cK) (ha:∀ x∈ds,apO b x R W:=by exact ahz):Dr orc T F D ((⟨d,op,none⟩,m) :: os) (b :: tab) i ds Γ s k:=Az rfl hm hF ha h
end
end Go.RM
