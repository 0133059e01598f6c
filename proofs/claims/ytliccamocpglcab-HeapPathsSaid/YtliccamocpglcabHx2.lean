/- The functions of the layer, walked by symbols in the raw machine, and their contracts. -/
import Derived.Test.YtliccamocpglcabHx1
import Derived.Test.YtliccamocpglcabRows
import Derived.KernelRfl
import Derived.RangeFuncNested
import Derived.RangeFuncBound
import Derived.RangeFuncCalls
import Derived.RangeFuncLeaves
import Derived.RangeFuncBox
import Derived.Shelf.Abstract
import Derived.WalkKit
import Derived.OwnWalkIn
import Derived.TacticsInMore
import Derived.LoopNIn
import Derived.LoopIn
import Derived.Shelf.SlSortCmp.NoneTotal
import Derived.Shelf.SlicesG.Cmp
import Derived.Ground.SlsfProg
import Derived.Ground.SlgcProg
import Derived.Deep.RegionHeld3
import Derived.Lib.Walk
import Derived.Handy
namespace Go.RM
open Go.VM (T mV tI)
open Go.Proofs Go.Proofs.Ytliccamocpglcab Go.RowKit Go.Shelf
set_option maxHeartbeats 4000000 in
theorem aBY {orc:bZ} {w0:World} (ho:jY Try.prog w0 orc) (hoi:fq orc) {H:Hp} {φ0:Ren} {b:Nat} {s:S} {a:Act} {w:World} {Γ:Tr V} {dn:Nat} (hdn:3≤dn) {obs:List HO} {rts:List Int} {r:Nat} {ls dv:List Nat} {dk:List Bool} {zs:List Int} {hb n6 n7 pd mv mk mz nb no:Nat}
  (st:StR [] w0 65 H H φ0 (look Γ) s a w) (g1:look Γ 1 = .c (.ptr hb 0)) (g6:look Γ 6 = .c (.ptr n6 0)) (g7:look Γ 7 = .c (.ptr n7 0)) (g29:look Γ 29 = .c (.fn dJ [.ptr nb 0])) (hR:aBQ b obs rts (r :: ls) dv dk zs hb n6 n7 pd mv mk mz nb no s)
  (hn:obs.length≤60) (hzl:zs.length = obs.length + 1) (hdl:dv.length = obs.length + 1) (hd:∀ v∈dv,v < obs.length + 1) (hls:∀ v∈ls,v < obs.length) (hll:ls.length≤1000)
  {Q:Exit→Act→World→Prop} (hQ:∀ D W φ s',w0.heap.size≤D→φ.ok = φ0.ok→φ.fz D = some (.deferred (some []))→StR [{ target:=.collected D,args:=#[] }] w0 65 H H φ (look Γ) s' { a with defers:=[{ target:=.collected D,args:=#[] }] } W→aBQ b obs rts (r :: ls) dv dk (ls.reverse.foldl (D6 (obs.map HO.size) dv) zs) hb n6 n7 pd mv mk mz nb no s'→Q .normal { a with defers:=[{ target:=.collected D,args:=#[] }] } W) :
  (Code.rangeFunc (.tmp 29) #[30,31] (rgA PX) (rB PX)).wpIn (FW none) dn Try.prog Q a w:=by
 obtain ⟨φ,hle,he,R,hi,hdf,hsz⟩:=st
 rw [Cx hi] at R
 obtain ⟨Bs,Bo,lm,bo,βo,lo,l1,l2,hG⟩:=apW R (by have:=hR.eb; simpa using this) hR.eo
 have hBs:=R.lt nb Bs ⟨_,_,l1⟩
 have hbo:=R.lt no bo ⟨_,_,l2⟩
 have hf1:∀ D,(φ.withFz fun _=>none).fz D = none:=fun _=>rfl
 have hev:a.eval (.tmp 29) = .func (.func 49) #[] #[.pointer (some ⟨Bs,Bo,none⟩)]:=by
  have h29:=he 29
  rw [g29] at h29
  have h29':RepX φ (a.tmps.getD 29 undef) (.fn 49 [.ptr nb 0]):=h29
  show a.tmps.getD 29 undef = _
  generalize a.tmps.getD 29 undef = v at h29'
  cases h29' with
  | fn _ cs _ hl hc =>
   obtain ⟨c,rfl⟩ : ∃ c,cs = [c]:=by
    cases cs with
    | nil=>simp at hl
    | cons c cs=>cases cs with
     | nil=>exact ⟨c,rfl⟩
     | cons _ _=>simp at hl
   have:=hc 0 c _ rfl rfl
   cases this with
   | ptr _ _ b β lim hb' =>
    rw [l1] at hb'
    cases hb'
    rfl
 have hpt:∀ {n},(∃ o,s.h.get n = some o∧o.live = true)→∃ l,(φ.withFz fun _=>none) n = some l:=fun ⟨o,h1,h2⟩=>arW (RepO.refz (fun _=>none) (R.rep _ o h1)) h2
 have hs1:(∃ l,(φ.withFz fun _=>none) hb = some l)∧(∃ l,(φ.withFz fun _=>none) n6 = some l)∧∃ l,(φ.withFz fun _=>none) n7 = some l:=⟨hpt ⟨_,hR.e1,rfl⟩,hpt ⟨_,hR.e6,rfl⟩,hpt ⟨_,hR.e7,rfl⟩⟩
 have hB0:=R.fr.size
 have k1:RepV (φ.withFz fun _=>none) (a.tmps.getD 1 undef) (.c (.ptr hb 0)):=by have:=he 1; rw [g1] at this; exact this.refz _
 have k6:RepV (φ.withFz fun _=>none) (a.tmps.getD 6 undef) (.c (.ptr n6 0)):=by have:=he 6; rw [g6] at this; exact this.refz _
 have k7:RepV (φ.withFz fun _=>none) (a.tmps.getD 7 undef) (.c (.ptr n7 0)):=by have:=he 7; rw [g7] at this; exact this.refz _
 have hgood:∀ {zs W},InvR w0 H (φ.withFz fun _=>none) b w.heap.size obs rts (r :: ls) dv dk hb n6 n7 pd mv mk mz nb no zs W→Go.Proofs.Good ⟨Bs,Bo,none⟩ bo (βo + 1) (ls.map fun (k:Nat)=>(k:Int)) W:=by
  rintro zs W ⟨ψ,s',h1,h2,h3,h4,h5,h6⟩
  obtain ⟨Bs',Bo',lm',bo',βo',lo',l1',l2',hG'⟩:=apW h3 (by have:=h6.eb; simpa using this) h6.eo
  have q1:=h1.loc nb _ l1
  have q2:=h1.loc no _ l2
  rw [l1'] at q1
  rw [l2'] at q2
  cases q1
  cases q2
  exact hG'
 have hfold:∀ (pre:List (ixAll obs.length)) x,(pre++[x]).foldl (fun z (y:ixAll obs.length)=>D6 (obs.map HO.size) dv z y.i) zs = D6 (obs.map HO.size) dv (pre.foldl (fun z (y:ixAll obs.length)=>D6 (obs.map HO.size) dv z y.i) zs) x.i:=fun pre x=>by rw [List.foldl_append]; rfl
 have hflen:∀ (pre:List (ixAll obs.length)),(pre.foldl (fun z (y:ixAll obs.length)=>D6 (obs.map HO.size) dv z y.i) zs).length = obs.length + 1:=by
  intro pre
  have:∀ (pre:List (ixAll obs.length)) (z:List Int),(pre.foldl (fun z (y:ixAll obs.length)=>D6 (obs.map HO.size) dv z y.i) z).length = z.length:=by
   intro pre
   induction pre with
   | nil=>intro z; rfl
   | cons x pre ih=>intro z; rw [List.foldl_cons,ih]; unfold D6 akx ZY; rw [uw,uw]
  rw [this,hzl]
 refine wpIn_rangeFunc_ownH (F:=FW none) rfl (by omega) (gf:=49) (lb:=#[.pointer (some ⟨Bs,Bo,none⟩)]) hev trivial (enters_of Try.func49 (by kernel_rfl) rfl) (encs:=akz obs.length)
  (Kp:=fun X Y=>Go.Proofs.Good ⟨Bs,Bo,none⟩ bo (βo + 1) (ls.map fun (k:Nat)=>(k:Int)) X→Go.Proofs.Good ⟨Bs,Bo,none⟩ bo (βo + 1) (ls.map fun (k:Nat)=>(k:Int)) Y)
  (S:=fun ys=>ys = upK (elI obs.length ls hls) (ls.map fun (k:Nat)=>(k:Int)).length) (Sp:=fun _=>True) (N:=(ls.map fun (k:Nat)=>(k:Int)).length) (w0:=w)
  (fun l J Jx W hW _ _ hY h0=>aOq (FW none) (dn - 1) trivial rfl (by omega) l Bs Bo bo (βo + 1) (ls.map fun (k:Nat)=>(k:Int)) (by rw [List.length_map]; omega) (akz obs.length) (elI obs.length ls hls) (fun k _=>aNK _ _ hls k) J Jx (fun pre x W hJ hlt=>hY pre x W hJ hlt) W (Wz hG (hW.block Bs hBs) (hW.block bo hbo)) h0)
  (fun h k x=>k (h x)) (fun W l o o' hl _ _ _ hg=>Wz hg (World.putObj_heap_other (by omega)) (World.putObj_heap_other (by omega))) (Below.refl _ _) (fun _=>rfl)
  (fun pre W=>InvR w0 H (φ.withFz fun _=>none) b w.heap.size obs rts (r :: ls) dv dk hb n6 n7 pd mv mk mz nb no (pre.foldl (fun z (y:ixAll obs.length)=>D6 (obs.map HO.size) dv z y.i) zs) W)
  (fun _ _ _=>False)
  (fun pre X Y row h hg hr=>h.grown hB0 hg fun r e=>(hr r e).1)
  (fun _ _ _ _ _ hs _ _=>hs)
  ⟨_,s,Ren.le_refl _,fun _=>rfl,R.refz _ (fun D o hD=>by simp at hD),hi,fun n p k _ _ hb'=>R.lt n k hb',hR⟩
  (fun x a' _=>AxR obs.length (φ.withFz fun _=>none) hb n6 n7 x a')
  (fun _ _ _ _ _ _ hs _ _=>hs)
  ?assign ?body ?done ?stop
 case assign =>
  intro l pre x W K hI hK
  exact aAK (n:=obs.length) ho hoi hf1 hs1 hsz k1 k6 k7 hI x fun a' W' h1 h2 h3=>hK a' W' h1 (fun _=>hgood h2) h2 h3
 case body =>
  intro l pre x a' W hl hr hI hA hlt
  rw [List.length_map] at hlt
  have hxi:x.i < obs.length:=by
   rcases x.ok with h0 | h0
   ·cases ls with
    | nil=>simp at hlt
    | cons v ls=>have:=hls v (List.mem_cons_self ..); omega
   ·exact h0
  refine awJ ho hoi hf1 hn (hflen pre) hdl hd hA hxi hI fun a'' W' h1 h2=>?_
  refine ⟨h1,fun _=>hgood h2,?_⟩
  show InvR _ _ _ _ _ _ _ _ _ _ _ _ _ _ _ _ _ _ _ _ _
  rw [hfold]
  exact h2
 case done =>
  rintro D xs W hD rfl ⟨ψ,s',h1,h2,h3,h4,h5,h6⟩ hW
  rw [hdf]
  have hfz:Rel w0 (ψ.withFz fun k=>if k = D then some (.deferred (some [])) else none) s'.h.get W:=h3.refz _ fun k o hk=>by
   split at hk
   ·rename_i hkD
    subst hkD
    cases hk
    exact ⟨hW,fun n p hn hp hb'=>by have:=h5 n p k hn hp hb'; omega⟩
   ·simp at hk
  have hleq:(φ.withFz fun _=>none).le (ψ.withFz fun k=>if k = D then some (.deferred (some [])) else none):=⟨h1.loc,h1.w0,h1.ok,fun k o hk=>by simp [Ren.withFz] at hk⟩
  refine hQ D W (ψ.withFz fun k=>if k = D then some (.deferred (some [])) else none) s' (by omega) (h1.ok.trans hle.ok) (by show (if D = D then _ else _) = _; rw [if_pos rfl]) ⟨_,Ren.le_refl _,fun t=>((he t).refz _).mono hleq,by rw [Cx h4]; exact hfz,h4,rfl,hsz⟩ ?_
  have:(upK (elI obs.length ls hls) (ls.map fun (k:Nat)=>(k:Int)).length).foldl (fun z (y:ixAll obs.length)=>D6 (obs.map HO.size) dv z y.i) zs = ls.reverse.foldl (D6 (obs.map HO.size) dv) zs:=by
   rw [← aJz obs.length ls hls,List.foldl_map,List.length_map]
  rw [← this]
  exact h6
 case stop =>
  rintro D c pre W _ _ h _
  exact h.elim
end Go.RM
namespace Go.RM
open Go.VM (T mV tI Pt Fun aZ lZ pV kX)
open Go.Proofs Go.Proofs.Ytliccamocpglcab Go.RowKit Go.Shelf
theorem Rel.putFz {w0 W:World} {φ:Ren} {h:Hp} (R:Rel w0 φ h W) {D:Nat} {o:Obj} (hD:φ.fz D = some o) (hw:w0.heap.size≤D) (o':Obj):Rel w0 (φ.withFz fun _=>none) h (W.putObj D o'):=by
 have hne:=(R.fz D o hD).2
 have hsame:∀ n p b,h n = some p→p.live = true→blk φ n b→(W.putObj D o').heap[b]? = W.heap[b]?:=fun n p b hn hp hb=>World.putObj_heap_other (fun e=>hne n p hn hp (by first | exact e ▸ hb | exact e.symm ▸ hb))
 have hg:=grownBy_putObj' W D o'
 refine ⟨fun n p hn=>((R.rep n p hn).refz (fun _=>none)).keep (Ren.le_refl _) (fun b ho hb=>hsame n p b hn ho hb) (fun m size seen b ho hb=>?_),R.inj,R.old,R.iters,R.dom,fun n b hb=>vw (R.lt n b hb) hg.size,⟨hg.os.trans R.fr.os,hg.tape.trans R.fr.tape,hg.output.trans R.fr.output,Nat.le_trans R.fr.size hg.size,fun b hb _=>(World.putObj_heap_other (by omega)).trans (R.fr.block b hb id)⟩,R.w0e,R.okl,fun D o hD=>by simp [Ren.withFz] at hD⟩
 obtain ⟨kd,es,hm⟩:=R.iters n m size seen (ho ▸ hn)
 exact hsame m _ b hm rfl hb
theorem ajJ {orc:bZ} {T:Tr RF} {A B:RC} {Γ:Tr V} {s:S} {F:Nat→Prop} {D:Prop} {Q:Ex→Tr V→S→Prop} (h:Wp orc T (.seq A B) Γ s F D Q):Wp orc T A Γ s F False fun e Γ s=>(e = .normal→Wp orc T B Γ s F False Q)∧(e ≠ .normal→Q e Γ s):=by
 obtain ⟨n,outs,r,h1,h2,h3,_⟩:=h
 cases n with
 | zero=>simp [exec] at h1
 | succ n =>
  dsimp only at h1
  rw [tj] at h1
  obtain ⟨l,r0,hl,hr0,hmem⟩:=tq h1
  refine ⟨n,l,r0,hl,fun p hp=>?_,fun k hk=>h3 k (hr0 k hk),fun h=>h.elim⟩
  obtain ⟨zs,q,hz,hzs,hq⟩:=hmem p hp
  obtain ⟨e,Γ1,s1⟩:=p
  refine ⟨fun he=>?_,fun he=>?_⟩
  ·subst he
   exact ⟨n,zs,q,hz,fun p hp=>h2 p (hzs p hp),fun k hk=>h3 k (hq k hk),fun h=>h.elim⟩
  ·cases e <;> first | exact absurd rfl he | (cases hz; exact h2 _ (hzs _ (gk.2 rfl)))
theorem FY {P:Program} {orc:bZ} {T:Tr RF} (hT:TOk P T) {w0:World} (ho:jY P w0 orc) (hoi:fq orc) {A B:RC} {x y:Code} {Γ:Tr V} {s:S} {F:Nat→Prop} {D:Prop} {Q:Ex→Tr V→S→Prop} {nt:Nat} {fr:Option Nat} {dn:Nat} {ds:List Deferred} {H:Hp} {φ0:Ren} {a:Act} {w:World} {Q':Exit→Act→World→Prop}
  (h:Wp orc T (.seq A B) Γ s F D Q) (hQ:∀ e Γ s,Q e Γ s→e = .normal) (hx:cV P nt x = some A) (st:StR ds w0 nt H H φ0 (look Γ) s a w) (hk:∀ Γ' s' a' w',Wp orc T B Γ' s' F False Q→StR ds w0 nt H H φ0 (look Γ') s' a' w'→y.wpIn (FW fr) dn P Q' a' w'):(Code.seq x y).wpIn (FW fr) dn P Q' a w:=by
 refine wpIn_seq (wpIn_mono (GW hT ho hoi (ajJ h) hx (fun _ _=>rfl) st) ?_)
 rintro e a' w' ⟨ex,Γ',s',hxm,⟨h1,h2⟩,st'⟩
 have hex:ex = .normal:=by
  by_cases he:ex = .normal
  ·exact he
  ·exact hQ _ _ _ (h2 he)
 subst hex
 cases e <;> simp only [XM] at hxm
 exact hk Γ' s' a' w' (h1 rfl) st'
def rcL:RC→RC | .seq a _=>a | c=>c
def rR:RC→RC | .seq _ b=>b | c=>c
set_option maxRecDepth 100000 in
theorem aux:p_heap_Retained_pre.code = .seq (rcL p_heap_Retained_pre.code) (.seq (rcL (rR p_heap_Retained_pre.code)) (.seq (rcL (rR (rR p_heap_Retained_pre.code))) (.seq (rcL (rR (rR (rR p_heap_Retained_pre.code)))) (.seq (rcL (rR (rR (rR (rR p_heap_Retained_pre.code))))) (rR (rR (rR (rR (rR p_heap_Retained_pre.code))))))))):=by kernel_rfl
set_option maxRecDepth 100000 in
theorem pc1:cV Try.prog 65 (sL Oz) = some (rcL p_heap_Retained_pre.code):=by kernel_rfl
set_option maxRecDepth 100000 in
theorem pc2:cV Try.prog 65 (sL (sR Oz)) = some (rcL (rR p_heap_Retained_pre.code)):=by kernel_rfl
set_option maxRecDepth 100000 in
theorem pc3:cV Try.prog 65 (sL (sR (sR Oz))) = some (rcL (rR (rR p_heap_Retained_pre.code))):=by kernel_rfl
set_option maxRecDepth 100000 in
theorem pc4:cV Try.prog 65 (sL (sR (sR (sR Oz)))) = some (rcL (rR (rR (rR p_heap_Retained_pre.code)))):=by kernel_rfl
set_option maxRecDepth 100000 in
theorem pc5:cV Try.prog 65 (sL (sR (sR (sR (sR Oz))))) = some (rcL (rR (rR (rR (rR p_heap_Retained_pre.code))))):=by kernel_rfl
set_option maxRecDepth 100000 in
theorem pc6:cV Try.prog 65 (sL (sL aoY)) = some (rR (rR (rR (rR (rR p_heap_Retained_pre.code))))):=by kernel_rfl
end Go.RM
namespace Go.RM
open Go.VM (T mV tI Pt Fun aZ lZ pV kX)
open Go.Proofs Go.Proofs.Ytliccamocpglcab Go.RowKit Go.Shelf
def sY (obs:List HO) (dv ls:List Nat):List Int:=ls.reverse.foldl (D6 (obs.map HO.size) dv) (List.replicate (obs.length + 1) 0)
theorem J7 (obs:List HO) (dv ls:List Nat):(sY obs dv ls).length = obs.length + 1:=by
 unfold sY
 have:∀ (l:List Nat) (z:List Int),(l.foldl (D6 (obs.map HO.size) dv) z).length = z.length:=by
  intro l
  induction l with
  | nil=>intro z; rfl
  | cons x l ih=>intro z; rw [List.foldl_cons,ih]; unfold D6 akx ZY; rw [uw,uw]
 rw [this,mw]
set_option maxHeartbeats 4000000 in
theorem Gx {orc:bZ} (ho:∀ w0,jY Try.prog w0 orc) (hoi:fq orc) {obs:List HO} {rts:List Int} {to fr:List (List Nat)} {r:Nat} {ls vals:List Nat} {known:List Bool} (hB:AW orc obs rts to fr (r :: ls) vals known) {dv:List Nat} {dk:List Bool} (hD:aeV orc to fr (r :: ls) vals known dv dk) (hc:lV orc (obs.map eQ) (rts.map fY) 0)
  (hd:∀ v∈dv,v < obs.length + 1) (hls:∀ v∈ls,v < obs.length) (hll:ls.length≤1000) (hS0:Sb 0 s0) {w:World} {φ:Ren} (R:Rel w φ (d7 (fun _=>none) s0) w) {arg:Value} (harg:RepV φ arg (.agg [.im 4 (obs.map eQ),.im 1 (rts.map fY)])) :
  Calls Try.prog 16 #[arg] w fun e w'=>∃ (v:Value) (ψ:Ren) (t:S) (m:Nat),e = .returned v∧ψ.ok = φ.ok∧Rel w ψ t.h.get w'∧RepV ψ v (.tup [.c (.sl m 1 0 obs.length),iV 0])∧t.h.get m = some (.cells cj ((sY obs dv ls).map sI)):=by
 refine (callsIn_wide (n:=5)).1 ?_
 refine callsIn_of_wp_marks (F:=FW none) (c:=Oz) Try.func16 (by kernel_rfl) trivial ?_ rfl
 rw [Try.ntmps16,atY]
 have st:StR [] w 65 (fun _=>none) (fun _=>none) φ (look (slots [(0,.agg [.im 4 (obs.map eQ),.im 1 (rts.map fY)])])) s0 { tmps:=#[arg]++Array.replicate (65 - #[arg].size) undef,defers:=[] } w:=by
  have bj:(#[arg]++Array.replicate (65 - #[arg].size) undef).getD 0 undef = arg:=by
   rw [Array.getD_eq_getD_getElem?,Array.getElem?_append_left (by simp)]
   rfl
  have hsz:65≤(#[arg]++Array.replicate (65 - #[arg].size) undef).size:=by
   rw [Array.size_append,Array.size_replicate]
   omega
  have hin:Inv (fun _=>none) s0:=fun n _=>rfl
  generalize #[arg]++Array.replicate (65 - #[arg].size) undef = tm at bj hsz
  refine ⟨φ,Ren.le_refl _,N9 fun p hp=>?_,R,hin,rfl,hsz⟩
  rw [gk.1 hp]
  show RepV φ (tm.getD 0 undef) _
  rw [bj]
  exact harg
 have hpre:=aLK (orc:=orc) (b:=0) (s:=s0) hS0 hB hD hc (by simp) (Γ:=slots [(0,.agg [.im 4 (obs.map eQ),.im 1 (rts.map fY)])]) (by simp only [evS,slots,List.foldr,reduceIte])
 rw [aux] at hpre
 have hN:∀ {P:Prop} {e:Ex},e = .normal∧P→e = .normal:=fun h=>h.1
 refine FY rW (ho w) hoi hpre (fun _ _ _ h=>h.1) pc1 st fun Γ1 s1 a1 w1 h1 st1=>?_
 refine FY rW (ho w) hoi h1 (fun _ _ _ h=>h.1) pc2 st1 fun Γ2 s2 a2 w2 h2 st2=>?_
 refine FY rW (ho w) hoi h2 (fun _ _ _ h=>h.1) pc3 st2 fun Γ3 s3 a3 w3 h3 st3=>?_
 refine FY rW (ho w) hoi h3 (fun _ _ _ h=>h.1) pc4 st3 fun Γ4 s4 a4 w4 h4 st4=>?_
 refine FY rW (ho w) hoi h4 (fun _ _ _ h=>h.1) pc5 st4 fun Γ5 s5 a5 w5 h5 st5=>?_
 refine wpIn_seq (wpIn_seq (wpIn_mono (GW rW (ho w) hoi h5 pc6 (fun _ _=>rfl) st5) ?_))
 rintro e a6 w6 ⟨ex,Γ6,s6,hx,⟨rfl,hb,n6,n7,pd,mv,mk,mz,nb,no,g1,g6,g7,g29,hR⟩,st6⟩
 cases e <;> simp only [XM] at hx
 have hvl:=hD.vl
 rw [hB.tol] at hvl
 refine wpIn_block (aBY (ho w) hoi (by omega:3≤5) st6 g1 g6 g7 g29 hR hB.small (mw ..) hvl hd hls hll fun D W ψ s' hwD hok hfz st' hR'=>?_)
 show cPost.wpIn _ _ _ _ _ _
 refine wpIn_mono (GW rW (ho w) hoi (aEz (orc:=orc) hR' (J7 obs dv ls) g1 g7) auW (fun _ _=>rfl) st') ?_
 rintro e a7 w7 ⟨ex,Γ7,s7,hx7,⟨rfl,rfl,k2,k3⟩,ψ2,hle2,he2,R2,hi2,hd2,hs2⟩
 have R2':=R2
 rw [Cx hi2] at R2
 have hfz2:=hle2.fz D _ hfz
 have hK:=(R2.fz D _ hfz2).1
 cases e <;> simp only [XM] at hx7
 have R3:=R2'.putFz hfz2 hwD (.deferred none)
 have R4:=R3
 rw [Cx hi2] at R4
 have hres:PW [.tmp 2,.tmp 3] Γ7 s7 = some ([(.tup [.c (.sl mz 1 0 obs.length),iV 0],s7)],0):=by
  have:tK Γ7 s7 [.tmp 2,.tmp 3] = some ([.c (.sl mz 1 0 obs.length),iV 0],0):=by simp only [tK,evS,k2,k3]; rfl
  unfold PW
  rw [this]
  rfl
 obtain ⟨v,hv,p,hp,hps,hrep⟩:=B9 (P:=Try.prog) (fn:=Try.f16) (fun t=>(he2 t).refz _) R3 hi2 (by kernel_rfl:Try.f16.results.toList.mapM (B1 Try.prog) = some [.tmp 2,.tmp 3]) hres (fun _ _=>rfl)
 rw [gk.1 hp] at hrep
 show LeavesInM _ _ _ _ _ _ a7.defers .returning w7
 rw [hd2]
 refine ⟨by simp,.inl ⟨D,_,rfl,run_takeDeferred hK,?_⟩⟩
 exact ⟨v,hv,v,ψ2.withFz fun _=>none,s7,mz,rfl,hle2.ok.trans hok,R4,hrep,hR'.ez⟩
end Go.RM
namespace Go.RM
open Go.VM (T mV tI Pt Fun aZ lZ pV kX)
open Go.Proofs Go.Proofs.Ytliccamocpglcab
def BX (l:List Int):List (List T):=l.map fun z=>[tI z]
theorem Rz (l:List Int):(BX l).flatten = l.map tI:=by
 unfold BX
 induction l with
 | nil=>rfl
 | cons x l ih=>rw [List.map_cons,List.flatten_cons,ih]; rfl
theorem G7 {h:Hp} {fresh:Bool} {m n:Nat} {e:TypeId} {l:List Int} (hm:h m = some (.cells e (l.map sI))) (hn:n≤l.length):TreeX h fresh (.sl m 1 0 n) (.sl 1 (BX (l.take n))):=by
 have hl:(BX (l.take n)).length = n:=by unfold BX; rw [List.length_map,List.length_take]; omega
 have:=TreeX.sl (h:=h) (fresh:=fresh) m 1 0 (BX (l.take n)) e (l.map sI) ((l.take n).map sI) hm ?_ ?_ ?_ ?_
 ·rw [hl] at this; exact this
 ·rw [hl]
  unfold cut
  simp only [List.drop_zero,Nat.mul_one,← List.map_take]
  rw [show ((l.take n).map sI).length = n by rw [List.length_map,List.length_take]; omega,Nat.beq_refl]
  rfl
 ·intro row hr
  unfold BX at hr
  obtain ⟨z,_,rfl⟩:=xk.1 hr
  rfl
 ·rw [Rz,List.length_map,List.length_map]
 ·intro j x t hx ht
  rw [Rz,gw] at ht
  rw [gw] at hx
  cases hz:(l.take n)[j]? with
  | none=>rw [hz] at hx; simp at hx
  | some z =>
   rw [hz] at hx ht
   cases hx
   cases ht
   exact TreeX.sc _
theorem Y1 {orc:bZ} (ho:∀ w0,jY Try.prog w0 orc) (hoi:fq orc) {obs:List HO} {rts:List Int} {to fr:List (List Nat)} {r:Nat} {ls vals:List Nat} {known:List Bool} (hB:AW orc obs rts to fr (r :: ls) vals known) {dv:List Nat} {dk:List Bool} (hD:aeV orc to fr (r :: ls) vals known dv dk) (hc:lV orc (obs.map eQ) (rts.map fY) 0)
  (hd:∀ v∈dv,v < obs.length + 1) (hls:∀ v∈ls,v < obs.length) (hll:ls.length≤1000) (fresh:Bool) :
  Fun Try.prog 16 fresh [] [.agg [.imm (.sl 4 (obs.map eQ)),.imm (.sl 1 (rts.map fY))]] aZ (.tup [.c (.imm (.sl 1 (BX ((sY obs dv ls).take obs.length)))),.c (.imm (tI 0))]) aZ:=by
 refine aix (us:=[.agg [.im 4 (obs.map eQ),.im 1 (rts.map fY)]]) rfl fun w φ args R hp=>?_
 obtain ⟨arg,rfl⟩ : ∃ arg,args = [arg]:=by
  have:=hp.1
  cases args with
  | nil=>simp at this
  | cons a l=>cases l with
   | nil=>exact ⟨a,rfl⟩
   | cons _ _=>simp at this
 refine (Gx ho hoi hB hD hc hd hls hll ⟨ik _,fun _ _=>rfl,fun k h=>by simp [s0] at h⟩ R (hp.2 0 arg _ rfl rfl)).mono fun e w' hh=>?_
 obtain ⟨v,ψ,t,m,h1,h2,h3,h4,h5⟩:=hh
 exact ⟨v,ψ,t,_,h1,h2,h3,h4,Pt.cons (G7 h5 (by rw [J7]; omega)) (Pt.cons (TreeX.sc _) Pt.nil)⟩
end Go.RM
namespace Go.RM
open Go.VM (T mV tI Pt Fun aZ lZ pV kX)
open Go.Proofs Go.Proofs.Ytliccamocpglcab
theorem sb0:Sb 0 s0:=⟨ik _,fun _ _=>rfl,fun k h=>by simp [s0] at h⟩
theorem S9 {orc:bZ} (ho:∀ w0,jY Try.prog w0 orc) (hoi:fq orc) {obs:List HO} {rts:List Int} {to fr:List (List Nat)} {ord vals:List Nat} {known:List Bool} (hB:AW orc obs rts to fr ord vals known) {dv:List Nat} {dk:List Bool} (hD:aeV orc to fr ord vals known dv dk) (hc:lV orc (obs.map eQ) (rts.map fY) 0) (fresh:Bool) :
  Fun Try.prog jW fresh [] [.agg [.imm (.sl 4 (obs.map eQ)),.imm (.sl 1 (rts.map fY))]] aZ (.tup [.c (.imm (.sl 1 (BX (qx obs.length dv dk)))),.c (.imm (tI 0))]) aZ:=by
 have hl:(qx obs.length dv dk).length = obs.length:=by rw [qx,List.length_map,List.length_range]
 refine pW rW ho hoi (us:=[.agg [.im 4 (obs.map eQ),.im 1 (rts.map fY)]]) rfl (aiX sb0 hB hD hc) fun v s ⟨m,hv,hm⟩=>?_
 subst hv
 have:=G7 (fresh:=fresh) (n:=obs.length) hm (by omega)
 rw [List.take_of_length_le (by omega)] at this
 exact Pt.cons this (Pt.cons (TreeX.sc _) Pt.nil)
theorem yj {h:Hp} {fresh:Bool} {e:Int}:TreeV h fresh (.tup [.c (.sc dZ),iV e]) (.tup [.c (.imm (.sl 1 [])),.c (.imm (tI e))]):=Pt.cons (TreeX.nil 1) (Pt.cons (TreeX.sc _) Pt.nil)
theorem TK {orc:bZ} (ho:∀ w0,jY Try.prog w0 orc) (hoi:fq orc) {rows roots:List (List T)} {e:Int} (hc:lV orc rows roots e) (he:e ≠ 0) (fresh:Bool) :
  Fun Try.prog jW fresh [] [.agg [.imm (.sl 4 rows),.imm (.sl 1 roots)]] aZ (.tup [.c (.imm (.sl 1 [])),.c (.imm (tI e))]) aZ :=
 pW rW ho hoi (us:=[.agg [.im 4 rows,.im 1 roots]]) rfl (aeZ sb0 hc he) fun v s hv=>by subst hv; exact yj
theorem Yq {orc:bZ} (ho:∀ w0,jY Try.prog w0 orc) (hoi:fq orc) {rows roots:List (List T)} {e:Int} (hc:M1 orc rows roots e) (he:e ≠ 0) (fresh:Bool) :
  Fun Try.prog j8 fresh [] [.agg [.imm (.sl 4 rows),.imm (.sl 1 roots)]] aZ (.tup [.c (.imm (.sl 1 [])),.c (.imm (tI e))]) aZ :=
 pW arx ho hoi (us:=[.agg [.im 4 rows,.im 1 roots]]) rfl (O8 sb0 hc he) fun v s hv=>by obtain ⟨hv,_⟩:=hv; subst hv; exact yj
theorem avJ {orc:bZ} (ho:∀ w0,jY Try.prog w0 orc) (hoi:fq orc) {rows roots:List (List T)} {e:Int} (hc:lV orc rows roots e) (he:e ≠ 0) (fresh:Bool) :
  Fun Try.prog p8 fresh [] [.agg [.imm (.sl 4 rows),.imm (.sl 1 roots)]] aZ (.tup [.c (.imm (.sl 1 [])),.c (.imm (tI e))]) aZ :=
 pW rW ho hoi (us:=[.agg [.im 4 rows,.im 1 roots]]) rfl (axX sb0 hc he) fun v s hv=>by subst hv; exact yj
end Go.RM
namespace Go.RM
open Go.VM (T mV tI Pt Fun aZ lZ pV kX)
open Go.Proofs Go.Proofs.Ytliccamocpglcab
def tB (b:Bool):T:=.sc (.bool b)
def MY (l:List Bool):List (List T):=l.map fun z=>[tB z]
theorem SW (l:List Bool):(MY l).flatten = l.map tB:=by
 unfold MY
 induction l with
 | nil=>rfl
 | cons x l ih=>rw [List.map_cons,List.flatten_cons,ih]; rfl
theorem ajX {h:Hp} {fresh:Bool} {m:Nat} {e:TypeId} {l:List Bool} (hm:h m = some (.cells e (l.map bI))):TreeX h fresh (.sl m 1 0 l.length) (.sl 1 (MY l)):=by
 have hl:(MY l).length = l.length:=by unfold MY; rw [List.length_map]
 have:=TreeX.sl (h:=h) (fresh:=fresh) m 1 0 (MY l) e (l.map bI) (l.map bI) hm ?_ ?_ ?_ ?_
 ·rw [hl] at this; exact this
 ·rw [hl]
  unfold cut
  simp only [List.drop_zero,Nat.mul_one]
  rw [List.take_of_length_le (by rw [List.length_map]; omega),List.length_map,Nat.beq_refl]
  rfl
 ·intro row hr
  unfold MY at hr
  obtain ⟨z,_,rfl⟩:=xk.1 hr
  rfl
 ·rw [SW,List.length_map,List.length_map]
 ·intro j x t hx ht
  rw [SW,gw] at ht
  rw [gw] at hx
  cases hz:l[j]? with
  | none=>rw [hz] at hx; simp at hx
  | some z =>
   rw [hz] at hx ht
   cases hx
   cases ht
   exact TreeX.sc _
theorem auJ {orc:bZ} (ho:∀ w0,jY Try.prog w0 orc) (hoi:fq orc) {obs:List HO} {rts:List Int} {to fr:List (List Nat)} {ord vals:List Nat} {known:List Bool} (hB:AW orc obs rts to fr ord vals known) (hc:lV orc (obs.map eQ) (rts.map fY) 0) (fresh:Bool) :
  Fun Try.prog p8 fresh [] [.agg [.imm (.sl 4 (obs.map eQ)),.imm (.sl 1 (rts.map fY))]] aZ (.tup [.c (.imm (.sl 1 (MY (known.take obs.length)))),.c (.imm (tI 0))]) aZ:=by
 have hl:(known.take obs.length).length = obs.length:=by rw [List.length_take,hB.kl]; omega
 refine pW rW ho hoi (us:=[.agg [.im 4 (obs.map eQ),.im 1 (rts.map fY)]]) rfl (ayj sb0 hB hc) fun v s ⟨m,hv,hm⟩=>?_
 subst hv
 have:=ajX (fresh:=fresh) hm
 rw [hl] at this
 exact Pt.cons this (Pt.cons (TreeX.sc _) Pt.nil)
end Go.RM
namespace Go.RM
open Go.VM (T mV tI Pt Fun aZ lZ pV kX)
open Go.Proofs Go.Proofs.Ytliccamocpglcab
theorem acW {orc:bZ} (ho:∀ w0,jY Try.prog w0 orc) (hoi:fq orc) {obs:List HO} {rts:List Int} {to fr:List (List Nat)} {ord vals:List Nat} {known:List Bool} (hB:AW orc obs rts to fr ord vals known) (hc:lV orc (obs.map eQ) (rts.map fY) 0) (htl:∀ l∈to,l.length≤1000) {id:Int} {want:Nat} (hf:S4 orc (obs.map eQ) (rts.map fY) id want true) (hwant:want < obs.length)
  {f:Nat} {bv:List Nat} {bk:List Bool} (hbfs:L0 to f (((List.replicate (obs.length + 1) 0).set obs.length obs.length,(List.replicate (obs.length + 1) false).set obs.length true),[obs.length]) = some (bv,bk))
  {kw:Bool} (hkw:bk[want]? = some kw) {f2:Nat} {acc:List Int} (hback:kw = true→BQ obs bv f2 want [] = some acc∧acc.length≤1000∧0 < acc.length) (fresh:Bool) :
  Fun Try.prog nQ fresh [] [.agg [.imm (.sl 4 (obs.map eQ)),.imm (.sl 1 (rts.map fY))],.c (.imm (tI id))] aZ (if kw then .tup [.c (.imm (.sl 1 (BX acc.reverse))),.c (.imm (tI 0))] else .tup [.c (.imm (.sl 1 [])),.c (.imm (tI 5))]) aZ:=by
 refine pW rW ho hoi (us:=[.agg [.im 4 (obs.map eQ),.im 1 (rts.map fY)],.c (.sc (.int .i64 id))]) rfl (aIJ sb0 hB hc htl hf hwant hbfs hkw hback) fun v s hv=>?_
 rcases hv with ⟨hk,hv⟩ | ⟨hk,m,hv,hm⟩
 ·subst hk hv
  exact yj
 ·subst hk hv
  have:=G7 (fresh:=fresh) (n:=acc.length) hm (by rw [List.length_reverse]; omega)
  rw [List.take_of_length_le (by rw [List.length_reverse]; omega)] at this
  exact Pt.cons this (Pt.cons (TreeX.sc _) Pt.nil)
theorem aGj {orc:bZ} (ho:∀ w0,jY Try.prog w0 orc) (hoi:fq orc) {rows roots:List (List T)} {e:Int} (hc:lV orc rows roots e) (he:e ≠ 0) (id:Int) (fresh:Bool) :
  Fun Try.prog nQ fresh [] [.agg [.imm (.sl 4 rows),.imm (.sl 1 roots)],.c (.imm (tI id))] aZ (.tup [.c (.imm (.sl 1 [])),.c (.imm (tI e))]) aZ :=
 pW rW ho hoi (us:=[.agg [.im 4 rows,.im 1 roots],.c (.sc (.int .i64 id))]) rfl (aFj sb0 hc he id) fun v s hv=>by subst hv; exact yj
theorem awx {orc:bZ} (ho:∀ w0,jY Try.prog w0 orc) (hoi:fq orc) {rows roots:List (List T)} (hc:lV orc rows roots 0) {id:Int} {k:Nat} (hf:S4 orc rows roots id k false) (fresh:Bool) :
  Fun Try.prog nQ fresh [] [.agg [.imm (.sl 4 rows),.imm (.sl 1 roots)],.c (.imm (tI id))] aZ (.tup [.c (.imm (.sl 1 [])),.c (.imm (tI 5))]) aZ :=
 pW rW ho hoi (us:=[.agg [.im 4 rows,.im 1 roots],.c (.sc (.int .i64 id))]) rfl (atW sb0 hc hf) fun v s hv=>by subst hv; exact yj
end Go.RM
namespace Go.VM
open Go Go.Proofs Go.Proofs.Ytliccamocpglcab
open Go.Shelf
def srsSort_ren:Go.Shelf.Ren:=⟨fun | 6=>28 | 15=>45 | 14=>44 | 28=>60 | 29=>61 | 20=>52 | 21=>53 | 22=>54 | 23=>55 | 24=>56 | 25=>57 | 26=>58 | 27=>59 | 46=>63 | 47=>64 | 48=>65 | 49=>66 | 50=>67 | 57=>69 | n=>n,fun | 22=>23 | 24=>3 | 25=>58 | 3=>3 | 39=>75 | 0=>0 | 53=>90 | 55=>92 | 4=>4 | 46=>84 | 45=>83 | 50=>39 | 5=>5 | 9=>9 | 66=>94 | 70=>98 | 76=>100 | 77=>101 | n=>n,fun | n=>n⟩
theorem srsSort:Go.Proofs.SlLaysF.n6 Try.prog srsSort_ren:={
 mixed:=by kernel_rfl
 f6:=⟨Try.f28.name,by decide,Try.func28.trans (congrArg some (by kernel_rfl))⟩
 f14:=⟨Try.f44.name,by decide,Try.func44.trans (congrArg some (by kernel_rfl))⟩
 f15:=Try.func45.trans (congrArg some (by kernel_rfl))
 f20:=⟨Try.f52.name,by decide,Try.func52.trans (congrArg some (by kernel_rfl))⟩
 f21:=⟨Try.f53.name,by decide,Try.func53.trans (congrArg some (by kernel_rfl))⟩
 f22:=⟨Try.f54.name,by decide,Try.func54.trans (congrArg some (by kernel_rfl))⟩
 f23:=⟨Try.f55.name,by decide,Try.func55.trans (congrArg some (by kernel_rfl))⟩
 f24:=⟨Try.f56.name,by decide,Try.func56.trans (congrArg some (by kernel_rfl))⟩
 f25:=⟨Try.f57.name,by decide,Try.func57.trans (congrArg some (by kernel_rfl))⟩
 f26:=⟨Try.f58.name,by decide,Try.func58.trans (congrArg some (by kernel_rfl))⟩
 f27:=⟨Try.f59.name,by decide,Try.func59.trans (congrArg some (by kernel_rfl))⟩
 f28:=Try.func60.trans (congrArg some (by kernel_rfl))
 f29:=Try.func61.trans (congrArg some (by kernel_rfl))
 f46:=⟨Try.f63.name,by decide,Try.func63.trans (congrArg some (by kernel_rfl))⟩
 f47:=Try.func64.trans (congrArg some (by kernel_rfl))
 f48:=Try.func65.trans (congrArg some (by kernel_rfl))
 f49:=⟨Try.f66.name,by decide,Try.func66.trans (congrArg some (by kernel_rfl))⟩
 f50:=⟨Try.f67.name,by decide,Try.func67.trans (congrArg some (by kernel_rfl))⟩
 f57:=⟨Try.f69.name,by decide,Try.func69.trans (congrArg some (by kernel_rfl))⟩
 t0:=Try.underlying0
 a0:=Try.isAgg0
 z0:=Try.sizeOf0
 v0:=Try.zeroValue0
 t3:=Try.underlying3
 a3:=Try.isAgg3
 z3:=Try.sizeOf3
 v3:=Try.zeroValue3
 t4:=Try.underlying4
 a4:=Try.isAgg4
 z4:=Try.sizeOf4
 v4:=Try.zeroValue4
 t5:=Try.underlying5
 a5:=Try.isAgg5
 z5:=Try.sizeOf5
 v5:=Try.zeroValue5
 t9:=Try.underlying9
 a9:=Try.isAgg9
 z9:=Try.sizeOf9
 v9:=Try.zeroValue9
 t22:=Try.underlying23
 a22:=Try.isAgg23
 z22:=Try.sizeOf23
 v22:=Try.zeroValue23
 a24:=Try.isAgg3
 z24:=Try.sizeOf3
 t25:=Try.underlying58
 a25:=Try.isAgg58
 z25:=Try.sizeOf58
 v25:=Try.zeroValue58
 t39:=Try.underlying75
 a39:=Try.isAgg75
 z39:=Try.sizeOf75
 v39:=Try.zeroValue75
 t45:=Try.underlying83
 a45:=Try.isAgg83
 z45:=Try.sizeOf83
 v45:=Try.zeroValue83
 t46:=Try.underlying84
 a46:=Try.isAgg84
 z46:=Try.sizeOf84
 v46:=Try.zeroValue84
 t50:=Try.underlying39
 a50:=Try.isAgg39
 z50:=Try.sizeOf39
 v50:=Try.zeroValue39
 t53:=Try.underlying90
 a53:=Try.isAgg90
 z53:=Try.sizeOf90
 v53:=Try.zeroValue90
 t55:=Try.underlying92
 a55:=Try.isAgg92
 z55:=Try.sizeOf92
 v55:=Try.zeroValue92
 t66:=Try.underlying94
 a66:=Try.isAgg94
 z66:=Try.sizeOf94
 v66:=Try.zeroValue94
 t70:=Try.underlying98
 a70:=Try.isAgg98
 z70:=Try.sizeOf98
 v70:=Try.zeroValue98
 t76:=Try.underlying100
 a76:=Try.isAgg100
 z76:=Try.sizeOf100
 v76:=Try.zeroValue100
 t77:=Try.underlying101
 a77:=Try.isAgg101
 z77:=Try.sizeOf101
 v77:=Try.zeroValue101 }
def aiQ:Go.Shelf.Ren:=⟨fun | 5=>31 | 7=>46 | n=>n,fun | 22=>3 | 3=>3 | 4=>4 | n=>n,fun | n=>n⟩
theorem srsCmp:Go.Proofs.SlLaysC2.n5 Try.prog aiQ:={
 mixed:=by kernel_rfl
 f5:=⟨Try.f31.name,by decide,Try.func31.trans (congrArg some (by kernel_rfl))⟩
 f7:=⟨Try.f46.name,by decide,Try.func46.trans (congrArg some (by kernel_rfl))⟩
 t3:=Try.underlying3
 a3:=Try.isAgg3
 z3:=Try.sizeOf3
 v3:=Try.zeroValue3
 t4:=Try.underlying4
 a4:=Try.isAgg4
 z4:=Try.sizeOf4
 v4:=Try.zeroValue4
 t22:=Try.underlying3
 a22:=Try.isAgg3
 z22:=Try.sizeOf3
 v22:=Try.zeroValue3 }
end Go.VM
namespace Go.RM
open Go Go.Proofs Go.Proofs.Ytliccamocpglcab Go.Shelf Go.Sort
def orI (a b:Int):Int:=if a ≠ 0 then a else b
set_option maxHeartbeats 2000000 in
theorem aHj (a b:Int) (W:World) (q cap:Nat) (h0:W.cell? ⟨q,0,none⟩ = some (.int .i64 a)) (h1:W.cell? ⟨q,1,none⟩ = some (.int .i64 b)) :
  Calls Try.prog 30 #[.slice (some ⟨q,0,none⟩) 2 cap] W fun e w'=>e = .returned (.int .i64 (orI a b))∧w' = W:=by
 go_enter Try.func30,Try.ntmps30
 go_wp2
 refine wp_loop_rounds 3 ?_
 rw [rounds_succ]
 go_wp2
 ·go_ret
  rename_i h
  refine ⟨?_,rfl⟩
  rw [orI,if_pos (by simpa using h)]
  rfl
 ·rename_i h
  rw [rounds_succ]
  go_wp2
  ·go_ret
   refine ⟨?_,rfl⟩
   rw [orI,if_neg (by simpa using h)]
   rfl
  ·rename_i h2
   rw [rounds_succ]
   go_wp2
   go_ret
   refine ⟨?_,rfl⟩
   have hb:b = 0:=by simpa using h2
   rw [orI,if_neg (by simpa using h),hb]
   rfl
set_option maxHeartbeats 8000000 in
theorem aJx (x y:Nat) (sx sy ix iy:Int) (W:World) (q6 o6 q2 o2 mz om oz oo n1 c1 n2 c2:Nat) (hx:x < n1) (hy:y < n1) (hx2:x < n2) (hy2:y < n2)
  (h6:W.cell? ⟨q6,o6,none⟩ = some (.slice (some ⟨mz,om,none⟩) n1 c1)) (h2:W.cell? ⟨q2,o2,none⟩ = some (.slice (some ⟨oz,oo,none⟩) n2 c2))
  (hsx:W.cell? ⟨mz,om + x,none⟩ = some (.int .i64 sx)) (hsy:W.cell? ⟨mz,om + y,none⟩ = some (.int .i64 sy)) (hix:W.cell? ⟨oz,oo + x * 4,none⟩ = some (.int .i64 ix)) (hiy:W.cell? ⟨oz,oo + y * 4,none⟩ = some (.int .i64 iy)) :
  Calls Try.prog 29 #[.int .i64 (x:Int),.int .i64 (y:Int),.pointer (some ⟨q6,o6,none⟩),.pointer (some ⟨q2,o2,none⟩)] W fun e w'=>e = .returned (.int .i64 (orI (Go.Lib.compareInt sy sx) (Go.Lib.compareInt ix iy)))∧∃ q os',w' = grow (W.drewN q) os':=by
 have hcon:=fun a c W'=>AnyG.cmp_Compare_int Go.VM.srsCmp a c W'
 change ∀ a c W',Calls Try.prog 31 _ _ _ at hcon
 go_enter Try.func29,Try.ntmps29
 go_wp2
 go_region_held3 (fun w'=>w'.cell? ⟨q6,o6,none⟩ = some (.slice (some ⟨mz,om,none⟩) n1 c1)∧w'.cell? ⟨q2,o2,none⟩ = some (.slice (some ⟨oz,oo,none⟩) n2 c2)∧w'.cell? ⟨mz,om + x,none⟩ = some (.int .i64 sx)∧w'.cell? ⟨mz,om + y,none⟩ = some (.int .i64 sy)∧w'.cell? ⟨oz,oo + x * 4,none⟩ = some (.int .i64 ix)∧w'.cell? ⟨oz,oo + y * 4,none⟩ = some (.int .i64 iy)) (go_keep) (first | (go_at_call 31; refine (hcon _ _ _).mono ?_; rintro e w' ⟨rfl,rfl⟩) | (go_at_call 30; refine (aHj (Go.Lib.compareInt sy sx) (Go.Lib.compareInt ix iy) _ _ _ (by simp [go_sem]) (by simp [go_sem])).mono ?_; rintro e w' ⟨rfl,rfl⟩))
 go_wp2
 go_ret
 exact ⟨rfl,1,_,by rw [alloc_eq_grow]; rfl⟩
end Go.RM
namespace Go.RM
open Go.VM (T mV tI Pt Fr RepT)
open Go Go.Proofs Go.Proofs.Ytliccamocpglcab Go.Shelf Go.Sort Go.RowKit
theorem aiq {w0 w w':World} {φ ψ:Ren} {h h':Hp} {c m:Nat} {e:TypeId} {xs:List X} (R:Rel w0 φ h w) (hc:h c = none) (R':Rel w ψ h' w') (hm:h' m = some (.cells e xs)) (hsc:∀ x∈xs,∃ v,x = .sc v) :
  ∃ l,ψ m = some l∧φ.le (φ.put c l)∧Rel w0 (φ.put c l) (upd h c (.cells e xs)) w':=by
 obtain ⟨b,β,lim,arr,h1,h2,h3,h4,h5⟩:=R'.rep m _ hm
 refine ⟨_,h1,Ren.le_put _ (R.dom c hc),Rel.new R hc (R'.old m _ b hm rfl ⟨β,lim,h1⟩) (R'.lt m b ⟨β,lim,h1⟩) R'.fr (fun m size seen he=>by cases he) fun φ' he hle=>?_⟩
 refine ⟨b,β,lim,arr,by rw [he]; exact Ren.put_self _ _ _,h2,h3,h4,fun j x hx=>?_⟩
 obtain ⟨v,hv,hr⟩:=h5 j x hx
 obtain ⟨u,rfl⟩:=hsc x (iw hx)
 cases hr with | sc _ h1 => exact ⟨_,hv,.sc _ h1⟩
theorem aqY {φ:Ren} {w:World} (hfr:Fr φ.w0 w fun _=>False) (hok:∀ b,φ.ok b→b < φ.w0.heap.size) {v:Value} {k:Nat} {rows:List (List T)} (h:RepX φ v (.im k rows)):RepX ⟨fun _=>none,w,φ.ok,fun _=>none⟩ v (.im k rows):=by
 cases h with | im _ _ _ h => exact .im _ _ _ (h.mono (fun b hb => hfr.block b (hok b hb) id) fun _ h => h)
theorem aGW {w:World} {ok:Nat→Prop} (hlt:∀ b,ok b→b < w.heap.size):Rel w ⟨fun _=>none,w,ok,fun _=>none⟩ (d7 (fun _=>none) s0) w:=by
 have hn:∀ m,d7 (fun _=>none) s0 m = none:=fun m=>by simp [d7,s0]
 exact ⟨fun m o h=>by rw [hn] at h; simp at h,fun m _ o _ _ h=>by rw [hn] at h; simp at h,fun m o _ h=>by rw [hn] at h; simp at h,fun m _ _ _ h=>by rw [hn] at h; simp at h,fun _ _=>rfl,fun m b ⟨_,_,h⟩=>by simp at h,Fr.refl _ _,rfl,hlt,fun D o h=>by simp at h⟩
theorem auQ {orc:bZ} (ho:∀ w0,jY Try.prog w0 orc) (hoi:fq orc) {obs:List HO} {rts:List Int} {to fr:List (List Nat)} {r:Nat} {ls vals:List Nat} {known:List Bool} (hB:AW orc obs rts to fr (r :: ls) vals known) {dv:List Nat} {dk:List Bool} (hD:aeV orc to fr (r :: ls) vals known dv dk) (hc:lV orc (obs.map eQ) (rts.map fY) 0)
  (hd:∀ v∈dv,v < obs.length + 1) (hls:∀ v∈ls,v < obs.length) (hll:ls.length≤1000) {w0 w:World} {s:S} {g h2:Hp} {φ:Ren} {vs:List Value} (hn:s.h.get s.c = none) (hr:h2 s.c = g s.c) (hi:Inv g s) (R:Rel w0 φ (d7 h2 s) w) (hv:Pt (RepV φ) vs [.agg [.im 4 (obs.map eQ),.im 1 (rts.map fY)]]) :
  Calls Try.prog 16 vs.toArray w fun e w'=>∃ v,e = .returned v∧∃ φ',φ.le φ'∧Rel w0 φ' (d7 h2 (y6 s (.cells cj ((sY obs dv ls).map sI)))) w'∧RepV φ' v (.tup [.c (.sl s.c 1 0 obs.length),iV 0]):=by
 obtain ⟨arg,rfl⟩ : ∃ arg,vs = [arg]:=by
  have:=hv.1
  cases vs with
  | nil=>simp at this
  | cons a l=>cases l with
   | nil=>exact ⟨a,rfl⟩
   | cons _ _=>simp at this
 have harg:RepV φ arg (.agg [.im 4 (obs.map eQ),.im 1 (rts.map fY)]):=hv.2 0 arg _ rfl rfl
 have hw0:=R.w0e
 have hfr:Fr φ.w0 w fun _=>False:=by rw [hw0]; exact R.fr
 have hokl:∀ b,φ.ok b→b < φ.w0.heap.size:=by rw [hw0]; exact R.okl
 obtain ⟨cs,rfl,hcs⟩:=harg
 have harg':RepV ⟨fun _=>none,w,φ.ok,fun _=>none⟩ (.agg cs) (.agg [.im 4 (obs.map eQ),.im 1 (rts.map fY)]):=by
  refine ⟨cs,rfl,hcs.1,fun j v x hv hx=>?_⟩
  have h:=hcs.2 j v x hv hx
  match j,hx with
  | 0,hx=>cases hx; exact aqY hfr hokl h
  | 1,hx=>cases hx; exact aqY hfr hokl h
 have hrb:=aGW (w:=w) (ok:=φ.ok) fun b hb=>vw (hokl b hb) (by rw [hw0]; exact R.fr.size)
 refine (Gx ho hoi hB hD hc hd hls hll ⟨ik _,fun _ _=>rfl,fun k h=>by simp [s0] at h⟩ hrb harg').mono fun e w' hh=>?_
 obtain ⟨v,ψ,t,m,h1,h2',h3,h4,h5⟩:=hh
 have hnone:d7 h2 s s.c = none:=(kY hi hr).trans hn
 obtain ⟨l,e1,hle,R'⟩:=aiq R hnone h3 h5 (fun x hx=>by obtain ⟨z,_,rfl⟩:=xk.1 hx; exact ⟨_,rfl⟩)
 refine ⟨v,h1,_,hle,?_,?_⟩
 ·have:d7 h2 (y6 s (.cells cj ((sY obs dv ls).map sI))) = upd (d7 h2 s) s.c (.cells cj ((sY obs dv ls).map sI)):=Lq
  rw [this]; exact R'
 ·obtain ⟨us,rfl,hp⟩:=h4
  refine ⟨us,rfl,hp.1,fun j u x hu hx=>?_⟩
  have h:=hp.2 j u
  match j,hx with
  | 0,hx =>
   cases hx
   have h:=h _ hu rfl
   cases h with
   | sl _ _ _ _ b β lim o cap g1 g2 g3 g4 =>
    rw [g1] at e1
    cases e1
    exact .sl _ _ _ _ b β lim o cap (Ren.put_self _ _ _) g2 g3 g4
  | 1,hx =>
   cases hx
   have h:=h _ hu rfl
   cases h with | sc _ h1 => exact .sc _ h1
end Go.RM
namespace Go.RM
open Go.VM (T mV tI Pt Fr RepT)
open Go Go.Proofs Go.Proofs.Ytliccamocpglcab Go.Shelf Go.Sort Go.RowKit
def L6 (obs:List HO) (i:Nat):Int:=(obs[i]?.map HO.id).getD 0
def cfT (obs:List HO) (zs:List Int) (x y:Fin obs.length):Int:=orI (Go.Lib.compareInt (zs.getD y 0) (zs.getD x 0)) (Go.Lib.compareInt (L6 obs x) (L6 obs y))
def aiY (obs:List HO):Bool:=(List.range obs.length).all fun i=>(List.range obs.length).all fun j=>decide (L6 obs i = L6 obs j→i = j)
theorem aTj (a b c d:Int):decide (orI (Go.Lib.compareInt a b) (Go.Lib.compareInt c d) < 0) = decide (a < b∨(a = b∧c < d)):=by
 unfold orI Go.Lib.compareInt
 rw [decide_eq_decide]
 repeat' split
 all_goals omega
theorem cf_lt (obs:List HO) (zs:List Int) (x y:Fin obs.length):ltOf (cfT obs zs) x y = decide (zs.getD y 0 < zs.getD x 0∨(zs.getD y 0 = zs.getD x 0∧L6 obs x < L6 obs y)):=aTj _ _ _ _
theorem aQV (obs:List HO) (zs:List Int):SWO (ltOf (cfT obs zs)) where
 irrefl x:=by rw [cf_lt]; simp
 trans x y z h1 h2:=by rw [cf_lt] at *; simp only [ow] at *; omega
 ntrans x y z h1 h2:=by rw [cf_lt] at *; simp only [decide_eq_false_iff_not] at *; omega
theorem aHZ (obs:List HO) (zs:List Int) (hid:aiY obs = true) (x y:Fin obs.length) (h1:ltOf (cfT obs zs) x y = false) (h2:ltOf (cfT obs zs) y x = false):x = y:=by
 rw [cf_lt] at h1 h2
 simp only [decide_eq_false_iff_not] at h1 h2
 unfold aiY at hid
 rw [tk] at hid
 have h3:=hid x (List.mem_range.2 x.2)
 rw [tk] at h3
 have h4:=of_decide_eq_true (h3 y (List.mem_range.2 y.2))
 exact Fin.ext (h4 (by omega))
def topSort (obs:List HO) (zs:List Int) (l:List (Fin obs.length)):List (Fin obs.length):=l.mergeSort fun x y=>!ltOf (cfT obs zs) y x
def M8 {n:Nat} (x:Fin n):Value:=.int .i64 ((x:Nat):Int)
def nF {n:Nat} (l:List (Fin n)):List X:=l.map fun x:Fin n=>nI x.val
section
variable {n:Nat} [Inhabited (Fin n)]
theorem aOX {w:World} {q off m:Nat} {d:Array (Fin n)} {os:Array Obj} {cur:Array Value} {e:TypeId} {fr:Nat × Nat} (hb:w.heap[q]? = some (.cells cur e fr)) :
  (sortWorld M8 w q off m d os).heap[q]? = some (.cells (putCells M8 off d cur) e fr):=by
 have hg:q < w.heap.size:=(nw.1 hb).1
 unfold sortWorld
 rw [heap_grow_old _ _ (by simpa using hg)]
 simp [putRow,mapBlock,Sort.ahead,Array.getElem?_modify,hb,onCells]
theorem Gz {w:World} {q off m k:Nat} {d:Array (Fin n)} {os:Array Obj} (hk:k < w.heap.size) (hne:k ≠ q):(sortWorld M8 w q off m d os).heap[k]? = w.heap[k]?:=by
 unfold sortWorld
 rw [heap_grow_old _ _ (by simpa using hk)]
 simp [putRow,mapBlock,Sort.ahead,Array.getElem?_modify,Ne.symm hne]
theorem aVq {w:World} {q off m:Nat} {d:Array (Fin n)} {os:Array Obj} {mine:Nat→Prop} (hm:mine q):Fr w (sortWorld M8 w q off m d os) mine :=
 ⟨rfl,rfl,rfl,by simp [sortWorld,grow,putRow,mapBlock,Sort.ahead],fun k hk hne=>Gz hk fun e=>hne (by rw [e]; exact hm)⟩
theorem P5 {w:World} {b:Nat} {arr:Array Value} {e:TypeId} {fr:Nat × Nat} (h:w.heap[b]? = some (.cells arr e fr)) (i:Nat):w.cell? ⟨b,i,none⟩ = arr[i]?:=by
 simp [World.cell?,h]
theorem GV {w w':World} {b:Nat} (h:w'.heap[b]? = w.heap[b]?) (i:Nat):w'.cell? ⟨b,i,none⟩ = w.cell? ⟨b,i,none⟩:=World.cell?_of_block h
end
theorem SJ {obs:List HO} {i:Nat} (hi:i < obs.length):(obs.map eQ)[i]? = some (eQ obs[i]):=by rw [gw,ck hi]; rfl
set_option maxHeartbeats 2000000 in
theorem alY {obs:List HO} {roots:List (List T)} {zs:List Int} (hid:aiY obs = true) (hz:obs.length≤zs.length) {lF:List (Fin obs.length)} (hne:lF ≠ []) (hll:lF.length≤1000)
  {w0 w:World} {s:S} {g h2:Hp} {φ:Ren} {vs:List Value} {m p6 p2 mz:Nat} (hm:s.h.get m = some (.cells cj (nF lF))) (h6:s.h.get p6 = some (.cells i8 [.sl mz 1 0 obs.length])) (hmz:s.h.get mz = some (.cells cj (zs.map sI))) (hp2:s.h.get p2 = some (.cells e8 [.im 4 (obs.map eQ),.im 1 roots]))
  (ne6:p6 ≠ m) (ne2:p2 ≠ m) (nez:mz ≠ m) (rm:h2 m = g m) (r6:h2 p6 = g p6) (r2:h2 p2 = g p2) (rz:h2 mz = g mz) (hi:Inv g s) (R:Rel w0 φ (d7 h2 s) w) (hv:Pt (RepV φ) vs [.c (.sl m 1 0 lF.length),.c (.fn jX [.ptr p6 0,.ptr p2 0])]) :
  Calls Try.prog 28 vs.toArray w fun e w'=>∃ v,e = .returned v∧∃ φ',φ.le φ'∧Rel w0 φ' (d7 h2 (tW s m (.cells cj (nF (topSort obs zs lF))))) w'∧RepV φ' v (.tup []):=by
 obtain ⟨v,u,rfl⟩ : ∃ v u,vs = [v,u]:=by
  have:=hv.1
  match vs,this with
  | [v,u],_=>exact ⟨v,u,rfl⟩
 have hv0:RepX φ v (.sl m 1 0 lF.length):=hv.2 0 v _ rfl rfl
 have hu0:RepX φ u (.fn jX [.ptr p6 0,.ptr p2 0]):=hv.2 1 u _ rfl rfl
 have hpos:0 < lF.length:=List.length_pos_iff.2 hne
 obtain ⟨x0,hx0⟩ : ∃ x,x∈lF:=List.exists_mem_of_ne_nil _ hne
 have inh:Inhabited (Fin obs.length):=⟨x0⟩
 cases hv0 with
 | sl _ _ _ _ b β lim o cap g1 g2 g3 g4 =>
 have ho:=(g3 hpos).symm
 simp only [Nat.add_zero] at ho
 subst ho
 cases hu0 with
 | fn _ cs _ hcl hcs =>
 obtain ⟨c6,c2,rfl⟩ : ∃ c6 c2,cs = [c6,c2]:=by
  match cs,hcl with
  | [a,c],_=>exact ⟨a,c,rfl⟩
 have k6:RepX φ c6 (.ptr p6 0):=hcs 0 c6 _ rfl rfl
 have k2:RepX φ c2 (.ptr p2 0):=hcs 1 c2 _ rfl rfl
 cases k6 with
 | ptr _ _ b6 β6 lim6 f6 =>
 cases k2 with
 | ptr _ _ b2 β2 lim2 f2 =>
 simp only [Nat.add_zero] at *
 have gm:=(kY hi rm).trans hm
 have gp6:=(kY hi r6).trans h6
 have gp2:=(kY hi r2).trans hp2
 have gmz:=(kY hi rz).trans hmz
 obtain ⟨b',β',lim',arr,a1,a2,a3,a4,a5⟩:=R.rep m _ gm
 rw [g1] at a1; cases a1
 obtain ⟨b',β',lim',arr6,d1,d2,d3,d4,d5⟩:=R.rep p6 _ gp6
 rw [f6] at d1; cases d1
 obtain ⟨b',β',lim',arr2,e1,e2,e3,e4,e5⟩:=R.rep p2 _ gp2
 rw [f2] at e1; cases e1
 obtain ⟨bz,βz,limz,arrz,z1,z2,z3,z4,z5⟩:=R.rep mz _ gmz
 obtain ⟨v6,j1,j2⟩:=d5 0 _ rfl
 obtain ⟨v2,j3,j4⟩:=e5 0 _ rfl
 simp only [Nat.add_zero] at j1 j3
 have hnpos:0 < obs.length:=Nat.lt_of_le_of_lt (Nat.zero_le _) x0.2
 cases j2 with
 | sl _ _ _ _ bz' βz' limz' oz capz y1 y2 y3 y4 =>
 rw [z1] at y1; cases y1
 have y3:=(y3 hnpos).symm
 simp only [Nat.add_zero] at y3
 subst y3
 cases j4 with
 | im _ _ _ hT =>
 rw [show (obs.map eQ) = eQ obs[0] :: (obs.map eQ).tail by
  cases obs with
  | nil=>simp at hnpos
  | cons a l=>rfl] at hT
 rw [show eQ obs[0] :: (obs.map eQ).tail = obs.map eQ by
  cases obs with
  | nil=>simp at hnpos
  | cons a l=>rfl] at hT
 obtain ⟨bo,oo,capo,fo,q1,q2,q3,q4,q5⟩ : ∃ bo oo capo,∃ f:Nat→Nat→Value,v2 = .slice (some ⟨bo,oo,none⟩) obs.length capo∧φ.ok bo∧obs.length≤capo∧(∀ (i:Nat) row (j:Nat) x,(obs.map eQ)[i]? = some row→row[j]? = some x→φ.w0.cell? ⟨bo,oo + i * 4 + j,none⟩ = some (f i j))∧(∀ (i:Nat) row (j:Nat) x,(obs.map eQ)[i]? = some row→row[j]? = some x→RepT φ.w0 φ.ok (f i j) x):=by
  generalize hrows:obs.map eQ = rows at hT
  have hl:rows.length = obs.length:=by rw [← hrows,List.length_map]
  cases hT with
  | nil=>simp at hl; omega
  | sl bo oo capo _ _ fo hok hle hk hc hr=>exact ⟨bo,oo,capo,fo,by rw [hl],hok,by omega,hc,hr⟩
 subst q1
 rw [R.w0e] at q4 q5
 have hbo:bo < w0.heap.size:=R.okl bo q2
 have hob:=R.old m _ b gm rfl ⟨_,_,g1⟩
 have nb6:b6 ≠ b:=fun e=>ne6 (R.inj p6 m _ _ b gp6 gm rfl rfl ⟨_,_,e ▸ f6⟩ ⟨_,_,g1⟩)
 have nb2:b2 ≠ b:=fun e=>ne2 (R.inj p2 m _ _ b gp2 gm rfl rfl ⟨_,_,e ▸ f2⟩ ⟨_,_,g1⟩)
 have nbz:bz ≠ b:=fun e=>nez (R.inj mz m _ _ b gmz gm rfl rfl ⟨_,_,e ▸ z1⟩ ⟨_,_,g1⟩)
 have nbo:bo ≠ b:=by omega
 have l6:=(nw.1 d2).1
 have l2:=(nw.1 e2).1
 have lz:=(nw.1 z2).1
 have lb:=(nw.1 a2).1
 have lo:bo < w.heap.size:=vw hbo R.fr.size
 have hcmp:CmpLays1 Try.prog 29 #[.pointer (some ⟨b6,β6,none⟩),.pointer (some ⟨b2,β2,none⟩)] M8 (cfT obs zs) b β lF.toArray.size w:=by
  intro m' os dk _ x y
  have hzs:∀ i:Fin obs.length,(sortWorld M8 w b β m' dk os).cell? ⟨bz,βz + (i:Nat),none⟩ = some (.int .i64 (zs.getD i 0)):=fun i=>by
   rw [GV (Gz lz nbz),P5 z2]
   have hil:(i:Nat) < zs.length:=by have:=i.2; omega
   obtain ⟨u,hu,hr⟩:=z5 i (sI zs[(i:Nat)]) (by rw [gw,ck hil]; rfl)
   cases hr
   rw [hu,jw,ck hil]; rfl
  have hob:∀ i:Fin obs.length,(sortWorld M8 w b β m' dk os).cell? ⟨bo,oo + (i:Nat) * 4,none⟩ = some (.int .i64 (L6 obs i)):=fun i=>by
   rw [GV (Gz lo nbo),GV (R.fr.block bo hbo id)]
   have h1:=q4 i _ 0 _ (SJ i.2) rfl
   have h2:=q5 i _ 0 _ (SJ i.2) rfl
   simp only [Nat.add_zero] at h1
   generalize fo (i:Nat) 0 = u at h1 h2
   cases h2
   rw [h1,L6,ck i.2]; rfl
  have:=aJx x y (zs.getD x 0) (zs.getD y 0) (L6 obs x) (L6 obs y) (sortWorld M8 w b β m' dk os) b6 β6 b2 β2 bz βz bo oo obs.length capz obs.length capo x.2 y.2 x.2 y.2
   (by rw [GV (Gz l6 nb6),P5 d2]; exact j1) (by rw [GV (Gz l2 nb2),P5 e2]; exact j3) (hzs x) (hzs y) (hob x) (hob y)
  exact this
 have hH:Holds M8 w b β lF.toArray:=by
  intro j hj
  have hj':j < lF.length:=by simpa using hj
  obtain ⟨u,hu,hr⟩:=a5 j (nI lF[j]) (by rw [nF,gw,ck hj']; rfl)
  cases hr
  refine ⟨?_,by simp [World.frozen?,a2]⟩
  rw [P5 a2,hu]
  simp [M8,hj']
 have cS:=Any.slices_SortFunc_total Go.VM.srsSort M8 (fun _=>rfl) (cfT obs zs) (aQV obs zs) 29 #[.pointer (some ⟨b6,β6,none⟩),.pointer (some ⟨b2,β2,none⟩)] b β cap lF.toArray w (enters_of Try.func29 (by kernel_rfl) rfl) hcmp hH lb (by simp; omega) (aHZ obs zs hid)
 change Calls Try.prog 28 _ _ _ at cS
 rw [List.size_toArray] at cS
 refine cS.mono ?_
 rintro e w' ⟨rfl,nn,os,rfl⟩
 refine ⟨_,rfl,φ,Ren.le_refl φ,?_,⟨#[],rfl,Go.VM.Pt.nil⟩⟩
 have hov:d7 h2 (tW s m (.cells cj (nF (topSort obs zs lF)))) = upd (d7 h2 s) m (.cells cj (nF (topSort obs zs lF))):=Lq
 rw [hov]
 have htl:(topSort obs zs lF).length = lF.length:=List.length_mergeSort _
 refine R.put gm rfl (aVq ⟨_,_,g1⟩) ⟨b,β,lim,_,g1,aOX a2,by simp [putCells,a3],by simp only [nF,List.length_map,htl]; simp only [nF,List.length_map] at a4; exact a4,fun j x hx=>?_⟩ (fun p m' size seen hp he _=>?_) (fun m' size seen he=>by cases he)
 ·rw [nF,gw] at hx
  obtain ⟨t,ht,rfl⟩:=aw.1 hx
  have hjl:j < (topSort obs zs lF).length:=(cw.1 ht).1
  have hlt:β + j < arr.size:=by simp only [nF,List.length_map] at a4; omega
  refine ⟨M8 t,?_,.sc _ rfl⟩
  rw [List.toList_toArray]
  change (putCells M8 β (topSort obs zs lF).toArray arr)[β + j]? = _
  simp only [putCells,Array.getElem?_mapIdx,Array.getElem?_eq_getElem hlt,wk]
  have h1:β≤β + j∧β + j < β + (topSort obs zs lF).toArray.size:=by simp; omega
  rw [if_pos h1]
  congr 1
  have h3:β + j - β = j:=by omega
  rw [h3]
  have h4:=(cw.1 ht).2
  simp [getElem!_def,ht]
 ·obtain ⟨kd,es,h⟩:=R.iters p m' size seen hp
  subst he
  rw [gm] at h; cases h
end Go.RM
namespace Go.RM
open Go.VM (T mV)
open Go.Proofs Go.Proofs.Ytliccamocpglcab
def aCj (orc:bZ) (obs:List HO) (rts:List Int) (zs:List Int):Prop :=
 ∀ b s,Sb b s→Cp orc p_T j8 [.agg [.im 4 (obs.map eQ),.im 1 (rts.map fY)]] s (fun k=>b≤k) True fun v s'=>v = .tup [.c (.sl s.c 1 0 obs.length),iV 0]∧Sb b s'∧s'.c = s.c + 1∧s'.h.get s.c = some (.cells cj (zs.map sI))∧∀ k,k < s.c→s'.h.get k = s.h.get k
structure aHQ (orc:bZ) (obs:List HO) (rts:List Int) (zs:List Int) (lF lS:List (Fin obs.length)):Prop where
 nil:lF = []→∀ s p6 p2,Cp orc p_T gQ [.c (.sc dZ),.c (.fn jX [.ptr p6 0,.ptr p2 0])] s (fun _=>False) True fun v s'=>s = s'∧v = .tup []
 own:lF ≠ []→∀ b s m p6 p2 mz,Sb b s→s.h.get m = some (.cells cj (nF lF))→s.h.get p6 = some (.cells i8 [.sl mz 1 0 obs.length])→s.h.get mz = some (.cells cj (zs.map sI))→s.h.get p2 = some (.cells e8 [.im 4 (obs.map eQ),.im 1 (rts.map fY)]) →
  p6 ≠ m→p2 ≠ m→mz ≠ m→b≤m→b≤p6→b≤p2→b≤mz →
  Cp orc p_T gQ [.c (.sl m 1 0 lF.length),.c (.fn jX [.ptr p6 0,.ptr p2 0])] s (fun k=>b≤k) True fun v s'=>v = .tup []∧Sb b s'∧s'.c = s.c∧s'.h.get m = some (.cells cj (nF lS))∧∀ k,k ≠ m→s'.h.get k = s.h.get k
theorem aNx {e:Opd→V} {x h:Opd} {k:Nat} (hx:e x = .c (.sc dZ)) (hh:e h = iV 0):bJ e (.sub k x none (some h)) = some (.c (.sc dZ)):=by
 simp only [bJ,hx,dZ,bnd,hh,iV,pX,fw]
 rfl
theorem aEW {e:Opd→V} {a c:Opd} {x y:Int} (ha:e a = iV x) (hc:e c = iV y):bJ e (.mm false [a,c]) = some (iV (min x y)):=by
 simp only [bJ,List.map_cons,List.map_nil,ha,hc]
 rfl
set_option maxHeartbeats 4000000 in
theorem aIQ {orc:bZ} {b:Nat} {s:S} (hS:Sb b s) {rows roots:List (List T)} {e:Int} (hc:M1 orc rows roots e) (he:e ≠ 0) (n:Int) :
  Cp orc aKV xj [.agg [.im 4 rows,.im 1 roots],.c (.sc (.int .i64 n))] s (fun k=>b≤k) True fun v s'=>v = .tup [.c (.sc dZ),iV e]:=by
 have hle:=hS.le
 refine k8 (rf:=qj) rfl ?_
 unfold qj
 obtain ⟨Γ,hΓ⟩ : ∃ Γ,Γ = ofL [V.agg [.im 4 rows,.im 1 roots],.c (.sc (.int .i64 n))] 0 .lf:=⟨_,rfl⟩
 have g0:look Γ 0 = .agg [.im 4 rows,.im 1 roots]:=by rw [hΓ]; rfl
 rw [← hΓ]
 try clear G
 clear hΓ
 replace G:=g0
 refine az (aq ?_)
 refine oY rfl (MS.box hS zj) cK ?_
 refine ej hS ?_
 intro s1 hst1 hsc1 hS1
 have hn1:=hst1.self
 refine qV ?_
 refine qV ?_
 refine aX ?_
 dsimp only [aQ]
 refine az (aq ?_)
 refine qA ?_
 refine qC (hC:=O8 (b:=b) hS1 hc he) (h:=?_)
 intro v2 s2 hq2
 obtain ⟨rfl,hSr⟩:=hq2
 have hlr:=hSr.le
 refine qV ?_
 refine qP ?_
 refine qP ?_
 refine qM (MS.alloc hSr) ?_
 refine ej hSr ?_
 intro s3 hst3 hsc3 hS3
 have hn3:=hst3.self
 refine qT ?_
 refine xX hS3 (by omega) (by omega) ?_
 intro s4 hst4 hsc4 hS4
 first | replace hn3:=hst4.at hn3 (by omega) | replace hn3:=hst4.self
 refine qV ?_
 refine aX ?_
 dsimp only [aQ]
 refine az (az ?_)
 refine aq ?_
 refine qV ?_
 refine qP ?_
 refine aX ?_
 try dsimp only [aQ]
 refine bQ (t:=true) ?_ ?_
 ·simp only [evS,Nat.reduceEqDiff,reduceIte]
  rw [vk he]
  rfl
 dsimp only [cond_true]
 refine az (aq ?_)
 refine qV ?_
 refine qV ?_
 refine qV ?_
 refine aX ?_
 dsimp only [aQ]
 refine pZ ?_
 exact ⟨.inr rfl,[.c (.sc dZ),iV e],0,by simp only [tK,evS,Nat.reduceEqDiff,reduceIte]; rfl,cY,rfl⟩
set_option maxHeartbeats 4000000 in
theorem aMX {orc:bZ} {b:Nat} {s:S} (hS:Sb b s) {obs:List HO} {rts:List Int} {zs:List Int} (hc:aCj orc obs rts zs) {n:Int} (hn:n < 0) :
  Cp orc p_T xj [.agg [.im 4 (obs.map eQ),.im 1 (rts.map fY)],.c (.sc (.int .i64 n))] s (fun k=>b≤k) True fun v s'=>v = .tup [.c (.sc dZ),iV 2]:=by
 have hle:=hS.le
 refine k8 (rf:=qj) rfl ?_
 unfold qj
 obtain ⟨Γ,hΓ⟩ : ∃ Γ,Γ = ofL [V.agg [.im 4 (obs.map eQ),.im 1 (rts.map fY)],.c (.sc (.int .i64 n))] 0 .lf:=⟨_,rfl⟩
 have g0:look Γ 0 = .agg [.im 4 (obs.map eQ),.im 1 (rts.map fY)]:=by rw [hΓ]; rfl
 have g1:look Γ 1 = .c (.sc (.int .i64 n)):=by rw [hΓ]; rfl
 rw [← hΓ]
 try clear G
 clear hΓ
 replace G:=bw g0 g1
 refine az (aq ?_)
 refine oY rfl (MS.box hS zj) cK ?_
 refine ej hS ?_
 intro s1 hst1 hsc1 hS1
 have hn1:=hst1.self
 refine qV ?_
 refine qV ?_
 refine aX ?_
 dsimp only [aQ]
 refine az (aq ?_)
 refine qA ?_
 refine qC (hC:=hc b s1 hS1) (h:=?_)
 intro v2 s2 hq2
 obtain ⟨rfl,hSz,hcz,hz,hkz⟩:=hq2
 replace hn1:=(hkz _ (by omega)).trans hn1
 refine qV ?_
 refine qP ?_
 refine qP ?_
 refine qM (MS.alloc hSz) ?_
 refine ej hSz ?_
 intro s3 hst3 hsc3 hS3
 replace hn1:=hst3.at hn1 (by omega)
 have hn3:=hst3.self
 refine qT ?_
 refine xX hS3 (by omega) (by omega) ?_
 intro s4 hst4 hsc4 hS4
 first | replace hn1:=hst4.at hn1 (by omega) | replace hn1:=hst4.self
 first | replace hn3:=hst4.at hn3 (by omega) | replace hn3:=hst4.self
 refine qV ?_
 refine aX ?_
 dsimp only [aQ]
 refine az (az ?_)
 refine aq ?_
 refine qV ?_
 refine qP ?_
 refine aX ?_
 try dsimp only [aQ]
 refine bQ (t:=false) ?_ (eW ?_)
 ·simp only [evS,Nat.reduceEqDiff,reduceIte]; rfl
 dsimp only [aQ]
 refine az (az ?_)
 refine aq ?_
 refine qV ?_
 refine qP ?_
 refine aX ?_
 try dsimp only [aQ]
 refine bQ (t:=true) ?_ ?_
 ·simp only [evS,Nat.reduceEqDiff,reduceIte]
  rw [decide_eq_true hn]
  rfl
 dsimp only [cond_true]
 refine az (aq ?_)
 refine qV ?_
 refine qV ?_
 refine aX ?_
 dsimp only [aQ]
 refine pZ ?_
 exact ⟨.inr rfl,[.c (.sc dZ),iV 2],0,by simp only [tK,evS,Nat.reduceEqDiff,reduceIte]; rfl,cY,rfl⟩
end Go.RM
namespace Go.RM
open Go.VM (T mV tI)
open Go.Proofs Go.Proofs.Ytliccamocpglcab
def nZ (known:List Bool) (j:Nat):List Nat:=(List.range j).filter fun i=>known.getD i false
theorem zK (known:List Bool) (j:Nat):nZ known (j + 1) = if known.getD j false = true then nZ known j++[j] else nZ known j:=by
 unfold nZ
 rw [List.range_succ,List.filter_append]
 by_cases h:known.getD j false = true
 ·rw [if_pos h,List.filter_cons_of_pos (by simpa using h),List.filter_nil]
 ·rw [if_neg h,List.filter_cons_of_neg (by simpa using h),List.filter_nil,List.append_nil]
theorem Pj (known:List Bool) (j:Nat):(nZ known j).length≤j:=by
 have:=List.length_filter_le (fun i=>known.getD i false) (List.range j)
 rw [List.length_range] at this
 exact this
structure TopS (b c hb p6 mz nk:Nat) (obs:List HO) (rts:List Int) (zs:List Int) (known:List Bool) (t:S):Prop where
 sb:Sb b t
 le:b≤hb∧b≤p6∧b≤mz∧b≤nk
 lt:hb < c∧p6 < c∧mz < c∧nk < t.c∧c≤t.c
 e2:t.h.get hb = some (.cells e8 [.im 4 (obs.map eQ),.im 1 (rts.map fY)])
 e6:t.h.get p6 = some (.cells i8 [.sl mz 1 0 obs.length])
 ez:t.h.get mz = some (.cells cj (zs.map sI))
 ek:t.h.get nk = some (.cells AV (known.map bI))
theorem TopS.keep {b c hb p6 mz nk:Nat} {obs:List HO} {rts:List Int} {zs:List Int} {known:List Bool} {t t':S} (h:TopS b c hb p6 mz nk obs rts zs known t) (hS:Sb b t') (hc:t.c≤t'.c) (hk:∀ k,k = hb∨k = p6∨k = mz∨k = nk→t'.h.get k = t.h.get k):TopS b c hb p6 mz nk obs rts zs known t' :=
 ⟨hS,h.le,⟨h.lt.1,h.lt.2.1,h.lt.2.2.1,vw h.lt.2.2.2.1 hc,Nat.le_trans h.lt.2.2.2.2 hc⟩,(hk _ (.inl rfl)).trans h.e2,(hk _ (.inr (.inl rfl))).trans h.e6,(hk _ (.inr (.inr (.inl rfl)))).trans h.ez,(hk _ (.inr (.inr (.inr rfl)))).trans h.ek⟩
theorem atj {α:Type} (l:List α) (n:Nat):l.take (l.take n).length = l.take n:=by
 rw [List.length_take]
 rcases Nat.le_total n l.length with h | h
 ·rw [Nat.min_eq_left h]
 ·rw [Nat.min_eq_right h,List.take_of_length_le (ik _),List.take_of_length_le h]
def outT (obs:List HO) (l:List (Fin obs.length)):List Int:=l.map fun x:Fin obs.length=>L6 obs x.val
set_option maxHeartbeats 8000000 in
theorem aQx {orc:bZ} {b:Nat} {s:S} (hS:Sb b s) {obs:List HO} {rts:List Int} {to fr:List (List Nat)} {ord vals:List Nat} {known:List Bool} (hB:AW orc obs rts to fr ord vals known) {zs:List Int} (hc:aCj orc obs rts zs) {lF lS:List (Fin obs.length)} (hlF:lF.map (fun x:Fin obs.length=>x.val) = nZ known obs.length) (hso:aHQ orc obs rts zs lF lS) (hlS:lS.length = lF.length) {n:Int} (hn:0≤n) :
  Cp orc p_T xj [.agg [.im 4 (obs.map eQ),.im 1 (rts.map fY)],.c (.sc (.int .i64 n))] s (fun k=>b≤k) True fun v s'=>∃ m,v = .tup [.c (.sl m 1 0 (lS.take n.toNat).length),iV 0]∧s'.h.get m = some (.cells cj ((outT obs (lS.take n.toNat)).map sI)):=by
 have hle:=hS.le
 refine k8 (rf:=qj) rfl ?_
 unfold qj
 obtain ⟨Γ,hΓ⟩ : ∃ Γ,Γ = ofL [V.agg [.im 4 (obs.map eQ),.im 1 (rts.map fY)],.c (.sc (.int .i64 n))] 0 .lf:=⟨_,rfl⟩
 have g0:look Γ 0 = .agg [.im 4 (obs.map eQ),.im 1 (rts.map fY)]:=by rw [hΓ]; rfl
 have g1:look Γ 1 = .c (.sc (.int .i64 n)):=by rw [hΓ]; rfl
 rw [← hΓ]
 try clear G
 clear hΓ
 have hkl:=hB.kl
 have hsm:=hB.small
 replace G:=bw g0 g1
 refine az (aq ?_)
 refine oY rfl (MS.box hS zj) cK ?_
 refine ej hS ?_
 intro s1 hst1 hsc1 hS1
 have hn1:=hst1.self
 refine qV ?_
 refine qV ?_
 refine aX ?_
 dsimp only [aQ]
 refine az (aq ?_)
 refine qA ?_
 refine qC (hC:=hc b s1 hS1) (h:=?_)
 intro v2 s2 hq2
 obtain ⟨rfl,hSz,hcz,hz,hkz⟩:=hq2
 replace hn1:=(hkz _ (by omega)).trans hn1
 refine qV ?_
 refine qP ?_
 refine qP ?_
 refine qM (MS.alloc hSz) ?_
 refine ej hSz ?_
 intro s3 hst3 hsc3 hS3
 replace hn1:=hst3.at hn1 (by omega)
 replace hz:=hst3.at hz (by omega)
 have hn3:=hst3.self
 refine qT ?_
 refine xX hS3 (by omega) (by omega) ?_
 intro s4 hst4 hsc4 hS4
 first | replace hn1:=hst4.at hn1 (by omega) | replace hn1:=hst4.self
 first | replace hz:=hst4.at hz (by omega) | replace hz:=hst4.self
 first | replace hn3:=hst4.at hn3 (by omega) | replace hn3:=hst4.self
 refine qV ?_
 refine aX ?_
 dsimp only [aQ]
 refine az (az ?_)
 refine aq ?_
 refine qV ?_
 refine qP ?_
 refine aX ?_
 try dsimp only [aQ]
 refine bQ (t:=false) ?_ (eW ?_)
 ·simp only [evS,Nat.reduceEqDiff,reduceIte]; rfl
 dsimp only [aQ]
 refine az (az ?_)
 refine aq ?_
 refine qV ?_
 refine qP ?_
 refine aX ?_
 try dsimp only [aQ]
 refine bQ (t:=false) ?_ (eW ?_)
 ·simp only [evS,Nat.reduceEqDiff,reduceIte]
  rw [vk (by omega)]
  rfl
 dsimp only [aQ]
 refine az (aq ?_)
 refine qV ?_
 refine aX ?_
 dsimp only [aQ]
 have hn3:s4.h.get s2.c = some (.cells i8 [.sl s1.c 1 0 obs.length]):=hn3
 refine fW (fun Γ t=>look Γ 1 = iV n∧look Γ 2 = .c (.ptr s.c 0)∧look Γ 6 = .c (.ptr s2.c 0)∧∃ (nk:Nat) (x:X) (m:Nat),look Γ 8 = .c x∧RowN t.h.get cj x ((nZ known obs.length).map nI) m∧(nZ known obs.length = []→x = .sc dZ)∧(s4.c≤m∧m < t.c∧m ≠ nk)∧TopS b s4.c s.c s2.c s1.c nk obs rts zs known t) ?_ ?_
 ·skip
  replace G:=bw g0 g1
  refine az (sj rfl ?_)
  refine Az rfl ajx cK (fun x hx=>by simp at hx) ?_
  refine LJ (fun k => s4.c ≤ k) rfl abK hS4 cK (by intro x hx; simp only [List.nil_append,List.cons_append,qk,List.not_mem_nil,or_false] at hx; rcases hx with rfl <;> first | exact .inl (by dsimp only; decide) | (refine .inr fun k => ?_; refine ⟨?_,?_,?_⟩ <;> (intro hk; (try dsimp only at hk); first | exact hk.1.elim | exact hk.2.elim | omega))) (Cp.mono (hB.cp s4.c _ (Sb.zero hS4 (ik _))) (fun _ h => h) (fun h => h) ?_)
  intro v5 s5 hq5
  obtain ⟨g,rfl,hSg,hcg,hkg,hG⟩:=hq5
  refine ⟨hSg,fun j h1 _=>h1,?_⟩
  intro σ e1 e2 hSσ
  rw [← e1] at hkg hG
  rw [← e2] at hG hcg
  have hkg:∀ k,k < s4.c→σ.h.get k = s4.h.get k:=hkg
  have hcg:s4.c≤σ.c:=hcg
  replace hn1:σ.h.get _ = _:=(hkg _ (by omega)).trans hn1
  replace hz:σ.h.get _ = _:=(hkg _ (by omega)).trans hz
  replace hn3:σ.h.get _ = _:=(hkg _ (by omega)).trans hn3
  obtain ⟨own,nt,nf,no,np,nv,nk,xs,xf,q1,_,_,_,q5,_,⟨v1,_,_,_,v5,_,v7⟩,⟨u1,_,_,_,u5,_,u7⟩⟩:=hG.ex
  have q51:=q5.box
  have q53:=q5.known
  clear e1 e2 hSg
  refine rPL ?_
  refine rPL ?_
  refine rLL ?_
  refine rPL ?_
  refine rPL ?_
  refine rLL ?_
  refine rPL ?_
  refine rLL ?_
  refine rPL ?_
  refine uX rfl (by first | exact RW  iW iW (by omega) | (simp only [evS,Nat.reduceEqDiff,reduceIte,PU,bJ,scV,bV,iV,dZ,isB,isI,pX,wQ,mkV,List.length_map,G]; rfl)) ?_
  refine rPL ?_
  refine rVL ?_
  refine wz ?_
  dsimp only [aQ]
  have hgn:g ≠ nk:=fun e=>by rw [e,q53] at q1; cases q1
  have hT:TopS b s4.c s.c s2.c s1.c nk obs rts zs known σ:=⟨hSσ,by omega,by omega,hn1,hn3,hz,q53⟩
  refine dz (uJ (fun Γ t=>look Γ 1 = iV n∧look Γ 2 = .c (.ptr s.c 0)∧look Γ 6 = .c (.ptr s2.c 0)∧look Γ 35 = .c (.sl nk 1 0 obs.length)∧look Γ 36 = iV (obs.length:Int)∧∃ (j:Nat) (x:X) (m:Nat),look Γ 37 = iV (j:Int)∧j≤obs.length∧look Γ 8 = .c x∧RowN t.h.get cj x ((nZ known j).map nI) m∧(nZ known j = []→x = .sc dZ)∧(s4.c≤m∧m < t.c∧m ≠ nk)∧TopS b s4.c s.c s2.c s1.c nk obs rts zs known t) (fun Γ _=>match look Γ 37 with
   | .c (.sc (.int _ i))=>obs.length - i.toNat
   | _=>0) ⟨lkL,lkL,lkL,lkL,lkL,0,.sc dZ,g,lkL,Nat.zero_le _,lkL,.inl ⟨rfl,rfl⟩,fun _=>rfl,⟨by omega,by omega,hgn⟩,hT⟩ ?_)
  try clear G
  clear g0 g1 hn1 hz hn3 q1 q51 q53 hT
  rintro Γ t ⟨g1,g2,g6,g35,g36,j,x,m,g37,hj,g8,hrow,hnil,hm,hT⟩
  have hμ:(match look Γ 37 with
   | .c (.sc (.int _ i))=>obs.length - i.toNat
   | _=>0) = obs.length - j:=by rw [g37]; rfl
  have hS:=hT.sb
  have hek:=hT.ek
  have hlt:=hT.lt
  have hbl:=hT.le
  replace G:=bw g1 (bw g2 (bw g6 (bw g35 (bw g36 (bw g37 g8)))))
  refine az (aq ?_)
  refine qP ?_
  refine aX ?_
  dsimp only [aQ]
  by_cases hjl:j < obs.length
  ·refine az (bQ (t:=true) ?_ (eW ?_))
   ·simp only [kq,cq,qw,isB,bV,scV]
    rw [decide_eq_true (by omega)]
   dsimp only [aQ]
   obtain ⟨kj,hkj⟩ : ∃ k,known[j]? = some k:=⟨_,ck (by omega)⟩
   have hkj':(known.map bI)[j]? = some (.sc (.bool kj)):=by rw [gw,hkj]; rfl
   have hkd:known.getD j false = kj:=by rw [jw,hkj]; rfl
   have hll:=Pj known j
   have r8:nJ 8 (((nZ known j).map nI).length + 1) = true:=F5 (by rw [List.length_map]; omega)
   have hw:IntKind.i64.wrap ((j:Int) + 1) = ((j + 1:Nat):Int):=by rw [wr (by omega) (by omega)]; omega
   refine fW (fun Γ t'=>look Γ 1 = iV n∧look Γ 2 = .c (.ptr s.c 0)∧look Γ 6 = .c (.ptr s2.c 0)∧look Γ 35 = .c (.sl nk 1 0 obs.length)∧look Γ 36 = iV (obs.length:Int)∧look Γ 37 = iV (j:Int)∧∃ (x:X) (m:Nat),look Γ 8 = .c x∧RowN t'.h.get cj x ((nZ known (j + 1)).map nI) m∧(nZ known (j + 1) = []→x = .sc dZ)∧(s4.c≤m∧m < t'.c∧m ≠ nk)∧TopS b s4.c s.c s2.c s1.c nk obs rts zs known t') (dz ?_) ?_
   ·skip
    refine az (aq ?_)
    refine qV ?_
    refine qX ?_
    refine qL ?_
    refine qV ?_
    refine qV ?_
    refine aX ?_
    dsimp only [aQ]
    refine az (aq ?_)
    refine qV ?_
    refine aX ?_
    dsimp only [aQ]
    cases kj with
    | false =>
     refine bQ (t:=false) (by simp only [evS,Nat.reduceEqDiff,reduceIte]; rfl) (eW ?_)
     dsimp only [aQ]
     have G:=bw g1 (bw g2 (bw g6 (bw g35 (bw g36 (bw g37 g8)))))
     refine ⟨aK,aK,aK,aK,aK,aK,x,m,aK,?_,?_,hm,hT⟩
     ·rw [zK,if_neg (by rw [hkd]; simp)]
      exact hrow
     ·rw [zK,if_neg (by rw [hkd]; simp)]
      exact hnil
    | true =>
     refine bQ (t:=true) (by simp only [evS,Nat.reduceEqDiff,reduceIte]; rfl) ?_
     dsimp only [cond_true]
     replace G:=bw g1 (bw g2 (bw g6 (bw g35 (bw g36 (bw g37 g8)))))
     refine aq ?_
     refine qV ?_
     refine qV ?_
     refine qM (MS.bsl1 hS aK) ?_
     refine ej hS ?_
     intro s6 hst6 hsc6 hS6
     replace hek:=hst6.at hek (by omega)
     have hn6:=hst6.self
     replace hrow:=hrow.keep (hst6.keep _ (by omega))
     refine HQ rfl hS6 aK hrow (by omega) aK (by assumption) (by first | assumption | rfl) cK ?_
     intro s7 hst7 hS7
     have hsa7:=hst7.c
     replace hek:=hst7.at hek (by omega) (by omega)
     replace hn6:=hst7.at hn6 (by omega) (by omega)
     have hn7:=hst7.self
     refine qV ?_
     refine aX ?_
     try dsimp only [aQ]
     refine ⟨lk,lk,lk,lk,lk,lk,.sl s6.c 1 0 (((nZ known j).map nI).length + 1),s6.c,lk,?_,fun h=>?_,⟨by omega,by omega,by omega⟩,hT.keep hS7 (by omega) fun k hk=>?_⟩
     ·rw [zK,if_pos hkd,List.map_append]
      exact .inr ⟨by rw [lw]; rfl,hn7⟩
     ·rw [zK,if_pos hkd] at h
      simp at h
     ·rw [hst7.keep k (by omega) (by omega),hst6.keep k (by omega)]
   ·try clear G
    clear g1 g2 g6 g35 g36 g37 g8 hrow hnil hm hT hS hek hlt hbl x m
    rintro Γ2 t2 ⟨g1,g2,g6,g35,g36,g37,x,m,g8,hrow,hnil,hm,hT⟩
    have hw:IntKind.i64.wrap ((j:Int) + 1) = ((j + 1:Nat):Int):=by rw [wr (by omega) (by omega)]; omega
    replace G:=bw g1 (bw g2 (bw g6 (bw g35 (bw g36 (bw g37 (bw g8 hw))))))
    refine aq ?_
    refine qP ?_
    refine qV ?_
    refine aX ?_
    try dsimp only [aQ]
    refine ⟨⟨lk,lk,lk,lk,lk,j + 1,x,m,lk,by omega,lk,hrow,hnil,hm,hT⟩,?_⟩
    rw [hμ]
    simp only [evS,Nat.reduceEqDiff,reduceIte,hw]
    omega
  ·skip
   refine az (bQ (t:=false) ?_ (ox ?_))
   ·simp only [kq,cq,qw,isB,bV,scV]
    rw [vk (by omega)]
   have hjn:j = obs.length:=by omega
   subst hjn
   simp only [aQ,Nat.beq_refl,cond_true]
   have G:=bw g1 (bw g2 (bw g6 (bw g35 (bw g36 (bw g37 g8)))))
   exact ⟨aK,aK,aK,nk,x,m,aK,hrow,hnil,hm,hT⟩
 ·try clear G
  clear g0 g1 hn1 hz hn3
  rintro Γ t ⟨g1,g2,g6,nk,x,m,g8,hrow,hnil,hm,hT⟩
  have hS:=hT.sb
  have hlt:=hT.lt
  have hbl:=hT.le
  have he2:=hT.e2
  have hnk:=hm.2.2
  refine fW (fun Γ t=>look Γ 1 = iV n∧look Γ 2 = .c (.ptr s.c 0)∧∃ (x:X) (m:Nat),look Γ 8 = .c x∧RowN t.h.get cj x (nF lS) m∧b≤m∧m < t.c∧m ≠ s.c∧s.c < t.c∧Sb b t∧t.h.get s.c = some (.cells e8 [.im 4 (obs.map eQ),.im 1 (rts.map fY)])) ?_ ?_
  ·by_cases hl0:lF = []
   ·have hx:x = .sc dZ:=hnil (by rw [← hlF,hl0]; rfl)
    have hl1:lS = []:=jk (by rw [hlS,hl0]; rfl)
    subst hx
    replace G:=bw g1 (bw g2 (bw g6 g8))
    refine aq ?_
    refine qV ?_
    refine dq rfl (by simp only [evS,Nat.reduceEqDiff,reduceIte,PU,bJ,scV,bV,iV,dZ,isB,isI,pX,wQ,mkV,Yj,List.mapM_cons,List.mapM_nil,Option.pure_def,Option.bind_eq_bind,G]; try rfl) ?_
    refine qC (hC:=hso.nil hl0 _ _ _) (h:=?_)
    intro v8 s8 hq8
    obtain ⟨rfl,rfl⟩:=hq8
    refine aX ?_
    try dsimp only [aQ]
    refine ⟨lk,lk,.sc dZ,m,lk,.inl ⟨rfl,by rw [hl1]; rfl⟩,by omega,by omega,by omega,by omega,hS,he2⟩
   ·have hmapn:(nZ known obs.length).map nI = nF lF:=by rw [← hlF,List.map_map]; rfl
    rw [hmapn] at hrow
    rcases hrow with ⟨_,hx⟩ | ⟨hx,hmm⟩
    ·simp [nF] at hx; exact absurd hx hl0
    subst hx
    have hnl:(nF lF).length = lF.length:=by simp [nF]
    rw [hnl] at g8
    replace G:=bw g1 (bw g2 (bw g6 g8))
    refine aq ?_
    refine qV ?_
    refine dq rfl (by simp only [evS,Nat.reduceEqDiff,reduceIte,PU,bJ,scV,bV,iV,dZ,isB,isI,pX,wQ,mkV,Yj,List.mapM_cons,List.mapM_nil,Option.pure_def,Option.bind_eq_bind,G]; try rfl) ?_
    refine qC (hC:=hso.own hl0 b t m s2.c s.c s1.c hS hmm hT.e6 hT.ez hT.e2 (by omega) (by omega) (by omega) (by omega) (by omega) (by omega) (by omega)) (h:=?_)
    intro v9 s9 hq9
    obtain ⟨rfl,hSp,hcp,hmp,hkp⟩:=hq9
    refine aX ?_
    try dsimp only [aQ]
    refine ⟨lk,lk,.sl m 1 0 lF.length,m,lk,.inr ⟨by simp only [nF,List.length_map,hlS],hmp⟩,by omega,by omega,by omega,by omega,hSp,(hkp _ (by omega)).trans he2⟩
  ·try clear G
   clear g1 g2 g6 g8 hrow hnil hm hT hS hlt hbl he2 hnk x m nk
   rintro Γ t ⟨g1,g2,x,m,g8,hrow,hbm,hmt,hms,hst,hS,he2⟩
   have hln:(nF lS).length = lS.length:=by simp [nF]
   have hkk:(lS.take n.toNat).length = min n.toNat lS.length:=List.length_take
   obtain ⟨kk,hkd⟩ : ∃ kk,kk = (lS.take n.toNat).length:=⟨_,rfl⟩
   have hkl:kk≤lS.length:=by omega
   have hl60:lS.length≤60:=by
    have h1:=Pj known obs.length
    rw [← hlF,List.length_map] at h1
    omega
   have hmin:min n ((nF lS).length:Int) = (kk:Int):=by rw [hln]; omega
   replace G:=bw g1 (bw g2 g8)
   refine az (aq ?_)
   refine oY rfl (MS.bsl hS rfl) cK ?_
   refine ej hS ?_
   intro s10 hst10 hsc10 hS10
   replace he2:=hst10.at he2 (by omega)
   have hn10:=hst10.self
   refine qV ?_
   refine aX ?_
   dsimp only [aQ]
   refine fW (fun Γ t'=>look Γ 2 = .c (.ptr s.c 0)∧∃ mo,look Γ 11 = .c (.sl mo 1 0 kk)∧t'.h.get mo = some (.cells cj ((outT obs (lS.take kk)).map sI))∧b≤mo∧Sb b t') ?_ ?_
   ·refine fW (fun Γ t'=>look Γ 2 = .c (.ptr s.c 0)∧look Γ 11 = .c (.sl t.c 1 0 0)∧look Γ 58 = iV (kk:Int)∧look Γ 59 = iV 0∧∃ y,look Γ 57 = .c y∧(0 < kk→y = .sl m 1 0 kk∧t'.h.get m = some (.cells cj (nF lS)))∧t'.h.get t.c = some (.cells cj [])∧t'.h.get s.c = some (.cells e8 [.im 4 (obs.map eQ),.im 1 (rts.map fY)])∧t'.c = t.c + 1∧Sb b t') ?_ ?_
    ·rcases hrow with ⟨rfl,hx⟩ | ⟨rfl,hmm⟩
     ·have hz:lS.length = 0:=by rw [← hln,hx]; rfl
      have hk0:kk = 0:=by omega
      have hmin0:min n 0 = 0:=by omega
      subst hk0
      replace G:=bw g1 (bw g2 (bw g8 hmin0))
      refine aq ?_
      refine qV ?_
      refine qV ?_
      refine qV ?_
      refine qP ?_
      refine dq rfl (aEW aK aK) ?_
      refine dq rfl (by first | exact RW  aK aK (by omega) | exact aNx aK aK | (simp only [evS,Nat.reduceEqDiff,reduceIte,PU,bJ,scV,bV,iV,dZ,isB,isI,pX,wQ,mkV,G]; rfl)) ?_
      refine qP ?_
      refine qV ?_
      refine aX ?_
      try dsimp only [aQ]
      exact ⟨lk,lk,lk,lk,.sc dZ,lk,fun h=>absurd h (by omega),(by assumption),he2,(by assumption),(by assumption)⟩
     ·rw [hln] at g8 hmin
      replace G:=bw g1 (bw g2 (bw g8 hmin))
      refine aq ?_
      refine qV ?_
      refine qV ?_
      refine qV ?_
      refine qP ?_
      refine dq rfl (aEW aK aK) ?_
      refine dq rfl (by first | exact RW  aK aK (by omega) | (simp only [evS,Nat.reduceEqDiff,reduceIte,PU,bJ,scV,bV,iV,dZ,isB,isI,pX,wQ,mkV,G]; rfl)) ?_
      refine qP ?_
      refine qV ?_
      refine aX ?_
      try dsimp only [aQ]
      exact ⟨lk,lk,lk,lk,.sl m 1 0 kk,lk,fun _=>⟨rfl,hst10.at hmm (by omega)⟩,(by assumption),he2,(by assumption),(by assumption)⟩
    ·try clear G
     clear g1 g2 g8 he2 hrow
     rintro Γ t' ⟨g2,g11,g58,g59,y,g57,hy,ho,he2,hct,hSt⟩
     refine dz (uJ (fun Γ u=>look Γ 2 = .c (.ptr s.c 0)∧look Γ 57 = .c y∧look Γ 58 = iV (kk:Int)∧∃ (i mo:Nat),look Γ 59 = iV (i:Int)∧i≤kk∧look Γ 11 = .c (.sl mo 1 0 i)∧u.h.get mo = some (.cells cj ((outT obs (lS.take i)).map sI))∧t.c≤mo∧Sb b u∧u.h.get s.c = some (.cells e8 [.im 4 (obs.map eQ),.im 1 (rts.map fY)])∧(0 < kk→y = .sl m 1 0 kk∧u.h.get m = some (.cells cj (nF lS)))) (fun Γ _=>match look Γ 59 with
      | .c (.sc (.int _ i))=>kk - i.toNat
      | _=>0) ⟨g2,g57,g58,0,t.c,g59,Nat.zero_le _,g11,ho,ik _,hSt,he2,hy⟩ ?_)
     try clear G
     clear g2 g11 g58 g59 g57 hy ho he2 hct hSt
     rintro Γ u ⟨g2,g57,g58,i,mo,g59,hik,g11,hmo,hmot,hSu,he2,hy⟩
     have hμ:(match look Γ 59 with
      | .c (.sc (.int _ i))=>kk - i.toNat
      | _=>0) = kk - i:=by rw [g59]; rfl
     have hbt:=hS.le
     have hul:(outT obs (lS.take i)).length = i:=by simp only [outT,List.length_map,List.length_take]; omega
     replace G:=bw g2 (bw g57 (bw g58 (bw g59 g11)))
     refine az (aq ?_)
     refine qP ?_
     refine aX ?_
     dsimp only [aQ]
     by_cases hil:i < kk
     ·refine az (bQ (t:=true) ?_ (eW ?_))
      ·simp only [kq,cq,qw,isB,bV,scV]
       rw [decide_eq_true (by omega)]
      dsimp only [aQ]
      obtain ⟨hy1,hym⟩:=hy (by omega)
      subst hy1
      have hil2:i < lS.length:=by omega
      have hsx:(nF lS)[i]? = some (nI lS[i].val):=by rw [nF,gw,ck hil2]; rfl
      have hxl:=lS[i].2
      have hrowo:(obs.map eQ)[lS[i].val]? = some [.sc (.int .i64 (L6 obs lS[i].val)),tI obs[lS[i].val].size,.sc (.string obs[lS[i].val].ty),.sl 1 (obs[lS[i].val].refs.map fY)]:=by
       rw [SJ hxl,L6,ck hxl]; rfl
      have hw:IntKind.i64.wrap ((i:Int) + 1) = ((i + 1:Nat):Int):=by
       rw [wr (by omega) (by omega)]; omega
      have hmou:=hSu.lt hmo
      have hmu:=hSu.lt hym
      have hscu:=hSu.lt he2
      have r8:nJ 8 (((outT obs (lS.take i)).map sI).length + 1) = true:=F5 (by rw [List.length_map,hul]; omega)
      have hrow:RowN u.h.get cj (.sl mo 1 0 i) ((outT obs (lS.take i)).map sI) mo:=.inr ⟨by rw [List.length_map,hul],hmo⟩
      refine fW (fun Γ u'=>look Γ 2 = .c (.ptr s.c 0)∧look Γ 57 = .c (.sl m 1 0 kk)∧look Γ 58 = iV (kk:Int)∧look Γ 59 = iV (i:Int)∧∃ mo,look Γ 11 = .c (.sl mo 1 0 (i + 1))∧u'.h.get mo = some (.cells cj ((outT obs (lS.take (i + 1))).map sI))∧t.c≤mo∧Sb b u'∧u'.h.get s.c = some (.cells e8 [.im 4 (obs.map eQ),.im 1 (rts.map fY)])∧u'.h.get m = some (.cells cj (nF lS))) (dz ?_) ?_
      ·skip
       replace G:=bw g2 (bw g57 (bw g58 (bw g59 g11)))
       refine az (aq ?_)
       refine qX ?_
       refine qL ?_
       refine qV ?_
       refine aX ?_
       dsimp only [aQ]
       refine aq ?_
       refine qV ?_
       refine qP ?_
       refine qL ?_
       refine qV ?_
       refine qX ?_
       refine qP ?_
       refine qL ?_
       refine qM (MS.bsl1 hSu aK) ?_
       refine ej hSu ?_
       intro s11 hst11 hsc11 hS11
       replace hym:=hst11.at hym (by omega)
       replace he2:=hst11.at he2 (by omega)
       have hn11:=hst11.self
       replace hrow:=hrow.keep (hst11.keep _ (by omega))
       refine HQ rfl hS11 aK hrow (by omega) aK (by assumption) (by first | assumption | rfl) cK ?_
       intro s12 hst12 hS12
       have hsa12:=hst12.c
       replace hym:=hst12.at hym (by omega) (by omega)
       replace he2:=hst12.at he2 (by omega) (by omega)
       replace hn11:=hst12.at hn11 (by omega) (by omega)
       have hn12:=hst12.self
       refine qV ?_
       refine aX ?_
       try dsimp only [aQ]
       refine ⟨lk,lk,lk,lk,s11.c,?_,?_,by omega,hS12,he2,hym⟩
       ·simp only [List.length_map,hul]
        simp only [evS,Nat.reduceEqDiff,reduceIte]
       ·rw [hn12,List.take_add_one,ck hil2]
        simp only [outT,Option.toList_some,List.map_append,List.map_cons,List.map_nil]
        rfl
      ·try clear G
       clear g2 g57 g58 g59 g11 hmo hmot hSu he2 hym hrow hmou hmu hscu mo
       rintro Γ2 u2 ⟨g2,g57,g58,g59,mo,g11,hmo,hmot,hSu,he2,hym⟩
       replace G:=bw g2 (bw g57 (bw g58 (bw g59 (bw g11 hw))))
       refine aq ?_
       refine qP ?_
       refine qV ?_
       refine aX ?_
       try dsimp only [aQ]
       refine ⟨⟨lk,lk,lk,i + 1,mo,lk,by omega,lk,hmo,hmot,hSu,he2,fun _=>⟨rfl,hym⟩⟩,?_⟩
       rw [hμ]
       simp only [evS,Nat.reduceEqDiff,reduceIte,hw]
       omega
     ·skip
      refine az (bQ (t:=false) ?_ (ox ?_))
      ·simp only [kq,cq,qw,isB,bV,scV]
       rw [vk (by omega)]
      have hjn:i = kk:=by omega
      subst hjn
      simp only [aQ,Nat.beq_refl,cond_true]
      have G:=bw g2 (bw g57 (bw g58 (bw g59 g11)))
      exact ⟨aK,mo,aK,hmo,by omega,hSu⟩
   ·try clear G
    clear g1 g2 g8 he2 hrow
    rintro Γ t' ⟨g2,mo,g11,hmo,hbmo,hSt⟩
    replace G:=bw g2 g11
    refine az (aq ?_)
    refine qV ?_
    refine qV ?_
    refine qV ?_
    refine aX ?_
    dsimp only [aQ]
    refine pZ ?_
    subst hkd
    exact ⟨.inr rfl,[.c (.sl mo 1 0 (lS.take n.toNat).length),iV 0],0,by simp only [tK,evS,Nat.reduceEqDiff,reduceIte,g11]; rfl,cY,mo,rfl,by rw [atj] at hmo; exact hmo⟩
end Go.RM
namespace Go.RM
open Go.VM (T mV tI Pt Fr RepT Fun aZ lZ pV kX)
open Go Go.Proofs Go.Proofs.Ytliccamocpglcab Go.Shelf Go.Sort Go.RowKit
def F6 (obs:List HO) (rts:List Int):V:=.agg [.im 4 (obs.map eQ),.im 1 (rts.map fY)]
structure SA (obs:List HO) (rts:List Int) (zs:List Int) (lF:List (Fin obs.length)) (args:List V) (s:S) (q:Nat × Nat × Nat × Nat):Prop where
  args:args = [.c (.sl q.1 1 0 lF.length),.c (.fn jX [.ptr q.2.1 0,.ptr q.2.2.1 0])]
  hm:s.h.get q.1 = some (.cells cj (nF lF))
  h6:s.h.get q.2.1 = some (.cells i8 [.sl q.2.2.2 1 0 obs.length])
  hmz:s.h.get q.2.2.2 = some (.cells cj (zs.map sI))
  hp2:s.h.get q.2.2.1 = some (.cells e8 [.im 4 (obs.map eQ),.im 1 (rts.map fY)])
  n6:q.2.1 ≠ q.1
  n2:q.2.2.1 ≠ q.1
  nz:q.2.2.2 ≠ q.1
theorem SA.uniq {obs:List HO} {rts:List Int} {zs:List Int} {lF:List (Fin obs.length)} {args:List V} {s:S} {q q':Nat × Nat × Nat × Nat} (h:SA obs rts zs lF args s q) (h':SA obs rts zs lF args s q'):q' = q:=by
  obtain ⟨m,p6,p2,mz⟩:=q
  obtain ⟨m',p6',p2',mz'⟩:=q'
  have e:=h.args.symm.trans h'.args
  simp only [List.cons.injEq,V.c.injEq,X.sl.injEq,X.fn.injEq,X.ptr.injEq,and_true,true_and] at e
  obtain ⟨rfl,rfl,rfl⟩:=e
  have e2:=h.h6.symm.trans h'.h6
  simp only [dw,O.cells.injEq,List.cons.injEq,X.sl.injEq,and_true,true_and] at e2
  rw [e2]
def apq (q:Nat × Nat × Nat × Nat):Nat:=Nat.lor (bit q.1) (Nat.lor (bit q.2.1) (Nat.lor (bit q.2.2.1) (bit q.2.2.2)))
theorem BY (q:Nat × Nat × Nat × Nat) (k:Nat):(apq q).testBit k = true↔k = q.1∨k = q.2.1∨k = q.2.2.1∨k = q.2.2.2:=by
  unfold apq
  rw [iZ,iZ,iZ,pz,pz,pz,pz]
  simp only [zw,ow]
open Classical in
noncomputable def yX (base:bZ) (obs:List HO) (rts:List Int) (n:Nat) (zs:List Int) (lF:List (Fin obs.length)):bZ:=fun f args s =>
  if f = j8 then (if args = [F6 obs rts]∧s.h.get s.c = none then some ([(.tup [.c (.sl s.c 1 0 n),iV 0],y6 s (.cells cj (zs.map sI)))],bit s.c) else none)
  else if f = gQ then
    (if lF = [] then (if ∃ p6 p2,args = [.c (.sc dZ),.c (.fn jX [.ptr p6 0,.ptr p2 0])] then some ([(.tup [],s)],0) else none)
     else if h:∃ q,SA obs rts zs lF args s q then some ([(.tup [],tW s h.choose.1 (.cells cj (nF (topSort obs zs lF))))],apq h.choose) else none)
  else base f args s
theorem apx {g:Hp} {s:S} {n:Nat} {o:O} (h:Inv g s):Inv g (tW s n o):=fun k hk=>by
  simp only [tW] at hk
  have h1:s.w.testBit k = false∧(bit n).testBit k = false:=by
    have:(Nat.lor s.w (bit n)).testBit k = (s.w.testBit k || (bit n).testBit k):=Nat.testBit_or ..
    rw [this,Bool.or_eq_false_iff] at hk; exact hk
  have hne:k ≠ n:=fun e=>by rw [pz,e] at h1; simp at h1
  rw [(D2 s n o).keep k hne]; exact h k h1.1
theorem aNj {g:Hp} {s:S} {o:O} (h:Inv g s):Inv g (y6 s o):=fun k hk=>apx (n:=s.c) (o:=o) h k hk
section
variable {base:bZ} {obs:List HO} {rts:List Int} {n:Nat} {zs:List Int} {lF:List (Fin obs.length)}
theorem akW (hb:fq base):fq (yX base obs rts n zs lF):=by
  intro f args s outs r h g hi p hp
  unfold yX at h
  split at h
  · split at h
    · cases h; rw [gk.1 hp]; exact aNj hi
    · cases h
  · split at h
    · split at h
      · split at h
        · cases h; rw [gk.1 hp]; exact hi
        · cases h
      · split at h
        · cases h; rw [gk.1 hp]; exact apx hi
        · cases h
    · exact hb f args s outs r h g hi p hp
end
theorem avX {base:bZ} (ho:∀ w0,jY Try.prog w0 base) (hoi:fq base) {obs:List HO} {rts:List Int} {to fr:List (List Nat)} {r:Nat} {ls vals:List Nat} {known:List Bool} (hB:AW base obs rts to fr (r :: ls) vals known) {dv:List Nat} {dk:List Bool} (hD:aeV base to fr (r :: ls) vals known dv dk) (hc:lV base (obs.map eQ) (rts.map fY) 0)
    (hd:∀ v∈dv,v < obs.length + 1) (hls:∀ v∈ls,v < obs.length) (hll:ls.length≤1000) (hid:aiY obs = true) {lF:List (Fin obs.length)} (hlF:lF.length≤1000):∀ w0,jY Try.prog w0 (yX base obs rts obs.length (sY obs dv ls) lF):=by
  intro w0 f args s outs rr h
  unfold yX at h
  split at h
  · rename_i hf
    subst hf
    split at h
    · rename_i hcond
      obtain ⟨rfl,hn⟩:=hcond
      cases h
      refine ⟨⟨_,Try.func16,by kernel_rfl,by kernel_rfl⟩,fun g h2 φ w vs hr hi R hv=>?_⟩
      refine (auQ ho hoi hB hD hc hd hls hll hn (hr s.c (kZ s.c)) hi R hv).mono fun e w' ⟨v,he,φ',hle,R',hv'⟩=>⟨v,he,_,gk.2 rfl,φ',hle,R',hv'⟩
    · cases h
  · split at h
    · rename_i hf
      subst hf
      split at h
      · split at h
        · rename_i hcond
          obtain ⟨p6,p2,rfl⟩:=hcond
          cases h
          refine ⟨⟨_,Try.func28,by kernel_rfl,by kernel_rfl⟩,fun g h2 φ w vs hr hi R hv=>?_⟩
          obtain ⟨v,u,rfl⟩ : ∃ v u,vs = [v,u]:=by
            have:=hv.1
            match vs,this with
            | [v,u],_=>exact ⟨v,u,rfl⟩
          have hv0:RepX φ v (.sc dZ):=hv.2 0 v _ rfl rfl
          cases hv0 with
          | sc _ _ =>
          have:=AnyF.slices_SortFunc_none (P:=Try.prog) (ρ:=Go.VM.srsSort_ren) { Go.VM.srsSort with } none 0 u w
          change Calls Try.prog 28 _ _ _ at this
          refine this.mono fun e w' ⟨he,hw⟩=>?_
          subst hw
          exact ⟨_,he,_,gk.2 rfl,φ,Ren.le_refl φ,R,⟨#[],rfl,Go.VM.Pt.nil⟩⟩
        · cases h
      · rename_i hne
        split at h
        · rename_i hq
          have hs:=hq.choose_spec
          generalize hq.choose = q at hs h
          cases h
          have ha:=hs.args
          subst ha
          refine ⟨⟨_,Try.func28,by kernel_rfl,by kernel_rfl⟩,fun g h2 φ w vs hr hi R hv=>?_⟩
          have hz:obs.length≤(sY obs dv ls).length:=by rw [J7]; omega
          refine (alY hid hz hne hlF hs.hm hs.h6 hs.hmz hs.hp2 hs.n6 hs.n2 hs.nz (hr _ ((BY q _).2 (.inl rfl))) (hr _ ((BY q _).2 (.inr (.inl rfl)))) (hr _ ((BY q _).2 (.inr (.inr (.inl rfl))))) (hr _ ((BY q _).2 (.inr (.inr (.inr rfl))))) hi R hv).mono fun e w' ⟨v,he,φ',hle,R',hv'⟩=>⟨v,he,_,gk.2 rfl,φ',hle,R',hv'⟩
        · cases h
    · exact ho w0 f args s outs rr h
theorem aqQ {base:bZ} {obs:List HO} {rts:List Int} {zs:List Int} {lF:List (Fin obs.length)}:aCj (yX base obs rts obs.length zs lF) obs rts zs:=by
  intro b s hS
  refine Q2 (outs:=[(.tup [.c (.sl s.c 1 0 obs.length),iV 0],y6 s (.cells cj (zs.map sI)))]) (r:=bit s.c) rfl ?_ (fun k hk=>by have:=dW k hk; have:=hS.le; omega) (fun _=>⟨_,rfl⟩) fun p hp=>?_
  · unfold yX
    rw [if_pos rfl,if_pos ⟨rfl,hS.free _ (ik _)⟩]
  · rw [gk.1 hp]
    exact ⟨rfl,hS.new _,rfl,(CK s _).self,fun k hk=>(CK s _).keep k (by omega)⟩
theorem aFW {base:bZ} {obs:List HO} {rts:List Int} {zs:List Int} {lF:List (Fin obs.length)}:aHQ (yX base obs rts obs.length zs lF) obs rts zs lF (topSort obs zs lF):=by
  constructor
  · intro hl s p6 p2
    refine Q2 (outs:=[(.tup [],s)]) (r:=0) rfl ?_ cY (fun _=>⟨_,rfl⟩) fun p hp=>?_
    · unfold yX
      rw [if_neg (by decide),if_pos rfl,if_pos hl,if_pos ⟨p6,p2,rfl⟩]
    · rw [gk.1 hp]; exact ⟨rfl,rfl⟩
  · intro hl b s m p6 p2 mz hS hm h6 hmz hp2 n6 n2 nz bm b6 b2 bz
    have hSA:SA obs rts zs lF [.c (.sl m 1 0 lF.length),.c (.fn jX [.ptr p6 0,.ptr p2 0])] s (m,p6,p2,mz):=⟨rfl,hm,h6,hmz,hp2,n6,n2,nz⟩
    refine Q2 (outs:=[(.tup [],tW s m (.cells cj (nF (topSort obs zs lF))))]) (r:=apq (m,p6,p2,mz)) rfl ?_ (fun k hk=>?_) (fun _=>⟨_,rfl⟩) fun p hp=>?_
    · unfold yX
      have hq:∃ q,SA obs rts zs lF [.c (.sl m 1 0 lF.length),.c (.fn jX [.ptr p6 0,.ptr p2 0])] s q:=⟨_,hSA⟩
      rw [if_neg (by decide),if_pos rfl,if_neg hl,dif_pos hq,hSA.uniq hq.choose_spec]
    · rcases (BY _ k).1 hk with h | h | h | h <;> (dsimp only at h; omega)
    · rw [gk.1 hp]
      exact ⟨rfl,hS.put bm (hS.lt hm) _,rfl,(D2 s _ _).self,fun k hk=>(D2 s _ _).keep k hk⟩
theorem afx {base:bZ} {obs:List HO} {rts:List Int} {n:Nat} {zs:List Int} {lF:List (Fin obs.length)} {f:FuncId} (h1:f ≠ j8) (h2:f ≠ gQ) (args:List V) (s:S):yX base obs rts n zs lF f args s = base f args s:=by
  unfold yX
  rw [if_neg h1,if_neg h2]
end Go.RM
namespace Go.RM
open Go.VM (T mV tI Pt Fr RepT Fun aZ lZ pV kX)
open Go Go.Proofs Go.Proofs.Ytliccamocpglcab
def tree51 (obs:List HO) (rts:List Int):Go.VM.V:=.agg [.imm (.sl 4 (obs.map eQ)),.imm (.sl 1 (rts.map fY))]
structure Base51 (obs:List HO) (rts:List Int) (e:Int) (fnd:Int→Option (Int × Bool)):Prop where
 check:Fun Try.prog 17 true [] [tree51 obs rts] aZ (.c (.imm (tI e))) aZ
 find:∀ id r,fnd id = some r→Fun Try.prog 18 true [] [tree51 obs rts,.c (.imm (tI id))] aZ (.tup [.c (.imm (tI r.1)),.c (.imm (.sc (.bool r.2)))]) aZ
open Classical in
noncomputable def K51 (obs:List HO) (rts:List Int) (e:Int) (fnd:Int→Option (Int × Bool)):FuncId→List V→S→Option (V × Nat):=fun f args _ =>
 if f = i3∧args = [F6 obs rts] then some (iV e,0)
 else if h:f = iK∧∃ p:Int × (Int × Bool),args = [F6 obs rts,.c (.sc (.int .i64 p.1))]∧fnd p.1 = some p.2 then some (.tup [iV h.2.choose.2.1,bV h.2.choose.2.2],0) else none
section
variable {obs:List HO} {rts:List Int} {e:Int} {fnd:Int→Option (Int × Bool)}
theorem aeQ {h:Hp}:TreeV h false (F6 obs rts) (tree51 obs rts):=⟨rfl,fun j x c hx hc=>by
 match j,hx,hc with
 | 0,hx,hc=>cases hx; cases hc; exact ⟨_,rfl,.im _ _ rfl⟩
 | 1,hx,hc=>cases hx; cases hc; exact ⟨_,rfl,.im _ _ rfl⟩⟩
theorem C8 (hB:Base51 obs rts e fnd) (f:FuncId) (args:List V) (s:S) (res:V) (mask:Nat) (h:K51 obs rts e fnd f args s = some (res,mask)):W1 Try.prog f args s mask res:=by
 unfold K51 at h
 split at h
 ·rename_i hc
  obtain ⟨rfl,rfl⟩:=hc
  cases h
  exact ⟨⟨_,Try.func17,by kernel_rfl,by kernel_rfl⟩,_,_,true,Go.VM.Pt.cons aeQ Go.VM.Pt.nil,hB.check,rfl⟩
 ·split at h
  ·rename_i hc
   have hs:=hc.2.choose_spec
   generalize hc.2.choose = p at hs h
   obtain ⟨rfl,_⟩:=hc
   obtain ⟨rfl,hp⟩:=hs
   cases h
   exact ⟨⟨_,Try.func18,by kernel_rfl,by kernel_rfl⟩,_,_,true,Go.VM.Pt.cons aeQ (Go.VM.Pt.cons (show TreeV _ false (V.c (.sc (.int .i64 p.1))) (Go.VM.V.c (.imm (tI p.1))) from TreeX.sc _) Go.VM.Pt.nil),hB.find p.1 p.2 hp,rfl⟩
  ·cases h
theorem rJ:lV (IZ (K51 obs rts e fnd)) (obs.map eQ) (rts.map fY) e:=by
 intro s
 refine KZ (res:=iV e) (mask:=0) rfl ?_ cY ⟨rfl,rfl⟩
 unfold K51
 rw [if_pos ⟨rfl,rfl⟩]
theorem R6:M1 (IZ (K51 obs rts e fnd)) (obs.map eQ) (rts.map fY) e:=by
 intro s
 refine KZ (res:=iV e) (mask:=0) rfl ?_ cY ⟨rfl,rfl⟩
 unfold K51
 rw [if_pos ⟨rfl,rfl⟩]
theorem SQ {id:Int} {r:Int × Bool} (hf:fnd id = some r) (s:S):K51 obs rts e fnd iK [F6 obs rts,.c (.sc (.int .i64 id))] s = some (.tup [iV r.1,bV r.2],0):=by
 unfold K51
 have hq:iK = iK∧∃ p:Int × (Int × Bool),[F6 obs rts,V.c (.sc (.int .i64 id))] = [F6 obs rts,.c (.sc (.int .i64 p.1))]∧fnd p.1 = some p.2:=⟨rfl,(id,r),rfl,hf⟩
 rw [if_neg (by rintro ⟨h,_⟩; exact absurd h (by decide)),dif_pos hq]
 have hs:=hq.2.choose_spec
 generalize hq.2.choose = p at hs
 obtain ⟨h1,h2⟩:=hs
 simp only [List.cons.injEq,V.c.injEq,X.sc.injEq,Value.int.injEq,true_and,and_true] at h1
 rw [← h1,hf] at h2
 cases h2
 rfl
theorem aFK {id:Int} {k:Nat} {ok:Bool} (hf:fnd id = some ((k:Int),ok)):S4 (IZ (K51 obs rts e fnd)) (obs.map eQ) (rts.map fY) id k ok:=fun s =>
 KZ (res:=.tup [iV (k:Int),bV ok]) (mask:=0) rfl (SQ hf s) cY ⟨rfl,rfl⟩
end
def fndN (fnd:Int→Option (Int × Bool)) (id:Int):Nat:=match fnd id with
 | some (k,true)=>k.toNat
 | _=>0
def refsB (fnd:Int→Option (Int × Bool)) (n:Nat) (l:List Int):Bool:=decide (l.length≤1000) && l.all fun id=>match fnd id with
 | some (k,true)=>decide (0≤k) && decide (k.toNat < n + 1)
 | _=>false
theorem aiz {fnd:Int→Option (Int × Bool)} {n:Nat} {l:List Int} (h:refsB fnd n l = true):l.length≤1000∧∀ id∈l,fnd id = some ((fndN fnd id:Int),true)∧fndN fnd id < n + 1:=by
 unfold refsB at h
 rw [fk,ow,tk] at h
 refine ⟨h.1,fun id hid=>?_⟩
 have:=h.2 id hid
 unfold fndN
 split at this
 ·rename_i k hk
  rw [fk,ow,ow] at this
  rw [hk]
  exact ⟨by rw [Int.toNat_of_nonneg this.1],this.2⟩
 ·cases this
def graphB (fnd:Int→Option (Int × Bool)) (obs:List HO) (rts:List Int):Bool:=decide (obs.length≤60) && (obs.all fun o=>refsB fnd obs.length o.refs) && refsB fnd obs.length rts
def P2 (fnd:Int→Option (Int × Bool)) (obs:List HO) (rts:List Int):Option (List Nat) :=
 bif graphB fnd obs rts then match u9 100 (adds (fndN fnd) obs rts).1 obs.length (List.range (obs.length + 1)) [] with
  | some p=>bif decide (p.2.length≤1000) && p.2.all (fun i=>decide (i < obs.length + 1)) then some p.2.reverse else none
  | none=>none
 else none
def tZ (n:Nat) (ord:List Nat):List Nat × List Bool:=iz 0 ord (List.replicate (n + 1) 0,List.replicate (n + 1) false)
theorem IQ:∀ (ord:List Nat) (j:Nat) (p:List Nat × List Bool),(iz j ord p).1.length = p.1.length∧(iz j ord p).2.length = p.2.length
 | [],_,_=>⟨rfl,rfl⟩
 | i :: l,j,p=>by
  have:=IQ l (j + 1) (p.1.set i j,p.2.set i true)
  simpa [iz] using this
theorem addsFrom_len (fnd:Int→Nat):∀ (l:List HO) (j:Nat) (p:List (List Nat) × List (List Nat)),(addsFrom fnd j l p).1.length = p.1.length∧(addsFrom fnd j l p).2.length = p.2.length
 | [],_,_=>⟨rfl,rfl⟩
 | o :: l,j,p=>by
  have h1:=addsFrom_len fnd l (j + 1) ((o.refs.map fnd).foldl (fun p k=>addS p j k) p)
  have h2:=addSs_len j (o.refs.map fnd) p
  exact ⟨h1.1.trans h2.1,h1.2.trans h2.2⟩
theorem adds_len (fnd:Int→Nat) (obs:List HO) (rts:List Int):(adds fnd obs rts).1.length = obs.length + 1∧(adds fnd obs rts).2.length = obs.length + 1:=by
 unfold adds
 have h1:=addSs_len obs.length (rts.map fnd) (addsFrom fnd 0 obs (List.replicate (obs.length + 1) [],List.replicate (obs.length + 1) []))
 have h2:=addsFrom_len fnd obs 0 (List.replicate (obs.length + 1) [],List.replicate (obs.length + 1) [])
 exact ⟨by rw [h1.1,h2.1,mw],by rw [h1.2,h2.2,mw]⟩
theorem adX {orc:bZ} {fnd:Int→Option (Int × Bool)} {obs:List HO} {rts:List Int} (hfd:∀ id r,fnd id = some r→∀ s,Cp orc p_T iK [F6 obs rts,.c (.sc (.int .i64 id))] s (fun _=>False) True fun v s'=>s = s'∧v = .tup [iV r.1,bV r.2]) {ord:List Nat} (h:P2 fnd obs rts = some ord) :
  AW orc obs rts (adds (fndN fnd) obs rts).1 (adds (fndN fnd) obs rts).2 ord (tZ obs.length ord).1 (tZ obs.length ord).2:=by
 unfold P2 at h
 cases hg:graphB fnd obs rts with
 | false=>rw [hg] at h; cases h
 | true =>
  rw [hg] at h
  simp only [cond_true] at h
  unfold graphB at hg
  rw [fk,fk,ow,tk] at hg
  obtain ⟨⟨hn,ho⟩,hr⟩:=hg
  split at h
  ·rename_i p hp
   cases hb:decide (p.2.length≤1000) && p.2.all (fun i=>decide (i < obs.length + 1)) with
   | false=>rw [hb] at h; cases h
   | true =>
    rw [hb] at h
    simp only [cond_true,dw] at h
    subst h
    rw [fk,ow,tk] at hb
    have hrefs:azW orc (fndN fnd) obs rts:=by
     have key:∀ l:List Int,refsB fnd obs.length l = true→ZX orc (obs.map eQ) (rts.map fY) (fndN fnd) l∧l.length≤1000∧∀ r∈l,fndN fnd r < obs.length + 1:=fun l hl=>by
      obtain ⟨h1,h2⟩:=aiz hl
      refine ⟨fun s id hid=>?_,h1,fun r hr=>(h2 r hr).2⟩
      exact hfd id _ (h2 id hid).1 s
     exact ⟨fun o hm=>key o.refs (ho o hm),key rts hr⟩
    have hlen:=adds_len (fndN fnd) obs rts
    have hpl:=IQ p.2.reverse 0 (List.replicate (obs.length + 1) 0,List.replicate (obs.length + 1) false)
    exact ⟨fun b s hS=>aCz hS obs rts hn hrefs (us':=p.1) (ord':=p.2) hp hb.1 (fun i hi=>of_decide_eq_true (hb.2 i hi)),hlen.1,hlen.2,by rw [tZ,hpl.1,mw],by rw [tZ,hpl.2,mw],hn⟩
  ·cases h
section
variable {obs:List HO} {rts:List Int} {e:Int} {fnd:Int→Option (Int × Bool)}
theorem AZ {ord:List Nat} (h:P2 fnd obs rts = some ord):AW (IZ (K51 obs rts e fnd)) obs rts (adds (fndN fnd) obs rts).1 (adds (fndN fnd) obs rts).2 ord (tZ obs.length ord).1 (tZ obs.length ord).2 :=
 adX (fun id r hf s=>KZ (res:=.tup [iV r.1,bV r.2]) (mask:=0) rfl (SQ hf s) cY ⟨rfl,rfl⟩) h
end
def reachF (chk:Option Int) (fnd:Int→Option (Int × Bool)) (obs:List HO) (rts:List Int):Option (List Bool × Int) :=
 chk.bind fun e=>bif decide (e = 0) then (P2 fnd obs rts).map fun ord=>((tZ obs.length ord).2.take obs.length,0) else some ([],e)
theorem reachF_fun {chk:Option Int} {fnd:Int→Option (Int × Bool)} {obs:List HO} {rts:List Int} (hB:∀ e,chk = some e→Base51 obs rts e fnd) {r:List Bool × Int} (h:reachF chk fnd obs rts = some r) (fresh:Bool) :
  Fun Try.prog p8 fresh [] [tree51 obs rts] aZ (.tup [.c (.imm (.sl 1 (MY r.1))),.c (.imm (tI r.2))]) aZ:=by
 unfold reachF at h
 obtain ⟨e,he,h⟩:=ak.1 h
 have hb:=hB e he
 have ho:=F0 (C8 hb)
 have hoi:=Dj (K51 obs rts e fnd)
 by_cases e0:e = 0
 ·subst e0
  simp only [decide_true,cond_true] at h
  obtain ⟨ord,h1,rfl⟩:=aw.1 h
  exact auJ ho hoi (AZ h1) rJ fresh
 ·rw [vk e0] at h
  cases h
  exact avJ ho hoi rJ e0 fresh
def aaz (fnd:Int→Option (Int × Bool)) (obs:List HO) (rts:List Int) (ord:List Nat):Option (List Nat × List Bool):=match ord with
 | []=>none
 | root :: _=>bif decide (root < obs.length + 1∧obs.length≤60) && decide (ord.length≤1000) && (adds (fndN fnd) obs rts).2.all (fun l=>decide (l.length≤1000000)) then
   (match Vz 200 (tZ obs.length ord).1 (adds (fndN fnd) obs rts).2 ord 100 ((List.replicate (obs.length + 1) 0).set root root,(List.replicate (obs.length + 1) false).set root true) with
   | some p=>bif decide (p.1.length = obs.length + 1) && decide (p.2.length = obs.length + 1) && p.1.all (fun v=>decide (v < obs.length + 1)) then some p else none
   | none=>none) else none
theorem ZV {orc:bZ} {fnd:Int→Option (Int × Bool)} {obs:List HO} {rts:List Int} {ord:List Nat} {p:List Nat × List Bool} (h:aaz fnd obs rts ord = some p) :
  aeV orc (adds (fndN fnd) obs rts).1 (adds (fndN fnd) obs rts).2 ord (tZ obs.length ord).1 (tZ obs.length ord).2 p.1 p.2∧(∀ v∈p.1,v < obs.length + 1)∧∃ r ls,ord = r :: ls:=by
 unfold aaz at h
 split at h
 ·cases h
 ·rename_i root ls
  cases hb:decide (root < obs.length + 1∧obs.length≤60) && decide ((root :: ls).length≤1000) && (adds (fndN fnd) obs rts).2.all (fun l=>decide (l.length≤1000000)) with
  | false=>rw [hb] at h; cases h
  | true =>
   rw [hb] at h
   simp only [cond_true] at h
   rw [fk,fk,ow,ow,tk] at hb
   split at h
   ·rename_i q hq
    cases hc:decide (q.1.length = obs.length + 1) && decide (q.2.length = obs.length + 1) && q.1.all (fun v=>decide (v < obs.length + 1)) with
    | false=>rw [hc] at h; cases h
    | true =>
     rw [hc] at h
     cases h
     rw [fk,fk,ow,ow,tk] at hc
     have hl:=adds_len (fndN fnd) obs rts
     have hsm:=hb.1.2
     refine ⟨⟨fun b s g hS hG=>?_,by rw [hl.1]; exact hc.1.1,by rw [hl.1]; exact hc.1.2⟩,fun v hv=>of_decide_eq_true (hc.2 v hv),root,ls,rfl⟩
     exact U6 hS hG (by rw [hl.1]; omega) hsm (fun l hm=>of_decide_eq_true (hb.2 l hm)) (root:=root) rfl (by rw [hl.1]; exact hb.1.1.1) (F:=200) (f:=100) (by rw [hl.1]; exact hq)
   ·cases h
def dominatorsF (chk:Option Int) (fnd:Int→Option (Int × Bool)) (obs:List HO) (rts:List Int):Option (List Int × Int) :=
 chk.bind fun e=>bif decide (e = 0) then (P2 fnd obs rts).bind fun ord=>(aaz fnd obs rts ord).map fun p=>(qx obs.length p.1 p.2,0) else some ([],e)
def retainedF (chk:Option Int) (fnd:Int→Option (Int × Bool)) (obs:List HO) (rts:List Int):Option (List Int × Int) :=
 chk.bind fun e=>bif decide (e = 0) then (P2 fnd obs rts).bind fun ord=>(aaz fnd obs rts ord).bind fun p=>bif (ord.drop 1).all (fun v=>decide (v < obs.length)) && decide (ord.length≤1000) then some ((sY obs p.1 (ord.drop 1)).take obs.length,0) else none else some ([],e)
def J2 (obs:List HO) (ord:List Nat):List (Fin obs.length):=(List.finRange obs.length).filter fun i=>(tZ obs.length ord).2.getD i false
def topF (chk:Option Int) (fnd:Int→Option (Int × Bool)) (obs:List HO) (rts:List Int) (n:Int):Option (List Int × Int) :=
 chk.bind fun e=>bif decide (e = 0) then (P2 fnd obs rts).bind fun ord=>(aaz fnd obs rts ord).bind fun p=>bif (ord.drop 1).all (fun v=>decide (v < obs.length)) && decide (ord.length≤1000) && aiY obs then
  (bif decide (n < 0) then some ([],2) else some (outT obs ((topSort obs (sY obs p.1 (ord.drop 1)) (J2 obs ord)).take n.toNat),0)) else none else some ([],e)
def pathF (chk:Option Int) (fnd:Int→Option (Int × Bool)) (obs:List HO) (rts:List Int) (id:Int):Option (List Int × Int) :=
 chk.bind fun e=>bif decide (e = 0) then (match fnd id with
  | none=>none
  | some (k,false)=>bif decide (0≤k) then some ([],5) else none
  | some (k,true)=>bif decide (0≤k) && decide (k.toNat < obs.length) && (adds (fndN fnd) obs rts).1.all (fun l=>decide (l.length≤1000)) then (P2 fnd obs rts).bind fun _ =>
    (L0 (adds (fndN fnd) obs rts).1 100 (((List.replicate (obs.length + 1) 0).set obs.length obs.length,(List.replicate (obs.length + 1) false).set obs.length true),[obs.length])).bind fun q =>
     (match q.2[k.toNat]? with
     | none=>none
     | some false=>some ([],5)
     | some true=>(BQ obs q.1 100 k.toNat []).bind fun acc=>bif decide (acc.length≤1000) && decide (0 < acc.length) then some (acc.reverse,0) else none) else none) else some ([],e)
section
variable {chk:Option Int} {fnd:Int→Option (Int × Bool)} {obs:List HO} {rts:List Int}
theorem dominatorsF_fun (hB:∀ e,chk = some e→Base51 obs rts e fnd) {r:List Int × Int} (h:dominatorsF chk fnd obs rts = some r) (fresh:Bool) :
  Fun Try.prog jW fresh [] [tree51 obs rts] aZ (.tup [.c (.imm (.sl 1 (BX r.1))),.c (.imm (tI r.2))]) aZ:=by
 unfold dominatorsF at h
 obtain ⟨e,he,h⟩:=ak.1 h
 have hb:=hB e he
 have ho:=F0 (C8 hb)
 have hoi:=Dj (K51 obs rts e fnd)
 by_cases e0:e = 0
 ·subst e0
  simp only [decide_true,cond_true] at h
  obtain ⟨ord,h1,h⟩:=ak.1 h
  obtain ⟨p,h2,rfl⟩:=aw.1 h
  exact S9 ho hoi (AZ h1) (ZV h2).1 rJ fresh
 ·rw [vk e0] at h
  cases h
  exact TK ho hoi rJ e0 fresh
theorem retainedF_fun (hB:∀ e,chk = some e→Base51 obs rts e fnd) {r:List Int × Int} (h:retainedF chk fnd obs rts = some r) (fresh:Bool) :
  Fun Try.prog j8 fresh [] [tree51 obs rts] aZ (.tup [.c (.imm (.sl 1 (BX r.1))),.c (.imm (tI r.2))]) aZ:=by
 unfold retainedF at h
 obtain ⟨e,he,h⟩:=ak.1 h
 have hb:=hB e he
 have ho:=F0 (C8 hb)
 have hoi:=Dj (K51 obs rts e fnd)
 by_cases e0:e = 0
 ·subst e0
  simp only [decide_true,cond_true] at h
  obtain ⟨ord,h1,h⟩:=ak.1 h
  obtain ⟨p,h2,h⟩:=ak.1 h
  cases hc:(ord.drop 1).all (fun v=>decide (v < obs.length)) && decide (ord.length≤1000) with
  | false=>rw [hc] at h; cases h
  | true =>
   rw [hc] at h
   cases h
   rw [fk,tk,ow] at hc
   obtain ⟨hD,hd,root,ls,rfl⟩:=ZV h2
   simp only [List.drop_succ_cons,List.drop_zero,List.length_cons] at hc ⊢
   exact Y1 ho hoi (AZ h1) hD rJ hd (fun v hv=>of_decide_eq_true (hc.1 v hv)) (by omega) fresh
 ·rw [vk e0] at h
  cases h
  exact Yq ho hoi R6 e0 fresh
theorem asj (known:List Bool) (n:Nat):((List.finRange n).filter fun i:Fin n=>known.getD i false).map (fun x:Fin n=>x.val) = nZ known n:=by
 unfold nZ
 have h:(List.finRange n).map (fun x:Fin n=>x.val) = List.range n:=by
  apply List.ext_getElem
  ·simp
  ·intro i h1 h2; simp
 rw [← h,List.filter_map]
 rfl
theorem aHJ {h:Hp} {fresh:Bool} {m:Nat} {obs:List HO} {L:List (Fin obs.length)} (hm:h m = some (.cells cj ((outT obs L).map sI))):TreeX h fresh (.sl m 1 0 L.length) (.sl 1 (BX (outT obs L))):=by
 have hl:(outT obs L).length = L.length:=by unfold outT; rw [List.length_map]
 have:=G7 (fresh:=fresh) (n:=L.length) hm (by omega)
 rw [List.take_of_length_le (by omega)] at this
 exact this
theorem topF_fun (hB:∀ e,chk = some e→Base51 obs rts e fnd) {n:Int} {r:List Int × Int} (h:topF chk fnd obs rts n = some r) (fresh:Bool) :
  Fun Try.prog xj fresh [] [tree51 obs rts,.c (.imm (tI n))] aZ (.tup [.c (.imm (.sl 1 (BX r.1))),.c (.imm (tI r.2))]) aZ:=by
 unfold topF at h
 obtain ⟨e,he,h⟩:=ak.1 h
 have hb:=hB e he
 have ho:=F0 (C8 hb)
 have hoi:=Dj (K51 obs rts e fnd)
 by_cases e0:e = 0
 ·subst e0
  simp only [decide_true,cond_true] at h
  obtain ⟨ord,h1,h⟩:=ak.1 h
  obtain ⟨p,h2,h⟩:=ak.1 h
  cases hc:(ord.drop 1).all (fun v=>decide (v < obs.length)) && decide (ord.length≤1000) && aiY obs with
  | false=>rw [hc] at h; cases h
  | true =>
   rw [hc] at h
   simp only [cond_true] at h
   rw [fk,fk,tk,ow] at hc
   obtain ⟨hD,hd,root,ls,rfl⟩:=ZV h2
   simp only [List.drop_succ_cons,List.drop_zero,List.length_cons] at hc h
   have hB0:=AZ (e:=0) h1
   have hn60:obs.length≤60:=hB0.small
   have hkl:(J2 obs (root :: ls)).length≤1000:=by
    have h3:=List.length_filter_le (fun i:Fin obs.length=>(tZ obs.length (root :: ls)).2.getD i false) (List.finRange obs.length)
    rw [List.length_finRange] at h3
    unfold J2
    omega
   have hto:=avX ho hoi hB0 hD rJ hd (fun v hv=>of_decide_eq_true (hc.1.1 v hv)) (by omega) hc.2 (lF:=J2 obs (root :: ls)) hkl
   have htoi:=akW (obs:=obs) (rts:=rts) (n:=obs.length) (zs:=sY obs p.1 ls) (lF:=J2 obs (root :: ls)) hoi
   cases hn:decide (n < 0) with
   | true =>
    rw [hn] at h
    cases h
    have hn':=of_decide_eq_true hn
    exact pW rW hto htoi (us:=[F6 obs rts,.c (.sc (.int .i64 n))]) rfl (aMX sb0 (obs:=obs) (rts:=rts) aqQ hn') fun v s hv=>by subst hv; exact yj
   | false =>
    rw [hn] at h
    cases h
    have hn':=of_decide_eq_false hn
    have hBt:AW (yX (IZ (K51 obs rts 0 fnd)) obs rts obs.length (sY obs p.1 ls) (J2 obs (root :: ls))) obs rts (adds (fndN fnd) obs rts).1 (adds (fndN fnd) obs rts).2 (root :: ls) (tZ obs.length (root :: ls)).1 (tZ obs.length (root :: ls)).2 :=
     adX (fun id r hf s=>Q2 (outs:=[(.tup [iV r.1,bV r.2],s)]) (r:=0) rfl (by rw [afx (by decide) (by decide)]; unfold IZ; rw [SQ hf]; rfl) cY (fun _=>⟨_,rfl⟩) fun p hp=>by rw [gk.1 hp]; exact ⟨rfl,rfl⟩) h1
    refine pW rW hto htoi (us:=[F6 obs rts,.c (.sc (.int .i64 n))]) rfl (aQx sb0 hBt aqQ (asj _ _) aFW (List.length_mergeSort _) (by omega)) fun v s ⟨m,hv,hm⟩=>?_
    subst hv
    exact Pt.cons (aHJ hm) (Pt.cons (TreeX.sc _) Pt.nil)
 ·rw [vk e0] at h
  cases h
  exact pW arx ho hoi (us:=[F6 obs rts,.c (.sc (.int .i64 n))]) rfl (aIQ sb0 R6 e0 n) fun v s hv=>by subst hv; exact yj
theorem pathF_fun (hB:∀ e,chk = some e→Base51 obs rts e fnd) {id:Int} {r:List Int × Int} (h:pathF chk fnd obs rts id = some r) (fresh:Bool) :
  Fun Try.prog nQ fresh [] [tree51 obs rts,.c (.imm (tI id))] aZ (.tup [.c (.imm (.sl 1 (BX r.1))),.c (.imm (tI r.2))]) aZ:=by
 unfold pathF at h
 obtain ⟨e,he,h⟩:=ak.1 h
 have hb:=hB e he
 have ho:=F0 (C8 hb)
 have hoi:=Dj (K51 obs rts e fnd)
 by_cases e0:e = 0
 ·subst e0
  simp only [decide_true,cond_true] at h
  split at h
  ·cases h
  ·rename_i k hk
   cases hc:decide (0≤k) with
   | false=>rw [hc] at h; cases h
   | true =>
    rw [hc] at h
    cases h
    have hk0:=of_decide_eq_true hc
    exact awx ho hoi rJ (id:=id) (k:=k.toNat) (aFK (by rw [hk,Int.toNat_of_nonneg hk0])) fresh
  ·rename_i k hk
   cases hc:decide (0≤k) && decide (k.toNat < obs.length) && (adds (fndN fnd) obs rts).1.all (fun l=>decide (l.length≤1000)) with
   | false=>rw [hc] at h; cases h
   | true =>
    rw [hc] at h
    simp only [cond_true] at h
    rw [fk,fk,ow,ow,tk] at hc
    obtain ⟨ord,h1,h⟩:=ak.1 h
    obtain ⟨q,h2,h⟩:=ak.1 h
    have hat:=aFK (e:=0) (rts:=rts) (obs:=obs) (id:=id) (k:=k.toNat) (ok:=true) (fnd:=fnd) (by rw [hk,Int.toNat_of_nonneg hc.1.1])
    split at h
    ·cases h
    ·rename_i hq
     cases h
     exact acW ho hoi (AZ h1) rJ (fun l hl=>of_decide_eq_true (hc.2 l hl)) hat hc.1.2 h2 (kw:=false) hq (f2:=0) (acc:=[]) (fun h=>by cases h) fresh
    ·rename_i hq
     obtain ⟨acc,h3,h⟩:=ak.1 h
     cases hd:decide (acc.length≤1000) && decide (0 < acc.length) with
     | false=>rw [hd] at h; cases h
     | true =>
      rw [hd] at h
      cases h
      rw [fk,ow,ow] at hd
      exact acW ho hoi (AZ h1) rJ (fun l hl=>of_decide_eq_true (hc.2 l hl)) hat hc.1.2 h2 (kw:=true) hq (fun _=>⟨h3,hd.1,hd.2⟩) fresh
 ·rw [vk e0] at h
  cases h
  exact aGj ho hoi rJ e0 id fresh
end
end Go.RM
namespace Go.RM
open Go.Proofs Go.Proofs.Ytliccamocpglcab
def X1:Nat:=33
end Go.RM
namespace Go.RM
open Go.VM (T mV tI Pt Fr RepT Fun aZ aj Oid)
open Go Go.Proofs Go.Proofs.Ytliccamocpglcab
structure RowsB (h:Hp) (own:Nat→Option Nat) (na:Nat) (ls:List (List Bool)) (xs:List X):Prop where
 arr:h na = some (.cells X1 xs)
 len:xs.length = ls.length
 row:∀ (i:Nat) x l,xs[i]? = some x→ls[i]? = some l→(x = .sc dZ∧l = [])∨∃ n,x = .sl n 1 0 l.length∧h n = some (.cells AV (l.map bI))∧own n = some i
theorem RowsB.upd {h h':Hp} {own own':Nat→Option Nat} {na:Nat} {ls:List (List Bool)} {xs:List X} (hR:RowsB h own na ls xs) {i nn:Nat} {v:Bool} {l:List Bool} (hl:ls[i]? = some l) (ha:h' na = some (.cells X1 (xs.set i (.sl nn 1 0 (l.length + 1))))) (hn:h' nn = some (.cells AV ((l++[v]).map bI))) (ho:own' nn = some i)
  (hk:∀ n j,j ≠ i→own n = some j→h' n = h n∧own' n = some j):RowsB h' own' na (ls.set i (l++[v])) (xs.set i (.sl nn 1 0 (l.length + 1))):=by
 have hil:i < ls.length:=(cw.1 hl).1
 refine ⟨ha,by rw [uw,uw]; exact hR.len,fun j x l' hx hl'=>?_⟩
 rw [List.getElem?_set] at hx hl'
 by_cases e:i = j
 ·rw [if_pos e,if_pos (by rw [hR.len]; exact hil)] at hx
  rw [if_pos e,if_pos hil] at hl'
  cases hx; cases hl'
  subst e
  exact .inr ⟨nn,by rw [lw]; rfl,hn,ho⟩
 ·rw [if_neg e] at hx hl'
  rcases hR.row j x l' hx hl' with h1 | ⟨n,h1,h2,h3⟩
  ·exact .inl h1
  ·obtain ⟨k1,k2⟩:=hk n j (Ne.symm e) h3
   exact .inr ⟨n,h1,k1.trans h2,k2⟩
theorem RowsB.keep {h h':Hp} {own:Nat→Option Nat} {na:Nat} {ls:List (List Bool)} {xs:List X} (hR:RowsB h own na ls xs) (ha:h' na = h na) (hk:∀ n i,own n = some i→h' n = h n):RowsB h' own na ls xs :=
 ⟨ha.trans hR.arr,hR.len,fun i x l h1 h2=>by
  rcases hR.row i x l h1 h2 with h3 | ⟨n,h3,h4,h5⟩
  ·exact .inl h3
  ·exact .inr ⟨n,h3,(hk n i h5).trans h4,h5⟩⟩
def aTV (all rest:List Int) (n:Nat):List Bool:=(List.range n).map fun k=>decide (0 < all.getD k 0) && decide (rest.getD k 0 = 0)
def aVx (all:List Int) (rest:Nat→List Int) (n:Nat):List (List Bool):=(List.range n).map fun j=>aTV all (rest j) n
structure DomD (b hb ma no:Nat) (obs:List HO) (rts:List Int) (all:List Int) (own:Nat→Option Nat) (ls:List (List Bool)) (xs:List X) (s:S):Prop where
 sb:Sb b s
 e1:s.h.get hb = some (.cells e8 [.im 4 (obs.map eQ),.im 1 (rts.map fY)])
 ea:s.h.get ma = some (.cells cj (all.map sI))
 rows:RowsB s.h.get own no ls xs
 owned:∀ q j,own q = some j→b≤q∧q < s.c∧q ≠ hb∧q ≠ ma∧q ≠ no
 ne:no ≠ hb∧no ≠ ma
 le:b≤hb∧b≤ma∧b≤no
theorem DomD.keep {b hb ma no:Nat} {obs:List HO} {rts:List Int} {all:List Int} {own:Nat→Option Nat} {ls:List (List Bool)} {xs:List X} {s s':S} (h:DomD b hb ma no obs rts all own ls xs s) (hS:Sb b s') (hc:s.c≤s'.c) (hk:∀ k,k < s.c→s'.h.get k = s.h.get k):DomD b hb ma no obs rts all own ls xs s' :=
 ⟨hS,(hk _ (h.sb.lt h.e1)).trans h.e1,(hk _ (h.sb.lt h.ea)).trans h.ea,h.rows.keep (hk _ (h.sb.lt h.rows.arr)) (fun n i hn=>hk n (h.owned n i hn).2.1),fun q j hq=>let ⟨a1,a2,a3,a4,a5⟩:=h.owned q j hq; ⟨a1,vw a2 hc,a3,a4,a5⟩,h.ne,h.le⟩
theorem RowsB.toN {h:Hp} {own:Nat→Option Nat} {na:Nat} {ls:List (List Bool)} {xs:List X} (hR:RowsB h own na ls xs) {i:Nat} {x:X} {l:List Bool} (hx:xs[i]? = some x) (hl:ls[i]? = some l) (d:Nat):∃ n,RowN h AV x (l.map bI) n∧(own n = some i∨n = d):=by
 rcases hR.row i x l hx hl with ⟨h1,h2⟩ | ⟨n,h1,h2,h3⟩
 ·exact ⟨d,.inl ⟨h1,by rw [h2]; rfl⟩,.inr rfl⟩
 ·exact ⟨n,.inr ⟨by rw [List.length_map]; exact h1,h2⟩,.inl h3⟩
end Go.RM
namespace Go.RM
open Go.VM (T mV tI Pt Fr RepT Fun aZ aj Oid)
open Go Go.Proofs Go.Proofs.Ytliccamocpglcab
open Classical in
section
variable {dist:Int→Option (List Int)} {obs:List HO} {rts:List Int}
end
def ahZ (dist:Int→Option (List Int)) (n:Nat):Option (List (List Bool)) :=
 (dist (-1)).bind fun all=>bif decide (n≤60) && decide (all.length = n) && (List.range n).all (fun i=>match dist (i:Int) with
  | some l=>decide (l.length = n)
  | none=>false) then some (aVx all (fun i=>(dist (i:Int)).getD []) n) else none
end Go.RM
