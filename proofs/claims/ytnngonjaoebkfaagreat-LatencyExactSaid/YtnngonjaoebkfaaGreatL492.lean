/- What the functions of the law compute, each with its proof. -/
import Derived.Test.YtnngonjaoebkfaaGreatL491
import Derived.Test.YtnngonjaoebkfaaGreatRows
import Derived.KernelRfl
import Derived.Lib.Bytealg
import Derived.Laws.Externs
import Derived.WalkKit
namespace Go.VM
open Go.Proofs Go.Proofs.YtnngonjaoebkfaaGreat
open Go.RowKit
set_option maxRecDepth 100000
set_option maxHeartbeats 4000000
theorem trace_tables_fun (p0 : api_Trace) (r : Int) (hF : trace_tables p0 = some r) : Fun Tryz.prog 44 true [] [.agg (m_api_Trace p0)] noHeap (cI r) noHeap := by
 refine Fun.of_walk0 Tryz.func44 c44 (by kernel_rfl) (rs := [.tmp 2]) (by kernel_rfl) ?_; unfold v44
 unfold trace_tables at hF
 refine wA rfl ?_; refine wC 1 rfl ?_; obtain ⟨r1, hr1, hF⟩ := bB hF
 rcases r1 with r1_0 | r1_1
 · refine R_stepX trivial (X_callG [] rfl (callN _) (trace_threads_fun _ _ hr1) trivial ⟨.inr ⟨rfl, rfl, rfl, rfl, rfl, rfl, rfl, rfl, rfl, rfl, trivial⟩, trivial⟩ rfl rfl rfl ?_); refine QV rfl ?_; refine W_seq ?_
   refine wA rfl ?_; refine wIf hF rfl (fun _ hF => ?_) fun _ hF => ?_
   · refine wA rfl ?_; cases hF
     exact W_ret wR
   refine W_skip ?_; refine W_seq ?_; refine W_seq ?_; refine W_regD (by decide) (by kernel_rfl) rfl ?_; refine Q_run SP 2 rfl ?_; obtain ⟨r2, hr2, hF⟩ := bB hF
   refine R_step SP trivial (T_call (slice_Check_fun _ _ hr2) ⟨rfl, trivial⟩ rfl (.inl rfl) ?_); refine Q_run SP 3 rfl ?_; simp at hF
 refine R_stepX trivial (X_callG [((902,2440),(13,1))] rfl (callN _) (trace_threads_fun _ _ hr1) trivial ⟨.inr ⟨rfl, rfl, rfl, rfl, rfl, rfl, rfl, rfl, rfl, rfl, trivial⟩, trivial⟩ rfl rfl rfl ?_); refine QV rfl ?_
 refine W_seq ?_; refine wA rfl ?_; refine wIf hF rfl (fun _ hF => ?_) fun _ hF => ?_
 · refine wA rfl ?_; cases hF
   exact W_ret wR
 refine W_skip ?_; refine W_seq ?_; refine W_seq ?_; refine W_regD (by decide) (by kernel_rfl) rfl ?_; refine Q_run SP 2 rfl ?_; obtain ⟨r4, hr4, hF⟩ := bB hF
 refine R_step SP trivial (T_call (slice_Check_fun _ _ hr4) ⟨rfl, trivial⟩ rfl (.inl rfl) ?_); refine Q_run SP 3 rfl ?_; obtain ⟨r5, hr5, hF⟩ := bB hF
 refine R_step SP trivial (T_callO [((3480,0),(13,1))] rfl (trace_known_api_Slice_k1_fun _ _ _ _ hr5) ⟨rfl, trivial⟩ rfl rfl (.inr ⟨.inl rfl, .inl rfl, .inl rfl, .inl rfl, trivial⟩) ?_); refine QP rfl ?_
 refine wA rfl ?_; refine wIf hF rfl (fun _ hF => ?_) fun _ hF => ?_
 · refine wA rfl ?_; cases hF
   exact W_ret wR
 refine W_skip ?_; refine W_seq ?_; refine wC 4 rfl ?_; obtain ⟨r6, hr6, hF⟩ := bB hF
 refine rS (T_call (state_Check_fun _ _ _ hr6) ⟨rfl, rfl, trivial⟩ rfl (.inl rfl) ?_); refine QV rfl ?_; refine wA rfl ?_; refine wIf hF rfl (fun _ hF => ?_) fun _ hF => ?_
 · refine wA rfl ?_; cases hF
   exact W_ret wR
 refine W_skip ?_; refine W_seq ?_; refine W_regD (by decide) (by kernel_rfl) rfl ?_; refine Q_run SP 2 rfl ?_; obtain ⟨r7, hr7, hF⟩ := bB hF
 refine R_step SP trivial (T_call (flow_Check_fun _ _ hr7) ⟨rfl, trivial⟩ rfl (.inl rfl) ?_); refine Q_run SP 3 rfl ?_; obtain ⟨r8, hr8, hF⟩ := bB hF
 refine R_step SP trivial (T_callO [((3640,0),(13,1))] rfl (trace_known_api_Flow_k1_fun _ _ _ _ hr8) ⟨rfl, trivial⟩ rfl rfl (.inr ⟨.inl rfl, .inl rfl, .inl rfl, .inl rfl, trivial⟩) ?_); refine QP rfl ?_
 refine W_seq ?_; refine wC 4 rfl ?_; obtain ⟨r9, hr9, hF⟩ := bB hF
 refine rS (T_callO [((3640,0),(13,1))] rfl (trace_known_api_Flow_k2_fun _ _ _ _ hr9) ⟨rfl, trivial⟩ rfl rfl (.inr ⟨.inl rfl, .inl rfl, .inl rfl, .inl rfl, trivial⟩) ?_); refine QV rfl ?_; refine wA rfl ?_
 refine wIf hF rfl (fun _ hF => ?_) fun _ hF => ?_
 · refine wA rfl ?_; cases hF
   exact W_ret wR
 refine W_skip ?_; refine W_seq ?_; refine W_seq ?_; refine W_regD (by decide) (by kernel_rfl) rfl ?_; refine Q_run SP 2 rfl ?_; obtain ⟨r10, hr10, hF⟩ := bB hF
 refine R_step SP trivial (T_call (sample_Check_fun _ _ hr10) ⟨rfl, trivial⟩ rfl (.inl rfl) ?_); refine Q_run SP 3 rfl ?_; obtain ⟨r11, hr11, hF⟩ := bB hF
 refine R_step SP trivial (T_callO [((3800,0),(13,1))] rfl (trace_known_api_Sample_k1_fun _ _ _ _ hr11) ⟨rfl, trivial⟩ rfl rfl (.inr ⟨.inl rfl, .inl rfl, .inl rfl, .inl rfl, trivial⟩) ?_); refine QP rfl ?_
 refine wA rfl ?_; refine wIf hF rfl (fun _ hF => ?_) fun _ hF => ?_
 · refine wA rfl ?_; cases hF
   exact W_ret wR
 refine W_skip ?_; refine W_seq ?_; refine wC 2 rfl ?_; obtain ⟨r12, hr12, hF⟩ := bB hF
 refine rS (T_call (counter_Check_fun _ _ hr12) ⟨rfl, trivial⟩ rfl (.inl rfl) ?_); refine QV rfl ?_; refine wA rfl ?_; refine wIf hF rfl (fun _ hF => ?_) fun _ hF => ?_
 · refine wA rfl ?_; cases hF
   exact W_ret wR
 refine W_skip ?_; refine W_seq ?_; refine W_seq ?_; refine W_regD (by decide) (by kernel_rfl) rfl ?_; refine Q_run SP 2 rfl ?_; obtain ⟨r13, hr13, hF⟩ := bB hF
 refine R_step SP trivial (T_call (memory_Check_fun _ _ hr13) ⟨rfl, trivial⟩ rfl (.inl rfl) ?_); refine Q_run SP 3 rfl ?_; obtain ⟨r14, hr14, hF⟩ := bB hF
 refine R_step SP trivial (T_callO [((3960,0),(13,1))] rfl (trace_known_api_Block_k1_fun _ _ _ _ hr14) ⟨rfl, trivial⟩ rfl rfl (.inr ⟨.inl rfl, .inl rfl, .inl rfl, .inl rfl, trivial⟩) ?_); refine QP rfl ?_
 refine wA rfl ?_; refine wIf hF rfl (fun _ hF => ?_) fun _ hF => ?_
 · refine wA rfl ?_; cases hF
   exact W_ret wR
 refine W_skip ?_; refine wC 3 rfl ?_; obtain ⟨r15, hr15, hF⟩ := bB hF
 refine rS (T_callO [((4080,0),(13,1))] rfl (trace_losses_k1_fun _ _ _ hr15) ⟨rfl, trivial⟩ rfl rfl (.inr ⟨.inl rfl, .inl rfl, trivial⟩) ?_); refine QV rfl ?_; cases hF
 exact W_ret wR
def trace_within (p0 : api_Span) (p1 : api_Span) : Option Bool :=
  (((bif (decide (p1.fFrom ≤ p0.fFrom)) then some (decide (p0.fTo ≤ p1.fTo)) else some false) : Option Bool).bind fun v1 => some v1)
theorem trace_within_fun (p0 : api_Span) (p1 : api_Span) (r : Bool) (hF : trace_within p0 p1 = some r) : Fun Tryz.prog 80 true [] [.agg [jI p0.fFrom, jI p0.fTo], .agg [jI p1.fFrom, jI p1.fTo]] noHeap (cB r) noHeap := by
 refine Fun.of_walk0 Tryz.func80 c80 (by kernel_rfl) (rs := [.tmp 4]) (by kernel_rfl) ?_; unfold v80
 unfold trace_within at hF
 refine wA rfl ?_; refine W_seq ?_; refine W_join (fun _ _ h => h) hF (fun v1 => [(4, cB v1)]) (fun v1 => []) ?_ ?_
 · rintro v1 hF
   cases hF
   exact W_ret wR
 intro join hF
 refine wD 6 rfl ?_; cases h2 : (decide (p1.fFrom ≤ p0.fFrom))
 · have hF := bF' h2 hF; refine QV rfl ?_; exact join false _ _ hF sw
 have hF := bT' h2 hF; refine QV rfl ?_; exact join (decide (p0.fTo ≤ p1.fTo)) _ _ hF sw
def trace_outside_1_k1 (p0 : api_Slice) (p1 : api_Span) : Option Bool :=
  ((trace_within p0.fSpan p1).bind fun r1 => some (!r1))
theorem trace_outside_1_k1_fun (p0 : api_Slice) (p1 : api_Span) (r : Bool) (hF : trace_outside_1_k1 p0 p1 = some r) : Fun Tryz.prog 79 true [] [.agg (m_api_Slice p0), .c (.ptrI [tI p1.fFrom, tI p1.fTo])] noHeap (cB r) noHeap := by
 refine Fun.of_walk0 Tryz.func79 c79 (by kernel_rfl) (rs := [.tmp 3]) (by kernel_rfl) ?_; unfold v79
 unfold trace_outside_1_k1 at hF
 refine wA rfl ?_; refine wC 3 rfl ?_; obtain ⟨r1, hr1, hF⟩ := bB hF
 refine rS (T_call (trace_within_fun _ _ _ hr1) ⟨⟨rfl, rfl, trivial⟩, ⟨rfl, rfl, trivial⟩, trivial⟩ rfl (.inl rfl) ?_); refine QV rfl ?_; cases hF
 exact W_ret wR
def slices_IndexFunc_api_Slice_api_Slice_k1_L1 (p0 : (List api_Slice)) (p1_0 : api_Span) : Int → Option (Int ⊕ (Unit ⊕ Int)) := fun a12 =>
  (bif (decide (a12 < (List.length p0 : Int))) then ((idx p0 a12).bind fun y17 => ((trace_outside_1_k1 y17 p1_0).bind fun r18 => (bif r18 then some (.inr (.inr a12)) else some (.inl (w64 (a12 + 1)))))) else some (.inr (.inl ())))
def slices_IndexFunc_api_Slice_api_Slice_k1 (p0 : (List api_Slice)) (p1_0 : api_Span) : Option Int :=
  ((loop (slices_IndexFunc_api_Slice_api_Slice_k1_L1 p0 p1_0) 0).bind fun | .inl _ => some (-1) | .inr rv => some rv)
theorem slices_IndexFunc_api_Slice_api_Slice_k1_fun (p0 : (List api_Slice)) (p1_0 : api_Span) (r : Int) (hF : slices_IndexFunc_api_Slice_api_Slice_k1 p0 p1_0 = some r) : Fun Tryz.prog 122 false [(5880,0)] [cL 8 t_api_Slice p0, .c (.fn 79 [.ptr (5880,0)])] (heapOf [((5880,0), .box [jI p1_0.fFrom, jI p1_0.fTo])]) (cI r) (heapOf [((5880,0), .box [jI p1_0.fFrom, jI p1_0.fTo])]) := by
 refine Fun.of_walkM [(5880,0)] (some [(5880,0)]) Tryz.func122 c122 (by kernel_rfl) (rs := [.tmp 4]) (by kernel_rfl) rfl rfl rfl ?_; unfold v122
 unfold slices_IndexFunc_api_Slice_api_Slice_k1 at hF
 refine wA rfl ?_; refine W_seq ?_; refine wC 1 rfl ?_; refine rS (T_len (tc := t_api_Slice) p0 .tree ?_); refine QV rfl ?_; refine W_for (fun _ _ h => h) hF (.inl) (fun a12 => [(0, cL 8 t_api_Slice p0), (1, .c (.fn 79 [.ptr (5880,0)])), (7, cI (List.length p0 : Int)), (8, cI a12)]) (fun a12 => [((5880,0), .box [jI p1_0.fFrom, jI p1_0.fTo])]) (fun _ => []) (fun _ => [((5880,0), .box [jI p1_0.fFrom, jI p1_0.fTo])]) sw ?_ ?_
 · rintro ⟨⟩ hF
   refine wA rfl ?_; cases hF
   exact W_ret ⟨_, _, S_refl, _, rfl, rfl, ⟨rfl, fun _ => rfl⟩, (AgM.weak ⟨rfl, trivial⟩)⟩
 rintro a12 x_0 hF cont_0 brk_0 fin_0
 unfold slices_IndexFunc_api_Slice_api_Slice_k1_L1 at hF
 refine wA rfl ?_; refine W_seq ?_; refine wIf hF rfl (fun _ hF => ?_) fun _ hF => ?_
 · refine W_skip ?_; refine W_seq ?_; refine W_block ?_; refine wA rfl ?_; refine wC 3 rfl ?_; obtain ⟨y17, hy17, hF⟩ := bB hF
   refine rS (T_ixT (tc := t_api_Slice) p0 rfl rfl hy17 ?_); refine Q_run SV 1 rfl ?_; obtain ⟨r18, hr18, hF⟩ := bB hF
   refine R_stepX trivial (X_call (callW _ rfl fnOk79) (trace_outside_1_k1_fun _ _ _ hr18) ⟨⟨rfl, rfl, rfl, rfl, rfl, rfl, rfl, rfl, trivial⟩, ⟨_, rfl, ⟨rfl, rfl, trivial⟩⟩, trivial⟩ rfl (.inl rfl) ?_); refine QV rfl ?_
   refine wIf hF rfl (fun _ hF => ?_) fun _ hF => ?_
   · refine wA rfl ?_; have hF := fin_0 _ (oi hF); cases hF
     exact W_ret ⟨_, _, S_refl, _, rfl, rfl, ⟨rfl, fun _ => rfl⟩, (AgM.weak ⟨rfl, trivial⟩)⟩
   refine W_skip ?_; refine wB rfl ?_; exact cont_0 _ _ _ (oi hF) sw
 refine W_exit ?_; refine thenQ_exit ?_; refine thenQ_exit ?_; refine blockQ_hit ?_; exact brk_0 _ _ _ (oi hF) sw
def slices_ContainsFunc_api_Slice_api_Slice_k1 (p0 : (List api_Slice)) (p1_0 : api_Span) : Option Bool :=
  ((slices_IndexFunc_api_Slice_api_Slice_k1 p0 p1_0).bind fun r1 => some (decide (0 ≤ r1)))
theorem slices_ContainsFunc_api_Slice_api_Slice_k1_fun (p0 : (List api_Slice)) (p1_0 : api_Span) (r : Bool) (hF : slices_ContainsFunc_api_Slice_api_Slice_k1 p0 p1_0 = some r) : Fun Tryz.prog 78 false [(4120,0)] [cL 8 t_api_Slice p0, .c (.fn 79 [.ptr (4120,0)])] (heapOf [((4120,0), .box [jI p1_0.fFrom, jI p1_0.fTo])]) (cB r) (heapOf [((4120,0), .box [jI p1_0.fFrom, jI p1_0.fTo])]) := by
 refine Fun.of_walkM [(4120,0)] (some [(4120,0)]) Tryz.func78 c78 (by kernel_rfl) (rs := [.tmp 4]) (by kernel_rfl) rfl rfl rfl ?_; unfold v78
 unfold slices_ContainsFunc_api_Slice_api_Slice_k1 at hF
 refine wA rfl ?_; refine wC 2 rfl ?_; obtain ⟨r1, hr1, hF⟩ := bB hF
 refine rS (T_callO [((5880,0),(4120,0))] rfl (slices_IndexFunc_api_Slice_api_Slice_k1_fun _ _ _ hr1) ⟨rfl, trivial⟩ rfl rfl (.inr ⟨.inl rfl, .inl rfl, trivial⟩) ?_); refine QV rfl ?_; cases hF
 exact W_ret ⟨_, _, S_refl, _, rfl, rfl, ⟨rfl, fun _ => rfl⟩, (AgM.weak ⟨rfl, trivial⟩)⟩
def trace_outside_2_k1 (p0 : api_State) (p1 : api_Span) : Option Bool :=
  ((trace_within p0.fSpan p1).bind fun r1 => some (!r1))
theorem trace_outside_2_k1_fun (p0 : api_State) (p1 : api_Span) (r : Bool) (hF : trace_outside_2_k1 p0 p1 = some r) : Fun Tryz.prog 82 true [] [.agg (m_api_State p0), .c (.ptrI [tI p1.fFrom, tI p1.fTo])] noHeap (cB r) noHeap := by
 refine Fun.of_walk0 Tryz.func82 c82 (by kernel_rfl) (rs := [.tmp 3]) (by kernel_rfl) ?_; unfold v82
 unfold trace_outside_2_k1 at hF
 refine wA rfl ?_; refine wC 3 rfl ?_; obtain ⟨r1, hr1, hF⟩ := bB hF
 refine rS (T_call (trace_within_fun _ _ _ hr1) ⟨⟨rfl, rfl, trivial⟩, ⟨rfl, rfl, trivial⟩, trivial⟩ rfl (.inl rfl) ?_); refine QV rfl ?_; cases hF
 exact W_ret wR
def slices_IndexFunc_api_State_api_State_k1_L1 (p0 : (List api_State)) (p1_0 : api_Span) : Int → Option (Int ⊕ (Unit ⊕ Int)) := fun a12 =>
  (bif (decide (a12 < (List.length p0 : Int))) then ((idx p0 a12).bind fun y17 => ((trace_outside_2_k1 y17 p1_0).bind fun r18 => (bif r18 then some (.inr (.inr a12)) else some (.inl (w64 (a12 + 1)))))) else some (.inr (.inl ())))
def slices_IndexFunc_api_State_api_State_k1 (p0 : (List api_State)) (p1_0 : api_Span) : Option Int :=
  ((loop (slices_IndexFunc_api_State_api_State_k1_L1 p0 p1_0) 0).bind fun | .inl _ => some (-1) | .inr rv => some rv)
theorem slices_IndexFunc_api_State_api_State_k1_fun (p0 : (List api_State)) (p1_0 : api_Span) (r : Int) (hF : slices_IndexFunc_api_State_api_State_k1 p0 p1_0 = some r) : Fun Tryz.prog 123 false [(5920,0)] [cL 7 t_api_State p0, .c (.fn 82 [.ptr (5920,0)])] (heapOf [((5920,0), .box [jI p1_0.fFrom, jI p1_0.fTo])]) (cI r) (heapOf [((5920,0), .box [jI p1_0.fFrom, jI p1_0.fTo])]) := by
 refine Fun.of_walkM [(5920,0)] (some [(5920,0)]) Tryz.func123 c123 (by kernel_rfl) (rs := [.tmp 4]) (by kernel_rfl) rfl rfl rfl ?_; unfold v123
 unfold slices_IndexFunc_api_State_api_State_k1 at hF
 refine wA rfl ?_; refine W_seq ?_; refine wC 1 rfl ?_; refine rS (T_len (tc := t_api_State) p0 .tree ?_); refine QV rfl ?_; refine W_for (fun _ _ h => h) hF (.inl) (fun a12 => [(0, cL 7 t_api_State p0), (1, .c (.fn 82 [.ptr (5920,0)])), (7, cI (List.length p0 : Int)), (8, cI a12)]) (fun a12 => [((5920,0), .box [jI p1_0.fFrom, jI p1_0.fTo])]) (fun _ => []) (fun _ => [((5920,0), .box [jI p1_0.fFrom, jI p1_0.fTo])]) sw ?_ ?_
 · rintro ⟨⟩ hF
   refine wA rfl ?_; cases hF
   exact W_ret ⟨_, _, S_refl, _, rfl, rfl, ⟨rfl, fun _ => rfl⟩, (AgM.weak ⟨rfl, trivial⟩)⟩
 rintro a12 x_0 hF cont_0 brk_0 fin_0
 unfold slices_IndexFunc_api_State_api_State_k1_L1 at hF
 refine wA rfl ?_; refine W_seq ?_; refine wIf hF rfl (fun _ hF => ?_) fun _ hF => ?_
 · refine W_skip ?_; refine W_seq ?_; refine W_block ?_; refine wA rfl ?_; refine wC 3 rfl ?_; obtain ⟨y17, hy17, hF⟩ := bB hF
   refine rS (T_ixT (tc := t_api_State) p0 rfl rfl hy17 ?_); refine Q_run SV 1 rfl ?_; obtain ⟨r18, hr18, hF⟩ := bB hF
   refine R_stepX trivial (X_call (callW _ rfl fnOk82) (trace_outside_2_k1_fun _ _ _ hr18) ⟨⟨rfl, rfl, rfl, rfl, rfl, rfl, rfl, trivial⟩, ⟨_, rfl, ⟨rfl, rfl, trivial⟩⟩, trivial⟩ rfl (.inl rfl) ?_); refine QV rfl ?_
   refine wIf hF rfl (fun _ hF => ?_) fun _ hF => ?_
   · refine wA rfl ?_; have hF := fin_0 _ (oi hF); cases hF
     exact W_ret ⟨_, _, S_refl, _, rfl, rfl, ⟨rfl, fun _ => rfl⟩, (AgM.weak ⟨rfl, trivial⟩)⟩
   refine W_skip ?_; refine wB rfl ?_; exact cont_0 _ _ _ (oi hF) sw
 refine W_exit ?_; refine thenQ_exit ?_; refine thenQ_exit ?_; refine blockQ_hit ?_; exact brk_0 _ _ _ (oi hF) sw
def slices_ContainsFunc_api_State_api_State_k1 (p0 : (List api_State)) (p1_0 : api_Span) : Option Bool :=
  ((slices_IndexFunc_api_State_api_State_k1 p0 p1_0).bind fun r1 => some (decide (0 ≤ r1)))
theorem slices_ContainsFunc_api_State_api_State_k1_fun (p0 : (List api_State)) (p1_0 : api_Span) (r : Bool) (hF : slices_ContainsFunc_api_State_api_State_k1 p0 p1_0 = some r) : Fun Tryz.prog 81 false [(4240,0)] [cL 7 t_api_State p0, .c (.fn 82 [.ptr (4240,0)])] (heapOf [((4240,0), .box [jI p1_0.fFrom, jI p1_0.fTo])]) (cB r) (heapOf [((4240,0), .box [jI p1_0.fFrom, jI p1_0.fTo])]) := by
 refine Fun.of_walkM [(4240,0)] (some [(4240,0)]) Tryz.func81 c81 (by kernel_rfl) (rs := [.tmp 4]) (by kernel_rfl) rfl rfl rfl ?_; unfold v81
 unfold slices_ContainsFunc_api_State_api_State_k1 at hF
 refine wA rfl ?_; refine wC 2 rfl ?_; obtain ⟨r1, hr1, hF⟩ := bB hF
 refine rS (T_callO [((5920,0),(4240,0))] rfl (slices_IndexFunc_api_State_api_State_k1_fun _ _ _ hr1) ⟨rfl, trivial⟩ rfl rfl (.inr ⟨.inl rfl, .inl rfl, trivial⟩) ?_); refine QV rfl ?_; cases hF
 exact W_ret ⟨_, _, S_refl, _, rfl, rfl, ⟨rfl, fun _ => rfl⟩, (AgM.weak ⟨rfl, trivial⟩)⟩
def trace_outside_3_k1 (p0 : api_Block) (p1 : api_Span) : Option Bool :=
  ((trace_within p0.fSpan p1).bind fun r1 => some (!r1))
theorem trace_outside_3_k1_fun (p0 : api_Block) (p1 : api_Span) (r : Bool) (hF : trace_outside_3_k1 p0 p1 = some r) : Fun Tryz.prog 84 true [] [.agg (m_api_Block p0), .c (.ptrI [tI p1.fFrom, tI p1.fTo])] noHeap (cB r) noHeap := by
 refine Fun.of_walk0 Tryz.func84 c84 (by kernel_rfl) (rs := [.tmp 3]) (by kernel_rfl) ?_; unfold v84
 unfold trace_outside_3_k1 at hF
 refine wA rfl ?_; refine wC 3 rfl ?_; obtain ⟨r1, hr1, hF⟩ := bB hF
 refine rS (T_call (trace_within_fun _ _ _ hr1) ⟨⟨rfl, rfl, trivial⟩, ⟨rfl, rfl, trivial⟩, trivial⟩ rfl (.inl rfl) ?_); refine QV rfl ?_; cases hF
 exact W_ret wR
def slices_IndexFunc_api_Block_api_Block_k1_L1 (p0 : (List api_Block)) (p1_0 : api_Span) : Int → Option (Int ⊕ (Unit ⊕ Int)) := fun a12 =>
  (bif (decide (a12 < (List.length p0 : Int))) then ((idx p0 a12).bind fun y17 => ((trace_outside_3_k1 y17 p1_0).bind fun r18 => (bif r18 then some (.inr (.inr a12)) else some (.inl (w64 (a12 + 1)))))) else some (.inr (.inl ())))
def slices_IndexFunc_api_Block_api_Block_k1 (p0 : (List api_Block)) (p1_0 : api_Span) : Option Int :=
  ((loop (slices_IndexFunc_api_Block_api_Block_k1_L1 p0 p1_0) 0).bind fun | .inl _ => some (-1) | .inr rv => some rv)
theorem slices_IndexFunc_api_Block_api_Block_k1_fun (p0 : (List api_Block)) (p1_0 : api_Span) (r : Int) (hF : slices_IndexFunc_api_Block_api_Block_k1 p0 p1_0 = some r) : Fun Tryz.prog 124 false [(5960,0)] [cL 7 t_api_Block p0, .c (.fn 84 [.ptr (5960,0)])] (heapOf [((5960,0), .box [jI p1_0.fFrom, jI p1_0.fTo])]) (cI r) (heapOf [((5960,0), .box [jI p1_0.fFrom, jI p1_0.fTo])]) := by
 refine Fun.of_walkM [(5960,0)] (some [(5960,0)]) Tryz.func124 c124 (by kernel_rfl) (rs := [.tmp 4]) (by kernel_rfl) rfl rfl rfl ?_; unfold v124
 unfold slices_IndexFunc_api_Block_api_Block_k1 at hF
 refine wA rfl ?_; refine W_seq ?_; refine wC 1 rfl ?_; refine rS (T_len (tc := t_api_Block) p0 .tree ?_); refine QV rfl ?_; refine W_for (fun _ _ h => h) hF (.inl) (fun a12 => [(0, cL 7 t_api_Block p0), (1, .c (.fn 84 [.ptr (5960,0)])), (7, cI (List.length p0 : Int)), (8, cI a12)]) (fun a12 => [((5960,0), .box [jI p1_0.fFrom, jI p1_0.fTo])]) (fun _ => []) (fun _ => [((5960,0), .box [jI p1_0.fFrom, jI p1_0.fTo])]) sw ?_ ?_
 · rintro ⟨⟩ hF
   refine wA rfl ?_; cases hF
   exact W_ret ⟨_, _, S_refl, _, rfl, rfl, ⟨rfl, fun _ => rfl⟩, (AgM.weak ⟨rfl, trivial⟩)⟩
 rintro a12 x_0 hF cont_0 brk_0 fin_0
 unfold slices_IndexFunc_api_Block_api_Block_k1_L1 at hF
 refine wA rfl ?_; refine W_seq ?_; refine wIf hF rfl (fun _ hF => ?_) fun _ hF => ?_
 · refine W_skip ?_; refine W_seq ?_; refine W_block ?_; refine wA rfl ?_; refine wC 3 rfl ?_; obtain ⟨y17, hy17, hF⟩ := bB hF
   refine rS (T_ixT (tc := t_api_Block) p0 rfl rfl hy17 ?_); refine Q_run SV 1 rfl ?_; obtain ⟨r18, hr18, hF⟩ := bB hF
   refine R_stepX trivial (X_call (callW _ rfl fnOk84) (trace_outside_3_k1_fun _ _ _ hr18) ⟨⟨rfl, rfl, rfl, rfl, rfl, rfl, rfl, trivial⟩, ⟨_, rfl, ⟨rfl, rfl, trivial⟩⟩, trivial⟩ rfl (.inl rfl) ?_); refine QV rfl ?_
   refine wIf hF rfl (fun _ hF => ?_) fun _ hF => ?_
   · refine wA rfl ?_; have hF := fin_0 _ (oi hF); cases hF
     exact W_ret ⟨_, _, S_refl, _, rfl, rfl, ⟨rfl, fun _ => rfl⟩, (AgM.weak ⟨rfl, trivial⟩)⟩
   refine W_skip ?_; refine wB rfl ?_; exact cont_0 _ _ _ (oi hF) sw
 refine W_exit ?_; refine thenQ_exit ?_; refine thenQ_exit ?_; refine blockQ_hit ?_; exact brk_0 _ _ _ (oi hF) sw
def slices_ContainsFunc_api_Block_api_Block_k1 (p0 : (List api_Block)) (p1_0 : api_Span) : Option Bool :=
  ((slices_IndexFunc_api_Block_api_Block_k1 p0 p1_0).bind fun r1 => some (decide (0 ≤ r1)))
theorem slices_ContainsFunc_api_Block_api_Block_k1_fun (p0 : (List api_Block)) (p1_0 : api_Span) (r : Bool) (hF : slices_ContainsFunc_api_Block_api_Block_k1 p0 p1_0 = some r) : Fun Tryz.prog 83 false [(4320,0)] [cL 7 t_api_Block p0, .c (.fn 84 [.ptr (4320,0)])] (heapOf [((4320,0), .box [jI p1_0.fFrom, jI p1_0.fTo])]) (cB r) (heapOf [((4320,0), .box [jI p1_0.fFrom, jI p1_0.fTo])]) := by
 refine Fun.of_walkM [(4320,0)] (some [(4320,0)]) Tryz.func83 c83 (by kernel_rfl) (rs := [.tmp 4]) (by kernel_rfl) rfl rfl rfl ?_; unfold v83
 unfold slices_ContainsFunc_api_Block_api_Block_k1 at hF
 refine wA rfl ?_; refine wC 2 rfl ?_; obtain ⟨r1, hr1, hF⟩ := bB hF
 refine rS (T_callO [((5960,0),(4320,0))] rfl (slices_IndexFunc_api_Block_api_Block_k1_fun _ _ _ hr1) ⟨rfl, trivial⟩ rfl rfl (.inr ⟨.inl rfl, .inl rfl, trivial⟩) ?_); refine QV rfl ?_; cases hF
 exact W_ret ⟨_, _, S_refl, _, rfl, rfl, ⟨rfl, fun _ => rfl⟩, (AgM.weak ⟨rfl, trivial⟩)⟩
def trace_inside (p0 : api_Span) (p1 : Int) : Option Bool :=
  (((bif (decide (p0.fFrom ≤ p1)) then some (decide (p1 < p0.fTo)) else some false) : Option Bool).bind fun v1 => some v1)
theorem trace_inside_fun (p0 : api_Span) (p1 : Int) (r : Bool) (hF : trace_inside p0 p1 = some r) : Fun Tryz.prog 87 true [] [.agg [jI p0.fFrom, jI p0.fTo], cI p1] noHeap (cB r) noHeap := by
 refine Fun.of_walk0 Tryz.func87 c87 (by kernel_rfl) (rs := [.tmp 4]) (by kernel_rfl) ?_; unfold v87
 unfold trace_inside at hF
 refine wA rfl ?_; refine W_seq ?_; refine W_join (fun _ _ h => h) hF (fun v1 => [(4, cB v1)]) (fun v1 => []) ?_ ?_
 · rintro v1 hF
   cases hF
   exact W_ret wR
 intro join hF
 refine wD 5 rfl ?_; cases h2 : (decide (p0.fFrom ≤ p1))
 · have hF := bF' h2 hF; refine QV rfl ?_; exact join false _ _ hF sw
 have hF := bT' h2 hF; refine QV rfl ?_; exact join (decide (p1 < p0.fTo)) _ _ hF sw
def trace_outside_4_k1 (p0 : api_Flow) (p1 : api_Span) : Option Bool :=
  ((((trace_inside p1 p0.fSend).bind fun r2 => (bif (!r2) then some true else ((trace_inside p1 p0.fRecv).bind fun r4 => some (!r4)))) : Option Bool).bind fun v1 => some v1)
theorem trace_outside_4_k1_fun (p0 : api_Flow) (p1 : api_Span) (r : Bool) (hF : trace_outside_4_k1 p0 p1 = some r) : Fun Tryz.prog 86 true [] [.agg (m_api_Flow p0), .c (.ptrI [tI p1.fFrom, tI p1.fTo])] noHeap (cB r) noHeap := by
 refine Fun.of_walk0 Tryz.func86 c86 (by kernel_rfl) (rs := [.tmp 3]) (by kernel_rfl) ?_; unfold v86
 unfold trace_outside_4_k1 at hF
 refine wA rfl ?_; refine W_seq ?_; refine W_join (fun _ _ h => h) hF (fun v1 => [(3, cB v1)]) (fun v1 => []) ?_ ?_
 · rintro v1 hF
   cases hF
   exact W_ret wR
 intro join hF
 refine wD 3 rfl ?_; obtain ⟨r2, hr2, hF⟩ := bB' hF
 refine rS (T_call (trace_inside_fun _ _ _ hr2) ⟨⟨rfl, rfl, trivial⟩, rfl, trivial⟩ rfl (.inl rfl) ?_); refine Q_run SV 2 rfl ?_; cases h3 : (!r2)
 · have hF := bF' h3 hF; refine Q_run SV 3 rfl ?_; obtain ⟨r4, hr4, hF⟩ := bB' hF
   refine R_step SV rfl (T_call (trace_inside_fun _ _ _ hr4) ⟨⟨rfl, rfl, trivial⟩, rfl, trivial⟩ rfl (.inl rfl) ?_); refine QV rfl ?_; exact join (!r4) _ _ hF sw
 have hF := bT' h3 hF; refine QV rfl ?_; exact join true _ _ hF sw
def slices_IndexFunc_api_Flow_api_Flow_k1_L1 (p0 : (List api_Flow)) (p1_0 : api_Span) : Int → Option (Int ⊕ (Unit ⊕ Int)) := fun a12 =>
  (bif (decide (a12 < (List.length p0 : Int))) then ((idx p0 a12).bind fun y17 => ((trace_outside_4_k1 y17 p1_0).bind fun r18 => (bif r18 then some (.inr (.inr a12)) else some (.inl (w64 (a12 + 1)))))) else some (.inr (.inl ())))
def slices_IndexFunc_api_Flow_api_Flow_k1 (p0 : (List api_Flow)) (p1_0 : api_Span) : Option Int :=
  ((loop (slices_IndexFunc_api_Flow_api_Flow_k1_L1 p0 p1_0) 0).bind fun | .inl _ => some (-1) | .inr rv => some rv)
theorem slices_IndexFunc_api_Flow_api_Flow_k1_fun (p0 : (List api_Flow)) (p1_0 : api_Span) (r : Int) (hF : slices_IndexFunc_api_Flow_api_Flow_k1 p0 p1_0 = some r) : Fun Tryz.prog 125 false [(6000,0)] [cL 7 t_api_Flow p0, .c (.fn 86 [.ptr (6000,0)])] (heapOf [((6000,0), .box [jI p1_0.fFrom, jI p1_0.fTo])]) (cI r) (heapOf [((6000,0), .box [jI p1_0.fFrom, jI p1_0.fTo])]) := by
 refine Fun.of_walkM [(6000,0)] (some [(6000,0)]) Tryz.func125 c125 (by kernel_rfl) (rs := [.tmp 4]) (by kernel_rfl) rfl rfl rfl ?_; unfold v125
 unfold slices_IndexFunc_api_Flow_api_Flow_k1 at hF
 refine wA rfl ?_; refine W_seq ?_; refine wC 1 rfl ?_; refine rS (T_len (tc := t_api_Flow) p0 .tree ?_); refine QV rfl ?_; refine W_for (fun _ _ h => h) hF (.inl) (fun a12 => [(0, cL 7 t_api_Flow p0), (1, .c (.fn 86 [.ptr (6000,0)])), (7, cI (List.length p0 : Int)), (8, cI a12)]) (fun a12 => [((6000,0), .box [jI p1_0.fFrom, jI p1_0.fTo])]) (fun _ => []) (fun _ => [((6000,0), .box [jI p1_0.fFrom, jI p1_0.fTo])]) sw ?_ ?_
 · rintro ⟨⟩ hF
   refine wA rfl ?_; cases hF
   exact W_ret ⟨_, _, S_refl, _, rfl, rfl, ⟨rfl, fun _ => rfl⟩, (AgM.weak ⟨rfl, trivial⟩)⟩
 rintro a12 x_0 hF cont_0 brk_0 fin_0
 unfold slices_IndexFunc_api_Flow_api_Flow_k1_L1 at hF
 refine wA rfl ?_; refine W_seq ?_; refine wIf hF rfl (fun _ hF => ?_) fun _ hF => ?_
 · refine W_skip ?_; refine W_seq ?_; refine W_block ?_; refine wA rfl ?_; refine wC 3 rfl ?_; obtain ⟨y17, hy17, hF⟩ := bB hF
   refine rS (T_ixT (tc := t_api_Flow) p0 rfl rfl hy17 ?_); refine Q_run SV 1 rfl ?_; obtain ⟨r18, hr18, hF⟩ := bB hF
   refine R_stepX trivial (X_call (callW _ rfl fnOk86) (trace_outside_4_k1_fun _ _ _ hr18) ⟨⟨rfl, rfl, rfl, rfl, rfl, rfl, rfl, trivial⟩, ⟨_, rfl, ⟨rfl, rfl, trivial⟩⟩, trivial⟩ rfl (.inl rfl) ?_); refine QV rfl ?_
   refine wIf hF rfl (fun _ hF => ?_) fun _ hF => ?_
   · refine wA rfl ?_; have hF := fin_0 _ (oi hF); cases hF
     exact W_ret ⟨_, _, S_refl, _, rfl, rfl, ⟨rfl, fun _ => rfl⟩, (AgM.weak ⟨rfl, trivial⟩)⟩
   refine W_skip ?_; refine wB rfl ?_; exact cont_0 _ _ _ (oi hF) sw
 refine W_exit ?_; refine thenQ_exit ?_; refine thenQ_exit ?_; refine blockQ_hit ?_; exact brk_0 _ _ _ (oi hF) sw
def slices_ContainsFunc_api_Flow_api_Flow_k1 (p0 : (List api_Flow)) (p1_0 : api_Span) : Option Bool :=
  ((slices_IndexFunc_api_Flow_api_Flow_k1 p0 p1_0).bind fun r1 => some (decide (0 ≤ r1)))
theorem slices_ContainsFunc_api_Flow_api_Flow_k1_fun (p0 : (List api_Flow)) (p1_0 : api_Span) (r : Bool) (hF : slices_ContainsFunc_api_Flow_api_Flow_k1 p0 p1_0 = some r) : Fun Tryz.prog 85 false [(4400,0)] [cL 7 t_api_Flow p0, .c (.fn 86 [.ptr (4400,0)])] (heapOf [((4400,0), .box [jI p1_0.fFrom, jI p1_0.fTo])]) (cB r) (heapOf [((4400,0), .box [jI p1_0.fFrom, jI p1_0.fTo])]) := by
 refine Fun.of_walkM [(4400,0)] (some [(4400,0)]) Tryz.func85 c85 (by kernel_rfl) (rs := [.tmp 4]) (by kernel_rfl) rfl rfl rfl ?_; unfold v85
 unfold slices_ContainsFunc_api_Flow_api_Flow_k1 at hF
 refine wA rfl ?_; refine wC 2 rfl ?_; obtain ⟨r1, hr1, hF⟩ := bB hF
 refine rS (T_callO [((6000,0),(4400,0))] rfl (slices_IndexFunc_api_Flow_api_Flow_k1_fun _ _ _ hr1) ⟨rfl, trivial⟩ rfl rfl (.inr ⟨.inl rfl, .inl rfl, trivial⟩) ?_); refine QV rfl ?_; cases hF
 exact W_ret ⟨_, _, S_refl, _, rfl, rfl, ⟨rfl, fun _ => rfl⟩, (AgM.weak ⟨rfl, trivial⟩)⟩
def trace_outside_5_k1 (p0 : api_Sample) (p1 : api_Span) : Option Bool :=
  ((trace_inside p1 p0.fAt).bind fun r1 => some (!r1))
theorem trace_outside_5_k1_fun (p0 : api_Sample) (p1 : api_Span) (r : Bool) (hF : trace_outside_5_k1 p0 p1 = some r) : Fun Tryz.prog 89 true [] [.agg (m_api_Sample p0), .c (.ptrI [tI p1.fFrom, tI p1.fTo])] noHeap (cB r) noHeap := by
 refine Fun.of_walk0 Tryz.func89 c89 (by kernel_rfl) (rs := [.tmp 3]) (by kernel_rfl) ?_; unfold v89
 unfold trace_outside_5_k1 at hF
 refine wA rfl ?_; refine wC 3 rfl ?_; obtain ⟨r1, hr1, hF⟩ := bB hF
 refine rS (T_call (trace_inside_fun _ _ _ hr1) ⟨⟨rfl, rfl, trivial⟩, rfl, trivial⟩ rfl (.inl rfl) ?_); refine QV rfl ?_; cases hF
 exact W_ret wR
def slices_IndexFunc_api_Sample_api_Sample_k1_L1 (p0 : (List api_Sample)) (p1_0 : api_Span) : Int → Option (Int ⊕ (Unit ⊕ Int)) := fun a12 =>
  (bif (decide (a12 < (List.length p0 : Int))) then ((idx p0 a12).bind fun y17 => ((trace_outside_5_k1 y17 p1_0).bind fun r18 => (bif r18 then some (.inr (.inr a12)) else some (.inl (w64 (a12 + 1)))))) else some (.inr (.inl ())))
def slices_IndexFunc_api_Sample_api_Sample_k1 (p0 : (List api_Sample)) (p1_0 : api_Span) : Option Int :=
  ((loop (slices_IndexFunc_api_Sample_api_Sample_k1_L1 p0 p1_0) 0).bind fun | .inl _ => some (-1) | .inr rv => some rv)
theorem slices_IndexFunc_api_Sample_api_Sample_k1_fun (p0 : (List api_Sample)) (p1_0 : api_Span) (r : Int) (hF : slices_IndexFunc_api_Sample_api_Sample_k1 p0 p1_0 = some r) : Fun Tryz.prog 126 false [(6040,0)] [cL 4 t_api_Sample p0, .c (.fn 89 [.ptr (6040,0)])] (heapOf [((6040,0), .box [jI p1_0.fFrom, jI p1_0.fTo])]) (cI r) (heapOf [((6040,0), .box [jI p1_0.fFrom, jI p1_0.fTo])]) := by
 refine Fun.of_walkM [(6040,0)] (some [(6040,0)]) Tryz.func126 c126 (by kernel_rfl) (rs := [.tmp 4]) (by kernel_rfl) rfl rfl rfl ?_; unfold v126
 unfold slices_IndexFunc_api_Sample_api_Sample_k1 at hF
 refine wA rfl ?_; refine W_seq ?_; refine wC 1 rfl ?_; refine rS (T_len (tc := t_api_Sample) p0 .tree ?_); refine QV rfl ?_; refine W_for (fun _ _ h => h) hF (.inl) (fun a12 => [(0, cL 4 t_api_Sample p0), (1, .c (.fn 89 [.ptr (6040,0)])), (7, cI (List.length p0 : Int)), (8, cI a12)]) (fun a12 => [((6040,0), .box [jI p1_0.fFrom, jI p1_0.fTo])]) (fun _ => []) (fun _ => [((6040,0), .box [jI p1_0.fFrom, jI p1_0.fTo])]) sw ?_ ?_
 · rintro ⟨⟩ hF
   refine wA rfl ?_; cases hF
   exact W_ret ⟨_, _, S_refl, _, rfl, rfl, ⟨rfl, fun _ => rfl⟩, (AgM.weak ⟨rfl, trivial⟩)⟩
 rintro a12 x_0 hF cont_0 brk_0 fin_0
 unfold slices_IndexFunc_api_Sample_api_Sample_k1_L1 at hF
 refine wA rfl ?_; refine W_seq ?_; refine wIf hF rfl (fun _ hF => ?_) fun _ hF => ?_
 · refine W_skip ?_; refine W_seq ?_; refine W_block ?_; refine wA rfl ?_; refine wC 3 rfl ?_; obtain ⟨y17, hy17, hF⟩ := bB hF
   refine rS (T_ixT (tc := t_api_Sample) p0 rfl rfl hy17 ?_); refine Q_run SV 1 rfl ?_; obtain ⟨r18, hr18, hF⟩ := bB hF
   refine R_stepX trivial (X_call (callW _ rfl fnOk89) (trace_outside_5_k1_fun _ _ _ hr18) ⟨⟨rfl, rfl, rfl, rfl, trivial⟩, ⟨_, rfl, ⟨rfl, rfl, trivial⟩⟩, trivial⟩ rfl (.inl rfl) ?_); refine QV rfl ?_; refine wIf hF rfl (fun _ hF => ?_) fun _ hF => ?_
   · refine wA rfl ?_; have hF := fin_0 _ (oi hF); cases hF
     exact W_ret ⟨_, _, S_refl, _, rfl, rfl, ⟨rfl, fun _ => rfl⟩, (AgM.weak ⟨rfl, trivial⟩)⟩
   refine W_skip ?_; refine wB rfl ?_; exact cont_0 _ _ _ (oi hF) sw
 refine W_exit ?_; refine thenQ_exit ?_; refine thenQ_exit ?_; refine blockQ_hit ?_; exact brk_0 _ _ _ (oi hF) sw
def slices_ContainsFunc_api_Sample_api_Sample_k1 (p0 : (List api_Sample)) (p1_0 : api_Span) : Option Bool :=
  ((slices_IndexFunc_api_Sample_api_Sample_k1 p0 p1_0).bind fun r1 => some (decide (0 ≤ r1)))
theorem slices_ContainsFunc_api_Sample_api_Sample_k1_fun (p0 : (List api_Sample)) (p1_0 : api_Span) (r : Bool) (hF : slices_ContainsFunc_api_Sample_api_Sample_k1 p0 p1_0 = some r) : Fun Tryz.prog 88 false [(4520,0)] [cL 4 t_api_Sample p0, .c (.fn 89 [.ptr (4520,0)])] (heapOf [((4520,0), .box [jI p1_0.fFrom, jI p1_0.fTo])]) (cB r) (heapOf [((4520,0), .box [jI p1_0.fFrom, jI p1_0.fTo])]) := by
 refine Fun.of_walkM [(4520,0)] (some [(4520,0)]) Tryz.func88 c88 (by kernel_rfl) (rs := [.tmp 4]) (by kernel_rfl) rfl rfl rfl ?_; unfold v88
 unfold slices_ContainsFunc_api_Sample_api_Sample_k1 at hF
 refine wA rfl ?_; refine wC 2 rfl ?_; obtain ⟨r1, hr1, hF⟩ := bB hF
 refine rS (T_callO [((6040,0),(4520,0))] rfl (slices_IndexFunc_api_Sample_api_Sample_k1_fun _ _ _ hr1) ⟨rfl, trivial⟩ rfl rfl (.inr ⟨.inl rfl, .inl rfl, trivial⟩) ?_); refine QV rfl ?_; cases hF
 exact W_ret ⟨_, _, S_refl, _, rfl, rfl, ⟨rfl, fun _ => rfl⟩, (AgM.weak ⟨rfl, trivial⟩)⟩
def trace_outside_6_k1 (p0 : api_Step) (p1 : api_Span) : Option Bool :=
  ((trace_inside p1 p0.fAt).bind fun r1 => some (!r1))
theorem trace_outside_6_k1_fun (p0 : api_Step) (p1 : api_Span) (r : Bool) (hF : trace_outside_6_k1 p0 p1 = some r) : Fun Tryz.prog 91 true [] [.agg (m_api_Step p0), .c (.ptrI [tI p1.fFrom, tI p1.fTo])] noHeap (cB r) noHeap := by
 refine Fun.of_walk0 Tryz.func91 c91 (by kernel_rfl) (rs := [.tmp 3]) (by kernel_rfl) ?_; unfold v91
 unfold trace_outside_6_k1 at hF
 refine wA rfl ?_; refine wC 3 rfl ?_; obtain ⟨r1, hr1, hF⟩ := bB hF
 refine rS (T_call (trace_inside_fun _ _ _ hr1) ⟨⟨rfl, rfl, trivial⟩, rfl, trivial⟩ rfl (.inl rfl) ?_); refine QV rfl ?_; cases hF
 exact W_ret wR
def slices_IndexFunc_api_Step_api_Step_k1_L1 (p0 : (List api_Step)) (p1_0 : api_Span) : Int → Option (Int ⊕ (Unit ⊕ Int)) := fun a12 =>
  (bif (decide (a12 < (List.length p0 : Int))) then ((idx p0 a12).bind fun y17 => ((trace_outside_6_k1 y17 p1_0).bind fun r18 => (bif r18 then some (.inr (.inr a12)) else some (.inl (w64 (a12 + 1)))))) else some (.inr (.inl ())))
def slices_IndexFunc_api_Step_api_Step_k1 (p0 : (List api_Step)) (p1_0 : api_Span) : Option Int :=
  ((loop (slices_IndexFunc_api_Step_api_Step_k1_L1 p0 p1_0) 0).bind fun | .inl _ => some (-1) | .inr rv => some rv)
theorem slices_IndexFunc_api_Step_api_Step_k1_fun (p0 : (List api_Step)) (p1_0 : api_Span) (r : Int) (hF : slices_IndexFunc_api_Step_api_Step_k1 p0 p1_0 = some r) : Fun Tryz.prog 127 false [(6080,0)] [cL 3 t_api_Step p0, .c (.fn 91 [.ptr (6080,0)])] (heapOf [((6080,0), .box [jI p1_0.fFrom, jI p1_0.fTo])]) (cI r) (heapOf [((6080,0), .box [jI p1_0.fFrom, jI p1_0.fTo])]) := by
 refine Fun.of_walkM [(6080,0)] (some [(6080,0)]) Tryz.func127 c127 (by kernel_rfl) (rs := [.tmp 4]) (by kernel_rfl) rfl rfl rfl ?_; unfold v127
 unfold slices_IndexFunc_api_Step_api_Step_k1 at hF
 refine wA rfl ?_; refine W_seq ?_; refine wC 1 rfl ?_; refine rS (T_len (tc := t_api_Step) p0 .tree ?_); refine QV rfl ?_; refine W_for (fun _ _ h => h) hF (.inl) (fun a12 => [(0, cL 3 t_api_Step p0), (1, .c (.fn 91 [.ptr (6080,0)])), (7, cI (List.length p0 : Int)), (8, cI a12)]) (fun a12 => [((6080,0), .box [jI p1_0.fFrom, jI p1_0.fTo])]) (fun _ => []) (fun _ => [((6080,0), .box [jI p1_0.fFrom, jI p1_0.fTo])]) sw ?_ ?_
 · rintro ⟨⟩ hF
   refine wA rfl ?_; cases hF
   exact W_ret ⟨_, _, S_refl, _, rfl, rfl, ⟨rfl, fun _ => rfl⟩, (AgM.weak ⟨rfl, trivial⟩)⟩
 rintro a12 x_0 hF cont_0 brk_0 fin_0
 unfold slices_IndexFunc_api_Step_api_Step_k1_L1 at hF
 refine wA rfl ?_; refine W_seq ?_; refine wIf hF rfl (fun _ hF => ?_) fun _ hF => ?_
 · refine W_skip ?_; refine W_seq ?_; refine W_block ?_; refine wA rfl ?_; refine wC 3 rfl ?_; obtain ⟨y17, hy17, hF⟩ := bB hF
   refine rS (T_ixT (tc := t_api_Step) p0 rfl rfl hy17 ?_); refine Q_run SV 1 rfl ?_; obtain ⟨r18, hr18, hF⟩ := bB hF
   refine R_stepX trivial (X_call (callW _ rfl fnOk91) (trace_outside_6_k1_fun _ _ _ hr18) ⟨⟨rfl, rfl, rfl, trivial⟩, ⟨_, rfl, ⟨rfl, rfl, trivial⟩⟩, trivial⟩ rfl (.inl rfl) ?_); refine QV rfl ?_; refine wIf hF rfl (fun _ hF => ?_) fun _ hF => ?_
   · refine wA rfl ?_; have hF := fin_0 _ (oi hF); cases hF
     exact W_ret ⟨_, _, S_refl, _, rfl, rfl, ⟨rfl, fun _ => rfl⟩, (AgM.weak ⟨rfl, trivial⟩)⟩
   refine W_skip ?_; refine wB rfl ?_; exact cont_0 _ _ _ (oi hF) sw
 refine W_exit ?_; refine thenQ_exit ?_; refine thenQ_exit ?_; refine blockQ_hit ?_; exact brk_0 _ _ _ (oi hF) sw
def slices_ContainsFunc_api_Step_api_Step_k1 (p0 : (List api_Step)) (p1_0 : api_Span) : Option Bool :=
  ((slices_IndexFunc_api_Step_api_Step_k1 p0 p1_0).bind fun r1 => some (decide (0 ≤ r1)))
theorem slices_ContainsFunc_api_Step_api_Step_k1_fun (p0 : (List api_Step)) (p1_0 : api_Span) (r : Bool) (hF : slices_ContainsFunc_api_Step_api_Step_k1 p0 p1_0 = some r) : Fun Tryz.prog 90 false [(4600,0)] [cL 3 t_api_Step p0, .c (.fn 91 [.ptr (4600,0)])] (heapOf [((4600,0), .box [jI p1_0.fFrom, jI p1_0.fTo])]) (cB r) (heapOf [((4600,0), .box [jI p1_0.fFrom, jI p1_0.fTo])]) := by
 refine Fun.of_walkM [(4600,0)] (some [(4600,0)]) Tryz.func90 c90 (by kernel_rfl) (rs := [.tmp 4]) (by kernel_rfl) rfl rfl rfl ?_; unfold v90
 unfold slices_ContainsFunc_api_Step_api_Step_k1 at hF
 refine wA rfl ?_; refine wC 2 rfl ?_; obtain ⟨r1, hr1, hF⟩ := bB hF
 refine rS (T_callO [((6080,0),(4600,0))] rfl (slices_IndexFunc_api_Step_api_Step_k1_fun _ _ _ hr1) ⟨rfl, trivial⟩ rfl rfl (.inr ⟨.inl rfl, .inl rfl, trivial⟩) ?_); refine QV rfl ?_; cases hF
 exact W_ret ⟨_, _, S_refl, _, rfl, rfl, ⟨rfl, fun _ => rfl⟩, (AgM.weak ⟨rfl, trivial⟩)⟩
def trace_outside (p0 : api_Trace) : Option Bool :=
  ((((slices_ContainsFunc_api_Slice_api_Slice_k1 p0.fSlices p0.fSpan).bind fun r2 => (bif r2 then some true else ((slices_ContainsFunc_api_State_api_State_k1 p0.fStates p0.fSpan).bind fun r4 => (bif r4 then some true else ((slices_ContainsFunc_api_Block_api_Block_k1 p0.fBlocks p0.fSpan).bind fun r6 => (bif r6 then some true else ((slices_ContainsFunc_api_Flow_api_Flow_k1 p0.fFlows p0.fSpan).bind fun r8 => (bif r8 then some true else ((slices_ContainsFunc_api_Sample_api_Sample_k1 p0.fSamples p0.fSpan).bind fun r10 => (bif r10 then some true else ((slices_ContainsFunc_api_Step_api_Step_k1 p0.fSteps p0.fSpan).bind fun r12 => some r12))))))))))) : Option Bool).bind fun v1 => some v1)
theorem trace_outside_fun (p0 : api_Trace) (r : Bool) (hF : trace_outside p0 = some r) : Fun Tryz.prog 45 true [] [.agg (m_api_Trace p0)] noHeap (cB r) noHeap := by
 refine Fun.of_walk0 Tryz.func45 c45 (by kernel_rfl) (rs := [.tmp 2]) (by kernel_rfl) ?_; unfold v45
 unfold trace_outside at hF
 refine wA rfl ?_; refine wA rfl ?_; refine W_seq ?_; refine W_join (fun _ _ h => h) hF (fun v1 => [(2, cB v1)]) (fun v1 => []) ?_ ?_
 · rintro v1 hF
   cases hF
   exact W_ret wR
 intro join hF
 refine wD 3 rfl ?_; obtain ⟨r2, hr2, hF⟩ := bB' hF
 refine rS (T_callO [((4120,0),(3,0))] rfl (slices_ContainsFunc_api_Slice_api_Slice_k1_fun _ _ _ hr2) ⟨rfl, trivial⟩ rfl rfl (.inr ⟨.inl rfl, .inl rfl, trivial⟩) ?_); refine Q_run SV 1 rfl ?_; cases h3 : r2
 · have hF := bF' h3 hF; refine Q_run SV 3 rfl ?_; obtain ⟨r4, hr4, hF⟩ := bB' hF
   refine R_step SV rfl (T_callO [((4240,0),(3,0))] rfl (slices_ContainsFunc_api_State_api_State_k1_fun _ _ _ hr4) ⟨rfl, trivial⟩ rfl rfl (.inr ⟨.inl rfl, .inl rfl, trivial⟩) ?_); refine Q_run SV 2 rfl ?_
   cases h5 : r4
   · have hF := bF' h5 hF; refine Q_run SV 3 rfl ?_; obtain ⟨r6, hr6, hF⟩ := bB' hF
     refine R_step SV rfl (T_callO [((4320,0),(3,0))] rfl (slices_ContainsFunc_api_Block_api_Block_k1_fun _ _ _ hr6) ⟨rfl, trivial⟩ rfl rfl (.inr ⟨.inl rfl, .inl rfl, trivial⟩) ?_); refine Q_run SV 2 rfl ?_
     cases h7 : r6
     · have hF := bF' h7 hF; refine Q_run SV 3 rfl ?_; obtain ⟨r8, hr8, hF⟩ := bB' hF
       refine R_step SV rfl (T_callO [((4400,0),(3,0))] rfl (slices_ContainsFunc_api_Flow_api_Flow_k1_fun _ _ _ hr8) ⟨rfl, trivial⟩ rfl rfl (.inr ⟨.inl rfl, .inl rfl, trivial⟩) ?_); refine Q_run SV 2 rfl ?_; cases h9 : r8
       · have hF := bF' h9 hF; refine Q_run SV 3 rfl ?_; obtain ⟨r10, hr10, hF⟩ := bB' hF
         refine R_step SV rfl (T_callO [((4520,0),(3,0))] rfl (slices_ContainsFunc_api_Sample_api_Sample_k1_fun _ _ _ hr10) ⟨rfl, trivial⟩ rfl rfl (.inr ⟨.inl rfl, .inl rfl, trivial⟩) ?_); refine Q_run SV 2 rfl ?_
         cases h11 : r10
         · have hF := bF' h11 hF; refine Q_run SV 3 rfl ?_; obtain ⟨r12, hr12, hF⟩ := bB' hF
           refine R_step SV rfl (T_callO [((4600,0),(3,0))] rfl (slices_ContainsFunc_api_Step_api_Step_k1_fun _ _ _ hr12) ⟨rfl, trivial⟩ rfl rfl (.inr ⟨.inl rfl, .inl rfl, trivial⟩) ?_); refine QV rfl ?_; exact join r12 _ _ hF sw
         have hF := bT' h11 hF; refine QV rfl ?_; exact join true _ _ hF sw
       have hF := bT' h9 hF; refine QV rfl ?_; exact join true _ _ hF sw
     have hF := bT' h7 hF; refine QV rfl ?_; exact join true _ _ hF sw
   have hF := bT' h5 hF; refine QV rfl ?_; exact join true _ _ hF sw
 have hF := bT' h3 hF; refine QV rfl ?_; exact join true _ _ hF sw
def trace_Check (p0 : api_Trace) : Option Int :=
  ((trace_tables p0).bind fun r1 => (bif (!decide (r1 = 0)) then some r1 else (((bif (decide (p0.fSpan.fFrom < 0)) then some true else (bif (decide (p0.fSpan.fTo < p0.fSpan.fFrom)) then some true else some (decide (1000000000000 < p0.fSpan.fTo)))) : Option Bool).bind fun v2 => (bif v2 then some 2 else ((trace_outside p0).bind fun r3 => (bif r3 then some 10 else some 0))))))
theorem trace_Check_fun (p0 : api_Trace) (r : Int) (hF : trace_Check p0 = some r) : Fun Tryz.prog 23 true [] [.agg (m_api_Trace p0)] noHeap (cI r) noHeap := by
 refine Fun.of_walk0 Tryz.func23 c23 (by kernel_rfl) (rs := [.tmp 2]) (by kernel_rfl) ?_; unfold v23
 unfold trace_Check at hF
 refine wA rfl ?_; refine W_seq ?_; refine wC 1 rfl ?_; obtain ⟨r1, hr1, hF⟩ := bB hF
 refine rS (T_call (trace_tables_fun _ _ hr1) ⟨⟨rfl, rfl, rfl, rfl, rfl, rfl, rfl, rfl, rfl, rfl, trivial⟩, trivial⟩ rfl (.inl rfl) ?_); refine QV rfl ?_; refine wA rfl ?_; refine wIf hF rfl (fun _ hF => ?_) fun _ hF => ?_
 · refine wA rfl ?_; cases hF
   exact W_ret wR
 refine W_skip ?_; refine W_seq ?_; refine W_seq ?_; refine W_join (fun _ _ h => h) hF (fun v2 => [(1, cP (1,0) 0), (27, cB v2)]) (fun v2 => [((1,0), .box (m_api_Trace p0))]) ?_ ?_
 · rintro v2 hF
   refine wIf hF rfl (fun _ hF => ?_) fun _ hF => ?_
   · refine wA rfl ?_; cases hF
     exact W_ret wR
   refine W_skip ?_; refine W_seq ?_; refine wC 1 rfl ?_; obtain ⟨r3, hr3, hF⟩ := bB hF
   refine rS (T_call (trace_outside_fun _ _ hr3) ⟨⟨rfl, rfl, rfl, rfl, rfl, rfl, rfl, rfl, rfl, rfl, trivial⟩, trivial⟩ rfl (.inl rfl) ?_); refine QV rfl ?_; refine wIf hF rfl (fun _ hF => ?_) fun _ hF => ?_
   · refine wA rfl ?_; cases hF
     exact W_ret wR
   refine W_skip ?_; refine wA rfl ?_; cases hF
   exact W_ret wR
 intro join hF
 refine wD 5 rfl ?_; cases h6 : (decide (p0.fSpan.fFrom < 0))
 · have hF := bF' h6 hF; refine Q_run SV 9 rfl ?_; cases h7 : (decide (p0.fSpan.fTo < p0.fSpan.fFrom))
   · have hF := bF' h7 hF; refine QV rfl ?_; exact join (decide (1000000000000 < p0.fSpan.fTo)) _ _ hF sw
   have hF := bT' h7 hF; refine QV rfl ?_; exact join true _ _ hF sw
 have hF := bT' h6 hF; refine QV rfl ?_; exact join true _ _ hF sw
def latency_Of_1_k1 (p0 : api_Thread) (p1 : Int) : Option Bool :=
  some (decide (p0.fId = p1))
theorem latency_Of_1_k1_fun (p0 : api_Thread) (p1 : Int) (r : Bool) (hF : latency_Of_1_k1 p0 p1 = some r) : Fun Tryz.prog 28 true [] [.agg (m_api_Thread p0), .c (.ptrI [tI p1])] noHeap (cB r) noHeap := by
 refine Fun.of_walk0 Tryz.func28 c28 (by kernel_rfl) (rs := [.tmp 3]) (by kernel_rfl) ?_; unfold v28
 unfold latency_Of_1_k1 at hF
 refine wA rfl ?_; refine wA rfl ?_; cases hF
 exact W_ret wR
def slices_IndexFunc_api_Thread_api_Thread_k1_L1 (p0 : (List api_Thread)) (p1_0 : Int) : Int → Option (Int ⊕ (Unit ⊕ Int)) := fun a12 =>
  (bif (decide (a12 < (List.length p0 : Int))) then ((idx p0 a12).bind fun y17 => ((latency_Of_1_k1 y17 p1_0).bind fun r18 => (bif r18 then some (.inr (.inr a12)) else some (.inl (w64 (a12 + 1)))))) else some (.inr (.inl ())))
def slices_IndexFunc_api_Thread_api_Thread_k1 (p0 : (List api_Thread)) (p1_0 : Int) : Option Int :=
  ((loop (slices_IndexFunc_api_Thread_api_Thread_k1_L1 p0 p1_0) 0).bind fun | .inl _ => some (-1) | .inr rv => some rv)
theorem slices_IndexFunc_api_Thread_api_Thread_k1_fun (p0 : (List api_Thread)) (p1_0 : Int) (r : Int) (hF : slices_IndexFunc_api_Thread_api_Thread_k1 p0 p1_0 = some r) : Fun Tryz.prog 48 false [(2920,0)] [cL 3 t_api_Thread p0, .c (.fn 28 [.ptr (2920,0)])] (heapOf [((2920,0), .box [jI p1_0])]) (cI r) (heapOf [((2920,0), .box [jI p1_0])]) := by
 refine Fun.of_walkM [(2920,0)] (some [(2920,0)]) Tryz.func48 c48 (by kernel_rfl) (rs := [.tmp 4]) (by kernel_rfl) rfl rfl rfl ?_; unfold v48
 unfold slices_IndexFunc_api_Thread_api_Thread_k1 at hF
 refine wA rfl ?_; refine W_seq ?_; refine wC 1 rfl ?_; refine rS (T_len (tc := t_api_Thread) p0 .tree ?_); refine QV rfl ?_; refine W_for (fun _ _ h => h) hF (.inl) (fun a12 => [(0, cL 3 t_api_Thread p0), (1, .c (.fn 28 [.ptr (2920,0)])), (7, cI (List.length p0 : Int)), (8, cI a12)]) (fun a12 => [((2920,0), .box [jI p1_0])]) (fun _ => []) (fun _ => [((2920,0), .box [jI p1_0])]) sw ?_ ?_
 · rintro ⟨⟩ hF
   refine wA rfl ?_; cases hF
   exact W_ret ⟨_, _, S_refl, _, rfl, rfl, ⟨rfl, fun _ => rfl⟩, (AgM.weak ⟨rfl, trivial⟩)⟩
 rintro a12 x_0 hF cont_0 brk_0 fin_0
 unfold slices_IndexFunc_api_Thread_api_Thread_k1_L1 at hF
 refine wA rfl ?_; refine W_seq ?_; refine wIf hF rfl (fun _ hF => ?_) fun _ hF => ?_
 · refine W_skip ?_; refine W_seq ?_; refine W_block ?_; refine wA rfl ?_; refine wC 3 rfl ?_; obtain ⟨y17, hy17, hF⟩ := bB hF
   refine rS (T_ixT (tc := t_api_Thread) p0 rfl rfl hy17 ?_); refine Q_run SV 1 rfl ?_; obtain ⟨r18, hr18, hF⟩ := bB hF
   refine R_stepX trivial (X_call (callW _ rfl fnOk28) (latency_Of_1_k1_fun _ _ _ hr18) ⟨⟨rfl, rfl, rfl, trivial⟩, ⟨_, rfl, ⟨rfl, trivial⟩⟩, trivial⟩ rfl (.inl rfl) ?_); refine QV rfl ?_; refine wIf hF rfl (fun _ hF => ?_) fun _ hF => ?_
   · refine wA rfl ?_; have hF := fin_0 _ (oi hF); cases hF
     exact W_ret ⟨_, _, S_refl, _, rfl, rfl, ⟨rfl, fun _ => rfl⟩, (AgM.weak ⟨rfl, trivial⟩)⟩
   refine W_skip ?_; refine wB rfl ?_; exact cont_0 _ _ _ (oi hF) sw
 refine W_exit ?_; refine thenQ_exit ?_; refine thenQ_exit ?_; refine blockQ_hit ?_; exact brk_0 _ _ _ (oi hF) sw
def slices_ContainsFunc_api_Thread_api_Thread_k1 (p0 : (List api_Thread)) (p1_0 : Int) : Option Bool :=
  ((slices_IndexFunc_api_Thread_api_Thread_k1 p0 p1_0).bind fun r1 => some (decide (0 ≤ r1)))
theorem slices_ContainsFunc_api_Thread_api_Thread_k1_fun (p0 : (List api_Thread)) (p1_0 : Int) (r : Bool) (hF : slices_ContainsFunc_api_Thread_api_Thread_k1 p0 p1_0 = some r) : Fun Tryz.prog 27 false [(2080,0)] [cL 3 t_api_Thread p0, .c (.fn 28 [.ptr (2080,0)])] (heapOf [((2080,0), .box [jI p1_0])]) (cB r) (heapOf [((2080,0), .box [jI p1_0])]) := by
 refine Fun.of_walkM [(2080,0)] (some [(2080,0)]) Tryz.func27 c27 (by kernel_rfl) (rs := [.tmp 4]) (by kernel_rfl) rfl rfl rfl ?_; unfold v27
 unfold slices_ContainsFunc_api_Thread_api_Thread_k1 at hF
 refine wA rfl ?_; refine wC 2 rfl ?_; obtain ⟨r1, hr1, hF⟩ := bB hF
 refine rS (T_callO [((2920,0),(2080,0))] rfl (slices_IndexFunc_api_Thread_api_Thread_k1_fun _ _ _ hr1) ⟨rfl, trivial⟩ rfl rfl (.inr ⟨.inl rfl, .inl rfl, trivial⟩) ?_); refine QV rfl ?_; cases hF
 exact W_ret ⟨_, _, S_refl, _, rfl, rfl, ⟨rfl, fun _ => rfl⟩, (AgM.weak ⟨rfl, trivial⟩)⟩
def latency_waits_L1 (p0 : api_Trace) : ((List api_State) × Int) → Option (((List api_State) × Int) ⊕ (List api_State)) := fun (a29, a30) =>
  (bif (decide (a30 < (List.length p0.fStates : Int))) then ((((idx p0.fStates a30).bind fun y44 => (((bif (decide ((w64 (a30 + 1)) < (List.length p0.fStates : Int))) then (bif (decide (y44.fState = 0)) then ((idx p0.fStates (w64 (a30 + 1))).bind fun y50 => (bif (decide (y50.fState = 4)) then ((idx p0.fStates (w64 (a30 + 1))).bind fun y52 => some (decide (y52.fThread = y44.fThread))) else some false)) else some false) else some false) : Option Bool).bind fun v45 => (bif v45 then (bif room 56 (List.length a29 + List.length [y44]) then some (a29 ++ [y44]) else none) else some a29))) : Option (List api_State)).bind fun v43 => some (.inl (v43, (w64 (a30 + 1))))) else some (.inr a29))
def latency_waits (p0 : api_Trace) : Option (List api_State) :=
  ((loop (latency_waits_L1 p0) ([], 0)).bind fun e42 => some e42)
theorem latency_waits_fun (p0 : api_Trace) (r : (List api_State)) (hF : latency_waits p0 = some r) : Fun Tryz.prog 29 false [] [.agg (m_api_Trace p0)] (heapOf []) (cO (902,1160)) (heapOf [((902,1160), .arr 55 7 (List.map t_api_State r))]) := by
 refine Fun.of_walkM [] (some []) Tryz.func29 c29 (by kernel_rfl) (rs := [.tmp 2]) (by kernel_rfl) rfl rfl rfl ?_; unfold v29
 unfold latency_waits at hF
 refine wA rfl ?_; refine wA rfl ?_; refine W_seq ?_; refine wC 2 rfl ?_; refine rS (T_len (tc := t_api_State) p0.fStates .tree ?_); refine QV rfl ?_; refine W_for (fun _ _ h => h) hF (id) (fun (a29, a30) => [(1, cP (1,0) 0), (3, cO (50,1)), (7, cL 7 t_api_State p0.fStates), (8, cI (List.length p0.fStates : Int)), (9, cI a30)]) (fun (a29, a30) => [((1,0), .box (m_api_Trace p0)), ((50,1), .arr 55 7 (List.map t_api_State a29))]) (fun e42 => [(3, cO (50,1))]) (fun e42 => [((50,1), .arr 55 7 (List.map t_api_State e42))]) (S_own 3 (50,1) 55 7 rfl rfl rfl rfl sw) ?_ ?_
 · rintro e42 hF
   refine wA rfl ?_; cases hF
   exact W_ret ⟨_, _, (S_ren (50,1) (902,1160) rfl rfl S_refl), _, rfl, rfl, rfl, (AgM.weak ⟨rfl, trivial⟩)⟩
 rintro ⟨a29, a30⟩ x_0 hF cont_0 brk_0 fin_0
 unfold latency_waits_L1 at hF
 refine wA rfl ?_; refine W_seq ?_; refine wIf hF rfl (fun _ hF => ?_) fun _ hF => ?_
 · refine W_skip ?_; refine W_seq ?_; refine W_join (fun _ _ h => h) hF (fun v43 => [(1, cP (1,0) 0), (3, cO (50,1)), (7, cL 7 t_api_State p0.fStates), (8, cI (List.length p0.fStates : Int)), (9, cI a30)]) (fun v43 => [((1,0), .box (m_api_Trace p0)), ((50,1), .arr 55 7 (List.map t_api_State v43))]) ?_ ?_
   · rintro v43 hF
     refine wB rfl ?_; exact cont_0 _ _ _ (oi hF) sw
   intro join hF
   refine W_block ?_; refine wC 1 rfl ?_; obtain ⟨y44, hy44, hF⟩ := bB' hF
   refine rS (T_ixT (tc := t_api_State) p0.fStates rfl rfl hy44 ?_); refine QV rfl ?_; refine W_seq ?_; have hF := bA hF; refine W_join (fun _ _ h => h) hF (fun v45 => [(1, cP (1,0) 0), (3, cO (50,1)), (5, cP (5,0) 0), (7, cL 7 t_api_State p0.fStates), (8, cI (List.length p0.fStates : Int)), (9, cI a30), (46, cB v45)]) (fun v45 => [((1,0), .box (m_api_Trace p0)), ((50,1), .arr 55 7 (List.map t_api_State a29)), ((5,0), .box (m_api_State y44))]) ?_ ?_
   · rintro v45 hF
     refine wIf' hF rfl (fun _ hF => ?_) fun _ hF => ?_
     · refine wD 2 rfl ?_; refine rS (T_bsl (tc := t_api_State) [y44] rfl ⟨rfl, rfl, rfl, rfl, rfl, rfl, rfl, trivial⟩ rfl (fun _ => rfl) rfl ?_)
       obtain ⟨h46, hF⟩ := roomT' hF
       refine rS (T_appO (tc := t_api_State) a29 [y44] rfl rfl (.own _ _ rfl) h46 rfl ?_); refine QV rfl ?_; exact join (a29 ++ [y44]) _ _ hF (S_ren (50,0) (50,1) rfl rfl sw)
     refine W_skip ?_; exact join a29 _ _ hF sw
   intro join hF
   refine W_regD (by decide) (by kernel_rfl) rfl ?_; refine Q_run SP 4 rfl ?_; refine R_step SP trivial (T_len (tc := t_api_State) p0.fStates .tree ?_); refine Q_run SP 2 rfl ?_; cases h48 : (decide ((w64 (a30 + 1)) < (List.length p0.fStates : Int)))
   · have hF := bF' h48 hF; refine QP rfl ?_; exact join false _ _ hF sw
   have hF := bT' h48 hF; refine Q_run SP 5 rfl ?_; cases h49 : (decide (y44.fState = 0))
   · have hF := bF' h49 hF; refine QP rfl ?_; exact join false _ _ hF sw
   have hF := bT' h49 hF; refine Q_run SP 4 rfl ?_; obtain ⟨y50, hy50, hF⟩ := bB' hF
   refine R_step SP rfl (T_ixT (tc := t_api_State) p0.fStates rfl rfl hy50 ?_); refine Q_run SP 5 rfl ?_; cases h51 : (decide (y50.fState = 4))
   · have hF := bF' h51 hF; refine QP rfl ?_; exact join false _ _ hF sw
   have hF := bT' h51 hF; refine Q_run SP 4 rfl ?_; obtain ⟨y52, hy52, hF⟩ := bB' hF
   refine R_step SP rfl (T_ixT (tc := t_api_State) p0.fStates rfl rfl hy52 ?_); refine QP rfl ?_; exact join (decide (y52.fThread = y44.fThread)) _ _ hF sw
 refine W_exit ?_; refine thenQ_exit ?_; refine thenQ_exit ?_; refine blockQ_hit ?_; exact brk_0 _ _ _ (oi hF) sw
def latency_length (p0 : api_State) : Option Int :=
  some (w64 (p0.fSpan.fTo - p0.fSpan.fFrom))
theorem latency_length_fun (p0 : api_State) (r : Int) (hF : latency_length p0 = some r) : Fun Tryz.prog 30 true [] [.agg (m_api_State p0)] noHeap (cI r) noHeap := by
 refine Fun.of_walk0 Tryz.func30 c30 (by kernel_rfl) (rs := [.tmp 2]) (by kernel_rfl) ?_; unfold v30
 unfold latency_length at hF
 refine wA rfl ?_; refine wA rfl ?_; cases hF
 exact W_ret wR
def latency_Of_L1 (p1 : Int) (r3 : (List api_State)) : ((List Int) × Int) → Option (((List Int) × Int) ⊕ (List Int)) := fun (a22, a23) =>
  (bif (decide (a23 < (List.length r3 : Int))) then ((((idx r3 a23).bind fun y32 => (bif (decide (y32.fThread = p1)) then ((latency_length y32).bind fun r33 => (bif room 8 (List.length a22 + List.length [r33]) then some (a22 ++ [r33]) else none)) else some a22)) : Option (List Int)).bind fun v31 => some (.inl (v31, (w64 (a23 + 1))))) else some (.inr a22))
def latency_Of (p0 : api_Trace) (p1 : Int) : Option ((List Int) × Int) :=
  ((trace_Check p0).bind fun r1 => (bif (!decide (r1 = 0)) then some ([], r1) else ((slices_ContainsFunc_api_Thread_api_Thread_k1 p0.fThreads p1).bind fun r2 => (bif (!r2) then some ([], 5) else ((latency_waits p0).bind fun r3 => ((loop (latency_Of_L1 p1 r3) ([], 0)).bind fun e30 => some (e30, 0)))))))
theorem latency_Of_fun (p0 : api_Trace) (p1 : Int) (r : ((List Int) × Int)) (hF : latency_Of p0 p1 = some r) : Fun Tryz.prog 11 false [] [.agg (m_api_Trace p0), cI p1] (heapOf []) (.tup [cO (902,440), cI r.2]) (heapOf [((902,440), .arr 3 1 (List.map t_i64 r.1))]) := by
 refine Fun.of_walkM [] (some []) Tryz.func11 c11 (by kernel_rfl) (rs := [.tmp 4, .tmp 5]) (by kernel_rfl) rfl rfl rfl ?_; unfold v11
 unfold latency_Of at hF
 refine wA rfl ?_; refine W_seq ?_; refine wC 1 rfl ?_; obtain ⟨r1, hr1, hF⟩ := bB hF
 refine rS (T_call (trace_Check_fun _ _ hr1) ⟨⟨rfl, rfl, rfl, rfl, rfl, rfl, rfl, rfl, rfl, rfl, trivial⟩, trivial⟩ rfl (.inl rfl) ?_); refine QV rfl ?_; refine wA rfl ?_; refine wIf hF rfl (fun _ hF => ?_) fun _ hF => ?_
 · refine wA rfl ?_; cases hF
   exact W_ret ⟨_, _, (S_own 4 (902,440) 3 1 rfl rfl rfl rfl S_refl), _, rfl, rfl, ⟨rfl, ⟨rfl, fun _ => rfl⟩, trivial⟩, (AgM.weak ⟨rfl, trivial⟩)⟩
 refine W_skip ?_; refine W_seq ?_; refine wC 3 rfl ?_; obtain ⟨r2, hr2, hF⟩ := bB hF
 refine rS (T_callO [((2080,0),(3,0))] rfl (slices_ContainsFunc_api_Thread_api_Thread_k1_fun _ _ _ hr2) ⟨rfl, trivial⟩ rfl rfl (.inr ⟨.inl rfl, .inl rfl, trivial⟩) ?_); refine QV rfl ?_; refine wIf hF rfl (fun _ hF => ?_) fun _ hF => ?_
 · refine wA rfl ?_; cases hF
   exact W_ret ⟨_, _, (S_own 4 (902,440) 3 1 rfl rfl rfl rfl S_refl), _, rfl, rfl, ⟨rfl, ⟨rfl, fun _ => rfl⟩, trivial⟩, (AgM.weak ⟨rfl, trivial⟩)⟩
 refine W_skip ?_; refine wA rfl ?_; refine W_seq ?_; refine wC 1 rfl ?_; obtain ⟨r3, hr3, hF⟩ := bB hF
 refine R_stepX trivial (X_callG [((902,1160),(21,1))] rfl (callN _) (latency_waits_fun _ _ hr3) trivial ⟨.inr ⟨rfl, rfl, rfl, rfl, rfl, rfl, rfl, rfl, rfl, rfl, trivial⟩, trivial⟩ rfl rfl rfl ?_); refine rS (T_len (tc := t_api_State) r3 (.own _ _ rfl) ?_)
 refine QV rfl ?_; refine W_for (fun _ _ h => h) hF (id) (fun (a22, a23) => [(3, cP (3,0) 0), (7, cO (35,1)), (21, cO (21,1)), (22, cI (List.length r3 : Int)), (23, cI a23)]) (fun (a22, a23) => [((3,0), .box [jI p1]), ((35,1), .arr 3 1 (List.map t_i64 a22)), ((21,1), .arr 55 7 (List.map t_api_State r3))]) (fun e30 => [(7, cO (35,1))]) (fun e30 => [((35,1), .arr 3 1 (List.map t_i64 e30))]) (S_own 7 (35,1) 3 1 rfl rfl rfl rfl sw) ?_ ?_
 · rintro e30 hF
   refine wA rfl ?_; cases hF
   exact W_ret ⟨_, _, (S_ren (35,1) (902,440) rfl rfl S_refl), _, rfl, rfl, ⟨rfl, ⟨rfl, fun _ => rfl⟩, trivial⟩, (AgM.weak ⟨rfl, trivial⟩)⟩
 rintro ⟨a22, a23⟩ x_0 hF cont_0 brk_0 fin_0
 unfold latency_Of_L1 at hF
 refine wA rfl ?_; refine W_seq ?_; refine wIf hF rfl (fun _ hF => ?_) fun _ hF => ?_
 · refine W_skip ?_; refine W_seq ?_; refine W_join (fun _ _ h => h) hF (fun v31 => [(3, cP (3,0) 0), (7, cO (35,1)), (21, cO (21,1)), (22, cI (List.length r3 : Int)), (23, cI a23)]) (fun v31 => [((3,0), .box [jI p1]), ((35,1), .arr 3 1 (List.map t_i64 v31)), ((21,1), .arr 55 7 (List.map t_api_State r3))]) ?_ ?_
   · rintro v31 hF
     refine wB rfl ?_; exact cont_0 _ _ _ (oi hF) sw
   intro join hF
   refine W_block ?_; refine wE ?_; obtain ⟨y32, hy32, hF⟩ := bB' hF
   refine rS (T_ixO (tc := t_api_State) r3 rfl rfl rfl hy32 ?_); refine rS (T_ldE (tc := t_api_State) r3 rfl rfl (idx_get hy32).2.1 rfl ?_); refine QV rfl ?_; refine wA rfl ?_; refine wIf' hF rfl (fun _ hF => ?_) fun _ hF => ?_
   · refine wD 2 rfl ?_; obtain ⟨r33, hr33, hF⟩ := bB' hF
     refine rS (T_call (latency_length_fun _ _ hr33) ⟨⟨rfl, rfl, rfl, rfl, rfl, rfl, rfl, trivial⟩, trivial⟩ rfl (.inl rfl) ?_); refine rS (T_bsl (tc := t_i64) [r33] rfl ⟨rfl, trivial⟩ rfl (fun _ => rfl) rfl ?_)
     obtain ⟨h34, hF⟩ := roomT' hF
     refine rS (T_appO (tc := t_i64) a22 [r33] rfl rfl (.own _ _ rfl) h34 rfl ?_); refine QV rfl ?_; exact join (a22 ++ [r33]) _ _ hF (S_ren (35,0) (35,1) rfl rfl sw)
   refine W_skip ?_; exact join a22 _ _ hF sw
 refine W_exit ?_; refine thenQ_exit ?_; refine thenQ_exit ?_; refine blockQ_hit ?_; exact brk_0 _ _ _ (oi hF) sw
def slices_Sort_int_int_k1 (p0 : (List Int)) : Option (List Int) := bif sortN p0 then some (sortI p0) else none
theorem slices_Sort_int_int_k1_fun (p0 : (List Int)) (r : (List Int)) (hF : slices_Sort_int_int_k1 p0 = some r) : Fun Tryz.prog 35 false [(2400,0)] [cO (2400,0)] (heapOf [((2400,0), .arr 3 1 (List.map t_i64 p0))]) (.tup []) (heapOf [((2400,0), .arr 3 1 (List.map t_i64 r))]) := by
 obtain ⟨h, hF⟩ := roomT hF
 cases hF
 exact sort_fun p0 (of_decide_eq_true h) (2400,0)
def latency_All_L1 (r2 : (List api_State)) : ((List Int) × Int) → Option (((List Int) × Int) ⊕ (List Int)) := fun (a17, a18) =>
  (bif (decide (a18 < (List.length r2 : Int))) then ((idx r2 a18).bind fun y25 => ((latency_length y25).bind fun r26 => (bif room 8 (List.length a17 + List.length [r26]) then some (.inl ((a17 ++ [r26]), (w64 (a18 + 1)))) else none))) else some (.inr a17))
def latency_All (p0 : api_Trace) : Option ((List Int) × Int) :=
  ((trace_Check p0).bind fun r1 => (bif (!decide (r1 = 0)) then some ([], r1) else ((latency_waits p0).bind fun r2 => ((loop (latency_All_L1 r2) ([], 0)).bind fun e23 => ((slices_Sort_int_int_k1 e23).bind fun r24 => some (r24, 0))))))
theorem latency_All_fun (p0 : api_Trace) (r : ((List Int) × Int)) (hF : latency_All p0 = some r) : Fun Tryz.prog 13 false [] [.agg (m_api_Trace p0)] (heapOf []) (.tup [cO (902,520), cI r.2]) (heapOf [((902,520), .arr 3 1 (List.map t_i64 r.1))]) := by
 refine Fun.of_walkM [] (some []) Tryz.func13 c13 (by kernel_rfl) (rs := [.tmp 2, .tmp 3]) (by kernel_rfl) rfl rfl rfl ?_; unfold v13
 unfold latency_All at hF
 refine wA rfl ?_; refine W_seq ?_; refine wC 1 rfl ?_; obtain ⟨r1, hr1, hF⟩ := bB hF
 refine rS (T_call (trace_Check_fun _ _ hr1) ⟨⟨rfl, rfl, rfl, rfl, rfl, rfl, rfl, rfl, rfl, rfl, trivial⟩, trivial⟩ rfl (.inl rfl) ?_); refine QV rfl ?_; refine wA rfl ?_; refine wIf hF rfl (fun _ hF => ?_) fun _ hF => ?_
 · refine wA rfl ?_; cases hF
   exact W_ret ⟨_, _, (S_own 2 (902,520) 3 1 rfl rfl rfl rfl S_refl), _, rfl, rfl, ⟨rfl, ⟨rfl, fun _ => rfl⟩, trivial⟩, (AgM.weak ⟨rfl, trivial⟩)⟩
 refine W_skip ?_; refine wA rfl ?_; refine W_seq ?_; refine wC 1 rfl ?_; obtain ⟨r2, hr2, hF⟩ := bB hF
 refine R_stepX trivial (X_callG [((902,1160),(14,1))] rfl (callN _) (latency_waits_fun _ _ hr2) trivial ⟨.inr ⟨rfl, rfl, rfl, rfl, rfl, rfl, rfl, rfl, rfl, rfl, trivial⟩, trivial⟩ rfl rfl rfl ?_); refine rS (T_len (tc := t_api_State) r2 (.own _ _ rfl) ?_)
 refine QV rfl ?_; refine W_for (fun _ _ h => h) hF (id) (fun (a17, a18) => [(5, cO (24,1)), (14, cO (14,1)), (15, cI (List.length r2 : Int)), (16, cI a18)]) (fun (a17, a18) => [((24,1), .arr 3 1 (List.map t_i64 a17)), ((14,1), .arr 55 7 (List.map t_api_State r2))]) (fun e23 => [(5, cO (24,1))]) (fun e23 => [((24,1), .arr 3 1 (List.map t_i64 e23))]) (S_own 5 (24,1) 3 1 rfl rfl rfl rfl sw) ?_ ?_
 · rintro e23 hF
   refine wC 1 rfl ?_; obtain ⟨r24, hr24, hF⟩ := bB hF
   refine R_stepX trivial (X_callG [((2400,0),(24,1))] rfl (callN _) (slices_Sort_int_int_k1_fun _ _ hr24) ⟨rfl, trivial⟩ ⟨.inl rfl, trivial⟩ rfl rfl rfl ?_); refine QV rfl ?_; refine wA rfl ?_; cases hF
   exact W_ret ⟨_, _, (S_ren (24,1) (902,520) rfl rfl S_refl), _, rfl, rfl, ⟨rfl, ⟨rfl, fun _ => rfl⟩, trivial⟩, (AgM.weak ⟨rfl, trivial⟩)⟩
 rintro ⟨a17, a18⟩ x_0 hF cont_0 brk_0 fin_0
 unfold latency_All_L1 at hF
 refine wA rfl ?_; refine W_seq ?_; refine wIf hF rfl (fun _ hF => ?_) fun _ hF => ?_
 · refine W_skip ?_; refine W_seq ?_; refine W_block ?_; refine wE ?_; obtain ⟨y25, hy25, hF⟩ := bB hF
   refine rS (T_ixO (tc := t_api_State) r2 rfl rfl rfl hy25 ?_); refine rS (T_ldE (tc := t_api_State) r2 rfl rfl (idx_get hy25).2.1 rfl ?_); refine QV rfl ?_; refine wD 2 rfl ?_; obtain ⟨r26, hr26, hF⟩ := bB hF
   refine rS (T_call (latency_length_fun _ _ hr26) ⟨⟨rfl, rfl, rfl, rfl, rfl, rfl, rfl, trivial⟩, trivial⟩ rfl (.inl rfl) ?_); refine rS (T_bsl (tc := t_i64) [r26] rfl ⟨rfl, trivial⟩ rfl (fun _ => rfl) rfl ?_)
   obtain ⟨h27, hF⟩ := roomT hF
   refine rS (T_appO (tc := t_i64) a17 [r26] rfl rfl (.own _ _ rfl) h27 rfl ?_); refine QV rfl ?_; refine wB rfl ?_; exact cont_0 _ _ _ (oi hF) (S_ren (24,0) (24,1) rfl rfl sw)
 refine W_exit ?_; refine thenQ_exit ?_; refine thenQ_exit ?_; refine blockQ_hit ?_; exact brk_0 _ _ _ (oi hF) sw
def slices_Values_int_int (p0 : (List Int)) : Option (List Int) := some p0
theorem slices_Values_int_int_fun (p0 : (List Int)) (r : (List Int)) (hF : slices_Values_int_int p0 = some r) : Fun Tryz.prog 56 false [] [cL 1 t_i64 p0] (heapOf []) (.c (.fn 106 [.ptr (902,2240)])) (heapOf [((902,2240), .box [jL 1 t_i64 r])]) := by
 cases hF
 exact values_fun p0 (902,2240)
def slices_Sorted_int_k1 (p0_0 : (List Int)) : Option (List Int) := bif sortB p0_0 then some (sortI p0_0) else none
theorem slices_Sorted_int_k1_fun (p0_0 : (List Int)) (r : (List Int)) (hF : slices_Sorted_int_k1 p0_0 = some r) : Fun Tryz.prog 55 false [(3200,0)] [.c (.fn 106 [.ptr (3200,0)])] (heapOf [((3200,0), .box [jL 1 t_i64 p0_0])]) (cO (902,2200)) (heapOf [((3200,0), .box [jL 1 t_i64 p0_0]), ((902,2200), .arr 3 1 (List.map t_i64 r))]) := by
 obtain ⟨h, hF⟩ := roomT hF
 cases hF
 exact sorted_fun p0_0 (sortB_spec h).1 (sortB_spec h).2 (3200,0) (902,2200) (by decide)
def math_bits_Mul64 (p0 : Int) (p1 : Int) : Option (Int × Int) :=
  some ((IntKind.wrap .u64 ((IntKind.wrap .u64 ((IntKind.wrap .u64 ((shR .u64 p0 32) * (shR .u64 p1 32))) + (shR .u64 (IntKind.wrap .u64 ((IntKind.wrap .u64 ((shR .u64 p0 32) * (bAnd .u64 p1 4294967295))) + (shR .u64 (IntKind.wrap .u64 ((bAnd .u64 p0 4294967295) * (bAnd .u64 p1 4294967295))) 32))) 32))) + (shR .u64 (IntKind.wrap .u64 ((bAnd .u64 (IntKind.wrap .u64 ((IntKind.wrap .u64 ((shR .u64 p0 32) * (bAnd .u64 p1 4294967295))) + (shR .u64 (IntKind.wrap .u64 ((bAnd .u64 p0 4294967295) * (bAnd .u64 p1 4294967295))) 32))) 4294967295) + (IntKind.wrap .u64 ((bAnd .u64 p0 4294967295) * (shR .u64 p1 32))))) 32))), (IntKind.wrap .u64 (p0 * p1)))
theorem math_bits_Mul64_fun (p0 : Int) (p1 : Int) (r : (Int × Int)) (hF : math_bits_Mul64 p0 p1 = some r) : Fun Tryz.prog 57 true [] [.c (.imm (.sc (.int .u64 p0))), .c (.imm (.sc (.int .u64 p1)))] noHeap (.tup [.c (.imm (.sc (.int .u64 r.1))), .c (.imm (.sc (.int .u64 r.2)))]) noHeap := by
 refine Fun.of_walk0 Tryz.func57 c57 (by kernel_rfl) (rs := [.tmp 4, .tmp 5]) (by kernel_rfl) ?_; unfold v57
 unfold math_bits_Mul64 at hF
 refine wA rfl ?_; refine wA rfl ?_; refine wA rfl ?_; refine wA rfl ?_; refine wA rfl ?_; refine wA rfl ?_; refine wA rfl ?_; refine wA rfl ?_; refine wA rfl ?_; refine wA rfl ?_; refine wA rfl ?_; refine wA rfl ?_
 cases hF
 exact W_ret ⟨_, rfl, rfl, ⟨⟨rfl, fun _ => rfl⟩, ⟨rfl, fun _ => rfl⟩, trivial⟩, noOut _⟩
def math_bits_Len64 (p0 : Int) : Option Int :=
  (((bif (decide (4294967296 ≤ p0)) then some ((shR .u64 p0 32), 32) else some (p0, 0)) : Option (Int × Int)).bind fun (v1, v2) => (((bif (decide (65536 ≤ v1)) then some ((shR .u64 v1 16), (w64 (v2 + 16))) else some (v1, v2)) : Option (Int × Int)).bind fun (v3, v4) => (((bif (decide (256 ≤ v3)) then some ((shR .u64 v3 8), (w64 (v4 + 8))) else some (v3, v4)) : Option (Int × Int)).bind fun (v5, v6) => ((idx (ByteArray.data ⟨#[0, 1, 2, 2, 3, 3, 3, 3, 4, 4, 4, 4, 4, 4, 4, 4, 5, 5, 5, 5, 5, 5, 5, 5, 5, 5, 5, 5, 5, 5, 5, 5, 6, 6, 6, 6, 6, 6, 6, 6, 6, 6, 6, 6, 6, 6, 6, 6, 6, 6, 6, 6, 6, 6, 6, 6, 6, 6, 6, 6, 6, 6, 6, 6, 7, 7, 7, 7, 7, 7, 7, 7, 7, 7, 7, 7, 7, 7, 7, 7, 7, 7, 7, 7, 7, 7, 7, 7, 7, 7, 7, 7, 7, 7, 7, 7, 7, 7, 7, 7, 7, 7, 7, 7, 7, 7, 7, 7, 7, 7, 7, 7, 7, 7, 7, 7, 7, 7, 7, 7, 7, 7, 7, 7, 7, 7, 7, 7, 8, 8, 8, 8, 8, 8, 8, 8, 8, 8, 8, 8, 8, 8, 8, 8, 8, 8, 8, 8, 8, 8, 8, 8, 8, 8, 8, 8, 8, 8, 8, 8, 8, 8, 8, 8, 8, 8, 8, 8, 8, 8, 8, 8, 8, 8, 8, 8, 8, 8, 8, 8, 8, 8, 8, 8, 8, 8, 8, 8, 8, 8, 8, 8, 8, 8, 8, 8, 8, 8, 8, 8, 8, 8, 8, 8, 8, 8, 8, 8, 8, 8, 8, 8, 8, 8, 8, 8, 8, 8, 8, 8, 8, 8, 8, 8, 8, 8, 8, 8, 8, 8, 8, 8, 8, 8, 8, 8, 8, 8, 8, 8, 8, 8, 8, 8, 8, 8, 8, 8, 8, 8, 8, 8, 8, 8, 8, 8]⟩).toList (IntKind.wrap .u8 v5)).bind fun y7 => some (w64 (v6 + (w64 (UInt8.toNat y7 : Int))))))))
theorem math_bits_Len64_fun (p0 : Int) (r : Int) (hF : math_bits_Len64 p0 = some r) : Fun Tryz.prog 60 true [] [.c (.imm (.sc (.int .u64 p0)))] noHeap (cI r) noHeap := by
 refine Fun.of_walk0 Tryz.func60 c60 (by kernel_rfl) (rs := [.tmp 2]) (by kernel_rfl) ?_; unfold v60
 unfold math_bits_Len64 at hF
 refine wA rfl ?_; refine W_seq ?_; refine wA rfl ?_; refine W_join (fun _ _ h => h) hF (fun (v1, v2) => [(0, .c (.imm (.sc (.int .u64 v1)))), (2, cI v2)]) (fun (v1, v2) => []) ?_ ?_
 · rintro ⟨v1, v2⟩ hF
   refine W_seq ?_; refine wA rfl ?_; refine W_join (fun _ _ h => h) hF (fun (v3, v4) => [(0, .c (.imm (.sc (.int .u64 v3)))), (2, cI v4)]) (fun (v3, v4) => []) ?_ ?_
   · rintro ⟨v3, v4⟩ hF
     refine W_seq ?_; refine wA rfl ?_; refine W_join (fun _ _ h => h) hF (fun (v5, v6) => [(0, .c (.imm (.sc (.int .u64 v5)))), (2, cI v6)]) (fun (v5, v6) => []) ?_ ?_
     · rintro ⟨v5, v6⟩ hF
       refine wC 3 rfl ?_; obtain ⟨y7, hy7, hF⟩ := bB hF
       refine rS (T_ixS ⟨#[0, 1, 2, 2, 3, 3, 3, 3, 4, 4, 4, 4, 4, 4, 4, 4, 5, 5, 5, 5, 5, 5, 5, 5, 5, 5, 5, 5, 5, 5, 5, 5, 6, 6, 6, 6, 6, 6, 6, 6, 6, 6, 6, 6, 6, 6, 6, 6, 6, 6, 6, 6, 6, 6, 6, 6, 6, 6, 6, 6, 6, 6, 6, 6, 7, 7, 7, 7, 7, 7, 7, 7, 7, 7, 7, 7, 7, 7, 7, 7, 7, 7, 7, 7, 7, 7, 7, 7, 7, 7, 7, 7, 7, 7, 7, 7, 7, 7, 7, 7, 7, 7, 7, 7, 7, 7, 7, 7, 7, 7, 7, 7, 7, 7, 7, 7, 7, 7, 7, 7, 7, 7, 7, 7, 7, 7, 7, 7, 8, 8, 8, 8, 8, 8, 8, 8, 8, 8, 8, 8, 8, 8, 8, 8, 8, 8, 8, 8, 8, 8, 8, 8, 8, 8, 8, 8, 8, 8, 8, 8, 8, 8, 8, 8, 8, 8, 8, 8, 8, 8, 8, 8, 8, 8, 8, 8, 8, 8, 8, 8, 8, 8, 8, 8, 8, 8, 8, 8, 8, 8, 8, 8, 8, 8, 8, 8, 8, 8, 8, 8, 8, 8, 8, 8, 8, 8, 8, 8, 8, 8, 8, 8, 8, 8, 8, 8, 8, 8, 8, 8, 8, 8, 8, 8, 8, 8, 8, 8, 8, 8, 8, 8, 8, 8, 8, 8, 8, 8, 8, 8, 8, 8, 8, 8, 8, 8, 8, 8, 8, 8, 8, 8, 8, 8, 8, 8]⟩ rfl rfl hy7 ?_)
       refine QV rfl ?_; cases hF
       exact W_ret wR
     intro join hF
     refine wIf' hF rfl (fun _ hF => ?_) fun _ hF => ?_
     · refine wA rfl ?_; refine wB rfl ?_; exact join ((shR .u64 v3 8), (w64 (v4 + 8))) _ _ hF sw
     refine W_skip ?_; exact join (v3, v4) _ _ hF sw
   intro join hF
   refine wIf' hF rfl (fun _ hF => ?_) fun _ hF => ?_
   · refine wA rfl ?_; refine wB rfl ?_; exact join ((shR .u64 v1 16), (w64 (v2 + 16))) _ _ hF sw
   refine W_skip ?_; exact join (v1, v2) _ _ hF sw
 intro join hF
 refine wIf' hF rfl (fun _ hF => ?_) fun _ hF => ?_
 · refine wA rfl ?_; refine wB rfl ?_; exact join ((shR .u64 p0 32), 32) _ _ hF sw
 refine W_skip ?_; exact join (p0, 0) _ _ hF sw
def math_bits_Div64 (p0 : Int) (p1 : Int) (p2 : Int) : Option (Int × Int) :=
  (bif (decide (p2 = 0)) then none else (bif (decide (p2 ≤ p0)) then none else (bif (decide (p0 = 0)) then (bif decide (p2 ≠ 0) then (bif decide (p2 ≠ 0) then some ((IntKind.wrap .u64 (Int.tdiv p1 p2)), (Int.tmod p1 p2)) else none) else none) else none)))
theorem math_bits_Div64_fun (p0 : Int) (p1 : Int) (p2 : Int) (r : (Int × Int)) (hF : math_bits_Div64 p0 p1 p2 = some r) : Fun Tryz.prog 58 true [] [.c (.imm (.sc (.int .u64 p0))), .c (.imm (.sc (.int .u64 p1))), .c (.imm (.sc (.int .u64 p2)))] noHeap (.tup [.c (.imm (.sc (.int .u64 r.1))), .c (.imm (.sc (.int .u64 r.2)))]) noHeap := by
 refine Fun.of_walk0 Tryz.func58 c58 (by kernel_rfl) (rs := [.tmp 6, .tmp 7]) (by kernel_rfl) ?_; unfold v58
 unfold math_bits_Div64 at hF
 refine wA rfl ?_; refine W_seq ?_; refine wA rfl ?_; refine wIf hF rfl (fun _ hF => ?_) fun _ hF => ?_
 · simp at hF
 refine W_skip ?_; refine W_seq ?_; refine wA rfl ?_; refine wIf hF rfl (fun _ hF => ?_) fun _ hF => ?_
 · simp at hF
 refine W_skip ?_; refine W_seq ?_; refine wA rfl ?_; refine wIf hF rfl (fun _ hF => ?_) fun _ hF => ?_
 · refine W_seq ?_; refine W_regD (by decide) (by kernel_rfl) rfl ?_; refine Q_run SP 2 rfl ?_; obtain ⟨h1, hF⟩ := roomT hF
   refine R_step SP trivial (T_bin (quoV .u64 p1 p2 (of_decide_eq_true h1)) ?_); refine Q_run SP 2 rfl ?_; obtain ⟨h2, hF⟩ := roomT hF
   refine R_step SP trivial (T_bin (remV .u64 p1 p2 (of_decide_eq_true h2)) ?_); refine QP rfl ?_; cases hF
   exact W_ret ⟨_, rfl, rfl, ⟨⟨rfl, fun _ => rfl⟩, ⟨rfl, fun _ => rfl⟩, trivial⟩, noOut _⟩
 simp at hF
def num_Quantile (p0 : (List Int)) (p1 : Int) (p2 : Int) : Option (Int × Bool) :=
  (((bif (decide ((List.length p0 : Int) = 0)) then some true else (bif (decide (p2 < 1)) then some true else (bif (decide (1000000000000000 < p2)) then some true else (bif (decide (p1 < 0)) then some true else some (decide (p2 < p1)))))) : Option Bool).bind fun v1 => (bif v1 then some (0, false) else ((slices_Values_int_int p0).bind fun r2 => ((slices_Sorted_int_k1 r2).bind fun r3 => ((math_bits_Mul64 (IntKind.wrap .u64 p1) (IntKind.wrap .u64 (List.length p0 : Int))).bind fun r4 => ((math_bits_Div64 r4.1 r4.2 (IntKind.wrap .u64 p2)).bind fun r5 => (((bif (decide (0 < r5.2)) then some (IntKind.wrap .u64 (r5.1 + 1)) else some r5.1) : Option Int).bind fun v6 => ((idx r3 (IntKind.wrap .u64 ((max v6 1) - 1))).bind fun y7 => some (y7, true)))))))))
theorem num_Quantile_fun (p0 : (List Int)) (p1 : Int) (p2 : Int) (r : (Int × Bool)) (hF : num_Quantile p0 p1 p2 = some r) : Fun Tryz.prog 40 true [] [cL 1 t_i64 p0, cI p1, cI p2] noHeap (.tup [cI r.1, cB r.2]) noHeap := by
 refine Fun.of_walk0 Tryz.func40 c40 (by kernel_rfl) (rs := [.tmp 6, .tmp 7]) (by kernel_rfl) ?_; unfold v40
 unfold num_Quantile at hF
 refine wA rfl ?_; refine W_seq ?_; refine W_seq ?_; refine W_join (fun _ _ h => h) hF (fun v1 => [(0, cL 1 t_i64 p0), (1, cI p1), (2, cI p2), (32, cB v1)]) (fun v1 => []) ?_ ?_
 · rintro v1 hF
   refine wIf hF rfl (fun _ hF => ?_) fun _ hF => ?_
   · refine wA rfl ?_; cases hF
     exact W_ret ⟨_, rfl, rfl, ⟨⟨rfl, fun _ => rfl⟩, ⟨rfl, fun _ => rfl⟩, trivial⟩, noOut _⟩
   refine W_skip ?_; refine wC 1 rfl ?_; obtain ⟨r2, hr2, hF⟩ := bB hF
   refine R_stepX trivial (X_callG [((902,2240),(34,1))] rfl (callN _) (slices_Values_int_int_fun _ _ hr2) trivial ⟨.inl rfl, trivial⟩ rfl rfl rfl ?_); obtain ⟨r3, hr3, hF⟩ := bB hF
   refine R_stepX trivial (X_callG [((3200,0),(34,1)), ((902,2200),(35,1))] rfl (callN _) (slices_Sorted_int_k1_fun _ _ hr3) ⟨rfl, trivial⟩ ⟨.inl rfl, trivial⟩ rfl rfl rfl ?_); refine QV rfl ?_; refine wC 3 rfl ?_
   refine rS (T_len (tc := t_i64) p0 .tree ?_); refine Q_run SV 1 rfl ?_; obtain ⟨r4, hr4, hF⟩ := bB hF
   refine rS (T_call (math_bits_Mul64_fun _ _ _ hr4) ⟨rfl, rfl, trivial⟩ rfl (.inl rfl) ?_); refine QV rfl ?_; refine wC 4 rfl ?_; obtain ⟨r5, hr5, hF⟩ := bB hF
   refine rS (T_call (math_bits_Div64_fun _ _ _ _ hr5) ⟨rfl, rfl, rfl, trivial⟩ rfl (.inl rfl) ?_); refine QV rfl ?_; refine W_seq ?_; refine wA rfl ?_; refine W_join (fun _ _ h => h) hF (fun v6 => [(8, cO (35,1)), (11, .c (.imm (.sc (.int .u64 v6))))]) (fun v6 => [((35,1), .arr 3 1 (List.map t_i64 r3))]) ?_ ?_
   · rintro v6 hF
     refine wC 4 rfl ?_; obtain ⟨y7, hy7, hF⟩ := bB hF
     refine rS (T_ixO (tc := t_i64) r3 rfl rfl rfl hy7 ?_); refine rS (T_ldE (tc := t_i64) r3 rfl rfl (idx_get hy7).2.1 rfl ?_); refine QV rfl ?_; cases hF
     exact W_ret ⟨_, rfl, rfl, ⟨⟨rfl, fun _ => rfl⟩, ⟨rfl, fun _ => rfl⟩, trivial⟩, noOut _⟩
   intro join hF
   refine wIf' hF rfl (fun _ hF => ?_) fun _ hF => ?_
   · refine wB rfl ?_; exact join (IntKind.wrap .u64 (r5.1 + 1)) _ _ hF sw
   refine W_skip ?_; exact join r5.1 _ _ hF sw
 intro join hF
 refine wD 1 rfl ?_; refine rS (T_len (tc := t_i64) p0 .tree ?_); refine Q_run SV 2 rfl ?_; cases h10 : (decide ((List.length p0 : Int) = 0))
 · have hF := bF' h10 hF; refine Q_run SV 4 rfl ?_; cases h11 : (decide (p2 < 1))
   · have hF := bF' h11 hF; refine Q_run SV 4 rfl ?_; cases h12 : (decide (1000000000000000 < p2))
     · have hF := bF' h12 hF; refine Q_run SV 4 rfl ?_; cases h13 : (decide (p1 < 0))
       · have hF := bF' h13 hF; refine QV rfl ?_; exact join (decide (p2 < p1)) _ _ hF sw
       have hF := bT' h13 hF; refine QV rfl ?_; exact join true _ _ hF sw
     have hF := bT' h12 hF; refine QV rfl ?_; exact join true _ _ hF sw
   have hF := bT' h11 hF; refine QV rfl ?_; exact join true _ _ hF sw
 have hF := bT' h10 hF; refine QV rfl ?_; exact join true _ _ hF sw
def latency_Quantile (p0 : api_Trace) (p1 : Int) (p2 : Int) : Option (Int × Int) :=
  ((latency_All p0).bind fun r1 => (bif (!decide (r1.2 = 0)) then some (0, r1.2) else ((num_Quantile r1.1 p1 p2).bind fun r2 => (bif (!r2.2) then some (0, 1) else some (r2.1, 0)))))
theorem latency_Quantile_fun (p0 : api_Trace) (p1 : Int) (p2 : Int) (r : (Int × Int)) (hF : latency_Quantile p0 p1 p2 = some r) : Fun Tryz.prog 19 true [] [.agg (m_api_Trace p0), cI p1, cI p2] noHeap (.tup [cI r.1, cI r.2]) noHeap := by
 refine Fun.of_walk0 Tryz.func19 c19 (by kernel_rfl) (rs := [.tmp 6, .tmp 7]) (by kernel_rfl) ?_; unfold v19
 unfold latency_Quantile at hF
 refine wA rfl ?_; refine wC 1 rfl ?_; obtain ⟨r1, hr1, hF⟩ := bB hF
 refine R_stepX trivial (X_callG [((902,520),(14,1))] rfl (callN _) (latency_All_fun _ _ hr1) trivial ⟨.inr ⟨rfl, rfl, rfl, rfl, rfl, rfl, rfl, rfl, rfl, rfl, trivial⟩, trivial⟩ rfl rfl rfl ?_); refine QV rfl ?_
 refine W_seq ?_; refine wA rfl ?_; refine wIf hF rfl (fun _ hF => ?_) fun _ hF => ?_
 · refine wA rfl ?_; cases hF
   exact W_ret ⟨_, rfl, rfl, ⟨⟨rfl, fun _ => rfl⟩, ⟨rfl, fun _ => rfl⟩, trivial⟩, noOut _⟩
 refine W_skip ?_; refine wC 3 rfl ?_; obtain ⟨r2, hr2, hF⟩ := bB hF
 refine rS (T_call (num_Quantile_fun _ _ _ _ hr2) ⟨⟨_, rfl⟩, rfl, rfl, trivial⟩ rfl (.inl rfl) ?_); refine QV rfl ?_; refine W_seq ?_; refine wA rfl ?_; refine wIf hF rfl (fun _ hF => ?_) fun _ hF => ?_
 · refine wA rfl ?_; cases hF
   exact W_ret ⟨_, rfl, rfl, ⟨⟨rfl, fun _ => rfl⟩, ⟨rfl, fun _ => rfl⟩, trivial⟩, noOut _⟩
 refine W_skip ?_; refine wA rfl ?_; cases hF
 exact W_ret ⟨_, rfl, rfl, ⟨⟨rfl, fun _ => rfl⟩, ⟨rfl, fun _ => rfl⟩, trivial⟩, noOut _⟩
def latency_Worst_1 (p0 : api_State) (p1 : api_State) : Option Int :=
  ((latency_length p1).bind fun r1 => ((latency_length p0).bind fun r2 => ((cmp_Compare_int r1 r2).bind fun r3 => some r3)))
theorem latency_Worst_1_fun (p0 : api_State) (p1 : api_State) (r : Int) (hF : latency_Worst_1 p0 p1 = some r) : Fun Tryz.prog 38 true [] [.agg (m_api_State p0), .agg (m_api_State p1)] noHeap (cI r) noHeap := by
 refine Fun.of_walk0 Tryz.func38 c38 (by kernel_rfl) (rs := [.tmp 4]) (by kernel_rfl) ?_; unfold v38
 unfold latency_Worst_1 at hF
 refine wA rfl ?_; refine W_seq ?_; refine W_regD (by decide) (by kernel_rfl) rfl ?_; refine Q_run SP 1 rfl ?_; obtain ⟨r1, hr1, hF⟩ := bB hF
 refine R_step SP trivial (T_call (latency_length_fun _ _ hr1) ⟨⟨rfl, rfl, rfl, rfl, rfl, rfl, rfl, trivial⟩, trivial⟩ rfl (.inl rfl) ?_); refine Q_run SP 1 rfl ?_; obtain ⟨r2, hr2, hF⟩ := bB hF
 refine R_step SP trivial (T_call (latency_length_fun _ _ hr2) ⟨⟨rfl, rfl, rfl, rfl, rfl, rfl, rfl, trivial⟩, trivial⟩ rfl (.inl rfl) ?_); obtain ⟨r3, hr3, hF⟩ := bB hF
 refine R_step SP trivial (T_call (cmp_Compare_int_fun _ _ _ hr3) ⟨rfl, rfl, trivial⟩ rfl (.inl rfl) ?_); refine QP rfl ?_; cases hF
 exact W_ret wR
def slices_insertionSortCmpFunc_api_State_k1_L1 (p1 : Int) : ((List api_State) × Int) → Option (((List api_State) × Int) ⊕ (List api_State)) := fun (a135, a136) =>
  (((bif (decide (p1 < a136)) then ((idx a135 a136).bind fun y155 => ((idx a135 (w64 (a136 - 1))).bind fun y156 => ((latency_Worst_1 y155 y156).bind fun r157 => some (decide (r157 < 0))))) else some false) : Option Bool).bind fun v148 => (bif v148 then ((idx a135 (w64 (a136 - 1))).bind fun y149 => ((idx a135 a136).bind fun y150 => ((idx a135 a136).bind fun y151 => ((idx (List.set a135 (Int.toNat a136) y149) (w64 (a136 - 1))).bind fun y152 => some (.inl ((List.set (List.set a135 (Int.toNat a136) y149) (Int.toNat (w64 (a136 - 1))) y150), (w64 (a136 - 1)))))))) else some (.inr a135)))
def slices_insertionSortCmpFunc_api_State_k1_L2 (p1 : Int) (p2 : Int) : ((List api_State) × Int) → Option (((List api_State) × Int) ⊕ (List api_State)) := fun (a107, a108) =>
  (bif (decide (a108 < p2)) then ((loop (slices_insertionSortCmpFunc_api_State_k1_L1 p1) (a107, a108)).bind fun e147 => some (.inl (e147, (w64 (a108 + 1))))) else some (.inr a107))
def slices_insertionSortCmpFunc_api_State_k1 (p0 : (List api_State)) (p1 : Int) (p2 : Int) : Option (List api_State) :=
  (loop (slices_insertionSortCmpFunc_api_State_k1_L2 p1 p2) (p0, (w64 (p1 + 1))))
theorem slices_insertionSortCmpFunc_api_State_k1_fun (p0 : (List api_State)) (p1 : Int) (p2 : Int) (r : (List api_State)) (hF : slices_insertionSortCmpFunc_api_State_k1 p0 p1 p2 = some r) : Fun Tryz.prog 103 false [(5120,0)] [cO (5120,0), cI p1, cI p2, .c (.fn 38 [])] (heapOf [((5120,0), .arr 55 7 (List.map t_api_State p0))]) (.tup []) (heapOf [((5120,0), .arr 55 7 (List.map t_api_State r))]) := by
 refine Fun.of_walkM [(5120,0)] (some [(5120,0)]) Tryz.func103 c103 (by kernel_rfl) (rs := []) (by kernel_rfl) rfl rfl rfl ?_; unfold v103
 unfold slices_insertionSortCmpFunc_api_State_k1 at hF
 refine wA rfl ?_; refine W_for0 hF (fun (a107, a108) => [(0, cO (5120,0)), (1, cI p1), (2, cI p2), (3, .c (.fn 38 [])), (8, cI a108)]) (fun (a107, a108) => [((5120,0), .arr 55 7 (List.map t_api_State a107))]) sw ?_
 rintro ⟨a107, a108⟩ x_0 hF cont_0 fin_0
 unfold slices_insertionSortCmpFunc_api_State_k1_L2 at hF
 refine W_seq ?_; refine wA rfl ?_; refine wIf hF rfl (fun _ hF => ?_) fun _ hF => ?_
 · refine W_skip ?_; refine W_seq ?_; refine W_block ?_; refine wA rfl ?_; refine W_for (fun _ _ h => h) hF (id) (fun (a135, a136) => [(0, cO (5120,0)), (1, cI p1), (2, cI p2), (3, .c (.fn 38 [])), (8, cI a108), (9, cI a136)]) (fun (a135, a136) => [((5120,0), .arr 55 7 (List.map t_api_State a135))]) (fun e147 => [(0, cO (5120,0)), (1, cI p1), (2, cI p2), (3, .c (.fn 38 [])), (8, cI a108)]) (fun e147 => [((5120,0), .arr 55 7 (List.map t_api_State e147))]) sw ?_ ?_
   · rintro e147 hF
     refine wB rfl ?_; exact cont_0 _ _ _ (oi hF) sw
   rintro ⟨a135, a136⟩ x_1 hF cont_1 brk_1 fin_1
   unfold slices_insertionSortCmpFunc_api_State_k1_L1 at hF
   refine W_seq ?_; refine W_seq ?_; refine W_join (fun _ _ h => h) hF (fun v148 => [(0, cO (5120,0)), (1, cI p1), (2, cI p2), (3, .c (.fn 38 [])), (8, cI a108), (9, cI a136), (34, cB v148)]) (fun v148 => [((5120,0), .arr 55 7 (List.map t_api_State a135))]) ?_ ?_
   · rintro v148 hF
     refine wIf hF rfl (fun _ hF => ?_) fun _ hF => ?_
     · refine W_skip ?_; refine W_seq ?_; refine W_block ?_; refine W_regD (by decide) (by kernel_rfl) rfl ?_; refine Q_run SP 8 rfl ?_; obtain ⟨y149, hy149, hF⟩ := bB hF
       refine R_step SP trivial (T_ixO (tc := t_api_State) a135 rfl rfl rfl hy149 ?_); refine R_step SP trivial (T_ldE (tc := t_api_State) a135 rfl rfl (idx_get hy149).2.1 rfl ?_); refine Q_run SP 2 rfl ?_; obtain ⟨y150, hy150, hF⟩ := bB hF
       refine R_step SP trivial (T_ixO (tc := t_api_State) a135 rfl rfl rfl hy150 ?_); refine R_step SP trivial (T_ldE (tc := t_api_State) a135 rfl rfl (idx_get hy150).2.1 rfl ?_); obtain ⟨y151, hy151, hF⟩ := bB hF
       refine R_step SP trivial (T_ixO (tc := t_api_State) a135 rfl rfl rfl hy151 ?_); refine R_step SP trivial (T_stE (tc := t_api_State) a135 y149 rfl rfl (idx_get hy151).2.1 rfl rfl rfl rfl rfl ?_); obtain ⟨y152, hy152, hF⟩ := bB hF
       refine R_step SP trivial (T_ixO (tc := t_api_State) (List.set a135 (Int.toNat a136) y149) rfl rfl rfl hy152 ?_); refine R_step SP trivial (T_stE (tc := t_api_State) (List.set a135 (Int.toNat a136) y149) y150 rfl rfl (idx_get hy152).2.1 rfl rfl rfl rfl rfl ?_)
       refine QP rfl ?_; refine wB rfl ?_; exact cont_1 _ _ _ (oi hF) sw
     refine W_exit ?_; refine thenQ_exit ?_; refine thenQ_exit ?_; refine blockQ_hit ?_; exact brk_1 _ _ _ (oi hF) sw
   intro join hF
   refine W_regD (by decide) (by kernel_rfl) rfl ?_; refine Q_run SP 4 rfl ?_; cases h154 : (decide (p1 < a136))
   · have hF := bF' h154 hF; refine QP rfl ?_; exact join false _ _ hF sw
   have hF := bT' h154 hF; refine Q_run SP 3 rfl ?_; obtain ⟨y155, hy155, hF⟩ := bB' hF
   refine R_step SP rfl (T_ixO (tc := t_api_State) a135 rfl rfl rfl hy155 ?_); refine R_step SP rfl (T_ldE (tc := t_api_State) a135 rfl rfl (idx_get hy155).2.1 rfl ?_); refine Q_run SP 3 rfl ?_; obtain ⟨y156, hy156, hF⟩ := bB' hF
   refine R_step SP rfl (T_ixO (tc := t_api_State) a135 rfl rfl rfl hy156 ?_); refine R_step SP rfl (T_ldE (tc := t_api_State) a135 rfl rfl (idx_get hy156).2.1 rfl ?_); obtain ⟨r157, hr157, hF⟩ := bB' hF
   refine R_step SP rfl (T_callC (callW _ rfl fnOk38) (latency_Worst_1_fun _ _ _ hr157) ⟨⟨rfl, rfl, rfl, rfl, rfl, rfl, rfl, trivial⟩, ⟨rfl, rfl, rfl, rfl, rfl, rfl, rfl, trivial⟩, trivial⟩ rfl (.inl rfl) ?_)
   refine QP rfl ?_; exact join (decide (r157 < 0)) _ _ hF sw
 refine W_exit ?_; refine thenQ_exit ?_; refine thenQ_exit ?_; refine blockQ_hit ?_; have hF := fin_0 _ (oi hF); cases hF
 exact ⟨_, _, S_refl, _, rfl, rfl, trivial, (AgM.weak ⟨rfl, trivial⟩)⟩
def slices_swapRangeCmpFunc_api_State_k1_L1 (p1 : Int) (p2 : Int) (p3 : Int) : ((List api_State) × Int) → Option (((List api_State) × Int) ⊕ (List api_State)) := fun (a17, a18) =>
  (bif (decide (a18 < p3)) then ((idx a17 (w64 (p2 + a18))).bind fun y19 => ((idx a17 (w64 (p1 + a18))).bind fun y20 => ((idx a17 (w64 (p1 + a18))).bind fun y21 => ((idx (List.set a17 (Int.toNat (w64 (p1 + a18))) y19) (w64 (p2 + a18))).bind fun y22 => some (.inl ((List.set (List.set a17 (Int.toNat (w64 (p1 + a18))) y19) (Int.toNat (w64 (p2 + a18))) y20), (w64 (a18 + 1)))))))) else some (.inr a17))
def slices_swapRangeCmpFunc_api_State_k1 (p0 : (List api_State)) (p1 : Int) (p2 : Int) (p3 : Int) : Option (List api_State) :=
  (loop (slices_swapRangeCmpFunc_api_State_k1_L1 p1 p2 p3) (p0, 0))
theorem slices_swapRangeCmpFunc_api_State_k1_fun (p0 : (List api_State)) (p1 : Int) (p2 : Int) (p3 : Int) (r : (List api_State)) (hF : slices_swapRangeCmpFunc_api_State_k1 p0 p1 p2 p3 = some r) : Fun Tryz.prog 161 false [(7440,0)] [cO (7440,0), cI p1, cI p2, cI p3, .c (.fn 38 [])] (heapOf [((7440,0), .arr 55 7 (List.map t_api_State p0))]) (.tup []) (heapOf [((7440,0), .arr 55 7 (List.map t_api_State r))]) := by
 refine Fun.of_walkM [(7440,0)] (some [(7440,0)]) Tryz.func161 c161 (by kernel_rfl) (rs := []) (by kernel_rfl) rfl rfl rfl ?_; unfold v161
 unfold slices_swapRangeCmpFunc_api_State_k1 at hF
 refine wA rfl ?_; refine W_for0 hF (fun (a17, a18) => [(0, cO (7440,0)), (1, cI p1), (2, cI p2), (3, cI p3), (10, cI a18)]) (fun (a17, a18) => [((7440,0), .arr 55 7 (List.map t_api_State a17))]) sw ?_
 rintro ⟨a17, a18⟩ x_0 hF cont_0 fin_0
 unfold slices_swapRangeCmpFunc_api_State_k1_L1 at hF
 refine W_seq ?_; refine wA rfl ?_; refine wIf hF rfl (fun _ hF => ?_) fun _ hF => ?_
 · refine W_skip ?_; refine W_seq ?_; refine W_block ?_; refine W_regD (by decide) (by kernel_rfl) rfl ?_; refine Q_run SP 12 rfl ?_; obtain ⟨y19, hy19, hF⟩ := bB hF
   refine R_step SP trivial (T_ixO (tc := t_api_State) a17 rfl rfl rfl hy19 ?_); refine R_step SP trivial (T_ldE (tc := t_api_State) a17 rfl rfl (idx_get hy19).2.1 rfl ?_); refine Q_run SP 4 rfl ?_; obtain ⟨y20, hy20, hF⟩ := bB hF
   refine R_step SP trivial (T_ixO (tc := t_api_State) a17 rfl rfl rfl hy20 ?_); refine R_step SP trivial (T_ldE (tc := t_api_State) a17 rfl rfl (idx_get hy20).2.1 rfl ?_); obtain ⟨y21, hy21, hF⟩ := bB hF
   refine R_step SP trivial (T_ixO (tc := t_api_State) a17 rfl rfl rfl hy21 ?_); refine R_step SP trivial (T_stE (tc := t_api_State) a17 y19 rfl rfl (idx_get hy21).2.1 rfl rfl rfl rfl rfl ?_); obtain ⟨y22, hy22, hF⟩ := bB hF
   refine R_step SP trivial (T_ixO (tc := t_api_State) (List.set a17 (Int.toNat (w64 (p1 + a18))) y19) rfl rfl rfl hy22 ?_); refine R_step SP trivial (T_stE (tc := t_api_State) (List.set a17 (Int.toNat (w64 (p1 + a18))) y19) y20 rfl rfl (idx_get hy22).2.1 rfl rfl rfl rfl rfl ?_)
   refine QP rfl ?_; refine wB rfl ?_; exact cont_0 _ _ _ (oi hF) sw
 refine W_exit ?_; refine thenQ_exit ?_; refine thenQ_exit ?_; refine blockQ_hit ?_; have hF := fin_0 _ (oi hF); cases hF
 exact ⟨_, _, S_refl, _, rfl, rfl, trivial, (AgM.weak ⟨rfl, trivial⟩)⟩
def slices_rotateCmpFunc_api_State_k1_L1 (p2 : Int) : ((List api_State) × Int × Int) → Option (((List api_State) × Int × Int) ⊕ ((List api_State) × Int)) := fun (a18, a19, a20) =>
  (bif (!decide (a19 = a20)) then (bif (decide (a20 < a19)) then ((slices_swapRangeCmpFunc_api_State_k1 a18 (w64 (p2 - a19)) p2 a20).bind fun r28 => some (.inl (r28, (w64 (a19 - a20)), a20))) else ((slices_swapRangeCmpFunc_api_State_k1 a18 (w64 (p2 - a19)) (w64 ((w64 (p2 + a20)) - a19)) a19).bind fun r29 => some (.inl (r29, a19, (w64 (a20 - a19)))))) else some (.inr (a18, a19)))
def slices_rotateCmpFunc_api_State_k1 (p0 : (List api_State)) (p1 : Int) (p2 : Int) (p3 : Int) : Option (List api_State) :=
  ((loop (slices_rotateCmpFunc_api_State_k1_L1 p2) (p0, (w64 (p2 - p1)), (w64 (p3 - p2)))).bind fun (e25, e26) => ((slices_swapRangeCmpFunc_api_State_k1 e25 (w64 (p2 - e26)) p2 e26).bind fun r27 => some r27))
theorem slices_rotateCmpFunc_api_State_k1_fun (p0 : (List api_State)) (p1 : Int) (p2 : Int) (p3 : Int) (r : (List api_State)) (hF : slices_rotateCmpFunc_api_State_k1 p0 p1 p2 p3 = some r) : Fun Tryz.prog 142 false [(6680,0)] [cO (6680,0), cI p1, cI p2, cI p3, .c (.fn 38 [])] (heapOf [((6680,0), .arr 55 7 (List.map t_api_State p0))]) (.tup []) (heapOf [((6680,0), .arr 55 7 (List.map t_api_State r))]) := by
 refine Fun.of_walkM [(6680,0)] (some [(6680,0)]) Tryz.func142 c142 (by kernel_rfl) (rs := []) (by kernel_rfl) rfl rfl rfl ?_; unfold v142
 unfold slices_rotateCmpFunc_api_State_k1 at hF
 refine wA rfl ?_; refine wA rfl ?_; refine W_seq ?_; refine W_for (fun _ _ h => h) hF (id) (fun (a18, a19, a20) => [(0, cO (6680,0)), (2, cI p2), (4, .c (.fn 38 [])), (10, cI a19), (11, cI a20)]) (fun (a18, a19, a20) => [((6680,0), .arr 55 7 (List.map t_api_State a18))]) (fun (e25, e26) => [(0, cO (6680,0)), (2, cI p2), (4, .c (.fn 38 [])), (10, cI e26)]) (fun (e25, e26) => [((6680,0), .arr 55 7 (List.map t_api_State e25))]) sw ?_ ?_
 · rintro ⟨e25, e26⟩ hF
   refine wD 7 rfl ?_; obtain ⟨r27, hr27, hF⟩ := bB hF
   refine R_stepX trivial (X_callG [((7440,0),(6680,0))] rfl (callN _) (slices_swapRangeCmpFunc_api_State_k1_fun _ _ _ _ _ hr27) ⟨rfl, trivial⟩ ⟨.inl rfl, .inl rfl, .inl rfl, .inl rfl, .inl rfl, trivial⟩ rfl rfl rfl ?_)
   refine QV rfl ?_; cases hF
   exact ⟨_, _, S_refl, _, rfl, rfl, trivial, (AgM.weak ⟨rfl, trivial⟩)⟩
 rintro ⟨a18, a19, a20⟩ x_0 hF cont_0 brk_0 fin_0
 unfold slices_rotateCmpFunc_api_State_k1_L1 at hF
 refine W_seq ?_; refine wA rfl ?_; refine wIf hF rfl (fun _ hF => ?_) fun _ hF => ?_
 · refine W_skip ?_; refine W_block ?_; refine wA rfl ?_; refine wIf hF rfl (fun _ hF => ?_) fun _ hF => ?_
   · refine wC 7 rfl ?_; obtain ⟨r28, hr28, hF⟩ := bB hF
     refine R_stepX trivial (X_callG [((7440,0),(6680,0))] rfl (callN _) (slices_swapRangeCmpFunc_api_State_k1_fun _ _ _ _ _ hr28) ⟨rfl, trivial⟩ ⟨.inl rfl, .inl rfl, .inl rfl, .inl rfl, .inl rfl, trivial⟩ rfl rfl rfl ?_)
     refine QV rfl ?_; refine wB rfl ?_; exact cont_0 _ _ _ (oi hF) sw
   refine wC 11 rfl ?_; obtain ⟨r29, hr29, hF⟩ := bB hF
   refine R_stepX trivial (X_callG [((7440,0),(6680,0))] rfl (callN _) (slices_swapRangeCmpFunc_api_State_k1_fun _ _ _ _ _ hr29) ⟨rfl, trivial⟩ ⟨.inl rfl, .inl rfl, .inl rfl, .inl rfl, .inl rfl, trivial⟩ rfl rfl rfl ?_)
   refine QV rfl ?_; refine wB rfl ?_; exact cont_0 _ _ _ (oi hF) sw
 refine W_exit ?_; refine thenQ_exit ?_; refine thenQ_exit ?_; refine blockQ_hit ?_; exact brk_0 _ _ _ (oi hF) sw
def slices_symMergeCmpFunc_api_State_k1_L1 (e24 : Int) : ((List api_State) × Int) → Option (((List api_State) × Int) ⊕ (List api_State)) := fun (a41, a42) =>
  (bif (decide (a42 < (w64 (e24 - 1)))) then ((idx a41 (w64 (a42 + 1))).bind fun y49 => ((idx a41 a42).bind fun y50 => ((idx a41 a42).bind fun y51 => ((idx (List.set a41 (Int.toNat a42) y49) (w64 (a42 + 1))).bind fun y52 => some (.inl ((List.set (List.set a41 (Int.toNat a42) y49) (Int.toNat (w64 (a42 + 1))) y50), (w64 (a42 + 1)))))))) else some (.inr a41))
def slices_symMergeCmpFunc_api_State_k1_L2 (p0 : (List api_State)) (p1 : Int) : (Int × Int) → Option ((Int × Int) ⊕ Int) := fun (a17, a18) =>
  (bif (decide (a17 < a18)) then ((idx p0 (w64 (shR .u64 (IntKind.wrap .u64 (w64 (a17 + a18))) 1))).bind fun y54 => ((idx p0 p1).bind fun y55 => ((latency_Worst_1 y54 y55).bind fun r56 => (bif (decide (r56 < 0)) then some (.inl ((w64 ((w64 (shR .u64 (IntKind.wrap .u64 (w64 (a17 + a18))) 1)) + 1)), a18)) else some (.inl (a17, (w64 (shR .u64 (IntKind.wrap .u64 (w64 (a17 + a18))) 1)))))))) else some (.inr a17))
def slices_symMergeCmpFunc_api_State_k1_L3 (e82 : Int) : ((List api_State) × Int) → Option (((List api_State) × Int) ⊕ (List api_State)) := fun (a99, a100) =>
  (bif (decide (e82 < a100)) then ((idx a99 (w64 (a100 - 1))).bind fun y107 => ((idx a99 a100).bind fun y108 => ((idx a99 a100).bind fun y109 => ((idx (List.set a99 (Int.toNat a100) y107) (w64 (a100 - 1))).bind fun y110 => some (.inl ((List.set (List.set a99 (Int.toNat a100) y107) (Int.toNat (w64 (a100 - 1))) y108), (w64 (a100 - 1)))))))) else some (.inr a99))
def slices_symMergeCmpFunc_api_State_k1_L4 (p0 : (List api_State)) (p2 : Int) : (Int × Int) → Option ((Int × Int) ⊕ Int) := fun (a75, a76) =>
  (bif (decide (a75 < a76)) then ((idx p0 p2).bind fun y112 => ((idx p0 (w64 (shR .u64 (IntKind.wrap .u64 (w64 (a75 + a76))) 1))).bind fun y113 => ((latency_Worst_1 y112 y113).bind fun r114 => (bif (!(decide (r114 < 0))) then some (.inl ((w64 ((w64 (shR .u64 (IntKind.wrap .u64 (w64 (a75 + a76))) 1)) + 1)), a76)) else some (.inl (a75, (w64 (shR .u64 (IntKind.wrap .u64 (w64 (a75 + a76))) 1)))))))) else some (.inr a75))
def slices_symMergeCmpFunc_api_State_k1_L5 (p0 : (List api_State)) (p1 : Int) (p2 : Int) (p3 : Int) : (Int × Int) → Option ((Int × Int) ⊕ Int) := fun (a135, a136) =>
  (bif (decide (a135 < a136)) then ((idx p0 (w64 ((w64 ((w64 ((w64 (shR .u64 (IntKind.wrap .u64 (w64 (p1 + p3))) 1)) + p2)) - 1)) - (w64 (shR .u64 (IntKind.wrap .u64 (w64 (a135 + a136))) 1))))).bind fun y157 => ((idx p0 (w64 (shR .u64 (IntKind.wrap .u64 (w64 (a135 + a136))) 1))).bind fun y158 => ((latency_Worst_1 y157 y158).bind fun r159 => (bif (!(decide (r159 < 0))) then some (.inl ((w64 ((w64 (shR .u64 (IntKind.wrap .u64 (w64 (a135 + a136))) 1)) + 1)), a136)) else some (.inl (a135, (w64 (shR .u64 (IntKind.wrap .u64 (w64 (a135 + a136))) 1)))))))) else some (.inr a135))
def slices_symMergeCmpFunc_api_State_k1_b (rec : ((List api_State) → Int → Int → Int → Option (List api_State))) (p0 : (List api_State)) (p1 : Int) (p2 : Int) (p3 : Int) : Option (List api_State) :=
  (bif (decide ((w64 (p2 - p1)) = 1)) then ((loop (slices_symMergeCmpFunc_api_State_k1_L2 p0 p1) (p2, p3)).bind fun e24 => ((loop (slices_symMergeCmpFunc_api_State_k1_L1 e24) (p0, p1)).bind fun e48 => some e48)) else (bif (decide ((w64 (p3 - p2)) = 1)) then ((loop (slices_symMergeCmpFunc_api_State_k1_L4 p0 p2) (p1, p2)).bind fun e82 => ((loop (slices_symMergeCmpFunc_api_State_k1_L3 e82) (p0, p2)).bind fun e106 => some e106)) else (((bif (decide ((w64 (shR .u64 (IntKind.wrap .u64 (w64 (p1 + p3))) 1)) < p2)) then some ((w64 ((w64 ((w64 (shR .u64 (IntKind.wrap .u64 (w64 (p1 + p3))) 1)) + p2)) - p3)), (w64 (shR .u64 (IntKind.wrap .u64 (w64 (p1 + p3))) 1))) else some (p1, p2)) : Option (Int × Int)).bind fun (v117, v118) => ((loop (slices_symMergeCmpFunc_api_State_k1_L5 p0 p1 p2 p3) (v117, v118)).bind fun e142 => (((bif (decide (e142 < p2)) then some (decide (p2 < (w64 ((w64 ((w64 (shR .u64 (IntKind.wrap .u64 (w64 (p1 + p3))) 1)) + p2)) - e142)))) else some false) : Option Bool).bind fun v143 => (((bif v143 then ((slices_rotateCmpFunc_api_State_k1 p0 e142 p2 (w64 ((w64 ((w64 (shR .u64 (IntKind.wrap .u64 (w64 (p1 + p3))) 1)) + p2)) - e142))).bind fun r154 => some r154) else some p0) : Option (List api_State)).bind fun v144 => (((bif (decide (p1 < e142)) then some (decide (e142 < (w64 (shR .u64 (IntKind.wrap .u64 (w64 (p1 + p3))) 1)))) else some false) : Option Bool).bind fun v145 => (((bif v145 then ((rec v144 p1 e142 (w64 (shR .u64 (IntKind.wrap .u64 (w64 (p1 + p3))) 1))).bind fun r151 => some r151) else some v144) : Option (List api_State)).bind fun v146 => (((bif (decide ((w64 (shR .u64 (IntKind.wrap .u64 (w64 (p1 + p3))) 1)) < (w64 ((w64 ((w64 (shR .u64 (IntKind.wrap .u64 (w64 (p1 + p3))) 1)) + p2)) - e142)))) then some (decide ((w64 ((w64 ((w64 (shR .u64 (IntKind.wrap .u64 (w64 (p1 + p3))) 1)) + p2)) - e142)) < p3)) else some false) : Option Bool).bind fun v147 => (bif v147 then ((rec v146 (w64 (shR .u64 (IntKind.wrap .u64 (w64 (p1 + p3))) 1)) (w64 ((w64 ((w64 (shR .u64 (IntKind.wrap .u64 (w64 (p1 + p3))) 1)) + p2)) - e142)) p3).bind fun r148 => some r148) else some v146))))))))))
def slices_symMergeCmpFunc_api_State_k1_n : Nat → (List api_State) → Int → Int → Int → Option (List api_State)
  | 0 => fun _ _ _ _ => none
  | n + 1 => slices_symMergeCmpFunc_api_State_k1_b (slices_symMergeCmpFunc_api_State_k1_n n)
def slices_symMergeCmpFunc_api_State_k1 (p0 : (List api_State)) (p1 : Int) (p2 : Int) (p3 : Int) : Option (List api_State) := slices_symMergeCmpFunc_api_State_k1_n 9223372036854775808 p0 p1 p2 p3
theorem slices_symMergeCmpFunc_api_State_k1_n_fun : ∀ (n : Nat) (p0 : (List api_State)) (p1 : Int) (p2 : Int) (p3 : Int) (r : (List api_State)), slices_symMergeCmpFunc_api_State_k1_n n p0 p1 p2 p3 = some r → Fun Tryz.prog 104 false [(5160,0)] [cO (5160,0), cI p1, cI p2, cI p3, .c (.fn 38 [])] (heapOf [((5160,0), .arr 55 7 (List.map t_api_State p0))]) (.tup []) (heapOf [((5160,0), .arr 55 7 (List.map t_api_State r))]) := by
 intro n
 induction n
 · intro p0 p1 p2 p3 r hF; simp [slices_symMergeCmpFunc_api_State_k1_n] at hF
 rename_i n ih; intro p0 p1 p2 p3 r hF
 refine Fun.of_walkM [(5160,0)] (some [(5160,0)]) Tryz.func104 c104 (by kernel_rfl) (rs := []) (by kernel_rfl) rfl rfl rfl ?_; unfold v104
 unfold slices_symMergeCmpFunc_api_State_k1_n at hF
 unfold slices_symMergeCmpFunc_api_State_k1_b at hF
 refine W_seq ?_; refine wA rfl ?_; refine wIf hF rfl (fun _ hF => ?_) fun _ hF => ?_
 · refine wA rfl ?_; refine wA rfl ?_; refine W_seq ?_; refine W_for (fun _ _ h => h) hF (id) (fun (a17, a18) => [(0, cO (5160,0)), (1, cI p1), (4, .c (.fn 38 [])), (10, cI a17), (11, cI a18)]) (fun (a17, a18) => [((5160,0), .arr 55 7 (List.map t_api_State p0))]) (fun e24 => [(0, cO (5160,0)), (1, cI p1), (10, cI e24)]) (fun e24 => [((5160,0), .arr 55 7 (List.map t_api_State p0))]) sw ?_ ?_
   · rintro e24 hF
     refine W_seq ?_; refine wA rfl ?_; refine W_for (fun _ _ h => h) hF (id) (fun (a41, a42) => [(0, cO (5160,0)), (10, cI e24), (13, cI a42)]) (fun (a41, a42) => [((5160,0), .arr 55 7 (List.map t_api_State a41))]) (fun e48 => []) (fun e48 => [((5160,0), .arr 55 7 (List.map t_api_State e48))]) sw ?_ ?_
     · rintro e48 hF
       cases hF
       exact W_ret ⟨_, _, S_refl, _, rfl, rfl, trivial, (AgM.weak ⟨rfl, trivial⟩)⟩
     rintro ⟨a41, a42⟩ x_0 hF cont_0 brk_0 fin_0
     unfold slices_symMergeCmpFunc_api_State_k1_L1 at hF
     refine W_seq ?_; refine wA rfl ?_; refine wIf hF rfl (fun _ hF => ?_) fun _ hF => ?_
     · refine W_skip ?_; refine W_seq ?_; refine W_block ?_; refine W_regD (by decide) (by kernel_rfl) rfl ?_; refine Q_run SP 8 rfl ?_; obtain ⟨y49, hy49, hF⟩ := bB hF
       refine R_step SP trivial (T_ixO (tc := t_api_State) a41 rfl rfl rfl hy49 ?_); refine R_step SP trivial (T_ldE (tc := t_api_State) a41 rfl rfl (idx_get hy49).2.1 rfl ?_); refine Q_run SP 2 rfl ?_; obtain ⟨y50, hy50, hF⟩ := bB hF
       refine R_step SP trivial (T_ixO (tc := t_api_State) a41 rfl rfl rfl hy50 ?_); refine R_step SP trivial (T_ldE (tc := t_api_State) a41 rfl rfl (idx_get hy50).2.1 rfl ?_); obtain ⟨y51, hy51, hF⟩ := bB hF
       refine R_step SP trivial (T_ixO (tc := t_api_State) a41 rfl rfl rfl hy51 ?_); refine R_step SP trivial (T_stE (tc := t_api_State) a41 y49 rfl rfl (idx_get hy51).2.1 rfl rfl rfl rfl rfl ?_); obtain ⟨y52, hy52, hF⟩ := bB hF
       refine R_step SP trivial (T_ixO (tc := t_api_State) (List.set a41 (Int.toNat a42) y49) rfl rfl rfl hy52 ?_); refine R_step SP trivial (T_stE (tc := t_api_State) (List.set a41 (Int.toNat a42) y49) y50 rfl rfl (idx_get hy52).2.1 rfl rfl rfl rfl rfl ?_)
       refine QP rfl ?_; refine wB rfl ?_; exact cont_0 _ _ _ (oi hF) sw
     refine W_exit ?_; refine thenQ_exit ?_; refine thenQ_exit ?_; refine blockQ_hit ?_; exact brk_0 _ _ _ (oi hF) sw
   rintro ⟨a17, a18⟩ x_0 hF cont_0 brk_0 fin_0
   unfold slices_symMergeCmpFunc_api_State_k1_L2 at hF
   refine W_seq ?_; refine wA rfl ?_; refine wIf hF rfl (fun _ hF => ?_) fun _ hF => ?_
   · refine W_skip ?_; refine W_block ?_; refine wA rfl ?_; refine W_seq ?_; refine W_regD (by decide) (by kernel_rfl) rfl ?_; refine Q_run SP 3 rfl ?_; obtain ⟨y54, hy54, hF⟩ := bB hF
     refine R_step SP trivial (T_ixO (tc := t_api_State) p0 rfl rfl rfl hy54 ?_); refine R_step SP trivial (T_ldE (tc := t_api_State) p0 rfl rfl (idx_get hy54).2.1 rfl ?_); refine Q_run SP 2 rfl ?_; obtain ⟨y55, hy55, hF⟩ := bB hF
     refine R_step SP trivial (T_ixO (tc := t_api_State) p0 rfl rfl rfl hy55 ?_); refine R_step SP trivial (T_ldE (tc := t_api_State) p0 rfl rfl (idx_get hy55).2.1 rfl ?_); obtain ⟨r56, hr56, hF⟩ := bB hF
     refine R_step SP trivial (T_callC (callW _ rfl fnOk38) (latency_Worst_1_fun _ _ _ hr56) ⟨⟨rfl, rfl, rfl, rfl, rfl, rfl, rfl, trivial⟩, ⟨rfl, rfl, rfl, rfl, rfl, rfl, rfl, trivial⟩, trivial⟩ rfl (.inl rfl) ?_)
     refine QP rfl ?_; refine wIf hF rfl (fun _ hF => ?_) fun _ hF => ?_
     · refine wB rfl ?_; exact cont_0 _ _ _ (oi hF) sw
     refine wB rfl ?_; exact cont_0 _ _ _ (oi hF) sw
   refine W_exit ?_; refine thenQ_exit ?_; refine thenQ_exit ?_; refine blockQ_hit ?_; exact brk_0 _ _ _ (oi hF) sw
 refine W_skip ?_; refine W_seq ?_; refine wA rfl ?_; refine wIf hF rfl (fun _ hF => ?_) fun _ hF => ?_
 · refine wA rfl ?_; refine wA rfl ?_; refine W_seq ?_; refine W_for (fun _ _ h => h) hF (id) (fun (a75, a76) => [(0, cO (5160,0)), (2, cI p2), (4, .c (.fn 38 [])), (14, cI a75), (15, cI a76)]) (fun (a75, a76) => [((5160,0), .arr 55 7 (List.map t_api_State p0))]) (fun e82 => [(0, cO (5160,0)), (2, cI p2), (14, cI e82)]) (fun e82 => [((5160,0), .arr 55 7 (List.map t_api_State p0))]) sw ?_ ?_
   · rintro e82 hF
     refine W_seq ?_; refine wA rfl ?_; refine W_for (fun _ _ h => h) hF (id) (fun (a99, a100) => [(0, cO (5160,0)), (14, cI e82), (17, cI a100)]) (fun (a99, a100) => [((5160,0), .arr 55 7 (List.map t_api_State a99))]) (fun e106 => []) (fun e106 => [((5160,0), .arr 55 7 (List.map t_api_State e106))]) sw ?_ ?_
     · rintro e106 hF
       cases hF
       exact W_ret ⟨_, _, S_refl, _, rfl, rfl, trivial, (AgM.weak ⟨rfl, trivial⟩)⟩
     rintro ⟨a99, a100⟩ x_0 hF cont_0 brk_0 fin_0
     unfold slices_symMergeCmpFunc_api_State_k1_L3 at hF
     refine W_seq ?_; refine wA rfl ?_; refine wIf hF rfl (fun _ hF => ?_) fun _ hF => ?_
     · refine W_skip ?_; refine W_seq ?_; refine W_block ?_; refine W_regD (by decide) (by kernel_rfl) rfl ?_; refine Q_run SP 8 rfl ?_; obtain ⟨y107, hy107, hF⟩ := bB hF
       refine R_step SP trivial (T_ixO (tc := t_api_State) a99 rfl rfl rfl hy107 ?_); refine R_step SP trivial (T_ldE (tc := t_api_State) a99 rfl rfl (idx_get hy107).2.1 rfl ?_); refine Q_run SP 2 rfl ?_; obtain ⟨y108, hy108, hF⟩ := bB hF
       refine R_step SP trivial (T_ixO (tc := t_api_State) a99 rfl rfl rfl hy108 ?_); refine R_step SP trivial (T_ldE (tc := t_api_State) a99 rfl rfl (idx_get hy108).2.1 rfl ?_); obtain ⟨y109, hy109, hF⟩ := bB hF
       refine R_step SP trivial (T_ixO (tc := t_api_State) a99 rfl rfl rfl hy109 ?_); refine R_step SP trivial (T_stE (tc := t_api_State) a99 y107 rfl rfl (idx_get hy109).2.1 rfl rfl rfl rfl rfl ?_); obtain ⟨y110, hy110, hF⟩ := bB hF
       refine R_step SP trivial (T_ixO (tc := t_api_State) (List.set a99 (Int.toNat a100) y107) rfl rfl rfl hy110 ?_); refine R_step SP trivial (T_stE (tc := t_api_State) (List.set a99 (Int.toNat a100) y107) y108 rfl rfl (idx_get hy110).2.1 rfl rfl rfl rfl rfl ?_)
       refine QP rfl ?_; refine wB rfl ?_; exact cont_0 _ _ _ (oi hF) sw
     refine W_exit ?_; refine thenQ_exit ?_; refine thenQ_exit ?_; refine blockQ_hit ?_; exact brk_0 _ _ _ (oi hF) sw
   rintro ⟨a75, a76⟩ x_0 hF cont_0 brk_0 fin_0
   unfold slices_symMergeCmpFunc_api_State_k1_L4 at hF
   refine W_seq ?_; refine wA rfl ?_; refine wIf hF rfl (fun _ hF => ?_) fun _ hF => ?_
   · refine W_skip ?_; refine W_block ?_; refine wA rfl ?_; refine W_seq ?_; refine W_regD (by decide) (by kernel_rfl) rfl ?_; refine Q_run SP 3 rfl ?_; obtain ⟨y112, hy112, hF⟩ := bB hF
     refine R_step SP trivial (T_ixO (tc := t_api_State) p0 rfl rfl rfl hy112 ?_); refine R_step SP trivial (T_ldE (tc := t_api_State) p0 rfl rfl (idx_get hy112).2.1 rfl ?_); refine Q_run SP 2 rfl ?_; obtain ⟨y113, hy113, hF⟩ := bB hF
     refine R_step SP trivial (T_ixO (tc := t_api_State) p0 rfl rfl rfl hy113 ?_); refine R_step SP trivial (T_ldE (tc := t_api_State) p0 rfl rfl (idx_get hy113).2.1 rfl ?_); obtain ⟨r114, hr114, hF⟩ := bB hF
     refine R_step SP trivial (T_callC (callW _ rfl fnOk38) (latency_Worst_1_fun _ _ _ hr114) ⟨⟨rfl, rfl, rfl, rfl, rfl, rfl, rfl, trivial⟩, ⟨rfl, rfl, rfl, rfl, rfl, rfl, rfl, trivial⟩, trivial⟩ rfl (.inl rfl) ?_)
     refine QP rfl ?_; refine wIf hF rfl (fun _ hF => ?_) fun _ hF => ?_
     · refine wB rfl ?_; exact cont_0 _ _ _ (oi hF) sw
     refine wB rfl ?_; exact cont_0 _ _ _ (oi hF) sw
   refine W_exit ?_; refine thenQ_exit ?_; refine thenQ_exit ?_; refine blockQ_hit ?_; exact brk_0 _ _ _ (oi hF) sw
 refine W_skip ?_; refine wA rfl ?_; refine wA rfl ?_; refine wA rfl ?_; refine W_seq ?_; refine wA rfl ?_; refine W_join (fun _ _ h => h) hF (fun (v117, v118) => [(0, cO (5160,0)), (1, cI p1), (2, cI p2), (3, cI p3), (4, .c (.fn 38 [])), (18, cI (w64 (shR .u64 (IntKind.wrap .u64 (w64 (p1 + p3))) 1))), (19, cI (w64 ((w64 (shR .u64 (IntKind.wrap .u64 (w64 (p1 + p3))) 1)) + p2))), (20, cI v117), (21, cI v118)]) (fun (v117, v118) => [((5160,0), .arr 55 7 (List.map t_api_State p0))]) ?_ ?_
 · rintro ⟨v117, v118⟩ hF
   refine wA rfl ?_; refine W_seq ?_; refine W_for (fun _ _ h => h) hF (id) (fun (a135, a136) => [(0, cO (5160,0)), (1, cI p1), (2, cI p2), (3, cI p3), (4, .c (.fn 38 [])), (18, cI (w64 (shR .u64 (IntKind.wrap .u64 (w64 (p1 + p3))) 1))), (19, cI (w64 ((w64 (shR .u64 (IntKind.wrap .u64 (w64 (p1 + p3))) 1)) + p2))), (20, cI a135), (21, cI a136), (22, cI (w64 ((w64 ((w64 (shR .u64 (IntKind.wrap .u64 (w64 (p1 + p3))) 1)) + p2)) - 1)))]) (fun (a135, a136) => [((5160,0), .arr 55 7 (List.map t_api_State p0))]) (fun e142 => [(0, cO (5160,0)), (1, cI p1), (2, cI p2), (3, cI p3), (4, .c (.fn 38 [])), (18, cI (w64 (shR .u64 (IntKind.wrap .u64 (w64 (p1 + p3))) 1))), (19, cI (w64 ((w64 (shR .u64 (IntKind.wrap .u64 (w64 (p1 + p3))) 1)) + p2))), (20, cI e142)]) (fun e142 => [((5160,0), .arr 55 7 (List.map t_api_State p0))]) sw ?_ ?_
   · rintro e142 hF
     refine wA rfl ?_; refine W_seq ?_; refine W_seq ?_; refine W_join (fun _ _ h => h) hF (fun v143 => [(0, cO (5160,0)), (1, cI p1), (2, cI p2), (3, cI p3), (4, .c (.fn 38 [])), (18, cI (w64 (shR .u64 (IntKind.wrap .u64 (w64 (p1 + p3))) 1))), (20, cI e142), (24, cI (w64 ((w64 ((w64 (shR .u64 (IntKind.wrap .u64 (w64 (p1 + p3))) 1)) + p2)) - e142))), (185, cB v143)]) (fun v143 => [((5160,0), .arr 55 7 (List.map t_api_State p0))]) ?_ ?_
     · rintro v143 hF
       refine W_join (fun _ _ h => h) hF (fun v144 => [(0, cO (5160,0)), (1, cI p1), (3, cI p3), (4, .c (.fn 38 [])), (18, cI (w64 (shR .u64 (IntKind.wrap .u64 (w64 (p1 + p3))) 1))), (20, cI e142), (24, cI (w64 ((w64 ((w64 (shR .u64 (IntKind.wrap .u64 (w64 (p1 + p3))) 1)) + p2)) - e142)))]) (fun v144 => [((5160,0), .arr 55 7 (List.map t_api_State v144))]) ?_ ?_
       · rintro v144 hF
         refine W_seq ?_; refine W_seq ?_; refine W_join (fun _ _ h => h) hF (fun v145 => [(0, cO (5160,0)), (1, cI p1), (3, cI p3), (4, .c (.fn 38 [])), (18, cI (w64 (shR .u64 (IntKind.wrap .u64 (w64 (p1 + p3))) 1))), (20, cI e142), (24, cI (w64 ((w64 ((w64 (shR .u64 (IntKind.wrap .u64 (w64 (p1 + p3))) 1)) + p2)) - e142))), (199, cB v145)]) (fun v145 => [((5160,0), .arr 55 7 (List.map t_api_State v144))]) ?_ ?_
         · rintro v145 hF
           refine W_join (fun _ _ h => h) hF (fun v146 => [(0, cO (5160,0)), (3, cI p3), (4, .c (.fn 38 [])), (18, cI (w64 (shR .u64 (IntKind.wrap .u64 (w64 (p1 + p3))) 1))), (24, cI (w64 ((w64 ((w64 (shR .u64 (IntKind.wrap .u64 (w64 (p1 + p3))) 1)) + p2)) - e142)))]) (fun v146 => [((5160,0), .arr 55 7 (List.map t_api_State v146))]) ?_ ?_
           · rintro v146 hF
             refine W_seq ?_; refine W_join (fun _ _ h => h) hF (fun v147 => [(0, cO (5160,0)), (3, cI p3), (4, .c (.fn 38 [])), (18, cI (w64 (shR .u64 (IntKind.wrap .u64 (w64 (p1 + p3))) 1))), (24, cI (w64 ((w64 ((w64 (shR .u64 (IntKind.wrap .u64 (w64 (p1 + p3))) 1)) + p2)) - e142))), (213, cB v147)]) (fun v147 => [((5160,0), .arr 55 7 (List.map t_api_State v146))]) ?_ ?_
             · rintro v147 hF
               refine wIf hF rfl (fun _ hF => ?_) fun _ hF => ?_
               · refine wD 5 rfl ?_; obtain ⟨r148, hr148, hF⟩ := bB hF
                 refine R_stepX trivial (X_callG [] rfl (callN _) (ih _ _ _ _ _ hr148) ⟨rfl, trivial⟩ ⟨.inl rfl, .inl rfl, .inl rfl, .inl rfl, .inl rfl, trivial⟩ rfl rfl rfl ?_); refine QV rfl ?_; cases hF
                 exact ⟨_, _, S_refl, _, rfl, rfl, trivial, (AgM.weak ⟨rfl, trivial⟩)⟩
               refine W_skip ?_; cases hF
               exact ⟨_, _, S_refl, _, rfl, rfl, trivial, (AgM.weak ⟨rfl, trivial⟩)⟩
             intro join hF
             refine wD 4 rfl ?_; cases h150 : (decide ((w64 (shR .u64 (IntKind.wrap .u64 (w64 (p1 + p3))) 1)) < (w64 ((w64 ((w64 (shR .u64 (IntKind.wrap .u64 (w64 (p1 + p3))) 1)) + p2)) - e142))))
             · have hF := bF' h150 hF; refine QV rfl ?_; exact join false _ _ hF sw
             have hF := bT' h150 hF; refine QV rfl ?_; exact join (decide ((w64 ((w64 ((w64 (shR .u64 (IntKind.wrap .u64 (w64 (p1 + p3))) 1)) + p2)) - e142)) < p3)) _ _ hF sw
           intro join hF
           refine wIf' hF rfl (fun _ hF => ?_) fun _ hF => ?_
           · refine wD 5 rfl ?_; obtain ⟨r151, hr151, hF⟩ := bB' hF
             refine R_stepX trivial (X_callG [] rfl (callN _) (ih _ _ _ _ _ hr151) ⟨rfl, trivial⟩ ⟨.inl rfl, .inl rfl, .inl rfl, .inl rfl, .inl rfl, trivial⟩ rfl rfl rfl ?_); refine QV rfl ?_; exact join r151 _ _ hF sw
           refine W_skip ?_; exact join v144 _ _ hF sw
         intro join hF
         refine wD 4 rfl ?_; cases h153 : (decide (p1 < e142))
         · have hF := bF' h153 hF; refine QV rfl ?_; exact join false _ _ hF sw
         have hF := bT' h153 hF; refine QV rfl ?_; exact join (decide (e142 < (w64 (shR .u64 (IntKind.wrap .u64 (w64 (p1 + p3))) 1)))) _ _ hF sw
       intro join hF
       refine wIf' hF rfl (fun _ hF => ?_) fun _ hF => ?_
       · refine wD 5 rfl ?_; obtain ⟨r154, hr154, hF⟩ := bB' hF
         refine R_stepX trivial (X_callG [((6680,0),(5160,0))] rfl (callN _) (slices_rotateCmpFunc_api_State_k1_fun _ _ _ _ _ hr154) ⟨rfl, trivial⟩ ⟨.inl rfl, .inl rfl, .inl rfl, .inl rfl, .inl rfl, trivial⟩ rfl rfl rfl ?_)
         refine QV rfl ?_; exact join r154 _ _ hF sw
       refine W_skip ?_; exact join p0 _ _ hF sw
     intro join hF
     refine wD 4 rfl ?_; cases h156 : (decide (e142 < p2))
     · have hF := bF' h156 hF; refine QV rfl ?_; exact join false _ _ hF sw
     have hF := bT' h156 hF; refine QV rfl ?_; exact join (decide (p2 < (w64 ((w64 ((w64 (shR .u64 (IntKind.wrap .u64 (w64 (p1 + p3))) 1)) + p2)) - e142)))) _ _ hF sw
   rintro ⟨a135, a136⟩ x_0 hF cont_0 brk_0 fin_0
   unfold slices_symMergeCmpFunc_api_State_k1_L5 at hF
   refine W_seq ?_; refine wA rfl ?_; refine wIf hF rfl (fun _ hF => ?_) fun _ hF => ?_
   · refine W_skip ?_; refine W_block ?_; refine wA rfl ?_; refine W_seq ?_; refine W_regD (by decide) (by kernel_rfl) rfl ?_; refine Q_run SP 5 rfl ?_; obtain ⟨y157, hy157, hF⟩ := bB hF
     refine R_step SP trivial (T_ixO (tc := t_api_State) p0 rfl rfl rfl hy157 ?_); refine R_step SP trivial (T_ldE (tc := t_api_State) p0 rfl rfl (idx_get hy157).2.1 rfl ?_); refine Q_run SP 2 rfl ?_; obtain ⟨y158, hy158, hF⟩ := bB hF
     refine R_step SP trivial (T_ixO (tc := t_api_State) p0 rfl rfl rfl hy158 ?_); refine R_step SP trivial (T_ldE (tc := t_api_State) p0 rfl rfl (idx_get hy158).2.1 rfl ?_); obtain ⟨r159, hr159, hF⟩ := bB hF
     refine R_step SP trivial (T_callC (callW _ rfl fnOk38) (latency_Worst_1_fun _ _ _ hr159) ⟨⟨rfl, rfl, rfl, rfl, rfl, rfl, rfl, trivial⟩, ⟨rfl, rfl, rfl, rfl, rfl, rfl, rfl, trivial⟩, trivial⟩ rfl (.inl rfl) ?_)
     refine QP rfl ?_; refine wIf hF rfl (fun _ hF => ?_) fun _ hF => ?_
     · refine wB rfl ?_; exact cont_0 _ _ _ (oi hF) sw
     refine wB rfl ?_; exact cont_0 _ _ _ (oi hF) sw
   refine W_exit ?_; refine thenQ_exit ?_; refine thenQ_exit ?_; refine blockQ_hit ?_; exact brk_0 _ _ _ (oi hF) sw
 intro join hF
 refine wIf' hF rfl (fun _ hF => ?_) fun _ hF => ?_
 · refine wA rfl ?_; refine wB rfl ?_; exact join ((w64 ((w64 ((w64 (shR .u64 (IntKind.wrap .u64 (w64 (p1 + p3))) 1)) + p2)) - p3)), (w64 (shR .u64 (IntKind.wrap .u64 (w64 (p1 + p3))) 1))) _ _ hF sw
 refine wA rfl ?_; refine wB rfl ?_; exact join (p1, p2) _ _ hF sw
theorem slices_symMergeCmpFunc_api_State_k1_fun (p0 : (List api_State)) (p1 : Int) (p2 : Int) (p3 : Int) (r : (List api_State)) (hF : slices_symMergeCmpFunc_api_State_k1 p0 p1 p2 p3 = some r) : Fun Tryz.prog 104 false [(5160,0)] [.c (.slO (5160,0)), .c (.imm (tI p1)), .c (.imm (tI p2)), .c (.imm (tI p3)), .c (.fn 38 [])] (heapOf [((5160,0), .arr 55 7 (List.map t_api_State p0))]) (.tup []) (heapOf [((5160,0), .arr 55 7 (List.map t_api_State r))]) := slices_symMergeCmpFunc_api_State_k1_n_fun _ p0 p1 p2 p3 r hF
def slices_stableCmpFunc_api_State_k1_L1 (p1 : Int) (a81 : Int) : ((List api_State) × Int × Int) → Option (((List api_State) × Int × Int) ⊕ ((List api_State) × Int)) := fun (a95, a96, a97) =>
  (bif (decide (a97 ≤ p1)) then ((slices_symMergeCmpFunc_api_State_k1 a95 a96 (w64 (a96 + a81)) a97).bind fun r105 => some (.inl (r105, a97, (w64 (a97 + (w64 (2 * a81))))))) else some (.inr (a95, a96)))
def slices_stableCmpFunc_api_State_k1_L2 (p1 : Int) : ((List api_State) × Int) → Option (((List api_State) × Int) ⊕ (List api_State)) := fun (a80, a81) =>
  (bif (decide (a81 < p1)) then ((loop (slices_stableCmpFunc_api_State_k1_L1 p1 a81) (a80, 0, (w64 (2 * a81)))).bind fun (e100, e101) => (((bif (decide ((w64 (e101 + a81)) < p1)) then ((slices_symMergeCmpFunc_api_State_k1 e100 e101 (w64 (e101 + a81)) p1).bind fun r103 => some r103) else some e100) : Option (List api_State)).bind fun v102 => some (.inl (v102, (w64 (a81 * 2)))))) else some (.inr a80))
def slices_stableCmpFunc_api_State_k1_L3 (p1 : Int) : ((List api_State) × Int × Int) → Option (((List api_State) × Int × Int) ⊕ ((List api_State) × Int)) := fun (a14, a15, a16) =>
  (bif (decide (a16 ≤ p1)) then ((slices_insertionSortCmpFunc_api_State_k1 a14 a15 a16).bind fun r108 => some (.inl (r108, a16, (w64 (a16 + 20))))) else some (.inr (a14, a15)))
def slices_stableCmpFunc_api_State_k1 (p0 : (List api_State)) (p1 : Int) : Option (List api_State) :=
  ((loop (slices_stableCmpFunc_api_State_k1_L3 p1) (p0, 0, 20)).bind fun (e19, e20) => ((slices_insertionSortCmpFunc_api_State_k1 e19 e20 p1).bind fun r21 => (loop (slices_stableCmpFunc_api_State_k1_L2 p1) (r21, 20))))
theorem slices_stableCmpFunc_api_State_k1_fun (p0 : (List api_State)) (p1 : Int) (r : (List api_State)) (hF : slices_stableCmpFunc_api_State_k1 p0 p1 = some r) : Fun Tryz.prog 53 false [(3120,0)] [cO (3120,0), cI p1, .c (.fn 38 [])] (heapOf [((3120,0), .arr 55 7 (List.map t_api_State p0))]) (.tup []) (heapOf [((3120,0), .arr 55 7 (List.map t_api_State r))]) := by
 refine Fun.of_walkM [(3120,0)] (some [(3120,0)]) Tryz.func53 c53 (by kernel_rfl) (rs := []) (by kernel_rfl) rfl rfl rfl ?_; unfold v53
 unfold slices_stableCmpFunc_api_State_k1 at hF
 refine wA rfl ?_; refine wA rfl ?_; refine W_seq ?_; refine W_for (fun _ _ h => h) hF (id) (fun (a14, a15, a16) => [(0, cO (3120,0)), (1, cI p1), (2, .c (.fn 38 [])), (6, cI 20), (7, cI a15), (8, cI a16)]) (fun (a14, a15, a16) => [((3120,0), .arr 55 7 (List.map t_api_State a14))]) (fun (e19, e20) => [(0, cO (3120,0)), (1, cI p1), (2, .c (.fn 38 [])), (6, cI 20), (7, cI e20)]) (fun (e19, e20) => [((3120,0), .arr 55 7 (List.map t_api_State e19))]) sw ?_ ?_
 · rintro ⟨e19, e20⟩ hF
   refine wC 4 rfl ?_; obtain ⟨r21, hr21, hF⟩ := bB hF
   refine R_stepX trivial (X_callG [((5120,0),(3120,0))] rfl (callN _) (slices_insertionSortCmpFunc_api_State_k1_fun _ _ _ _ hr21) ⟨rfl, trivial⟩ ⟨.inl rfl, .inl rfl, .inl rfl, .inl rfl, trivial⟩ rfl rfl rfl ?_)
   refine QV rfl ?_; refine W_for0 hF (fun (a80, a81) => [(0, cO (3120,0)), (1, cI p1), (2, .c (.fn 38 [])), (6, cI a81)]) (fun (a80, a81) => [((3120,0), .arr 55 7 (List.map t_api_State a80))]) sw ?_
   rintro ⟨a80, a81⟩ x_0 hF cont_0 fin_0
   unfold slices_stableCmpFunc_api_State_k1_L2 at hF
   refine W_seq ?_; refine wA rfl ?_; refine wIf hF rfl (fun _ hF => ?_) fun _ hF => ?_
   · refine W_skip ?_; refine W_block ?_; refine wA rfl ?_; refine W_seq ?_; refine W_for (fun _ _ h => h) hF (id) (fun (a95, a96, a97) => [(0, cO (3120,0)), (1, cI p1), (2, .c (.fn 38 [])), (6, cI a81), (7, cI a96), (8, cI a97)]) (fun (a95, a96, a97) => [((3120,0), .arr 55 7 (List.map t_api_State a95))]) (fun (e100, e101) => [(0, cO (3120,0)), (1, cI p1), (2, .c (.fn 38 [])), (6, cI a81), (7, cI e101)]) (fun (e100, e101) => [((3120,0), .arr 55 7 (List.map t_api_State e100))]) sw ?_ ?_
     · rintro ⟨e100, e101⟩ hF
       refine W_seq ?_; refine wA rfl ?_; refine wA rfl ?_; refine W_join (fun _ _ h => h) hF (fun v102 => [(0, cO (3120,0)), (1, cI p1), (2, .c (.fn 38 [])), (6, cI a81)]) (fun v102 => [((3120,0), .arr 55 7 (List.map t_api_State v102))]) ?_ ?_
       · rintro v102 hF
         refine wB rfl ?_; exact cont_0 _ _ _ (oi hF) sw
       intro join hF
       refine wIf' hF rfl (fun _ hF => ?_) fun _ hF => ?_
       · refine wD 5 rfl ?_; obtain ⟨r103, hr103, hF⟩ := bB' hF
         refine R_stepX trivial (X_callG [((5160,0),(3120,0))] rfl (callN _) (slices_symMergeCmpFunc_api_State_k1_fun _ _ _ _ _ hr103) ⟨rfl, trivial⟩ ⟨.inl rfl, .inl rfl, .inl rfl, .inl rfl, .inl rfl, trivial⟩ rfl rfl rfl ?_)
         refine QV rfl ?_; exact join r103 _ _ hF sw
       refine W_skip ?_; exact join e100 _ _ hF sw
     rintro ⟨a95, a96, a97⟩ x_1 hF cont_1 brk_1 fin_1
     unfold slices_stableCmpFunc_api_State_k1_L1 at hF
     refine W_seq ?_; refine wA rfl ?_; refine wIf hF rfl (fun _ hF => ?_) fun _ hF => ?_
     · refine W_skip ?_; refine W_block ?_; refine wC 7 rfl ?_; obtain ⟨r105, hr105, hF⟩ := bB hF
       refine R_stepX trivial (X_callG [((5160,0),(3120,0))] rfl (callN _) (slices_symMergeCmpFunc_api_State_k1_fun _ _ _ _ _ hr105) ⟨rfl, trivial⟩ ⟨.inl rfl, .inl rfl, .inl rfl, .inl rfl, .inl rfl, trivial⟩ rfl rfl rfl ?_)
       refine QV rfl ?_; refine wA rfl ?_; refine wB rfl ?_; exact cont_1 _ _ _ (oi hF) sw
     refine W_exit ?_; refine thenQ_exit ?_; refine thenQ_exit ?_; refine blockQ_hit ?_; exact brk_1 _ _ _ (oi hF) sw
   refine W_exit ?_; refine thenQ_exit ?_; refine thenQ_exit ?_; refine blockQ_hit ?_; have hF := fin_0 _ (oi hF); cases hF
   exact ⟨_, _, S_refl, _, rfl, rfl, trivial, (AgM.weak ⟨rfl, trivial⟩)⟩
 rintro ⟨a14, a15, a16⟩ x_0 hF cont_0 brk_0 fin_0
 unfold slices_stableCmpFunc_api_State_k1_L3 at hF
 refine W_seq ?_; refine wA rfl ?_; refine wIf hF rfl (fun _ hF => ?_) fun _ hF => ?_
 · refine W_skip ?_; refine W_block ?_; refine wC 4 rfl ?_; obtain ⟨r108, hr108, hF⟩ := bB hF
   refine R_stepX trivial (X_callG [((5120,0),(3120,0))] rfl (callN _) (slices_insertionSortCmpFunc_api_State_k1_fun _ _ _ _ hr108) ⟨rfl, trivial⟩ ⟨.inl rfl, .inl rfl, .inl rfl, .inl rfl, trivial⟩ rfl rfl rfl ?_)
   refine QV rfl ?_; refine wA rfl ?_; refine wB rfl ?_; exact cont_0 _ _ _ (oi hF) sw
 refine W_exit ?_; refine thenQ_exit ?_; refine thenQ_exit ?_; refine blockQ_hit ?_; exact brk_0 _ _ _ (oi hF) sw
def slices_SortStableFunc_api_State_api_State_k1 (p0 : (List api_State)) : Option (List api_State) :=
  ((slices_stableCmpFunc_api_State_k1 p0 (List.length p0 : Int)).bind fun r1 => some r1)
theorem slices_SortStableFunc_api_State_api_State_k1_fun (p0 : (List api_State)) (r : (List api_State)) (hF : slices_SortStableFunc_api_State_api_State_k1 p0 = some r) : Fun Tryz.prog 37 false [(2480,0)] [cO (2480,0), .c (.fn 38 [])] (heapOf [((2480,0), .arr 55 7 (List.map t_api_State p0))]) (.tup []) (heapOf [((2480,0), .arr 55 7 (List.map t_api_State r))]) := by
 refine Fun.of_walkM [(2480,0)] (some [(2480,0)]) Tryz.func37 c37 (by kernel_rfl) (rs := []) (by kernel_rfl) rfl rfl rfl ?_; unfold v37
 unfold slices_SortStableFunc_api_State_api_State_k1 at hF
 refine wD 2 rfl ?_; refine rS (T_len (tc := t_api_State) p0 (.own _ _ rfl) ?_); refine Q_run SV 1 rfl ?_; obtain ⟨r1, hr1, hF⟩ := bB hF
 refine R_stepX trivial (X_callG [((3120,0),(2480,0))] rfl (callN _) (slices_stableCmpFunc_api_State_k1_fun _ _ _ hr1) ⟨rfl, trivial⟩ ⟨.inl rfl, .inl rfl, .inl rfl, trivial⟩ rfl rfl rfl ?_); refine QV rfl ?_
 cases hF
 exact ⟨_, _, S_refl, _, rfl, rfl, trivial, (AgM.weak ⟨rfl, trivial⟩)⟩
def latency_Worst (p0 : api_Trace) (p1 : Int) : Option ((List api_State) × Int) :=
  ((trace_Check p0).bind fun r1 => (bif (!decide (r1 = 0)) then some ([], r1) else (bif (decide (p1 < 0)) then some ([], 2) else ((latency_waits p0).bind fun r2 => ((slices_SortStableFunc_api_State_api_State_k1 r2).bind fun r3 => ((slcPart r3 0 (min p1 (List.length r3 : Int))).bind fun y4 => some (y4, 0)))))))
theorem latency_Worst_fun (p0 : api_Trace) (p1 : Int) (r : ((List api_State) × Int)) (hF : latency_Worst p0 p1 = some r) : Fun Tryz.prog 15 false [] [.agg (m_api_Trace p0), cI p1] (heapOf []) (.tup [cO (902,600), cI r.2]) (heapOf [((902,600), .arr 55 7 (List.map t_api_State r.1))]) := by
 refine Fun.of_walkM [] (some []) Tryz.func15 c15 (by kernel_rfl) (rs := [.tmp 4, .tmp 5]) (by kernel_rfl) rfl rfl rfl ?_; unfold v15
 unfold latency_Worst at hF
 refine wA rfl ?_; refine W_seq ?_; refine wC 1 rfl ?_; obtain ⟨r1, hr1, hF⟩ := bB hF
 refine rS (T_call (trace_Check_fun _ _ hr1) ⟨⟨rfl, rfl, rfl, rfl, rfl, rfl, rfl, rfl, rfl, rfl, trivial⟩, trivial⟩ rfl (.inl rfl) ?_); refine QV rfl ?_; refine wA rfl ?_; refine wIf hF rfl (fun _ hF => ?_) fun _ hF => ?_
 · refine wA rfl ?_; cases hF
   exact W_ret ⟨_, _, (S_own 4 (902,600) 55 7 rfl rfl rfl rfl S_refl), _, rfl, rfl, ⟨rfl, ⟨rfl, fun _ => rfl⟩, trivial⟩, (AgM.weak ⟨rfl, trivial⟩)⟩
 refine W_skip ?_; refine W_seq ?_; refine wA rfl ?_; refine wIf hF rfl (fun _ hF => ?_) fun _ hF => ?_
 · refine wA rfl ?_; cases hF
   exact W_ret ⟨_, _, (S_own 4 (902,600) 55 7 rfl rfl rfl rfl S_refl), _, rfl, rfl, ⟨rfl, ⟨rfl, fun _ => rfl⟩, trivial⟩, (AgM.weak ⟨rfl, trivial⟩)⟩
 refine W_skip ?_; refine wC 1 rfl ?_; obtain ⟨r2, hr2, hF⟩ := bB hF
 refine R_stepX trivial (X_callG [((902,1160),(16,1))] rfl (callN _) (latency_waits_fun _ _ hr2) trivial ⟨.inr ⟨rfl, rfl, rfl, rfl, rfl, rfl, rfl, rfl, rfl, rfl, trivial⟩, trivial⟩ rfl rfl rfl ?_); refine QV rfl ?_
 refine wC 1 rfl ?_; obtain ⟨r3, hr3, hF⟩ := bB hF
 refine R_stepX trivial (X_callG [((2480,0),(16,1))] rfl (callN _) (slices_SortStableFunc_api_State_api_State_k1_fun _ _ hr3) ⟨rfl, trivial⟩ ⟨.inl rfl, .inl rfl, trivial⟩ rfl rfl rfl ?_); refine QV rfl ?_
 refine wC 3 rfl ?_; refine rS (T_len (tc := t_api_State) r3 (.own _ _ rfl) ?_); refine Q_run SV 1 rfl ?_; obtain ⟨y4, hy4, hF⟩ := bB hF
 refine R_stepX trivial (X_subO (tc := t_api_State) r3 rfl rfl rfl hy4 rfl ?_); refine QV rfl ?_; cases hF
 exact W_ret ⟨_, _, (S_ren (24,0) (902,600) rfl rfl S_refl), _, rfl, rfl, ⟨rfl, ⟨rfl, fun _ => rfl⟩, trivial⟩, (AgM.weak ⟨rfl, trivial⟩)⟩
def tracebookref49_SameInts_L1 (p0 : (List Int)) (p1 : (List Int)) : Int → Option (Int ⊕ (Unit ⊕ Bool)) := fun a12 =>
  (bif (decide (a12 < (List.length p0 : Int))) then ((idx p0 a12).bind fun y17 => ((idx p1 a12).bind fun y18 => (bif (!decide (y17 = y18)) then some (.inr (.inr false)) else some (.inl (w64 (a12 + 1)))))) else some (.inr (.inl ())))
def tracebookref49_SameInts (p0 : (List Int)) (p1 : (List Int)) : Option Bool :=
  (bif (!decide ((List.length p0 : Int) = (List.length p1 : Int))) then some false else ((loop (tracebookref49_SameInts_L1 p0 p1) 0).bind fun | .inl _ => some true | .inr rv => some rv))
theorem tracebookref49_SameInts_fun (p0 : (List Int)) (p1 : (List Int)) (r : Bool) (hF : tracebookref49_SameInts p0 p1 = some r) : Fun Tryz.prog 17 true [] [cL 1 t_i64 p0, cL 1 t_i64 p1] noHeap (cB r) noHeap := by
 refine Fun.of_walk0 Tryz.func17 c17 (by kernel_rfl) (rs := [.tmp 4]) (by kernel_rfl) ?_; unfold v17
 unfold tracebookref49_SameInts at hF
 refine wA rfl ?_; refine W_seq ?_; refine wC 1 rfl ?_; refine rS (T_len (tc := t_i64) p0 .tree ?_); refine Q_run SV 1 rfl ?_; refine rS (T_len (tc := t_i64) p1 .tree ?_); refine QV rfl ?_; refine wIf hF rfl (fun _ hF => ?_) fun _ hF => ?_
 · refine wA rfl ?_; cases hF
   exact W_ret wR
 refine W_skip ?_; refine W_seq ?_; refine wA rfl ?_; refine W_for (fun _ _ h => h) hF (.inl) (fun a12 => [(0, cL 1 t_i64 p0), (1, cL 1 t_i64 p1), (5, cI a12)]) (fun a12 => []) (fun _ => []) (fun _ => []) sw ?_ ?_
 · rintro ⟨⟩ hF
   refine wA rfl ?_; cases hF
   exact W_ret wR
 rintro a12 x_0 hF cont_0 brk_0 fin_0
 unfold tracebookref49_SameInts_L1 at hF
 refine W_seq ?_; refine wC 2 rfl ?_; refine rS (T_len (tc := t_i64) p0 .tree ?_); refine QV rfl ?_; refine wIf hF rfl (fun _ hF => ?_) fun _ hF => ?_
 · refine W_skip ?_; refine W_seq ?_; refine W_block ?_; refine W_seq ?_; refine W_regD (by decide) (by kernel_rfl) rfl ?_; refine Q_run SP 2 rfl ?_; obtain ⟨y17, hy17, hF⟩ := bB hF
   refine R_step SP trivial (T_ixT (tc := t_i64) p0 rfl rfl hy17 ?_); refine Q_run SP 3 rfl ?_; obtain ⟨y18, hy18, hF⟩ := bB hF
   refine R_step SP trivial (T_ixT (tc := t_i64) p1 rfl rfl hy18 ?_); refine QP rfl ?_; refine wIf hF rfl (fun _ hF => ?_) fun _ hF => ?_
   · refine wA rfl ?_; have hF := fin_0 _ (oi hF); cases hF
     exact W_ret wR
   refine W_skip ?_; refine wB rfl ?_; exact cont_0 _ _ _ (oi hF) sw
 refine W_exit ?_; refine thenQ_exit ?_; refine thenQ_exit ?_; refine blockQ_hit ?_; exact brk_0 _ _ _ (oi hF) sw
def math_bits_Len (p0 : Int) : Option Int :=
  ((math_bits_Len64 p0).bind fun r1 => some r1)
theorem math_bits_Len_fun (p0 : Int) (r : Int) (hF : math_bits_Len p0 = some r) : Fun Tryz.prog 42 true [] [.c (.imm (.sc (.int .u64 p0)))] noHeap (cI r) noHeap := by
 refine Fun.of_walk0 Tryz.func42 c42 (by kernel_rfl) (rs := [.tmp 2]) (by kernel_rfl) ?_; unfold v42
 unfold math_bits_Len at hF
 refine wA rfl ?_; refine W_seq ?_; refine W_condL (t := false) rfl (fun h => (by cases h)) (fun h => ?_)
 refine W_skip ?_; refine wC 1 rfl ?_; obtain ⟨r1, hr1, hF⟩ := bB hF
 refine rS (T_call (math_bits_Len64_fun _ _ hr1) ⟨rfl, trivial⟩ rfl (.inl rfl) ?_); refine QV rfl ?_; cases hF
 exact W_ret wR
def latency_Histogram_L1 (r72 : Int) : (List Int) → Option ((List Int) ⊕ (List Int)) := fun a80 =>
  (bif (decide ((List.length a80 : Int) ≤ r72)) then (bif room 8 (List.length a80 + List.length [0]) then some (.inl (a80 ++ [0])) else none) else some (.inr a80))
def latency_Histogram_L2 (p0 : (List Int)) : ((List Int) × Int) → Option (((List Int) × Int) ⊕ (List Int)) := fun (a47, a48) =>
  (bif (decide (a48 < (List.length p0 : Int))) then ((((idx p0 a48).bind fun y71 => (bif (decide (y71 < 0)) then some a47 else ((math_bits_Len (IntKind.wrap .u64 y71)).bind fun r72 => ((loop (latency_Histogram_L1 r72) a47).bind fun e83 => ((idx e83 r72).bind fun y84 => ((idx e83 r72).bind fun y85 => some (List.set e83 (Int.toNat r72) (w64 (y84 + 1))))))))) : Option (List Int)).bind fun v70 => some (.inl (v70, (w64 (a48 + 1))))) else some (.inr a47))
def latency_Histogram (p0 : (List Int)) : Option (List Int) :=
  ((loop (latency_Histogram_L2 p0) ([], 0)).bind fun e69 => some e69)
theorem latency_Histogram_fun (p0 : (List Int)) (r : (List Int)) (hF : latency_Histogram p0 = some r) : Fun Tryz.prog 21 false [] [cL 1 t_i64 p0] (heapOf []) (cO (902,840)) (heapOf [((902,840), .arr 3 1 (List.map t_i64 r))]) := by
 refine Fun.of_walkM [] (some []) Tryz.func21 c21 (by kernel_rfl) (rs := [.tmp 2]) (by kernel_rfl) rfl rfl rfl ?_; unfold v21
 unfold latency_Histogram at hF
 refine wA rfl ?_; refine wA rfl ?_; refine W_seq ?_; refine wC 1 rfl ?_; refine rS (T_len (tc := t_i64) p0 .tree ?_); refine QV rfl ?_; refine W_for (fun _ _ h => h) hF (id) (fun (a47, a48) => [(3, cO (24,1)), (7, cL 1 t_i64 p0), (8, cI (List.length p0 : Int)), (9, cI a48)]) (fun (a47, a48) => [((24,1), .arr 3 1 (List.map t_i64 a47))]) (fun e69 => [(3, cO (24,1))]) (fun e69 => [((24,1), .arr 3 1 (List.map t_i64 e69))]) (S_own 3 (24,1) 3 1 rfl rfl rfl rfl sw) ?_ ?_
 · rintro e69 hF
   refine wA rfl ?_; cases hF
   exact W_ret ⟨_, _, (S_ren (24,1) (902,840) rfl rfl S_refl), _, rfl, rfl, rfl, (AgM.weak ⟨rfl, trivial⟩)⟩
 rintro ⟨a47, a48⟩ x_0 hF cont_0 brk_0 fin_0
 unfold latency_Histogram_L2 at hF
 refine wA rfl ?_; refine W_seq ?_; refine wIf hF rfl (fun _ hF => ?_) fun _ hF => ?_
 · refine W_skip ?_; refine W_seq ?_; refine W_join (fun _ _ h => h) hF (fun v70 => [(3, cO (24,1)), (7, cL 1 t_i64 p0), (8, cI (List.length p0 : Int)), (9, cI a48)]) (fun v70 => [((24,1), .arr 3 1 (List.map t_i64 v70))]) ?_ ?_
   · rintro v70 hF
     refine wB rfl ?_; exact cont_0 _ _ _ (oi hF) sw
   intro join hF
   refine W_block ?_; refine wE ?_; obtain ⟨y71, hy71, hF⟩ := bB' hF
   refine rS (T_ixT (tc := t_i64) p0 rfl rfl hy71 ?_); refine QV rfl ?_; refine W_seq ?_; refine wA rfl ?_; refine wIf' hF rfl (fun _ hF => ?_) fun _ hF => ?_
   · refine W_exit ?_; refine thenQ_exit ?_; refine blockQ_hit ?_; exact join a47 _ _ hF sw
   refine W_skip ?_; refine wC 2 rfl ?_; obtain ⟨r72, hr72, hF⟩ := bB' hF
   refine rS (T_call (math_bits_Len_fun _ _ hr72) ⟨rfl, trivial⟩ rfl (.inl rfl) ?_); refine QV rfl ?_; refine W_seq ?_; have hF := bA hF; refine W_for (fun _ _ h => h) hF (id) (fun a80 => [(3, cO (24,1)), (6, cI r72), (7, cL 1 t_i64 p0), (8, cI (List.length p0 : Int)), (9, cI a48)]) (fun a80 => [((24,1), .arr 3 1 (List.map t_i64 a80))]) (fun e83 => [(3, cO (24,1)), (6, cI r72), (7, cL 1 t_i64 p0), (8, cI (List.length p0 : Int)), (9, cI a48)]) (fun e83 => [((24,1), .arr 3 1 (List.map t_i64 e83))]) sw ?_ ?_
   · rintro e83 hF
     refine wD 2 rfl ?_; obtain ⟨y84, hy84, hF⟩ := bB' hF
     refine rS (T_ixO (tc := t_i64) e83 rfl rfl rfl hy84 ?_); refine rS (T_ldE (tc := t_i64) e83 rfl rfl (idx_get hy84).2.1 rfl ?_); refine Q_run SV 1 rfl ?_; obtain ⟨y85, hy85, hF⟩ := bB' hF
     refine rS (T_ixO (tc := t_i64) e83 rfl rfl rfl hy85 ?_); refine rS (T_stE (tc := t_i64) e83 (w64 (y84 + 1)) rfl rfl (idx_get hy85).2.1 rfl rfl rfl rfl rfl ?_); refine QV rfl ?_; exact join (List.set e83 (Int.toNat r72) (w64 (y84 + 1))) _ _ hF sw
   rintro a80 x_1 hF cont_1 brk_1 fin_1
   unfold latency_Histogram_L1 at hF
   refine W_seq ?_; refine wC 1 rfl ?_; refine rS (T_len (tc := t_i64) a80 (.own _ _ rfl) ?_); refine QV rfl ?_; refine wIf hF rfl (fun _ hF => ?_) fun _ hF => ?_
   · refine W_skip ?_; refine W_block ?_; refine wD 1 rfl ?_; refine rS (T_bsl (tc := t_i64) [0] rfl ⟨rfl, trivial⟩ rfl (fun _ => rfl) rfl ?_)
     obtain ⟨h86, hF⟩ := roomT hF
     refine rS (T_appO (tc := t_i64) a80 [0] rfl rfl (.own _ _ rfl) h86 rfl ?_); refine QV rfl ?_; exact cont_1 _ _ _ (oi hF) (S_ren (24,0) (24,1) rfl rfl sw)
   refine W_exit ?_; refine thenQ_exit ?_; refine thenQ_exit ?_; refine blockQ_hit ?_; exact brk_1 _ _ _ (oi hF) sw
 refine W_exit ?_; refine thenQ_exit ?_; refine thenQ_exit ?_; refine blockQ_hit ?_; exact brk_0 _ _ _ (oi hF) sw
def tracebooklaw49_awake  : Option Bool :=
  ((tracebooklaw49_example ).bind fun r1 => ((latency_Of r1 1).bind fun r2 => ((tracebooklaw49_example ).bind fun r3 => ((latency_All r3).bind fun r4 => ((tracebooklaw49_example ).bind fun r5 => ((latency_Quantile r5 1 2).bind fun r6 => ((tracebooklaw49_example ).bind fun r7 => ((latency_Quantile r7 3 2).bind fun r8 => ((tracebooklaw49_example ).bind fun r9 => ((latency_Worst r9 5).bind fun r10 => ((tracebooklaw49_example ).bind fun r11 => ((latency_Of r11 2).bind fun r12 => ((tracebooklaw49_example ).bind fun r13 => ((latency_Worst r13 (-1)).bind fun r14 => ((((tracebookref49_SameInts r2.1 [4]).bind fun r16 => (bif r16 then (bif (decide (r2.2 = 0)) then ((tracebookref49_SameInts r4.1 [4]).bind fun r19 => (bif r19 then (bif (decide (r4.2 = 0)) then (bif (decide (r6.1 = 4)) then (bif (decide (r6.2 = 0)) then (bif (decide (r8.2 = 1)) then (bif (decide ((List.length r10.1 : Int) = 1)) then ((idx r10.1 0).bind fun y26 => (bif (decide (y26.fSpan.fTo = 4)) then (bif (decide (r10.2 = 0)) then (bif (decide (r12.2 = 5)) then (bif (decide (r14.2 = 2)) then ((latency_Histogram [0, 1, 2, 3, 8, (-1)]).bind fun r31 => ((tracebookref49_SameInts r31 [1, 1, 2, 0, 1]).bind fun r32 => some r32)) else some false) else some false) else some false) else some false)) else some false) else some false) else some false) else some false) else some false) else some false)) else some false) else some false)) : Option Bool).bind fun v15 => some v15)))))))))))))))
theorem tracebooklaw49_awake_fun  (r : Bool) (hF : tracebooklaw49_awake  = some r) : Fun Tryz.prog 10 true [] [] noHeap (cB r) noHeap := by
 refine Fun.of_walk0 Tryz.func10 c10 (by kernel_rfl) (rs := [.tmp 0]) (by kernel_rfl) ?_; unfold v10
 unfold tracebooklaw49_awake at hF
 refine wA rfl ?_; refine wE ?_; obtain ⟨r1, hr1, hF⟩ := bB hF
 refine R_stepX trivial (X_callG [((902,1040),(16,1)), ((902,1041),(16,2))] rfl (callN _) (tracebooklaw49_example_fun _ hr1) trivial trivial rfl rfl rfl ?_); obtain ⟨r2, hr2, hF⟩ := bB hF
 refine R_stepX trivial (X_callL [((902,440),(17,1))] rfl (callN _) (latency_Of_fun _ _ _ hr2) trivial ⟨.inr ⟨rfl, rfl, ⟨_, rfl⟩, rfl, ⟨_, rfl⟩, rfl, rfl, rfl, rfl, rfl, trivial⟩, .inr rfl, trivial⟩ rfl rfl rfl rfl ⟨(flatArr fun _ => rfl), trivial⟩ ?_)
 refine QV rfl ?_; refine wE ?_; obtain ⟨r3, hr3, hF⟩ := bB hF
 refine R_stepX trivial (X_callG [((902,1040),(21,1)), ((902,1041),(21,2))] rfl (callN _) (tracebooklaw49_example_fun _ hr3) trivial trivial rfl rfl rfl ?_); obtain ⟨r4, hr4, hF⟩ := bB hF
 refine R_stepX trivial (X_callL [((902,520),(22,1))] rfl (callN _) (latency_All_fun _ _ hr4) trivial ⟨.inr ⟨rfl, rfl, ⟨_, rfl⟩, rfl, ⟨_, rfl⟩, rfl, rfl, rfl, rfl, rfl, trivial⟩, trivial⟩ rfl rfl rfl rfl ⟨(flatArr fun _ => rfl), trivial⟩ ?_)
 refine QV rfl ?_; refine wE ?_; obtain ⟨r5, hr5, hF⟩ := bB hF
 refine R_stepX trivial (X_callG [((902,1040),(26,1)), ((902,1041),(26,2))] rfl (callN _) (tracebooklaw49_example_fun _ hr5) trivial trivial rfl rfl rfl ?_); obtain ⟨r6, hr6, hF⟩ := bB hF
 refine rS (T_call (latency_Quantile_fun _ _ _ _ hr6) ⟨⟨rfl, rfl, ⟨_, rfl⟩, rfl, ⟨_, rfl⟩, rfl, rfl, rfl, rfl, rfl, trivial⟩, rfl, rfl, trivial⟩ rfl (.inl rfl) ?_); refine QV rfl ?_; refine wE ?_; obtain ⟨r7, hr7, hF⟩ := bB hF
 refine R_stepX trivial (X_callG [((902,1040),(31,1)), ((902,1041),(31,2))] rfl (callN _) (tracebooklaw49_example_fun _ hr7) trivial trivial rfl rfl rfl ?_); obtain ⟨r8, hr8, hF⟩ := bB hF
 refine rS (T_call (latency_Quantile_fun _ _ _ _ hr8) ⟨⟨rfl, rfl, ⟨_, rfl⟩, rfl, ⟨_, rfl⟩, rfl, rfl, rfl, rfl, rfl, trivial⟩, rfl, rfl, trivial⟩ rfl (.inl rfl) ?_); refine QV rfl ?_; refine wE ?_; obtain ⟨r9, hr9, hF⟩ := bB hF
 refine R_stepX trivial (X_callG [((902,1040),(36,1)), ((902,1041),(36,2))] rfl (callN _) (tracebooklaw49_example_fun _ hr9) trivial trivial rfl rfl rfl ?_); obtain ⟨r10, hr10, hF⟩ := bB hF
 refine R_stepX trivial (X_callL [((902,600),(37,1))] rfl (callN _) (latency_Worst_fun _ _ _ hr10) trivial ⟨.inr ⟨rfl, rfl, ⟨_, rfl⟩, rfl, ⟨_, rfl⟩, rfl, rfl, rfl, rfl, rfl, trivial⟩, .inr rfl, trivial⟩ rfl rfl rfl rfl ⟨(flatArr fun _ => rfl), trivial⟩ ?_)
 refine QV rfl ?_; refine wE ?_; obtain ⟨r11, hr11, hF⟩ := bB hF
 refine R_stepX trivial (X_callG [((902,1040),(41,1)), ((902,1041),(41,2))] rfl (callN _) (tracebooklaw49_example_fun _ hr11) trivial trivial rfl rfl rfl ?_); obtain ⟨r12, hr12, hF⟩ := bB hF
 refine R_stepX trivial (X_callL [((902,440),(42,1))] rfl (callN _) (latency_Of_fun _ _ _ hr12) trivial ⟨.inr ⟨rfl, rfl, ⟨_, rfl⟩, rfl, ⟨_, rfl⟩, rfl, rfl, rfl, rfl, rfl, trivial⟩, .inr rfl, trivial⟩ rfl rfl rfl rfl ⟨(flatArr fun _ => rfl), trivial⟩ ?_)
 refine QV rfl ?_; refine wE ?_; obtain ⟨r13, hr13, hF⟩ := bB hF
 refine R_stepX trivial (X_callG [((902,1040),(46,1)), ((902,1041),(46,2))] rfl (callN _) (tracebooklaw49_example_fun _ hr13) trivial trivial rfl rfl rfl ?_); obtain ⟨r14, hr14, hF⟩ := bB hF
 refine R_stepX trivial (X_callL [((902,600),(47,1))] rfl (callN _) (latency_Worst_fun _ _ _ hr14) trivial ⟨.inr ⟨rfl, rfl, ⟨_, rfl⟩, rfl, ⟨_, rfl⟩, rfl, rfl, rfl, rfl, rfl, trivial⟩, .inr rfl, trivial⟩ rfl rfl rfl rfl ⟨(flatArr fun _ => rfl), trivial⟩ ?_)
 refine QV rfl ?_; refine W_seq ?_; refine W_join (fun _ _ h => h) hF (fun v15 => [(0, cB v15)]) (fun v15 => []) ?_ ?_
 · rintro v15 hF
   cases hF
   exact W_ret wR
 intro join hF
 refine wD 1 rfl ?_; refine rS (T_bsl (tc := t_i64) [4] rfl ⟨rfl, trivial⟩ rfl (fun _ => rfl) rfl ?_)
 obtain ⟨r16, hr16, hF⟩ := bB' hF
 refine rS (T_call (tracebookref49_SameInts_fun _ _ _ hr16) ⟨⟨_, rfl⟩, ⟨_, rfl⟩, trivial⟩ rfl (.inl rfl) ?_); refine Q_run SV 1 rfl ?_; cases h17 : r16
 · have hF := bF' h17 hF; refine QV rfl ?_; exact join false _ _ hF sw
 have hF := bT' h17 hF; refine Q_run SV 4 rfl ?_; cases h18 : (decide (r2.2 = 0))
 · have hF := bF' h18 hF; refine QV rfl ?_; exact join false _ _ hF sw
 have hF := bT' h18 hF; refine Q_run SV 1 rfl ?_; refine R_step SV rfl (T_bsl (tc := t_i64) [4] rfl ⟨rfl, trivial⟩ rfl (fun _ => rfl) rfl ?_)
 obtain ⟨r19, hr19, hF⟩ := bB' hF
 refine R_step SV rfl (T_call (tracebookref49_SameInts_fun _ _ _ hr19) ⟨⟨_, rfl⟩, ⟨_, rfl⟩, trivial⟩ rfl (.inl rfl) ?_); refine Q_run SV 2 rfl ?_; cases h20 : r19
 · have hF := bF' h20 hF; refine QV rfl ?_; exact join false _ _ hF sw
 have hF := bT' h20 hF; refine Q_run SV 4 rfl ?_; cases h21 : (decide (r4.2 = 0))
 · have hF := bF' h21 hF; refine QV rfl ?_; exact join false _ _ hF sw
 have hF := bT' h21 hF; refine Q_run SV 4 rfl ?_; cases h22 : (decide (r6.1 = 4))
 · have hF := bF' h22 hF; refine QV rfl ?_; exact join false _ _ hF sw
 have hF := bT' h22 hF; refine Q_run SV 4 rfl ?_; cases h23 : (decide (r6.2 = 0))
 · have hF := bF' h23 hF; refine QV rfl ?_; exact join false _ _ hF sw
 have hF := bT' h23 hF; refine Q_run SV 4 rfl ?_; cases h24 : (decide (r8.2 = 1))
 · have hF := bF' h24 hF; refine QV rfl ?_; exact join false _ _ hF sw
 have hF := bT' h24 hF; refine Q_run SV 1 rfl ?_; refine R_step SV rfl (T_len (tc := t_api_State) r10.1 (.own _ _ rfl) ?_); refine Q_run SV 3 rfl ?_; cases h25 : (decide ((List.length r10.1 : Int) = 1))
 · have hF := bF' h25 hF; refine QV rfl ?_; exact join false _ _ hF sw
 have hF := bT' h25 hF; refine Q_run SV 1 rfl ?_; obtain ⟨y26, hy26, hF⟩ := bB' hF
 refine R_step SV rfl (T_ixO (tc := t_api_State) r10.1 rfl rfl rfl hy26 ?_); refine Q_run SV 2 rfl ?_; refine R_step SV rfl (T_ldE (tc := t_api_State) r10.1 rfl rfl (idx_get hy26).2.1 rfl ?_); refine Q_run SV 3 rfl ?_
 cases h27 : (decide (y26.fSpan.fTo = 4))
 · have hF := bF' h27 hF; refine QV rfl ?_; exact join false _ _ hF sw
 have hF := bT' h27 hF; refine Q_run SV 4 rfl ?_; cases h28 : (decide (r10.2 = 0))
 · have hF := bF' h28 hF; refine QV rfl ?_; exact join false _ _ hF sw
 have hF := bT' h28 hF; refine Q_run SV 4 rfl ?_; cases h29 : (decide (r12.2 = 5))
 · have hF := bF' h29 hF; refine QV rfl ?_; exact join false _ _ hF sw
 have hF := bT' h29 hF; refine Q_run SV 4 rfl ?_; cases h30 : (decide (r14.2 = 2))
 · have hF := bF' h30 hF; refine QV rfl ?_; exact join false _ _ hF sw
 have hF := bT' h30 hF; refine R_step SV rfl (T_bsl (tc := t_i64) [0, 1, 2, 3, 8, (-1)] rfl ⟨rfl, rfl, rfl, rfl, rfl, rfl, trivial⟩ rfl (fun _ => rfl) rfl ?_)
 obtain ⟨r31, hr31, hF⟩ := bB' hF
 refine R_stepX rfl (X_callL [((902,840),(105,1))] rfl (callN _) (latency_Histogram_fun _ _ hr31) trivial ⟨.inr ⟨_, rfl⟩, trivial⟩ rfl rfl rfl rfl ⟨(flatArr fun _ => rfl), trivial⟩ ?_)
 refine R_step SV rfl (T_bsl (tc := t_i64) [1, 1, 2, 0, 1] rfl ⟨rfl, rfl, rfl, rfl, rfl, trivial⟩ rfl (fun _ => rfl) rfl ?_)
 obtain ⟨r32, hr32, hF⟩ := bB' hF
 refine R_step SV rfl (T_call (tracebookref49_SameInts_fun _ _ _ hr32) ⟨⟨_, rfl⟩, ⟨_, rfl⟩, trivial⟩ rfl (.inl rfl) ?_); refine QV rfl ?_; exact join r32 _ _ hF sw
def tracebookref06_letter_L1 (p0 : Int) : Int → Option (Int ⊕ (Unit ⊕ Bool)) := fun a11 =>
  (bif (decide (a11 < (ByteArray.size ⟨#[95, 46, 58, 47, 60, 62, 36, 42, 126, 45]⟩ : Int))) then ((idx (ByteArray.data ⟨#[95, 46, 58, 47, 60, 62, 36, 42, 126, 45]⟩).toList a11).bind fun y15 => (bif (decide ((UInt8.toNat y15 : Int) = p0)) then some (.inr (.inr true)) else some (.inl (w64 (a11 + 1))))) else some (.inr (.inl ())))
def tracebookref06_letter (p0 : Int) : Option Bool :=
  (((bif (decide (97 ≤ p0)) then (bif (decide (p0 ≤ 122)) then some true else (bif (decide (65 ≤ p0)) then (bif (decide (p0 ≤ 90)) then some true else (bif (decide (48 ≤ p0)) then some (decide (p0 ≤ 57)) else some false)) else (bif (decide (48 ≤ p0)) then some (decide (p0 ≤ 57)) else some false))) else (bif (decide (65 ≤ p0)) then (bif (decide (p0 ≤ 90)) then some true else (bif (decide (48 ≤ p0)) then some (decide (p0 ≤ 57)) else some false)) else (bif (decide (48 ≤ p0)) then some (decide (p0 ≤ 57)) else some false))) : Option Bool).bind fun v1 => (bif v1 then some true else ((loop (tracebookref06_letter_L1 p0) 0).bind fun | .inl _ => some false | .inr rv => some rv)))
theorem tracebookref06_letter_fun (p0 : Int) (r : Bool) (hF : tracebookref06_letter p0 = some r) : Fun Tryz.prog 149 true [] [.c (.imm (.sc (.int .u8 p0)))] noHeap (cB r) noHeap := by
 refine Fun.of_walk0 Tryz.func149 c149 (by kernel_rfl) (rs := [.tmp 2]) (by kernel_rfl) ?_; unfold v149
 unfold tracebookref06_letter at hF
 refine wA rfl ?_; refine W_seq ?_; refine W_seq ?_; refine W_join (fun _ _ h => h) hF (fun v1 => [(0, .c (.imm (.sc (.int .u8 p0)))), (26, cB v1)]) (fun v1 => []) ?_ ?_
 · rintro v1 hF
   refine wIf hF rfl (fun _ hF => ?_) fun _ hF => ?_
   · refine wA rfl ?_; cases hF
     exact W_ret wR
   refine W_skip ?_; refine wA rfl ?_; refine W_seq ?_; refine wA rfl ?_; refine W_for (fun _ _ h => h) hF (.inl) (fun a11 => [(0, .c (.imm (.sc (.int .u8 p0)))), (3, .c (jS ⟨#[95, 46, 58, 47, 60, 62, 36, 42, 126, 45]⟩)), (4, cI a11)]) (fun a11 => []) (fun _ => []) (fun _ => []) sw ?_ ?_
   · rintro ⟨⟩ hF
     refine wA rfl ?_; cases hF
     exact W_ret wR
   rintro a11 x_0 hF cont_0 brk_0 fin_0
   unfold tracebookref06_letter_L1 at hF
   refine W_seq ?_; refine wA rfl ?_; refine wIf hF rfl (fun _ hF => ?_) fun _ hF => ?_
   · refine W_skip ?_; refine W_seq ?_; refine W_block ?_; refine wC 2 rfl ?_; obtain ⟨y15, hy15, hF⟩ := bB hF
     refine rS (T_ixS ⟨#[95, 46, 58, 47, 60, 62, 36, 42, 126, 45]⟩ rfl rfl hy15 ?_); refine QV rfl ?_; refine wIf hF rfl (fun _ hF => ?_) fun _ hF => ?_
     · refine wA rfl ?_; have hF := fin_0 _ (oi hF); cases hF
       exact W_ret wR
     refine W_skip ?_; refine wB rfl ?_; exact cont_0 _ _ _ (oi hF) sw
   refine W_exit ?_; refine thenQ_exit ?_; refine thenQ_exit ?_; refine blockQ_hit ?_; exact brk_0 _ _ _ (oi hF) sw
 intro join hF
 refine wD 3 rfl ?_; cases h19 : (decide (97 ≤ p0))
 · have hF := bF' h19 hF; refine Q_run SV 7 rfl ?_; cases h20 : (decide (65 ≤ p0))
   · have hF := bF' h20 hF; refine Q_run SV 8 rfl ?_; cases h21 : (decide (48 ≤ p0))
     · have hF := bF' h21 hF; refine QV rfl ?_; exact join false _ _ hF sw
     have hF := bT' h21 hF; refine QV rfl ?_; exact join (decide (p0 ≤ 57)) _ _ hF sw
   have hF := bT' h20 hF; refine Q_run SV 5 rfl ?_; cases h22 : (decide (p0 ≤ 90))
   · have hF := bF' h22 hF; refine Q_run SV 3 rfl ?_; cases h23 : (decide (48 ≤ p0))
     · have hF := bF' h23 hF; refine QV rfl ?_; exact join false _ _ hF sw
     have hF := bT' h23 hF; refine QV rfl ?_; exact join (decide (p0 ≤ 57)) _ _ hF sw
   have hF := bT' h22 hF; refine QV rfl ?_; exact join true _ _ hF sw
 have hF := bT' h19 hF; refine Q_run SV 4 rfl ?_; cases h24 : (decide (p0 ≤ 122))
 · have hF := bF' h24 hF; refine Q_run SV 3 rfl ?_; cases h25 : (decide (65 ≤ p0))
   · have hF := bF' h25 hF; refine Q_run SV 8 rfl ?_; cases h26 : (decide (48 ≤ p0))
     · have hF := bF' h26 hF; refine QV rfl ?_; exact join false _ _ hF sw
     have hF := bT' h26 hF; refine QV rfl ?_; exact join (decide (p0 ≤ 57)) _ _ hF sw
   have hF := bT' h25 hF; refine Q_run SV 5 rfl ?_; cases h27 : (decide (p0 ≤ 90))
   · have hF := bF' h27 hF; refine Q_run SV 3 rfl ?_; cases h28 : (decide (48 ≤ p0))
     · have hF := bF' h28 hF; refine QV rfl ?_; exact join false _ _ hF sw
     have hF := bT' h28 hF; refine QV rfl ?_; exact join (decide (p0 ≤ 57)) _ _ hF sw
   have hF := bT' h27 hF; refine QV rfl ?_; exact join true _ _ hF sw
 have hF := bT' h24 hF; refine QV rfl ?_; exact join true _ _ hF sw
def tracebookref06_Name_L1 (p0 : ByteArray) : Int → Option (Int ⊕ (Unit ⊕ Int)) := fun a13 =>
  (bif (decide (a13 < (ByteArray.size p0 : Int))) then ((idx (ByteArray.data p0).toList a13).bind fun y18 => ((tracebookref06_letter (UInt8.toNat y18 : Int)).bind fun r19 => (bif (!r19) then some (.inr (.inr 3)) else some (.inl (w64 (a13 + 1)))))) else some (.inr (.inl ())))
def tracebookref06_Name (p0 : ByteArray) : Option Int :=
  (((bif (decide ((ByteArray.size p0 : Int) < 1)) then some true else some (decide (40 < (ByteArray.size p0 : Int)))) : Option Bool).bind fun v1 => (bif v1 then some 3 else ((loop (tracebookref06_Name_L1 p0) 0).bind fun | .inl _ => some 0 | .inr rv => some rv)))
theorem tracebookref06_Name_fun (p0 : ByteArray) (r : Int) (hF : tracebookref06_Name p0 = some r) : Fun Tryz.prog 128 true [] [.c (jS p0)] noHeap (cI r) noHeap := by
 refine Fun.of_walk0 Tryz.func128 c128 (by kernel_rfl) (rs := [.tmp 2]) (by kernel_rfl) ?_; unfold v128
 unfold tracebookref06_Name at hF
 refine wA rfl ?_; refine W_seq ?_; refine W_seq ?_; refine W_join (fun _ _ h => h) hF (fun v1 => [(0, .c (jS p0)), (11, cB v1)]) (fun v1 => []) ?_ ?_
 · rintro v1 hF
   refine wIf hF rfl (fun _ hF => ?_) fun _ hF => ?_
   · refine wA rfl ?_; cases hF
     exact W_ret wR
   refine W_skip ?_; refine W_seq ?_; refine wA rfl ?_; refine W_for (fun _ _ h => h) hF (.inl) (fun a13 => [(0, .c (jS p0)), (3, cI a13)]) (fun a13 => []) (fun _ => []) (fun _ => []) sw ?_ ?_
   · rintro ⟨⟩ hF
     refine wA rfl ?_; cases hF
     exact W_ret wR
   rintro a13 x_0 hF cont_0 brk_0 fin_0
   unfold tracebookref06_Name_L1 at hF
   refine W_seq ?_; refine wA rfl ?_; refine wIf hF rfl (fun _ hF => ?_) fun _ hF => ?_
   · refine W_skip ?_; refine W_seq ?_; refine W_block ?_; refine wC 2 rfl ?_; obtain ⟨y18, hy18, hF⟩ := bB hF
     refine rS (T_ixS p0 rfl rfl hy18 ?_); obtain ⟨r19, hr19, hF⟩ := bB hF
     refine rS (T_call (tracebookref06_letter_fun _ _ hr19) ⟨rfl, trivial⟩ rfl (.inl rfl) ?_); refine QV rfl ?_; refine wIf hF rfl (fun _ hF => ?_) fun _ hF => ?_
     · refine wA rfl ?_; have hF := fin_0 _ (oi hF); cases hF
       exact W_ret wR
     refine W_skip ?_; refine wB rfl ?_; exact cont_0 _ _ _ (oi hF) sw
   refine W_exit ?_; refine thenQ_exit ?_; refine thenQ_exit ?_; refine blockQ_hit ?_; exact brk_0 _ _ _ (oi hF) sw
 intro join hF
 refine wD 4 rfl ?_; cases h23 : (decide ((ByteArray.size p0 : Int) < 1))
 · have hF := bF' h23 hF; refine QV rfl ?_; exact join (decide (40 < (ByteArray.size p0 : Int))) _ _ hF sw
 have hF := bT' h23 hF; refine QV rfl ?_; exact join true _ _ hF sw
def tracebookref10_Thread (p0 : api_Thread) : Option Int :=
  (((bif (decide (p0.fId < 0)) then some true else (bif (decide (1000000000000000 < p0.fId)) then some true else (bif (decide (p0.fDomain < 0)) then some true else some (decide (8 ≤ p0.fDomain))))) : Option Bool).bind fun v1 => (bif v1 then some 2 else ((tracebookref06_Name p0.fName).bind fun r2 => some r2)))
theorem tracebookref10_Thread_fun (p0 : api_Thread) (r : Int) (hF : tracebookref10_Thread p0 = some r) : Fun Tryz.prog 92 true [] [.agg (m_api_Thread p0)] noHeap (cI r) noHeap := by
 refine Fun.of_walk0 Tryz.func92 c92 (by kernel_rfl) (rs := [.tmp 2]) (by kernel_rfl) ?_; unfold v92
 unfold tracebookref10_Thread at hF
 refine wA rfl ?_; refine W_seq ?_; refine W_seq ?_; refine W_join (fun _ _ h => h) hF (fun v1 => [(1, cP (1,0) 0), (20, cB v1)]) (fun v1 => [((1,0), .box (m_api_Thread p0))]) ?_ ?_
 · rintro v1 hF
   refine wIf hF rfl (fun _ hF => ?_) fun _ hF => ?_
   · refine wA rfl ?_; cases hF
     exact W_ret wR
   refine W_skip ?_; refine wC 2 rfl ?_; obtain ⟨r2, hr2, hF⟩ := bB hF
   refine rS (T_call (tracebookref06_Name_fun _ _ hr2) ⟨rfl, trivial⟩ rfl (.inl rfl) ?_); refine QV rfl ?_; cases hF
   exact W_ret wR
 intro join hF
 refine wD 4 rfl ?_; cases h4 : (decide (p0.fId < 0))
 · have hF := bF' h4 hF; refine Q_run SV 5 rfl ?_; cases h5 : (decide (1000000000000000 < p0.fId))
   · have hF := bF' h5 hF; refine Q_run SV 5 rfl ?_; cases h6 : (decide (p0.fDomain < 0))
     · have hF := bF' h6 hF; refine QV rfl ?_; exact join (decide (8 ≤ p0.fDomain)) _ _ hF sw
     have hF := bT' h6 hF; refine QV rfl ?_; exact join true _ _ hF sw
   have hF := bT' h5 hF; refine QV rfl ?_; exact join true _ _ hF sw
 have hF := bT' h4 hF; refine QV rfl ?_; exact join true _ _ hF sw
def tracebookref04_Valid (p0 : api_Span) : Option Bool :=
  (((bif (decide (0 ≤ p0.fFrom)) then (bif (decide (p0.fFrom < p0.fTo)) then some (decide (p0.fTo ≤ 1000000000000)) else some false) else some false) : Option Bool).bind fun v1 => some v1)
theorem tracebookref04_Valid_fun (p0 : api_Span) (r : Bool) (hF : tracebookref04_Valid p0 = some r) : Fun Tryz.prog 136 true [] [.agg [jI p0.fFrom, jI p0.fTo]] noHeap (cB r) noHeap := by
 refine Fun.of_walk0 Tryz.func136 c136 (by kernel_rfl) (rs := [.tmp 2]) (by kernel_rfl) ?_; unfold v136
 unfold tracebookref04_Valid at hF
 refine wA rfl ?_; refine W_seq ?_; refine W_join (fun _ _ h => h) hF (fun v1 => [(2, cB v1)]) (fun v1 => []) ?_ ?_
 · rintro v1 hF
   cases hF
   exact W_ret wR
 intro join hF
 refine wD 4 rfl ?_; cases h2 : (decide (0 ≤ p0.fFrom))
 · have hF := bF' h2 hF; refine QV rfl ?_; exact join false _ _ hF sw
 have hF := bT' h2 hF; refine Q_run SV 7 rfl ?_; cases h3 : (decide (p0.fFrom < p0.fTo))
 · have hF := bF' h3 hF; refine QV rfl ?_; exact join false _ _ hF sw
 have hF := bT' h3 hF; refine QV rfl ?_; exact join (decide (p0.fTo ≤ 1000000000000)) _ _ hF sw
def tracebookref26_Precedes (p0 : api_Slice) (p1 : api_Slice) : Option Bool :=
  (bif (!decide (p0.fSpan.fFrom = p1.fSpan.fFrom)) then some (decide (p0.fSpan.fFrom < p1.fSpan.fFrom)) else (bif (!decide (p0.fSpan.fTo = p1.fSpan.fTo)) then some (decide (p1.fSpan.fTo < p0.fSpan.fTo)) else some (decide (p0.fThread < p1.fThread))))
theorem tracebookref26_Precedes_fun (p0 : api_Slice) (p1 : api_Slice) (r : Bool) (hF : tracebookref26_Precedes p0 p1 = some r) : Fun Tryz.prog 150 true [] [.agg (m_api_Slice p0), .agg (m_api_Slice p1)] noHeap (cB r) noHeap := by
 refine Fun.of_walk0 Tryz.func150 c150 (by kernel_rfl) (rs := [.tmp 4]) (by kernel_rfl) ?_; unfold v150
 unfold tracebookref26_Precedes at hF
 refine wA rfl ?_; refine W_seq ?_; refine W_block ?_; refine wA rfl ?_; refine wIf hF rfl (fun _ hF => ?_) fun _ hF => ?_
 · refine wA rfl ?_; cases hF
   exact W_ret wR
 refine wA rfl ?_; refine wIf hF rfl (fun _ hF => ?_) fun _ hF => ?_
 · refine wA rfl ?_; cases hF
   exact W_ret wR
 refine W_skip ?_; refine wA rfl ?_; cases hF
 exact W_ret wR
def tracebookref26_contains (p0 : api_Span) (p1 : api_Span) : Option Bool :=
  (((bif (decide (p0.fFrom ≤ p1.fFrom)) then some (decide (p1.fTo ≤ p0.fTo)) else some false) : Option Bool).bind fun v1 => some v1)
theorem tracebookref26_contains_fun (p0 : api_Span) (p1 : api_Span) (r : Bool) (hF : tracebookref26_contains p0 p1 = some r) : Fun Tryz.prog 164 true [] [.agg [jI p0.fFrom, jI p0.fTo], .agg [jI p1.fFrom, jI p1.fTo]] noHeap (cB r) noHeap := by
 refine Fun.of_walk0 Tryz.func164 c164 (by kernel_rfl) (rs := [.tmp 4]) (by kernel_rfl) ?_; unfold v164
 unfold tracebookref26_contains at hF
 refine wA rfl ?_; refine W_seq ?_; refine W_join (fun _ _ h => h) hF (fun v1 => [(4, cB v1)]) (fun v1 => []) ?_ ?_
 · rintro v1 hF
   cases hF
   exact W_ret wR
 intro join hF
 refine wD 6 rfl ?_; cases h2 : (decide (p0.fFrom ≤ p1.fFrom))
 · have hF := bF' h2 hF; refine QV rfl ?_; exact join false _ _ hF sw
 have hF := bT' h2 hF; refine QV rfl ?_; exact join (decide (p1.fTo ≤ p0.fTo)) _ _ hF sw
def tracebookref26_above_L1 (p0 : (List api_Slice)) (p1 : Int) : Int → Option (Int ⊕ Int) := fun a12 =>
  (((bif (decide (0 ≤ a12)) then some (decide (p1 < a12)) else some false) : Option Bool).bind fun v18 => (bif v18 then ((idx p0 a12).bind fun y19 => some (.inl y19.fParent)) else some (.inr a12)))
def tracebookref26_above (p0 : (List api_Slice)) (p1 : Int) (p2 : Int) : Option Bool :=
  ((loop (tracebookref26_above_L1 p0 p1) p2).bind fun e17 => some (decide (p1 = e17)))
theorem tracebookref26_above_fun (p0 : (List api_Slice)) (p1 : Int) (p2 : Int) (r : Bool) (hF : tracebookref26_above p0 p1 p2 = some r) : Fun Tryz.prog 165 true [] [cL 8 t_api_Slice p0, cI p1, cI p2] noHeap (cB r) noHeap := by
 refine Fun.of_walk0 Tryz.func165 c165 (by kernel_rfl) (rs := [.tmp 6]) (by kernel_rfl) ?_; unfold v165
 unfold tracebookref26_above at hF
 refine wA rfl ?_; refine W_seq ?_; refine W_for (fun _ _ h => h) hF (id) (fun a12 => [(0, cL 8 t_api_Slice p0), (1, cI p1), (2, cI a12)]) (fun a12 => []) (fun e17 => [(1, cI p1), (2, cI e17)]) (fun e17 => []) sw ?_ ?_
 · rintro e17 hF
   refine wA rfl ?_; cases hF
   exact W_ret wR
 rintro a12 x_0 hF cont_0 brk_0 fin_0
 unfold tracebookref26_above_L1 at hF
 refine W_seq ?_; refine W_seq ?_; refine W_join (fun _ _ h => h) hF (fun v18 => [(0, cL 8 t_api_Slice p0), (1, cI p1), (2, cI a12), (13, cB v18)]) (fun v18 => []) ?_ ?_
 · rintro v18 hF
   refine wIf hF rfl (fun _ hF => ?_) fun _ hF => ?_
   · refine W_skip ?_; refine W_block ?_; refine wD 2 rfl ?_; obtain ⟨y19, hy19, hF⟩ := bB hF
     refine rS (T_ixT (tc := t_api_Slice) p0 rfl rfl hy19 ?_); refine QV rfl ?_; exact cont_0 _ _ _ (oi hF) sw
   refine W_exit ?_; refine thenQ_exit ?_; refine thenQ_exit ?_; refine blockQ_hit ?_; exact brk_0 _ _ _ (oi hF) sw
 intro join hF
 refine wD 3 rfl ?_; cases h21 : (decide (0 ≤ a12))
 · have hF := bF' h21 hF; refine QV rfl ?_; exact join false _ _ hF sw
 have hF := bT' h21 hF; refine QV rfl ?_; exact join (decide (p1 < a12)) _ _ hF sw
def tracebookref26_formed_L1 (p0 : (List api_Slice)) (a259 : Int) : (Int × Int) → Option ((Int × Int) ⊕ (Int ⊕ (Int ⊕ (Unit ⊕ Bool)))) := fun (a402, a403) =>
  (bif (decide (a403 < (List.length p0 : Int))) then ((idx p0 a403).bind fun y427 => (((bif (decide (y427.fParent = a259)) then ((idx p0 a403).bind fun y443 => ((idx p0 a403).bind fun y444 => some (w64 (a402 - (w64 (y443.fSpan.fTo - y444.fSpan.fFrom)))))) else some a402) : Option Int).bind fun v428 => ((((idx p0 a259).bind fun y438 => ((idx p0 a403).bind fun y439 => (bif (decide (y438.fSpan.fFrom < y439.fSpan.fTo)) then ((idx p0 a403).bind fun y441 => ((idx p0 a259).bind fun y442 => some (decide (y441.fSpan.fFrom < y442.fSpan.fTo)))) else some false))) : Option Bool).bind fun v429 => (((bif (decide (a259 < a403)) then ((idx p0 a259).bind fun y433 => ((idx p0 a403).bind fun y434 => (bif (decide (y433.fThread = y434.fThread)) then (bif v429 then ((tracebookref26_above p0 a259 a403).bind fun r437 => some (!r437)) else some false) else some false))) else some false) : Option Bool).bind fun v430 => (bif v430 then some (.inr (.inr (.inr (.inr false)))) else some (.inl (v428, (w64 (a403 + 1))))))))) else some (.inr (.inl a402)))
def tracebookref26_formed_L2 (p0 : (List api_Slice)) : Int → Option (Int ⊕ (Unit ⊕ Bool)) := fun a259 =>
  (bif (decide (a259 < (List.length p0 : Int))) then ((idx p0 a259).bind fun y354 => ((idx p0 a259).bind fun y355 => ((loop (tracebookref26_formed_L1 p0 a259) ((w64 (y354.fSpan.fTo - y355.fSpan.fFrom)), 0)).bind fun | .inl e424 => ((idx p0 a259).bind fun y425 => (bif (!decide (y425.fSelf = e424)) then some (.inr (.inr false)) else some (.inl (w64 (a259 + 1))))) | .inr rv => some rv))) else some (.inr (.inl ())))
def tracebookref26_formed_L3 (p0 : (List api_Slice)) : Int → Option (Int ⊕ (Unit ⊕ Bool)) := fun a46 =>
  (bif (decide (a46 < (List.length p0 : Int))) then ((idx p0 a46).bind fun y448 => (((bif (decide (y448.fParent < (-1))) then some true else some (decide (a46 ≤ y448.fParent))) : Option Bool).bind fun v449 => (bif v449 then some (.inr (.inr false)) else (((bif (decide (y448.fParent = (-1))) then ((idx p0 a46).bind fun y465 => some (!decide (y465.fDepth = 0))) else some false) : Option Bool).bind fun v450 => (bif v450 then some (.inr (.inr false)) else (((bif (decide (0 ≤ y448.fParent)) then ((idx p0 y448.fParent).bind fun y454 => ((idx p0 a46).bind fun y455 => (bif (!decide (y454.fThread = y455.fThread)) then some true else ((idx p0 y448.fParent).bind fun y457 => ((idx p0 a46).bind fun y458 => ((tracebookref26_contains y457.fSpan y458.fSpan).bind fun r459 => (bif (!r459) then some true else ((idx p0 a46).bind fun y461 => ((idx p0 y448.fParent).bind fun y462 => some (!decide (y461.fDepth = (w64 (y462.fDepth + 1))))))))))))) else some false) : Option Bool).bind fun v451 => (bif v451 then some (.inr (.inr false)) else some (.inl (w64 (a46 + 1)))))))))) else some (.inr (.inl ())))
def tracebookref26_formed (p0 : (List api_Slice)) : Option Bool :=
  ((loop (tracebookref26_formed_L3 p0) 0).bind fun | .inl _ => ((loop (tracebookref26_formed_L2 p0) 0).bind fun | .inl _ => some true | .inr rv => some rv) | .inr rv => some rv)
theorem tracebookref26_formed_fun (p0 : (List api_Slice)) (r : Bool) (hF : tracebookref26_formed p0 = some r) : Fun Tryz.prog 151 true [] [cL 8 t_api_Slice p0] noHeap (cB r) noHeap := by
 refine Fun.of_walk0 Tryz.func151 c151 (by kernel_rfl) (rs := [.tmp 2]) (by kernel_rfl) ?_; unfold v151
 unfold tracebookref26_formed at hF
 refine wA rfl ?_; refine W_seq ?_; refine wA rfl ?_; refine W_for (fun _ _ h => h) hF (.inl) (fun a46 => [(0, cL 8 t_api_Slice p0), (3, cI a46)]) (fun a46 => []) (fun _ => [(0, cL 8 t_api_Slice p0)]) (fun _ => []) sw ?_ ?_
 · rintro ⟨⟩ hF
   refine W_seq ?_; refine wA rfl ?_; refine W_for (fun _ _ h => h) hF (.inl) (fun a259 => [(0, cL 8 t_api_Slice p0), (5, cI a259)]) (fun a259 => []) (fun _ => []) (fun _ => []) sw ?_ ?_
   · rintro ⟨⟩ hF
     refine wA rfl ?_; cases hF
     exact W_ret wR
   rintro a259 x_0 hF cont_0 brk_0 fin_0
   unfold tracebookref26_formed_L2 at hF
   refine W_seq ?_; refine wC 2 rfl ?_; refine rS (T_len (tc := t_api_Slice) p0 .tree ?_); refine QV rfl ?_; refine wIf hF rfl (fun _ hF => ?_) fun _ hF => ?_
   · refine W_skip ?_; refine W_seq ?_; refine W_block ?_; refine W_seq ?_; refine W_regD (by decide) (by kernel_rfl) rfl ?_; refine Q_run SP 2 rfl ?_; obtain ⟨y354, hy354, hF⟩ := bB hF
     refine R_step SP trivial (T_ixT (tc := t_api_Slice) p0 rfl rfl hy354 ?_); refine Q_run SP 5 rfl ?_; obtain ⟨y355, hy355, hF⟩ := bB hF
     refine R_step SP trivial (T_ixT (tc := t_api_Slice) p0 rfl rfl hy355 ?_); refine QP rfl ?_; refine W_seq ?_; refine wA rfl ?_; refine W_for (fun _ _ h => h) hF (.inl) (fun (a402, a403) => [(0, cL 8 t_api_Slice p0), (5, cI a259), (6, cI a402), (7, cI a403)]) (fun (a402, a403) => []) (fun e424 => [(0, cL 8 t_api_Slice p0), (5, cI a259), (6, cI e424)]) (fun e424 => []) sw ?_ ?_
     · rintro e424 hF
       refine wC 2 rfl ?_; obtain ⟨y425, hy425, hF⟩ := bB hF
       refine rS (T_ixT (tc := t_api_Slice) p0 rfl rfl hy425 ?_); refine QV rfl ?_; refine wIf hF rfl (fun _ hF => ?_) fun _ hF => ?_
       · refine wA rfl ?_; have hF := fin_0 _ (oi hF); cases hF
         exact W_ret wR
       refine W_skip ?_; refine wB rfl ?_; exact cont_0 _ _ _ (oi hF) sw
     rintro ⟨a402, a403⟩ x_1 hF cont_1 brk_1 fin_1
     unfold tracebookref26_formed_L1 at hF
     refine W_seq ?_; refine wC 2 rfl ?_; refine rS (T_len (tc := t_api_Slice) p0 .tree ?_); refine QV rfl ?_; refine wIf hF rfl (fun _ hF => ?_) fun _ hF => ?_
     · refine W_skip ?_; refine W_seq ?_; refine W_block ?_; refine W_seq ?_; refine wC 2 rfl ?_; obtain ⟨y427, hy427, hF⟩ := bB hF
       refine rS (T_ixT (tc := t_api_Slice) p0 rfl rfl hy427 ?_); refine QV rfl ?_; refine W_join (fun _ _ h => h) hF (fun v428 => [(0, cL 8 t_api_Slice p0), (5, cI a259), (6, cI v428), (7, cI a403)]) (fun v428 => []) ?_ ?_
       · rintro v428 hF
         refine W_seq ?_; refine W_join (fun _ _ h => h) hF (fun v429 => [(0, cL 8 t_api_Slice p0), (5, cI a259), (6, cI v428), (7, cI a403), (8, cB v429)]) (fun v429 => []) ?_ ?_
         · rintro v429 hF
           refine W_seq ?_; refine W_join (fun _ _ h => h) hF (fun v430 => [(0, cL 8 t_api_Slice p0), (5, cI a259), (6, cI v428), (7, cI a403), (180, cB v430)]) (fun v430 => []) ?_ ?_
           · rintro v430 hF
             refine wIf hF rfl (fun _ hF => ?_) fun _ hF => ?_
             · refine wA rfl ?_; have hF := fin_1 _ (oi hF); have hF := fin_0 _ (oi hF); cases hF
               exact W_ret wR
             refine W_skip ?_; refine wB rfl ?_; exact cont_1 _ _ _ (oi hF) sw
           intro join hF
           refine W_regD (by decide) (by kernel_rfl) rfl ?_; refine Q_run SP 4 rfl ?_; cases h432 : (decide (a259 < a403))
           · have hF := bF' h432 hF; refine QP rfl ?_; exact join false _ _ hF sw
           have hF := bT' h432 hF; refine Q_run SP 2 rfl ?_; obtain ⟨y433, hy433, hF⟩ := bB' hF
           refine R_step SP rfl (T_ixT (tc := t_api_Slice) p0 rfl rfl hy433 ?_); refine Q_run SP 4 rfl ?_; obtain ⟨y434, hy434, hF⟩ := bB' hF
           refine R_step SP rfl (T_ixT (tc := t_api_Slice) p0 rfl rfl hy434 ?_); refine Q_run SP 5 rfl ?_; cases h435 : (decide (y433.fThread = y434.fThread))
           · have hF := bF' h435 hF; refine QP rfl ?_; exact join false _ _ hF sw
           have hF := bT' h435 hF; refine Q_run SP 3 rfl ?_; cases h436 : v429
           · have hF := bF' h436 hF; refine QP rfl ?_; exact join false _ _ hF sw
           have hF := bT' h436 hF; refine Q_run SP 3 rfl ?_; obtain ⟨r437, hr437, hF⟩ := bB' hF
           refine R_step SP rfl (T_call (tracebookref26_above_fun _ _ _ _ hr437) ⟨rfl, rfl, rfl, trivial⟩ rfl (.inl rfl) ?_); refine QP rfl ?_; exact join (!r437) _ _ hF sw
         intro join hF
         refine W_regD (by decide) (by kernel_rfl) rfl ?_; refine Q_run SP 2 rfl ?_; obtain ⟨y438, hy438, hF⟩ := bB' hF
         refine R_step SP trivial (T_ixT (tc := t_api_Slice) p0 rfl rfl hy438 ?_); refine Q_run SP 5 rfl ?_; obtain ⟨y439, hy439, hF⟩ := bB' hF
         refine R_step SP trivial (T_ixT (tc := t_api_Slice) p0 rfl rfl hy439 ?_); refine Q_run SP 5 rfl ?_; cases h440 : (decide (y438.fSpan.fFrom < y439.fSpan.fTo))
         · have hF := bF' h440 hF; refine QP rfl ?_; exact join false _ _ hF sw
         have hF := bT' h440 hF; refine Q_run SP 2 rfl ?_; obtain ⟨y441, hy441, hF⟩ := bB' hF
         refine R_step SP rfl (T_ixT (tc := t_api_Slice) p0 rfl rfl hy441 ?_); refine Q_run SP 5 rfl ?_; obtain ⟨y442, hy442, hF⟩ := bB' hF
         refine R_step SP rfl (T_ixT (tc := t_api_Slice) p0 rfl rfl hy442 ?_); refine QP rfl ?_; exact join (decide (y441.fSpan.fFrom < y442.fSpan.fTo)) _ _ hF sw
       intro join hF
       refine wIf' hF rfl (fun _ hF => ?_) fun _ hF => ?_
       · refine W_regD (by decide) (by kernel_rfl) rfl ?_; refine Q_run SP 3 rfl ?_; obtain ⟨y443, hy443, hF⟩ := bB' hF
         refine R_step SP trivial (T_ixT (tc := t_api_Slice) p0 rfl rfl hy443 ?_); refine Q_run SP 5 rfl ?_; obtain ⟨y444, hy444, hF⟩ := bB' hF
         refine R_step SP trivial (T_ixT (tc := t_api_Slice) p0 rfl rfl hy444 ?_); refine QP rfl ?_; exact join (w64 (a402 - (w64 (y443.fSpan.fTo - y444.fSpan.fFrom)))) _ _ hF sw
       refine W_skip ?_; exact join a402 _ _ hF sw
     refine W_exit ?_; refine thenQ_exit ?_; refine thenQ_exit ?_; refine blockQ_hit ?_; exact brk_1 _ _ _ (oi hF) sw
   refine W_exit ?_; refine thenQ_exit ?_; refine thenQ_exit ?_; refine blockQ_hit ?_; exact brk_0 _ _ _ (oi hF) sw
 rintro a46 x_0 hF cont_0 brk_0 fin_0
 unfold tracebookref26_formed_L3 at hF
 refine W_seq ?_; refine wC 2 rfl ?_; refine rS (T_len (tc := t_api_Slice) p0 .tree ?_); refine QV rfl ?_; refine wIf hF rfl (fun _ hF => ?_) fun _ hF => ?_
 · refine W_skip ?_; refine W_seq ?_; refine W_block ?_; refine wC 2 rfl ?_; obtain ⟨y448, hy448, hF⟩ := bB hF
   refine rS (T_ixT (tc := t_api_Slice) p0 rfl rfl hy448 ?_); refine QV rfl ?_; refine W_seq ?_; refine W_seq ?_; refine W_join (fun _ _ h => h) hF (fun v449 => [(0, cL 8 t_api_Slice p0), (3, cI a46), (4, cI y448.fParent), (26, cB v449)]) (fun v449 => []) ?_ ?_
   · rintro v449 hF
     refine wIf hF rfl (fun _ hF => ?_) fun _ hF => ?_
     · refine wA rfl ?_; have hF := fin_0 _ (oi hF); cases hF
       exact W_ret wR
     refine W_skip ?_; refine W_seq ?_; refine W_seq ?_; refine W_join (fun _ _ h => h) hF (fun v450 => [(0, cL 8 t_api_Slice p0), (3, cI a46), (4, cI y448.fParent), (36, cB v450)]) (fun v450 => []) ?_ ?_
     · rintro v450 hF
       refine wIf hF rfl (fun _ hF => ?_) fun _ hF => ?_
       · refine wA rfl ?_; have hF := fin_0 _ (oi hF); cases hF
         exact W_ret wR
       refine W_skip ?_; refine W_seq ?_; refine W_join (fun _ _ h => h) hF (fun v451 => [(0, cL 8 t_api_Slice p0), (3, cI a46), (79, cB v451)]) (fun v451 => []) ?_ ?_
       · rintro v451 hF
         refine wIf hF rfl (fun _ hF => ?_) fun _ hF => ?_
         · refine wA rfl ?_; have hF := fin_0 _ (oi hF); cases hF
           exact W_ret wR
         refine W_skip ?_; refine wB rfl ?_; exact cont_0 _ _ _ (oi hF) sw
       intro join hF
       refine W_regD (by decide) (by kernel_rfl) rfl ?_; refine Q_run SP 3 rfl ?_; cases h453 : (decide (0 ≤ y448.fParent))
       · have hF := bF' h453 hF; refine QP rfl ?_; exact join false _ _ hF sw
       have hF := bT' h453 hF; refine Q_run SP 2 rfl ?_; obtain ⟨y454, hy454, hF⟩ := bB' hF
       refine R_step SP rfl (T_ixT (tc := t_api_Slice) p0 rfl rfl hy454 ?_); refine Q_run SP 4 rfl ?_; obtain ⟨y455, hy455, hF⟩ := bB' hF
       refine R_step SP rfl (T_ixT (tc := t_api_Slice) p0 rfl rfl hy455 ?_); refine Q_run SP 4 rfl ?_; cases h456 : (!decide (y454.fThread = y455.fThread))
       · have hF := bF' h456 hF; refine Q_run SP 2 rfl ?_; obtain ⟨y457, hy457, hF⟩ := bB' hF
         refine R_step SP rfl (T_ixT (tc := t_api_Slice) p0 rfl rfl hy457 ?_); refine Q_run SP 4 rfl ?_; obtain ⟨y458, hy458, hF⟩ := bB' hF
         refine R_step SP rfl (T_ixT (tc := t_api_Slice) p0 rfl rfl hy458 ?_); refine Q_run SP 2 rfl ?_; obtain ⟨r459, hr459, hF⟩ := bB' hF
         refine R_step SP rfl (T_call (tracebookref26_contains_fun _ _ _ hr459) ⟨⟨rfl, rfl, trivial⟩, ⟨rfl, rfl, trivial⟩, trivial⟩ rfl (.inl rfl) ?_); refine Q_run SP 3 rfl ?_; cases h460 : (!r459)
         · have hF := bF' h460 hF; refine Q_run SP 2 rfl ?_; obtain ⟨y461, hy461, hF⟩ := bB' hF
           refine R_step SP rfl (T_ixT (tc := t_api_Slice) p0 rfl rfl hy461 ?_); refine Q_run SP 4 rfl ?_; obtain ⟨y462, hy462, hF⟩ := bB' hF
           refine R_step SP rfl (T_ixT (tc := t_api_Slice) p0 rfl rfl hy462 ?_); refine QP rfl ?_; exact join (!decide (y461.fDepth = (w64 (y462.fDepth + 1)))) _ _ hF sw
         have hF := bT' h460 hF; refine QP rfl ?_; exact join true _ _ hF sw
       have hF := bT' h456 hF; refine QP rfl ?_; exact join true _ _ hF sw
     intro join hF
     refine wD 3 rfl ?_; cases h464 : (decide (y448.fParent = (-1)))
     · have hF := bF' h464 hF; refine QV rfl ?_; exact join false _ _ hF sw
     have hF := bT' h464 hF; refine Q_run SV 2 rfl ?_; obtain ⟨y465, hy465, hF⟩ := bB' hF
     refine R_step SV rfl (T_ixT (tc := t_api_Slice) p0 rfl rfl hy465 ?_); refine QV rfl ?_; exact join (!decide (y465.fDepth = 0)) _ _ hF sw
   intro join hF
   refine wD 3 rfl ?_; cases h467 : (decide (y448.fParent < (-1)))
   · have hF := bF' h467 hF; refine QV rfl ?_; exact join (decide (a46 ≤ y448.fParent)) _ _ hF sw
   have hF := bT' h467 hF; refine QV rfl ?_; exact join true _ _ hF sw
 refine W_exit ?_; refine thenQ_exit ?_; refine thenQ_exit ?_; refine blockQ_hit ?_; exact brk_0 _ _ _ (oi hF) sw
def tracebookref26_Check_L1 (p0 : (List api_Slice)) : Int → Option (Int ⊕ (Unit ⊕ Int)) := fun a40 =>
  (bif (decide (a40 < (List.length p0 : Int))) then ((((idx p0 a40).bind fun y72 => (bif (decide (y72.fThread < 0)) then some true else ((idx p0 a40).bind fun y74 => (bif (decide (1000000000000000 < y74.fThread)) then some true else ((idx p0 a40).bind fun y76 => ((tracebookref04_Valid y76.fSpan).bind fun r77 => some (!r77))))))) : Option Bool).bind fun v61 => (bif v61 then some (.inr (.inr 2)) else ((idx p0 a40).bind fun y62 => ((tracebookref06_Name y62.fName).bind fun r63 => (bif (!decide (r63 = 0)) then some (.inr (.inr r63)) else (((bif (decide (0 < a40)) then ((idx p0 a40).bind fun y67 => ((idx p0 (w64 (a40 - 1))).bind fun y68 => ((tracebookref26_Precedes y67 y68).bind fun r69 => some r69))) else some false) : Option Bool).bind fun v64 => (bif v64 then some (.inr (.inr 11)) else some (.inl (w64 (a40 + 1)))))))))) else some (.inr (.inl ())))
def tracebookref26_Check (p0 : (List api_Slice)) : Option Int :=
  ((loop (tracebookref26_Check_L1 p0) 0).bind fun | .inl _ => ((tracebookref26_formed p0).bind fun r59 => (bif (!r59) then some 10 else some 0)) | .inr rv => some rv)
theorem tracebookref26_Check_fun (p0 : (List api_Slice)) (r : Int) (hF : tracebookref26_Check p0 = some r) : Fun Tryz.prog 129 true [] [cL 8 t_api_Slice p0] noHeap (cI r) noHeap := by
 refine Fun.of_walk0 Tryz.func129 c129 (by kernel_rfl) (rs := [.tmp 2]) (by kernel_rfl) ?_; unfold v129
 unfold tracebookref26_Check at hF
 refine wA rfl ?_; refine W_seq ?_; refine wA rfl ?_; refine W_for (fun _ _ h => h) hF (.inl) (fun a40 => [(0, cL 8 t_api_Slice p0), (3, cI a40)]) (fun a40 => []) (fun _ => [(0, cL 8 t_api_Slice p0)]) (fun _ => []) sw ?_ ?_
 · rintro ⟨⟩ hF
   refine W_seq ?_; refine wC 1 rfl ?_; obtain ⟨r59, hr59, hF⟩ := bB hF
   refine rS (T_call (tracebookref26_formed_fun _ _ hr59) ⟨rfl, trivial⟩ rfl (.inl rfl) ?_); refine QV rfl ?_; refine wIf hF rfl (fun _ hF => ?_) fun _ hF => ?_
   · refine wA rfl ?_; cases hF
     exact W_ret wR
   refine W_skip ?_; refine wA rfl ?_; cases hF
   exact W_ret wR
 rintro a40 x_0 hF cont_0 brk_0 fin_0
 unfold tracebookref26_Check_L1 at hF
 refine W_seq ?_; refine wC 2 rfl ?_; refine rS (T_len (tc := t_api_Slice) p0 .tree ?_); refine QV rfl ?_; refine wIf hF rfl (fun _ hF => ?_) fun _ hF => ?_
 · refine W_skip ?_; refine W_seq ?_; refine W_block ?_; refine W_seq ?_; refine W_seq ?_; refine W_join (fun _ _ h => h) hF (fun v61 => [(0, cL 8 t_api_Slice p0), (3, cI a40), (33, cB v61)]) (fun v61 => []) ?_ ?_
   · rintro v61 hF
     refine wIf hF rfl (fun _ hF => ?_) fun _ hF => ?_
     · refine wA rfl ?_; have hF := fin_0 _ (oi hF); cases hF
       exact W_ret wR
     refine W_skip ?_; refine wC 2 rfl ?_; obtain ⟨y62, hy62, hF⟩ := bB hF
     refine rS (T_ixT (tc := t_api_Slice) p0 rfl rfl hy62 ?_); refine Q_run SV 2 rfl ?_; obtain ⟨r63, hr63, hF⟩ := bB hF
     refine rS (T_call (tracebookref06_Name_fun _ _ hr63) ⟨rfl, trivial⟩ rfl (.inl rfl) ?_); refine QV rfl ?_; refine W_seq ?_; refine wA rfl ?_; refine wIf hF rfl (fun _ hF => ?_) fun _ hF => ?_
     · refine wA rfl ?_; have hF := fin_0 _ (oi hF); cases hF
       exact W_ret wR
     refine W_skip ?_; refine W_seq ?_; refine W_join (fun _ _ h => h) hF (fun v64 => [(0, cL 8 t_api_Slice p0), (3, cI a40), (56, cB v64)]) (fun v64 => []) ?_ ?_
     · rintro v64 hF
       refine wIf hF rfl (fun _ hF => ?_) fun _ hF => ?_
       · refine wA rfl ?_; have hF := fin_0 _ (oi hF); cases hF
         exact W_ret wR
       refine W_skip ?_; refine wB rfl ?_; exact cont_0 _ _ _ (oi hF) sw
     intro join hF
     refine W_regD (by decide) (by kernel_rfl) rfl ?_; refine Q_run SP 3 rfl ?_; cases h66 : (decide (0 < a40))
     · have hF := bF' h66 hF; refine QP rfl ?_; exact join false _ _ hF sw
     have hF := bT' h66 hF; refine Q_run SP 2 rfl ?_; obtain ⟨y67, hy67, hF⟩ := bB' hF
     refine R_step SP rfl (T_ixT (tc := t_api_Slice) p0 rfl rfl hy67 ?_); refine Q_run SP 4 rfl ?_; obtain ⟨y68, hy68, hF⟩ := bB' hF
     refine R_step SP rfl (T_ixT (tc := t_api_Slice) p0 rfl rfl hy68 ?_); refine Q_run SP 1 rfl ?_; obtain ⟨r69, hr69, hF⟩ := bB' hF
     refine R_step SP rfl (T_call (tracebookref26_Precedes_fun _ _ _ hr69) ⟨⟨rfl, rfl, rfl, rfl, rfl, rfl, rfl, rfl, trivial⟩, ⟨rfl, rfl, rfl, rfl, rfl, rfl, rfl, rfl, trivial⟩, trivial⟩ rfl (.inl rfl) ?_)
     refine QP rfl ?_; exact join r69 _ _ hF sw
   intro join hF
   refine wD 2 rfl ?_; obtain ⟨y72, hy72, hF⟩ := bB' hF
   refine rS (T_ixT (tc := t_api_Slice) p0 rfl rfl hy72 ?_); refine Q_run SV 4 rfl ?_; cases h73 : (decide (y72.fThread < 0))
   · have hF := bF' h73 hF; refine Q_run SV 2 rfl ?_; obtain ⟨y74, hy74, hF⟩ := bB' hF
     refine R_step SV rfl (T_ixT (tc := t_api_Slice) p0 rfl rfl hy74 ?_); refine Q_run SV 5 rfl ?_; cases h75 : (decide (1000000000000000 < y74.fThread))
     · have hF := bF' h75 hF; refine Q_run SV 2 rfl ?_; obtain ⟨y76, hy76, hF⟩ := bB' hF
       refine R_step SV rfl (T_ixT (tc := t_api_Slice) p0 rfl rfl hy76 ?_); refine Q_run SV 2 rfl ?_; obtain ⟨r77, hr77, hF⟩ := bB' hF
       refine R_step SV rfl (T_call (tracebookref04_Valid_fun _ _ hr77) ⟨⟨rfl, rfl, trivial⟩, trivial⟩ rfl (.inl rfl) ?_); refine QV rfl ?_; exact join (!r77) _ _ hF sw
     have hF := bT' h75 hF; refine QV rfl ?_; exact join true _ _ hF sw
   have hF := bT' h73 hF; refine QV rfl ?_; exact join true _ _ hF sw
 refine W_exit ?_; refine thenQ_exit ?_; refine thenQ_exit ?_; refine blockQ_hit ?_; exact brk_0 _ _ _ (oi hF) sw
def tracebookref32_Has_L1 (p0 : api_Trace) (p1 : Int) : Int → Option (Int ⊕ (Unit ⊕ Bool)) := fun a10 =>
  (bif (decide (a10 < (List.length p0.fThreads : Int))) then ((idx p0.fThreads a10).bind fun y14 => (bif (decide (y14.fId = p1)) then some (.inr (.inr true)) else some (.inl (w64 (a10 + 1))))) else some (.inr (.inl ())))
def tracebookref32_Has (p0 : api_Trace) (p1 : Int) : Option Bool :=
  ((loop (tracebookref32_Has_L1 p0 p1) 0).bind fun | .inl _ => some false | .inr rv => some rv)
theorem tracebookref32_Has_fun (p0 : api_Trace) (p1 : Int) (r : Bool) (hF : tracebookref32_Has p0 p1 = some r) : Fun Tryz.prog 130 true [] [.agg (m_api_Trace p0), cI p1] noHeap (cB r) noHeap := by
 refine Fun.of_walk0 Tryz.func130 c130 (by kernel_rfl) (rs := [.tmp 4]) (by kernel_rfl) ?_; unfold v130
 unfold tracebookref32_Has at hF
 refine wA rfl ?_; refine W_seq ?_; refine wA rfl ?_; refine W_for (fun _ _ h => h) hF (.inl) (fun a10 => [(1, cI p1), (2, cP (2,0) 0), (5, cI a10)]) (fun a10 => [((2,0), .box (m_api_Trace p0))]) (fun _ => []) (fun _ => []) sw ?_ ?_
 · rintro ⟨⟩ hF
   refine wA rfl ?_; cases hF
   exact W_ret wR
 rintro a10 x_0 hF cont_0 brk_0 fin_0
 unfold tracebookref32_Has_L1 at hF
 refine W_seq ?_; refine wC 3 rfl ?_; refine rS (T_len (tc := t_api_Thread) p0.fThreads .tree ?_); refine QV rfl ?_; refine wIf hF rfl (fun _ hF => ?_) fun _ hF => ?_
 · refine W_skip ?_; refine W_seq ?_; refine W_block ?_; refine wC 3 rfl ?_; obtain ⟨y14, hy14, hF⟩ := bB hF
   refine rS (T_ixT (tc := t_api_Thread) p0.fThreads rfl rfl hy14 ?_); refine QV rfl ?_; refine wIf hF rfl (fun _ hF => ?_) fun _ hF => ?_
   · refine wA rfl ?_; have hF := fin_0 _ (oi hF); cases hF
     exact W_ret wR
   refine W_skip ?_; refine wB rfl ?_; exact cont_0 _ _ _ (oi hF) sw
 refine W_exit ?_; refine thenQ_exit ?_; refine thenQ_exit ?_; refine blockQ_hit ?_; exact brk_0 _ _ _ (oi hF) sw
def tracebookref27_index_L1 (p0 : (List api_Thread)) (p1 : Int) : Int → Option (Int ⊕ (Unit ⊕ Int)) := fun a10 =>
  (bif (decide (a10 < (List.length p0 : Int))) then ((idx p0 a10).bind fun y14 => (bif (decide (y14.fId = p1)) then some (.inr (.inr a10)) else some (.inl (w64 (a10 + 1))))) else some (.inr (.inl ())))
def tracebookref27_index (p0 : (List api_Thread)) (p1 : Int) : Option Int :=
  ((loop (tracebookref27_index_L1 p0 p1) 0).bind fun | .inl _ => some (-1) | .inr rv => some rv)
theorem tracebookref27_index_fun (p0 : (List api_Thread)) (p1 : Int) (r : Int) (hF : tracebookref27_index p0 p1 = some r) : Fun Tryz.prog 153 true [] [cL 3 t_api_Thread p0, cI p1] noHeap (cI r) noHeap := by
 refine Fun.of_walk0 Tryz.func153 c153 (by kernel_rfl) (rs := [.tmp 4]) (by kernel_rfl) ?_; unfold v153
 unfold tracebookref27_index at hF
 refine wA rfl ?_; refine W_seq ?_; refine wA rfl ?_; refine W_for (fun _ _ h => h) hF (.inl) (fun a10 => [(0, cL 3 t_api_Thread p0), (1, cI p1), (5, cI a10)]) (fun a10 => []) (fun _ => []) (fun _ => []) sw ?_ ?_
 · rintro ⟨⟩ hF
   refine wA rfl ?_; cases hF
   exact W_ret wR
 rintro a10 x_0 hF cont_0 brk_0 fin_0
 unfold tracebookref27_index_L1 at hF
 refine W_seq ?_; refine wC 2 rfl ?_; refine rS (T_len (tc := t_api_Thread) p0 .tree ?_); refine QV rfl ?_; refine wIf hF rfl (fun _ hF => ?_) fun _ hF => ?_
 · refine W_skip ?_; refine W_seq ?_; refine W_block ?_; refine wC 2 rfl ?_; obtain ⟨y14, hy14, hF⟩ := bB hF
   refine rS (T_ixT (tc := t_api_Thread) p0 rfl rfl hy14 ?_); refine QV rfl ?_; refine wIf hF rfl (fun _ hF => ?_) fun _ hF => ?_
   · refine wA rfl ?_; have hF := fin_0 _ (oi hF); cases hF
     exact W_ret wR
   refine W_skip ?_; refine wB rfl ?_; exact cont_0 _ _ _ (oi hF) sw
 refine W_exit ?_; refine thenQ_exit ?_; refine thenQ_exit ?_; refine blockQ_hit ?_; exact brk_0 _ _ _ (oi hF) sw
def tracebookref27_distinct_L1 (p0 : (List api_Thread)) : ((List api_Thread) × Int) → Option (((List api_Thread) × Int) ⊕ (List api_Thread)) := fun (a21, a22) =>
  (bif (decide (a22 < (List.length p0 : Int))) then ((((idx p0 a22).bind fun y32 => ((tracebookref27_index a21 y32.fId).bind fun r33 => (bif (decide (r33 < 0)) then ((idx p0 a22).bind fun y34 => (bif room 32 (List.length a21 + List.length [y34]) then some (a21 ++ [y34]) else none)) else some a21))) : Option (List api_Thread)).bind fun v31 => some (.inl (v31, (w64 (a22 + 1))))) else some (.inr a21))
def tracebookref27_distinct (p0 : (List api_Thread)) : Option (List api_Thread) :=
  ((loop (tracebookref27_distinct_L1 p0) ([], 0)).bind fun e30 => some e30)
theorem tracebookref27_distinct_fun (p0 : (List api_Thread)) (r : (List api_Thread)) (hF : tracebookref27_distinct p0 = some r) : Fun Tryz.prog 152 false [] [cL 3 t_api_Thread p0] (heapOf []) (cO (902,6080)) (heapOf [((902,6080), .arr 52 3 (List.map t_api_Thread r))]) := by
 refine Fun.of_walkM [] (some []) Tryz.func152 c152 (by kernel_rfl) (rs := [.tmp 2]) (by kernel_rfl) rfl rfl rfl ?_; unfold v152
 unfold tracebookref27_distinct at hF
 refine wA rfl ?_; refine wA rfl ?_; refine W_seq ?_; refine wA rfl ?_; refine W_for (fun _ _ h => h) hF (id) (fun (a21, a22) => [(0, cL 3 t_api_Thread p0), (3, cO (25,1)), (4, cI a22)]) (fun (a21, a22) => [((25,1), .arr 52 3 (List.map t_api_Thread a21))]) (fun e30 => [(3, cO (25,1))]) (fun e30 => [((25,1), .arr 52 3 (List.map t_api_Thread e30))]) (S_own 3 (25,1) 52 3 rfl rfl rfl rfl sw) ?_ ?_
 · rintro e30 hF
   refine wA rfl ?_; cases hF
   exact W_ret ⟨_, _, (S_ren (25,1) (902,6080) rfl rfl S_refl), _, rfl, rfl, rfl, (AgM.weak ⟨rfl, trivial⟩)⟩
 rintro ⟨a21, a22⟩ x_0 hF cont_0 brk_0 fin_0
 unfold tracebookref27_distinct_L1 at hF
 refine W_seq ?_; refine wC 2 rfl ?_; refine rS (T_len (tc := t_api_Thread) p0 .tree ?_); refine QV rfl ?_; refine wIf hF rfl (fun _ hF => ?_) fun _ hF => ?_
 · refine W_skip ?_; refine W_seq ?_; refine W_join (fun _ _ h => h) hF (fun v31 => [(0, cL 3 t_api_Thread p0), (3, cO (25,1)), (4, cI a22)]) (fun v31 => [((25,1), .arr 52 3 (List.map t_api_Thread v31))]) ?_ ?_
   · rintro v31 hF
     refine wB rfl ?_; exact cont_0 _ _ _ (oi hF) sw
   intro join hF
   refine W_block ?_; refine wC 3 rfl ?_; obtain ⟨y32, hy32, hF⟩ := bB' hF
   refine rS (T_ixT (tc := t_api_Thread) p0 rfl rfl hy32 ?_); refine Q_run SV 2 rfl ?_; obtain ⟨r33, hr33, hF⟩ := bB' hF
   refine rS (T_call (tracebookref27_index_fun _ _ _ hr33) ⟨⟨_, rfl⟩, rfl, trivial⟩ rfl (.inl rfl) ?_); refine QV rfl ?_; refine wIf' hF rfl (fun _ hF => ?_) fun _ hF => ?_
   · refine wD 3 rfl ?_; obtain ⟨y34, hy34, hF⟩ := bB' hF
     refine rS (T_ixT (tc := t_api_Thread) p0 rfl rfl hy34 ?_); refine Q_run SV 1 rfl ?_; refine rS (T_bsl (tc := t_api_Thread) [y34] rfl ⟨rfl, rfl, rfl, trivial⟩ rfl (fun _ => rfl) rfl ?_)
     obtain ⟨h35, hF⟩ := roomT' hF
     refine rS (T_appO (tc := t_api_Thread) a21 [y34] rfl rfl (.own _ _ rfl) h35 rfl ?_); refine QV rfl ?_; exact join (a21 ++ [y34]) _ _ hF (S_ren (25,0) (25,1) rfl rfl sw)
   refine W_skip ?_; exact join a21 _ _ hF sw
 refine W_exit ?_; refine thenQ_exit ?_; refine thenQ_exit ?_; refine blockQ_hit ?_; exact brk_0 _ _ _ (oi hF) sw
def tracebookref27_right (p0 : api_State) : Option Bool :=
  (((bif (decide (p0.fState < 0)) then some true else some (decide (5 < p0.fState))) : Option Bool).bind fun v1 => (bif v1 then some false else (((bif (decide (p0.fState = 4)) then (bif (decide (p0.fCpu < 0)) then some true else (bif (decide (63 < p0.fCpu)) then some true else (bif (!decide (p0.fState = 4)) then some (!decide (p0.fCpu = (-1))) else some false))) else (bif (!decide (p0.fState = 4)) then some (!decide (p0.fCpu = (-1))) else some false)) : Option Bool).bind fun v2 => (bif v2 then some false else (((bif (decide (p0.fState = 2)) then (bif (decide (p0.fOn < 0)) then some true else (bif (decide (1000000000000000 < p0.fOn)) then some true else (bif (!decide (p0.fState = 2)) then some (!decide (p0.fOn = (-1))) else some false))) else (bif (!decide (p0.fState = 2)) then some (!decide (p0.fOn = (-1))) else some false)) : Option Bool).bind fun v3 => (bif v3 then some false else (((bif (decide (p0.fBy = (-1))) then some true else (bif (decide (0 ≤ p0.fBy)) then (bif (decide (p0.fBy ≤ 1000000000000000)) then (bif (decide (p0.fState = 1)) then some true else some (decide (p0.fState = 2))) else some false) else some false)) : Option Bool).bind fun v4 => some v4)))))))
theorem tracebookref27_right_fun (p0 : api_State) (r : Bool) (hF : tracebookref27_right p0 = some r) : Fun Tryz.prog 154 true [] [.agg (m_api_State p0)] noHeap (cB r) noHeap := by
 refine Fun.of_walk0 Tryz.func154 c154 (by kernel_rfl) (rs := [.tmp 2]) (by kernel_rfl) ?_; unfold v154
 unfold tracebookref27_right at hF
 refine wA rfl ?_; refine W_seq ?_; refine W_seq ?_; refine W_join (fun _ _ h => h) hF (fun v1 => [(1, cP (1,0) 0), (10, cB v1)]) (fun v1 => [((1,0), .box (m_api_State p0))]) ?_ ?_
 · rintro v1 hF
   refine wIf hF rfl (fun _ hF => ?_) fun _ hF => ?_
   · refine wA rfl ?_; cases hF
     exact W_ret wR
   refine W_skip ?_; refine W_seq ?_; refine W_seq ?_; refine W_join (fun _ _ h => h) hF (fun v2 => [(1, cP (1,0) 0), (33, cB v2)]) (fun v2 => [((1,0), .box (m_api_State p0))]) ?_ ?_
   · rintro v2 hF
     refine wIf hF rfl (fun _ hF => ?_) fun _ hF => ?_
     · refine wA rfl ?_; cases hF
       exact W_ret wR
     refine W_skip ?_; refine W_seq ?_; refine W_seq ?_; refine W_join (fun _ _ h => h) hF (fun v3 => [(1, cP (1,0) 0), (56, cB v3)]) (fun v3 => [((1,0), .box (m_api_State p0))]) ?_ ?_
     · rintro v3 hF
       refine wIf hF rfl (fun _ hF => ?_) fun _ hF => ?_
       · refine wA rfl ?_; cases hF
         exact W_ret wR
       refine W_skip ?_; refine W_seq ?_; refine W_join (fun _ _ h => h) hF (fun v4 => [(2, cB v4)]) (fun v4 => []) ?_ ?_
       · rintro v4 hF
         cases hF
         exact W_ret wR
       intro join hF
       refine wD 4 rfl ?_; cases h5 : (decide (p0.fBy = (-1)))
       · have hF := bF' h5 hF; refine Q_run SV 4 rfl ?_; cases h6 : (decide (0 ≤ p0.fBy))
         · have hF := bF' h6 hF; refine QV rfl ?_; exact join false _ _ hF sw
         have hF := bT' h6 hF; refine Q_run SV 5 rfl ?_; cases h7 : (decide (p0.fBy ≤ 1000000000000000))
         · have hF := bF' h7 hF; refine QV rfl ?_; exact join false _ _ hF sw
         have hF := bT' h7 hF; refine Q_run SV 4 rfl ?_; cases h8 : (decide (p0.fState = 1))
         · have hF := bF' h8 hF; refine QV rfl ?_; exact join (decide (p0.fState = 2)) _ _ hF sw
         have hF := bT' h8 hF; refine QV rfl ?_; exact join true _ _ hF sw
       have hF := bT' h5 hF; refine QV rfl ?_; exact join true _ _ hF sw
     intro join hF
     refine wD 4 rfl ?_; cases h10 : (decide (p0.fState = 2))
     · have hF := bF' h10 hF; refine Q_run SV 14 rfl ?_; cases h11 : (!decide (p0.fState = 2))
       · have hF := bF' h11 hF; refine QV rfl ?_; exact join false _ _ hF sw
       have hF := bT' h11 hF; refine QV rfl ?_; exact join (!decide (p0.fOn = (-1))) _ _ hF sw
     have hF := bT' h10 hF; refine Q_run SV 4 rfl ?_; cases h12 : (decide (p0.fOn < 0))
     · have hF := bF' h12 hF; refine Q_run SV 6 rfl ?_; cases h13 : (decide (1000000000000000 < p0.fOn))
       · have hF := bF' h13 hF; refine Q_run SV 4 rfl ?_; cases h14 : (!decide (p0.fState = 2))
         · have hF := bF' h14 hF; refine QV rfl ?_; exact join false _ _ hF sw
         have hF := bT' h14 hF; refine QV rfl ?_; exact join (!decide (p0.fOn = (-1))) _ _ hF sw
       have hF := bT' h13 hF; refine QV rfl ?_; exact join true _ _ hF sw
     have hF := bT' h12 hF; refine QV rfl ?_; exact join true _ _ hF sw
   intro join hF
   refine wD 4 rfl ?_; cases h16 : (decide (p0.fState = 4))
   · have hF := bF' h16 hF; refine Q_run SV 14 rfl ?_; cases h17 : (!decide (p0.fState = 4))
     · have hF := bF' h17 hF; refine QV rfl ?_; exact join false _ _ hF sw
     have hF := bT' h17 hF; refine QV rfl ?_; exact join (!decide (p0.fCpu = (-1))) _ _ hF sw
   have hF := bT' h16 hF; refine Q_run SV 4 rfl ?_; cases h18 : (decide (p0.fCpu < 0))
   · have hF := bF' h18 hF; refine Q_run SV 6 rfl ?_; cases h19 : (decide (63 < p0.fCpu))
     · have hF := bF' h19 hF; refine Q_run SV 4 rfl ?_; cases h20 : (!decide (p0.fState = 4))
       · have hF := bF' h20 hF; refine QV rfl ?_; exact join false _ _ hF sw
       have hF := bT' h20 hF; refine QV rfl ?_; exact join (!decide (p0.fCpu = (-1))) _ _ hF sw
     have hF := bT' h19 hF; refine QV rfl ?_; exact join true _ _ hF sw
   have hF := bT' h18 hF; refine QV rfl ?_; exact join true _ _ hF sw
 intro join hF
 refine wD 4 rfl ?_; cases h22 : (decide (p0.fState < 0))
 · have hF := bF' h22 hF; refine QV rfl ?_; exact join (decide (5 < p0.fState)) _ _ hF sw
 have hF := bT' h22 hF; refine QV rfl ?_; exact join true _ _ hF sw
def tracebookref27_Check_L1 (p1 : (List api_State)) : Int → Option (Int ⊕ (Unit ⊕ Int)) := fun a117 =>
  (bif (decide (a117 < (List.length p1 : Int))) then ((((idx p1 a117).bind fun y128 => ((idx p1 (w64 (a117 - 1))).bind fun y129 => (bif (!decide (y128.fThread = y129.fThread)) then ((idx p1 (w64 (a117 - 1))).bind fun y131 => ((idx p1 (w64 ((List.length p1 : Int) - 1))).bind fun y132 => some (!decide (y131.fSpan.fTo = y132.fSpan.fTo)))) else some false))) : Option Bool).bind fun v126 => (bif v126 then some (.inr (.inr 11)) else some (.inl (w64 (a117 + 1))))) else some (.inr (.inl ())))
def tracebookref27_Check_L2 (p1 : (List api_State)) (r1 : (List api_Thread)) : (Int × Int) → Option ((Int × Int) ⊕ (Int ⊕ Int)) := fun (a66, a67) =>
  (bif (decide (a67 < (List.length p1 : Int))) then ((idx p1 a67).bind fun y135 => ((tracebookref27_index r1 y135.fThread).bind fun r136 => (bif (decide (r136 < 0)) then some (.inr (.inr 5)) else ((idx p1 a67).bind fun y137 => ((tracebookref04_Valid y137.fSpan).bind fun r138 => (bif (!r138) then some (.inr (.inr 2)) else ((idx p1 a67).bind fun y139 => ((tracebookref27_right y139).bind fun r140 => (bif (!r140) then some (.inr (.inr 1)) else (((bif (decide (0 < a67)) then ((idx p1 (w64 (a67 - 1))).bind fun y158 => ((idx p1 a67).bind fun y159 => some (decide (y158.fThread = y159.fThread)))) else some false) : Option Bool).bind fun v141 => (bif v141 then ((idx p1 (w64 (a67 - 1))).bind fun y142 => ((((idx p1 a67).bind fun y145 => (bif (!decide (y142.fSpan.fTo = y145.fSpan.fFrom)) then some true else ((idx p1 a67).bind fun y147 => (bif (decide (y142.fState = y147.fState)) then ((idx p1 a67).bind fun y149 => (bif (decide (y142.fCpu = y149.fCpu)) then ((idx p1 a67).bind fun y151 => some (decide (y142.fOn = y151.fOn))) else some false)) else some false)))) : Option Bool).bind fun v143 => (bif v143 then some (.inr (.inr 11)) else some (.inl (a66, (w64 (a67 + 1))))))) else ((((idx p1 a67).bind fun y154 => (bif (!decide (y154.fSpan.fFrom = 0)) then some true else some (!decide (r136 = (w64 (a66 + 1)))))) : Option Bool).bind fun v152 => (bif v152 then some (.inr (.inr 11)) else some (.inl (r136, (w64 (a67 + 1))))))))))))))))) else some (.inr (.inl a66)))
def tracebookref27_Check (p0 : (List api_Thread)) (p1 : (List api_State)) : Option Int :=
  ((tracebookref27_distinct p0).bind fun r1 => (bif (decide ((List.length p1 : Int) = 0)) then some 0 else ((loop (tracebookref27_Check_L2 p1 r1) ((-1), 0)).bind fun | .inl e97 => (bif (!decide (e97 = (w64 ((List.length r1 : Int) - 1)))) then some 11 else ((loop (tracebookref27_Check_L1 p1) 1).bind fun | .inl _ => some 0 | .inr rv => some rv)) | .inr rv => some rv)))
theorem tracebookref27_Check_fun (p0 : (List api_Thread)) (p1 : (List api_State)) (r : Int) (hF : tracebookref27_Check p0 p1 = some r) : Fun Tryz.prog 131 true [] [cL 3 t_api_Thread p0, cL 7 t_api_State p1] noHeap (cI r) noHeap := by
 refine Fun.of_walk0 Tryz.func131 c131 (by kernel_rfl) (rs := [.tmp 4]) (by kernel_rfl) ?_; unfold v131
 unfold tracebookref27_Check at hF
 refine wA rfl ?_; refine wC 1 rfl ?_; obtain ⟨r1, hr1, hF⟩ := bB hF
 refine R_stepX trivial (X_callG [((902,6080),(11,1))] rfl (callN _) (tracebookref27_distinct_fun _ _ hr1) trivial ⟨.inl rfl, trivial⟩ rfl rfl rfl ?_); refine QV rfl ?_; refine W_seq ?_; refine wC 1 rfl ?_
 refine rS (T_len (tc := t_api_State) p1 .tree ?_); refine QV rfl ?_; refine wIf hF rfl (fun _ hF => ?_) fun _ hF => ?_
 · refine wA rfl ?_; cases hF
   exact W_ret wR
 refine W_skip ?_; refine wA rfl ?_; refine W_seq ?_; refine wA rfl ?_; refine W_for (fun _ _ h => h) hF (.inl) (fun (a66, a67) => [(0, cO (11,1)), (1, cL 7 t_api_State p1), (5, cI a66), (6, cI a67)]) (fun (a66, a67) => [((11,1), .arr 52 3 (List.map t_api_Thread r1))]) (fun e97 => [(0, cO (11,1)), (1, cL 7 t_api_State p1), (5, cI e97)]) (fun e97 => [((11,1), .arr 52 3 (List.map t_api_Thread r1))]) sw ?_ ?_
 · rintro e97 hF
   refine W_seq ?_; refine wC 2 rfl ?_; refine rS (T_len (tc := t_api_Thread) r1 (.own _ _ rfl) ?_); refine QV rfl ?_; refine wIf hF rfl (fun _ hF => ?_) fun _ hF => ?_
   · refine wA rfl ?_; cases hF
     exact W_ret wR
   refine W_skip ?_; refine W_seq ?_; refine wA rfl ?_; refine W_for (fun _ _ h => h) hF (.inl) (fun a117 => [(1, cL 7 t_api_State p1), (9, cI a117)]) (fun a117 => []) (fun _ => []) (fun _ => []) sw ?_ ?_
   · rintro ⟨⟩ hF
     refine wA rfl ?_; cases hF
     exact W_ret wR
   rintro a117 x_0 hF cont_0 brk_0 fin_0
   unfold tracebookref27_Check_L1 at hF
   refine W_seq ?_; refine wC 2 rfl ?_; refine rS (T_len (tc := t_api_State) p1 .tree ?_); refine QV rfl ?_; refine wIf hF rfl (fun _ hF => ?_) fun _ hF => ?_
   · refine W_skip ?_; refine W_seq ?_; refine W_block ?_; refine W_seq ?_; refine W_join (fun _ _ h => h) hF (fun v126 => [(1, cL 7 t_api_State p1), (9, cI a117), (158, cB v126)]) (fun v126 => []) ?_ ?_
     · rintro v126 hF
       refine wIf hF rfl (fun _ hF => ?_) fun _ hF => ?_
       · refine wA rfl ?_; have hF := fin_0 _ (oi hF); cases hF
         exact W_ret wR
       refine W_skip ?_; refine wB rfl ?_; exact cont_0 _ _ _ (oi hF) sw
     intro join hF
     refine W_regD (by decide) (by kernel_rfl) rfl ?_; refine Q_run SP 2 rfl ?_; obtain ⟨y128, hy128, hF⟩ := bB' hF
     refine R_step SP trivial (T_ixT (tc := t_api_State) p1 rfl rfl hy128 ?_); refine Q_run SP 5 rfl ?_; obtain ⟨y129, hy129, hF⟩ := bB' hF
     refine R_step SP trivial (T_ixT (tc := t_api_State) p1 rfl rfl hy129 ?_); refine Q_run SP 4 rfl ?_; cases h130 : (!decide (y128.fThread = y129.fThread))
     · have hF := bF' h130 hF; refine QP rfl ?_; exact join false _ _ hF sw
     have hF := bT' h130 hF; refine Q_run SP 3 rfl ?_; obtain ⟨y131, hy131, hF⟩ := bB' hF
     refine R_step SP rfl (T_ixT (tc := t_api_State) p1 rfl rfl hy131 ?_); refine Q_run SP 5 rfl ?_; refine R_step SP rfl (T_len (tc := t_api_State) p1 .tree ?_); refine Q_run SP 1 rfl ?_; obtain ⟨y132, hy132, hF⟩ := bB' hF
     refine R_step SP rfl (T_ixT (tc := t_api_State) p1 rfl rfl hy132 ?_); refine QP rfl ?_; exact join (!decide (y131.fSpan.fTo = y132.fSpan.fTo)) _ _ hF sw
   refine W_exit ?_; refine thenQ_exit ?_; refine thenQ_exit ?_; refine blockQ_hit ?_; exact brk_0 _ _ _ (oi hF) sw
 rintro ⟨a66, a67⟩ x_0 hF cont_0 brk_0 fin_0
 unfold tracebookref27_Check_L2 at hF
 refine W_seq ?_; refine wC 2 rfl ?_; refine rS (T_len (tc := t_api_State) p1 .tree ?_); refine QV rfl ?_; refine wIf hF rfl (fun _ hF => ?_) fun _ hF => ?_
 · refine W_skip ?_; refine W_seq ?_; refine W_block ?_; refine wC 3 rfl ?_; obtain ⟨y135, hy135, hF⟩ := bB hF
   refine rS (T_ixT (tc := t_api_State) p1 rfl rfl hy135 ?_); refine Q_run SV 2 rfl ?_; obtain ⟨r136, hr136, hF⟩ := bB hF
   refine rS (T_call (tracebookref27_index_fun _ _ _ hr136) ⟨⟨_, rfl⟩, rfl, trivial⟩ rfl (.inl rfl) ?_); refine QV rfl ?_; refine W_seq ?_; refine wA rfl ?_; refine wIf hF rfl (fun _ hF => ?_) fun _ hF => ?_
   · refine wA rfl ?_; have hF := fin_0 _ (oi hF); cases hF
     exact W_ret wR
   refine W_skip ?_; refine W_seq ?_; refine wC 2 rfl ?_; obtain ⟨y137, hy137, hF⟩ := bB hF
   refine rS (T_ixT (tc := t_api_State) p1 rfl rfl hy137 ?_); refine Q_run SV 2 rfl ?_; obtain ⟨r138, hr138, hF⟩ := bB hF
   refine rS (T_call (tracebookref04_Valid_fun _ _ hr138) ⟨⟨rfl, rfl, trivial⟩, trivial⟩ rfl (.inl rfl) ?_); refine QV rfl ?_; refine wIf hF rfl (fun _ hF => ?_) fun _ hF => ?_
   · refine wA rfl ?_; have hF := fin_0 _ (oi hF); cases hF
     exact W_ret wR
   refine W_skip ?_; refine W_seq ?_; refine wC 2 rfl ?_; obtain ⟨y139, hy139, hF⟩ := bB hF
   refine rS (T_ixT (tc := t_api_State) p1 rfl rfl hy139 ?_); refine Q_run SV 1 rfl ?_; obtain ⟨r140, hr140, hF⟩ := bB hF
   refine rS (T_call (tracebookref27_right_fun _ _ hr140) ⟨⟨rfl, rfl, rfl, rfl, rfl, rfl, rfl, trivial⟩, trivial⟩ rfl (.inl rfl) ?_); refine QV rfl ?_; refine wIf hF rfl (fun _ hF => ?_) fun _ hF => ?_
   · refine wA rfl ?_; have hF := fin_0 _ (oi hF); cases hF
     exact W_ret wR
   refine W_skip ?_; refine W_seq ?_; refine W_join (fun _ _ h => h) hF (fun v141 => [(0, cO (11,1)), (1, cL 7 t_api_State p1), (5, cI a66), (6, cI a67), (7, cI r136), (58, cB v141)]) (fun v141 => [((11,1), .arr 52 3 (List.map t_api_Thread r1))]) ?_ ?_
   · rintro v141 hF
     refine wIf hF rfl (fun _ hF => ?_) fun _ hF => ?_
     · refine wC 3 rfl ?_; obtain ⟨y142, hy142, hF⟩ := bB hF
       refine rS (T_ixT (tc := t_api_State) p1 rfl rfl hy142 ?_); refine QV rfl ?_; refine W_seq ?_; refine W_join (fun _ _ h => h) hF (fun v143 => [(0, cO (11,1)), (1, cL 7 t_api_State p1), (5, cI a66), (6, cI a67), (103, cB v143)]) (fun v143 => [((11,1), .arr 52 3 (List.map t_api_Thread r1))]) ?_ ?_
       · rintro v143 hF
         refine wIf hF rfl (fun _ hF => ?_) fun _ hF => ?_
         · refine wA rfl ?_; have hF := fin_0 _ (oi hF); cases hF
           exact W_ret wR
         refine W_skip ?_; refine wB rfl ?_; exact cont_0 _ _ _ (oi hF) sw
       intro join hF
       refine W_regD (by decide) (by kernel_rfl) rfl ?_; refine Q_run SP 5 rfl ?_; obtain ⟨y145, hy145, hF⟩ := bB' hF
       refine R_step SP trivial (T_ixT (tc := t_api_State) p1 rfl rfl hy145 ?_); refine Q_run SP 5 rfl ?_; cases h146 : (!decide (y142.fSpan.fTo = y145.fSpan.fFrom))
       · have hF := bF' h146 hF; refine Q_run SP 4 rfl ?_; obtain ⟨y147, hy147, hF⟩ := bB' hF
         refine R_step SP rfl (T_ixT (tc := t_api_State) p1 rfl rfl hy147 ?_); refine Q_run SP 4 rfl ?_; cases h148 : (decide (y142.fState = y147.fState))
         · have hF := bF' h148 hF; refine QP rfl ?_; exact join false _ _ hF sw
         have hF := bT' h148 hF; refine Q_run SP 4 rfl ?_; obtain ⟨y149, hy149, hF⟩ := bB' hF
         refine R_step SP rfl (T_ixT (tc := t_api_State) p1 rfl rfl hy149 ?_); refine Q_run SP 5 rfl ?_; cases h150 : (decide (y142.fCpu = y149.fCpu))
         · have hF := bF' h150 hF; refine QP rfl ?_; exact join false _ _ hF sw
         have hF := bT' h150 hF; refine Q_run SP 4 rfl ?_; obtain ⟨y151, hy151, hF⟩ := bB' hF
         refine R_step SP rfl (T_ixT (tc := t_api_State) p1 rfl rfl hy151 ?_); refine QP rfl ?_; exact join (decide (y142.fOn = y151.fOn)) _ _ hF sw
       have hF := bT' h146 hF; refine QP rfl ?_; exact join true _ _ hF sw
     refine W_seq ?_; refine W_seq ?_; refine W_join (fun _ _ h => h) hF (fun v152 => [(0, cO (11,1)), (1, cL 7 t_api_State p1), (6, cI a67), (7, cI r136), (116, cB v152)]) (fun v152 => [((11,1), .arr 52 3 (List.map t_api_Thread r1))]) ?_ ?_
     · rintro v152 hF
       refine wIf hF rfl (fun _ hF => ?_) fun _ hF => ?_
       · refine wA rfl ?_; have hF := fin_0 _ (oi hF); cases hF
         exact W_ret wR
       refine W_skip ?_; refine wB rfl ?_; refine wB rfl ?_; exact cont_0 _ _ _ (oi hF) sw
     intro join hF
     refine wD 2 rfl ?_; obtain ⟨y154, hy154, hF⟩ := bB' hF
     refine rS (T_ixT (tc := t_api_State) p1 rfl rfl hy154 ?_); refine Q_run SV 5 rfl ?_; cases h155 : (!decide (y154.fSpan.fFrom = 0))
     · have hF := bF' h155 hF; refine QV rfl ?_; exact join (!decide (r136 = (w64 (a66 + 1)))) _ _ hF sw
     have hF := bT' h155 hF; refine QV rfl ?_; exact join true _ _ hF sw
   intro join hF
   refine W_regD (by decide) (by kernel_rfl) rfl ?_; refine Q_run SP 3 rfl ?_; cases h157 : (decide (0 < a67))
   · have hF := bF' h157 hF; refine QP rfl ?_; exact join false _ _ hF sw
   have hF := bT' h157 hF; refine Q_run SP 3 rfl ?_; obtain ⟨y158, hy158, hF⟩ := bB' hF
   refine R_step SP rfl (T_ixT (tc := t_api_State) p1 rfl rfl hy158 ?_); refine Q_run SP 4 rfl ?_; obtain ⟨y159, hy159, hF⟩ := bB' hF
   refine R_step SP rfl (T_ixT (tc := t_api_State) p1 rfl rfl hy159 ?_); refine QP rfl ?_; exact join (decide (y158.fThread = y159.fThread)) _ _ hF sw
 refine W_exit ?_; refine thenQ_exit ?_; refine thenQ_exit ?_; refine blockQ_hit ?_; exact brk_0 _ _ _ (oi hF) sw
def tracebookref28_natural (p0 : Int) : Option Bool :=
  (((bif (decide (0 ≤ p0)) then some (decide (p0 ≤ 1000000000000000)) else some false) : Option Bool).bind fun v1 => some v1)
theorem tracebookref28_natural_fun (p0 : Int) (r : Bool) (hF : tracebookref28_natural p0 = some r) : Fun Tryz.prog 155 true [] [cI p0] noHeap (cB r) noHeap := by
 refine Fun.of_walk0 Tryz.func155 c155 (by kernel_rfl) (rs := [.tmp 2]) (by kernel_rfl) ?_; unfold v155
 unfold tracebookref28_natural at hF
 refine wA rfl ?_; refine W_seq ?_; refine W_join (fun _ _ h => h) hF (fun v1 => [(2, cB v1)]) (fun v1 => []) ?_ ?_
 · rintro v1 hF
   cases hF
   exact W_ret wR
 intro join hF
 refine wD 3 rfl ?_; cases h2 : (decide (0 ≤ p0))
 · have hF := bF' h2 hF; refine QV rfl ?_; exact join false _ _ hF sw
 have hF := bT' h2 hF; refine QV rfl ?_; exact join (decide (p0 ≤ 1000000000000000)) _ _ hF sw
def tracebookref28_reading (p0 : Int) : Option Bool :=
  (((bif (decide (0 ≤ p0)) then some (decide (p0 ≤ 1000000000000)) else some false) : Option Bool).bind fun v1 => some v1)
theorem tracebookref28_reading_fun (p0 : Int) (r : Bool) (hF : tracebookref28_reading p0 = some r) : Fun Tryz.prog 156 true [] [cI p0] noHeap (cB r) noHeap := by
 refine Fun.of_walk0 Tryz.func156 c156 (by kernel_rfl) (rs := [.tmp 2]) (by kernel_rfl) ?_; unfold v156
 unfold tracebookref28_reading at hF
 refine wA rfl ?_; refine W_seq ?_; refine W_join (fun _ _ h => h) hF (fun v1 => [(2, cB v1)]) (fun v1 => []) ?_ ?_
 · rintro v1 hF
   cases hF
   exact W_ret wR
 intro join hF
 refine wD 3 rfl ?_; cases h2 : (decide (0 ≤ p0))
 · have hF := bF' h2 hF; refine QV rfl ?_; exact join false _ _ hF sw
 have hF := bT' h2 hF; refine QV rfl ?_; exact join (decide (p0 ≤ 1000000000000)) _ _ hF sw
def tracebookref28_Check_L1 (p0 : (List api_Flow)) : Int → Option (Int ⊕ (Unit ⊕ Int)) := fun a48 =>
  (bif (decide (a48 < (List.length p0 : Int))) then ((idx p0 a48).bind fun y71 => ((((tracebookref28_natural y71.fId).bind fun r79 => (bif (!r79) then some true else ((tracebookref28_natural y71.fFrom.fThread).bind fun r81 => (bif (!r81) then some true else ((tracebookref28_natural y71.fFrom.fSerial).bind fun r83 => (bif (!r83) then some true else ((tracebookref28_natural y71.fTo.fThread).bind fun r85 => (bif (!r85) then some true else ((tracebookref28_natural y71.fTo.fSerial).bind fun r87 => (bif (!r87) then some true else ((tracebookref28_reading y71.fSend).bind fun r89 => (bif (!r89) then some true else ((tracebookref28_reading y71.fRecv).bind fun r91 => some (!r91)))))))))))))) : Option Bool).bind fun v72 => (bif v72 then some (.inr (.inr 2)) else (((bif (decide (y71.fRecv < y71.fSend)) then some true else (bif (decide (0 < a48)) then ((idx p0 (w64 (a48 - 1))).bind fun y77 => some (decide (y71.fRecv < y77.fRecv))) else some false)) : Option Bool).bind fun v73 => (bif v73 then some (.inr (.inr 11)) else some (.inl (w64 (a48 + 1)))))))) else some (.inr (.inl ())))
def tracebookref28_Check (p0 : (List api_Flow)) : Option Int :=
  ((loop (tracebookref28_Check_L1 p0) 0).bind fun | .inl _ => some 0 | .inr rv => some rv)
theorem tracebookref28_Check_fun (p0 : (List api_Flow)) (r : Int) (hF : tracebookref28_Check p0 = some r) : Fun Tryz.prog 132 true [] [cL 7 t_api_Flow p0] noHeap (cI r) noHeap := by
 refine Fun.of_walk0 Tryz.func132 c132 (by kernel_rfl) (rs := [.tmp 2]) (by kernel_rfl) ?_; unfold v132
 unfold tracebookref28_Check at hF
 refine wA rfl ?_; refine W_seq ?_; refine wA rfl ?_; refine W_for (fun _ _ h => h) hF (.inl) (fun a48 => [(0, cL 7 t_api_Flow p0), (3, cI a48)]) (fun a48 => []) (fun _ => []) (fun _ => []) sw ?_ ?_
 · rintro ⟨⟩ hF
   refine wA rfl ?_; cases hF
   exact W_ret wR
 rintro a48 x_0 hF cont_0 brk_0 fin_0
 unfold tracebookref28_Check_L1 at hF
 refine W_seq ?_; refine wC 2 rfl ?_; refine rS (T_len (tc := t_api_Flow) p0 .tree ?_); refine QV rfl ?_; refine wIf hF rfl (fun _ hF => ?_) fun _ hF => ?_
 · refine W_skip ?_; refine W_seq ?_; refine W_block ?_; refine wC 2 rfl ?_; obtain ⟨y71, hy71, hF⟩ := bB hF
   refine rS (T_ixT (tc := t_api_Flow) p0 rfl rfl hy71 ?_); refine QV rfl ?_; refine W_seq ?_; refine W_seq ?_; refine W_join (fun _ _ h => h) hF (fun v72 => [(0, cL 7 t_api_Flow p0), (3, cI a48), (4, cP (4,0) 0), (58, cB v72)]) (fun v72 => [((4,0), .box (m_api_Flow y71))]) ?_ ?_
   · rintro v72 hF
     refine wIf hF rfl (fun _ hF => ?_) fun _ hF => ?_
     · refine wA rfl ?_; have hF := fin_0 _ (oi hF); cases hF
       exact W_ret wR
     refine W_skip ?_; refine W_seq ?_; refine W_join (fun _ _ h => h) hF (fun v73 => [(0, cL 7 t_api_Flow p0), (3, cI a48), (78, cB v73)]) (fun v73 => []) ?_ ?_
     · rintro v73 hF
       refine wIf hF rfl (fun _ hF => ?_) fun _ hF => ?_
       · refine wA rfl ?_; have hF := fin_0 _ (oi hF); cases hF
         exact W_ret wR
       refine W_skip ?_; refine wB rfl ?_; exact cont_0 _ _ _ (oi hF) sw
     intro join hF
     refine W_regD (by decide) (by kernel_rfl) rfl ?_; refine Q_run SP 6 rfl ?_; cases h75 : (decide (y71.fRecv < y71.fSend))
     · have hF := bF' h75 hF; refine Q_run SP 3 rfl ?_; cases h76 : (decide (0 < a48))
       · have hF := bF' h76 hF; refine QP rfl ?_; exact join false _ _ hF sw
       have hF := bT' h76 hF; refine Q_run SP 5 rfl ?_; obtain ⟨y77, hy77, hF⟩ := bB' hF
       refine R_step SP rfl (T_ixT (tc := t_api_Flow) p0 rfl rfl hy77 ?_); refine QP rfl ?_; exact join (decide (y71.fRecv < y77.fRecv)) _ _ hF sw
     have hF := bT' h75 hF; refine QP rfl ?_; exact join true _ _ hF sw
   intro join hF
   refine wD 2 rfl ?_; obtain ⟨r79, hr79, hF⟩ := bB' hF
   refine rS (T_call (tracebookref28_natural_fun _ _ hr79) ⟨rfl, trivial⟩ rfl (.inl rfl) ?_); refine Q_run SV 2 rfl ?_; cases h80 : (!r79)
   · have hF := bF' h80 hF; refine Q_run SV 3 rfl ?_; obtain ⟨r81, hr81, hF⟩ := bB' hF
     refine R_step SV rfl (T_call (tracebookref28_natural_fun _ _ hr81) ⟨rfl, trivial⟩ rfl (.inl rfl) ?_); refine Q_run SV 3 rfl ?_; cases h82 : (!r81)
     · have hF := bF' h82 hF; refine Q_run SV 3 rfl ?_; obtain ⟨r83, hr83, hF⟩ := bB' hF
       refine R_step SV rfl (T_call (tracebookref28_natural_fun _ _ hr83) ⟨rfl, trivial⟩ rfl (.inl rfl) ?_); refine Q_run SV 3 rfl ?_; cases h84 : (!r83)
       · have hF := bF' h84 hF; refine Q_run SV 3 rfl ?_; obtain ⟨r85, hr85, hF⟩ := bB' hF
         refine R_step SV rfl (T_call (tracebookref28_natural_fun _ _ hr85) ⟨rfl, trivial⟩ rfl (.inl rfl) ?_); refine Q_run SV 3 rfl ?_; cases h86 : (!r85)
         · have hF := bF' h86 hF; refine Q_run SV 3 rfl ?_; obtain ⟨r87, hr87, hF⟩ := bB' hF
           refine R_step SV rfl (T_call (tracebookref28_natural_fun _ _ hr87) ⟨rfl, trivial⟩ rfl (.inl rfl) ?_); refine Q_run SV 3 rfl ?_; cases h88 : (!r87)
           · have hF := bF' h88 hF; refine Q_run SV 2 rfl ?_; obtain ⟨r89, hr89, hF⟩ := bB' hF
             refine R_step SV rfl (T_call (tracebookref28_reading_fun _ _ hr89) ⟨rfl, trivial⟩ rfl (.inl rfl) ?_); refine Q_run SV 3 rfl ?_; cases h90 : (!r89)
             · have hF := bF' h90 hF; refine Q_run SV 2 rfl ?_; obtain ⟨r91, hr91, hF⟩ := bB' hF
               refine R_step SV rfl (T_call (tracebookref28_reading_fun _ _ hr91) ⟨rfl, trivial⟩ rfl (.inl rfl) ?_); refine QV rfl ?_; exact join (!r91) _ _ hF sw
             have hF := bT' h90 hF; refine QV rfl ?_; exact join true _ _ hF sw
           have hF := bT' h88 hF; refine QV rfl ?_; exact join true _ _ hF sw
         have hF := bT' h86 hF; refine QV rfl ?_; exact join true _ _ hF sw
       have hF := bT' h84 hF; refine QV rfl ?_; exact join true _ _ hF sw
     have hF := bT' h82 hF; refine QV rfl ?_; exact join true _ _ hF sw
   have hF := bT' h80 hF; refine QV rfl ?_; exact join true _ _ hF sw
 refine W_exit ?_; refine thenQ_exit ?_; refine thenQ_exit ?_; refine blockQ_hit ?_; exact brk_0 _ _ _ (oi hF) sw
def tracebookref29_inRange (p0 : api_Sample) : Option Bool :=
  (((bif (decide (0 ≤ p0.fThread)) then (bif (decide (p0.fThread ≤ 1000000000000000)) then (bif (decide (0 ≤ p0.fAt)) then (bif (decide (p0.fAt ≤ 1000000000000)) then (bif (decide (1 ≤ p0.fWeight)) then some (decide (p0.fWeight ≤ 1000000000000)) else some false) else some false) else some false) else some false) else some false) : Option Bool).bind fun v1 => some v1)
theorem tracebookref29_inRange_fun (p0 : api_Sample) (r : Bool) (hF : tracebookref29_inRange p0 = some r) : Fun Tryz.prog 157 true [] [.agg (m_api_Sample p0)] noHeap (cB r) noHeap := by
 refine Fun.of_walk0 Tryz.func157 c157 (by kernel_rfl) (rs := [.tmp 2]) (by kernel_rfl) ?_; unfold v157
 unfold tracebookref29_inRange at hF
 refine wA rfl ?_; refine W_seq ?_; refine W_join (fun _ _ h => h) hF (fun v1 => [(2, cB v1)]) (fun v1 => []) ?_ ?_
 · rintro v1 hF
   cases hF
   exact W_ret wR
 intro join hF
 refine wD 4 rfl ?_; cases h2 : (decide (0 ≤ p0.fThread))
 · have hF := bF' h2 hF; refine QV rfl ?_; exact join false _ _ hF sw
 have hF := bT' h2 hF; refine Q_run SV 5 rfl ?_; cases h3 : (decide (p0.fThread ≤ 1000000000000000))
 · have hF := bF' h3 hF; refine QV rfl ?_; exact join false _ _ hF sw
 have hF := bT' h3 hF; refine Q_run SV 5 rfl ?_; cases h4 : (decide (0 ≤ p0.fAt))
 · have hF := bF' h4 hF; refine QV rfl ?_; exact join false _ _ hF sw
 have hF := bT' h4 hF; refine Q_run SV 5 rfl ?_; cases h5 : (decide (p0.fAt ≤ 1000000000000))
 · have hF := bF' h5 hF; refine QV rfl ?_; exact join false _ _ hF sw
 have hF := bT' h5 hF; refine Q_run SV 5 rfl ?_; cases h6 : (decide (1 ≤ p0.fWeight))
 · have hF := bF' h6 hF; refine QV rfl ?_; exact join false _ _ hF sw
 have hF := bT' h6 hF; refine QV rfl ?_; exact join (decide (p0.fWeight ≤ 1000000000000)) _ _ hF sw
def tracebookref06_Frames_L1 (p0 : (List ByteArray)) : Int → Option (Int ⊕ (Unit ⊕ Int)) := fun a12 =>
  (bif (decide (a12 < (List.length p0 : Int))) then ((idx p0 a12).bind fun y17 => ((tracebookref06_Name y17).bind fun r18 => (bif (!decide (r18 = 0)) then some (.inr (.inr 3)) else some (.inl (w64 (a12 + 1)))))) else some (.inr (.inl ())))
def tracebookref06_Frames (p0 : (List ByteArray)) : Option Int :=
  (bif (decide (32 < (List.length p0 : Int))) then some 7 else ((loop (tracebookref06_Frames_L1 p0) 0).bind fun | .inl _ => some 0 | .inr rv => some rv))
theorem tracebookref06_Frames_fun (p0 : (List ByteArray)) (r : Int) (hF : tracebookref06_Frames p0 = some r) : Fun Tryz.prog 158 true [] [cL 1 t_str p0] noHeap (cI r) noHeap := by
 refine Fun.of_walk0 Tryz.func158 c158 (by kernel_rfl) (rs := [.tmp 2]) (by kernel_rfl) ?_; unfold v158
 unfold tracebookref06_Frames at hF
 refine wA rfl ?_; refine W_seq ?_; refine wC 1 rfl ?_; refine rS (T_len (tc := t_str) p0 .tree ?_); refine QV rfl ?_; refine wIf hF rfl (fun _ hF => ?_) fun _ hF => ?_
 · refine wA rfl ?_; cases hF
   exact W_ret wR
 refine W_skip ?_; refine W_seq ?_; refine wA rfl ?_; refine W_for (fun _ _ h => h) hF (.inl) (fun a12 => [(0, cL 1 t_str p0), (3, cI a12)]) (fun a12 => []) (fun _ => []) (fun _ => []) sw ?_ ?_
 · rintro ⟨⟩ hF
   refine wA rfl ?_; cases hF
   exact W_ret wR
 rintro a12 x_0 hF cont_0 brk_0 fin_0
 unfold tracebookref06_Frames_L1 at hF
 refine W_seq ?_; refine wC 2 rfl ?_; refine rS (T_len (tc := t_str) p0 .tree ?_); refine QV rfl ?_; refine wIf hF rfl (fun _ hF => ?_) fun _ hF => ?_
 · refine W_skip ?_; refine W_seq ?_; refine W_block ?_; refine wC 2 rfl ?_; obtain ⟨y17, hy17, hF⟩ := bB hF
   refine rS (T_ixT (tc := t_str) p0 rfl rfl hy17 ?_); refine Q_run SV 1 rfl ?_; obtain ⟨r18, hr18, hF⟩ := bB hF
   refine rS (T_call (tracebookref06_Name_fun _ _ hr18) ⟨rfl, trivial⟩ rfl (.inl rfl) ?_); refine QV rfl ?_; refine wIf hF rfl (fun _ hF => ?_) fun _ hF => ?_
   · refine wA rfl ?_; have hF := fin_0 _ (oi hF); cases hF
     exact W_ret wR
   refine W_skip ?_; refine wB rfl ?_; exact cont_0 _ _ _ (oi hF) sw
 refine W_exit ?_; refine thenQ_exit ?_; refine thenQ_exit ?_; refine blockQ_hit ?_; exact brk_0 _ _ _ (oi hF) sw
def tracebookref29_Check_L1 (p0 : (List api_Sample)) : Int → Option (Int ⊕ (Unit ⊕ Int)) := fun a28 =>
  (bif (decide (a28 < (List.length p0 : Int))) then ((idx p0 a28).bind fun y41 => ((tracebookref29_inRange y41).bind fun r42 => (bif (!r42) then some (.inr (.inr 2)) else ((idx p0 a28).bind fun y43 => ((tracebookref06_Frames y43.fStack).bind fun r44 => (bif (!decide (r44 = 0)) then some (.inr (.inr r44)) else (((bif (decide (0 < a28)) then ((idx p0 a28).bind fun y48 => ((idx p0 (w64 (a28 - 1))).bind fun y49 => some (decide (y48.fAt < y49.fAt)))) else some false) : Option Bool).bind fun v45 => (bif v45 then some (.inr (.inr 11)) else some (.inl (w64 (a28 + 1))))))))))) else some (.inr (.inl ())))
def tracebookref29_Check (p0 : (List api_Sample)) : Option Int :=
  ((loop (tracebookref29_Check_L1 p0) 0).bind fun | .inl _ => some 0 | .inr rv => some rv)
theorem tracebookref29_Check_fun (p0 : (List api_Sample)) (r : Int) (hF : tracebookref29_Check p0 = some r) : Fun Tryz.prog 133 true [] [cL 4 t_api_Sample p0] noHeap (cI r) noHeap := by
 refine Fun.of_walk0 Tryz.func133 c133 (by kernel_rfl) (rs := [.tmp 2]) (by kernel_rfl) ?_; unfold v133
 unfold tracebookref29_Check at hF
 refine wA rfl ?_; refine W_seq ?_; refine wA rfl ?_; refine W_for (fun _ _ h => h) hF (.inl) (fun a28 => [(0, cL 4 t_api_Sample p0), (3, cI a28)]) (fun a28 => []) (fun _ => []) (fun _ => []) sw ?_ ?_
 · rintro ⟨⟩ hF
   refine wA rfl ?_; cases hF
   exact W_ret wR
 rintro a28 x_0 hF cont_0 brk_0 fin_0
 unfold tracebookref29_Check_L1 at hF
 refine W_seq ?_; refine wC 2 rfl ?_; refine rS (T_len (tc := t_api_Sample) p0 .tree ?_); refine QV rfl ?_; refine wIf hF rfl (fun _ hF => ?_) fun _ hF => ?_
 · refine W_skip ?_; refine W_seq ?_; refine W_block ?_; refine W_seq ?_; refine wC 2 rfl ?_; obtain ⟨y41, hy41, hF⟩ := bB hF
   refine rS (T_ixT (tc := t_api_Sample) p0 rfl rfl hy41 ?_); refine Q_run SV 1 rfl ?_; obtain ⟨r42, hr42, hF⟩ := bB hF
   refine rS (T_call (tracebookref29_inRange_fun _ _ hr42) ⟨⟨rfl, rfl, rfl, rfl, trivial⟩, trivial⟩ rfl (.inl rfl) ?_); refine QV rfl ?_; refine wIf hF rfl (fun _ hF => ?_) fun _ hF => ?_
   · refine wA rfl ?_; have hF := fin_0 _ (oi hF); cases hF
     exact W_ret wR
   refine W_skip ?_; refine wC 2 rfl ?_; obtain ⟨y43, hy43, hF⟩ := bB hF
   refine rS (T_ixT (tc := t_api_Sample) p0 rfl rfl hy43 ?_); refine Q_run SV 2 rfl ?_; obtain ⟨r44, hr44, hF⟩ := bB hF
   refine rS (T_call (tracebookref06_Frames_fun _ _ hr44) ⟨rfl, trivial⟩ rfl (.inl rfl) ?_); refine QV rfl ?_; refine W_seq ?_; refine wA rfl ?_; refine wIf hF rfl (fun _ hF => ?_) fun _ hF => ?_
   · refine wA rfl ?_; have hF := fin_0 _ (oi hF); cases hF
     exact W_ret wR
   refine W_skip ?_; refine W_seq ?_; refine W_join (fun _ _ h => h) hF (fun v45 => [(0, cL 4 t_api_Sample p0), (3, cI a28), (41, cB v45)]) (fun v45 => []) ?_ ?_
   · rintro v45 hF
     refine wIf hF rfl (fun _ hF => ?_) fun _ hF => ?_
     · refine wA rfl ?_; have hF := fin_0 _ (oi hF); cases hF
       exact W_ret wR
     refine W_skip ?_; refine wB rfl ?_; exact cont_0 _ _ _ (oi hF) sw
   intro join hF
   refine W_regD (by decide) (by kernel_rfl) rfl ?_; refine Q_run SP 3 rfl ?_; cases h47 : (decide (0 < a28))
   · have hF := bF' h47 hF; refine QP rfl ?_; exact join false _ _ hF sw
   have hF := bT' h47 hF; refine Q_run SP 2 rfl ?_; obtain ⟨y48, hy48, hF⟩ := bB' hF
   refine R_step SP rfl (T_ixT (tc := t_api_Sample) p0 rfl rfl hy48 ?_); refine Q_run SP 5 rfl ?_; obtain ⟨y49, hy49, hF⟩ := bB' hF
   refine R_step SP rfl (T_ixT (tc := t_api_Sample) p0 rfl rfl hy49 ?_); refine QP rfl ?_; exact join (decide (y48.fAt < y49.fAt)) _ _ hF sw
 refine W_exit ?_; refine thenQ_exit ?_; refine thenQ_exit ?_; refine blockQ_hit ?_; exact brk_0 _ _ _ (oi hF) sw
def tracebookref30_Check_L1 (p0 : (List api_Step)) : Int → Option (Int ⊕ (Unit ⊕ Int)) := fun a58 =>
  (bif (decide (a58 < (List.length p0 : Int))) then ((idx p0 a58).bind fun y86 => ((tracebookref06_Name y86.fName).bind fun r87 => (bif (!decide (r87 = 0)) then some (.inr (.inr r87)) else ((((idx p0 a58).bind fun y104 => (bif (decide (y104.fAt < 0)) then some true else ((idx p0 a58).bind fun y106 => (bif (decide (1000000000000 < y106.fAt)) then some true else ((idx p0 a58).bind fun y108 => (bif (decide (y108.fValue < (-1000000000000000))) then some true else ((idx p0 a58).bind fun y110 => some (decide (1000000000000000 < y110.fValue))))))))) : Option Bool).bind fun v88 => (bif v88 then some (.inr (.inr 2)) else (((bif (decide (0 < a58)) then ((idx p0 a58).bind fun y92 => ((idx p0 (w64 (a58 - 1))).bind fun y93 => (bif (sLt y92.fName y93.fName) then some true else ((idx p0 a58).bind fun y95 => ((idx p0 (w64 (a58 - 1))).bind fun y96 => (bif (decide (y95.fName = y96.fName)) then ((idx p0 a58).bind fun y98 => ((idx p0 (w64 (a58 - 1))).bind fun y99 => (bif (decide (y98.fAt ≤ y99.fAt)) then some true else ((idx p0 a58).bind fun y101 => ((idx p0 (w64 (a58 - 1))).bind fun y102 => some (decide (y101.fValue = y102.fValue))))))) else some false)))))) else some false) : Option Bool).bind fun v89 => (bif v89 then some (.inr (.inr 11)) else some (.inl (w64 (a58 + 1)))))))))) else some (.inr (.inl ())))
def tracebookref30_Check (p0 : (List api_Step)) : Option Int :=
  ((loop (tracebookref30_Check_L1 p0) 0).bind fun | .inl _ => some 0 | .inr rv => some rv)
theorem tracebookref30_Check_fun (p0 : (List api_Step)) (r : Int) (hF : tracebookref30_Check p0 = some r) : Fun Tryz.prog 134 true [] [cL 3 t_api_Step p0] noHeap (cI r) noHeap := by
 refine Fun.of_walk0 Tryz.func134 c134 (by kernel_rfl) (rs := [.tmp 2]) (by kernel_rfl) ?_; unfold v134
 unfold tracebookref30_Check at hF
 refine wA rfl ?_; refine W_seq ?_; refine wA rfl ?_; refine W_for (fun _ _ h => h) hF (.inl) (fun a58 => [(0, cL 3 t_api_Step p0), (3, cI a58)]) (fun a58 => []) (fun _ => []) (fun _ => []) sw ?_ ?_
 · rintro ⟨⟩ hF
   refine wA rfl ?_; cases hF
   exact W_ret wR
 rintro a58 x_0 hF cont_0 brk_0 fin_0
 unfold tracebookref30_Check_L1 at hF
 refine W_seq ?_; refine wC 2 rfl ?_; refine rS (T_len (tc := t_api_Step) p0 .tree ?_); refine QV rfl ?_; refine wIf hF rfl (fun _ hF => ?_) fun _ hF => ?_
 · refine W_skip ?_; refine W_seq ?_; refine W_block ?_; refine wC 2 rfl ?_; obtain ⟨y86, hy86, hF⟩ := bB hF
   refine rS (T_ixT (tc := t_api_Step) p0 rfl rfl hy86 ?_); refine Q_run SV 2 rfl ?_; obtain ⟨r87, hr87, hF⟩ := bB hF
   refine rS (T_call (tracebookref06_Name_fun _ _ hr87) ⟨rfl, trivial⟩ rfl (.inl rfl) ?_); refine QV rfl ?_; refine W_seq ?_; refine wA rfl ?_; refine wIf hF rfl (fun _ hF => ?_) fun _ hF => ?_
   · refine wA rfl ?_; have hF := fin_0 _ (oi hF); cases hF
     exact W_ret wR
   refine W_skip ?_; refine W_seq ?_; refine W_seq ?_; refine W_join (fun _ _ h => h) hF (fun v88 => [(0, cL 3 t_api_Step p0), (3, cI a58), (49, cB v88)]) (fun v88 => []) ?_ ?_
   · rintro v88 hF
     refine wIf hF rfl (fun _ hF => ?_) fun _ hF => ?_
     · refine wA rfl ?_; have hF := fin_0 _ (oi hF); cases hF
       exact W_ret wR
     refine W_skip ?_; refine W_seq ?_; refine W_join (fun _ _ h => h) hF (fun v89 => [(0, cL 3 t_api_Step p0), (3, cI a58), (107, cB v89)]) (fun v89 => []) ?_ ?_
     · rintro v89 hF
       refine wIf hF rfl (fun _ hF => ?_) fun _ hF => ?_
       · refine wA rfl ?_; have hF := fin_0 _ (oi hF); cases hF
         exact W_ret wR
       refine W_skip ?_; refine wB rfl ?_; exact cont_0 _ _ _ (oi hF) sw
     intro join hF
     refine W_regD (by decide) (by kernel_rfl) rfl ?_; refine Q_run SP 3 rfl ?_; cases h91 : (decide (0 < a58))
     · have hF := bF' h91 hF; refine QP rfl ?_; exact join false _ _ hF sw
     have hF := bT' h91 hF; refine Q_run SP 2 rfl ?_; obtain ⟨y92, hy92, hF⟩ := bB' hF
     refine R_step SP rfl (T_ixT (tc := t_api_Step) p0 rfl rfl hy92 ?_); refine Q_run SP 5 rfl ?_; obtain ⟨y93, hy93, hF⟩ := bB' hF
     refine R_step SP rfl (T_ixT (tc := t_api_Step) p0 rfl rfl hy93 ?_); refine Q_run SP 4 rfl ?_; cases h94 : (sLt y92.fName y93.fName)
     · have hF := bF' h94 hF; refine Q_run SP 2 rfl ?_; obtain ⟨y95, hy95, hF⟩ := bB' hF
       refine R_step SP rfl (T_ixT (tc := t_api_Step) p0 rfl rfl hy95 ?_); refine Q_run SP 5 rfl ?_; obtain ⟨y96, hy96, hF⟩ := bB' hF
       refine R_step SP rfl (T_ixT (tc := t_api_Step) p0 rfl rfl hy96 ?_); refine Q_run SP 4 rfl ?_; cases h97 : (decide (y95.fName = y96.fName))
       · have hF := bF' h97 hF; refine QP rfl ?_; exact join false _ _ hF sw
       have hF := bT' h97 hF; refine Q_run SP 2 rfl ?_; obtain ⟨y98, hy98, hF⟩ := bB' hF
       refine R_step SP rfl (T_ixT (tc := t_api_Step) p0 rfl rfl hy98 ?_); refine Q_run SP 5 rfl ?_; obtain ⟨y99, hy99, hF⟩ := bB' hF
       refine R_step SP rfl (T_ixT (tc := t_api_Step) p0 rfl rfl hy99 ?_); refine Q_run SP 4 rfl ?_; cases h100 : (decide (y98.fAt ≤ y99.fAt))
       · have hF := bF' h100 hF; refine Q_run SP 2 rfl ?_; obtain ⟨y101, hy101, hF⟩ := bB' hF
         refine R_step SP rfl (T_ixT (tc := t_api_Step) p0 rfl rfl hy101 ?_); refine Q_run SP 5 rfl ?_; obtain ⟨y102, hy102, hF⟩ := bB' hF
         refine R_step SP rfl (T_ixT (tc := t_api_Step) p0 rfl rfl hy102 ?_); refine QP rfl ?_; exact join (decide (y101.fValue = y102.fValue)) _ _ hF sw
       have hF := bT' h100 hF; refine QP rfl ?_; exact join true _ _ hF sw
     have hF := bT' h94 hF; refine QP rfl ?_; exact join true _ _ hF sw
   intro join hF
   refine wD 2 rfl ?_; obtain ⟨y104, hy104, hF⟩ := bB' hF
   refine rS (T_ixT (tc := t_api_Step) p0 rfl rfl hy104 ?_); refine Q_run SV 4 rfl ?_; cases h105 : (decide (y104.fAt < 0))
   · have hF := bF' h105 hF; refine Q_run SV 2 rfl ?_; obtain ⟨y106, hy106, hF⟩ := bB' hF
     refine R_step SV rfl (T_ixT (tc := t_api_Step) p0 rfl rfl hy106 ?_); refine Q_run SV 5 rfl ?_; cases h107 : (decide (1000000000000 < y106.fAt))
     · have hF := bF' h107 hF; refine Q_run SV 2 rfl ?_; obtain ⟨y108, hy108, hF⟩ := bB' hF
       refine R_step SV rfl (T_ixT (tc := t_api_Step) p0 rfl rfl hy108 ?_); refine Q_run SV 5 rfl ?_; cases h109 : (decide (y108.fValue < (-1000000000000000)))
       · have hF := bF' h109 hF; refine Q_run SV 2 rfl ?_; obtain ⟨y110, hy110, hF⟩ := bB' hF
         refine R_step SV rfl (T_ixT (tc := t_api_Step) p0 rfl rfl hy110 ?_); refine QV rfl ?_; exact join (decide (1000000000000000 < y110.fValue)) _ _ hF sw
       have hF := bT' h109 hF; refine QV rfl ?_; exact join true _ _ hF sw
     have hF := bT' h107 hF; refine QV rfl ?_; exact join true _ _ hF sw
   have hF := bT' h105 hF; refine QV rfl ?_; exact join true _ _ hF sw
 refine W_exit ?_; refine thenQ_exit ?_; refine thenQ_exit ?_; refine blockQ_hit ?_; exact brk_0 _ _ _ (oi hF) sw
def tracebookref31_common (p0 : api_Span) (p1 : api_Span) : Option Bool :=
  (((bif (decide (p0.fFrom < p1.fTo)) then some (decide (p1.fFrom < p0.fTo)) else some false) : Option Bool).bind fun v1 => some v1)
theorem tracebookref31_common_fun (p0 : api_Span) (p1 : api_Span) (r : Bool) (hF : tracebookref31_common p0 p1 = some r) : Fun Tryz.prog 159 true [] [.agg [jI p0.fFrom, jI p0.fTo], .agg [jI p1.fFrom, jI p1.fTo]] noHeap (cB r) noHeap := by
 refine Fun.of_walk0 Tryz.func159 c159 (by kernel_rfl) (rs := [.tmp 4]) (by kernel_rfl) ?_; unfold v159
 unfold tracebookref31_common at hF
 refine wA rfl ?_; refine W_seq ?_; refine W_join (fun _ _ h => h) hF (fun v1 => [(4, cB v1)]) (fun v1 => []) ?_ ?_
 · rintro v1 hF
   cases hF
   exact W_ret wR
 intro join hF
 refine wD 6 rfl ?_; cases h2 : (decide (p0.fFrom < p1.fTo))
 · have hF := bF' h2 hF; refine QV rfl ?_; exact join false _ _ hF sw
 have hF := bT' h2 hF; refine QV rfl ?_; exact join (decide (p1.fFrom < p0.fTo)) _ _ hF sw
def tracebookref31_Check_L1 (p0 : (List api_Block)) (a104 : Int) (y155 : api_Block) : Int → Option (Int ⊕ (Unit ⊕ (Int ⊕ (Unit ⊕ Int)))) := fun a176 =>
  (bif (decide (a176 < a104)) then ((((idx p0 a176).bind fun y186 => (bif (decide (y186.fId = y155.fId)) then ((idx p0 a176).bind fun y188 => ((tracebookref31_common y188.fSpan y155.fSpan).bind fun r189 => some r189)) else some false)) : Option Bool).bind fun v184 => (bif v184 then some (.inr (.inr (.inr (.inr 4)))) else some (.inl (w64 (a176 + 1))))) else some (.inr (.inl ())))
def tracebookref31_Check_L2 (p0 : (List api_Block)) : Int → Option (Int ⊕ (Unit ⊕ Int)) := fun a104 =>
  (bif (decide (a104 < (List.length p0 : Int))) then ((idx p0 a104).bind fun y155 => (((bif (decide (y155.fId < 0)) then some true else (bif (decide (1000000000000000 < y155.fId)) then some true else (bif (decide (y155.fThread < 0)) then some true else (bif (decide (1000000000000000 < y155.fThread)) then some true else (bif (decide (y155.fSize < 1)) then some true else (bif (decide (1000000000000 < y155.fSize)) then some true else (bif (decide (y155.fSpan.fFrom < 0)) then some true else (bif (decide (y155.fSpan.fTo ≤ y155.fSpan.fFrom)) then some true else some (decide (1000000000000 < y155.fSpan.fTo)))))))))) : Option Bool).bind fun v156 => (bif v156 then some (.inr (.inr 2)) else ((tracebookref06_Frames y155.fStack).bind fun r157 => (bif (!decide (r157 = 0)) then some (.inr (.inr r157)) else (((bif (decide (0 < a104)) then ((idx p0 (w64 (a104 - 1))).bind fun y193 => some (decide (y155.fSpan.fFrom < y193.fSpan.fFrom))) else some false) : Option Bool).bind fun v158 => (bif v158 then some (.inr (.inr 11)) else ((loop (tracebookref31_Check_L1 p0 a104 y155) 0).bind fun | .inl _ => some (.inl (w64 (a104 + 1))) | .inr rv => some rv)))))))) else some (.inr (.inl ())))
def tracebookref31_Check (p0 : (List api_Block)) : Option Int :=
  ((loop (tracebookref31_Check_L2 p0) 0).bind fun | .inl _ => some 0 | .inr rv => some rv)
theorem tracebookref31_Check_fun (p0 : (List api_Block)) (r : Int) (hF : tracebookref31_Check p0 = some r) : Fun Tryz.prog 135 true [] [cL 7 t_api_Block p0] noHeap (cI r) noHeap := by
 refine Fun.of_walk0 Tryz.func135 c135 (by kernel_rfl) (rs := [.tmp 2]) (by kernel_rfl) ?_; unfold v135
 unfold tracebookref31_Check at hF
 refine wA rfl ?_; refine W_seq ?_; refine wA rfl ?_; refine W_for (fun _ _ h => h) hF (.inl) (fun a104 => [(0, cL 7 t_api_Block p0), (3, cI a104)]) (fun a104 => []) (fun _ => []) (fun _ => []) sw ?_ ?_
 · rintro ⟨⟩ hF
   refine wA rfl ?_; cases hF
   exact W_ret wR
 rintro a104 x_0 hF cont_0 brk_0 fin_0
 unfold tracebookref31_Check_L2 at hF
 refine W_seq ?_; refine wC 2 rfl ?_; refine rS (T_len (tc := t_api_Block) p0 .tree ?_); refine QV rfl ?_; refine wIf hF rfl (fun _ hF => ?_) fun _ hF => ?_
 · refine W_skip ?_; refine W_seq ?_; refine W_block ?_; refine wC 2 rfl ?_; obtain ⟨y155, hy155, hF⟩ := bB hF
   refine rS (T_ixT (tc := t_api_Block) p0 rfl rfl hy155 ?_); refine QV rfl ?_; refine W_seq ?_; refine W_seq ?_; refine W_join (fun _ _ h => h) hF (fun v156 => [(0, cL 7 t_api_Block p0), (3, cI a104), (4, cP (4,0) 0), (65, cB v156)]) (fun v156 => [((4,0), .box (m_api_Block y155))]) ?_ ?_
   · rintro v156 hF
     refine wIf hF rfl (fun _ hF => ?_) fun _ hF => ?_
     · refine wA rfl ?_; have hF := fin_0 _ (oi hF); cases hF
       exact W_ret wR
     refine W_skip ?_; refine wC 2 rfl ?_; obtain ⟨r157, hr157, hF⟩ := bB hF
     refine rS (T_call (tracebookref06_Frames_fun _ _ hr157) ⟨rfl, trivial⟩ rfl (.inl rfl) ?_); refine QV rfl ?_; refine W_seq ?_; refine wA rfl ?_; refine wIf hF rfl (fun _ hF => ?_) fun _ hF => ?_
     · refine wA rfl ?_; have hF := fin_0 _ (oi hF); cases hF
       exact W_ret wR
     refine W_skip ?_; refine W_seq ?_; refine W_seq ?_; refine W_join (fun _ _ h => h) hF (fun v158 => [(0, cL 7 t_api_Block p0), (3, cI a104), (4, cP (4,0) 0), (86, cB v158)]) (fun v158 => [((4,0), .box (m_api_Block y155))]) ?_ ?_
     · rintro v158 hF
       refine wIf hF rfl (fun _ hF => ?_) fun _ hF => ?_
       · refine wA rfl ?_; have hF := fin_0 _ (oi hF); cases hF
         exact W_ret wR
       refine W_skip ?_; refine wA rfl ?_; refine W_for (fun _ _ h => h) hF (.inl) (fun a176 => [(0, cL 7 t_api_Block p0), (3, cI a104), (4, cP (4,0) 0), (6, cI a176)]) (fun a176 => [((4,0), .box (m_api_Block y155))]) (fun _ => [(0, cL 7 t_api_Block p0), (3, cI a104)]) (fun _ => []) sw ?_ ?_
       · rintro ⟨⟩ hF
         refine wB rfl ?_; exact cont_0 _ _ _ (oi hF) sw
       rintro a176 x_1 hF cont_1 brk_1 fin_1
       unfold tracebookref31_Check_L1 at hF
       refine W_seq ?_; refine wA rfl ?_; refine wIf hF rfl (fun _ hF => ?_) fun _ hF => ?_
       · refine W_skip ?_; refine W_seq ?_; refine W_block ?_; refine W_seq ?_; refine W_join (fun _ _ h => h) hF (fun v184 => [(0, cL 7 t_api_Block p0), (3, cI a104), (4, cP (4,0) 0), (6, cI a176), (109, cB v184)]) (fun v184 => [((4,0), .box (m_api_Block y155))]) ?_ ?_
         · rintro v184 hF
           refine wIf hF rfl (fun _ hF => ?_) fun _ hF => ?_
           · refine wA rfl ?_; have hF := fin_1 _ (oi hF); have hF := fin_0 _ (oi hF); cases hF
             exact W_ret wR
           refine W_skip ?_; refine wB rfl ?_; exact cont_1 _ _ _ (oi hF) sw
         intro join hF
         refine W_regD (by decide) (by kernel_rfl) rfl ?_; refine Q_run SP 2 rfl ?_; obtain ⟨y186, hy186, hF⟩ := bB' hF
         refine R_step SP trivial (T_ixT (tc := t_api_Block) p0 rfl rfl hy186 ?_); refine Q_run SP 6 rfl ?_; cases h187 : (decide (y186.fId = y155.fId))
         · have hF := bF' h187 hF; refine QP rfl ?_; exact join false _ _ hF sw
         have hF := bT' h187 hF; refine Q_run SP 2 rfl ?_; obtain ⟨y188, hy188, hF⟩ := bB' hF
         refine R_step SP rfl (T_ixT (tc := t_api_Block) p0 rfl rfl hy188 ?_); refine Q_run SP 4 rfl ?_; obtain ⟨r189, hr189, hF⟩ := bB' hF
         refine R_step SP rfl (T_call (tracebookref31_common_fun _ _ _ hr189) ⟨⟨rfl, rfl, trivial⟩, ⟨rfl, rfl, trivial⟩, trivial⟩ rfl (.inl rfl) ?_); refine QP rfl ?_; exact join r189 _ _ hF sw
       refine W_exit ?_; refine thenQ_exit ?_; refine thenQ_exit ?_; refine blockQ_hit ?_; exact brk_1 _ _ _ (oi hF) sw
     intro join hF
     refine W_regD (by decide) (by kernel_rfl) rfl ?_; refine Q_run SP 3 rfl ?_; cases h192 : (decide (0 < a104))
     · have hF := bF' h192 hF; refine QP rfl ?_; exact join false _ _ hF sw
     have hF := bT' h192 hF; refine Q_run SP 6 rfl ?_; obtain ⟨y193, hy193, hF⟩ := bB' hF
     refine R_step SP rfl (T_ixT (tc := t_api_Block) p0 rfl rfl hy193 ?_); refine QP rfl ?_; exact join (decide (y155.fSpan.fFrom < y193.fSpan.fFrom)) _ _ hF sw
   intro join hF
   refine wD 4 rfl ?_; cases h196 : (decide (y155.fId < 0))
   · have hF := bF' h196 hF; refine Q_run SV 5 rfl ?_; cases h197 : (decide (1000000000000000 < y155.fId))
     · have hF := bF' h197 hF; refine Q_run SV 5 rfl ?_; cases h198 : (decide (y155.fThread < 0))
       · have hF := bF' h198 hF; refine Q_run SV 5 rfl ?_; cases h199 : (decide (1000000000000000 < y155.fThread))
         · have hF := bF' h199 hF; refine Q_run SV 5 rfl ?_; cases h200 : (decide (y155.fSize < 1))
           · have hF := bF' h200 hF; refine Q_run SV 5 rfl ?_; cases h201 : (decide (1000000000000 < y155.fSize))
             · have hF := bF' h201 hF; refine Q_run SV 6 rfl ?_; cases h202 : (decide (y155.fSpan.fFrom < 0))
               · have hF := bF' h202 hF; refine Q_run SV 9 rfl ?_; cases h203 : (decide (y155.fSpan.fTo ≤ y155.fSpan.fFrom))
                 · have hF := bF' h203 hF; refine QV rfl ?_; exact join (decide (1000000000000 < y155.fSpan.fTo)) _ _ hF sw
                 have hF := bT' h203 hF; refine QV rfl ?_; exact join true _ _ hF sw
               have hF := bT' h202 hF; refine QV rfl ?_; exact join true _ _ hF sw
             have hF := bT' h201 hF; refine QV rfl ?_; exact join true _ _ hF sw
           have hF := bT' h200 hF; refine QV rfl ?_; exact join true _ _ hF sw
         have hF := bT' h199 hF; refine QV rfl ?_; exact join true _ _ hF sw
       have hF := bT' h198 hF; refine QV rfl ?_; exact join true _ _ hF sw
     have hF := bT' h197 hF; refine QV rfl ?_; exact join true _ _ hF sw
   have hF := bT' h196 hF; refine QV rfl ?_; exact join true _ _ hF sw
 refine W_exit ?_; refine thenQ_exit ?_; refine thenQ_exit ?_; refine blockQ_hit ?_; exact brk_0 _ _ _ (oi hF) sw
def tracebookref32_rows_L1 (p0 : api_Trace) : (Int × Int) → Option ((Int × Int) ⊕ Int) := fun (a169, a170) =>
  (((bif (decide (a170 < (List.length p0.fLost : Int))) then some (decide (a169 = 0)) else some false) : Option Bool).bind fun v184 => (bif v184 then ((((idx p0.fLost a170).bind fun y186 => ((tracebookref32_Has p0 y186.fThread).bind fun r187 => (bif (!r187) then some 5 else ((((tracebookref04_Valid y186.fSpan).bind fun r190 => (bif (!r190) then some true else (bif (decide (y186.fCount < 1)) then some true else some (decide (1000000000000000 < y186.fCount))))) : Option Bool).bind fun v188 => (bif v188 then some 2 else some a169))))) : Option Int).bind fun v185 => some (.inl (v185, (w64 (a170 + 1))))) else some (.inr a169)))
def tracebookref32_rows_L2 (p0 : api_Trace) : (Int × Int) → Option ((Int × Int) ⊕ Int) := fun (a129, a130) =>
  (((bif (decide (a130 < (List.length p0.fBlocks : Int))) then some (decide (a129 = 0)) else some false) : Option Bool).bind fun v196 => (bif v196 then ((((idx p0.fBlocks a130).bind fun y198 => ((tracebookref32_Has p0 y198.fThread).bind fun r199 => (bif (!r199) then some 5 else some a129))) : Option Int).bind fun v197 => some (.inl (v197, (w64 (a130 + 1))))) else some (.inr a129)))
def tracebookref32_rows_L3 (p0 : api_Trace) : (Int × Int) → Option ((Int × Int) ⊕ Int) := fun (a97, a98) =>
  (((bif (decide (a98 < (List.length p0.fSamples : Int))) then some (decide (a97 = 0)) else some false) : Option Bool).bind fun v207 => (bif v207 then ((((idx p0.fSamples a98).bind fun y209 => ((tracebookref32_Has p0 y209.fThread).bind fun r210 => (bif (!r210) then some 5 else some a97))) : Option Int).bind fun v208 => some (.inl (v208, (w64 (a98 + 1))))) else some (.inr a97)))
def tracebookref32_rows_L4 (p0 : api_Trace) : (Int × Int) → Option ((Int × Int) ⊕ Int) := fun (a62, a63) =>
  (((bif (decide (a63 < (List.length p0.fFlows : Int))) then some (decide (a62 = 0)) else some false) : Option Bool).bind fun v216 => (bif v216 then ((((((idx p0.fFlows a63).bind fun y220 => ((tracebookref32_Has p0 y220.fFrom.fThread).bind fun r221 => (bif (!r221) then some true else ((idx p0.fFlows a63).bind fun y223 => ((tracebookref32_Has p0 y223.fTo.fThread).bind fun r224 => some (!r224)))))) : Option Bool).bind fun v218 => (bif v218 then some 5 else some a62)) : Option Int).bind fun v217 => some (.inl (v217, (w64 (a63 + 1))))) else some (.inr a62)))
def tracebookref32_rows_L5 (p0 : api_Trace) : (Int × Int) → Option ((Int × Int) ⊕ Int) := fun (a22, a23) =>
  (((bif (decide (a23 < (List.length p0.fSlices : Int))) then some (decide (a22 = 0)) else some false) : Option Bool).bind fun v231 => (bif v231 then ((((idx p0.fSlices a23).bind fun y233 => ((tracebookref32_Has p0 y233.fThread).bind fun r234 => (bif (!r234) then some 5 else some a22))) : Option Int).bind fun v232 => some (.inl (v232, (w64 (a23 + 1))))) else some (.inr a22)))
def tracebookref32_rows (p0 : api_Trace) : Option Int :=
  ((tracebookref26_Check p0.fSlices).bind fun r1 => ((loop (tracebookref32_rows_L5 p0) (r1, 0)).bind fun e31 => (((bif (decide (e31 = 0)) then ((tracebookref27_Check p0.fThreads p0.fStates).bind fun r229 => some r229) else some e31) : Option Int).bind fun v32 => (((bif (decide (v32 = 0)) then ((tracebookref28_Check p0.fFlows).bind fun r227 => some r227) else some v32) : Option Int).bind fun v33 => ((loop (tracebookref32_rows_L4 p0) (v33, 0)).bind fun e75 => (((bif (decide (e75 = 0)) then ((tracebookref29_Check p0.fSamples).bind fun r214 => some r214) else some e75) : Option Int).bind fun v76 => ((loop (tracebookref32_rows_L3 p0) (v76, 0)).bind fun e106 => (((bif (decide (e106 = 0)) then ((tracebookref30_Check p0.fSteps).bind fun r205 => some r205) else some e106) : Option Int).bind fun v107 => (((bif (decide (v107 = 0)) then ((tracebookref31_Check p0.fBlocks).bind fun r203 => some r203) else some v107) : Option Int).bind fun v108 => ((loop (tracebookref32_rows_L2 p0) (v108, 0)).bind fun e138 => ((loop (tracebookref32_rows_L1 p0) (e138, 0)).bind fun e183 => some e183)))))))))))
theorem tracebookref32_rows_fun (p0 : api_Trace) (r : Int) (hF : tracebookref32_rows p0 = some r) : Fun Tryz.prog 93 true [] [.agg (m_api_Trace p0)] noHeap (cI r) noHeap := by
 refine Fun.of_walk0 Tryz.func93 c93 (by kernel_rfl) (rs := [.tmp 2]) (by kernel_rfl) ?_; unfold v93
 unfold tracebookref32_rows at hF
 refine wA rfl ?_; refine wC 2 rfl ?_; obtain ⟨r1, hr1, hF⟩ := bB hF
 refine rS (T_call (tracebookref26_Check_fun _ _ hr1) ⟨rfl, trivial⟩ rfl (.inl rfl) ?_); refine QV rfl ?_; refine W_seq ?_; refine wA rfl ?_; refine W_for (fun _ _ h => h) hF (id) (fun (a22, a23) => [(1, cP (1,0) 0), (3, cI a22), (4, cI a23)]) (fun (a22, a23) => [((1,0), .box (m_api_Trace p0))]) (fun e31 => [(1, cP (1,0) 0), (3, cI e31)]) (fun e31 => [((1,0), .box (m_api_Trace p0))]) sw ?_ ?_
 · rintro e31 hF
   refine W_seq ?_; refine wA rfl ?_; refine W_join (fun _ _ h => h) hF (fun v32 => [(1, cP (1,0) 0), (3, cI v32)]) (fun v32 => [((1,0), .box (m_api_Trace p0))]) ?_ ?_
   · rintro v32 hF
     refine W_seq ?_; refine wA rfl ?_; refine W_join (fun _ _ h => h) hF (fun v33 => [(1, cP (1,0) 0), (3, cI v33)]) (fun v33 => [((1,0), .box (m_api_Trace p0))]) ?_ ?_
     · rintro v33 hF
       refine W_seq ?_; refine wA rfl ?_; refine W_for (fun _ _ h => h) hF (id) (fun (a62, a63) => [(1, cP (1,0) 0), (3, cI a62), (5, cI a63)]) (fun (a62, a63) => [((1,0), .box (m_api_Trace p0))]) (fun e75 => [(1, cP (1,0) 0), (3, cI e75)]) (fun e75 => [((1,0), .box (m_api_Trace p0))]) sw ?_ ?_
       · rintro e75 hF
         refine W_seq ?_; refine wA rfl ?_; refine W_join (fun _ _ h => h) hF (fun v76 => [(1, cP (1,0) 0), (3, cI v76)]) (fun v76 => [((1,0), .box (m_api_Trace p0))]) ?_ ?_
         · rintro v76 hF
           refine W_seq ?_; refine wA rfl ?_; refine W_for (fun _ _ h => h) hF (id) (fun (a97, a98) => [(1, cP (1,0) 0), (3, cI a97), (6, cI a98)]) (fun (a97, a98) => [((1,0), .box (m_api_Trace p0))]) (fun e106 => [(1, cP (1,0) 0), (3, cI e106)]) (fun e106 => [((1,0), .box (m_api_Trace p0))]) sw ?_ ?_
           · rintro e106 hF
             refine W_seq ?_; refine wA rfl ?_; refine W_join (fun _ _ h => h) hF (fun v107 => [(1, cP (1,0) 0), (3, cI v107)]) (fun v107 => [((1,0), .box (m_api_Trace p0))]) ?_ ?_
             · rintro v107 hF
               refine W_seq ?_; refine wA rfl ?_; refine W_join (fun _ _ h => h) hF (fun v108 => [(1, cP (1,0) 0), (3, cI v108)]) (fun v108 => [((1,0), .box (m_api_Trace p0))]) ?_ ?_
               · rintro v108 hF
                 refine W_seq ?_; refine wA rfl ?_; refine W_for (fun _ _ h => h) hF (id) (fun (a129, a130) => [(1, cP (1,0) 0), (3, cI a129), (7, cI a130)]) (fun (a129, a130) => [((1,0), .box (m_api_Trace p0))]) (fun e138 => [(1, cP (1,0) 0), (3, cI e138)]) (fun e138 => [((1,0), .box (m_api_Trace p0))]) sw ?_ ?_
                 · rintro e138 hF
                   refine W_seq ?_; refine wA rfl ?_; refine W_for (fun _ _ h => h) hF (id) (fun (a169, a170) => [(1, cP (1,0) 0), (3, cI a169), (8, cI a170)]) (fun (a169, a170) => [((1,0), .box (m_api_Trace p0))]) (fun e183 => [(3, cI e183)]) (fun e183 => []) sw ?_ ?_
                   · rintro e183 hF
                     refine wA rfl ?_; cases hF
                     exact W_ret wR
                   rintro ⟨a169, a170⟩ x_0 hF cont_0 brk_0 fin_0
                   unfold tracebookref32_rows_L1 at hF
                   refine W_seq ?_; refine W_seq ?_; refine W_join (fun _ _ h => h) hF (fun v184 => [(1, cP (1,0) 0), (3, cI a169), (8, cI a170), (141, cB v184)]) (fun v184 => [((1,0), .box (m_api_Trace p0))]) ?_ ?_
                   · rintro v184 hF
                     refine wIf hF rfl (fun _ hF => ?_) fun _ hF => ?_
                     · refine W_skip ?_; refine W_seq ?_; refine W_join (fun _ _ h => h) hF (fun v185 => [(1, cP (1,0) 0), (3, cI v185), (8, cI a170)]) (fun v185 => [((1,0), .box (m_api_Trace p0))]) ?_ ?_
                       · rintro v185 hF
                         refine wB rfl ?_; exact cont_0 _ _ _ (oi hF) sw
                       intro join hF
                       refine W_block ?_; refine wC 3 rfl ?_; obtain ⟨y186, hy186, hF⟩ := bB' hF
                       refine rS (T_ixT (tc := t_api_Loss) p0.fLost rfl rfl hy186 ?_); refine QV rfl ?_; refine wC 3 rfl ?_; obtain ⟨r187, hr187, hF⟩ := bB' hF
                       refine rS (T_call (tracebookref32_Has_fun _ _ _ hr187) ⟨⟨rfl, rfl, rfl, rfl, rfl, rfl, rfl, rfl, rfl, rfl, trivial⟩, rfl, trivial⟩ rfl (.inl rfl) ?_); refine QV rfl ?_; refine wIf' hF rfl (fun _ hF => ?_) fun _ hF => ?_
                       · refine wB rfl ?_; exact join 5 _ _ hF sw
                       refine W_seq ?_; have hF := bA hF; refine W_join (fun _ _ h => h) hF (fun v188 => [(1, cP (1,0) 0), (3, cI a169), (8, cI a170), (167, cB v188)]) (fun v188 => [((1,0), .box (m_api_Trace p0))]) ?_ ?_
                       · rintro v188 hF
                         refine wIf' hF rfl (fun _ hF => ?_) fun _ hF => ?_
                         · refine wB rfl ?_; exact join 2 _ _ hF sw
                         refine W_skip ?_; exact join a169 _ _ hF sw
                       intro join hF
                       refine wD 2 rfl ?_; obtain ⟨r190, hr190, hF⟩ := bB' hF
                       refine rS (T_call (tracebookref04_Valid_fun _ _ hr190) ⟨⟨rfl, rfl, trivial⟩, trivial⟩ rfl (.inl rfl) ?_); refine Q_run SV 2 rfl ?_; cases h191 : (!r190)
                       · have hF := bF' h191 hF; refine Q_run SV 5 rfl ?_; cases h192 : (decide (y186.fCount < 1))
                         · have hF := bF' h192 hF; refine QV rfl ?_; exact join (decide (1000000000000000 < y186.fCount)) _ _ hF sw
                         have hF := bT' h192 hF; refine QV rfl ?_; exact join true _ _ hF sw
                       have hF := bT' h191 hF; refine QV rfl ?_; exact join true _ _ hF sw
                     refine W_exit ?_; refine thenQ_exit ?_; refine thenQ_exit ?_; refine blockQ_hit ?_; exact brk_0 _ _ _ (oi hF) sw
                   intro join hF
                   refine wD 3 rfl ?_; refine rS (T_len (tc := t_api_Loss) p0.fLost .tree ?_); refine Q_run SV 2 rfl ?_; cases h195 : (decide (a170 < (List.length p0.fLost : Int)))
                   · have hF := bF' h195 hF; refine QV rfl ?_; exact join false _ _ hF sw
                   have hF := bT' h195 hF; refine QV rfl ?_; exact join (decide (a169 = 0)) _ _ hF sw
                 rintro ⟨a129, a130⟩ x_0 hF cont_0 brk_0 fin_0
                 unfold tracebookref32_rows_L2 at hF
                 refine W_seq ?_; refine W_seq ?_; refine W_join (fun _ _ h => h) hF (fun v196 => [(1, cP (1,0) 0), (3, cI a129), (7, cI a130), (121, cB v196)]) (fun v196 => [((1,0), .box (m_api_Trace p0))]) ?_ ?_
                 · rintro v196 hF
                   refine wIf hF rfl (fun _ hF => ?_) fun _ hF => ?_
                   · refine W_skip ?_; refine W_seq ?_; refine W_join (fun _ _ h => h) hF (fun v197 => [(1, cP (1,0) 0), (3, cI v197), (7, cI a130)]) (fun v197 => [((1,0), .box (m_api_Trace p0))]) ?_ ?_
                     · rintro v197 hF
                       refine wB rfl ?_; exact cont_0 _ _ _ (oi hF) sw
                     intro join hF
                     refine W_block ?_; refine W_seq ?_; refine W_regD (by decide) (by kernel_rfl) rfl ?_; refine Q_run SP 4 rfl ?_; obtain ⟨y198, hy198, hF⟩ := bB' hF
                     refine R_step SP trivial (T_ixT (tc := t_api_Block) p0.fBlocks rfl rfl hy198 ?_); refine Q_run SP 2 rfl ?_; obtain ⟨r199, hr199, hF⟩ := bB' hF
                     refine R_step SP trivial (T_call (tracebookref32_Has_fun _ _ _ hr199) ⟨⟨rfl, rfl, rfl, rfl, rfl, rfl, rfl, rfl, rfl, rfl, trivial⟩, rfl, trivial⟩ rfl (.inl rfl) ?_); refine QP rfl ?_; refine wIf' hF rfl (fun _ hF => ?_) fun _ hF => ?_
                     · refine wB rfl ?_; exact join 5 _ _ hF sw
                     refine W_skip ?_; exact join a129 _ _ hF sw
                   refine W_exit ?_; refine thenQ_exit ?_; refine thenQ_exit ?_; refine blockQ_hit ?_; exact brk_0 _ _ _ (oi hF) sw
                 intro join hF
                 refine wD 3 rfl ?_; refine rS (T_len (tc := t_api_Block) p0.fBlocks .tree ?_); refine Q_run SV 2 rfl ?_; cases h202 : (decide (a130 < (List.length p0.fBlocks : Int)))
                 · have hF := bF' h202 hF; refine QV rfl ?_; exact join false _ _ hF sw
                 have hF := bT' h202 hF; refine QV rfl ?_; exact join (decide (a129 = 0)) _ _ hF sw
               intro join hF
               refine wIf' hF rfl (fun _ hF => ?_) fun _ hF => ?_
               · refine wD 2 rfl ?_; obtain ⟨r203, hr203, hF⟩ := bB' hF
                 refine rS (T_call (tracebookref31_Check_fun _ _ hr203) ⟨rfl, trivial⟩ rfl (.inl rfl) ?_); refine QV rfl ?_; exact join r203 _ _ hF sw
               refine W_skip ?_; exact join v107 _ _ hF sw
             intro join hF
             refine wIf' hF rfl (fun _ hF => ?_) fun _ hF => ?_
             · refine wD 2 rfl ?_; obtain ⟨r205, hr205, hF⟩ := bB' hF
               refine rS (T_call (tracebookref30_Check_fun _ _ hr205) ⟨rfl, trivial⟩ rfl (.inl rfl) ?_); refine QV rfl ?_; exact join r205 _ _ hF sw
             refine W_skip ?_; exact join e106 _ _ hF sw
           rintro ⟨a97, a98⟩ x_0 hF cont_0 brk_0 fin_0
           unfold tracebookref32_rows_L3 at hF
           refine W_seq ?_; refine W_seq ?_; refine W_join (fun _ _ h => h) hF (fun v207 => [(1, cP (1,0) 0), (3, cI a97), (6, cI a98), (91, cB v207)]) (fun v207 => [((1,0), .box (m_api_Trace p0))]) ?_ ?_
           · rintro v207 hF
             refine wIf hF rfl (fun _ hF => ?_) fun _ hF => ?_
             · refine W_skip ?_; refine W_seq ?_; refine W_join (fun _ _ h => h) hF (fun v208 => [(1, cP (1,0) 0), (3, cI v208), (6, cI a98)]) (fun v208 => [((1,0), .box (m_api_Trace p0))]) ?_ ?_
               · rintro v208 hF
                 refine wB rfl ?_; exact cont_0 _ _ _ (oi hF) sw
               intro join hF
               refine W_block ?_; refine W_seq ?_; refine W_regD (by decide) (by kernel_rfl) rfl ?_; refine Q_run SP 4 rfl ?_; obtain ⟨y209, hy209, hF⟩ := bB' hF
               refine R_step SP trivial (T_ixT (tc := t_api_Sample) p0.fSamples rfl rfl hy209 ?_); refine Q_run SP 2 rfl ?_; obtain ⟨r210, hr210, hF⟩ := bB' hF
               refine R_step SP trivial (T_call (tracebookref32_Has_fun _ _ _ hr210) ⟨⟨rfl, rfl, rfl, rfl, rfl, rfl, rfl, rfl, rfl, rfl, trivial⟩, rfl, trivial⟩ rfl (.inl rfl) ?_); refine QP rfl ?_; refine wIf' hF rfl (fun _ hF => ?_) fun _ hF => ?_
               · refine wB rfl ?_; exact join 5 _ _ hF sw
               refine W_skip ?_; exact join a97 _ _ hF sw
             refine W_exit ?_; refine thenQ_exit ?_; refine thenQ_exit ?_; refine blockQ_hit ?_; exact brk_0 _ _ _ (oi hF) sw
           intro join hF
           refine wD 3 rfl ?_; refine rS (T_len (tc := t_api_Sample) p0.fSamples .tree ?_); refine Q_run SV 2 rfl ?_; cases h213 : (decide (a98 < (List.length p0.fSamples : Int)))
           · have hF := bF' h213 hF; refine QV rfl ?_; exact join false _ _ hF sw
           have hF := bT' h213 hF; refine QV rfl ?_; exact join (decide (a97 = 0)) _ _ hF sw
         intro join hF
         refine wIf' hF rfl (fun _ hF => ?_) fun _ hF => ?_
         · refine wD 2 rfl ?_; obtain ⟨r214, hr214, hF⟩ := bB' hF
           refine rS (T_call (tracebookref29_Check_fun _ _ hr214) ⟨rfl, trivial⟩ rfl (.inl rfl) ?_); refine QV rfl ?_; exact join r214 _ _ hF sw
         refine W_skip ?_; exact join e75 _ _ hF sw
       rintro ⟨a62, a63⟩ x_0 hF cont_0 brk_0 fin_0
       unfold tracebookref32_rows_L4 at hF
       refine W_seq ?_; refine W_seq ?_; refine W_join (fun _ _ h => h) hF (fun v216 => [(1, cP (1,0) 0), (3, cI a62), (5, cI a63), (53, cB v216)]) (fun v216 => [((1,0), .box (m_api_Trace p0))]) ?_ ?_
       · rintro v216 hF
         refine wIf hF rfl (fun _ hF => ?_) fun _ hF => ?_
         · refine W_skip ?_; refine W_seq ?_; refine W_join (fun _ _ h => h) hF (fun v217 => [(1, cP (1,0) 0), (3, cI v217), (5, cI a63)]) (fun v217 => [((1,0), .box (m_api_Trace p0))]) ?_ ?_
           · rintro v217 hF
             refine wB rfl ?_; exact cont_0 _ _ _ (oi hF) sw
           intro join hF
           refine W_block ?_; refine W_seq ?_; have hF := bA hF; refine W_join (fun _ _ h => h) hF (fun v218 => [(1, cP (1,0) 0), (3, cI a62), (5, cI a63), (77, cB v218)]) (fun v218 => [((1,0), .box (m_api_Trace p0))]) ?_ ?_
           · rintro v218 hF
             refine wIf' hF rfl (fun _ hF => ?_) fun _ hF => ?_
             · refine wB rfl ?_; exact join 5 _ _ hF sw
             refine W_skip ?_; exact join a62 _ _ hF sw
           intro join hF
           refine W_regD (by decide) (by kernel_rfl) rfl ?_; refine Q_run SP 4 rfl ?_; obtain ⟨y220, hy220, hF⟩ := bB' hF
           refine R_step SP trivial (T_ixT (tc := t_api_Flow) p0.fFlows rfl rfl hy220 ?_); refine Q_run SP 3 rfl ?_; obtain ⟨r221, hr221, hF⟩ := bB' hF
           refine R_step SP trivial (T_call (tracebookref32_Has_fun _ _ _ hr221) ⟨⟨rfl, rfl, rfl, rfl, rfl, rfl, rfl, rfl, rfl, rfl, trivial⟩, rfl, trivial⟩ rfl (.inl rfl) ?_); refine Q_run SP 2 rfl ?_; cases h222 : (!r221)
           · have hF := bF' h222 hF; refine Q_run SP 4 rfl ?_; obtain ⟨y223, hy223, hF⟩ := bB' hF
             refine R_step SP rfl (T_ixT (tc := t_api_Flow) p0.fFlows rfl rfl hy223 ?_); refine Q_run SP 3 rfl ?_; obtain ⟨r224, hr224, hF⟩ := bB' hF
             refine R_step SP rfl (T_call (tracebookref32_Has_fun _ _ _ hr224) ⟨⟨rfl, rfl, rfl, rfl, rfl, rfl, rfl, rfl, rfl, rfl, trivial⟩, rfl, trivial⟩ rfl (.inl rfl) ?_); refine QP rfl ?_; exact join (!r224) _ _ hF sw
           have hF := bT' h222 hF; refine QP rfl ?_; exact join true _ _ hF sw
         refine W_exit ?_; refine thenQ_exit ?_; refine thenQ_exit ?_; refine blockQ_hit ?_; exact brk_0 _ _ _ (oi hF) sw
       intro join hF
       refine wD 3 rfl ?_; refine rS (T_len (tc := t_api_Flow) p0.fFlows .tree ?_); refine Q_run SV 2 rfl ?_; cases h226 : (decide (a63 < (List.length p0.fFlows : Int)))
       · have hF := bF' h226 hF; refine QV rfl ?_; exact join false _ _ hF sw
       have hF := bT' h226 hF; refine QV rfl ?_; exact join (decide (a62 = 0)) _ _ hF sw
     intro join hF
     refine wIf' hF rfl (fun _ hF => ?_) fun _ hF => ?_
     · refine wD 2 rfl ?_; obtain ⟨r227, hr227, hF⟩ := bB' hF
       refine rS (T_call (tracebookref28_Check_fun _ _ hr227) ⟨rfl, trivial⟩ rfl (.inl rfl) ?_); refine QV rfl ?_; exact join r227 _ _ hF sw
     refine W_skip ?_; exact join v32 _ _ hF sw
   intro join hF
   refine wIf' hF rfl (fun _ hF => ?_) fun _ hF => ?_
   · refine wD 4 rfl ?_; obtain ⟨r229, hr229, hF⟩ := bB' hF
     refine rS (T_call (tracebookref27_Check_fun _ _ _ hr229) ⟨rfl, rfl, trivial⟩ rfl (.inl rfl) ?_); refine QV rfl ?_; exact join r229 _ _ hF sw
   refine W_skip ?_; exact join e31 _ _ hF sw
 rintro ⟨a22, a23⟩ x_0 hF cont_0 brk_0 fin_0
 unfold tracebookref32_rows_L5 at hF
 refine W_seq ?_; refine W_seq ?_; refine W_join (fun _ _ h => h) hF (fun v231 => [(1, cP (1,0) 0), (3, cI a22), (4, cI a23), (21, cB v231)]) (fun v231 => [((1,0), .box (m_api_Trace p0))]) ?_ ?_
 · rintro v231 hF
   refine wIf hF rfl (fun _ hF => ?_) fun _ hF => ?_
   · refine W_skip ?_; refine W_seq ?_; refine W_join (fun _ _ h => h) hF (fun v232 => [(1, cP (1,0) 0), (3, cI v232), (4, cI a23)]) (fun v232 => [((1,0), .box (m_api_Trace p0))]) ?_ ?_
     · rintro v232 hF
       refine wB rfl ?_; exact cont_0 _ _ _ (oi hF) sw
     intro join hF
     refine W_block ?_; refine W_seq ?_; refine W_regD (by decide) (by kernel_rfl) rfl ?_; refine Q_run SP 4 rfl ?_; obtain ⟨y233, hy233, hF⟩ := bB' hF
     refine R_step SP trivial (T_ixT (tc := t_api_Slice) p0.fSlices rfl rfl hy233 ?_); refine Q_run SP 2 rfl ?_; obtain ⟨r234, hr234, hF⟩ := bB' hF
     refine R_step SP trivial (T_call (tracebookref32_Has_fun _ _ _ hr234) ⟨⟨rfl, rfl, rfl, rfl, rfl, rfl, rfl, rfl, rfl, rfl, trivial⟩, rfl, trivial⟩ rfl (.inl rfl) ?_); refine QP rfl ?_; refine wIf' hF rfl (fun _ hF => ?_) fun _ hF => ?_
     · refine wB rfl ?_; exact join 5 _ _ hF sw
     refine W_skip ?_; exact join a22 _ _ hF sw
   refine W_exit ?_; refine thenQ_exit ?_; refine thenQ_exit ?_; refine blockQ_hit ?_; exact brk_0 _ _ _ (oi hF) sw
 intro join hF
 refine wD 3 rfl ?_; refine rS (T_len (tc := t_api_Slice) p0.fSlices .tree ?_); refine Q_run SV 2 rfl ?_; cases h237 : (decide (a23 < (List.length p0.fSlices : Int)))
 · have hF := bF' h237 hF; refine QV rfl ?_; exact join false _ _ hF sw
 have hF := bT' h237 hF; refine QV rfl ?_; exact join (decide (a22 = 0)) _ _ hF sw
def tracebookref32_tables_L1 (p0 : api_Trace) (a52 : Int) : Int → Option (Int ⊕ (Unit ⊕ (Int ⊕ (Unit ⊕ Int)))) := fun a91 =>
  (bif (decide (a91 < a52)) then ((idx p0.fThreads a91).bind fun y96 => ((idx p0.fThreads a52).bind fun y97 => (bif (decide (y96.fId = y97.fId)) then some (.inr (.inr (.inr (.inr 4)))) else some (.inl (w64 (a91 + 1)))))) else some (.inr (.inl ())))
def tracebookref32_tables_L2 (p0 : api_Trace) : Int → Option (Int ⊕ (Unit ⊕ Int)) := fun a52 =>
  (bif (decide (a52 < (List.length p0.fThreads : Int))) then ((idx p0.fThreads a52).bind fun y78 => ((tracebookref10_Thread y78).bind fun r79 => (bif (!decide (r79 = 0)) then some (.inr (.inr r79)) else ((loop (tracebookref32_tables_L1 p0 a52) 0).bind fun | .inl _ => some (.inl (w64 (a52 + 1))) | .inr rv => some rv)))) else some (.inr (.inl ())))
def tracebookref32_tables (p0 : api_Trace) : Option Int :=
  (bif (decide (64 < (List.length p0.fThreads : Int))) then some 7 else ((loop (tracebookref32_tables_L2 p0) 0).bind fun | .inl _ => ((tracebookref32_rows p0).bind fun r77 => some r77) | .inr rv => some rv))
theorem tracebookref32_tables_fun (p0 : api_Trace) (r : Int) (hF : tracebookref32_tables p0 = some r) : Fun Tryz.prog 49 true [] [.agg (m_api_Trace p0)] noHeap (cI r) noHeap := by
 refine Fun.of_walk0 Tryz.func49 c49 (by kernel_rfl) (rs := [.tmp 2]) (by kernel_rfl) ?_; unfold v49
 unfold tracebookref32_tables at hF
 refine wA rfl ?_; refine W_seq ?_; refine wC 2 rfl ?_; refine rS (T_len (tc := t_api_Thread) p0.fThreads .tree ?_); refine QV rfl ?_; refine wIf hF rfl (fun _ hF => ?_) fun _ hF => ?_
 · refine wA rfl ?_; cases hF
   exact W_ret wR
 refine W_skip ?_; refine W_seq ?_; refine wA rfl ?_; refine W_for (fun _ _ h => h) hF (.inl) (fun a52 => [(1, cP (1,0) 0), (3, cI a52)]) (fun a52 => [((1,0), .box (m_api_Trace p0))]) (fun _ => [(1, cP (1,0) 0)]) (fun _ => [((1,0), .box (m_api_Trace p0))]) sw ?_ ?_
 · rintro ⟨⟩ hF
   refine wC 1 rfl ?_; obtain ⟨r77, hr77, hF⟩ := bB hF
   refine rS (T_call (tracebookref32_rows_fun _ _ hr77) ⟨⟨rfl, rfl, rfl, rfl, rfl, rfl, rfl, rfl, rfl, rfl, trivial⟩, trivial⟩ rfl (.inl rfl) ?_); refine QV rfl ?_; cases hF
   exact W_ret wR
 rintro a52 x_0 hF cont_0 brk_0 fin_0
 unfold tracebookref32_tables_L2 at hF
 refine W_seq ?_; refine wC 3 rfl ?_; refine rS (T_len (tc := t_api_Thread) p0.fThreads .tree ?_); refine QV rfl ?_; refine wIf hF rfl (fun _ hF => ?_) fun _ hF => ?_
 · refine W_skip ?_; refine W_seq ?_; refine W_block ?_; refine wC 3 rfl ?_; obtain ⟨y78, hy78, hF⟩ := bB hF
   refine rS (T_ixT (tc := t_api_Thread) p0.fThreads rfl rfl hy78 ?_); refine Q_run SV 1 rfl ?_; obtain ⟨r79, hr79, hF⟩ := bB hF
   refine rS (T_call (tracebookref10_Thread_fun _ _ hr79) ⟨⟨rfl, rfl, rfl, trivial⟩, trivial⟩ rfl (.inl rfl) ?_); refine QV rfl ?_; refine W_seq ?_; refine wA rfl ?_; refine wIf hF rfl (fun _ hF => ?_) fun _ hF => ?_
   · refine wA rfl ?_; have hF := fin_0 _ (oi hF); cases hF
     exact W_ret wR
   refine W_skip ?_; refine wA rfl ?_; refine W_for (fun _ _ h => h) hF (.inl) (fun a91 => [(1, cP (1,0) 0), (3, cI a52), (5, cI a91)]) (fun a91 => [((1,0), .box (m_api_Trace p0))]) (fun _ => [(1, cP (1,0) 0), (3, cI a52)]) (fun _ => [((1,0), .box (m_api_Trace p0))]) sw ?_ ?_
   · rintro ⟨⟩ hF
     refine wB rfl ?_; exact cont_0 _ _ _ (oi hF) sw
   rintro a91 x_1 hF cont_1 brk_1 fin_1
   unfold tracebookref32_tables_L1 at hF
   refine W_seq ?_; refine wA rfl ?_; refine wIf hF rfl (fun _ hF => ?_) fun _ hF => ?_
   · refine W_skip ?_; refine W_seq ?_; refine W_block ?_; refine W_seq ?_; refine W_regD (by decide) (by kernel_rfl) rfl ?_; refine Q_run SP 3 rfl ?_; obtain ⟨y96, hy96, hF⟩ := bB hF
     refine R_step SP trivial (T_ixT (tc := t_api_Thread) p0.fThreads rfl rfl hy96 ?_); refine Q_run SP 5 rfl ?_; obtain ⟨y97, hy97, hF⟩ := bB hF
     refine R_step SP trivial (T_ixT (tc := t_api_Thread) p0.fThreads rfl rfl hy97 ?_); refine QP rfl ?_; refine wIf hF rfl (fun _ hF => ?_) fun _ hF => ?_
     · refine wA rfl ?_; have hF := fin_1 _ (oi hF); have hF := fin_0 _ (oi hF); cases hF
       exact W_ret wR
     refine W_skip ?_; refine wB rfl ?_; exact cont_1 _ _ _ (oi hF) sw
   refine W_exit ?_; refine thenQ_exit ?_; refine thenQ_exit ?_; refine blockQ_hit ?_; exact brk_1 _ _ _ (oi hF) sw
 refine W_exit ?_; refine thenQ_exit ?_; refine thenQ_exit ?_; refine blockQ_hit ?_; exact brk_0 _ _ _ (oi hF) sw
def tracebookref32_within (p0 : api_Span) (p1 : api_Span) : Option Bool :=
  (((bif (decide (p1.fFrom ≤ p0.fFrom)) then some (decide (p0.fTo ≤ p1.fTo)) else some false) : Option Bool).bind fun v1 => some v1)
theorem tracebookref32_within_fun (p0 : api_Span) (p1 : api_Span) (r : Bool) (hF : tracebookref32_within p0 p1 = some r) : Fun Tryz.prog 50 true [] [.agg [jI p0.fFrom, jI p0.fTo], .agg [jI p1.fFrom, jI p1.fTo]] noHeap (cB r) noHeap := by
 refine Fun.of_walk0 Tryz.func50 c50 (by kernel_rfl) (rs := [.tmp 4]) (by kernel_rfl) ?_; unfold v50
 unfold tracebookref32_within at hF
 refine wA rfl ?_; refine W_seq ?_; refine W_join (fun _ _ h => h) hF (fun v1 => [(4, cB v1)]) (fun v1 => []) ?_ ?_
 · rintro v1 hF
   cases hF
   exact W_ret wR
 intro join hF
 refine wD 6 rfl ?_; cases h2 : (decide (p1.fFrom ≤ p0.fFrom))
 · have hF := bF' h2 hF; refine QV rfl ?_; exact join false _ _ hF sw
 have hF := bT' h2 hF; refine QV rfl ?_; exact join (decide (p0.fTo ≤ p1.fTo)) _ _ hF sw
def tracebookref32_inside (p0 : Int) (p1 : api_Span) : Option Bool :=
  (((bif (decide (p1.fFrom ≤ p0)) then some (decide (p0 < p1.fTo)) else some false) : Option Bool).bind fun v1 => some v1)
theorem tracebookref32_inside_fun (p0 : Int) (p1 : api_Span) (r : Bool) (hF : tracebookref32_inside p0 p1 = some r) : Fun Tryz.prog 51 true [] [cI p0, .agg [jI p1.fFrom, jI p1.fTo]] noHeap (cB r) noHeap := by
 refine Fun.of_walk0 Tryz.func51 c51 (by kernel_rfl) (rs := [.tmp 4]) (by kernel_rfl) ?_; unfold v51
 unfold tracebookref32_inside at hF
 refine wA rfl ?_; refine W_seq ?_; refine W_join (fun _ _ h => h) hF (fun v1 => [(4, cB v1)]) (fun v1 => []) ?_ ?_
 · rintro v1 hF
   cases hF
   exact W_ret wR
 intro join hF
 refine wD 5 rfl ?_; cases h2 : (decide (p1.fFrom ≤ p0))
 · have hF := bF' h2 hF; refine QV rfl ?_; exact join false _ _ hF sw
 have hF := bT' h2 hF; refine QV rfl ?_; exact join (decide (p0 < p1.fTo)) _ _ hF sw
def tracebookref32_Check_L1 (p0 : api_Trace) : (Bool × Int) → Option ((Bool × Int) ⊕ Bool) := fun (a146, a147) =>
  (bif (decide (a147 < (List.length p0.fSteps : Int))) then (((bif a146 then ((idx p0.fSteps a147).bind fun y157 => ((tracebookref32_inside y157.fAt p0.fSpan).bind fun r158 => some r158)) else some false) : Option Bool).bind fun v155 => some (.inl (v155, (w64 (a147 + 1))))) else some (.inr a146))
def tracebookref32_Check_L2 (p0 : api_Trace) : (Bool × Int) → Option ((Bool × Int) ⊕ Bool) := fun (a122, a123) =>
  (bif (decide (a123 < (List.length p0.fSamples : Int))) then (((bif a122 then ((idx p0.fSamples a123).bind fun y162 => ((tracebookref32_inside y162.fAt p0.fSpan).bind fun r163 => some r163)) else some false) : Option Bool).bind fun v160 => some (.inl (v160, (w64 (a123 + 1))))) else some (.inr a122))
def tracebookref32_Check_L3 (p0 : api_Trace) : (Bool × Int) → Option ((Bool × Int) ⊕ Bool) := fun (a95, a96) =>
  (bif (decide (a96 < (List.length p0.fFlows : Int))) then (((bif a95 then ((idx p0.fFlows a96).bind fun y167 => ((tracebookref32_inside y167.fSend p0.fSpan).bind fun r168 => (bif r168 then ((idx p0.fFlows a96).bind fun y170 => ((tracebookref32_inside y170.fRecv p0.fSpan).bind fun r171 => some r171)) else some false))) else some false) : Option Bool).bind fun v165 => some (.inl (v165, (w64 (a96 + 1))))) else some (.inr a95))
def tracebookref32_Check_L4 (p0 : api_Trace) : (Bool × Int) → Option ((Bool × Int) ⊕ Bool) := fun (a65, a66) =>
  (bif (decide (a66 < (List.length p0.fBlocks : Int))) then (((bif a65 then ((idx p0.fBlocks a66).bind fun y175 => ((tracebookref32_within y175.fSpan p0.fSpan).bind fun r176 => some r176)) else some false) : Option Bool).bind fun v173 => some (.inl (v173, (w64 (a66 + 1))))) else some (.inr a65))
def tracebookref32_Check_L5 (p0 : api_Trace) : (Bool × Int) → Option ((Bool × Int) ⊕ Bool) := fun (a41, a42) =>
  (bif (decide (a42 < (List.length p0.fStates : Int))) then (((bif a41 then ((idx p0.fStates a42).bind fun y180 => ((tracebookref32_within y180.fSpan p0.fSpan).bind fun r181 => some r181)) else some false) : Option Bool).bind fun v178 => some (.inl (v178, (w64 (a42 + 1))))) else some (.inr a41))
def tracebookref32_Check_L6 (p0 : api_Trace) : (Bool × Int) → Option ((Bool × Int) ⊕ Bool) := fun (a17, a18) =>
  (bif (decide (a18 < (List.length p0.fSlices : Int))) then (((bif a17 then ((idx p0.fSlices a18).bind fun y185 => ((tracebookref32_within y185.fSpan p0.fSpan).bind fun r186 => some r186)) else some false) : Option Bool).bind fun v183 => some (.inl (v183, (w64 (a18 + 1))))) else some (.inr a17))
def tracebookref32_Check (p0 : api_Trace) : Option Int :=
  ((tracebookref32_tables p0).bind fun r1 => (bif (!decide (r1 = 0)) then some r1 else (((bif (decide (p0.fSpan.fFrom < 0)) then some true else (bif (decide (p0.fSpan.fTo < p0.fSpan.fFrom)) then some true else some (decide (1000000000000 < p0.fSpan.fTo)))) : Option Bool).bind fun v2 => (bif v2 then some 2 else ((loop (tracebookref32_Check_L6 p0) (true, 0)).bind fun e24 => ((loop (tracebookref32_Check_L5 p0) (e24, 0)).bind fun e48 => ((loop (tracebookref32_Check_L4 p0) (e48, 0)).bind fun e72 => ((loop (tracebookref32_Check_L3 p0) (e72, 0)).bind fun e105 => ((loop (tracebookref32_Check_L2 p0) (e105, 0)).bind fun e129 => ((loop (tracebookref32_Check_L1 p0) (e129, 0)).bind fun e153 => (bif (!e153) then some 10 else some 0)))))))))))
theorem tracebookref32_Check_fun (p0 : api_Trace) (r : Int) (hF : tracebookref32_Check p0 = some r) : Fun Tryz.prog 31 true [] [.agg (m_api_Trace p0)] noHeap (cI r) noHeap := by
 refine Fun.of_walk0 Tryz.func31 c31 (by kernel_rfl) (rs := [.tmp 2]) (by kernel_rfl) ?_; unfold v31
 unfold tracebookref32_Check at hF
 refine wA rfl ?_; refine wC 1 rfl ?_; obtain ⟨r1, hr1, hF⟩ := bB hF
 refine rS (T_call (tracebookref32_tables_fun _ _ hr1) ⟨⟨rfl, rfl, rfl, rfl, rfl, rfl, rfl, rfl, rfl, rfl, trivial⟩, trivial⟩ rfl (.inl rfl) ?_); refine QV rfl ?_; refine W_seq ?_; refine wA rfl ?_; refine wIf hF rfl (fun _ hF => ?_) fun _ hF => ?_
 · refine wA rfl ?_; cases hF
   exact W_ret wR
 refine W_skip ?_; refine wA rfl ?_; refine W_seq ?_; refine W_seq ?_; refine W_join (fun _ _ h => h) hF (fun v2 => [(1, cP (1,0) 0), (4, cP (4,0) 0), (33, cB v2)]) (fun v2 => [((1,0), .box (m_api_Trace p0)), ((4,0), .box [jI p0.fSpan.fFrom, jI p0.fSpan.fTo])]) ?_ ?_
 · rintro v2 hF
   refine wIf hF rfl (fun _ hF => ?_) fun _ hF => ?_
   · refine wA rfl ?_; cases hF
     exact W_ret wR
   refine W_skip ?_; refine wA rfl ?_; refine W_seq ?_; refine wA rfl ?_; refine W_for (fun _ _ h => h) hF (id) (fun (a17, a18) => [(1, cP (1,0) 0), (4, cP (4,0) 0), (5, cB a17), (6, cI a18)]) (fun (a17, a18) => [((1,0), .box (m_api_Trace p0)), ((4,0), .box [jI p0.fSpan.fFrom, jI p0.fSpan.fTo])]) (fun e24 => [(1, cP (1,0) 0), (4, cP (4,0) 0), (5, cB e24)]) (fun e24 => [((1,0), .box (m_api_Trace p0)), ((4,0), .box [jI p0.fSpan.fFrom, jI p0.fSpan.fTo])]) sw ?_ ?_
   · rintro e24 hF
     refine W_seq ?_; refine wA rfl ?_; refine W_for (fun _ _ h => h) hF (id) (fun (a41, a42) => [(1, cP (1,0) 0), (4, cP (4,0) 0), (5, cB a41), (7, cI a42)]) (fun (a41, a42) => [((1,0), .box (m_api_Trace p0)), ((4,0), .box [jI p0.fSpan.fFrom, jI p0.fSpan.fTo])]) (fun e48 => [(1, cP (1,0) 0), (4, cP (4,0) 0), (5, cB e48)]) (fun e48 => [((1,0), .box (m_api_Trace p0)), ((4,0), .box [jI p0.fSpan.fFrom, jI p0.fSpan.fTo])]) sw ?_ ?_
     · rintro e48 hF
       refine W_seq ?_; refine wA rfl ?_; refine W_for (fun _ _ h => h) hF (id) (fun (a65, a66) => [(1, cP (1,0) 0), (4, cP (4,0) 0), (5, cB a65), (8, cI a66)]) (fun (a65, a66) => [((1,0), .box (m_api_Trace p0)), ((4,0), .box [jI p0.fSpan.fFrom, jI p0.fSpan.fTo])]) (fun e72 => [(1, cP (1,0) 0), (4, cP (4,0) 0), (5, cB e72)]) (fun e72 => [((1,0), .box (m_api_Trace p0)), ((4,0), .box [jI p0.fSpan.fFrom, jI p0.fSpan.fTo])]) sw ?_ ?_
       · rintro e72 hF
         refine W_seq ?_; refine wA rfl ?_; refine W_for (fun _ _ h => h) hF (id) (fun (a95, a96) => [(1, cP (1,0) 0), (4, cP (4,0) 0), (5, cB a95), (9, cI a96)]) (fun (a95, a96) => [((1,0), .box (m_api_Trace p0)), ((4,0), .box [jI p0.fSpan.fFrom, jI p0.fSpan.fTo])]) (fun e105 => [(1, cP (1,0) 0), (4, cP (4,0) 0), (5, cB e105)]) (fun e105 => [((1,0), .box (m_api_Trace p0)), ((4,0), .box [jI p0.fSpan.fFrom, jI p0.fSpan.fTo])]) sw ?_ ?_
         · rintro e105 hF
           refine W_seq ?_; refine wA rfl ?_; refine W_for (fun _ _ h => h) hF (id) (fun (a122, a123) => [(1, cP (1,0) 0), (4, cP (4,0) 0), (5, cB a122), (10, cI a123)]) (fun (a122, a123) => [((1,0), .box (m_api_Trace p0)), ((4,0), .box [jI p0.fSpan.fFrom, jI p0.fSpan.fTo])]) (fun e129 => [(1, cP (1,0) 0), (4, cP (4,0) 0), (5, cB e129)]) (fun e129 => [((1,0), .box (m_api_Trace p0)), ((4,0), .box [jI p0.fSpan.fFrom, jI p0.fSpan.fTo])]) sw ?_ ?_
           · rintro e129 hF
             refine W_seq ?_; refine wA rfl ?_; refine W_for (fun _ _ h => h) hF (id) (fun (a146, a147) => [(1, cP (1,0) 0), (4, cP (4,0) 0), (5, cB a146), (11, cI a147)]) (fun (a146, a147) => [((1,0), .box (m_api_Trace p0)), ((4,0), .box [jI p0.fSpan.fFrom, jI p0.fSpan.fTo])]) (fun e153 => [(5, cB e153)]) (fun e153 => []) sw ?_ ?_
             · rintro e153 hF
               refine W_seq ?_; refine wA rfl ?_; refine wIf hF rfl (fun _ hF => ?_) fun _ hF => ?_
               · refine wA rfl ?_; cases hF
                 exact W_ret wR
               refine W_skip ?_; refine wA rfl ?_; cases hF
               exact W_ret wR
             rintro ⟨a146, a147⟩ x_0 hF cont_0 brk_0 fin_0
             unfold tracebookref32_Check_L1 at hF
             refine W_seq ?_; refine wC 3 rfl ?_; refine rS (T_len (tc := t_api_Step) p0.fSteps .tree ?_); refine QV rfl ?_; refine wIf hF rfl (fun _ hF => ?_) fun _ hF => ?_
             · refine W_skip ?_; refine W_seq ?_; refine W_join (fun _ _ h => h) hF (fun v155 => [(1, cP (1,0) 0), (4, cP (4,0) 0), (5, cB v155), (11, cI a147)]) (fun v155 => [((1,0), .box (m_api_Trace p0)), ((4,0), .box [jI p0.fSpan.fFrom, jI p0.fSpan.fTo])]) ?_ ?_
               · rintro v155 hF
                 refine wB rfl ?_; exact cont_0 _ _ _ (oi hF) sw
               intro join hF
               refine W_block ?_; refine W_regD (by decide) (by kernel_rfl) rfl ?_; refine Q_run SP 2 rfl ?_; cases h156 : a146
               · have hF := bF' h156 hF; refine QP rfl ?_; exact join false _ _ hF sw
               have hF := bT' h156 hF; refine Q_run SP 3 rfl ?_; obtain ⟨y157, hy157, hF⟩ := bB' hF
               refine R_step SP rfl (T_ixT (tc := t_api_Step) p0.fSteps rfl rfl hy157 ?_); refine Q_run SP 3 rfl ?_; obtain ⟨r158, hr158, hF⟩ := bB' hF
               refine R_step SP rfl (T_call (tracebookref32_inside_fun _ _ _ hr158) ⟨rfl, ⟨rfl, rfl, trivial⟩, trivial⟩ rfl (.inl rfl) ?_); refine QP rfl ?_; exact join r158 _ _ hF sw
             refine W_exit ?_; refine thenQ_exit ?_; refine thenQ_exit ?_; refine blockQ_hit ?_; exact brk_0 _ _ _ (oi hF) sw
           rintro ⟨a122, a123⟩ x_0 hF cont_0 brk_0 fin_0
           unfold tracebookref32_Check_L2 at hF
           refine W_seq ?_; refine wC 3 rfl ?_; refine rS (T_len (tc := t_api_Sample) p0.fSamples .tree ?_); refine QV rfl ?_; refine wIf hF rfl (fun _ hF => ?_) fun _ hF => ?_
           · refine W_skip ?_; refine W_seq ?_; refine W_join (fun _ _ h => h) hF (fun v160 => [(1, cP (1,0) 0), (4, cP (4,0) 0), (5, cB v160), (10, cI a123)]) (fun v160 => [((1,0), .box (m_api_Trace p0)), ((4,0), .box [jI p0.fSpan.fFrom, jI p0.fSpan.fTo])]) ?_ ?_
             · rintro v160 hF
               refine wB rfl ?_; exact cont_0 _ _ _ (oi hF) sw
             intro join hF
             refine W_block ?_; refine W_regD (by decide) (by kernel_rfl) rfl ?_; refine Q_run SP 2 rfl ?_; cases h161 : a122
             · have hF := bF' h161 hF; refine QP rfl ?_; exact join false _ _ hF sw
             have hF := bT' h161 hF; refine Q_run SP 3 rfl ?_; obtain ⟨y162, hy162, hF⟩ := bB' hF
             refine R_step SP rfl (T_ixT (tc := t_api_Sample) p0.fSamples rfl rfl hy162 ?_); refine Q_run SP 3 rfl ?_; obtain ⟨r163, hr163, hF⟩ := bB' hF
             refine R_step SP rfl (T_call (tracebookref32_inside_fun _ _ _ hr163) ⟨rfl, ⟨rfl, rfl, trivial⟩, trivial⟩ rfl (.inl rfl) ?_); refine QP rfl ?_; exact join r163 _ _ hF sw
           refine W_exit ?_; refine thenQ_exit ?_; refine thenQ_exit ?_; refine blockQ_hit ?_; exact brk_0 _ _ _ (oi hF) sw
         rintro ⟨a95, a96⟩ x_0 hF cont_0 brk_0 fin_0
         unfold tracebookref32_Check_L3 at hF
         refine W_seq ?_; refine wC 3 rfl ?_; refine rS (T_len (tc := t_api_Flow) p0.fFlows .tree ?_); refine QV rfl ?_; refine wIf hF rfl (fun _ hF => ?_) fun _ hF => ?_
         · refine W_skip ?_; refine W_seq ?_; refine W_join (fun _ _ h => h) hF (fun v165 => [(1, cP (1,0) 0), (4, cP (4,0) 0), (5, cB v165), (9, cI a96)]) (fun v165 => [((1,0), .box (m_api_Trace p0)), ((4,0), .box [jI p0.fSpan.fFrom, jI p0.fSpan.fTo])]) ?_ ?_
           · rintro v165 hF
             refine wB rfl ?_; exact cont_0 _ _ _ (oi hF) sw
           intro join hF
           refine W_block ?_; refine W_regD (by decide) (by kernel_rfl) rfl ?_; refine Q_run SP 2 rfl ?_; cases h166 : a95
           · have hF := bF' h166 hF; refine QP rfl ?_; exact join false _ _ hF sw
           have hF := bT' h166 hF; refine Q_run SP 3 rfl ?_; obtain ⟨y167, hy167, hF⟩ := bB' hF
           refine R_step SP rfl (T_ixT (tc := t_api_Flow) p0.fFlows rfl rfl hy167 ?_); refine Q_run SP 3 rfl ?_; obtain ⟨r168, hr168, hF⟩ := bB' hF
           refine R_step SP rfl (T_call (tracebookref32_inside_fun _ _ _ hr168) ⟨rfl, ⟨rfl, rfl, trivial⟩, trivial⟩ rfl (.inl rfl) ?_); refine Q_run SP 2 rfl ?_; cases h169 : r168
           · have hF := bF' h169 hF; refine QP rfl ?_; exact join false _ _ hF sw
           have hF := bT' h169 hF; refine Q_run SP 3 rfl ?_; obtain ⟨y170, hy170, hF⟩ := bB' hF
           refine R_step SP rfl (T_ixT (tc := t_api_Flow) p0.fFlows rfl rfl hy170 ?_); refine Q_run SP 3 rfl ?_; obtain ⟨r171, hr171, hF⟩ := bB' hF
           refine R_step SP rfl (T_call (tracebookref32_inside_fun _ _ _ hr171) ⟨rfl, ⟨rfl, rfl, trivial⟩, trivial⟩ rfl (.inl rfl) ?_); refine QP rfl ?_; exact join r171 _ _ hF sw
         refine W_exit ?_; refine thenQ_exit ?_; refine thenQ_exit ?_; refine blockQ_hit ?_; exact brk_0 _ _ _ (oi hF) sw
       rintro ⟨a65, a66⟩ x_0 hF cont_0 brk_0 fin_0
       unfold tracebookref32_Check_L4 at hF
       refine W_seq ?_; refine wC 3 rfl ?_; refine rS (T_len (tc := t_api_Block) p0.fBlocks .tree ?_); refine QV rfl ?_; refine wIf hF rfl (fun _ hF => ?_) fun _ hF => ?_
       · refine W_skip ?_; refine W_seq ?_; refine W_join (fun _ _ h => h) hF (fun v173 => [(1, cP (1,0) 0), (4, cP (4,0) 0), (5, cB v173), (8, cI a66)]) (fun v173 => [((1,0), .box (m_api_Trace p0)), ((4,0), .box [jI p0.fSpan.fFrom, jI p0.fSpan.fTo])]) ?_ ?_
         · rintro v173 hF
           refine wB rfl ?_; exact cont_0 _ _ _ (oi hF) sw
         intro join hF
         refine W_block ?_; refine W_regD (by decide) (by kernel_rfl) rfl ?_; refine Q_run SP 2 rfl ?_; cases h174 : a65
         · have hF := bF' h174 hF; refine QP rfl ?_; exact join false _ _ hF sw
         have hF := bT' h174 hF; refine Q_run SP 3 rfl ?_; obtain ⟨y175, hy175, hF⟩ := bB' hF
         refine R_step SP rfl (T_ixT (tc := t_api_Block) p0.fBlocks rfl rfl hy175 ?_); refine Q_run SP 3 rfl ?_; obtain ⟨r176, hr176, hF⟩ := bB' hF
         refine R_step SP rfl (T_call (tracebookref32_within_fun _ _ _ hr176) ⟨⟨rfl, rfl, trivial⟩, ⟨rfl, rfl, trivial⟩, trivial⟩ rfl (.inl rfl) ?_); refine QP rfl ?_; exact join r176 _ _ hF sw
       refine W_exit ?_; refine thenQ_exit ?_; refine thenQ_exit ?_; refine blockQ_hit ?_; exact brk_0 _ _ _ (oi hF) sw
     rintro ⟨a41, a42⟩ x_0 hF cont_0 brk_0 fin_0
     unfold tracebookref32_Check_L5 at hF
     refine W_seq ?_; refine wC 3 rfl ?_; refine rS (T_len (tc := t_api_State) p0.fStates .tree ?_); refine QV rfl ?_; refine wIf hF rfl (fun _ hF => ?_) fun _ hF => ?_
     · refine W_skip ?_; refine W_seq ?_; refine W_join (fun _ _ h => h) hF (fun v178 => [(1, cP (1,0) 0), (4, cP (4,0) 0), (5, cB v178), (7, cI a42)]) (fun v178 => [((1,0), .box (m_api_Trace p0)), ((4,0), .box [jI p0.fSpan.fFrom, jI p0.fSpan.fTo])]) ?_ ?_
       · rintro v178 hF
         refine wB rfl ?_; exact cont_0 _ _ _ (oi hF) sw
       intro join hF
       refine W_block ?_; refine W_regD (by decide) (by kernel_rfl) rfl ?_; refine Q_run SP 2 rfl ?_; cases h179 : a41
       · have hF := bF' h179 hF; refine QP rfl ?_; exact join false _ _ hF sw
       have hF := bT' h179 hF; refine Q_run SP 3 rfl ?_; obtain ⟨y180, hy180, hF⟩ := bB' hF
       refine R_step SP rfl (T_ixT (tc := t_api_State) p0.fStates rfl rfl hy180 ?_); refine Q_run SP 3 rfl ?_; obtain ⟨r181, hr181, hF⟩ := bB' hF
       refine R_step SP rfl (T_call (tracebookref32_within_fun _ _ _ hr181) ⟨⟨rfl, rfl, trivial⟩, ⟨rfl, rfl, trivial⟩, trivial⟩ rfl (.inl rfl) ?_); refine QP rfl ?_; exact join r181 _ _ hF sw
     refine W_exit ?_; refine thenQ_exit ?_; refine thenQ_exit ?_; refine blockQ_hit ?_; exact brk_0 _ _ _ (oi hF) sw
   rintro ⟨a17, a18⟩ x_0 hF cont_0 brk_0 fin_0
   unfold tracebookref32_Check_L6 at hF
   refine W_seq ?_; refine wC 3 rfl ?_; refine rS (T_len (tc := t_api_Slice) p0.fSlices .tree ?_); refine QV rfl ?_; refine wIf hF rfl (fun _ hF => ?_) fun _ hF => ?_
   · refine W_skip ?_; refine W_seq ?_; refine W_join (fun _ _ h => h) hF (fun v183 => [(1, cP (1,0) 0), (4, cP (4,0) 0), (5, cB v183), (6, cI a18)]) (fun v183 => [((1,0), .box (m_api_Trace p0)), ((4,0), .box [jI p0.fSpan.fFrom, jI p0.fSpan.fTo])]) ?_ ?_
     · rintro v183 hF
       refine wB rfl ?_; exact cont_0 _ _ _ (oi hF) sw
     intro join hF
     refine W_block ?_; refine W_regD (by decide) (by kernel_rfl) rfl ?_; refine Q_run SP 2 rfl ?_; cases h184 : a17
     · have hF := bF' h184 hF; refine QP rfl ?_; exact join false _ _ hF sw
     have hF := bT' h184 hF; refine Q_run SP 3 rfl ?_; obtain ⟨y185, hy185, hF⟩ := bB' hF
     refine R_step SP rfl (T_ixT (tc := t_api_Slice) p0.fSlices rfl rfl hy185 ?_); refine Q_run SP 3 rfl ?_; obtain ⟨r186, hr186, hF⟩ := bB' hF
     refine R_step SP rfl (T_call (tracebookref32_within_fun _ _ _ hr186) ⟨⟨rfl, rfl, trivial⟩, ⟨rfl, rfl, trivial⟩, trivial⟩ rfl (.inl rfl) ?_); refine QP rfl ?_; exact join r186 _ _ hF sw
   refine W_exit ?_; refine thenQ_exit ?_; refine thenQ_exit ?_; refine blockQ_hit ?_; exact brk_0 _ _ _ (oi hF) sw
 intro join hF
 refine wD 4 rfl ?_; cases h189 : (decide (p0.fSpan.fFrom < 0))
 · have hF := bF' h189 hF; refine Q_run SV 7 rfl ?_; cases h190 : (decide (p0.fSpan.fTo < p0.fSpan.fFrom))
   · have hF := bF' h190 hF; refine QV rfl ?_; exact join (decide (1000000000000 < p0.fSpan.fTo)) _ _ hF sw
   have hF := bT' h190 hF; refine QV rfl ?_; exact join true _ _ hF sw
 have hF := bT' h189 hF; refine QV rfl ?_; exact join true _ _ hF sw
def tracebookref49_known_L1 (p0 : api_Trace) (p1 : Int) : Int → Option (Int ⊕ (Unit ⊕ Bool)) := fun a10 =>
  (bif (decide (a10 < (List.length p0.fThreads : Int))) then ((idx p0.fThreads a10).bind fun y14 => (bif (decide (y14.fId = p1)) then some (.inr (.inr true)) else some (.inl (w64 (a10 + 1))))) else some (.inr (.inl ())))
def tracebookref49_known (p0 : api_Trace) (p1 : Int) : Option Bool :=
  ((loop (tracebookref49_known_L1 p0 p1) 0).bind fun | .inl _ => some false | .inr rv => some rv)
theorem tracebookref49_known_fun (p0 : api_Trace) (p1 : Int) (r : Bool) (hF : tracebookref49_known p0 p1 = some r) : Fun Tryz.prog 32 true [] [.agg (m_api_Trace p0), cI p1] noHeap (cB r) noHeap := by
 refine Fun.of_walk0 Tryz.func32 c32 (by kernel_rfl) (rs := [.tmp 4]) (by kernel_rfl) ?_; unfold v32
 unfold tracebookref49_known at hF
 refine wA rfl ?_; refine W_seq ?_; refine wA rfl ?_; refine W_for (fun _ _ h => h) hF (.inl) (fun a10 => [(1, cI p1), (2, cP (2,0) 0), (5, cI a10)]) (fun a10 => [((2,0), .box (m_api_Trace p0))]) (fun _ => []) (fun _ => []) sw ?_ ?_
 · rintro ⟨⟩ hF
   refine wA rfl ?_; cases hF
   exact W_ret wR
 rintro a10 x_0 hF cont_0 brk_0 fin_0
 unfold tracebookref49_known_L1 at hF
 refine W_seq ?_; refine wC 3 rfl ?_; refine rS (T_len (tc := t_api_Thread) p0.fThreads .tree ?_); refine QV rfl ?_; refine wIf hF rfl (fun _ hF => ?_) fun _ hF => ?_
 · refine W_skip ?_; refine W_seq ?_; refine W_block ?_; refine wC 3 rfl ?_; obtain ⟨y14, hy14, hF⟩ := bB hF
   refine rS (T_ixT (tc := t_api_Thread) p0.fThreads rfl rfl hy14 ?_); refine QV rfl ?_; refine wIf hF rfl (fun _ hF => ?_) fun _ hF => ?_
   · refine wA rfl ?_; have hF := fin_0 _ (oi hF); cases hF
     exact W_ret wR
   refine W_skip ?_; refine wB rfl ?_; exact cont_0 _ _ _ (oi hF) sw
 refine W_exit ?_; refine thenQ_exit ?_; refine thenQ_exit ?_; refine blockQ_hit ?_; exact brk_0 _ _ _ (oi hF) sw
def tracebookref49_waits_L1 (p0 : (List api_State)) : ((List api_State) × Int) → Option (((List api_State) × Int) ⊕ (List api_State)) := fun (a31, a32) =>
  (bif (decide ((w64 (a32 + 1)) < (List.length p0 : Int))) then ((((((idx p0 a32).bind fun y51 => (bif (decide (y51.fState = 0)) then ((idx p0 (w64 (a32 + 1))).bind fun y53 => (bif (decide (y53.fState = 4)) then ((idx p0 a32).bind fun y55 => ((idx p0 (w64 (a32 + 1))).bind fun y56 => some (decide (y55.fThread = y56.fThread)))) else some false)) else some false)) : Option Bool).bind fun v47 => (bif v47 then ((idx p0 a32).bind fun y48 => (bif room 56 (List.length a31 + List.length [y48]) then some (a31 ++ [y48]) else none)) else some a31)) : Option (List api_State)).bind fun v46 => some (.inl (v46, (w64 (a32 + 1))))) else some (.inr a31))
def tracebookref49_waits (p0 : (List api_State)) : Option (List api_State) :=
  ((loop (tracebookref49_waits_L1 p0) ([], 0)).bind fun e45 => some e45)
theorem tracebookref49_waits_fun (p0 : (List api_State)) (r : (List api_State)) (hF : tracebookref49_waits p0 = some r) : Fun Tryz.prog 33 false [] [cL 7 t_api_State p0] (heapOf []) (cO (902,1320)) (heapOf [((902,1320), .arr 55 7 (List.map t_api_State r))]) := by
 refine Fun.of_walkM [] (some []) Tryz.func33 c33 (by kernel_rfl) (rs := [.tmp 2]) (by kernel_rfl) rfl rfl rfl ?_; unfold v33
 unfold tracebookref49_waits at hF
 refine wA rfl ?_; refine wA rfl ?_; refine W_seq ?_; refine wA rfl ?_; refine W_for (fun _ _ h => h) hF (id) (fun (a31, a32) => [(0, cL 7 t_api_State p0), (3, cO (47,1)), (4, cI a32)]) (fun (a31, a32) => [((47,1), .arr 55 7 (List.map t_api_State a31))]) (fun e45 => [(3, cO (47,1))]) (fun e45 => [((47,1), .arr 55 7 (List.map t_api_State e45))]) (S_own 3 (47,1) 55 7 rfl rfl rfl rfl sw) ?_ ?_
 · rintro e45 hF
   refine wA rfl ?_; cases hF
   exact W_ret ⟨_, _, (S_ren (47,1) (902,1320) rfl rfl S_refl), _, rfl, rfl, rfl, (AgM.weak ⟨rfl, trivial⟩)⟩
 rintro ⟨a31, a32⟩ x_0 hF cont_0 brk_0 fin_0
 unfold tracebookref49_waits_L1 at hF
 refine W_seq ?_; refine wC 3 rfl ?_; refine rS (T_len (tc := t_api_State) p0 .tree ?_); refine QV rfl ?_; refine wIf hF rfl (fun _ hF => ?_) fun _ hF => ?_
 · refine W_skip ?_; refine W_seq ?_; refine W_join (fun _ _ h => h) hF (fun v46 => [(0, cL 7 t_api_State p0), (3, cO (47,1)), (4, cI a32)]) (fun v46 => [((47,1), .arr 55 7 (List.map t_api_State v46))]) ?_ ?_
   · rintro v46 hF
     refine wB rfl ?_; exact cont_0 _ _ _ (oi hF) sw
   intro join hF
   refine W_block ?_; refine W_seq ?_; have hF := bA hF; refine W_join (fun _ _ h => h) hF (fun v47 => [(0, cL 7 t_api_State p0), (3, cO (47,1)), (4, cI a32), (40, cB v47)]) (fun v47 => [((47,1), .arr 55 7 (List.map t_api_State a31))]) ?_ ?_
   · rintro v47 hF
     refine wIf' hF rfl (fun _ hF => ?_) fun _ hF => ?_
     · refine wD 3 rfl ?_; obtain ⟨y48, hy48, hF⟩ := bB' hF
       refine rS (T_ixT (tc := t_api_State) p0 rfl rfl hy48 ?_); refine Q_run SV 1 rfl ?_; refine rS (T_bsl (tc := t_api_State) [y48] rfl ⟨rfl, rfl, rfl, rfl, rfl, rfl, rfl, trivial⟩ rfl (fun _ => rfl) rfl ?_)
       obtain ⟨h49, hF⟩ := roomT' hF
       refine rS (T_appO (tc := t_api_State) a31 [y48] rfl rfl (.own _ _ rfl) h49 rfl ?_); refine QV rfl ?_; exact join (a31 ++ [y48]) _ _ hF (S_ren (47,0) (47,1) rfl rfl sw)
     refine W_skip ?_; exact join a31 _ _ hF sw
   intro join hF
   refine W_regD (by decide) (by kernel_rfl) rfl ?_; refine Q_run SP 2 rfl ?_; obtain ⟨y51, hy51, hF⟩ := bB' hF
   refine R_step SP trivial (T_ixT (tc := t_api_State) p0 rfl rfl hy51 ?_); refine Q_run SP 4 rfl ?_; cases h52 : (decide (y51.fState = 0))
   · have hF := bF' h52 hF; refine QP rfl ?_; exact join false _ _ hF sw
   have hF := bT' h52 hF; refine Q_run SP 3 rfl ?_; obtain ⟨y53, hy53, hF⟩ := bB' hF
   refine R_step SP rfl (T_ixT (tc := t_api_State) p0 rfl rfl hy53 ?_); refine Q_run SP 5 rfl ?_; cases h54 : (decide (y53.fState = 4))
   · have hF := bF' h54 hF; refine QP rfl ?_; exact join false _ _ hF sw
   have hF := bT' h54 hF; refine Q_run SP 2 rfl ?_; obtain ⟨y55, hy55, hF⟩ := bB' hF
   refine R_step SP rfl (T_ixT (tc := t_api_State) p0 rfl rfl hy55 ?_); refine Q_run SP 5 rfl ?_; obtain ⟨y56, hy56, hF⟩ := bB' hF
   refine R_step SP rfl (T_ixT (tc := t_api_State) p0 rfl rfl hy56 ?_); refine QP rfl ?_; exact join (decide (y55.fThread = y56.fThread)) _ _ hF sw
 refine W_exit ?_; refine thenQ_exit ?_; refine thenQ_exit ?_; refine blockQ_hit ?_; exact brk_0 _ _ _ (oi hF) sw
def tracebookref49_length (p0 : api_State) : Option Int :=
  some (w64 (p0.fSpan.fTo - p0.fSpan.fFrom))
theorem tracebookref49_length_fun (p0 : api_State) (r : Int) (hF : tracebookref49_length p0 = some r) : Fun Tryz.prog 34 true [] [.agg (m_api_State p0)] noHeap (cI r) noHeap := by
 refine Fun.of_walk0 Tryz.func34 c34 (by kernel_rfl) (rs := [.tmp 2]) (by kernel_rfl) ?_; unfold v34
 unfold tracebookref49_length at hF
 refine wA rfl ?_; refine wA rfl ?_; cases hF
 exact W_ret wR
def tracebookref49_Of_L1 (p1 : Int) (r3 : (List api_State)) : ((List Int) × Int) → Option (((List Int) × Int) ⊕ (List Int)) := fun (a24, a25) =>
  (bif (decide (a25 < (List.length r3 : Int))) then ((((idx r3 a25).bind fun y35 => (bif (decide (y35.fThread = p1)) then ((idx r3 a25).bind fun y36 => ((tracebookref49_length y36).bind fun r37 => (bif room 8 (List.length a24 + List.length [r37]) then some (a24 ++ [r37]) else none))) else some a24)) : Option (List Int)).bind fun v34 => some (.inl (v34, (w64 (a25 + 1))))) else some (.inr a24))
def tracebookref49_Of (p0 : api_Trace) (p1 : Int) : Option ((List Int) × Int) :=
  ((tracebookref32_Check p0).bind fun r1 => (bif (!decide (r1 = 0)) then some ([], r1) else ((tracebookref49_known p0 p1).bind fun r2 => (bif (!r2) then some ([], 5) else ((tracebookref49_waits p0.fStates).bind fun r3 => ((loop (tracebookref49_Of_L1 p1 r3) ([], 0)).bind fun e33 => some (e33, 0)))))))
theorem tracebookref49_Of_fun (p0 : api_Trace) (p1 : Int) (r : ((List Int) × Int)) (hF : tracebookref49_Of p0 p1 = some r) : Fun Tryz.prog 12 false [] [.agg (m_api_Trace p0), cI p1] (heapOf []) (.tup [cO (902,480), cI r.2]) (heapOf [((902,480), .arr 3 1 (List.map t_i64 r.1))]) := by
 refine Fun.of_walkM [] (some []) Tryz.func12 c12 (by kernel_rfl) (rs := [.tmp 4, .tmp 5]) (by kernel_rfl) rfl rfl rfl ?_; unfold v12
 unfold tracebookref49_Of at hF
 refine wA rfl ?_; refine wC 1 rfl ?_; obtain ⟨r1, hr1, hF⟩ := bB hF
 refine rS (T_call (tracebookref32_Check_fun _ _ hr1) ⟨⟨rfl, rfl, rfl, rfl, rfl, rfl, rfl, rfl, rfl, rfl, trivial⟩, trivial⟩ rfl (.inl rfl) ?_); refine QV rfl ?_; refine W_seq ?_; refine wA rfl ?_; refine wIf hF rfl (fun _ hF => ?_) fun _ hF => ?_
 · refine wA rfl ?_; cases hF
   exact W_ret ⟨_, _, (S_own 4 (902,480) 3 1 rfl rfl rfl rfl S_refl), _, rfl, rfl, ⟨rfl, ⟨rfl, fun _ => rfl⟩, trivial⟩, (AgM.weak ⟨rfl, trivial⟩)⟩
 refine W_skip ?_; refine W_seq ?_; refine wC 2 rfl ?_; obtain ⟨r2, hr2, hF⟩ := bB hF
 refine rS (T_call (tracebookref49_known_fun _ _ _ hr2) ⟨⟨rfl, rfl, rfl, rfl, rfl, rfl, rfl, rfl, rfl, rfl, trivial⟩, rfl, trivial⟩ rfl (.inl rfl) ?_); refine QV rfl ?_; refine wIf hF rfl (fun _ hF => ?_) fun _ hF => ?_
 · refine wA rfl ?_; cases hF
   exact W_ret ⟨_, _, (S_own 4 (902,480) 3 1 rfl rfl rfl rfl S_refl), _, rfl, rfl, ⟨rfl, ⟨rfl, fun _ => rfl⟩, trivial⟩, (AgM.weak ⟨rfl, trivial⟩)⟩
 refine W_skip ?_; refine wA rfl ?_; refine wC 2 rfl ?_; obtain ⟨r3, hr3, hF⟩ := bB hF
 refine R_stepX trivial (X_callG [((902,1320),(21,1))] rfl (callN _) (tracebookref49_waits_fun _ _ hr3) trivial ⟨.inl rfl, trivial⟩ rfl rfl rfl ?_); refine QV rfl ?_; refine W_seq ?_; refine wA rfl ?_; refine W_for (fun _ _ h => h) hF (id) (fun (a24, a25) => [(1, cI p1), (7, cO (42,1)), (8, cO (21,1)), (9, cI a25)]) (fun (a24, a25) => [((42,1), .arr 3 1 (List.map t_i64 a24)), ((21,1), .arr 55 7 (List.map t_api_State r3))]) (fun e33 => [(7, cO (42,1))]) (fun e33 => [((42,1), .arr 3 1 (List.map t_i64 e33))]) (S_own 7 (42,1) 3 1 rfl rfl rfl rfl sw) ?_ ?_
 · rintro e33 hF
   refine wA rfl ?_; cases hF
   exact W_ret ⟨_, _, (S_ren (42,1) (902,480) rfl rfl S_refl), _, rfl, rfl, ⟨rfl, ⟨rfl, fun _ => rfl⟩, trivial⟩, (AgM.weak ⟨rfl, trivial⟩)⟩
 rintro ⟨a24, a25⟩ x_0 hF cont_0 brk_0 fin_0
 unfold tracebookref49_Of_L1 at hF
 refine W_seq ?_; refine wC 2 rfl ?_; refine rS (T_len (tc := t_api_State) r3 (.own _ _ rfl) ?_); refine QV rfl ?_; refine wIf hF rfl (fun _ hF => ?_) fun _ hF => ?_
 · refine W_skip ?_; refine W_seq ?_; refine W_join (fun _ _ h => h) hF (fun v34 => [(1, cI p1), (7, cO (42,1)), (8, cO (21,1)), (9, cI a25)]) (fun v34 => [((42,1), .arr 3 1 (List.map t_i64 v34)), ((21,1), .arr 55 7 (List.map t_api_State r3))]) ?_ ?_
   · rintro v34 hF
     refine wB rfl ?_; exact cont_0 _ _ _ (oi hF) sw
   intro join hF
   refine W_block ?_; refine wC 2 rfl ?_; obtain ⟨y35, hy35, hF⟩ := bB' hF
   refine rS (T_ixO (tc := t_api_State) r3 rfl rfl rfl hy35 ?_); refine Q_run SV 1 rfl ?_; refine rS (T_ldE (tc := t_api_State) r3 rfl rfl (idx_get hy35).2.1 rfl ?_); refine QV rfl ?_; refine wIf' hF rfl (fun _ hF => ?_) fun _ hF => ?_
   · refine wD 3 rfl ?_; obtain ⟨y36, hy36, hF⟩ := bB' hF
     refine rS (T_ixO (tc := t_api_State) r3 rfl rfl rfl hy36 ?_); refine rS (T_ldE (tc := t_api_State) r3 rfl rfl (idx_get hy36).2.1 rfl ?_); obtain ⟨r37, hr37, hF⟩ := bB' hF
     refine rS (T_call (tracebookref49_length_fun _ _ hr37) ⟨⟨rfl, rfl, rfl, rfl, rfl, rfl, rfl, trivial⟩, trivial⟩ rfl (.inl rfl) ?_); refine rS (T_bsl (tc := t_i64) [r37] rfl ⟨rfl, trivial⟩ rfl (fun _ => rfl) rfl ?_)
     obtain ⟨h38, hF⟩ := roomT' hF
     refine rS (T_appO (tc := t_i64) a24 [r37] rfl rfl (.own _ _ rfl) h38 rfl ?_); refine QV rfl ?_; exact join (a24 ++ [r37]) _ _ hF (S_ren (42,0) (42,1) rfl rfl sw)
   refine W_skip ?_; exact join a24 _ _ hF sw
 refine W_exit ?_; refine thenQ_exit ?_; refine thenQ_exit ?_; refine blockQ_hit ?_; exact brk_0 _ _ _ (oi hF) sw
def tracebookref49_insert_L1 (p0 : (List Int)) (p1 : Int) : Int → Option (Int ⊕ Int) := fun a12 =>
  (((bif (decide (0 < a12)) then ((idx p0 (w64 (a12 - 1))).bind fun y26 => some (decide (p1 < y26))) else some false) : Option Bool).bind fun v23 => (bif v23 then some (.inl (w64 (a12 - 1))) else some (.inr a12)))
def tracebookref49_insert (p0 : (List Int)) (p1 : Int) : Option (List Int) :=
  ((loop (tracebookref49_insert_L1 p0 p1) (List.length p0 : Int)).bind fun e17 => ((slcPart p0 0 e17).bind fun y18 => (bif room 8 (List.length ([] : List Int) + List.length y18) then (bif room 8 (List.length ([] ++ y18) + List.length [p1]) then ((slcPart p0 e17 (List.length p0 : Int)).bind fun y21 => (bif room 8 (List.length (([] ++ y18) ++ [p1]) + List.length y21) then some ((([] ++ y18) ++ [p1]) ++ y21) else none)) else none) else none)))
theorem tracebookref49_insert_fun (p0 : (List Int)) (p1 : Int) (r : (List Int)) (hF : tracebookref49_insert p0 p1 = some r) : Fun Tryz.prog 36 false [] [cL 1 t_i64 p0, cI p1] (heapOf []) (cO (902,1440)) (heapOf [((902,1440), .arr 3 1 (List.map t_i64 r))]) := by
 refine Fun.of_walkM [] (some []) Tryz.func36 c36 (by kernel_rfl) (rs := [.tmp 4]) (by kernel_rfl) rfl rfl rfl ?_; unfold v36
 unfold tracebookref49_insert at hF
 refine wA rfl ?_; refine wC 1 rfl ?_; refine rS (T_len (tc := t_i64) p0 .tree ?_); refine QV rfl ?_; refine W_seq ?_; refine W_for (fun _ _ h => h) hF (id) (fun a12 => [(0, cL 1 t_i64 p0), (1, cI p1), (5, cI a12)]) (fun a12 => []) (fun e17 => [(0, cL 1 t_i64 p0), (1, cI p1), (5, cI e17)]) (fun e17 => []) sw ?_ ?_
 · rintro e17 hF
   refine wE ?_; refine rS (T_bsl (tc := t_i64) [] rfl trivial rfl (fun _ => rfl) rfl ?_)
   refine Q_run SV 2 rfl ?_; obtain ⟨y18, hy18, hF⟩ := bB hF
   refine rS (T_sub (tc := t_i64) p0 rfl rfl rfl hy18 ?_); obtain ⟨h19, hF⟩ := roomT hF
   refine rS (T_appO (tc := t_i64) [] y18 rfl rfl .tree h19 rfl ?_); refine QV rfl ?_; refine wC 2 rfl ?_; refine rS (T_bsl (tc := t_i64) [p1] rfl ⟨rfl, trivial⟩ rfl (fun _ => rfl) rfl ?_)
   obtain ⟨h20, hF⟩ := roomT hF
   refine rS (T_appO (tc := t_i64) ([] ++ y18) [p1] rfl rfl (.own _ _ rfl) h20 rfl ?_); refine QV rfl ?_; refine wC 3 rfl ?_; obtain ⟨y21, hy21, hF⟩ := bB hF
   refine rS (T_sub (tc := t_i64) p0 rfl rfl rfl hy21 ?_); obtain ⟨h22, hF⟩ := roomT hF
   refine rS (T_appO (tc := t_i64) (([] ++ y18) ++ [p1]) y21 rfl rfl .tree h22 rfl ?_); refine QV rfl ?_; cases hF
   exact W_ret ⟨_, _, (S_ren (35,0) (902,1440) rfl rfl S_refl), _, rfl, rfl, rfl, (AgM.weak ⟨rfl, trivial⟩)⟩
 rintro a12 x_0 hF cont_0 brk_0 fin_0
 unfold tracebookref49_insert_L1 at hF
 refine W_seq ?_; refine W_seq ?_; refine W_join (fun _ _ h => h) hF (fun v23 => [(0, cL 1 t_i64 p0), (1, cI p1), (5, cI a12), (19, cB v23)]) (fun v23 => []) ?_ ?_
 · rintro v23 hF
   refine wIf hF rfl (fun _ hF => ?_) fun _ hF => ?_
   · refine W_skip ?_; refine W_block ?_; refine wB rfl ?_; exact cont_0 _ _ _ (oi hF) sw
   refine W_exit ?_; refine thenQ_exit ?_; refine thenQ_exit ?_; refine blockQ_hit ?_; exact brk_0 _ _ _ (oi hF) sw
 intro join hF
 refine wD 3 rfl ?_; cases h25 : (decide (0 < a12))
 · have hF := bF' h25 hF; refine QV rfl ?_; exact join false _ _ hF sw
 have hF := bT' h25 hF; refine Q_run SV 3 rfl ?_; obtain ⟨y26, hy26, hF⟩ := bB' hF
 refine R_step SV rfl (T_ixT (tc := t_i64) p0 rfl rfl hy26 ?_); refine QV rfl ?_; exact join (decide (p1 < y26)) _ _ hF sw
def tracebookref49_All_L1 (r2 : (List api_State)) : ((List Int) × Int) → Option (((List Int) × Int) ⊕ (List Int)) := fun (a17, a18) =>
  (bif (decide (a18 < (List.length r2 : Int))) then ((idx r2 a18).bind fun y24 => ((tracebookref49_length y24).bind fun r25 => ((tracebookref49_insert a17 r25).bind fun r26 => some (.inl (r26, (w64 (a18 + 1))))))) else some (.inr a17))
def tracebookref49_All (p0 : api_Trace) : Option ((List Int) × Int) :=
  ((tracebookref32_Check p0).bind fun r1 => (bif (!decide (r1 = 0)) then some ([], r1) else ((tracebookref49_waits p0.fStates).bind fun r2 => ((loop (tracebookref49_All_L1 r2) ([], 0)).bind fun e23 => some (e23, 0)))))
end Go.VM
