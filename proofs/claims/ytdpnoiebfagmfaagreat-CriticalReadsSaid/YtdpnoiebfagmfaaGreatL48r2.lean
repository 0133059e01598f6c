/- What the functions of the law compute, each with its proof. -/
import Derived.Test.YtdpnoiebfagmfaaGreatL48r1
import Derived.Test.YtdpnoiebfagmfaaGreatRows
import Derived.KernelRfl
import Derived.Lib.Bytealg
import Derived.Laws.Externs
import Derived.WalkKit
namespace Go.VM
open Go.Proofs Go.Proofs.YtdpnoiebfagmfaaGreat
open Go.RowKit
set_option maxRecDepth 100000
set_option maxHeartbeats 4000000
theorem slices_IndexFunc_api_Slice_api_Slice_k1_fun (p0 : (List api_Slice)) (p1_0 : api_Span) (r : Int) (hF : slices_IndexFunc_api_Slice_api_Slice_k1 p0 p1_0 = some r) : Fun Tryz.prog 112 false [(5480,0)] [cL 8 t_api_Slice p0, .c (.fn 72 [.ptr (5480,0)])] (heapOf [((5480,0), .box [jI p1_0.fFrom, jI p1_0.fTo])]) (cI r) (heapOf [((5480,0), .box [jI p1_0.fFrom, jI p1_0.fTo])]) := by
 refine Fun.of_walkM [(5480,0)] (some [(5480,0)]) Tryz.func112 c112 (by kernel_rfl) (rs := [.tmp 4]) (by kernel_rfl) rfl rfl rfl ?_; unfold v112
 unfold slices_IndexFunc_api_Slice_api_Slice_k1 at hF
 refine wA rfl ?_; refine W_seq ?_; refine wC 1 rfl ?_; refine rS (T_len (tc := t_api_Slice) p0 .tree ?_); refine QV rfl ?_; refine W_for (fun _ _ h => h) hF (.inl) (fun a12 => [(0, cL 8 t_api_Slice p0), (1, .c (.fn 72 [.ptr (5480,0)])), (7, cI (List.length p0 : Int)), (8, cI a12)]) (fun a12 => [((5480,0), .box [jI p1_0.fFrom, jI p1_0.fTo])]) (fun _ => []) (fun _ => [((5480,0), .box [jI p1_0.fFrom, jI p1_0.fTo])]) sw ?_ ?_
 · rintro ⟨⟩ hF
   refine wA rfl ?_; cases hF
   exact W_ret ⟨_, _, S_refl, _, rfl, rfl, ⟨rfl, fun _ => rfl⟩, (AgM.weak ⟨rfl, trivial⟩)⟩
 rintro a12 x_0 hF cont_0 brk_0 fin_0
 unfold slices_IndexFunc_api_Slice_api_Slice_k1_L1 at hF
 refine wA rfl ?_; refine W_seq ?_; refine wIf hF rfl (fun _ hF => ?_) fun _ hF => ?_
 · refine W_skip ?_; refine W_seq ?_; refine W_block ?_; refine wA rfl ?_; refine wC 3 rfl ?_; obtain ⟨y17, hy17, hF⟩ := bB hF
   refine rS (T_ixT (tc := t_api_Slice) p0 rfl rfl hy17 ?_); refine Q_run SV 1 rfl ?_; obtain ⟨r18, hr18, hF⟩ := bB hF
   refine R_stepX trivial (X_call (callW _ rfl fnOk72) (trace_outside_1_k1_fun _ _ _ hr18) ⟨⟨rfl, rfl, rfl, rfl, rfl, rfl, rfl, rfl, trivial⟩, ⟨_, rfl, ⟨rfl, rfl, trivial⟩⟩, trivial⟩ rfl (.inl rfl) ?_); refine QV rfl ?_
   refine wIf hF rfl (fun _ hF => ?_) fun _ hF => ?_
   · refine wA rfl ?_; have hF := fin_0 _ (oi hF); cases hF
     exact W_ret ⟨_, _, S_refl, _, rfl, rfl, ⟨rfl, fun _ => rfl⟩, (AgM.weak ⟨rfl, trivial⟩)⟩
   refine W_skip ?_; refine wB rfl ?_; exact cont_0 _ _ _ (oi hF) sw
 refine W_exit ?_; refine thenQ_exit ?_; refine thenQ_exit ?_; refine blockQ_hit ?_; exact brk_0 _ _ _ (oi hF) sw
def slices_ContainsFunc_api_Slice_api_Slice_k1 (p0 : (List api_Slice)) (p1_0 : api_Span) : Option Bool :=
  ((slices_IndexFunc_api_Slice_api_Slice_k1 p0 p1_0).bind fun r1 => some (decide (0 ≤ r1)))
theorem slices_ContainsFunc_api_Slice_api_Slice_k1_fun (p0 : (List api_Slice)) (p1_0 : api_Span) (r : Bool) (hF : slices_ContainsFunc_api_Slice_api_Slice_k1 p0 p1_0 = some r) : Fun Tryz.prog 71 false [(3840,0)] [cL 8 t_api_Slice p0, .c (.fn 72 [.ptr (3840,0)])] (heapOf [((3840,0), .box [jI p1_0.fFrom, jI p1_0.fTo])]) (cB r) (heapOf [((3840,0), .box [jI p1_0.fFrom, jI p1_0.fTo])]) := by
 refine Fun.of_walkM [(3840,0)] (some [(3840,0)]) Tryz.func71 c71 (by kernel_rfl) (rs := [.tmp 4]) (by kernel_rfl) rfl rfl rfl ?_; unfold v71
 unfold slices_ContainsFunc_api_Slice_api_Slice_k1 at hF
 refine wA rfl ?_; refine wC 2 rfl ?_; obtain ⟨r1, hr1, hF⟩ := bB hF
 refine rS (T_callO [((5480,0),(3840,0))] rfl (slices_IndexFunc_api_Slice_api_Slice_k1_fun _ _ _ hr1) ⟨rfl, trivial⟩ rfl rfl (.inr ⟨.inl rfl, .inl rfl, trivial⟩) ?_); refine QV rfl ?_; cases hF
 exact W_ret ⟨_, _, S_refl, _, rfl, rfl, ⟨rfl, fun _ => rfl⟩, (AgM.weak ⟨rfl, trivial⟩)⟩
def trace_outside_2_k1 (p0 : api_State) (p1 : api_Span) : Option Bool :=
  ((trace_within p0.fSpan p1).bind fun r1 => some (!r1))
theorem trace_outside_2_k1_fun (p0 : api_State) (p1 : api_Span) (r : Bool) (hF : trace_outside_2_k1 p0 p1 = some r) : Fun Tryz.prog 75 true [] [.agg (m_api_State p0), .c (.ptrI [tI p1.fFrom, tI p1.fTo])] noHeap (cB r) noHeap := by
 refine Fun.of_walk0 Tryz.func75 c75 (by kernel_rfl) (rs := [.tmp 3]) (by kernel_rfl) ?_; unfold v75
 unfold trace_outside_2_k1 at hF
 refine wA rfl ?_; refine wC 3 rfl ?_; obtain ⟨r1, hr1, hF⟩ := bB hF
 refine rS (T_call (trace_within_fun _ _ _ hr1) ⟨⟨rfl, rfl, trivial⟩, ⟨rfl, rfl, trivial⟩, trivial⟩ rfl (.inl rfl) ?_); refine QV rfl ?_; cases hF
 exact W_ret wR
def slices_IndexFunc_api_State_api_State_k1_L1 (p0 : (List api_State)) (p1_0 : api_Span) : Int → Option (Int ⊕ (Unit ⊕ Int)) := fun a12 =>
  (bif (decide (a12 < (List.length p0 : Int))) then ((idx p0 a12).bind fun y17 => ((trace_outside_2_k1 y17 p1_0).bind fun r18 => (bif r18 then some (.inr (.inr a12)) else some (.inl (w64 (a12 + 1)))))) else some (.inr (.inl ())))
def slices_IndexFunc_api_State_api_State_k1 (p0 : (List api_State)) (p1_0 : api_Span) : Option Int :=
  ((loop (slices_IndexFunc_api_State_api_State_k1_L1 p0 p1_0) 0).bind fun | .inl _ => some (-1) | .inr rv => some rv)
theorem slices_IndexFunc_api_State_api_State_k1_fun (p0 : (List api_State)) (p1_0 : api_Span) (r : Int) (hF : slices_IndexFunc_api_State_api_State_k1 p0 p1_0 = some r) : Fun Tryz.prog 113 false [(5520,0)] [cL 7 t_api_State p0, .c (.fn 75 [.ptr (5520,0)])] (heapOf [((5520,0), .box [jI p1_0.fFrom, jI p1_0.fTo])]) (cI r) (heapOf [((5520,0), .box [jI p1_0.fFrom, jI p1_0.fTo])]) := by
 refine Fun.of_walkM [(5520,0)] (some [(5520,0)]) Tryz.func113 c113 (by kernel_rfl) (rs := [.tmp 4]) (by kernel_rfl) rfl rfl rfl ?_; unfold v113
 unfold slices_IndexFunc_api_State_api_State_k1 at hF
 refine wA rfl ?_; refine W_seq ?_; refine wC 1 rfl ?_; refine rS (T_len (tc := t_api_State) p0 .tree ?_); refine QV rfl ?_; refine W_for (fun _ _ h => h) hF (.inl) (fun a12 => [(0, cL 7 t_api_State p0), (1, .c (.fn 75 [.ptr (5520,0)])), (7, cI (List.length p0 : Int)), (8, cI a12)]) (fun a12 => [((5520,0), .box [jI p1_0.fFrom, jI p1_0.fTo])]) (fun _ => []) (fun _ => [((5520,0), .box [jI p1_0.fFrom, jI p1_0.fTo])]) sw ?_ ?_
 · rintro ⟨⟩ hF
   refine wA rfl ?_; cases hF
   exact W_ret ⟨_, _, S_refl, _, rfl, rfl, ⟨rfl, fun _ => rfl⟩, (AgM.weak ⟨rfl, trivial⟩)⟩
 rintro a12 x_0 hF cont_0 brk_0 fin_0
 unfold slices_IndexFunc_api_State_api_State_k1_L1 at hF
 refine wA rfl ?_; refine W_seq ?_; refine wIf hF rfl (fun _ hF => ?_) fun _ hF => ?_
 · refine W_skip ?_; refine W_seq ?_; refine W_block ?_; refine wA rfl ?_; refine wC 3 rfl ?_; obtain ⟨y17, hy17, hF⟩ := bB hF
   refine rS (T_ixT (tc := t_api_State) p0 rfl rfl hy17 ?_); refine Q_run SV 1 rfl ?_; obtain ⟨r18, hr18, hF⟩ := bB hF
   refine R_stepX trivial (X_call (callW _ rfl fnOk75) (trace_outside_2_k1_fun _ _ _ hr18) ⟨⟨rfl, rfl, rfl, rfl, rfl, rfl, rfl, trivial⟩, ⟨_, rfl, ⟨rfl, rfl, trivial⟩⟩, trivial⟩ rfl (.inl rfl) ?_); refine QV rfl ?_
   refine wIf hF rfl (fun _ hF => ?_) fun _ hF => ?_
   · refine wA rfl ?_; have hF := fin_0 _ (oi hF); cases hF
     exact W_ret ⟨_, _, S_refl, _, rfl, rfl, ⟨rfl, fun _ => rfl⟩, (AgM.weak ⟨rfl, trivial⟩)⟩
   refine W_skip ?_; refine wB rfl ?_; exact cont_0 _ _ _ (oi hF) sw
 refine W_exit ?_; refine thenQ_exit ?_; refine thenQ_exit ?_; refine blockQ_hit ?_; exact brk_0 _ _ _ (oi hF) sw
def slices_ContainsFunc_api_State_api_State_k1 (p0 : (List api_State)) (p1_0 : api_Span) : Option Bool :=
  ((slices_IndexFunc_api_State_api_State_k1 p0 p1_0).bind fun r1 => some (decide (0 ≤ r1)))
theorem slices_ContainsFunc_api_State_api_State_k1_fun (p0 : (List api_State)) (p1_0 : api_Span) (r : Bool) (hF : slices_ContainsFunc_api_State_api_State_k1 p0 p1_0 = some r) : Fun Tryz.prog 74 false [(3960,0)] [cL 7 t_api_State p0, .c (.fn 75 [.ptr (3960,0)])] (heapOf [((3960,0), .box [jI p1_0.fFrom, jI p1_0.fTo])]) (cB r) (heapOf [((3960,0), .box [jI p1_0.fFrom, jI p1_0.fTo])]) := by
 refine Fun.of_walkM [(3960,0)] (some [(3960,0)]) Tryz.func74 c74 (by kernel_rfl) (rs := [.tmp 4]) (by kernel_rfl) rfl rfl rfl ?_; unfold v74
 unfold slices_ContainsFunc_api_State_api_State_k1 at hF
 refine wA rfl ?_; refine wC 2 rfl ?_; obtain ⟨r1, hr1, hF⟩ := bB hF
 refine rS (T_callO [((5520,0),(3960,0))] rfl (slices_IndexFunc_api_State_api_State_k1_fun _ _ _ hr1) ⟨rfl, trivial⟩ rfl rfl (.inr ⟨.inl rfl, .inl rfl, trivial⟩) ?_); refine QV rfl ?_; cases hF
 exact W_ret ⟨_, _, S_refl, _, rfl, rfl, ⟨rfl, fun _ => rfl⟩, (AgM.weak ⟨rfl, trivial⟩)⟩
def trace_outside_3_k1 (p0 : api_Block) (p1 : api_Span) : Option Bool :=
  ((trace_within p0.fSpan p1).bind fun r1 => some (!r1))
theorem trace_outside_3_k1_fun (p0 : api_Block) (p1 : api_Span) (r : Bool) (hF : trace_outside_3_k1 p0 p1 = some r) : Fun Tryz.prog 77 true [] [.agg (m_api_Block p0), .c (.ptrI [tI p1.fFrom, tI p1.fTo])] noHeap (cB r) noHeap := by
 refine Fun.of_walk0 Tryz.func77 c77 (by kernel_rfl) (rs := [.tmp 3]) (by kernel_rfl) ?_; unfold v77
 unfold trace_outside_3_k1 at hF
 refine wA rfl ?_; refine wC 3 rfl ?_; obtain ⟨r1, hr1, hF⟩ := bB hF
 refine rS (T_call (trace_within_fun _ _ _ hr1) ⟨⟨rfl, rfl, trivial⟩, ⟨rfl, rfl, trivial⟩, trivial⟩ rfl (.inl rfl) ?_); refine QV rfl ?_; cases hF
 exact W_ret wR
def slices_IndexFunc_api_Block_api_Block_k1_L1 (p0 : (List api_Block)) (p1_0 : api_Span) : Int → Option (Int ⊕ (Unit ⊕ Int)) := fun a12 =>
  (bif (decide (a12 < (List.length p0 : Int))) then ((idx p0 a12).bind fun y17 => ((trace_outside_3_k1 y17 p1_0).bind fun r18 => (bif r18 then some (.inr (.inr a12)) else some (.inl (w64 (a12 + 1)))))) else some (.inr (.inl ())))
def slices_IndexFunc_api_Block_api_Block_k1 (p0 : (List api_Block)) (p1_0 : api_Span) : Option Int :=
  ((loop (slices_IndexFunc_api_Block_api_Block_k1_L1 p0 p1_0) 0).bind fun | .inl _ => some (-1) | .inr rv => some rv)
theorem slices_IndexFunc_api_Block_api_Block_k1_fun (p0 : (List api_Block)) (p1_0 : api_Span) (r : Int) (hF : slices_IndexFunc_api_Block_api_Block_k1 p0 p1_0 = some r) : Fun Tryz.prog 114 false [(5560,0)] [cL 7 t_api_Block p0, .c (.fn 77 [.ptr (5560,0)])] (heapOf [((5560,0), .box [jI p1_0.fFrom, jI p1_0.fTo])]) (cI r) (heapOf [((5560,0), .box [jI p1_0.fFrom, jI p1_0.fTo])]) := by
 refine Fun.of_walkM [(5560,0)] (some [(5560,0)]) Tryz.func114 c114 (by kernel_rfl) (rs := [.tmp 4]) (by kernel_rfl) rfl rfl rfl ?_; unfold v114
 unfold slices_IndexFunc_api_Block_api_Block_k1 at hF
 refine wA rfl ?_; refine W_seq ?_; refine wC 1 rfl ?_; refine rS (T_len (tc := t_api_Block) p0 .tree ?_); refine QV rfl ?_; refine W_for (fun _ _ h => h) hF (.inl) (fun a12 => [(0, cL 7 t_api_Block p0), (1, .c (.fn 77 [.ptr (5560,0)])), (7, cI (List.length p0 : Int)), (8, cI a12)]) (fun a12 => [((5560,0), .box [jI p1_0.fFrom, jI p1_0.fTo])]) (fun _ => []) (fun _ => [((5560,0), .box [jI p1_0.fFrom, jI p1_0.fTo])]) sw ?_ ?_
 · rintro ⟨⟩ hF
   refine wA rfl ?_; cases hF
   exact W_ret ⟨_, _, S_refl, _, rfl, rfl, ⟨rfl, fun _ => rfl⟩, (AgM.weak ⟨rfl, trivial⟩)⟩
 rintro a12 x_0 hF cont_0 brk_0 fin_0
 unfold slices_IndexFunc_api_Block_api_Block_k1_L1 at hF
 refine wA rfl ?_; refine W_seq ?_; refine wIf hF rfl (fun _ hF => ?_) fun _ hF => ?_
 · refine W_skip ?_; refine W_seq ?_; refine W_block ?_; refine wA rfl ?_; refine wC 3 rfl ?_; obtain ⟨y17, hy17, hF⟩ := bB hF
   refine rS (T_ixT (tc := t_api_Block) p0 rfl rfl hy17 ?_); refine Q_run SV 1 rfl ?_; obtain ⟨r18, hr18, hF⟩ := bB hF
   refine R_stepX trivial (X_call (callW _ rfl fnOk77) (trace_outside_3_k1_fun _ _ _ hr18) ⟨⟨rfl, rfl, rfl, rfl, rfl, rfl, rfl, trivial⟩, ⟨_, rfl, ⟨rfl, rfl, trivial⟩⟩, trivial⟩ rfl (.inl rfl) ?_); refine QV rfl ?_
   refine wIf hF rfl (fun _ hF => ?_) fun _ hF => ?_
   · refine wA rfl ?_; have hF := fin_0 _ (oi hF); cases hF
     exact W_ret ⟨_, _, S_refl, _, rfl, rfl, ⟨rfl, fun _ => rfl⟩, (AgM.weak ⟨rfl, trivial⟩)⟩
   refine W_skip ?_; refine wB rfl ?_; exact cont_0 _ _ _ (oi hF) sw
 refine W_exit ?_; refine thenQ_exit ?_; refine thenQ_exit ?_; refine blockQ_hit ?_; exact brk_0 _ _ _ (oi hF) sw
def slices_ContainsFunc_api_Block_api_Block_k1 (p0 : (List api_Block)) (p1_0 : api_Span) : Option Bool :=
  ((slices_IndexFunc_api_Block_api_Block_k1 p0 p1_0).bind fun r1 => some (decide (0 ≤ r1)))
theorem slices_ContainsFunc_api_Block_api_Block_k1_fun (p0 : (List api_Block)) (p1_0 : api_Span) (r : Bool) (hF : slices_ContainsFunc_api_Block_api_Block_k1 p0 p1_0 = some r) : Fun Tryz.prog 76 false [(4040,0)] [cL 7 t_api_Block p0, .c (.fn 77 [.ptr (4040,0)])] (heapOf [((4040,0), .box [jI p1_0.fFrom, jI p1_0.fTo])]) (cB r) (heapOf [((4040,0), .box [jI p1_0.fFrom, jI p1_0.fTo])]) := by
 refine Fun.of_walkM [(4040,0)] (some [(4040,0)]) Tryz.func76 c76 (by kernel_rfl) (rs := [.tmp 4]) (by kernel_rfl) rfl rfl rfl ?_; unfold v76
 unfold slices_ContainsFunc_api_Block_api_Block_k1 at hF
 refine wA rfl ?_; refine wC 2 rfl ?_; obtain ⟨r1, hr1, hF⟩ := bB hF
 refine rS (T_callO [((5560,0),(4040,0))] rfl (slices_IndexFunc_api_Block_api_Block_k1_fun _ _ _ hr1) ⟨rfl, trivial⟩ rfl rfl (.inr ⟨.inl rfl, .inl rfl, trivial⟩) ?_); refine QV rfl ?_; cases hF
 exact W_ret ⟨_, _, S_refl, _, rfl, rfl, ⟨rfl, fun _ => rfl⟩, (AgM.weak ⟨rfl, trivial⟩)⟩
def trace_inside (p0 : api_Span) (p1 : Int) : Option Bool :=
  (((bif (decide (p0.fFrom ≤ p1)) then some (decide (p1 < p0.fTo)) else some false) : Option Bool).bind fun v1 => some v1)
theorem trace_inside_fun (p0 : api_Span) (p1 : Int) (r : Bool) (hF : trace_inside p0 p1 = some r) : Fun Tryz.prog 80 true [] [.agg [jI p0.fFrom, jI p0.fTo], cI p1] noHeap (cB r) noHeap := by
 refine Fun.of_walk0 Tryz.func80 c80 (by kernel_rfl) (rs := [.tmp 4]) (by kernel_rfl) ?_; unfold v80
 unfold trace_inside at hF
 refine wA rfl ?_; refine W_seq ?_; refine W_join (fun _ _ h => h) hF (fun v1 => [(4, cB v1)]) (fun v1 => []) ?_ ?_
 · rintro v1 hF
   cases hF
   exact W_ret wR
 intro join hF
 refine wD 5 rfl ?_; cases h2 : (decide (p0.fFrom ≤ p1))
 · have hF := bF' h2 hF; refine QV rfl ?_; exact join false _ _ hF sw
 have hF := bT' h2 hF; refine QV rfl ?_; exact join (decide (p1 < p0.fTo)) _ _ hF sw
def trace_outside_4_k1 (p0 : api_Flow) (p1 : api_Span) : Option Bool :=
  ((((trace_inside p1 p0.fSend).bind fun r2 => (bif (!r2) then some true else ((trace_inside p1 p0.fRecv).bind fun r4 => some (!r4)))) : Option Bool).bind fun v1 => some v1)
theorem trace_outside_4_k1_fun (p0 : api_Flow) (p1 : api_Span) (r : Bool) (hF : trace_outside_4_k1 p0 p1 = some r) : Fun Tryz.prog 79 true [] [.agg (m_api_Flow p0), .c (.ptrI [tI p1.fFrom, tI p1.fTo])] noHeap (cB r) noHeap := by
 refine Fun.of_walk0 Tryz.func79 c79 (by kernel_rfl) (rs := [.tmp 3]) (by kernel_rfl) ?_; unfold v79
 unfold trace_outside_4_k1 at hF
 refine wA rfl ?_; refine W_seq ?_; refine W_join (fun _ _ h => h) hF (fun v1 => [(3, cB v1)]) (fun v1 => []) ?_ ?_
 · rintro v1 hF
   cases hF
   exact W_ret wR
 intro join hF
 refine wD 3 rfl ?_; obtain ⟨r2, hr2, hF⟩ := bB' hF
 refine rS (T_call (trace_inside_fun _ _ _ hr2) ⟨⟨rfl, rfl, trivial⟩, rfl, trivial⟩ rfl (.inl rfl) ?_); refine Q_run SV 2 rfl ?_; cases h3 : (!r2)
 · have hF := bF' h3 hF; refine Q_run SV 3 rfl ?_; obtain ⟨r4, hr4, hF⟩ := bB' hF
   refine R_step SV rfl (T_call (trace_inside_fun _ _ _ hr4) ⟨⟨rfl, rfl, trivial⟩, rfl, trivial⟩ rfl (.inl rfl) ?_); refine QV rfl ?_; exact join (!r4) _ _ hF sw
 have hF := bT' h3 hF; refine QV rfl ?_; exact join true _ _ hF sw
def slices_IndexFunc_api_Flow_api_Flow_k1_L1 (p0 : (List api_Flow)) (p1_0 : api_Span) : Int → Option (Int ⊕ (Unit ⊕ Int)) := fun a12 =>
  (bif (decide (a12 < (List.length p0 : Int))) then ((idx p0 a12).bind fun y17 => ((trace_outside_4_k1 y17 p1_0).bind fun r18 => (bif r18 then some (.inr (.inr a12)) else some (.inl (w64 (a12 + 1)))))) else some (.inr (.inl ())))
def slices_IndexFunc_api_Flow_api_Flow_k1 (p0 : (List api_Flow)) (p1_0 : api_Span) : Option Int :=
  ((loop (slices_IndexFunc_api_Flow_api_Flow_k1_L1 p0 p1_0) 0).bind fun | .inl _ => some (-1) | .inr rv => some rv)
theorem slices_IndexFunc_api_Flow_api_Flow_k1_fun (p0 : (List api_Flow)) (p1_0 : api_Span) (r : Int) (hF : slices_IndexFunc_api_Flow_api_Flow_k1 p0 p1_0 = some r) : Fun Tryz.prog 115 false [(5600,0)] [cL 7 t_api_Flow p0, .c (.fn 79 [.ptr (5600,0)])] (heapOf [((5600,0), .box [jI p1_0.fFrom, jI p1_0.fTo])]) (cI r) (heapOf [((5600,0), .box [jI p1_0.fFrom, jI p1_0.fTo])]) := by
 refine Fun.of_walkM [(5600,0)] (some [(5600,0)]) Tryz.func115 c115 (by kernel_rfl) (rs := [.tmp 4]) (by kernel_rfl) rfl rfl rfl ?_; unfold v115
 unfold slices_IndexFunc_api_Flow_api_Flow_k1 at hF
 refine wA rfl ?_; refine W_seq ?_; refine wC 1 rfl ?_; refine rS (T_len (tc := t_api_Flow) p0 .tree ?_); refine QV rfl ?_; refine W_for (fun _ _ h => h) hF (.inl) (fun a12 => [(0, cL 7 t_api_Flow p0), (1, .c (.fn 79 [.ptr (5600,0)])), (7, cI (List.length p0 : Int)), (8, cI a12)]) (fun a12 => [((5600,0), .box [jI p1_0.fFrom, jI p1_0.fTo])]) (fun _ => []) (fun _ => [((5600,0), .box [jI p1_0.fFrom, jI p1_0.fTo])]) sw ?_ ?_
 · rintro ⟨⟩ hF
   refine wA rfl ?_; cases hF
   exact W_ret ⟨_, _, S_refl, _, rfl, rfl, ⟨rfl, fun _ => rfl⟩, (AgM.weak ⟨rfl, trivial⟩)⟩
 rintro a12 x_0 hF cont_0 brk_0 fin_0
 unfold slices_IndexFunc_api_Flow_api_Flow_k1_L1 at hF
 refine wA rfl ?_; refine W_seq ?_; refine wIf hF rfl (fun _ hF => ?_) fun _ hF => ?_
 · refine W_skip ?_; refine W_seq ?_; refine W_block ?_; refine wA rfl ?_; refine wC 3 rfl ?_; obtain ⟨y17, hy17, hF⟩ := bB hF
   refine rS (T_ixT (tc := t_api_Flow) p0 rfl rfl hy17 ?_); refine Q_run SV 1 rfl ?_; obtain ⟨r18, hr18, hF⟩ := bB hF
   refine R_stepX trivial (X_call (callW _ rfl fnOk79) (trace_outside_4_k1_fun _ _ _ hr18) ⟨⟨rfl, rfl, rfl, rfl, rfl, rfl, rfl, trivial⟩, ⟨_, rfl, ⟨rfl, rfl, trivial⟩⟩, trivial⟩ rfl (.inl rfl) ?_); refine QV rfl ?_
   refine wIf hF rfl (fun _ hF => ?_) fun _ hF => ?_
   · refine wA rfl ?_; have hF := fin_0 _ (oi hF); cases hF
     exact W_ret ⟨_, _, S_refl, _, rfl, rfl, ⟨rfl, fun _ => rfl⟩, (AgM.weak ⟨rfl, trivial⟩)⟩
   refine W_skip ?_; refine wB rfl ?_; exact cont_0 _ _ _ (oi hF) sw
 refine W_exit ?_; refine thenQ_exit ?_; refine thenQ_exit ?_; refine blockQ_hit ?_; exact brk_0 _ _ _ (oi hF) sw
def slices_ContainsFunc_api_Flow_api_Flow_k1 (p0 : (List api_Flow)) (p1_0 : api_Span) : Option Bool :=
  ((slices_IndexFunc_api_Flow_api_Flow_k1 p0 p1_0).bind fun r1 => some (decide (0 ≤ r1)))
theorem slices_ContainsFunc_api_Flow_api_Flow_k1_fun (p0 : (List api_Flow)) (p1_0 : api_Span) (r : Bool) (hF : slices_ContainsFunc_api_Flow_api_Flow_k1 p0 p1_0 = some r) : Fun Tryz.prog 78 false [(4120,0)] [cL 7 t_api_Flow p0, .c (.fn 79 [.ptr (4120,0)])] (heapOf [((4120,0), .box [jI p1_0.fFrom, jI p1_0.fTo])]) (cB r) (heapOf [((4120,0), .box [jI p1_0.fFrom, jI p1_0.fTo])]) := by
 refine Fun.of_walkM [(4120,0)] (some [(4120,0)]) Tryz.func78 c78 (by kernel_rfl) (rs := [.tmp 4]) (by kernel_rfl) rfl rfl rfl ?_; unfold v78
 unfold slices_ContainsFunc_api_Flow_api_Flow_k1 at hF
 refine wA rfl ?_; refine wC 2 rfl ?_; obtain ⟨r1, hr1, hF⟩ := bB hF
 refine rS (T_callO [((5600,0),(4120,0))] rfl (slices_IndexFunc_api_Flow_api_Flow_k1_fun _ _ _ hr1) ⟨rfl, trivial⟩ rfl rfl (.inr ⟨.inl rfl, .inl rfl, trivial⟩) ?_); refine QV rfl ?_; cases hF
 exact W_ret ⟨_, _, S_refl, _, rfl, rfl, ⟨rfl, fun _ => rfl⟩, (AgM.weak ⟨rfl, trivial⟩)⟩
def trace_outside_5_k1 (p0 : api_Sample) (p1 : api_Span) : Option Bool :=
  ((trace_inside p1 p0.fAt).bind fun r1 => some (!r1))
theorem trace_outside_5_k1_fun (p0 : api_Sample) (p1 : api_Span) (r : Bool) (hF : trace_outside_5_k1 p0 p1 = some r) : Fun Tryz.prog 82 true [] [.agg (m_api_Sample p0), .c (.ptrI [tI p1.fFrom, tI p1.fTo])] noHeap (cB r) noHeap := by
 refine Fun.of_walk0 Tryz.func82 c82 (by kernel_rfl) (rs := [.tmp 3]) (by kernel_rfl) ?_; unfold v82
 unfold trace_outside_5_k1 at hF
 refine wA rfl ?_; refine wC 3 rfl ?_; obtain ⟨r1, hr1, hF⟩ := bB hF
 refine rS (T_call (trace_inside_fun _ _ _ hr1) ⟨⟨rfl, rfl, trivial⟩, rfl, trivial⟩ rfl (.inl rfl) ?_); refine QV rfl ?_; cases hF
 exact W_ret wR
def slices_IndexFunc_api_Sample_api_Sample_k1_L1 (p0 : (List api_Sample)) (p1_0 : api_Span) : Int → Option (Int ⊕ (Unit ⊕ Int)) := fun a12 =>
  (bif (decide (a12 < (List.length p0 : Int))) then ((idx p0 a12).bind fun y17 => ((trace_outside_5_k1 y17 p1_0).bind fun r18 => (bif r18 then some (.inr (.inr a12)) else some (.inl (w64 (a12 + 1)))))) else some (.inr (.inl ())))
def slices_IndexFunc_api_Sample_api_Sample_k1 (p0 : (List api_Sample)) (p1_0 : api_Span) : Option Int :=
  ((loop (slices_IndexFunc_api_Sample_api_Sample_k1_L1 p0 p1_0) 0).bind fun | .inl _ => some (-1) | .inr rv => some rv)
theorem slices_IndexFunc_api_Sample_api_Sample_k1_fun (p0 : (List api_Sample)) (p1_0 : api_Span) (r : Int) (hF : slices_IndexFunc_api_Sample_api_Sample_k1 p0 p1_0 = some r) : Fun Tryz.prog 116 false [(5640,0)] [cL 4 t_api_Sample p0, .c (.fn 82 [.ptr (5640,0)])] (heapOf [((5640,0), .box [jI p1_0.fFrom, jI p1_0.fTo])]) (cI r) (heapOf [((5640,0), .box [jI p1_0.fFrom, jI p1_0.fTo])]) := by
 refine Fun.of_walkM [(5640,0)] (some [(5640,0)]) Tryz.func116 c116 (by kernel_rfl) (rs := [.tmp 4]) (by kernel_rfl) rfl rfl rfl ?_; unfold v116
 unfold slices_IndexFunc_api_Sample_api_Sample_k1 at hF
 refine wA rfl ?_; refine W_seq ?_; refine wC 1 rfl ?_; refine rS (T_len (tc := t_api_Sample) p0 .tree ?_); refine QV rfl ?_; refine W_for (fun _ _ h => h) hF (.inl) (fun a12 => [(0, cL 4 t_api_Sample p0), (1, .c (.fn 82 [.ptr (5640,0)])), (7, cI (List.length p0 : Int)), (8, cI a12)]) (fun a12 => [((5640,0), .box [jI p1_0.fFrom, jI p1_0.fTo])]) (fun _ => []) (fun _ => [((5640,0), .box [jI p1_0.fFrom, jI p1_0.fTo])]) sw ?_ ?_
 · rintro ⟨⟩ hF
   refine wA rfl ?_; cases hF
   exact W_ret ⟨_, _, S_refl, _, rfl, rfl, ⟨rfl, fun _ => rfl⟩, (AgM.weak ⟨rfl, trivial⟩)⟩
 rintro a12 x_0 hF cont_0 brk_0 fin_0
 unfold slices_IndexFunc_api_Sample_api_Sample_k1_L1 at hF
 refine wA rfl ?_; refine W_seq ?_; refine wIf hF rfl (fun _ hF => ?_) fun _ hF => ?_
 · refine W_skip ?_; refine W_seq ?_; refine W_block ?_; refine wA rfl ?_; refine wC 3 rfl ?_; obtain ⟨y17, hy17, hF⟩ := bB hF
   refine rS (T_ixT (tc := t_api_Sample) p0 rfl rfl hy17 ?_); refine Q_run SV 1 rfl ?_; obtain ⟨r18, hr18, hF⟩ := bB hF
   refine R_stepX trivial (X_call (callW _ rfl fnOk82) (trace_outside_5_k1_fun _ _ _ hr18) ⟨⟨rfl, rfl, rfl, rfl, trivial⟩, ⟨_, rfl, ⟨rfl, rfl, trivial⟩⟩, trivial⟩ rfl (.inl rfl) ?_); refine QV rfl ?_; refine wIf hF rfl (fun _ hF => ?_) fun _ hF => ?_
   · refine wA rfl ?_; have hF := fin_0 _ (oi hF); cases hF
     exact W_ret ⟨_, _, S_refl, _, rfl, rfl, ⟨rfl, fun _ => rfl⟩, (AgM.weak ⟨rfl, trivial⟩)⟩
   refine W_skip ?_; refine wB rfl ?_; exact cont_0 _ _ _ (oi hF) sw
 refine W_exit ?_; refine thenQ_exit ?_; refine thenQ_exit ?_; refine blockQ_hit ?_; exact brk_0 _ _ _ (oi hF) sw
def slices_ContainsFunc_api_Sample_api_Sample_k1 (p0 : (List api_Sample)) (p1_0 : api_Span) : Option Bool :=
  ((slices_IndexFunc_api_Sample_api_Sample_k1 p0 p1_0).bind fun r1 => some (decide (0 ≤ r1)))
theorem slices_ContainsFunc_api_Sample_api_Sample_k1_fun (p0 : (List api_Sample)) (p1_0 : api_Span) (r : Bool) (hF : slices_ContainsFunc_api_Sample_api_Sample_k1 p0 p1_0 = some r) : Fun Tryz.prog 81 false [(4240,0)] [cL 4 t_api_Sample p0, .c (.fn 82 [.ptr (4240,0)])] (heapOf [((4240,0), .box [jI p1_0.fFrom, jI p1_0.fTo])]) (cB r) (heapOf [((4240,0), .box [jI p1_0.fFrom, jI p1_0.fTo])]) := by
 refine Fun.of_walkM [(4240,0)] (some [(4240,0)]) Tryz.func81 c81 (by kernel_rfl) (rs := [.tmp 4]) (by kernel_rfl) rfl rfl rfl ?_; unfold v81
 unfold slices_ContainsFunc_api_Sample_api_Sample_k1 at hF
 refine wA rfl ?_; refine wC 2 rfl ?_; obtain ⟨r1, hr1, hF⟩ := bB hF
 refine rS (T_callO [((5640,0),(4240,0))] rfl (slices_IndexFunc_api_Sample_api_Sample_k1_fun _ _ _ hr1) ⟨rfl, trivial⟩ rfl rfl (.inr ⟨.inl rfl, .inl rfl, trivial⟩) ?_); refine QV rfl ?_; cases hF
 exact W_ret ⟨_, _, S_refl, _, rfl, rfl, ⟨rfl, fun _ => rfl⟩, (AgM.weak ⟨rfl, trivial⟩)⟩
def trace_outside_6_k1 (p0 : api_Step) (p1 : api_Span) : Option Bool :=
  ((trace_inside p1 p0.fAt).bind fun r1 => some (!r1))
theorem trace_outside_6_k1_fun (p0 : api_Step) (p1 : api_Span) (r : Bool) (hF : trace_outside_6_k1 p0 p1 = some r) : Fun Tryz.prog 84 true [] [.agg (m_api_Step p0), .c (.ptrI [tI p1.fFrom, tI p1.fTo])] noHeap (cB r) noHeap := by
 refine Fun.of_walk0 Tryz.func84 c84 (by kernel_rfl) (rs := [.tmp 3]) (by kernel_rfl) ?_; unfold v84
 unfold trace_outside_6_k1 at hF
 refine wA rfl ?_; refine wC 3 rfl ?_; obtain ⟨r1, hr1, hF⟩ := bB hF
 refine rS (T_call (trace_inside_fun _ _ _ hr1) ⟨⟨rfl, rfl, trivial⟩, rfl, trivial⟩ rfl (.inl rfl) ?_); refine QV rfl ?_; cases hF
 exact W_ret wR
def slices_IndexFunc_api_Step_api_Step_k1_L1 (p0 : (List api_Step)) (p1_0 : api_Span) : Int → Option (Int ⊕ (Unit ⊕ Int)) := fun a12 =>
  (bif (decide (a12 < (List.length p0 : Int))) then ((idx p0 a12).bind fun y17 => ((trace_outside_6_k1 y17 p1_0).bind fun r18 => (bif r18 then some (.inr (.inr a12)) else some (.inl (w64 (a12 + 1)))))) else some (.inr (.inl ())))
def slices_IndexFunc_api_Step_api_Step_k1 (p0 : (List api_Step)) (p1_0 : api_Span) : Option Int :=
  ((loop (slices_IndexFunc_api_Step_api_Step_k1_L1 p0 p1_0) 0).bind fun | .inl _ => some (-1) | .inr rv => some rv)
theorem slices_IndexFunc_api_Step_api_Step_k1_fun (p0 : (List api_Step)) (p1_0 : api_Span) (r : Int) (hF : slices_IndexFunc_api_Step_api_Step_k1 p0 p1_0 = some r) : Fun Tryz.prog 117 false [(5680,0)] [cL 3 t_api_Step p0, .c (.fn 84 [.ptr (5680,0)])] (heapOf [((5680,0), .box [jI p1_0.fFrom, jI p1_0.fTo])]) (cI r) (heapOf [((5680,0), .box [jI p1_0.fFrom, jI p1_0.fTo])]) := by
 refine Fun.of_walkM [(5680,0)] (some [(5680,0)]) Tryz.func117 c117 (by kernel_rfl) (rs := [.tmp 4]) (by kernel_rfl) rfl rfl rfl ?_; unfold v117
 unfold slices_IndexFunc_api_Step_api_Step_k1 at hF
 refine wA rfl ?_; refine W_seq ?_; refine wC 1 rfl ?_; refine rS (T_len (tc := t_api_Step) p0 .tree ?_); refine QV rfl ?_; refine W_for (fun _ _ h => h) hF (.inl) (fun a12 => [(0, cL 3 t_api_Step p0), (1, .c (.fn 84 [.ptr (5680,0)])), (7, cI (List.length p0 : Int)), (8, cI a12)]) (fun a12 => [((5680,0), .box [jI p1_0.fFrom, jI p1_0.fTo])]) (fun _ => []) (fun _ => [((5680,0), .box [jI p1_0.fFrom, jI p1_0.fTo])]) sw ?_ ?_
 · rintro ⟨⟩ hF
   refine wA rfl ?_; cases hF
   exact W_ret ⟨_, _, S_refl, _, rfl, rfl, ⟨rfl, fun _ => rfl⟩, (AgM.weak ⟨rfl, trivial⟩)⟩
 rintro a12 x_0 hF cont_0 brk_0 fin_0
 unfold slices_IndexFunc_api_Step_api_Step_k1_L1 at hF
 refine wA rfl ?_; refine W_seq ?_; refine wIf hF rfl (fun _ hF => ?_) fun _ hF => ?_
 · refine W_skip ?_; refine W_seq ?_; refine W_block ?_; refine wA rfl ?_; refine wC 3 rfl ?_; obtain ⟨y17, hy17, hF⟩ := bB hF
   refine rS (T_ixT (tc := t_api_Step) p0 rfl rfl hy17 ?_); refine Q_run SV 1 rfl ?_; obtain ⟨r18, hr18, hF⟩ := bB hF
   refine R_stepX trivial (X_call (callW _ rfl fnOk84) (trace_outside_6_k1_fun _ _ _ hr18) ⟨⟨rfl, rfl, rfl, trivial⟩, ⟨_, rfl, ⟨rfl, rfl, trivial⟩⟩, trivial⟩ rfl (.inl rfl) ?_); refine QV rfl ?_; refine wIf hF rfl (fun _ hF => ?_) fun _ hF => ?_
   · refine wA rfl ?_; have hF := fin_0 _ (oi hF); cases hF
     exact W_ret ⟨_, _, S_refl, _, rfl, rfl, ⟨rfl, fun _ => rfl⟩, (AgM.weak ⟨rfl, trivial⟩)⟩
   refine W_skip ?_; refine wB rfl ?_; exact cont_0 _ _ _ (oi hF) sw
 refine W_exit ?_; refine thenQ_exit ?_; refine thenQ_exit ?_; refine blockQ_hit ?_; exact brk_0 _ _ _ (oi hF) sw
def slices_ContainsFunc_api_Step_api_Step_k1 (p0 : (List api_Step)) (p1_0 : api_Span) : Option Bool :=
  ((slices_IndexFunc_api_Step_api_Step_k1 p0 p1_0).bind fun r1 => some (decide (0 ≤ r1)))
theorem slices_ContainsFunc_api_Step_api_Step_k1_fun (p0 : (List api_Step)) (p1_0 : api_Span) (r : Bool) (hF : slices_ContainsFunc_api_Step_api_Step_k1 p0 p1_0 = some r) : Fun Tryz.prog 83 false [(4320,0)] [cL 3 t_api_Step p0, .c (.fn 84 [.ptr (4320,0)])] (heapOf [((4320,0), .box [jI p1_0.fFrom, jI p1_0.fTo])]) (cB r) (heapOf [((4320,0), .box [jI p1_0.fFrom, jI p1_0.fTo])]) := by
 refine Fun.of_walkM [(4320,0)] (some [(4320,0)]) Tryz.func83 c83 (by kernel_rfl) (rs := [.tmp 4]) (by kernel_rfl) rfl rfl rfl ?_; unfold v83
 unfold slices_ContainsFunc_api_Step_api_Step_k1 at hF
 refine wA rfl ?_; refine wC 2 rfl ?_; obtain ⟨r1, hr1, hF⟩ := bB hF
 refine rS (T_callO [((5680,0),(4320,0))] rfl (slices_IndexFunc_api_Step_api_Step_k1_fun _ _ _ hr1) ⟨rfl, trivial⟩ rfl rfl (.inr ⟨.inl rfl, .inl rfl, trivial⟩) ?_); refine QV rfl ?_; cases hF
 exact W_ret ⟨_, _, S_refl, _, rfl, rfl, ⟨rfl, fun _ => rfl⟩, (AgM.weak ⟨rfl, trivial⟩)⟩
def trace_outside (p0 : api_Trace) : Option Bool :=
  ((((slices_ContainsFunc_api_Slice_api_Slice_k1 p0.fSlices p0.fSpan).bind fun r2 => (bif r2 then some true else ((slices_ContainsFunc_api_State_api_State_k1 p0.fStates p0.fSpan).bind fun r4 => (bif r4 then some true else ((slices_ContainsFunc_api_Block_api_Block_k1 p0.fBlocks p0.fSpan).bind fun r6 => (bif r6 then some true else ((slices_ContainsFunc_api_Flow_api_Flow_k1 p0.fFlows p0.fSpan).bind fun r8 => (bif r8 then some true else ((slices_ContainsFunc_api_Sample_api_Sample_k1 p0.fSamples p0.fSpan).bind fun r10 => (bif r10 then some true else ((slices_ContainsFunc_api_Step_api_Step_k1 p0.fSteps p0.fSpan).bind fun r12 => some r12))))))))))) : Option Bool).bind fun v1 => some v1)
theorem trace_outside_fun (p0 : api_Trace) (r : Bool) (hF : trace_outside p0 = some r) : Fun Tryz.prog 45 true [] [.agg (m_api_Trace p0)] noHeap (cB r) noHeap := by
 refine Fun.of_walk0 Tryz.func45 c45 (by kernel_rfl) (rs := [.tmp 2]) (by kernel_rfl) ?_; unfold v45
 unfold trace_outside at hF
 refine wA rfl ?_; refine wA rfl ?_; refine W_seq ?_; refine W_join (fun _ _ h => h) hF (fun v1 => [(2, cB v1)]) (fun v1 => []) ?_ ?_
 · rintro v1 hF
   cases hF
   exact W_ret wR
 intro join hF
 refine wD 3 rfl ?_; obtain ⟨r2, hr2, hF⟩ := bB' hF
 refine rS (T_callO [((3840,0),(3,0))] rfl (slices_ContainsFunc_api_Slice_api_Slice_k1_fun _ _ _ hr2) ⟨rfl, trivial⟩ rfl rfl (.inr ⟨.inl rfl, .inl rfl, trivial⟩) ?_); refine Q_run SV 1 rfl ?_; cases h3 : r2
 · have hF := bF' h3 hF; refine Q_run SV 3 rfl ?_; obtain ⟨r4, hr4, hF⟩ := bB' hF
   refine R_step SV rfl (T_callO [((3960,0),(3,0))] rfl (slices_ContainsFunc_api_State_api_State_k1_fun _ _ _ hr4) ⟨rfl, trivial⟩ rfl rfl (.inr ⟨.inl rfl, .inl rfl, trivial⟩) ?_); refine Q_run SV 2 rfl ?_
   cases h5 : r4
   · have hF := bF' h5 hF; refine Q_run SV 3 rfl ?_; obtain ⟨r6, hr6, hF⟩ := bB' hF
     refine R_step SV rfl (T_callO [((4040,0),(3,0))] rfl (slices_ContainsFunc_api_Block_api_Block_k1_fun _ _ _ hr6) ⟨rfl, trivial⟩ rfl rfl (.inr ⟨.inl rfl, .inl rfl, trivial⟩) ?_); refine Q_run SV 2 rfl ?_
     cases h7 : r6
     · have hF := bF' h7 hF; refine Q_run SV 3 rfl ?_; obtain ⟨r8, hr8, hF⟩ := bB' hF
       refine R_step SV rfl (T_callO [((4120,0),(3,0))] rfl (slices_ContainsFunc_api_Flow_api_Flow_k1_fun _ _ _ hr8) ⟨rfl, trivial⟩ rfl rfl (.inr ⟨.inl rfl, .inl rfl, trivial⟩) ?_); refine Q_run SV 2 rfl ?_; cases h9 : r8
       · have hF := bF' h9 hF; refine Q_run SV 3 rfl ?_; obtain ⟨r10, hr10, hF⟩ := bB' hF
         refine R_step SV rfl (T_callO [((4240,0),(3,0))] rfl (slices_ContainsFunc_api_Sample_api_Sample_k1_fun _ _ _ hr10) ⟨rfl, trivial⟩ rfl rfl (.inr ⟨.inl rfl, .inl rfl, trivial⟩) ?_); refine Q_run SV 2 rfl ?_
         cases h11 : r10
         · have hF := bF' h11 hF; refine Q_run SV 3 rfl ?_; obtain ⟨r12, hr12, hF⟩ := bB' hF
           refine R_step SV rfl (T_callO [((4320,0),(3,0))] rfl (slices_ContainsFunc_api_Step_api_Step_k1_fun _ _ _ hr12) ⟨rfl, trivial⟩ rfl rfl (.inr ⟨.inl rfl, .inl rfl, trivial⟩) ?_); refine QV rfl ?_; exact join r12 _ _ hF sw
         have hF := bT' h11 hF; refine QV rfl ?_; exact join true _ _ hF sw
       have hF := bT' h9 hF; refine QV rfl ?_; exact join true _ _ hF sw
     have hF := bT' h7 hF; refine QV rfl ?_; exact join true _ _ hF sw
   have hF := bT' h5 hF; refine QV rfl ?_; exact join true _ _ hF sw
 have hF := bT' h3 hF; refine QV rfl ?_; exact join true _ _ hF sw
def trace_Check (p0 : api_Trace) : Option Int :=
  ((trace_tables p0).bind fun r1 => (bif (!decide (r1 = 0)) then some r1 else (((bif (decide (p0.fSpan.fFrom < 0)) then some true else (bif (decide (p0.fSpan.fTo < p0.fSpan.fFrom)) then some true else some (decide (1000000000000 < p0.fSpan.fTo)))) : Option Bool).bind fun v2 => (bif v2 then some 2 else ((trace_outside p0).bind fun r3 => (bif r3 then some 10 else some 0))))))
theorem trace_Check_fun (p0 : api_Trace) (r : Int) (hF : trace_Check p0 = some r) : Fun Tryz.prog 36 true [] [.agg (m_api_Trace p0)] noHeap (cI r) noHeap := by
 refine Fun.of_walk0 Tryz.func36 c36 (by kernel_rfl) (rs := [.tmp 2]) (by kernel_rfl) ?_; unfold v36
 unfold trace_Check at hF
 refine wA rfl ?_; refine W_seq ?_; refine wC 1 rfl ?_; obtain ⟨r1, hr1, hF⟩ := bB hF
 refine rS (T_call (trace_tables_fun _ _ hr1) ⟨⟨rfl, rfl, rfl, rfl, rfl, rfl, rfl, rfl, rfl, rfl, trivial⟩, trivial⟩ rfl (.inl rfl) ?_); refine QV rfl ?_; refine wA rfl ?_; refine wIf hF rfl (fun _ hF => ?_) fun _ hF => ?_
 · refine wA rfl ?_; cases hF
   exact W_ret wR
 refine W_skip ?_; refine W_seq ?_; refine W_seq ?_; refine W_join (fun _ _ h => h) hF (fun v2 => [(1, cP (1,0) 0), (27, cB v2)]) (fun v2 => [((1,0), .box (m_api_Trace p0))]) ?_ ?_
 · rintro v2 hF
   refine wIf hF rfl (fun _ hF => ?_) fun _ hF => ?_
   · refine wA rfl ?_; cases hF
     exact W_ret wR
   refine W_skip ?_; refine W_seq ?_; refine wC 1 rfl ?_; obtain ⟨r3, hr3, hF⟩ := bB hF
   refine rS (T_call (trace_outside_fun _ _ hr3) ⟨⟨rfl, rfl, rfl, rfl, rfl, rfl, rfl, rfl, rfl, rfl, trivial⟩, trivial⟩ rfl (.inl rfl) ?_); refine QV rfl ?_; refine wIf hF rfl (fun _ hF => ?_) fun _ hF => ?_
   · refine wA rfl ?_; cases hF
     exact W_ret wR
   refine W_skip ?_; refine wA rfl ?_; cases hF
   exact W_ret wR
 intro join hF
 refine wD 5 rfl ?_; cases h6 : (decide (p0.fSpan.fFrom < 0))
 · have hF := bF' h6 hF; refine Q_run SV 9 rfl ?_; cases h7 : (decide (p0.fSpan.fTo < p0.fSpan.fFrom))
   · have hF := bF' h7 hF; refine QV rfl ?_; exact join (decide (1000000000000 < p0.fSpan.fTo)) _ _ hF sw
   have hF := bT' h7 hF; refine QV rfl ?_; exact join true _ _ hF sw
 have hF := bT' h6 hF; refine QV rfl ?_; exact join true _ _ hF sw
def critical_known_1_k1 (p0 : api_Thread) (p1 : Int) : Option Bool :=
  some (decide (p0.fId = p1))
theorem critical_known_1_k1_fun (p0 : api_Thread) (p1 : Int) (r : Bool) (hF : critical_known_1_k1 p0 p1 = some r) : Fun Tryz.prog 47 true [] [.agg (m_api_Thread p0), .c (.ptrI [tI p1])] noHeap (cB r) noHeap := by
 refine Fun.of_walk0 Tryz.func47 c47 (by kernel_rfl) (rs := [.tmp 3]) (by kernel_rfl) ?_; unfold v47
 unfold critical_known_1_k1 at hF
 refine wA rfl ?_; refine wA rfl ?_; cases hF
 exact W_ret wR
def slices_IndexFunc_api_Thread_api_Thread_k1_L1 (p0 : (List api_Thread)) (p1_0 : Int) : Int → Option (Int ⊕ (Unit ⊕ Int)) := fun a12 =>
  (bif (decide (a12 < (List.length p0 : Int))) then ((idx p0 a12).bind fun y17 => ((critical_known_1_k1 y17 p1_0).bind fun r18 => (bif r18 then some (.inr (.inr a12)) else some (.inl (w64 (a12 + 1)))))) else some (.inr (.inl ())))
def slices_IndexFunc_api_Thread_api_Thread_k1 (p0 : (List api_Thread)) (p1_0 : Int) : Option Int :=
  ((loop (slices_IndexFunc_api_Thread_api_Thread_k1_L1 p0 p1_0) 0).bind fun | .inl _ => some (-1) | .inr rv => some rv)
theorem slices_IndexFunc_api_Thread_api_Thread_k1_fun (p0 : (List api_Thread)) (p1_0 : Int) (r : Int) (hF : slices_IndexFunc_api_Thread_api_Thread_k1 p0 p1_0 = some r) : Fun Tryz.prog 85 false [(4400,0)] [cL 3 t_api_Thread p0, .c (.fn 47 [.ptr (4400,0)])] (heapOf [((4400,0), .box [jI p1_0])]) (cI r) (heapOf [((4400,0), .box [jI p1_0])]) := by
 refine Fun.of_walkM [(4400,0)] (some [(4400,0)]) Tryz.func85 c85 (by kernel_rfl) (rs := [.tmp 4]) (by kernel_rfl) rfl rfl rfl ?_; unfold v85
 unfold slices_IndexFunc_api_Thread_api_Thread_k1 at hF
 refine wA rfl ?_; refine W_seq ?_; refine wC 1 rfl ?_; refine rS (T_len (tc := t_api_Thread) p0 .tree ?_); refine QV rfl ?_; refine W_for (fun _ _ h => h) hF (.inl) (fun a12 => [(0, cL 3 t_api_Thread p0), (1, .c (.fn 47 [.ptr (4400,0)])), (7, cI (List.length p0 : Int)), (8, cI a12)]) (fun a12 => [((4400,0), .box [jI p1_0])]) (fun _ => []) (fun _ => [((4400,0), .box [jI p1_0])]) sw ?_ ?_
 · rintro ⟨⟩ hF
   refine wA rfl ?_; cases hF
   exact W_ret ⟨_, _, S_refl, _, rfl, rfl, ⟨rfl, fun _ => rfl⟩, (AgM.weak ⟨rfl, trivial⟩)⟩
 rintro a12 x_0 hF cont_0 brk_0 fin_0
 unfold slices_IndexFunc_api_Thread_api_Thread_k1_L1 at hF
 refine wA rfl ?_; refine W_seq ?_; refine wIf hF rfl (fun _ hF => ?_) fun _ hF => ?_
 · refine W_skip ?_; refine W_seq ?_; refine W_block ?_; refine wA rfl ?_; refine wC 3 rfl ?_; obtain ⟨y17, hy17, hF⟩ := bB hF
   refine rS (T_ixT (tc := t_api_Thread) p0 rfl rfl hy17 ?_); refine Q_run SV 1 rfl ?_; obtain ⟨r18, hr18, hF⟩ := bB hF
   refine R_stepX trivial (X_call (callW _ rfl fnOk47) (critical_known_1_k1_fun _ _ _ hr18) ⟨⟨rfl, rfl, rfl, trivial⟩, ⟨_, rfl, ⟨rfl, trivial⟩⟩, trivial⟩ rfl (.inl rfl) ?_); refine QV rfl ?_; refine wIf hF rfl (fun _ hF => ?_) fun _ hF => ?_
   · refine wA rfl ?_; have hF := fin_0 _ (oi hF); cases hF
     exact W_ret ⟨_, _, S_refl, _, rfl, rfl, ⟨rfl, fun _ => rfl⟩, (AgM.weak ⟨rfl, trivial⟩)⟩
   refine W_skip ?_; refine wB rfl ?_; exact cont_0 _ _ _ (oi hF) sw
 refine W_exit ?_; refine thenQ_exit ?_; refine thenQ_exit ?_; refine blockQ_hit ?_; exact brk_0 _ _ _ (oi hF) sw
def slices_ContainsFunc_api_Thread_api_Thread_k1 (p0 : (List api_Thread)) (p1_0 : Int) : Option Bool :=
  ((slices_IndexFunc_api_Thread_api_Thread_k1 p0 p1_0).bind fun r1 => some (decide (0 ≤ r1)))
theorem slices_ContainsFunc_api_Thread_api_Thread_k1_fun (p0 : (List api_Thread)) (p1_0 : Int) (r : Bool) (hF : slices_ContainsFunc_api_Thread_api_Thread_k1 p0 p1_0 = some r) : Fun Tryz.prog 46 false [(2840,0)] [cL 3 t_api_Thread p0, .c (.fn 47 [.ptr (2840,0)])] (heapOf [((2840,0), .box [jI p1_0])]) (cB r) (heapOf [((2840,0), .box [jI p1_0])]) := by
 refine Fun.of_walkM [(2840,0)] (some [(2840,0)]) Tryz.func46 c46 (by kernel_rfl) (rs := [.tmp 4]) (by kernel_rfl) rfl rfl rfl ?_; unfold v46
 unfold slices_ContainsFunc_api_Thread_api_Thread_k1 at hF
 refine wA rfl ?_; refine wC 2 rfl ?_; obtain ⟨r1, hr1, hF⟩ := bB hF
 refine rS (T_callO [((4400,0),(2840,0))] rfl (slices_IndexFunc_api_Thread_api_Thread_k1_fun _ _ _ hr1) ⟨rfl, trivial⟩ rfl rfl (.inr ⟨.inl rfl, .inl rfl, trivial⟩) ?_); refine QV rfl ?_; cases hF
 exact W_ret ⟨_, _, S_refl, _, rfl, rfl, ⟨rfl, fun _ => rfl⟩, (AgM.weak ⟨rfl, trivial⟩)⟩
def critical_known (p0 : api_Trace) (p1 : Int) : Option Bool :=
  ((slices_ContainsFunc_api_Thread_api_Thread_k1 p0.fThreads p1).bind fun r1 => some r1)
theorem critical_known_fun (p0 : api_Trace) (p1 : Int) (r : Bool) (hF : critical_known p0 p1 = some r) : Fun Tryz.prog 37 true [] [.agg (m_api_Trace p0), cI p1] noHeap (cB r) noHeap := by
 refine Fun.of_walk0 Tryz.func37 c37 (by kernel_rfl) (rs := [.tmp 4]) (by kernel_rfl) ?_; unfold v37
 unfold critical_known at hF
 refine wA rfl ?_; refine wC 3 rfl ?_; obtain ⟨r1, hr1, hF⟩ := bB hF
 refine rS (T_callO [((2840,0),(3,0))] rfl (slices_ContainsFunc_api_Thread_api_Thread_k1_fun _ _ _ hr1) ⟨rfl, trivial⟩ rfl rfl (.inr ⟨.inl rfl, .inl rfl, trivial⟩) ?_); refine QV rfl ?_; cases hF
 exact W_ret wR
def state_At_L1 (p0 : (List api_State)) (p1 : Int) (p2 : Int) : Int → Option (Int ⊕ (Unit ⊕ (api_State × Bool))) := fun a16 =>
  (bif (decide (a16 < (List.length p0 : Int))) then ((idx p0 a16).bind fun y23 => (((bif (decide (y23.fThread = p1)) then (bif (decide (y23.fSpan.fFrom ≤ p2)) then some (decide (p2 < y23.fSpan.fTo)) else some false) else some false) : Option Bool).bind fun v24 => (bif v24 then some (.inr (.inr (y23, true))) else some (.inl (w64 (a16 + 1)))))) else some (.inr (.inl ())))
def state_At (p0 : (List api_State)) (p1 : Int) (p2 : Int) : Option (api_State × Bool) :=
  ((loop (state_At_L1 p0 p1 p2) 0).bind fun | .inl _ => some (({ fThread := 0, fState := 0, fSpan := ({ fFrom := 0, fTo := 0 } : api_Span), fCpu := 0, fOn := 0, fBy := 0 } : api_State), false) | .inr rv => some rv)
theorem state_At_fun (p0 : (List api_State)) (p1 : Int) (p2 : Int) (r : (api_State × Bool)) (hF : state_At p0 p1 p2 = some r) : Fun Tryz.prog 21 true [] [cL 7 t_api_State p0, cI p1, cI p2] noHeap (.tup [.agg (m_api_State r.1), cB r.2]) noHeap := by
 refine Fun.of_walk0 Tryz.func21 c21 (by kernel_rfl) (rs := [.cell 6 7 true, .tmp 7]) (by kernel_rfl) ?_; unfold v21
 unfold state_At at hF
 refine wA rfl ?_; refine W_seq ?_; refine wC 1 rfl ?_; refine rS (T_len (tc := t_api_State) p0 .tree ?_); refine QV rfl ?_; refine W_for (fun _ _ h => h) hF (.inl) (fun a16 => [(1, cI p1), (2, cI p2), (6, cP (6,0) 0), (10, cL 7 t_api_State p0), (11, cI (List.length p0 : Int)), (12, cI a16)]) (fun a16 => [((6,0), .box [jI 0, jI 0, jI 0, jI 0, jI 0, jI 0, jI 0])]) (fun _ => [(6, cP (6,0) 0)]) (fun _ => [((6,0), .box [jI 0, jI 0, jI 0, jI 0, jI 0, jI 0, jI 0])]) sw ?_ ?_
 · rintro ⟨⟩ hF
   refine wA rfl ?_; cases hF
   exact W_ret ⟨_, rfl, rfl, ⟨⟨⟨rfl, fun _ => rfl⟩, ⟨rfl, fun _ => rfl⟩, ⟨rfl, fun _ => rfl⟩, ⟨rfl, fun _ => rfl⟩, ⟨rfl, fun _ => rfl⟩, ⟨rfl, fun _ => rfl⟩, ⟨rfl, fun _ => rfl⟩, trivial⟩, ⟨rfl, fun _ => rfl⟩, trivial⟩, noOut _⟩
 rintro a16 x_0 hF cont_0 brk_0 fin_0
 unfold state_At_L1 at hF
 refine wA rfl ?_; refine W_seq ?_; refine wIf hF rfl (fun _ hF => ?_) fun _ hF => ?_
 · refine W_skip ?_; refine W_seq ?_; refine W_block ?_; refine wE ?_; obtain ⟨y23, hy23, hF⟩ := bB hF
   refine rS (T_ixT (tc := t_api_State) p0 rfl rfl hy23 ?_); refine QV rfl ?_; refine W_seq ?_; refine W_join (fun _ _ h => h) hF (fun v24 => [(1, cI p1), (2, cI p2), (6, cP (6,0) 0), (9, cP (9,0) 0), (10, cL 7 t_api_State p0), (11, cI (List.length p0 : Int)), (12, cI a16), (33, cB v24)]) (fun v24 => [((6,0), .box [jI 0, jI 0, jI 0, jI 0, jI 0, jI 0, jI 0]), ((9,0), .box (m_api_State y23))]) ?_ ?_
   · rintro v24 hF
     refine wIf hF rfl (fun _ hF => ?_) fun _ hF => ?_
     · refine wA rfl ?_; have hF := fin_0 _ (oi hF); cases hF
       exact W_ret ⟨_, rfl, rfl, ⟨⟨⟨rfl, fun _ => rfl⟩, ⟨rfl, fun _ => rfl⟩, ⟨rfl, fun _ => rfl⟩, ⟨rfl, fun _ => rfl⟩, ⟨rfl, fun _ => rfl⟩, ⟨rfl, fun _ => rfl⟩, ⟨rfl, fun _ => rfl⟩, trivial⟩, ⟨rfl, fun _ => rfl⟩, trivial⟩, noOut _⟩
     refine W_skip ?_; refine wB rfl ?_; exact cont_0 _ _ _ (oi hF) sw
   intro join hF
   refine wD 5 rfl ?_; cases h26 : (decide (y23.fThread = p1))
   · have hF := bF' h26 hF; refine QV rfl ?_; exact join false _ _ hF sw
   have hF := bT' h26 hF; refine Q_run SV 7 rfl ?_; cases h27 : (decide (y23.fSpan.fFrom ≤ p2))
   · have hF := bF' h27 hF; refine QV rfl ?_; exact join false _ _ hF sw
   have hF := bT' h27 hF; refine QV rfl ?_; exact join (decide (p2 < y23.fSpan.fTo)) _ _ hF sw
 refine W_exit ?_; refine thenQ_exit ?_; refine thenQ_exit ?_; refine blockQ_hit ?_; exact brk_0 _ _ _ (oi hF) sw
def critical_check (p0 : api_Trace) (p1 : Int) (p2 : api_Span) : Option Int :=
  ((trace_Check p0).bind fun r1 => (bif (!decide (r1 = 0)) then some r1 else ((critical_known p0 p1).bind fun r2 => (bif (!r2) then some 5 else ((state_At p0.fStates p1 p2.fFrom).bind fun r3 => ((state_At p0.fStates p1 (w64 (p2.fTo - 1))).bind fun r4 => ((((spans_Valid p2).bind fun r7 => (bif (!r7) then some true else (bif (!r3.2) then some true else some (!r4.2)))) : Option Bool).bind fun v5 => (bif v5 then some 1 else some 0))))))))
theorem critical_check_fun (p0 : api_Trace) (p1 : Int) (p2 : api_Span) (r : Int) (hF : critical_check p0 p1 p2 = some r) : Fun Tryz.prog 19 true [] [.agg (m_api_Trace p0), cI p1, .agg [jI p2.fFrom, jI p2.fTo]] noHeap (cI r) noHeap := by
 refine Fun.of_walk0 Tryz.func19 c19 (by kernel_rfl) (rs := [.tmp 6]) (by kernel_rfl) ?_; unfold v19
 unfold critical_check at hF
 refine wA rfl ?_; refine W_seq ?_; refine wC 1 rfl ?_; obtain ⟨r1, hr1, hF⟩ := bB hF
 refine rS (T_call (trace_Check_fun _ _ hr1) ⟨⟨rfl, rfl, rfl, rfl, rfl, rfl, rfl, rfl, rfl, rfl, trivial⟩, trivial⟩ rfl (.inl rfl) ?_); refine QV rfl ?_; refine wA rfl ?_; refine wIf hF rfl (fun _ hF => ?_) fun _ hF => ?_
 · refine wA rfl ?_; cases hF
   exact W_ret wR
 refine W_skip ?_; refine W_seq ?_; refine wC 2 rfl ?_; obtain ⟨r2, hr2, hF⟩ := bB hF
 refine rS (T_call (critical_known_fun _ _ _ hr2) ⟨⟨rfl, rfl, rfl, rfl, rfl, rfl, rfl, rfl, rfl, rfl, trivial⟩, rfl, trivial⟩ rfl (.inl rfl) ?_); refine QV rfl ?_; refine wIf hF rfl (fun _ hF => ?_) fun _ hF => ?_
 · refine wA rfl ?_; cases hF
   exact W_ret wR
 refine W_skip ?_; refine wC 5 rfl ?_; obtain ⟨r3, hr3, hF⟩ := bB hF
 refine rS (T_call (state_At_fun _ _ _ _ hr3) ⟨rfl, rfl, rfl, trivial⟩ rfl (.inl rfl) ?_); refine QV rfl ?_; refine wC 6 rfl ?_; obtain ⟨r4, hr4, hF⟩ := bB hF
 refine rS (T_call (state_At_fun _ _ _ _ hr4) ⟨rfl, rfl, rfl, trivial⟩ rfl (.inl rfl) ?_); refine QV rfl ?_; refine W_seq ?_; refine W_seq ?_; refine W_join (fun _ _ h => h) hF (fun v5 => [(50, cB v5)]) (fun v5 => []) ?_ ?_
 · rintro v5 hF
   refine wIf hF rfl (fun _ hF => ?_) fun _ hF => ?_
   · refine wA rfl ?_; cases hF
     exact W_ret wR
   refine W_skip ?_; refine wA rfl ?_; cases hF
   exact W_ret wR
 intro join hF
 refine wD 1 rfl ?_; obtain ⟨r7, hr7, hF⟩ := bB' hF
 refine rS (T_call (spans_Valid_fun _ _ hr7) ⟨⟨rfl, rfl, trivial⟩, trivial⟩ rfl (.inl rfl) ?_); refine Q_run SV 2 rfl ?_; cases h8 : (!r7)
 · have hF := bF' h8 hF; refine Q_run SV 4 rfl ?_; cases h9 : (!r3.2)
   · have hF := bF' h9 hF; refine QV rfl ?_; exact join (!r4.2) _ _ hF sw
   have hF := bT' h9 hF; refine QV rfl ?_; exact join true _ _ hF sw
 have hF := bT' h8 hF; refine QV rfl ?_; exact join true _ _ hF sw
def critical_waker (p0 : api_Trace) (p1 : Int) (p2 : Int) : Option (Int × Bool) :=
  ((state_At p0.fStates p1 (w64 (p2 - 1))).bind fun r1 => (((bif (decide (r1.1.fState = 1)) then some true else some (decide (r1.1.fState = 2))) : Option Bool).bind fun v2 => (((bif (!r1.2) then some true else (bif (!v2) then some true else (bif (!decide (r1.1.fSpan.fTo = p2)) then some true else ((critical_known p0 r1.1.fBy).bind fun r8 => some (!r8))))) : Option Bool).bind fun v3 => (bif v3 then some (0, false) else some (r1.1.fBy, true)))))
theorem critical_waker_fun (p0 : api_Trace) (p1 : Int) (p2 : Int) (r : (Int × Bool)) (hF : critical_waker p0 p1 p2 = some r) : Fun Tryz.prog 20 true [] [.agg (m_api_Trace p0), cI p1, cI p2] noHeap (.tup [cI r.1, cB r.2]) noHeap := by
 refine Fun.of_walk0 Tryz.func20 c20 (by kernel_rfl) (rs := [.tmp 6, .tmp 7]) (by kernel_rfl) ?_; unfold v20
 unfold critical_waker at hF
 refine wA rfl ?_; refine wC 5 rfl ?_; obtain ⟨r1, hr1, hF⟩ := bB hF
 refine rS (T_call (state_At_fun _ _ _ _ hr1) ⟨rfl, rfl, rfl, trivial⟩ rfl (.inl rfl) ?_); refine QV rfl ?_; refine W_seq ?_; refine W_join (fun _ _ h => h) hF (fun v2 => [(2, cI p2), (3, cP (3,0) 0), (8, cP (8,0) 0), (9, cB r1.2), (10, cB v2)]) (fun v2 => [((3,0), .box (m_api_Trace p0)), ((8,0), .box (m_api_State r1.1))]) ?_ ?_
 · rintro v2 hF
   refine W_seq ?_; refine W_seq ?_; refine W_join (fun _ _ h => h) hF (fun v3 => [(8, cP (8,0) 0), (47, cB v3)]) (fun v3 => [((8,0), .box (m_api_State r1.1))]) ?_ ?_
   · rintro v3 hF
     refine wIf hF rfl (fun _ hF => ?_) fun _ hF => ?_
     · refine wA rfl ?_; cases hF
       exact W_ret ⟨_, rfl, rfl, ⟨⟨rfl, fun _ => rfl⟩, ⟨rfl, fun _ => rfl⟩, trivial⟩, noOut _⟩
     refine W_skip ?_; refine wA rfl ?_; cases hF
     exact W_ret ⟨_, rfl, rfl, ⟨⟨rfl, fun _ => rfl⟩, ⟨rfl, fun _ => rfl⟩, trivial⟩, noOut _⟩
   intro join hF
   refine wD 3 rfl ?_; cases h5 : (!r1.2)
   · have hF := bF' h5 hF; refine Q_run SV 4 rfl ?_; cases h6 : (!v2)
     · have hF := bF' h6 hF; refine Q_run SV 7 rfl ?_; cases h7 : (!decide (r1.1.fSpan.fTo = p2))
       · have hF := bF' h7 hF; refine Q_run SV 3 rfl ?_; obtain ⟨r8, hr8, hF⟩ := bB' hF
         refine R_step SV rfl (T_call (critical_known_fun _ _ _ hr8) ⟨⟨rfl, rfl, rfl, rfl, rfl, rfl, rfl, rfl, rfl, rfl, trivial⟩, rfl, trivial⟩ rfl (.inl rfl) ?_); refine QV rfl ?_; exact join (!r8) _ _ hF sw
       have hF := bT' h7 hF; refine QV rfl ?_; exact join true _ _ hF sw
     have hF := bT' h6 hF; refine QV rfl ?_; exact join true _ _ hF sw
   have hF := bT' h5 hF; refine QV rfl ?_; exact join true _ _ hF sw
 intro join hF
 refine wD 4 rfl ?_; cases h9 : (decide (r1.1.fState = 1))
 · have hF := bF' h9 hF; refine QV rfl ?_; exact join (decide (r1.1.fState = 2)) _ _ hF sw
 have hF := bT' h9 hF; refine QV rfl ?_; exact join true _ _ hF sw
def slices_Reverse_api_Hop_api_Hop_k1_L1  : ((List api_Hop) × Int × Int) → Option (((List api_Hop) × Int × Int) ⊕ (List api_Hop)) := fun (a20, a21, a22) =>
  (bif (decide (a21 < a22)) then ((idx a20 a22).bind fun y23 => ((idx a20 a21).bind fun y24 => ((idx a20 a21).bind fun y25 => ((idx (List.set a20 (Int.toNat a21) y23) a22).bind fun y26 => some (.inl ((List.set (List.set a20 (Int.toNat a21) y23) (Int.toNat a22) y24), (w64 (a21 + 1)), (w64 (a22 - 1)))))))) else some (.inr a20))
def slices_Reverse_api_Hop_api_Hop_k1 (p0 : (List api_Hop)) : Option (List api_Hop) :=
  (loop (slices_Reverse_api_Hop_api_Hop_k1_L1) (p0, 0, (w64 ((List.length p0 : Int) - 1))))
theorem slices_Reverse_api_Hop_api_Hop_k1_fun (p0 : (List api_Hop)) (r : (List api_Hop)) (hF : slices_Reverse_api_Hop_api_Hop_k1 p0 = some r) : Fun Tryz.prog 22 false [(1880,0)] [cO (1880,0)] (heapOf [((1880,0), .arr 49 4 (List.map t_api_Hop p0))]) (.tup []) (heapOf [((1880,0), .arr 49 4 (List.map t_api_Hop r))]) := by
 refine Fun.of_walkM [(1880,0)] (some [(1880,0)]) Tryz.func22 c22 (by kernel_rfl) (rs := []) (by kernel_rfl) rfl rfl rfl ?_; unfold v22
 unfold slices_Reverse_api_Hop_api_Hop_k1 at hF
 refine wC 1 rfl ?_; refine rS (T_len (tc := t_api_Hop) p0 (.own _ _ rfl) ?_); refine QV rfl ?_; refine W_for0 hF (fun (a20, a21, a22) => [(0, cO (1880,0)), (2, cI a21), (3, cI a22)]) (fun (a20, a21, a22) => [((1880,0), .arr 49 4 (List.map t_api_Hop a20))]) sw ?_
 rintro ⟨a20, a21, a22⟩ x_0 hF cont_0 fin_0
 unfold slices_Reverse_api_Hop_api_Hop_k1_L1 at hF
 refine W_seq ?_; refine wA rfl ?_; refine wIf hF rfl (fun _ hF => ?_) fun _ hF => ?_
 · refine W_skip ?_; refine W_seq ?_; refine W_block ?_; refine W_regD (by decide) (by kernel_rfl) rfl ?_; refine Q_run SP 6 rfl ?_; obtain ⟨y23, hy23, hF⟩ := bB hF
   refine R_step SP trivial (T_ixO (tc := t_api_Hop) a20 rfl rfl rfl hy23 ?_); refine R_step SP trivial (T_ldE (tc := t_api_Hop) a20 rfl rfl (idx_get hy23).2.1 rfl ?_); refine Q_run SP 2 rfl ?_; obtain ⟨y24, hy24, hF⟩ := bB hF
   refine R_step SP trivial (T_ixO (tc := t_api_Hop) a20 rfl rfl rfl hy24 ?_); refine R_step SP trivial (T_ldE (tc := t_api_Hop) a20 rfl rfl (idx_get hy24).2.1 rfl ?_); obtain ⟨y25, hy25, hF⟩ := bB hF
   refine R_step SP trivial (T_ixO (tc := t_api_Hop) a20 rfl rfl rfl hy25 ?_); refine R_step SP trivial (T_stE (tc := t_api_Hop) a20 y23 rfl rfl (idx_get hy25).2.1 rfl rfl rfl rfl rfl ?_); obtain ⟨y26, hy26, hF⟩ := bB hF
   refine R_step SP trivial (T_ixO (tc := t_api_Hop) (List.set a20 (Int.toNat a21) y23) rfl rfl rfl hy26 ?_); refine R_step SP trivial (T_stE (tc := t_api_Hop) (List.set a20 (Int.toNat a21) y23) y24 rfl rfl (idx_get hy26).2.1 rfl rfl rfl rfl rfl ?_)
   refine QP rfl ?_; refine wB rfl ?_; exact cont_0 _ _ _ (oi hF) sw
 refine W_exit ?_; refine thenQ_exit ?_; refine thenQ_exit ?_; refine blockQ_hit ?_; have hF := fin_0 _ (oi hF); cases hF
 exact ⟨_, _, S_refl, _, rfl, rfl, trivial, (AgM.weak ⟨rfl, trivial⟩)⟩
def critical_Path_L1 (p0 : api_Trace) (a89 : Int) : (Int × (List (Int × Bool)) × Int × Bool) → Option ((Int × (List (Int × Bool)) × Int × Bool) ⊕ Int) := fun (a151, a152, a153, a154) =>
  (((bif a154 then some (!(Option.getD (mget a153 a152) false)) else some false) : Option Bool).bind fun v163 => (bif v163 then ((critical_waker p0 a153 a89).bind fun r164 => some (.inl (a153, (mput a153 true a152), r164.1, r164.2))) else some (.inr a151)))
def critical_Path_L2 (p0 : api_Trace) (p2 : api_Span) : (Int × (List api_Hop) × Int) → Option ((Int × (List api_Hop) × Int) ⊕ ((List api_Hop) ⊕ ((List api_Hop) × Int))) := fun (a87, a88, a89) =>
  (bif (decide (p2.fFrom < a89)) then ((critical_waker p0 a87 a89).bind fun r130 => ((loop (critical_Path_L1 p0 a89) (a87, (mput a87 true []), r130.1, r130.2)).bind fun e159 => ((state_At p0.fStates e159 (w64 (a89 - 1))).bind fun r160 => (bif (!r160.2) then some (.inr (.inr ([], 1))) else (bif room 32 (List.length a88 + List.length [({ fThread := e159, fState := r160.1.fState, fSpan := ({ fFrom := (max r160.1.fSpan.fFrom p2.fFrom), fTo := a89 } : api_Span) } : api_Hop)]) then some (.inl (e159, (a88 ++ [({ fThread := e159, fState := r160.1.fState, fSpan := ({ fFrom := (max r160.1.fSpan.fFrom p2.fFrom), fTo := a89 } : api_Span) } : api_Hop)]), (max r160.1.fSpan.fFrom p2.fFrom))) else none))))) else some (.inr (.inl a88)))
def critical_Path (p0 : api_Trace) (p1 : Int) (p2 : api_Span) : Option ((List api_Hop) × Int) :=
  ((critical_check p0 p1 p2).bind fun r1 => (bif (!decide (r1 = 0)) then some ([], r1) else ((loop (critical_Path_L2 p0 p2) (p1, [], p2.fTo)).bind fun | .inl e128 => ((slices_Reverse_api_Hop_api_Hop_k1 e128).bind fun r129 => some (r129, 0)) | .inr rv => some rv)))
theorem critical_Path_fun (p0 : api_Trace) (p1 : Int) (p2 : api_Span) (r : ((List api_Hop) × Int)) (hF : critical_Path p0 p1 p2 = some r) : Fun Tryz.prog 8 false [] [.agg (m_api_Trace p0), cI p1, .agg [jI p2.fFrom, jI p2.fTo]] (heapOf []) (.tup [cO (902,320), cI r.2]) (heapOf [((902,320), .arr 49 4 (List.map t_api_Hop r.1))]) := by
 refine Fun.of_walkM [] (some []) Tryz.func8 c8 (by kernel_rfl) (rs := [.tmp 6, .tmp 7]) (by kernel_rfl) rfl rfl rfl ?_; unfold v8
 unfold critical_Path at hF
 refine wA rfl ?_; refine W_seq ?_; refine wC 3 rfl ?_; obtain ⟨r1, hr1, hF⟩ := bB hF
 refine rS (T_call (critical_check_fun _ _ _ _ hr1) ⟨⟨rfl, rfl, rfl, rfl, rfl, rfl, rfl, rfl, rfl, rfl, trivial⟩, rfl, ⟨rfl, rfl, trivial⟩, trivial⟩ rfl (.inl rfl) ?_); refine QV rfl ?_; refine wA rfl ?_
 refine wIf hF rfl (fun _ hF => ?_) fun _ hF => ?_
 · refine wA rfl ?_; cases hF
   exact W_ret ⟨_, _, (S_own 6 (902,320) 49 4 rfl rfl rfl rfl S_refl), _, rfl, rfl, ⟨rfl, ⟨rfl, fun _ => rfl⟩, trivial⟩, (AgM.weak ⟨rfl, trivial⟩)⟩
 refine W_skip ?_; refine wA rfl ?_; refine W_seq ?_; refine wA rfl ?_; refine W_for (fun _ _ h => h) hF (.inl) (fun (a87, a88, a89) => [(1, cI a87), (3, cP (3,0) 0), (5, cP (5,0) 0), (9, cO (83,1)), (10, cI a89)]) (fun (a87, a88, a89) => [((3,0), .box (m_api_Trace p0)), ((5,0), .box [jI p2.fFrom, jI p2.fTo]), ((83,1), .arr 49 4 (List.map t_api_Hop a88))]) (fun e128 => [(9, cO (83,1))]) (fun e128 => [((83,1), .arr 49 4 (List.map t_api_Hop e128))]) (S_own 9 (83,1) 49 4 rfl rfl rfl rfl sw) ?_ ?_
 · rintro e128 hF
   refine wC 1 rfl ?_; obtain ⟨r129, hr129, hF⟩ := bB hF
   refine R_stepX trivial (X_callG [((1880,0),(83,1))] rfl (callN _) (slices_Reverse_api_Hop_api_Hop_k1_fun _ _ hr129) ⟨rfl, trivial⟩ ⟨.inl rfl, trivial⟩ rfl rfl rfl ?_); refine QV rfl ?_; refine wA rfl ?_
   cases hF
   exact W_ret ⟨_, _, (S_ren (83,1) (902,320) rfl rfl S_refl), _, rfl, rfl, ⟨rfl, ⟨rfl, fun _ => rfl⟩, trivial⟩, (AgM.weak ⟨rfl, trivial⟩)⟩
 rintro ⟨a87, a88, a89⟩ x_0 hF cont_0 brk_0 fin_0
 unfold critical_Path_L2 at hF
 refine W_seq ?_; refine wA rfl ?_; refine wIf hF rfl (fun _ hF => ?_) fun _ hF => ?_
 · refine W_skip ?_; refine W_block ?_; refine wE ?_; refine rS (T_mkmap (kd := (.int .i64)) (kv := kvI) (vv := vvB) rfl ?_)
   refine Q_run SV 1 rfl ?_; refine rS (T_mupd (keyI .i64) (vv := vvB) [] a87 true rfl rfl rfl rfl ?_)
   refine QV rfl ?_; refine W_seq ?_; refine wC 3 rfl ?_; obtain ⟨r130, hr130, hF⟩ := bB hF
   refine rS (T_call (critical_waker_fun _ _ _ _ hr130) ⟨⟨rfl, rfl, rfl, rfl, rfl, rfl, rfl, rfl, rfl, rfl, trivial⟩, rfl, rfl, trivial⟩ rfl (.inl rfl) ?_); refine QV rfl ?_; refine W_for (fun _ _ h => h) hF (id) (fun (a151, a152, a153, a154) => [(1, cI a151), (3, cP (3,0) 0), (5, cP (5,0) 0), (9, cO (83,1)), (10, cI a89), (11, cM (30,0)), (12, cI a153), (13, cB a154)]) (fun (a151, a152, a153, a154) => [((3,0), .box (m_api_Trace p0)), ((5,0), .box [jI p2.fFrom, jI p2.fTo]), ((83,1), .arr 49 4 (List.map t_api_Hop a88)), ((30,0), mapOb (.int .i64) kvI vvB a152)]) (fun e159 => [(1, cI e159), (3, cP (3,0) 0), (5, cP (5,0) 0), (9, cO (83,1)), (10, cI a89)]) (fun e159 => [((3,0), .box (m_api_Trace p0)), ((5,0), .box [jI p2.fFrom, jI p2.fTo]), ((83,1), .arr 49 4 (List.map t_api_Hop a88))]) sw ?_ ?_
   · rintro e159 hF
     refine wC 5 rfl ?_; obtain ⟨r160, hr160, hF⟩ := bB hF
     refine rS (T_call (state_At_fun _ _ _ _ hr160) ⟨rfl, rfl, rfl, trivial⟩ rfl (.inl rfl) ?_); refine QV rfl ?_; refine W_seq ?_; refine wA rfl ?_; refine wIf hF rfl (fun _ hF => ?_) fun _ hF => ?_
     · refine wA rfl ?_; have hF := fin_0 _ (oi hF); cases hF
       exact W_ret ⟨_, _, (S_own 6 (902,320) 49 4 rfl rfl rfl rfl S_refl), _, rfl, rfl, ⟨rfl, ⟨rfl, fun _ => rfl⟩, trivial⟩, (AgM.weak ⟨rfl, trivial⟩)⟩
     refine W_skip ?_; refine wA rfl ?_; refine wC 2 rfl ?_; refine rS (T_bsl (tc := t_api_Hop) [({ fThread := e159, fState := r160.1.fState, fSpan := ({ fFrom := (max r160.1.fSpan.fFrom p2.fFrom), fTo := a89 } : api_Span) } : api_Hop)] rfl ⟨rfl, rfl, rfl, rfl, trivial⟩ rfl (fun _ => rfl) rfl ?_)
     obtain ⟨h161, hF⟩ := roomT hF
     refine rS (T_appO (tc := t_api_Hop) a88 [({ fThread := e159, fState := r160.1.fState, fSpan := ({ fFrom := (max r160.1.fSpan.fFrom p2.fFrom), fTo := a89 } : api_Span) } : api_Hop)] rfl rfl (.own _ _ rfl) h161 rfl ?_)
     refine QV rfl ?_; refine wB rfl ?_; exact cont_0 _ _ _ (oi hF) (S_ren (83,0) (83,1) rfl rfl sw)
   rintro ⟨a151, a152, a153, a154⟩ x_1 hF cont_1 brk_1 fin_1
   unfold critical_Path_L1 at hF
   refine W_seq ?_; refine W_seq ?_; refine W_join (fun _ _ h => h) hF (fun v163 => [(1, cI a151), (3, cP (3,0) 0), (5, cP (5,0) 0), (9, cO (83,1)), (10, cI a89), (11, cM (30,0)), (12, cI a153), (46, cB v163)]) (fun v163 => [((3,0), .box (m_api_Trace p0)), ((5,0), .box [jI p2.fFrom, jI p2.fTo]), ((83,1), .arr 49 4 (List.map t_api_Hop a88)), ((30,0), mapOb (.int .i64) kvI vvB a152)]) ?_ ?_
   · rintro v163 hF
     refine wIf hF rfl (fun _ hF => ?_) fun _ hF => ?_
     · refine W_skip ?_; refine W_seq ?_; refine W_block ?_; refine wA rfl ?_; refine wD 2 rfl ?_; refine rS (T_mupd (keyI .i64) (vv := vvB) a152 a153 true rfl rfl rfl rfl ?_)
       refine QV rfl ?_; refine wD 3 rfl ?_; obtain ⟨r164, hr164, hF⟩ := bB hF
       refine rS (T_call (critical_waker_fun _ _ _ _ hr164) ⟨⟨rfl, rfl, rfl, rfl, rfl, rfl, rfl, rfl, rfl, rfl, trivial⟩, rfl, rfl, trivial⟩ rfl (.inl rfl) ?_); refine QV rfl ?_; exact cont_1 _ _ _ (oi hF) sw
     refine W_exit ?_; refine thenQ_exit ?_; refine thenQ_exit ?_; refine blockQ_hit ?_; exact brk_1 _ _ _ (oi hF) sw
   intro join hF
   refine wD 2 rfl ?_; cases h166 : a154
   · have hF := bF' h166 hF; refine QV rfl ?_; exact join false _ _ hF sw
   have hF := bT' h166 hF; refine Q_run SV 2 rfl ?_; refine R_step SV rfl (T_look (keyI .i64) (vv := vvB) a152 a153 false (.own _ rfl) rfl rfl ?_)
   refine QV rfl ?_; exact join (!(Option.getD (mget a153 a152) false)) _ _ hF sw
 refine W_exit ?_; refine thenQ_exit ?_; refine thenQ_exit ?_; refine blockQ_hit ?_; exact brk_0 _ _ _ (oi hF) sw
def tracebookref48_Same_L1 (p0 : (List api_Hop)) (p1 : (List api_Hop)) : Int → Option (Int ⊕ (Unit ⊕ Bool)) := fun a12 =>
  (bif (decide (a12 < (List.length p0 : Int))) then ((idx p0 a12).bind fun y17 => ((idx p1 a12).bind fun y18 => (bif ((decide (y17.fThread = y18.fThread) && (decide (y17.fState = y18.fState) && (decide (y17.fSpan.fFrom = y18.fSpan.fFrom) && (decide (y17.fSpan.fTo = y18.fSpan.fTo) && true)))) != true) then some (.inr (.inr false)) else some (.inl (w64 (a12 + 1)))))) else some (.inr (.inl ())))
def tracebookref48_Same (p0 : (List api_Hop)) (p1 : (List api_Hop)) : Option Bool :=
  (bif (!decide ((List.length p0 : Int) = (List.length p1 : Int))) then some false else ((loop (tracebookref48_Same_L1 p0 p1) 0).bind fun | .inl _ => some true | .inr rv => some rv))
theorem tracebookref48_Same_fun (p0 : (List api_Hop)) (p1 : (List api_Hop)) (r : Bool) (hF : tracebookref48_Same p0 p1 = some r) : Fun Tryz.prog 10 true [] [cL 4 t_api_Hop p0, cL 4 t_api_Hop p1] noHeap (cB r) noHeap := by
 refine Fun.of_walk0 Tryz.func10 c10 (by kernel_rfl) (rs := [.tmp 4]) (by kernel_rfl) ?_; unfold v10
 unfold tracebookref48_Same at hF
 refine wA rfl ?_; refine W_seq ?_; refine wC 1 rfl ?_; refine rS (T_len (tc := t_api_Hop) p0 .tree ?_); refine Q_run SV 1 rfl ?_; refine rS (T_len (tc := t_api_Hop) p1 .tree ?_); refine QV rfl ?_; refine wIf hF rfl (fun _ hF => ?_) fun _ hF => ?_
 · refine wA rfl ?_; cases hF
   exact W_ret wR
 refine W_skip ?_; refine W_seq ?_; refine wA rfl ?_; refine W_for (fun _ _ h => h) hF (.inl) (fun a12 => [(0, cL 4 t_api_Hop p0), (1, cL 4 t_api_Hop p1), (5, cI a12)]) (fun a12 => []) (fun _ => []) (fun _ => []) sw ?_ ?_
 · rintro ⟨⟩ hF
   refine wA rfl ?_; cases hF
   exact W_ret wR
 rintro a12 x_0 hF cont_0 brk_0 fin_0
 unfold tracebookref48_Same_L1 at hF
 refine W_seq ?_; refine wC 2 rfl ?_; refine rS (T_len (tc := t_api_Hop) p0 .tree ?_); refine QV rfl ?_; refine wIf hF rfl (fun _ hF => ?_) fun _ hF => ?_
 · refine W_skip ?_; refine W_seq ?_; refine W_block ?_; refine W_seq ?_; refine W_regD (by decide) (by kernel_rfl) rfl ?_; refine Q_run SP 2 rfl ?_; obtain ⟨y17, hy17, hF⟩ := bB hF
   refine R_step SP trivial (T_ixT (tc := t_api_Hop) p0 rfl rfl hy17 ?_); refine Q_run SP 3 rfl ?_; obtain ⟨y18, hy18, hF⟩ := bB hF
   refine R_step SP trivial (T_ixT (tc := t_api_Hop) p1 rfl rfl hy18 ?_); refine Q_run SP 1 rfl ?_; refine R_step SP trivial (T_aeq (b := (decide (y17.fThread = y18.fThread) && (decide (y17.fState = y18.fState) && (decide (y17.fSpan.fFrom = y18.fSpan.fFrom) && (decide (y17.fSpan.fTo = y18.fSpan.fTo) && true))))) (eqOk_of (n := 4) (sh := [.int .i64, .int .i64, .int .i64, .int .i64]) Tryz.underlying48 (by kernel_rfl) (by kernel_rfl)) rfl rfl rfl rfl ?_)
   refine QP rfl ?_; refine wIf hF rfl (fun _ hF => ?_) fun _ hF => ?_
   · refine wA rfl ?_; have hF := fin_0 _ (oi hF); cases hF
     exact W_ret wR
   refine W_skip ?_; refine wB rfl ?_; exact cont_0 _ _ _ (oi hF) sw
 refine W_exit ?_; refine thenQ_exit ?_; refine thenQ_exit ?_; refine blockQ_hit ?_; exact brk_0 _ _ _ (oi hF) sw
def critical_within (p0 : api_Trace) (p1 : api_Hop) : Option Bool :=
  ((state_At p0.fStates p1.fThread p1.fSpan.fFrom).bind fun r1 => (((bif r1.2 then (bif (decide (r1.1.fState = p1.fState)) then some (decide (p1.fSpan.fTo ≤ r1.1.fSpan.fTo)) else some false) else some false) : Option Bool).bind fun v2 => some v2))
theorem critical_within_fun (p0 : api_Trace) (p1 : api_Hop) (r : Bool) (hF : critical_within p0 p1 = some r) : Fun Tryz.prog 33 true [] [.agg (m_api_Trace p0), .agg (m_api_Hop p1)] noHeap (cB r) noHeap := by
 refine Fun.of_walk0 Tryz.func33 c33 (by kernel_rfl) (rs := [.tmp 4]) (by kernel_rfl) ?_; unfold v33
 unfold critical_within at hF
 refine wA rfl ?_; refine wC 7 rfl ?_; obtain ⟨r1, hr1, hF⟩ := bB hF
 refine rS (T_call (state_At_fun _ _ _ _ hr1) ⟨rfl, rfl, rfl, trivial⟩ rfl (.inl rfl) ?_); refine QV rfl ?_; refine W_seq ?_; refine W_join (fun _ _ h => h) hF (fun v2 => [(4, cB v2)]) (fun v2 => []) ?_ ?_
 · rintro v2 hF
   cases hF
   exact W_ret wR
 intro join hF
 refine wD 2 rfl ?_; cases h3 : r1.2
 · have hF := bF' h3 hF; refine QV rfl ?_; exact join false _ _ hF sw
 have hF := bT' h3 hF; refine Q_run SV 7 rfl ?_; cases h4 : (decide (r1.1.fState = p1.fState))
 · have hF := bF' h4 hF; refine QV rfl ?_; exact join false _ _ hF sw
 have hF := bT' h4 hF; refine QV rfl ?_; exact join (decide (p1.fSpan.fTo ≤ r1.1.fSpan.fTo)) _ _ hF sw
def critical_comes_L1 (p0 : api_Trace) (p2 : Int) (p3 : Int) : (Int × (List (Int × Bool))) → Option ((Int × (List (Int × Bool))) ⊕ (Unit ⊕ Bool)) := fun (a15, a16) =>
  (bif (!(Option.getD (mget a15 a16) false)) then (bif (decide (a15 = p2)) then some (.inr (.inr true)) else ((critical_waker p0 a15 p3).bind fun r21 => (bif (!r21.2) then some (.inr (.inr false)) else some (.inl (r21.1, (mput a15 true a16)))))) else some (.inr (.inl ())))
def critical_comes (p0 : api_Trace) (p1 : Int) (p2 : Int) (p3 : Int) : Option Bool :=
  ((loop (critical_comes_L1 p0 p2 p3) (p1, [])).bind fun | .inl _ => some false | .inr rv => some rv)
theorem critical_comes_fun (p0 : api_Trace) (p1 : Int) (p2 : Int) (p3 : Int) (r : Bool) (hF : critical_comes p0 p1 p2 p3 = some r) : Fun Tryz.prog 34 true [] [.agg (m_api_Trace p0), cI p1, cI p2, cI p3] noHeap (cB r) noHeap := by
 refine Fun.of_walk0 Tryz.func34 c34 (by kernel_rfl) (rs := [.tmp 8]) (by kernel_rfl) ?_; unfold v34
 unfold critical_comes at hF
 refine wA rfl ?_; refine W_seq ?_; refine wE ?_; refine rS (T_mkmap (kd := (.int .i64)) (kv := kvI) (vv := vvB) rfl ?_)
 refine QV rfl ?_; refine W_for (fun _ _ h => h) hF (.inl) (fun (a15, a16) => [(1, cI a15), (2, cI p2), (3, cI p3), (4, cP (4,0) 0), (9, cM (12,0))]) (fun (a15, a16) => [((4,0), .box (m_api_Trace p0)), ((12,0), mapOb (.int .i64) kvI vvB a16)]) (fun _ => []) (fun _ => []) sw ?_ ?_
 · rintro ⟨⟩ hF
   refine wA rfl ?_; cases hF
   exact W_ret wR
 rintro ⟨a15, a16⟩ x_0 hF cont_0 brk_0 fin_0
 unfold critical_comes_L1 at hF
 refine W_seq ?_; refine wC 2 rfl ?_; refine rS (T_look (keyI .i64) (vv := vvB) a16 a15 false (.own _ rfl) rfl rfl ?_)
 refine QV rfl ?_; refine wIf hF rfl (fun _ hF => ?_) fun _ hF => ?_
 · refine W_skip ?_; refine W_block ?_; refine W_seq ?_; refine wA rfl ?_; refine wIf hF rfl (fun _ hF => ?_) fun _ hF => ?_
   · refine wA rfl ?_; have hF := fin_0 _ (oi hF); cases hF
     exact W_ret wR
   refine W_skip ?_; refine wC 2 rfl ?_; refine rS (T_mupd (keyI .i64) (vv := vvB) a16 a15 true rfl rfl rfl rfl ?_)
   refine QV rfl ?_; refine wC 3 rfl ?_; obtain ⟨r21, hr21, hF⟩ := bB hF
   refine rS (T_call (critical_waker_fun _ _ _ _ hr21) ⟨⟨rfl, rfl, rfl, rfl, rfl, rfl, rfl, rfl, rfl, rfl, trivial⟩, rfl, rfl, trivial⟩ rfl (.inl rfl) ?_); refine QV rfl ?_; refine W_seq ?_; refine wA rfl ?_
   refine wIf hF rfl (fun _ hF => ?_) fun _ hF => ?_
   · refine wA rfl ?_; have hF := fin_0 _ (oi hF); cases hF
     exact W_ret wR
   refine W_skip ?_; refine wB rfl ?_; exact cont_0 _ _ _ (oi hF) sw
 refine W_exit ?_; refine thenQ_exit ?_; refine thenQ_exit ?_; refine blockQ_hit ?_; exact brk_0 _ _ _ (oi hF) sw
def critical_Check_L1 (p0 : api_Trace) (p1 : Int) (p3 : (List api_Hop)) : Int → Option (Int ⊕ (Unit ⊕ Bool)) := fun a45 =>
  (bif (decide (a45 < (List.length p3 : Int))) then ((idx p3 a45).bind fun y66 => (bif (decide ((w64 (a45 + 1)) < (List.length p3 : Int))) then ((idx p3 (w64 (a45 + 1))).bind fun y67 => ((idx p3 (w64 (a45 + 1))).bind fun y68 => (bif (!decide (y68.fSpan.fFrom = y66.fSpan.fTo)) then some (.inr (.inr false)) else ((((spans_Valid y66.fSpan).bind fun r71 => (bif (!r71) then some true else ((critical_within p0 y66).bind fun r73 => (bif (!r73) then some true else ((critical_comes p0 y67.fThread y66.fThread y66.fSpan.fTo).bind fun r75 => some (!r75)))))) : Option Bool).bind fun v69 => (bif v69 then some (.inr (.inr false)) else some (.inl (w64 (a45 + 1)))))))) else ((((spans_Valid y66.fSpan).bind fun r79 => (bif (!r79) then some true else ((critical_within p0 y66).bind fun r81 => (bif (!r81) then some true else ((critical_comes p0 p1 y66.fThread y66.fSpan.fTo).bind fun r83 => some (!r83)))))) : Option Bool).bind fun v77 => (bif v77 then some (.inr (.inr false)) else some (.inl (w64 (a45 + 1))))))) else some (.inr (.inl ())))
def critical_Check (p0 : api_Trace) (p1 : Int) (p2 : api_Span) (p3 : (List api_Hop)) : Option Bool :=
  ((((critical_check p0 p1 p2).bind fun r87 => (bif (!decide (r87 = 0)) then some true else (bif (decide ((List.length p3 : Int) = 0)) then some true else ((idx p3 0).bind fun y90 => (bif (!decide (y90.fSpan.fFrom = p2.fFrom)) then some true else ((idx p3 (w64 ((List.length p3 : Int) - 1))).bind fun y92 => some (!decide (y92.fSpan.fTo = p2.fTo)))))))) : Option Bool).bind fun v1 => (bif v1 then some false else ((loop (critical_Check_L1 p0 p1 p3) 0).bind fun | .inl _ => some true | .inr rv => some rv)))
theorem critical_Check_fun (p0 : api_Trace) (p1 : Int) (p2 : api_Span) (p3 : (List api_Hop)) (r : Bool) (hF : critical_Check p0 p1 p2 p3 = some r) : Fun Tryz.prog 13 true [] [.agg (m_api_Trace p0), cI p1, .agg [jI p2.fFrom, jI p2.fTo], cL 4 t_api_Hop p3] noHeap (cB r) noHeap := by
 refine Fun.of_walk0 Tryz.func13 c13 (by kernel_rfl) (rs := [.tmp 8]) (by kernel_rfl) ?_; unfold v13
 unfold critical_Check at hF
 refine wA rfl ?_; refine W_seq ?_; refine W_seq ?_; refine W_join (fun _ _ h => h) hF (fun v1 => [(1, cI p1), (3, cL 4 t_api_Hop p3), (4, cP (4,0) 0), (44, cB v1)]) (fun v1 => [((4,0), .box (m_api_Trace p0))]) ?_ ?_
 · rintro v1 hF
   refine wIf hF rfl (fun _ hF => ?_) fun _ hF => ?_
   · refine wA rfl ?_; cases hF
     exact W_ret wR
   refine W_skip ?_; refine W_seq ?_; refine wC 1 rfl ?_; refine rS (T_len (tc := t_api_Hop) p3 .tree ?_); refine QV rfl ?_; refine W_for (fun _ _ h => h) hF (.inl) (fun a45 => [(1, cI p1), (3, cL 4 t_api_Hop p3), (4, cP (4,0) 0), (45, cL 4 t_api_Hop p3), (46, cI (List.length p3 : Int)), (47, cI a45)]) (fun a45 => [((4,0), .box (m_api_Trace p0))]) (fun _ => []) (fun _ => []) sw ?_ ?_
   · rintro ⟨⟩ hF
     refine wA rfl ?_; cases hF
     exact W_ret wR
   rintro a45 x_0 hF cont_0 brk_0 fin_0
   unfold critical_Check_L1 at hF
   refine wA rfl ?_; refine W_seq ?_; refine wIf hF rfl (fun _ hF => ?_) fun _ hF => ?_
   · refine W_skip ?_; refine W_seq ?_; refine W_block ?_; refine wC 1 rfl ?_; obtain ⟨y66, hy66, hF⟩ := bB hF
     refine rS (T_ixT (tc := t_api_Hop) p3 rfl rfl hy66 ?_); refine QV rfl ?_; refine wA rfl ?_; refine W_seq ?_; refine wC 3 rfl ?_; refine rS (T_len (tc := t_api_Hop) p3 .tree ?_); refine QV rfl ?_; refine wIf hF rfl (fun _ hF => ?_) fun _ hF => ?_
     · refine wC 3 rfl ?_; obtain ⟨y67, hy67, hF⟩ := bB hF
       refine rS (T_ixT (tc := t_api_Hop) p3 rfl rfl hy67 ?_); refine QV rfl ?_; refine W_seq ?_; refine W_regD (by decide) (by kernel_rfl) rfl ?_; refine Q_run SP 3 rfl ?_; obtain ⟨y68, hy68, hF⟩ := bB hF
       refine R_step SP trivial (T_ixT (tc := t_api_Hop) p3 rfl rfl hy68 ?_); refine QP rfl ?_; refine wIf hF rfl (fun _ hF => ?_) fun _ hF => ?_
       · refine wA rfl ?_; have hF := fin_0 _ (oi hF); cases hF
         exact W_ret wR
       refine W_skip ?_; refine W_seq ?_; refine W_join (fun _ _ h => h) hF (fun v69 => [(1, cI p1), (3, cL 4 t_api_Hop p3), (4, cP (4,0) 0), (45, cL 4 t_api_Hop p3), (46, cI (List.length p3 : Int)), (47, cI a45), (95, cB v69)]) (fun v69 => [((4,0), .box (m_api_Trace p0))]) ?_ ?_
       · rintro v69 hF
         refine wIf hF rfl (fun _ hF => ?_) fun _ hF => ?_
         · refine wA rfl ?_; have hF := fin_0 _ (oi hF); cases hF
           exact W_ret wR
         refine W_skip ?_; refine wB rfl ?_; exact cont_0 _ _ _ (oi hF) sw
       intro join hF
       refine wD 2 rfl ?_; obtain ⟨r71, hr71, hF⟩ := bB' hF
       refine rS (T_call (spans_Valid_fun _ _ hr71) ⟨⟨rfl, rfl, trivial⟩, trivial⟩ rfl (.inl rfl) ?_); refine Q_run SV 2 rfl ?_; cases h72 : (!r71)
       · have hF := bF' h72 hF; refine Q_run SV 2 rfl ?_; obtain ⟨r73, hr73, hF⟩ := bB' hF
         refine R_step SV rfl (T_call (critical_within_fun _ _ _ hr73) ⟨⟨rfl, rfl, rfl, rfl, rfl, rfl, rfl, rfl, rfl, rfl, trivial⟩, ⟨rfl, rfl, rfl, rfl, trivial⟩, trivial⟩ rfl (.inl rfl) ?_); refine Q_run SV 3 rfl ?_
         cases h74 : (!r73)
         · have hF := bF' h74 hF; refine Q_run SV 7 rfl ?_; obtain ⟨r75, hr75, hF⟩ := bB' hF
           refine R_step SV rfl (T_call (critical_comes_fun _ _ _ _ _ hr75) ⟨⟨rfl, rfl, rfl, rfl, rfl, rfl, rfl, rfl, rfl, rfl, trivial⟩, rfl, rfl, rfl, trivial⟩ rfl (.inl rfl) ?_); refine QV rfl ?_; exact join (!r75) _ _ hF sw
         have hF := bT' h74 hF; refine QV rfl ?_; exact join true _ _ hF sw
       have hF := bT' h72 hF; refine QV rfl ?_; exact join true _ _ hF sw
     refine W_skip ?_; refine W_seq ?_; refine W_join (fun _ _ h => h) hF (fun v77 => [(1, cI p1), (3, cL 4 t_api_Hop p3), (4, cP (4,0) 0), (45, cL 4 t_api_Hop p3), (46, cI (List.length p3 : Int)), (47, cI a45), (95, cB v77)]) (fun v77 => [((4,0), .box (m_api_Trace p0))]) ?_ ?_
     · rintro v77 hF
       refine wIf hF rfl (fun _ hF => ?_) fun _ hF => ?_
       · refine wA rfl ?_; have hF := fin_0 _ (oi hF); cases hF
         exact W_ret wR
       refine W_skip ?_; refine wB rfl ?_; exact cont_0 _ _ _ (oi hF) sw
     intro join hF
     refine wD 2 rfl ?_; obtain ⟨r79, hr79, hF⟩ := bB' hF
     refine rS (T_call (spans_Valid_fun _ _ hr79) ⟨⟨rfl, rfl, trivial⟩, trivial⟩ rfl (.inl rfl) ?_); refine Q_run SV 2 rfl ?_; cases h80 : (!r79)
     · have hF := bF' h80 hF; refine Q_run SV 2 rfl ?_; obtain ⟨r81, hr81, hF⟩ := bB' hF
       refine R_step SV rfl (T_call (critical_within_fun _ _ _ hr81) ⟨⟨rfl, rfl, rfl, rfl, rfl, rfl, rfl, rfl, rfl, rfl, trivial⟩, ⟨rfl, rfl, rfl, rfl, trivial⟩, trivial⟩ rfl (.inl rfl) ?_); refine Q_run SV 3 rfl ?_
       cases h82 : (!r81)
       · have hF := bF' h82 hF; refine Q_run SV 7 rfl ?_; obtain ⟨r83, hr83, hF⟩ := bB' hF
         refine R_step SV rfl (T_call (critical_comes_fun _ _ _ _ _ hr83) ⟨⟨rfl, rfl, rfl, rfl, rfl, rfl, rfl, rfl, rfl, rfl, trivial⟩, rfl, rfl, rfl, trivial⟩ rfl (.inl rfl) ?_); refine QV rfl ?_; exact join (!r83) _ _ hF sw
       have hF := bT' h82 hF; refine QV rfl ?_; exact join true _ _ hF sw
     have hF := bT' h80 hF; refine QV rfl ?_; exact join true _ _ hF sw
   refine W_exit ?_; refine thenQ_exit ?_; refine thenQ_exit ?_; refine blockQ_hit ?_; exact brk_0 _ _ _ (oi hF) sw
 intro join hF
 refine W_regD (by decide) (by kernel_rfl) rfl ?_; refine Q_run SP 3 rfl ?_; obtain ⟨r87, hr87, hF⟩ := bB' hF
 refine R_step SP trivial (T_call (critical_check_fun _ _ _ _ hr87) ⟨⟨rfl, rfl, rfl, rfl, rfl, rfl, rfl, rfl, rfl, rfl, trivial⟩, rfl, ⟨rfl, rfl, trivial⟩, trivial⟩ rfl (.inl rfl) ?_); refine Q_run SP 2 rfl ?_
 cases h88 : (!decide (r87 = 0))
 · have hF := bF' h88 hF; refine Q_run SP 1 rfl ?_; refine R_step SP rfl (T_len (tc := t_api_Hop) p3 .tree ?_); refine Q_run SP 3 rfl ?_; cases h89 : (decide ((List.length p3 : Int) = 0))
   · have hF := bF' h89 hF; refine Q_run SP 1 rfl ?_; obtain ⟨y90, hy90, hF⟩ := bB' hF
     refine R_step SP rfl (T_ixT (tc := t_api_Hop) p3 rfl rfl hy90 ?_); refine Q_run SP 8 rfl ?_; cases h91 : (!decide (y90.fSpan.fFrom = p2.fFrom))
     · have hF := bF' h91 hF; refine Q_run SP 2 rfl ?_; refine R_step SP rfl (T_len (tc := t_api_Hop) p3 .tree ?_); refine Q_run SP 1 rfl ?_; obtain ⟨y92, hy92, hF⟩ := bB' hF
       refine R_step SP rfl (T_ixT (tc := t_api_Hop) p3 rfl rfl hy92 ?_); refine QP rfl ?_; exact join (!decide (y92.fSpan.fTo = p2.fTo)) _ _ hF sw
     have hF := bT' h91 hF; refine QP rfl ?_; exact join true _ _ hF sw
   have hF := bT' h89 hF; refine QP rfl ?_; exact join true _ _ hF sw
 have hF := bT' h88 hF; refine QP rfl ?_; exact join true _ _ hF sw
def tracebooklaw48_awake  : Option Bool :=
  ((tracebooklaw48_piece 1 4 0 5 (-1) (-1)).bind fun r1 => ((tracebooklaw48_piece 1 2 5 9 2 2).bind fun r2 => ((tracebooklaw48_piece 1 4 9 10 (-1) (-1)).bind fun r3 => ((tracebooklaw48_piece 2 1 0 3 (-1) (-1)).bind fun r4 => ((tracebooklaw48_piece 2 4 3 9 (-1) (-1)).bind fun r5 => ((tracebooklaw48_piece 2 0 9 10 (-1) (-1)).bind fun r6 => ((tracebooklaw48_pair [r1, r2, r3, r4, r5, r6]).bind fun r7 => ((critical_Path r7 1 ({ fFrom := 4, fTo := 9 } : api_Span)).bind fun r8 => ((tracebooklaw48_piece 1 2 0 6 2 2).bind fun r9 => ((tracebooklaw48_piece 1 4 6 10 (-1) (-1)).bind fun r10 => ((tracebooklaw48_piece 2 2 0 6 1 1).bind fun r11 => ((tracebooklaw48_piece 2 4 6 10 (-1) (-1)).bind fun r12 => ((tracebooklaw48_pair [r9, r10, r11, r12]).bind fun r13 => ((critical_Path r13 1 ({ fFrom := 2, fTo := 6 } : api_Span)).bind fun r14 => ((critical_Path r13 1 ({ fFrom := 7, fTo := 9 } : api_Span)).bind fun r15 => (((bif (decide (r8.2 = 0)) then ((tracebookref48_Same r8.1 [({ fThread := 2, fState := 4, fSpan := ({ fFrom := 4, fTo := 9 } : api_Span) } : api_Hop)]).bind fun r18 => (bif r18 then (bif (decide (r14.2 = 0)) then ((tracebookref48_Same r14.1 [({ fThread := 2, fState := 2, fSpan := ({ fFrom := 2, fTo := 6 } : api_Span) } : api_Hop)]).bind fun r21 => (bif r21 then (bif (decide (r15.2 = 0)) then (bif (decide ((List.length r15.1 : Int) = 1)) then ((critical_Check r13 1 ({ fFrom := 2, fTo := 6 } : api_Span) r14.1).bind fun r25 => some r25) else some false) else some false) else some false)) else some false) else some false)) else some false) : Option Bool).bind fun v16 => some v16))))))))))))))))
theorem tracebooklaw48_awake_fun  (r : Bool) (hF : tracebooklaw48_awake  = some r) : Fun Tryz.prog 7 true [] [] noHeap (cB r) noHeap := by
 refine Fun.of_walk0 Tryz.func7 c7 (by kernel_rfl) (rs := [.tmp 0]) (by kernel_rfl) ?_; unfold v7
 unfold tracebooklaw48_awake at hF
 refine wA rfl ?_; refine wE ?_; obtain ⟨r1, hr1, hF⟩ := bB hF
 refine rS (T_call (tracebooklaw48_piece_fun _ _ _ _ _ _ _ hr1) ⟨rfl, rfl, rfl, rfl, rfl, rfl, trivial⟩ rfl (.inl rfl) ?_); obtain ⟨r2, hr2, hF⟩ := bB hF
 refine rS (T_call (tracebooklaw48_piece_fun _ _ _ _ _ _ _ hr2) ⟨rfl, rfl, rfl, rfl, rfl, rfl, trivial⟩ rfl (.inl rfl) ?_); obtain ⟨r3, hr3, hF⟩ := bB hF
 refine rS (T_call (tracebooklaw48_piece_fun _ _ _ _ _ _ _ hr3) ⟨rfl, rfl, rfl, rfl, rfl, rfl, trivial⟩ rfl (.inl rfl) ?_); obtain ⟨r4, hr4, hF⟩ := bB hF
 refine rS (T_call (tracebooklaw48_piece_fun _ _ _ _ _ _ _ hr4) ⟨rfl, rfl, rfl, rfl, rfl, rfl, trivial⟩ rfl (.inl rfl) ?_); obtain ⟨r5, hr5, hF⟩ := bB hF
 refine rS (T_call (tracebooklaw48_piece_fun _ _ _ _ _ _ _ hr5) ⟨rfl, rfl, rfl, rfl, rfl, rfl, trivial⟩ rfl (.inl rfl) ?_); obtain ⟨r6, hr6, hF⟩ := bB hF
 refine rS (T_call (tracebooklaw48_piece_fun _ _ _ _ _ _ _ hr6) ⟨rfl, rfl, rfl, rfl, rfl, rfl, trivial⟩ rfl (.inl rfl) ?_); refine rS (T_bsl (tc := t_api_State) [r1, r2, r3, r4, r5, r6] rfl ⟨rfl, rfl, rfl, rfl, rfl, rfl, rfl, rfl, rfl, rfl, rfl, rfl, rfl, rfl, rfl, rfl, rfl, rfl, rfl, rfl, rfl, rfl, rfl, rfl, rfl, rfl, rfl, rfl, rfl, rfl, rfl, rfl, rfl, rfl, rfl, rfl, rfl, rfl, rfl, rfl, rfl, rfl, trivial⟩ rfl (fun _ => rfl) rfl ?_)
 obtain ⟨r7, hr7, hF⟩ := bB hF
 refine R_shift trivial (S_frz (15,0) rfl rfl S_refl) (X_callG [((902,680),(16,1))] rfl (callN _) (tracebooklaw48_pair_fun _ _ hr7) trivial ⟨.inl rfl, trivial⟩ rfl rfl rfl ?_); refine QV rfl ?_; refine wC 2 rfl ?_
 obtain ⟨r8, hr8, hF⟩ := bB hF
 refine R_stepX trivial (X_callL [((902,320),(20,1))] rfl (callN _) (critical_Path_fun _ _ _ _ hr8) trivial ⟨.inr ⟨rfl, rfl, ⟨_, rfl⟩, rfl, rfl, rfl, rfl, rfl, rfl, rfl, trivial⟩, .inr rfl, .inr ⟨rfl, rfl, trivial⟩, trivial⟩ rfl rfl rfl rfl ⟨(flatArr fun _ => rfl), trivial⟩ ?_)
 refine QV rfl ?_; refine wE ?_; obtain ⟨r9, hr9, hF⟩ := bB hF
 refine rS (T_call (tracebooklaw48_piece_fun _ _ _ _ _ _ _ hr9) ⟨rfl, rfl, rfl, rfl, rfl, rfl, trivial⟩ rfl (.inl rfl) ?_); obtain ⟨r10, hr10, hF⟩ := bB hF
 refine rS (T_call (tracebooklaw48_piece_fun _ _ _ _ _ _ _ hr10) ⟨rfl, rfl, rfl, rfl, rfl, rfl, trivial⟩ rfl (.inl rfl) ?_); obtain ⟨r11, hr11, hF⟩ := bB hF
 refine rS (T_call (tracebooklaw48_piece_fun _ _ _ _ _ _ _ hr11) ⟨rfl, rfl, rfl, rfl, rfl, rfl, trivial⟩ rfl (.inl rfl) ?_); obtain ⟨r12, hr12, hF⟩ := bB hF
 refine rS (T_call (tracebooklaw48_piece_fun _ _ _ _ _ _ _ hr12) ⟨rfl, rfl, rfl, rfl, rfl, rfl, trivial⟩ rfl (.inl rfl) ?_); refine rS (T_bsl (tc := t_api_State) [r9, r10, r11, r12] rfl ⟨rfl, rfl, rfl, rfl, rfl, rfl, rfl, rfl, rfl, rfl, rfl, rfl, rfl, rfl, rfl, rfl, rfl, rfl, rfl, rfl, rfl, rfl, rfl, rfl, rfl, rfl, rfl, rfl, trivial⟩ rfl (fun _ => rfl) rfl ?_)
 obtain ⟨r13, hr13, hF⟩ := bB hF
 refine R_shift trivial (S_frz (27,0) rfl rfl S_refl) (X_callG [((902,680),(28,1))] rfl (callN _) (tracebooklaw48_pair_fun _ _ hr13) trivial ⟨.inl rfl, trivial⟩ rfl rfl rfl ?_); refine QV rfl ?_; refine wC 2 rfl ?_
 obtain ⟨r14, hr14, hF⟩ := bB hF
 refine R_stepX trivial (X_callL [((902,320),(32,1))] rfl (callN _) (critical_Path_fun _ _ _ _ hr14) trivial ⟨.inr ⟨rfl, rfl, ⟨_, rfl⟩, rfl, rfl, rfl, rfl, rfl, rfl, rfl, trivial⟩, .inr rfl, .inr ⟨rfl, rfl, trivial⟩, trivial⟩ rfl rfl rfl rfl ⟨(flatArr fun _ => rfl), trivial⟩ ?_)
 refine QV rfl ?_; refine wC 2 rfl ?_; obtain ⟨r15, hr15, hF⟩ := bB hF
 refine R_stepX trivial (X_callL [((902,320),(38,1))] rfl (callN _) (critical_Path_fun _ _ _ _ hr15) trivial ⟨.inr ⟨rfl, rfl, ⟨_, rfl⟩, rfl, rfl, rfl, rfl, rfl, rfl, rfl, trivial⟩, .inr rfl, .inr ⟨rfl, rfl, trivial⟩, trivial⟩ rfl rfl rfl rfl ⟨(flatArr fun _ => rfl), trivial⟩ ?_)
 refine QV rfl ?_; refine W_seq ?_; refine W_join (fun _ _ h => h) hF (fun v16 => [(0, cB v16)]) (fun v16 => []) ?_ ?_
 · rintro v16 hF
   cases hF
   exact W_ret wR
 intro join hF
 refine wD 3 rfl ?_; cases h17 : (decide (r8.2 = 0))
 · have hF := bF' h17 hF; refine QV rfl ?_; exact join false _ _ hF sw
 have hF := bT' h17 hF; refine Q_run SV 3 rfl ?_; refine R_step SV rfl (T_bsl (tc := t_api_Hop) [({ fThread := 2, fState := 4, fSpan := ({ fFrom := 4, fTo := 9 } : api_Span) } : api_Hop)] rfl ⟨rfl, rfl, rfl, rfl, trivial⟩ rfl (fun _ => rfl) rfl ?_)
 obtain ⟨r18, hr18, hF⟩ := bB' hF
 refine R_step SV rfl (T_call (tracebookref48_Same_fun _ _ _ hr18) ⟨⟨_, rfl⟩, ⟨_, rfl⟩, trivial⟩ rfl (.inl rfl) ?_); refine Q_run SV 2 rfl ?_; cases h19 : r18
 · have hF := bF' h19 hF; refine QV rfl ?_; exact join false _ _ hF sw
 have hF := bT' h19 hF; refine Q_run SV 4 rfl ?_; cases h20 : (decide (r14.2 = 0))
 · have hF := bF' h20 hF; refine QV rfl ?_; exact join false _ _ hF sw
 have hF := bT' h20 hF; refine Q_run SV 3 rfl ?_; refine R_step SV rfl (T_bsl (tc := t_api_Hop) [({ fThread := 2, fState := 2, fSpan := ({ fFrom := 2, fTo := 6 } : api_Span) } : api_Hop)] rfl ⟨rfl, rfl, rfl, rfl, trivial⟩ rfl (fun _ => rfl) rfl ?_)
 obtain ⟨r21, hr21, hF⟩ := bB' hF
 refine R_step SV rfl (T_call (tracebookref48_Same_fun _ _ _ hr21) ⟨⟨_, rfl⟩, ⟨_, rfl⟩, trivial⟩ rfl (.inl rfl) ?_); refine Q_run SV 2 rfl ?_; cases h22 : r21
 · have hF := bF' h22 hF; refine QV rfl ?_; exact join false _ _ hF sw
 have hF := bT' h22 hF; refine Q_run SV 4 rfl ?_; cases h23 : (decide (r15.2 = 0))
 · have hF := bF' h23 hF; refine QV rfl ?_; exact join false _ _ hF sw
 have hF := bT' h23 hF; refine Q_run SV 1 rfl ?_; refine R_step SV rfl (T_len (tc := t_api_Hop) r15.1 (.own _ _ rfl) ?_); refine Q_run SV 3 rfl ?_; cases h24 : (decide ((List.length r15.1 : Int) = 1))
 · have hF := bF' h24 hF; refine QV rfl ?_; exact join false _ _ hF sw
 have hF := bT' h24 hF; refine Q_run SV 3 rfl ?_; obtain ⟨r25, hr25, hF⟩ := bB' hF
 refine R_step SV rfl (T_call (critical_Check_fun _ _ _ _ _ hr25) ⟨⟨rfl, rfl, ⟨_, rfl⟩, rfl, rfl, rfl, rfl, rfl, rfl, rfl, trivial⟩, rfl, ⟨rfl, rfl, trivial⟩, ⟨_, rfl⟩, trivial⟩ rfl (.inl rfl) ?_); refine QV rfl ?_
 exact join r25 _ _ hF sw
def critical_length (p0 : api_Hop) : Option Int :=
  ((spans_Valid p0.fSpan).bind fun r1 => (bif (!r1) then some 0 else some (w64 (p0.fSpan.fTo - p0.fSpan.fFrom))))
theorem critical_length_fun (p0 : api_Hop) (r : Int) (hF : critical_length p0 = some r) : Fun Tryz.prog 27 true [] [.agg (m_api_Hop p0)] noHeap (cI r) noHeap := by
 refine Fun.of_walk0 Tryz.func27 c27 (by kernel_rfl) (rs := [.tmp 2]) (by kernel_rfl) ?_; unfold v27
 unfold critical_length at hF
 refine wA rfl ?_; refine W_seq ?_; refine wC 2 rfl ?_; obtain ⟨r1, hr1, hF⟩ := bB hF
 refine rS (T_call (spans_Valid_fun _ _ hr1) ⟨⟨rfl, rfl, trivial⟩, trivial⟩ rfl (.inl rfl) ?_); refine QV rfl ?_; refine wIf hF rfl (fun _ hF => ?_) fun _ hF => ?_
 · refine wA rfl ?_; cases hF
   exact W_ret wR
 refine W_skip ?_; refine wA rfl ?_; cases hF
 exact W_ret wR
def maps_Keys_map_int_int_int_int_k1 (p0 : (List (Int × Int))) : Option Unit := some ()
theorem maps_Keys_map_int_int_int_int_k1_fun (p0 : (List (Int × Int))) (r : Unit) (hF : maps_Keys_map_int_int_int_int_k1 p0 = some r) : Fun Tryz.prog 29 false [(2160,0)] [.c (.mapO (2160,0))] (heapOf [((2160,0), mapOb (.int .i64) (fun n : Int => .int .i64 n) (fun y : Int => (.one (tI y) : MT)) p0)]) (.c (.fn 42 [.ptr (902,1160)])) (heapOf [((2160,0), mapOb (.int .i64) (fun n : Int => .int .i64 n) (fun y : Int => (.one (tI y) : MT)) p0), ((902,1160), .box [.mapO (2160,0)])]) := mkeys_fun p0 (2160,0) (902,1160) (by decide)
def slices_SortedFunc_int_k1 (p0_0 : (List (Int × Int))) : Option (List Int) := bif keysB p0_0 then some (sortI (p0_0.map (·.1))) else none
theorem slices_SortedFunc_int_k1_fun (p0_0 : (List (Int × Int))) (r : (List Int)) (hF : slices_SortedFunc_int_k1 p0_0 = some r) : Fun Tryz.prog 28 false [(2120,0), (2121,0)] [.c (.fn 42 [.ptr (2120,0)]), .c (.fn 30 [])] (heapOf [((2120,0), .box [.mapO (2121,0)]), ((2121,0), mapOb (.int .i64) kvI (fun y : Int => (.one (tI y) : MT)) p0_0)]) (cO (902,1120)) (heapOf [((2120,0), .box [.mapO (2121,0)]), ((2121,0), mapOb (.int .i64) kvI (fun y : Int => (.one (tI y) : MT)) p0_0), ((902,1120), .arr 3 1 (List.map t_i64 r))]) := by
 obtain ⟨h, hF⟩ := roomT hF
 cases hF
 exact skeys_fun p0_0 (of_decide_eq_true h) (2120,0) (2121,0) (902,1120) (by decide) (by decide) (by decide)
def critical_Shares_L1 (e24 : (List (Int × Int))) (r26 : (List Int)) : ((List T46_2_int) × Int) → Option (((List T46_2_int) × Int) ⊕ (List T46_2_int)) := fun (a39, a40) =>
  (bif (decide (a40 < (List.length r26 : Int))) then ((idx r26 a40).bind fun y45 => (bif room 16 (List.length a39 + List.length [({ a0 := y45, a1 := (Option.getD (mget y45 e24) 0) } : T46_2_int)]) then some (.inl ((a39 ++ [({ a0 := y45, a1 := (Option.getD (mget y45 e24) 0) } : T46_2_int)]), (w64 (a40 + 1)))) else none)) else some (.inr a39))
def critical_Shares_L2 (p0 : (List api_Hop)) : ((List (Int × Int)) × Int) → Option (((List (Int × Int)) × Int) ⊕ (List (Int × Int))) := fun (a17, a18) =>
  (bif (decide (a18 < (List.length p0 : Int))) then ((((idx p0 a18).bind fun y49 => ((critical_length y49).bind fun r50 => (bif (decide (0 < r50)) then some (mput y49.fThread (w64 ((Option.getD (mget y49.fThread a17) 0) + r50)) a17) else some a17))) : Option (List (Int × Int))).bind fun v48 => some (.inl (v48, (w64 (a18 + 1))))) else some (.inr a17))
def critical_Shares (p0 : (List api_Hop)) : Option (List T46_2_int) :=
  ((loop (critical_Shares_L2 p0) ([], 0)).bind fun e24 => ((maps_Keys_map_int_int_int_int_k1 e24).bind fun r25 => ((slices_SortedFunc_int_k1 e24).bind fun r26 => ((loop (critical_Shares_L1 e24 r26) ([], 0)).bind fun e44 => some e44))))
theorem critical_Shares_fun (p0 : (List api_Hop)) (r : (List T46_2_int)) (hF : critical_Shares p0 = some r) : Fun Tryz.prog 11 false [] [cL 4 t_api_Hop p0] (heapOf []) (cO (902,440)) (heapOf [((902,440), .arr 46 2 (List.map t_T46_2_int r))]) := by
 refine Fun.of_walkM [] (some []) Tryz.func11 c11 (by kernel_rfl) (rs := [.tmp 2]) (by kernel_rfl) rfl rfl rfl ?_; unfold v11
 unfold critical_Shares at hF
 refine wA rfl ?_; refine wE ?_; refine rS (T_mkmap (kd := (.int .i64)) (kv := kvI) (vv := (fun y : Int => (.one (tI y) : MT))) rfl ?_)
 refine QV rfl ?_; refine W_seq ?_; refine wC 1 rfl ?_; refine rS (T_len (tc := t_api_Hop) p0 .tree ?_); refine QV rfl ?_; refine W_for (fun _ _ h => h) hF (id) (fun (a17, a18) => [(3, cM (10,0)), (11, cL 4 t_api_Hop p0), (12, cI (List.length p0 : Int)), (13, cI a18)]) (fun (a17, a18) => [((10,0), mapOb (.int .i64) kvI (fun y : Int => (.one (tI y) : MT)) a17)]) (fun e24 => [(3, cM (10,0))]) (fun e24 => [((10,0), mapOb (.int .i64) kvI (fun y : Int => (.one (tI y) : MT)) e24)]) sw ?_ ?_
 · rintro e24 hF
   refine wA rfl ?_; refine W_seq ?_; refine wC 1 rfl ?_; obtain ⟨r25, hr25, hF⟩ := bB hF
   refine R_stepX trivial (X_callG [((2160,0),(10,0)), ((902,1160),(29,1))] rfl (callN _) (maps_Keys_map_int_int_int_int_k1_fun _ _ hr25) ⟨rfl, trivial⟩ ⟨.inl rfl, trivial⟩ rfl rfl rfl ?_); obtain ⟨r26, hr26, hF⟩ := bB hF
   refine R_stepX trivial (X_callG [((2120,0),(29,1)), ((2121,0),(10,0)), ((902,1120),(30,1))] rfl (callN _) (slices_SortedFunc_int_k1_fun _ _ hr26) ⟨rfl, rfl, trivial⟩ ⟨.inl rfl, .inl rfl, trivial⟩ rfl rfl rfl ?_)
   refine rS (T_len (tc := t_i64) r26 (.own _ _ rfl) ?_); refine QV rfl ?_; refine W_for (fun _ _ h => h) hF (id) (fun (a39, a40) => [(3, cM (10,0)), (7, cO (43,1)), (30, cO (30,1)), (31, cI (List.length r26 : Int)), (32, cI a40)]) (fun (a39, a40) => [((10,0), mapOb (.int .i64) kvI (fun y : Int => (.one (tI y) : MT)) e24), ((43,1), .arr 46 2 (List.map t_T46_2_int a39)), ((30,1), .arr 3 1 (List.map t_i64 r26))]) (fun e44 => [(7, cO (43,1))]) (fun e44 => [((43,1), .arr 46 2 (List.map t_T46_2_int e44))]) (S_own 7 (43,1) 46 2 rfl rfl rfl rfl sw) ?_ ?_
   · rintro e44 hF
     refine wA rfl ?_; cases hF
     exact W_ret ⟨_, _, (S_ren (43,1) (902,440) rfl rfl S_refl), _, rfl, rfl, rfl, (AgM.weak ⟨rfl, trivial⟩)⟩
   rintro ⟨a39, a40⟩ x_0 hF cont_0 brk_0 fin_0
   unfold critical_Shares_L1 at hF
   refine wA rfl ?_; refine W_seq ?_; refine wIf hF rfl (fun _ hF => ?_) fun _ hF => ?_
   · refine W_skip ?_; refine W_seq ?_; refine W_block ?_; refine wE ?_; obtain ⟨y45, hy45, hF⟩ := bB hF
     refine rS (T_ixO (tc := t_i64) r26 rfl rfl rfl hy45 ?_); refine rS (T_ldE (tc := t_i64) r26 rfl rfl (idx_get hy45).2.1 rfl ?_); refine QV rfl ?_; refine wD 4 rfl ?_; refine rS (T_look (keyI .i64) (vv := (fun y : Int => (.one (tI y) : MT))) e24 y45 0 (.own _ rfl) rfl rfl ?_)
     refine Q_run SV 1 rfl ?_; refine rS (T_bsl (tc := t_T46_2_int) [({ a0 := y45, a1 := (Option.getD (mget y45 e24) 0) } : T46_2_int)] rfl ⟨rfl, rfl, trivial⟩ rfl (fun _ => rfl) rfl ?_)
     obtain ⟨h46, hF⟩ := roomT hF
     refine rS (T_appO (tc := t_T46_2_int) a39 [({ a0 := y45, a1 := (Option.getD (mget y45 e24) 0) } : T46_2_int)] rfl rfl (.own _ _ rfl) h46 rfl ?_); refine QV rfl ?_; refine wB rfl ?_; exact cont_0 _ _ _ (oi hF) (S_ren (43,0) (43,1) rfl rfl sw)
   refine W_exit ?_; refine thenQ_exit ?_; refine thenQ_exit ?_; refine blockQ_hit ?_; exact brk_0 _ _ _ (oi hF) sw
 rintro ⟨a17, a18⟩ x_0 hF cont_0 brk_0 fin_0
 unfold critical_Shares_L2 at hF
 refine wA rfl ?_; refine W_seq ?_; refine wIf hF rfl (fun _ hF => ?_) fun _ hF => ?_
 · refine W_skip ?_; refine W_seq ?_; refine W_join (fun _ _ h => h) hF (fun v48 => [(3, cM (10,0)), (11, cL 4 t_api_Hop p0), (12, cI (List.length p0 : Int)), (13, cI a18)]) (fun v48 => [((10,0), mapOb (.int .i64) kvI (fun y : Int => (.one (tI y) : MT)) v48)]) ?_ ?_
   · rintro v48 hF
     refine wB rfl ?_; exact cont_0 _ _ _ (oi hF) sw
   intro join hF
   refine W_block ?_; refine wE ?_; obtain ⟨y49, hy49, hF⟩ := bB' hF
   refine rS (T_ixT (tc := t_api_Hop) p0 rfl rfl hy49 ?_); refine QV rfl ?_; refine wC 1 rfl ?_; obtain ⟨r50, hr50, hF⟩ := bB' hF
   refine rS (T_call (critical_length_fun _ _ hr50) ⟨⟨rfl, rfl, rfl, rfl, trivial⟩, trivial⟩ rfl (.inl rfl) ?_); refine QV rfl ?_; refine wA rfl ?_; refine wIf' hF rfl (fun _ hF => ?_) fun _ hF => ?_
   · refine wD 3 rfl ?_; refine rS (T_look (keyI .i64) (vv := (fun y : Int => (.one (tI y) : MT))) a17 y49.fThread 0 (.own _ rfl) rfl rfl ?_)
     refine Q_run SV 2 rfl ?_; refine rS (T_mupd (keyI .i64) (vv := (fun y : Int => (.one (tI y) : MT))) a17 y49.fThread (w64 ((Option.getD (mget y49.fThread a17) 0) + r50)) rfl rfl rfl rfl ?_)
     refine QV rfl ?_; exact join (mput y49.fThread (w64 ((Option.getD (mget y49.fThread a17) 0) + r50)) a17) _ _ hF sw
   refine W_skip ?_; exact join a17 _ _ hF sw
 refine W_exit ?_; refine thenQ_exit ?_; refine thenQ_exit ?_; refine blockQ_hit ?_; exact brk_0 _ _ _ (oi hF) sw
def tracebookref04_Valid (p0 : api_Span) : Option Bool :=
  (((bif (decide (0 ≤ p0.fFrom)) then (bif (decide (p0.fFrom < p0.fTo)) then some (decide (p0.fTo ≤ 1000000000000)) else some false) else some false) : Option Bool).bind fun v1 => some v1)
theorem tracebookref04_Valid_fun (p0 : api_Span) (r : Bool) (hF : tracebookref04_Valid p0 = some r) : Fun Tryz.prog 31 true [] [.agg [jI p0.fFrom, jI p0.fTo]] noHeap (cB r) noHeap := by
 refine Fun.of_walk0 Tryz.func31 c31 (by kernel_rfl) (rs := [.tmp 2]) (by kernel_rfl) ?_; unfold v31
 unfold tracebookref04_Valid at hF
 refine wA rfl ?_; refine W_seq ?_; refine W_join (fun _ _ h => h) hF (fun v1 => [(2, cB v1)]) (fun v1 => []) ?_ ?_
 · rintro v1 hF
   cases hF
   exact W_ret wR
 intro join hF
 refine wD 4 rfl ?_; cases h2 : (decide (0 ≤ p0.fFrom))
 · have hF := bF' h2 hF; refine QV rfl ?_; exact join false _ _ hF sw
 have hF := bT' h2 hF; refine Q_run SV 7 rfl ?_; cases h3 : (decide (p0.fFrom < p0.fTo))
 · have hF := bF' h3 hF; refine QV rfl ?_; exact join false _ _ hF sw
 have hF := bT' h3 hF; refine QV rfl ?_; exact join (decide (p0.fTo ≤ 1000000000000)) _ _ hF sw
def tracebookref48_Shares_L1  : ((List T46_2_int) × Int) → Option (((List T46_2_int) × Int) ⊕ (List T46_2_int)) := fun (a338, a339) =>
  (((bif (decide (0 < a339)) then ((idx a338 a339).bind fun y357 => ((idx a338 (w64 (a339 - 1))).bind fun y358 => some (decide (y357.a0 < y358.a0)))) else some false) : Option Bool).bind fun v350 => (bif v350 then ((idx a338 a339).bind fun y351 => ((idx a338 (w64 (a339 - 1))).bind fun y352 => ((idx a338 a339).bind fun y353 => ((idx (List.set a338 (Int.toNat a339) y352) (w64 (a339 - 1))).bind fun y354 => some (.inl ((List.set (List.set a338 (Int.toNat a339) y352) (Int.toNat (w64 (a339 - 1))) y351), (w64 (a339 - 1)))))))) else some (.inr a338)))
def tracebookref48_Shares_L2 (p0 : (List api_Hop)) (a166 : Int) (y272 : api_Hop) (y273 : api_Hop) : ((List T46_2_int) × Bool × Int) → Option (((List T46_2_int) × Bool × Int) ⊕ ((List T46_2_int) × Bool)) := fun (a299, a300, a301) =>
  (bif (decide (a301 < (List.length a299 : Int))) then ((((idx a299 a301).bind fun y362 => ((idx p0 a166).bind fun y363 => (bif (decide (y362.a0 = y363.fThread)) then ((idx a299 a301).bind fun y364 => ((idx a299 a301).bind fun y365 => some ((List.set a299 (Int.toNat a301) ({ a0 := y365.a0, a1 := (w64 (y364.a1 + (w64 (y272.fSpan.fTo - y273.fSpan.fFrom)))) } : T46_2_int)), true))) else some (a299, a300)))) : Option ((List T46_2_int) × Bool)).bind fun (v360, v361) => some (.inl (v360, v361, (w64 (a301 + 1))))) else some (.inr (a299, a300)))
def tracebookref48_Shares_L3 (p0 : (List api_Hop)) : ((List T46_2_int) × Int) → Option (((List T46_2_int) × Int) ⊕ (List T46_2_int)) := fun (a165, a166) =>
  (bif (decide (a166 < (List.length p0 : Int))) then ((((idx p0 a166).bind fun y270 => ((tracebookref04_Valid y270.fSpan).bind fun r271 => (bif (!r271) then some a165 else ((idx p0 a166).bind fun y272 => ((idx p0 a166).bind fun y273 => ((loop (tracebookref48_Shares_L2 p0 a166 y272 y273) (a165, false, 0)).bind fun (e310, e311) => (bif (!e311) then ((idx p0 a166).bind fun y312 => (bif room 16 (List.length e310 + List.length [({ a0 := y312.fThread, a1 := (w64 (y272.fSpan.fTo - y273.fSpan.fFrom)) } : T46_2_int)]) then ((loop (tracebookref48_Shares_L1) ((e310 ++ [({ a0 := y312.fThread, a1 := (w64 (y272.fSpan.fTo - y273.fSpan.fFrom)) } : T46_2_int)]), (w64 ((List.length (e310 ++ [({ a0 := y312.fThread, a1 := (w64 (y272.fSpan.fTo - y273.fSpan.fFrom)) } : T46_2_int)]) : Int) - 1)))).bind fun e349 => some e349) else none)) else some e310))))))) : Option (List T46_2_int)).bind fun v269 => some (.inl (v269, (w64 (a166 + 1))))) else some (.inr a165))
def tracebookref48_Shares (p0 : (List api_Hop)) : Option (List T46_2_int) :=
  ((loop (tracebookref48_Shares_L3 p0) ([], 0)).bind fun e268 => some e268)
theorem tracebookref48_Shares_fun (p0 : (List api_Hop)) (r : (List T46_2_int)) (hF : tracebookref48_Shares p0 = some r) : Fun Tryz.prog 12 false [] [cL 4 t_api_Hop p0] (heapOf []) (cO (902,480)) (heapOf [((902,480), .arr 46 2 (List.map t_T46_2_int r))]) := by
 refine Fun.of_walkM [] (some []) Tryz.func12 c12 (by kernel_rfl) (rs := [.tmp 2]) (by kernel_rfl) rfl rfl rfl ?_; unfold v12
 unfold tracebookref48_Shares at hF
 refine wA rfl ?_; refine wA rfl ?_; refine W_seq ?_; refine wA rfl ?_; refine W_for (fun _ _ h => h) hF (id) (fun (a165, a166) => [(0, cL 4 t_api_Hop p0), (3, cO (75,1)), (4, cI a166)]) (fun (a165, a166) => [((75,1), .arr 46 2 (List.map t_T46_2_int a165))]) (fun e268 => [(3, cO (75,1))]) (fun e268 => [((75,1), .arr 46 2 (List.map t_T46_2_int e268))]) (S_own 3 (75,1) 46 2 rfl rfl rfl rfl sw) ?_ ?_
 · rintro e268 hF
   refine wA rfl ?_; cases hF
   exact W_ret ⟨_, _, (S_ren (75,1) (902,480) rfl rfl S_refl), _, rfl, rfl, rfl, (AgM.weak ⟨rfl, trivial⟩)⟩
 rintro ⟨a165, a166⟩ x_0 hF cont_0 brk_0 fin_0
 unfold tracebookref48_Shares_L3 at hF
 refine W_seq ?_; refine wC 2 rfl ?_; refine rS (T_len (tc := t_api_Hop) p0 .tree ?_); refine QV rfl ?_; refine wIf hF rfl (fun _ hF => ?_) fun _ hF => ?_
 · refine W_skip ?_; refine W_seq ?_; refine W_join (fun _ _ h => h) hF (fun v269 => [(0, cL 4 t_api_Hop p0), (3, cO (75,1)), (4, cI a166)]) (fun v269 => [((75,1), .arr 46 2 (List.map t_T46_2_int v269))]) ?_ ?_
   · rintro v269 hF
     refine wB rfl ?_; exact cont_0 _ _ _ (oi hF) sw
   intro join hF
   refine W_block ?_; refine W_seq ?_; refine wC 2 rfl ?_; obtain ⟨y270, hy270, hF⟩ := bB' hF
   refine rS (T_ixT (tc := t_api_Hop) p0 rfl rfl hy270 ?_); refine Q_run SV 2 rfl ?_; obtain ⟨r271, hr271, hF⟩ := bB' hF
   refine rS (T_call (tracebookref04_Valid_fun _ _ hr271) ⟨⟨rfl, rfl, trivial⟩, trivial⟩ rfl (.inl rfl) ?_); refine QV rfl ?_; refine wIf' hF rfl (fun _ hF => ?_) fun _ hF => ?_
   · refine W_exit ?_; refine thenQ_exit ?_; refine blockQ_hit ?_; exact join a165 _ _ hF sw
   refine W_skip ?_; refine W_seq ?_; refine W_regD (by decide) (by kernel_rfl) rfl ?_; refine Q_run SP 2 rfl ?_; obtain ⟨y272, hy272, hF⟩ := bB' hF
   refine R_step SP trivial (T_ixT (tc := t_api_Hop) p0 rfl rfl hy272 ?_); refine Q_run SP 5 rfl ?_; obtain ⟨y273, hy273, hF⟩ := bB' hF
   refine R_step SP trivial (T_ixT (tc := t_api_Hop) p0 rfl rfl hy273 ?_); refine QP rfl ?_; refine wA rfl ?_; refine W_seq ?_; refine wA rfl ?_; have hF := bA hF; refine W_for (fun _ _ h => h) hF (id) (fun (a299, a300, a301) => [(0, cL 4 t_api_Hop p0), (3, cO (75,1)), (4, cI a166), (5, cI (w64 (y272.fSpan.fTo - y273.fSpan.fFrom))), (6, cB a300), (7, cI a301)]) (fun (a299, a300, a301) => [((75,1), .arr 46 2 (List.map t_T46_2_int a299))]) (fun (e310, e311) => [(0, cL 4 t_api_Hop p0), (3, cO (75,1)), (4, cI a166), (5, cI (w64 (y272.fSpan.fTo - y273.fSpan.fFrom))), (6, cB e311)]) (fun (e310, e311) => [((75,1), .arr 46 2 (List.map t_T46_2_int e310))]) sw ?_ ?_
   · rintro ⟨e310, e311⟩ hF
     refine wA rfl ?_; refine wIf' hF rfl (fun _ hF => ?_) fun _ hF => ?_
     · refine wC 3 rfl ?_; obtain ⟨y312, hy312, hF⟩ := bB' hF
       refine rS (T_ixT (tc := t_api_Hop) p0 rfl rfl hy312 ?_); refine Q_run SV 4 rfl ?_; refine rS (T_bsl (tc := t_T46_2_int) [({ a0 := y312.fThread, a1 := (w64 (y272.fSpan.fTo - y273.fSpan.fFrom)) } : T46_2_int)] rfl ⟨rfl, rfl, trivial⟩ rfl (fun _ => rfl) rfl ?_)
       obtain ⟨h313, hF⟩ := roomT' hF
       refine rS (T_appO (tc := t_T46_2_int) e310 [({ a0 := y312.fThread, a1 := (w64 (y272.fSpan.fTo - y273.fSpan.fFrom)) } : T46_2_int)] rfl rfl (.own _ _ rfl) h313 rfl ?_); refine QV rfl ?_; refine wC 1 rfl ?_
       refine rS (T_len (tc := t_T46_2_int) (e310 ++ [({ a0 := y312.fThread, a1 := (w64 (y272.fSpan.fTo - y273.fSpan.fFrom)) } : T46_2_int)]) (.own _ _ rfl) ?_); refine QV rfl ?_; have hF := bA hF; refine W_for (fun _ _ h => h) hF (id) (fun (a338, a339) => [(0, cL 4 t_api_Hop p0), (3, cO (75,0)), (4, cI a166), (8, cI a339)]) (fun (a338, a339) => [((75,0), .arr 46 2 (List.map t_T46_2_int a338))]) (fun e349 => [(0, cL 4 t_api_Hop p0), (3, cO (75,0)), (4, cI a166)]) (fun e349 => [((75,0), .arr 46 2 (List.map t_T46_2_int e349))]) sw ?_ ?_
       · rintro e349 hF
         exact join e349 _ _ hF (S_ren (75,0) (75,1) rfl rfl sw)
       rintro ⟨a338, a339⟩ x_1 hF cont_1 brk_1 fin_1
       unfold tracebookref48_Shares_L1 at hF
       refine W_seq ?_; refine W_seq ?_; refine W_join (fun _ _ h => h) hF (fun v350 => [(0, cL 4 t_api_Hop p0), (3, cO (75,0)), (4, cI a166), (8, cI a339), (94, cB v350)]) (fun v350 => [((75,0), .arr 46 2 (List.map t_T46_2_int a338))]) ?_ ?_
       · rintro v350 hF
         refine wIf hF rfl (fun _ hF => ?_) fun _ hF => ?_
         · refine W_skip ?_; refine W_seq ?_; refine W_block ?_; refine wC 2 rfl ?_; obtain ⟨y351, hy351, hF⟩ := bB hF
           refine rS (T_ixO (tc := t_T46_2_int) a338 rfl rfl rfl hy351 ?_); refine rS (T_ldE (tc := t_T46_2_int) a338 rfl rfl (idx_get hy351).2.1 rfl ?_); refine QV rfl ?_; refine wC 5 rfl ?_; obtain ⟨y352, hy352, hF⟩ := bB hF
           refine rS (T_ixO (tc := t_T46_2_int) a338 rfl rfl rfl hy352 ?_); refine rS (T_ldE (tc := t_T46_2_int) a338 rfl rfl (idx_get hy352).2.1 rfl ?_); obtain ⟨y353, hy353, hF⟩ := bB hF
           refine rS (T_ixO (tc := t_T46_2_int) a338 rfl rfl rfl hy353 ?_); refine rS (T_stE (tc := t_T46_2_int) a338 y352 rfl rfl (idx_get hy353).2.1 rfl rfl rfl rfl rfl ?_); refine QV rfl ?_; refine wD 4 rfl ?_
           obtain ⟨y354, hy354, hF⟩ := bB hF
           refine rS (T_ixO (tc := t_T46_2_int) (List.set a338 (Int.toNat a339) y352) rfl rfl rfl hy354 ?_); refine rS (T_stE (tc := t_T46_2_int) (List.set a338 (Int.toNat a339) y352) y351 rfl rfl (idx_get hy354).2.1 rfl rfl rfl rfl rfl ?_)
           refine QV rfl ?_; refine wB rfl ?_; exact cont_1 _ _ _ (oi hF) sw
         refine W_exit ?_; refine thenQ_exit ?_; refine thenQ_exit ?_; refine blockQ_hit ?_; exact brk_1 _ _ _ (oi hF) sw
       intro join hF
       refine W_regD (by decide) (by kernel_rfl) rfl ?_; refine Q_run SP 3 rfl ?_; cases h356 : (decide (0 < a339))
       · have hF := bF' h356 hF; refine QP rfl ?_; exact join false _ _ hF sw
       have hF := bT' h356 hF; refine Q_run SP 2 rfl ?_; obtain ⟨y357, hy357, hF⟩ := bB' hF
       refine R_step SP rfl (T_ixO (tc := t_T46_2_int) a338 rfl rfl rfl hy357 ?_); refine R_step SP rfl (T_ixAA (j := 0) (r := .c (.elO (75,0) 2 (Int.toNat a339) 0)) rfl (by decide) rfl ?_); refine R_step SP rfl (T_ldE (tc := t_T46_2_int) a338 rfl rfl (idx_get hy357).2.1 rfl ?_)
       refine Q_run SP 3 rfl ?_; obtain ⟨y358, hy358, hF⟩ := bB' hF
       refine R_step SP rfl (T_ixO (tc := t_T46_2_int) a338 rfl rfl rfl hy358 ?_); refine R_step SP rfl (T_ixAA (j := 0) (r := .c (.elO (75,0) 2 (Int.toNat (w64 (a339 - 1))) 0)) rfl (by decide) rfl ?_); refine R_step SP rfl (T_ldE (tc := t_T46_2_int) a338 rfl rfl (idx_get hy358).2.1 rfl ?_)
       refine QP rfl ?_; exact join (decide (y357.a0 < y358.a0)) _ _ hF sw
     refine W_skip ?_; exact join e310 _ _ hF sw
   rintro ⟨a299, a300, a301⟩ x_1 hF cont_1 brk_1 fin_1
   unfold tracebookref48_Shares_L2 at hF
   refine W_seq ?_; refine wC 2 rfl ?_; refine rS (T_len (tc := t_T46_2_int) a299 (.own _ _ rfl) ?_); refine QV rfl ?_; refine wIf hF rfl (fun _ hF => ?_) fun _ hF => ?_
   · refine W_skip ?_; refine W_seq ?_; refine W_join (fun _ _ h => h) hF (fun (v360, v361) => [(0, cL 4 t_api_Hop p0), (3, cO (75,1)), (4, cI a166), (5, cI (w64 (y272.fSpan.fTo - y273.fSpan.fFrom))), (6, cB v361), (7, cI a301)]) (fun (v360, v361) => [((75,1), .arr 46 2 (List.map t_T46_2_int v360))]) ?_ ?_
     · rintro ⟨v360, v361⟩ hF
       refine wB rfl ?_; exact cont_1 _ _ _ (oi hF) sw
     intro join hF
     refine W_block ?_; refine W_seq ?_; refine W_regD (by decide) (by kernel_rfl) rfl ?_; refine Q_run SP 2 rfl ?_; obtain ⟨y362, hy362, hF⟩ := bB' hF
     refine R_step SP trivial (T_ixO (tc := t_T46_2_int) a299 rfl rfl rfl hy362 ?_); refine R_step SP trivial (T_ixAA (j := 0) (r := .c (.elO (75,1) 2 (Int.toNat a301) 0)) rfl (by decide) rfl ?_); refine R_step SP trivial (T_ldE (tc := t_T46_2_int) a299 rfl rfl (idx_get hy362).2.1 rfl ?_)
     refine Q_run SP 2 rfl ?_; obtain ⟨y363, hy363, hF⟩ := bB' hF
     refine R_step SP trivial (T_ixT (tc := t_api_Hop) p0 rfl rfl hy363 ?_); refine QP rfl ?_; refine wIf' hF rfl (fun _ hF => ?_) fun _ hF => ?_
     · refine W_seq ?_; refine W_regD (by decide) (by kernel_rfl) rfl ?_; refine Q_run SP 4 rfl ?_; obtain ⟨y364, hy364, hF⟩ := bB' hF
       refine R_step SP trivial (T_ixO (tc := t_T46_2_int) a299 rfl rfl rfl hy364 ?_); refine R_step SP trivial (T_ixAA (j := 1) (r := .c (.elO (75,1) 2 (Int.toNat a301) 1)) rfl (by decide) rfl ?_); refine R_step SP trivial (T_ldE (tc := t_T46_2_int) a299 rfl rfl (idx_get hy364).2.1 rfl ?_)
       refine Q_run SP 2 rfl ?_; obtain ⟨y365, hy365, hF⟩ := bB' hF
       refine R_step SP trivial (T_ixO (tc := t_T46_2_int) a299 rfl rfl rfl hy365 ?_); refine R_step SP trivial (T_ixAA (j := 1) (r := .c (.elO (75,1) 2 (Int.toNat a301) 1)) rfl (by decide) rfl ?_); refine R_step SP trivial (T_stE (tc := t_T46_2_int) a299 ({ a0 := y365.a0, a1 := (w64 (y364.a1 + (w64 (y272.fSpan.fTo - y273.fSpan.fFrom)))) } : T46_2_int) rfl rfl (idx_get hy365).2.1 rfl rfl rfl rfl rfl ?_)
       refine QP rfl ?_; refine wB rfl ?_; exact join ((List.set a299 (Int.toNat a301) ({ a0 := y365.a0, a1 := (w64 (y364.a1 + (w64 (y272.fSpan.fTo - y273.fSpan.fFrom)))) } : T46_2_int)), true) _ _ hF sw
     refine W_skip ?_; exact join (a299, a300) _ _ hF sw
   refine W_exit ?_; refine thenQ_exit ?_; refine thenQ_exit ?_; refine blockQ_hit ?_; exact brk_1 _ _ _ (oi hF) sw
 refine W_exit ?_; refine thenQ_exit ?_; refine thenQ_exit ?_; refine blockQ_hit ?_; exact brk_0 _ _ _ (oi hF) sw
def tracebookref06_letter_L1 (p0 : Int) : Int → Option (Int ⊕ (Unit ⊕ Bool)) := fun a11 =>
  (bif (decide (a11 < (ByteArray.size ⟨#[95, 46, 58, 47, 60, 62, 36, 42, 126, 45]⟩ : Int))) then ((idx (ByteArray.data ⟨#[95, 46, 58, 47, 60, 62, 36, 42, 126, 45]⟩).toList a11).bind fun y15 => (bif (decide ((UInt8.toNat y15 : Int) = p0)) then some (.inr (.inr true)) else some (.inl (w64 (a11 + 1))))) else some (.inr (.inl ())))
def tracebookref06_letter (p0 : Int) : Option Bool :=
  (((bif (decide (97 ≤ p0)) then (bif (decide (p0 ≤ 122)) then some true else (bif (decide (65 ≤ p0)) then (bif (decide (p0 ≤ 90)) then some true else (bif (decide (48 ≤ p0)) then some (decide (p0 ≤ 57)) else some false)) else (bif (decide (48 ≤ p0)) then some (decide (p0 ≤ 57)) else some false))) else (bif (decide (65 ≤ p0)) then (bif (decide (p0 ≤ 90)) then some true else (bif (decide (48 ≤ p0)) then some (decide (p0 ≤ 57)) else some false)) else (bif (decide (48 ≤ p0)) then some (decide (p0 ≤ 57)) else some false))) : Option Bool).bind fun v1 => (bif v1 then some true else ((loop (tracebookref06_letter_L1 p0) 0).bind fun | .inl _ => some false | .inr rv => some rv)))
theorem tracebookref06_letter_fun (p0 : Int) (r : Bool) (hF : tracebookref06_letter p0 = some r) : Fun Tryz.prog 135 true [] [.c (.imm (.sc (.int .u8 p0)))] noHeap (cB r) noHeap := by
 refine Fun.of_walk0 Tryz.func135 c135 (by kernel_rfl) (rs := [.tmp 2]) (by kernel_rfl) ?_; unfold v135
 unfold tracebookref06_letter at hF
 refine wA rfl ?_; refine W_seq ?_; refine W_seq ?_; refine W_join (fun _ _ h => h) hF (fun v1 => [(0, .c (.imm (.sc (.int .u8 p0)))), (26, cB v1)]) (fun v1 => []) ?_ ?_
 · rintro v1 hF
   refine wIf hF rfl (fun _ hF => ?_) fun _ hF => ?_
   · refine wA rfl ?_; cases hF
     exact W_ret wR
   refine W_skip ?_; refine wA rfl ?_; refine W_seq ?_; refine wA rfl ?_; refine W_for (fun _ _ h => h) hF (.inl) (fun a11 => [(0, .c (.imm (.sc (.int .u8 p0)))), (3, .c (jS ⟨#[95, 46, 58, 47, 60, 62, 36, 42, 126, 45]⟩)), (4, cI a11)]) (fun a11 => []) (fun _ => []) (fun _ => []) sw ?_ ?_
   · rintro ⟨⟩ hF
     refine wA rfl ?_; cases hF
     exact W_ret wR
   rintro a11 x_0 hF cont_0 brk_0 fin_0
   unfold tracebookref06_letter_L1 at hF
   refine W_seq ?_; refine wA rfl ?_; refine wIf hF rfl (fun _ hF => ?_) fun _ hF => ?_
   · refine W_skip ?_; refine W_seq ?_; refine W_block ?_; refine wC 2 rfl ?_; obtain ⟨y15, hy15, hF⟩ := bB hF
     refine rS (T_ixS ⟨#[95, 46, 58, 47, 60, 62, 36, 42, 126, 45]⟩ rfl rfl hy15 ?_); refine QV rfl ?_; refine wIf hF rfl (fun _ hF => ?_) fun _ hF => ?_
     · refine wA rfl ?_; have hF := fin_0 _ (oi hF); cases hF
       exact W_ret wR
     refine W_skip ?_; refine wB rfl ?_; exact cont_0 _ _ _ (oi hF) sw
   refine W_exit ?_; refine thenQ_exit ?_; refine thenQ_exit ?_; refine blockQ_hit ?_; exact brk_0 _ _ _ (oi hF) sw
 intro join hF
 refine wD 3 rfl ?_; cases h19 : (decide (97 ≤ p0))
 · have hF := bF' h19 hF; refine Q_run SV 7 rfl ?_; cases h20 : (decide (65 ≤ p0))
   · have hF := bF' h20 hF; refine Q_run SV 8 rfl ?_; cases h21 : (decide (48 ≤ p0))
     · have hF := bF' h21 hF; refine QV rfl ?_; exact join false _ _ hF sw
     have hF := bT' h21 hF; refine QV rfl ?_; exact join (decide (p0 ≤ 57)) _ _ hF sw
   have hF := bT' h20 hF; refine Q_run SV 5 rfl ?_; cases h22 : (decide (p0 ≤ 90))
   · have hF := bF' h22 hF; refine Q_run SV 3 rfl ?_; cases h23 : (decide (48 ≤ p0))
     · have hF := bF' h23 hF; refine QV rfl ?_; exact join false _ _ hF sw
     have hF := bT' h23 hF; refine QV rfl ?_; exact join (decide (p0 ≤ 57)) _ _ hF sw
   have hF := bT' h22 hF; refine QV rfl ?_; exact join true _ _ hF sw
 have hF := bT' h19 hF; refine Q_run SV 4 rfl ?_; cases h24 : (decide (p0 ≤ 122))
 · have hF := bF' h24 hF; refine Q_run SV 3 rfl ?_; cases h25 : (decide (65 ≤ p0))
   · have hF := bF' h25 hF; refine Q_run SV 8 rfl ?_; cases h26 : (decide (48 ≤ p0))
     · have hF := bF' h26 hF; refine QV rfl ?_; exact join false _ _ hF sw
     have hF := bT' h26 hF; refine QV rfl ?_; exact join (decide (p0 ≤ 57)) _ _ hF sw
   have hF := bT' h25 hF; refine Q_run SV 5 rfl ?_; cases h27 : (decide (p0 ≤ 90))
   · have hF := bF' h27 hF; refine Q_run SV 3 rfl ?_; cases h28 : (decide (48 ≤ p0))
     · have hF := bF' h28 hF; refine QV rfl ?_; exact join false _ _ hF sw
     have hF := bT' h28 hF; refine QV rfl ?_; exact join (decide (p0 ≤ 57)) _ _ hF sw
   have hF := bT' h27 hF; refine QV rfl ?_; exact join true _ _ hF sw
 have hF := bT' h24 hF; refine QV rfl ?_; exact join true _ _ hF sw
def tracebookref06_Name_L1 (p0 : ByteArray) : Int → Option (Int ⊕ (Unit ⊕ Int)) := fun a13 =>
  (bif (decide (a13 < (ByteArray.size p0 : Int))) then ((idx (ByteArray.data p0).toList a13).bind fun y18 => ((tracebookref06_letter (UInt8.toNat y18 : Int)).bind fun r19 => (bif (!r19) then some (.inr (.inr 3)) else some (.inl (w64 (a13 + 1)))))) else some (.inr (.inl ())))
def tracebookref06_Name (p0 : ByteArray) : Option Int :=
  (((bif (decide ((ByteArray.size p0 : Int) < 1)) then some true else some (decide (40 < (ByteArray.size p0 : Int)))) : Option Bool).bind fun v1 => (bif v1 then some 3 else ((loop (tracebookref06_Name_L1 p0) 0).bind fun | .inl _ => some 0 | .inr rv => some rv)))
theorem tracebookref06_Name_fun (p0 : ByteArray) (r : Int) (hF : tracebookref06_Name p0 = some r) : Fun Tryz.prog 118 true [] [.c (jS p0)] noHeap (cI r) noHeap := by
 refine Fun.of_walk0 Tryz.func118 c118 (by kernel_rfl) (rs := [.tmp 2]) (by kernel_rfl) ?_; unfold v118
 unfold tracebookref06_Name at hF
 refine wA rfl ?_; refine W_seq ?_; refine W_seq ?_; refine W_join (fun _ _ h => h) hF (fun v1 => [(0, .c (jS p0)), (11, cB v1)]) (fun v1 => []) ?_ ?_
 · rintro v1 hF
   refine wIf hF rfl (fun _ hF => ?_) fun _ hF => ?_
   · refine wA rfl ?_; cases hF
     exact W_ret wR
   refine W_skip ?_; refine W_seq ?_; refine wA rfl ?_; refine W_for (fun _ _ h => h) hF (.inl) (fun a13 => [(0, .c (jS p0)), (3, cI a13)]) (fun a13 => []) (fun _ => []) (fun _ => []) sw ?_ ?_
   · rintro ⟨⟩ hF
     refine wA rfl ?_; cases hF
     exact W_ret wR
   rintro a13 x_0 hF cont_0 brk_0 fin_0
   unfold tracebookref06_Name_L1 at hF
   refine W_seq ?_; refine wA rfl ?_; refine wIf hF rfl (fun _ hF => ?_) fun _ hF => ?_
   · refine W_skip ?_; refine W_seq ?_; refine W_block ?_; refine wC 2 rfl ?_; obtain ⟨y18, hy18, hF⟩ := bB hF
     refine rS (T_ixS p0 rfl rfl hy18 ?_); obtain ⟨r19, hr19, hF⟩ := bB hF
     refine rS (T_call (tracebookref06_letter_fun _ _ hr19) ⟨rfl, trivial⟩ rfl (.inl rfl) ?_); refine QV rfl ?_; refine wIf hF rfl (fun _ hF => ?_) fun _ hF => ?_
     · refine wA rfl ?_; have hF := fin_0 _ (oi hF); cases hF
       exact W_ret wR
     refine W_skip ?_; refine wB rfl ?_; exact cont_0 _ _ _ (oi hF) sw
   refine W_exit ?_; refine thenQ_exit ?_; refine thenQ_exit ?_; refine blockQ_hit ?_; exact brk_0 _ _ _ (oi hF) sw
 intro join hF
 refine wD 4 rfl ?_; cases h23 : (decide ((ByteArray.size p0 : Int) < 1))
 · have hF := bF' h23 hF; refine QV rfl ?_; exact join (decide (40 < (ByteArray.size p0 : Int))) _ _ hF sw
 have hF := bT' h23 hF; refine QV rfl ?_; exact join true _ _ hF sw
def tracebookref10_Thread (p0 : api_Thread) : Option Int :=
  (((bif (decide (p0.fId < 0)) then some true else (bif (decide (1000000000000000 < p0.fId)) then some true else (bif (decide (p0.fDomain < 0)) then some true else some (decide (8 ≤ p0.fDomain))))) : Option Bool).bind fun v1 => (bif v1 then some 2 else ((tracebookref06_Name p0.fName).bind fun r2 => some r2)))
theorem tracebookref10_Thread_fun (p0 : api_Thread) (r : Int) (hF : tracebookref10_Thread p0 = some r) : Fun Tryz.prog 86 true [] [.agg (m_api_Thread p0)] noHeap (cI r) noHeap := by
 refine Fun.of_walk0 Tryz.func86 c86 (by kernel_rfl) (rs := [.tmp 2]) (by kernel_rfl) ?_; unfold v86
 unfold tracebookref10_Thread at hF
 refine wA rfl ?_; refine W_seq ?_; refine W_seq ?_; refine W_join (fun _ _ h => h) hF (fun v1 => [(1, cP (1,0) 0), (20, cB v1)]) (fun v1 => [((1,0), .box (m_api_Thread p0))]) ?_ ?_
 · rintro v1 hF
   refine wIf hF rfl (fun _ hF => ?_) fun _ hF => ?_
   · refine wA rfl ?_; cases hF
     exact W_ret wR
   refine W_skip ?_; refine wC 2 rfl ?_; obtain ⟨r2, hr2, hF⟩ := bB hF
   refine rS (T_call (tracebookref06_Name_fun _ _ hr2) ⟨rfl, trivial⟩ rfl (.inl rfl) ?_); refine QV rfl ?_; cases hF
   exact W_ret wR
 intro join hF
 refine wD 4 rfl ?_; cases h4 : (decide (p0.fId < 0))
 · have hF := bF' h4 hF; refine Q_run SV 5 rfl ?_; cases h5 : (decide (1000000000000000 < p0.fId))
   · have hF := bF' h5 hF; refine Q_run SV 5 rfl ?_; cases h6 : (decide (p0.fDomain < 0))
     · have hF := bF' h6 hF; refine QV rfl ?_; exact join (decide (8 ≤ p0.fDomain)) _ _ hF sw
     have hF := bT' h6 hF; refine QV rfl ?_; exact join true _ _ hF sw
   have hF := bT' h5 hF; refine QV rfl ?_; exact join true _ _ hF sw
 have hF := bT' h4 hF; refine QV rfl ?_; exact join true _ _ hF sw
def tracebookref26_Precedes (p0 : api_Slice) (p1 : api_Slice) : Option Bool :=
  (bif (!decide (p0.fSpan.fFrom = p1.fSpan.fFrom)) then some (decide (p0.fSpan.fFrom < p1.fSpan.fFrom)) else (bif (!decide (p0.fSpan.fTo = p1.fSpan.fTo)) then some (decide (p1.fSpan.fTo < p0.fSpan.fTo)) else some (decide (p0.fThread < p1.fThread))))
theorem tracebookref26_Precedes_fun (p0 : api_Slice) (p1 : api_Slice) (r : Bool) (hF : tracebookref26_Precedes p0 p1 = some r) : Fun Tryz.prog 136 true [] [.agg (m_api_Slice p0), .agg (m_api_Slice p1)] noHeap (cB r) noHeap := by
 refine Fun.of_walk0 Tryz.func136 c136 (by kernel_rfl) (rs := [.tmp 4]) (by kernel_rfl) ?_; unfold v136
 unfold tracebookref26_Precedes at hF
 refine wA rfl ?_; refine W_seq ?_; refine W_block ?_; refine wA rfl ?_; refine wIf hF rfl (fun _ hF => ?_) fun _ hF => ?_
 · refine wA rfl ?_; cases hF
   exact W_ret wR
 refine wA rfl ?_; refine wIf hF rfl (fun _ hF => ?_) fun _ hF => ?_
 · refine wA rfl ?_; cases hF
   exact W_ret wR
 refine W_skip ?_; refine wA rfl ?_; cases hF
 exact W_ret wR
def tracebookref26_contains (p0 : api_Span) (p1 : api_Span) : Option Bool :=
  (((bif (decide (p0.fFrom ≤ p1.fFrom)) then some (decide (p1.fTo ≤ p0.fTo)) else some false) : Option Bool).bind fun v1 => some v1)
theorem tracebookref26_contains_fun (p0 : api_Span) (p1 : api_Span) (r : Bool) (hF : tracebookref26_contains p0 p1 = some r) : Fun Tryz.prog 149 true [] [.agg [jI p0.fFrom, jI p0.fTo], .agg [jI p1.fFrom, jI p1.fTo]] noHeap (cB r) noHeap := by
 refine Fun.of_walk0 Tryz.func149 c149 (by kernel_rfl) (rs := [.tmp 4]) (by kernel_rfl) ?_; unfold v149
 unfold tracebookref26_contains at hF
 refine wA rfl ?_; refine W_seq ?_; refine W_join (fun _ _ h => h) hF (fun v1 => [(4, cB v1)]) (fun v1 => []) ?_ ?_
 · rintro v1 hF
   cases hF
   exact W_ret wR
 intro join hF
 refine wD 6 rfl ?_; cases h2 : (decide (p0.fFrom ≤ p1.fFrom))
 · have hF := bF' h2 hF; refine QV rfl ?_; exact join false _ _ hF sw
 have hF := bT' h2 hF; refine QV rfl ?_; exact join (decide (p1.fTo ≤ p0.fTo)) _ _ hF sw
def tracebookref26_above_L1 (p0 : (List api_Slice)) (p1 : Int) : Int → Option (Int ⊕ Int) := fun a12 =>
  (((bif (decide (0 ≤ a12)) then some (decide (p1 < a12)) else some false) : Option Bool).bind fun v18 => (bif v18 then ((idx p0 a12).bind fun y19 => some (.inl y19.fParent)) else some (.inr a12)))
def tracebookref26_above (p0 : (List api_Slice)) (p1 : Int) (p2 : Int) : Option Bool :=
  ((loop (tracebookref26_above_L1 p0 p1) p2).bind fun e17 => some (decide (p1 = e17)))
theorem tracebookref26_above_fun (p0 : (List api_Slice)) (p1 : Int) (p2 : Int) (r : Bool) (hF : tracebookref26_above p0 p1 p2 = some r) : Fun Tryz.prog 150 true [] [cL 8 t_api_Slice p0, cI p1, cI p2] noHeap (cB r) noHeap := by
 refine Fun.of_walk0 Tryz.func150 c150 (by kernel_rfl) (rs := [.tmp 6]) (by kernel_rfl) ?_; unfold v150
 unfold tracebookref26_above at hF
 refine wA rfl ?_; refine W_seq ?_; refine W_for (fun _ _ h => h) hF (id) (fun a12 => [(0, cL 8 t_api_Slice p0), (1, cI p1), (2, cI a12)]) (fun a12 => []) (fun e17 => [(1, cI p1), (2, cI e17)]) (fun e17 => []) sw ?_ ?_
 · rintro e17 hF
   refine wA rfl ?_; cases hF
   exact W_ret wR
 rintro a12 x_0 hF cont_0 brk_0 fin_0
 unfold tracebookref26_above_L1 at hF
 refine W_seq ?_; refine W_seq ?_; refine W_join (fun _ _ h => h) hF (fun v18 => [(0, cL 8 t_api_Slice p0), (1, cI p1), (2, cI a12), (13, cB v18)]) (fun v18 => []) ?_ ?_
 · rintro v18 hF
   refine wIf hF rfl (fun _ hF => ?_) fun _ hF => ?_
   · refine W_skip ?_; refine W_block ?_; refine wD 2 rfl ?_; obtain ⟨y19, hy19, hF⟩ := bB hF
     refine rS (T_ixT (tc := t_api_Slice) p0 rfl rfl hy19 ?_); refine QV rfl ?_; exact cont_0 _ _ _ (oi hF) sw
   refine W_exit ?_; refine thenQ_exit ?_; refine thenQ_exit ?_; refine blockQ_hit ?_; exact brk_0 _ _ _ (oi hF) sw
 intro join hF
 refine wD 3 rfl ?_; cases h21 : (decide (0 ≤ a12))
 · have hF := bF' h21 hF; refine QV rfl ?_; exact join false _ _ hF sw
 have hF := bT' h21 hF; refine QV rfl ?_; exact join (decide (p1 < a12)) _ _ hF sw
def tracebookref26_formed_L1 (p0 : (List api_Slice)) (a259 : Int) : (Int × Int) → Option ((Int × Int) ⊕ (Int ⊕ (Int ⊕ (Unit ⊕ Bool)))) := fun (a402, a403) =>
  (bif (decide (a403 < (List.length p0 : Int))) then ((idx p0 a403).bind fun y427 => (((bif (decide (y427.fParent = a259)) then ((idx p0 a403).bind fun y443 => ((idx p0 a403).bind fun y444 => some (w64 (a402 - (w64 (y443.fSpan.fTo - y444.fSpan.fFrom)))))) else some a402) : Option Int).bind fun v428 => ((((idx p0 a259).bind fun y438 => ((idx p0 a403).bind fun y439 => (bif (decide (y438.fSpan.fFrom < y439.fSpan.fTo)) then ((idx p0 a403).bind fun y441 => ((idx p0 a259).bind fun y442 => some (decide (y441.fSpan.fFrom < y442.fSpan.fTo)))) else some false))) : Option Bool).bind fun v429 => (((bif (decide (a259 < a403)) then ((idx p0 a259).bind fun y433 => ((idx p0 a403).bind fun y434 => (bif (decide (y433.fThread = y434.fThread)) then (bif v429 then ((tracebookref26_above p0 a259 a403).bind fun r437 => some (!r437)) else some false) else some false))) else some false) : Option Bool).bind fun v430 => (bif v430 then some (.inr (.inr (.inr (.inr false)))) else some (.inl (v428, (w64 (a403 + 1))))))))) else some (.inr (.inl a402)))
def tracebookref26_formed_L2 (p0 : (List api_Slice)) : Int → Option (Int ⊕ (Unit ⊕ Bool)) := fun a259 =>
  (bif (decide (a259 < (List.length p0 : Int))) then ((idx p0 a259).bind fun y354 => ((idx p0 a259).bind fun y355 => ((loop (tracebookref26_formed_L1 p0 a259) ((w64 (y354.fSpan.fTo - y355.fSpan.fFrom)), 0)).bind fun | .inl e424 => ((idx p0 a259).bind fun y425 => (bif (!decide (y425.fSelf = e424)) then some (.inr (.inr false)) else some (.inl (w64 (a259 + 1))))) | .inr rv => some rv))) else some (.inr (.inl ())))
def tracebookref26_formed_L3 (p0 : (List api_Slice)) : Int → Option (Int ⊕ (Unit ⊕ Bool)) := fun a46 =>
  (bif (decide (a46 < (List.length p0 : Int))) then ((idx p0 a46).bind fun y448 => (((bif (decide (y448.fParent < (-1))) then some true else some (decide (a46 ≤ y448.fParent))) : Option Bool).bind fun v449 => (bif v449 then some (.inr (.inr false)) else (((bif (decide (y448.fParent = (-1))) then ((idx p0 a46).bind fun y465 => some (!decide (y465.fDepth = 0))) else some false) : Option Bool).bind fun v450 => (bif v450 then some (.inr (.inr false)) else (((bif (decide (0 ≤ y448.fParent)) then ((idx p0 y448.fParent).bind fun y454 => ((idx p0 a46).bind fun y455 => (bif (!decide (y454.fThread = y455.fThread)) then some true else ((idx p0 y448.fParent).bind fun y457 => ((idx p0 a46).bind fun y458 => ((tracebookref26_contains y457.fSpan y458.fSpan).bind fun r459 => (bif (!r459) then some true else ((idx p0 a46).bind fun y461 => ((idx p0 y448.fParent).bind fun y462 => some (!decide (y461.fDepth = (w64 (y462.fDepth + 1))))))))))))) else some false) : Option Bool).bind fun v451 => (bif v451 then some (.inr (.inr false)) else some (.inl (w64 (a46 + 1)))))))))) else some (.inr (.inl ())))
def tracebookref26_formed (p0 : (List api_Slice)) : Option Bool :=
  ((loop (tracebookref26_formed_L3 p0) 0).bind fun | .inl _ => ((loop (tracebookref26_formed_L2 p0) 0).bind fun | .inl _ => some true | .inr rv => some rv) | .inr rv => some rv)
theorem tracebookref26_formed_fun (p0 : (List api_Slice)) (r : Bool) (hF : tracebookref26_formed p0 = some r) : Fun Tryz.prog 137 true [] [cL 8 t_api_Slice p0] noHeap (cB r) noHeap := by
 refine Fun.of_walk0 Tryz.func137 c137 (by kernel_rfl) (rs := [.tmp 2]) (by kernel_rfl) ?_; unfold v137
 unfold tracebookref26_formed at hF
 refine wA rfl ?_; refine W_seq ?_; refine wA rfl ?_; refine W_for (fun _ _ h => h) hF (.inl) (fun a46 => [(0, cL 8 t_api_Slice p0), (3, cI a46)]) (fun a46 => []) (fun _ => [(0, cL 8 t_api_Slice p0)]) (fun _ => []) sw ?_ ?_
 · rintro ⟨⟩ hF
   refine W_seq ?_; refine wA rfl ?_; refine W_for (fun _ _ h => h) hF (.inl) (fun a259 => [(0, cL 8 t_api_Slice p0), (5, cI a259)]) (fun a259 => []) (fun _ => []) (fun _ => []) sw ?_ ?_
   · rintro ⟨⟩ hF
     refine wA rfl ?_; cases hF
     exact W_ret wR
   rintro a259 x_0 hF cont_0 brk_0 fin_0
   unfold tracebookref26_formed_L2 at hF
   refine W_seq ?_; refine wC 2 rfl ?_; refine rS (T_len (tc := t_api_Slice) p0 .tree ?_); refine QV rfl ?_; refine wIf hF rfl (fun _ hF => ?_) fun _ hF => ?_
   · refine W_skip ?_; refine W_seq ?_; refine W_block ?_; refine W_seq ?_; refine W_regD (by decide) (by kernel_rfl) rfl ?_; refine Q_run SP 2 rfl ?_; obtain ⟨y354, hy354, hF⟩ := bB hF
     refine R_step SP trivial (T_ixT (tc := t_api_Slice) p0 rfl rfl hy354 ?_); refine Q_run SP 5 rfl ?_; obtain ⟨y355, hy355, hF⟩ := bB hF
     refine R_step SP trivial (T_ixT (tc := t_api_Slice) p0 rfl rfl hy355 ?_); refine QP rfl ?_; refine W_seq ?_; refine wA rfl ?_; refine W_for (fun _ _ h => h) hF (.inl) (fun (a402, a403) => [(0, cL 8 t_api_Slice p0), (5, cI a259), (6, cI a402), (7, cI a403)]) (fun (a402, a403) => []) (fun e424 => [(0, cL 8 t_api_Slice p0), (5, cI a259), (6, cI e424)]) (fun e424 => []) sw ?_ ?_
     · rintro e424 hF
       refine wC 2 rfl ?_; obtain ⟨y425, hy425, hF⟩ := bB hF
       refine rS (T_ixT (tc := t_api_Slice) p0 rfl rfl hy425 ?_); refine QV rfl ?_; refine wIf hF rfl (fun _ hF => ?_) fun _ hF => ?_
       · refine wA rfl ?_; have hF := fin_0 _ (oi hF); cases hF
         exact W_ret wR
       refine W_skip ?_; refine wB rfl ?_; exact cont_0 _ _ _ (oi hF) sw
     rintro ⟨a402, a403⟩ x_1 hF cont_1 brk_1 fin_1
     unfold tracebookref26_formed_L1 at hF
     refine W_seq ?_; refine wC 2 rfl ?_; refine rS (T_len (tc := t_api_Slice) p0 .tree ?_); refine QV rfl ?_; refine wIf hF rfl (fun _ hF => ?_) fun _ hF => ?_
     · refine W_skip ?_; refine W_seq ?_; refine W_block ?_; refine W_seq ?_; refine wC 2 rfl ?_; obtain ⟨y427, hy427, hF⟩ := bB hF
       refine rS (T_ixT (tc := t_api_Slice) p0 rfl rfl hy427 ?_); refine QV rfl ?_; refine W_join (fun _ _ h => h) hF (fun v428 => [(0, cL 8 t_api_Slice p0), (5, cI a259), (6, cI v428), (7, cI a403)]) (fun v428 => []) ?_ ?_
       · rintro v428 hF
         refine W_seq ?_; refine W_join (fun _ _ h => h) hF (fun v429 => [(0, cL 8 t_api_Slice p0), (5, cI a259), (6, cI v428), (7, cI a403), (8, cB v429)]) (fun v429 => []) ?_ ?_
         · rintro v429 hF
           refine W_seq ?_; refine W_join (fun _ _ h => h) hF (fun v430 => [(0, cL 8 t_api_Slice p0), (5, cI a259), (6, cI v428), (7, cI a403), (180, cB v430)]) (fun v430 => []) ?_ ?_
           · rintro v430 hF
             refine wIf hF rfl (fun _ hF => ?_) fun _ hF => ?_
             · refine wA rfl ?_; have hF := fin_1 _ (oi hF); have hF := fin_0 _ (oi hF); cases hF
               exact W_ret wR
             refine W_skip ?_; refine wB rfl ?_; exact cont_1 _ _ _ (oi hF) sw
           intro join hF
           refine W_regD (by decide) (by kernel_rfl) rfl ?_; refine Q_run SP 4 rfl ?_; cases h432 : (decide (a259 < a403))
           · have hF := bF' h432 hF; refine QP rfl ?_; exact join false _ _ hF sw
           have hF := bT' h432 hF; refine Q_run SP 2 rfl ?_; obtain ⟨y433, hy433, hF⟩ := bB' hF
           refine R_step SP rfl (T_ixT (tc := t_api_Slice) p0 rfl rfl hy433 ?_); refine Q_run SP 4 rfl ?_; obtain ⟨y434, hy434, hF⟩ := bB' hF
           refine R_step SP rfl (T_ixT (tc := t_api_Slice) p0 rfl rfl hy434 ?_); refine Q_run SP 5 rfl ?_; cases h435 : (decide (y433.fThread = y434.fThread))
           · have hF := bF' h435 hF; refine QP rfl ?_; exact join false _ _ hF sw
           have hF := bT' h435 hF; refine Q_run SP 3 rfl ?_; cases h436 : v429
           · have hF := bF' h436 hF; refine QP rfl ?_; exact join false _ _ hF sw
           have hF := bT' h436 hF; refine Q_run SP 3 rfl ?_; obtain ⟨r437, hr437, hF⟩ := bB' hF
           refine R_step SP rfl (T_call (tracebookref26_above_fun _ _ _ _ hr437) ⟨rfl, rfl, rfl, trivial⟩ rfl (.inl rfl) ?_); refine QP rfl ?_; exact join (!r437) _ _ hF sw
         intro join hF
         refine W_regD (by decide) (by kernel_rfl) rfl ?_; refine Q_run SP 2 rfl ?_; obtain ⟨y438, hy438, hF⟩ := bB' hF
         refine R_step SP trivial (T_ixT (tc := t_api_Slice) p0 rfl rfl hy438 ?_); refine Q_run SP 5 rfl ?_; obtain ⟨y439, hy439, hF⟩ := bB' hF
         refine R_step SP trivial (T_ixT (tc := t_api_Slice) p0 rfl rfl hy439 ?_); refine Q_run SP 5 rfl ?_; cases h440 : (decide (y438.fSpan.fFrom < y439.fSpan.fTo))
         · have hF := bF' h440 hF; refine QP rfl ?_; exact join false _ _ hF sw
         have hF := bT' h440 hF; refine Q_run SP 2 rfl ?_; obtain ⟨y441, hy441, hF⟩ := bB' hF
         refine R_step SP rfl (T_ixT (tc := t_api_Slice) p0 rfl rfl hy441 ?_); refine Q_run SP 5 rfl ?_; obtain ⟨y442, hy442, hF⟩ := bB' hF
         refine R_step SP rfl (T_ixT (tc := t_api_Slice) p0 rfl rfl hy442 ?_); refine QP rfl ?_; exact join (decide (y441.fSpan.fFrom < y442.fSpan.fTo)) _ _ hF sw
       intro join hF
       refine wIf' hF rfl (fun _ hF => ?_) fun _ hF => ?_
       · refine W_regD (by decide) (by kernel_rfl) rfl ?_; refine Q_run SP 3 rfl ?_; obtain ⟨y443, hy443, hF⟩ := bB' hF
         refine R_step SP trivial (T_ixT (tc := t_api_Slice) p0 rfl rfl hy443 ?_); refine Q_run SP 5 rfl ?_; obtain ⟨y444, hy444, hF⟩ := bB' hF
         refine R_step SP trivial (T_ixT (tc := t_api_Slice) p0 rfl rfl hy444 ?_); refine QP rfl ?_; exact join (w64 (a402 - (w64 (y443.fSpan.fTo - y444.fSpan.fFrom)))) _ _ hF sw
       refine W_skip ?_; exact join a402 _ _ hF sw
     refine W_exit ?_; refine thenQ_exit ?_; refine thenQ_exit ?_; refine blockQ_hit ?_; exact brk_1 _ _ _ (oi hF) sw
   refine W_exit ?_; refine thenQ_exit ?_; refine thenQ_exit ?_; refine blockQ_hit ?_; exact brk_0 _ _ _ (oi hF) sw
 rintro a46 x_0 hF cont_0 brk_0 fin_0
 unfold tracebookref26_formed_L3 at hF
 refine W_seq ?_; refine wC 2 rfl ?_; refine rS (T_len (tc := t_api_Slice) p0 .tree ?_); refine QV rfl ?_; refine wIf hF rfl (fun _ hF => ?_) fun _ hF => ?_
 · refine W_skip ?_; refine W_seq ?_; refine W_block ?_; refine wC 2 rfl ?_; obtain ⟨y448, hy448, hF⟩ := bB hF
   refine rS (T_ixT (tc := t_api_Slice) p0 rfl rfl hy448 ?_); refine QV rfl ?_; refine W_seq ?_; refine W_seq ?_; refine W_join (fun _ _ h => h) hF (fun v449 => [(0, cL 8 t_api_Slice p0), (3, cI a46), (4, cI y448.fParent), (26, cB v449)]) (fun v449 => []) ?_ ?_
   · rintro v449 hF
     refine wIf hF rfl (fun _ hF => ?_) fun _ hF => ?_
     · refine wA rfl ?_; have hF := fin_0 _ (oi hF); cases hF
       exact W_ret wR
     refine W_skip ?_; refine W_seq ?_; refine W_seq ?_; refine W_join (fun _ _ h => h) hF (fun v450 => [(0, cL 8 t_api_Slice p0), (3, cI a46), (4, cI y448.fParent), (36, cB v450)]) (fun v450 => []) ?_ ?_
     · rintro v450 hF
       refine wIf hF rfl (fun _ hF => ?_) fun _ hF => ?_
       · refine wA rfl ?_; have hF := fin_0 _ (oi hF); cases hF
         exact W_ret wR
       refine W_skip ?_; refine W_seq ?_; refine W_join (fun _ _ h => h) hF (fun v451 => [(0, cL 8 t_api_Slice p0), (3, cI a46), (79, cB v451)]) (fun v451 => []) ?_ ?_
       · rintro v451 hF
         refine wIf hF rfl (fun _ hF => ?_) fun _ hF => ?_
         · refine wA rfl ?_; have hF := fin_0 _ (oi hF); cases hF
           exact W_ret wR
         refine W_skip ?_; refine wB rfl ?_; exact cont_0 _ _ _ (oi hF) sw
       intro join hF
       refine W_regD (by decide) (by kernel_rfl) rfl ?_; refine Q_run SP 3 rfl ?_; cases h453 : (decide (0 ≤ y448.fParent))
       · have hF := bF' h453 hF; refine QP rfl ?_; exact join false _ _ hF sw
       have hF := bT' h453 hF; refine Q_run SP 2 rfl ?_; obtain ⟨y454, hy454, hF⟩ := bB' hF
       refine R_step SP rfl (T_ixT (tc := t_api_Slice) p0 rfl rfl hy454 ?_); refine Q_run SP 4 rfl ?_; obtain ⟨y455, hy455, hF⟩ := bB' hF
       refine R_step SP rfl (T_ixT (tc := t_api_Slice) p0 rfl rfl hy455 ?_); refine Q_run SP 4 rfl ?_; cases h456 : (!decide (y454.fThread = y455.fThread))
       · have hF := bF' h456 hF; refine Q_run SP 2 rfl ?_; obtain ⟨y457, hy457, hF⟩ := bB' hF
         refine R_step SP rfl (T_ixT (tc := t_api_Slice) p0 rfl rfl hy457 ?_); refine Q_run SP 4 rfl ?_; obtain ⟨y458, hy458, hF⟩ := bB' hF
         refine R_step SP rfl (T_ixT (tc := t_api_Slice) p0 rfl rfl hy458 ?_); refine Q_run SP 2 rfl ?_; obtain ⟨r459, hr459, hF⟩ := bB' hF
         refine R_step SP rfl (T_call (tracebookref26_contains_fun _ _ _ hr459) ⟨⟨rfl, rfl, trivial⟩, ⟨rfl, rfl, trivial⟩, trivial⟩ rfl (.inl rfl) ?_); refine Q_run SP 3 rfl ?_; cases h460 : (!r459)
         · have hF := bF' h460 hF; refine Q_run SP 2 rfl ?_; obtain ⟨y461, hy461, hF⟩ := bB' hF
           refine R_step SP rfl (T_ixT (tc := t_api_Slice) p0 rfl rfl hy461 ?_); refine Q_run SP 4 rfl ?_; obtain ⟨y462, hy462, hF⟩ := bB' hF
           refine R_step SP rfl (T_ixT (tc := t_api_Slice) p0 rfl rfl hy462 ?_); refine QP rfl ?_; exact join (!decide (y461.fDepth = (w64 (y462.fDepth + 1)))) _ _ hF sw
         have hF := bT' h460 hF; refine QP rfl ?_; exact join true _ _ hF sw
       have hF := bT' h456 hF; refine QP rfl ?_; exact join true _ _ hF sw
     intro join hF
     refine wD 3 rfl ?_; cases h464 : (decide (y448.fParent = (-1)))
     · have hF := bF' h464 hF; refine QV rfl ?_; exact join false _ _ hF sw
     have hF := bT' h464 hF; refine Q_run SV 2 rfl ?_; obtain ⟨y465, hy465, hF⟩ := bB' hF
     refine R_step SV rfl (T_ixT (tc := t_api_Slice) p0 rfl rfl hy465 ?_); refine QV rfl ?_; exact join (!decide (y465.fDepth = 0)) _ _ hF sw
   intro join hF
   refine wD 3 rfl ?_; cases h467 : (decide (y448.fParent < (-1)))
   · have hF := bF' h467 hF; refine QV rfl ?_; exact join (decide (a46 ≤ y448.fParent)) _ _ hF sw
   have hF := bT' h467 hF; refine QV rfl ?_; exact join true _ _ hF sw
 refine W_exit ?_; refine thenQ_exit ?_; refine thenQ_exit ?_; refine blockQ_hit ?_; exact brk_0 _ _ _ (oi hF) sw
def tracebookref26_Check_L1 (p0 : (List api_Slice)) : Int → Option (Int ⊕ (Unit ⊕ Int)) := fun a40 =>
  (bif (decide (a40 < (List.length p0 : Int))) then ((((idx p0 a40).bind fun y72 => (bif (decide (y72.fThread < 0)) then some true else ((idx p0 a40).bind fun y74 => (bif (decide (1000000000000000 < y74.fThread)) then some true else ((idx p0 a40).bind fun y76 => ((tracebookref04_Valid y76.fSpan).bind fun r77 => some (!r77))))))) : Option Bool).bind fun v61 => (bif v61 then some (.inr (.inr 2)) else ((idx p0 a40).bind fun y62 => ((tracebookref06_Name y62.fName).bind fun r63 => (bif (!decide (r63 = 0)) then some (.inr (.inr r63)) else (((bif (decide (0 < a40)) then ((idx p0 a40).bind fun y67 => ((idx p0 (w64 (a40 - 1))).bind fun y68 => ((tracebookref26_Precedes y67 y68).bind fun r69 => some r69))) else some false) : Option Bool).bind fun v64 => (bif v64 then some (.inr (.inr 11)) else some (.inl (w64 (a40 + 1)))))))))) else some (.inr (.inl ())))
def tracebookref26_Check (p0 : (List api_Slice)) : Option Int :=
  ((loop (tracebookref26_Check_L1 p0) 0).bind fun | .inl _ => ((tracebookref26_formed p0).bind fun r59 => (bif (!r59) then some 10 else some 0)) | .inr rv => some rv)
theorem tracebookref26_Check_fun (p0 : (List api_Slice)) (r : Int) (hF : tracebookref26_Check p0 = some r) : Fun Tryz.prog 119 true [] [cL 8 t_api_Slice p0] noHeap (cI r) noHeap := by
 refine Fun.of_walk0 Tryz.func119 c119 (by kernel_rfl) (rs := [.tmp 2]) (by kernel_rfl) ?_; unfold v119
 unfold tracebookref26_Check at hF
 refine wA rfl ?_; refine W_seq ?_; refine wA rfl ?_; refine W_for (fun _ _ h => h) hF (.inl) (fun a40 => [(0, cL 8 t_api_Slice p0), (3, cI a40)]) (fun a40 => []) (fun _ => [(0, cL 8 t_api_Slice p0)]) (fun _ => []) sw ?_ ?_
 · rintro ⟨⟩ hF
   refine W_seq ?_; refine wC 1 rfl ?_; obtain ⟨r59, hr59, hF⟩ := bB hF
   refine rS (T_call (tracebookref26_formed_fun _ _ hr59) ⟨rfl, trivial⟩ rfl (.inl rfl) ?_); refine QV rfl ?_; refine wIf hF rfl (fun _ hF => ?_) fun _ hF => ?_
   · refine wA rfl ?_; cases hF
     exact W_ret wR
   refine W_skip ?_; refine wA rfl ?_; cases hF
   exact W_ret wR
 rintro a40 x_0 hF cont_0 brk_0 fin_0
 unfold tracebookref26_Check_L1 at hF
 refine W_seq ?_; refine wC 2 rfl ?_; refine rS (T_len (tc := t_api_Slice) p0 .tree ?_); refine QV rfl ?_; refine wIf hF rfl (fun _ hF => ?_) fun _ hF => ?_
 · refine W_skip ?_; refine W_seq ?_; refine W_block ?_; refine W_seq ?_; refine W_seq ?_; refine W_join (fun _ _ h => h) hF (fun v61 => [(0, cL 8 t_api_Slice p0), (3, cI a40), (33, cB v61)]) (fun v61 => []) ?_ ?_
   · rintro v61 hF
     refine wIf hF rfl (fun _ hF => ?_) fun _ hF => ?_
     · refine wA rfl ?_; have hF := fin_0 _ (oi hF); cases hF
       exact W_ret wR
     refine W_skip ?_; refine wC 2 rfl ?_; obtain ⟨y62, hy62, hF⟩ := bB hF
     refine rS (T_ixT (tc := t_api_Slice) p0 rfl rfl hy62 ?_); refine Q_run SV 2 rfl ?_; obtain ⟨r63, hr63, hF⟩ := bB hF
     refine rS (T_call (tracebookref06_Name_fun _ _ hr63) ⟨rfl, trivial⟩ rfl (.inl rfl) ?_); refine QV rfl ?_; refine W_seq ?_; refine wA rfl ?_; refine wIf hF rfl (fun _ hF => ?_) fun _ hF => ?_
     · refine wA rfl ?_; have hF := fin_0 _ (oi hF); cases hF
       exact W_ret wR
     refine W_skip ?_; refine W_seq ?_; refine W_join (fun _ _ h => h) hF (fun v64 => [(0, cL 8 t_api_Slice p0), (3, cI a40), (56, cB v64)]) (fun v64 => []) ?_ ?_
     · rintro v64 hF
       refine wIf hF rfl (fun _ hF => ?_) fun _ hF => ?_
       · refine wA rfl ?_; have hF := fin_0 _ (oi hF); cases hF
         exact W_ret wR
       refine W_skip ?_; refine wB rfl ?_; exact cont_0 _ _ _ (oi hF) sw
     intro join hF
     refine W_regD (by decide) (by kernel_rfl) rfl ?_; refine Q_run SP 3 rfl ?_; cases h66 : (decide (0 < a40))
     · have hF := bF' h66 hF; refine QP rfl ?_; exact join false _ _ hF sw
     have hF := bT' h66 hF; refine Q_run SP 2 rfl ?_; obtain ⟨y67, hy67, hF⟩ := bB' hF
     refine R_step SP rfl (T_ixT (tc := t_api_Slice) p0 rfl rfl hy67 ?_); refine Q_run SP 4 rfl ?_; obtain ⟨y68, hy68, hF⟩ := bB' hF
     refine R_step SP rfl (T_ixT (tc := t_api_Slice) p0 rfl rfl hy68 ?_); refine Q_run SP 1 rfl ?_; obtain ⟨r69, hr69, hF⟩ := bB' hF
     refine R_step SP rfl (T_call (tracebookref26_Precedes_fun _ _ _ hr69) ⟨⟨rfl, rfl, rfl, rfl, rfl, rfl, rfl, rfl, trivial⟩, ⟨rfl, rfl, rfl, rfl, rfl, rfl, rfl, rfl, trivial⟩, trivial⟩ rfl (.inl rfl) ?_)
     refine QP rfl ?_; exact join r69 _ _ hF sw
   intro join hF
   refine wD 2 rfl ?_; obtain ⟨y72, hy72, hF⟩ := bB' hF
   refine rS (T_ixT (tc := t_api_Slice) p0 rfl rfl hy72 ?_); refine Q_run SV 4 rfl ?_; cases h73 : (decide (y72.fThread < 0))
   · have hF := bF' h73 hF; refine Q_run SV 2 rfl ?_; obtain ⟨y74, hy74, hF⟩ := bB' hF
     refine R_step SV rfl (T_ixT (tc := t_api_Slice) p0 rfl rfl hy74 ?_); refine Q_run SV 5 rfl ?_; cases h75 : (decide (1000000000000000 < y74.fThread))
     · have hF := bF' h75 hF; refine Q_run SV 2 rfl ?_; obtain ⟨y76, hy76, hF⟩ := bB' hF
       refine R_step SV rfl (T_ixT (tc := t_api_Slice) p0 rfl rfl hy76 ?_); refine Q_run SV 2 rfl ?_; obtain ⟨r77, hr77, hF⟩ := bB' hF
       refine R_step SV rfl (T_call (tracebookref04_Valid_fun _ _ hr77) ⟨⟨rfl, rfl, trivial⟩, trivial⟩ rfl (.inl rfl) ?_); refine QV rfl ?_; exact join (!r77) _ _ hF sw
     have hF := bT' h75 hF; refine QV rfl ?_; exact join true _ _ hF sw
   have hF := bT' h73 hF; refine QV rfl ?_; exact join true _ _ hF sw
 refine W_exit ?_; refine thenQ_exit ?_; refine thenQ_exit ?_; refine blockQ_hit ?_; exact brk_0 _ _ _ (oi hF) sw
def tracebookref32_Has_L1 (p0 : api_Trace) (p1 : Int) : Int → Option (Int ⊕ (Unit ⊕ Bool)) := fun a10 =>
  (bif (decide (a10 < (List.length p0.fThreads : Int))) then ((idx p0.fThreads a10).bind fun y14 => (bif (decide (y14.fId = p1)) then some (.inr (.inr true)) else some (.inl (w64 (a10 + 1))))) else some (.inr (.inl ())))
def tracebookref32_Has (p0 : api_Trace) (p1 : Int) : Option Bool :=
  ((loop (tracebookref32_Has_L1 p0 p1) 0).bind fun | .inl _ => some false | .inr rv => some rv)
theorem tracebookref32_Has_fun (p0 : api_Trace) (p1 : Int) (r : Bool) (hF : tracebookref32_Has p0 p1 = some r) : Fun Tryz.prog 39 true [] [.agg (m_api_Trace p0), cI p1] noHeap (cB r) noHeap := by
 refine Fun.of_walk0 Tryz.func39 c39 (by kernel_rfl) (rs := [.tmp 4]) (by kernel_rfl) ?_; unfold v39
 unfold tracebookref32_Has at hF
 refine wA rfl ?_; refine W_seq ?_; refine wA rfl ?_; refine W_for (fun _ _ h => h) hF (.inl) (fun a10 => [(1, cI p1), (2, cP (2,0) 0), (5, cI a10)]) (fun a10 => [((2,0), .box (m_api_Trace p0))]) (fun _ => []) (fun _ => []) sw ?_ ?_
 · rintro ⟨⟩ hF
   refine wA rfl ?_; cases hF
   exact W_ret wR
 rintro a10 x_0 hF cont_0 brk_0 fin_0
 unfold tracebookref32_Has_L1 at hF
 refine W_seq ?_; refine wC 3 rfl ?_; refine rS (T_len (tc := t_api_Thread) p0.fThreads .tree ?_); refine QV rfl ?_; refine wIf hF rfl (fun _ hF => ?_) fun _ hF => ?_
 · refine W_skip ?_; refine W_seq ?_; refine W_block ?_; refine wC 3 rfl ?_; obtain ⟨y14, hy14, hF⟩ := bB hF
   refine rS (T_ixT (tc := t_api_Thread) p0.fThreads rfl rfl hy14 ?_); refine QV rfl ?_; refine wIf hF rfl (fun _ hF => ?_) fun _ hF => ?_
   · refine wA rfl ?_; have hF := fin_0 _ (oi hF); cases hF
     exact W_ret wR
   refine W_skip ?_; refine wB rfl ?_; exact cont_0 _ _ _ (oi hF) sw
 refine W_exit ?_; refine thenQ_exit ?_; refine thenQ_exit ?_; refine blockQ_hit ?_; exact brk_0 _ _ _ (oi hF) sw
def tracebookref27_index_L1 (p0 : (List api_Thread)) (p1 : Int) : Int → Option (Int ⊕ (Unit ⊕ Int)) := fun a10 =>
  (bif (decide (a10 < (List.length p0 : Int))) then ((idx p0 a10).bind fun y14 => (bif (decide (y14.fId = p1)) then some (.inr (.inr a10)) else some (.inl (w64 (a10 + 1))))) else some (.inr (.inl ())))
def tracebookref27_index (p0 : (List api_Thread)) (p1 : Int) : Option Int :=
  ((loop (tracebookref27_index_L1 p0 p1) 0).bind fun | .inl _ => some (-1) | .inr rv => some rv)
theorem tracebookref27_index_fun (p0 : (List api_Thread)) (p1 : Int) (r : Int) (hF : tracebookref27_index p0 p1 = some r) : Fun Tryz.prog 139 true [] [cL 3 t_api_Thread p0, cI p1] noHeap (cI r) noHeap := by
 refine Fun.of_walk0 Tryz.func139 c139 (by kernel_rfl) (rs := [.tmp 4]) (by kernel_rfl) ?_; unfold v139
 unfold tracebookref27_index at hF
 refine wA rfl ?_; refine W_seq ?_; refine wA rfl ?_; refine W_for (fun _ _ h => h) hF (.inl) (fun a10 => [(0, cL 3 t_api_Thread p0), (1, cI p1), (5, cI a10)]) (fun a10 => []) (fun _ => []) (fun _ => []) sw ?_ ?_
 · rintro ⟨⟩ hF
   refine wA rfl ?_; cases hF
   exact W_ret wR
 rintro a10 x_0 hF cont_0 brk_0 fin_0
 unfold tracebookref27_index_L1 at hF
 refine W_seq ?_; refine wC 2 rfl ?_; refine rS (T_len (tc := t_api_Thread) p0 .tree ?_); refine QV rfl ?_; refine wIf hF rfl (fun _ hF => ?_) fun _ hF => ?_
 · refine W_skip ?_; refine W_seq ?_; refine W_block ?_; refine wC 2 rfl ?_; obtain ⟨y14, hy14, hF⟩ := bB hF
   refine rS (T_ixT (tc := t_api_Thread) p0 rfl rfl hy14 ?_); refine QV rfl ?_; refine wIf hF rfl (fun _ hF => ?_) fun _ hF => ?_
   · refine wA rfl ?_; have hF := fin_0 _ (oi hF); cases hF
     exact W_ret wR
   refine W_skip ?_; refine wB rfl ?_; exact cont_0 _ _ _ (oi hF) sw
 refine W_exit ?_; refine thenQ_exit ?_; refine thenQ_exit ?_; refine blockQ_hit ?_; exact brk_0 _ _ _ (oi hF) sw
def tracebookref27_distinct_L1 (p0 : (List api_Thread)) : ((List api_Thread) × Int) → Option (((List api_Thread) × Int) ⊕ (List api_Thread)) := fun (a21, a22) =>
  (bif (decide (a22 < (List.length p0 : Int))) then ((((idx p0 a22).bind fun y32 => ((tracebookref27_index a21 y32.fId).bind fun r33 => (bif (decide (r33 < 0)) then ((idx p0 a22).bind fun y34 => (bif room 32 (List.length a21 + List.length [y34]) then some (a21 ++ [y34]) else none)) else some a21))) : Option (List api_Thread)).bind fun v31 => some (.inl (v31, (w64 (a22 + 1))))) else some (.inr a21))
def tracebookref27_distinct (p0 : (List api_Thread)) : Option (List api_Thread) :=
  ((loop (tracebookref27_distinct_L1 p0) ([], 0)).bind fun e30 => some e30)
theorem tracebookref27_distinct_fun (p0 : (List api_Thread)) (r : (List api_Thread)) (hF : tracebookref27_distinct p0 = some r) : Fun Tryz.prog 138 false [] [cL 3 t_api_Thread p0] (heapOf []) (cO (902,5520)) (heapOf [((902,5520), .arr 74 3 (List.map t_api_Thread r))]) := by
 refine Fun.of_walkM [] (some []) Tryz.func138 c138 (by kernel_rfl) (rs := [.tmp 2]) (by kernel_rfl) rfl rfl rfl ?_; unfold v138
 unfold tracebookref27_distinct at hF
 refine wA rfl ?_; refine wA rfl ?_; refine W_seq ?_; refine wA rfl ?_; refine W_for (fun _ _ h => h) hF (id) (fun (a21, a22) => [(0, cL 3 t_api_Thread p0), (3, cO (25,1)), (4, cI a22)]) (fun (a21, a22) => [((25,1), .arr 74 3 (List.map t_api_Thread a21))]) (fun e30 => [(3, cO (25,1))]) (fun e30 => [((25,1), .arr 74 3 (List.map t_api_Thread e30))]) (S_own 3 (25,1) 74 3 rfl rfl rfl rfl sw) ?_ ?_
 · rintro e30 hF
   refine wA rfl ?_; cases hF
   exact W_ret ⟨_, _, (S_ren (25,1) (902,5520) rfl rfl S_refl), _, rfl, rfl, rfl, (AgM.weak ⟨rfl, trivial⟩)⟩
 rintro ⟨a21, a22⟩ x_0 hF cont_0 brk_0 fin_0
 unfold tracebookref27_distinct_L1 at hF
 refine W_seq ?_; refine wC 2 rfl ?_; refine rS (T_len (tc := t_api_Thread) p0 .tree ?_); refine QV rfl ?_; refine wIf hF rfl (fun _ hF => ?_) fun _ hF => ?_
 · refine W_skip ?_; refine W_seq ?_; refine W_join (fun _ _ h => h) hF (fun v31 => [(0, cL 3 t_api_Thread p0), (3, cO (25,1)), (4, cI a22)]) (fun v31 => [((25,1), .arr 74 3 (List.map t_api_Thread v31))]) ?_ ?_
   · rintro v31 hF
     refine wB rfl ?_; exact cont_0 _ _ _ (oi hF) sw
   intro join hF
   refine W_block ?_; refine wC 3 rfl ?_; obtain ⟨y32, hy32, hF⟩ := bB' hF
   refine rS (T_ixT (tc := t_api_Thread) p0 rfl rfl hy32 ?_); refine Q_run SV 2 rfl ?_; obtain ⟨r33, hr33, hF⟩ := bB' hF
   refine rS (T_call (tracebookref27_index_fun _ _ _ hr33) ⟨⟨_, rfl⟩, rfl, trivial⟩ rfl (.inl rfl) ?_); refine QV rfl ?_; refine wIf' hF rfl (fun _ hF => ?_) fun _ hF => ?_
   · refine wD 3 rfl ?_; obtain ⟨y34, hy34, hF⟩ := bB' hF
     refine rS (T_ixT (tc := t_api_Thread) p0 rfl rfl hy34 ?_); refine Q_run SV 1 rfl ?_; refine rS (T_bsl (tc := t_api_Thread) [y34] rfl ⟨rfl, rfl, rfl, trivial⟩ rfl (fun _ => rfl) rfl ?_)
     obtain ⟨h35, hF⟩ := roomT' hF
     refine rS (T_appO (tc := t_api_Thread) a21 [y34] rfl rfl (.own _ _ rfl) h35 rfl ?_); refine QV rfl ?_; exact join (a21 ++ [y34]) _ _ hF (S_ren (25,0) (25,1) rfl rfl sw)
   refine W_skip ?_; exact join a21 _ _ hF sw
 refine W_exit ?_; refine thenQ_exit ?_; refine thenQ_exit ?_; refine blockQ_hit ?_; exact brk_0 _ _ _ (oi hF) sw
def tracebookref27_right (p0 : api_State) : Option Bool :=
  (((bif (decide (p0.fState < 0)) then some true else some (decide (5 < p0.fState))) : Option Bool).bind fun v1 => (bif v1 then some false else (((bif (decide (p0.fState = 4)) then (bif (decide (p0.fCpu < 0)) then some true else (bif (decide (63 < p0.fCpu)) then some true else (bif (!decide (p0.fState = 4)) then some (!decide (p0.fCpu = (-1))) else some false))) else (bif (!decide (p0.fState = 4)) then some (!decide (p0.fCpu = (-1))) else some false)) : Option Bool).bind fun v2 => (bif v2 then some false else (((bif (decide (p0.fState = 2)) then (bif (decide (p0.fOn < 0)) then some true else (bif (decide (1000000000000000 < p0.fOn)) then some true else (bif (!decide (p0.fState = 2)) then some (!decide (p0.fOn = (-1))) else some false))) else (bif (!decide (p0.fState = 2)) then some (!decide (p0.fOn = (-1))) else some false)) : Option Bool).bind fun v3 => (bif v3 then some false else (((bif (decide (p0.fBy = (-1))) then some true else (bif (decide (0 ≤ p0.fBy)) then (bif (decide (p0.fBy ≤ 1000000000000000)) then (bif (decide (p0.fState = 1)) then some true else some (decide (p0.fState = 2))) else some false) else some false)) : Option Bool).bind fun v4 => some v4)))))))
theorem tracebookref27_right_fun (p0 : api_State) (r : Bool) (hF : tracebookref27_right p0 = some r) : Fun Tryz.prog 140 true [] [.agg (m_api_State p0)] noHeap (cB r) noHeap := by
 refine Fun.of_walk0 Tryz.func140 c140 (by kernel_rfl) (rs := [.tmp 2]) (by kernel_rfl) ?_; unfold v140
 unfold tracebookref27_right at hF
 refine wA rfl ?_; refine W_seq ?_; refine W_seq ?_; refine W_join (fun _ _ h => h) hF (fun v1 => [(1, cP (1,0) 0), (10, cB v1)]) (fun v1 => [((1,0), .box (m_api_State p0))]) ?_ ?_
 · rintro v1 hF
   refine wIf hF rfl (fun _ hF => ?_) fun _ hF => ?_
   · refine wA rfl ?_; cases hF
     exact W_ret wR
   refine W_skip ?_; refine W_seq ?_; refine W_seq ?_; refine W_join (fun _ _ h => h) hF (fun v2 => [(1, cP (1,0) 0), (33, cB v2)]) (fun v2 => [((1,0), .box (m_api_State p0))]) ?_ ?_
   · rintro v2 hF
     refine wIf hF rfl (fun _ hF => ?_) fun _ hF => ?_
     · refine wA rfl ?_; cases hF
       exact W_ret wR
     refine W_skip ?_; refine W_seq ?_; refine W_seq ?_; refine W_join (fun _ _ h => h) hF (fun v3 => [(1, cP (1,0) 0), (56, cB v3)]) (fun v3 => [((1,0), .box (m_api_State p0))]) ?_ ?_
     · rintro v3 hF
       refine wIf hF rfl (fun _ hF => ?_) fun _ hF => ?_
       · refine wA rfl ?_; cases hF
         exact W_ret wR
       refine W_skip ?_; refine W_seq ?_; refine W_join (fun _ _ h => h) hF (fun v4 => [(2, cB v4)]) (fun v4 => []) ?_ ?_
       · rintro v4 hF
         cases hF
         exact W_ret wR
       intro join hF
       refine wD 4 rfl ?_; cases h5 : (decide (p0.fBy = (-1)))
       · have hF := bF' h5 hF; refine Q_run SV 4 rfl ?_; cases h6 : (decide (0 ≤ p0.fBy))
         · have hF := bF' h6 hF; refine QV rfl ?_; exact join false _ _ hF sw
         have hF := bT' h6 hF; refine Q_run SV 5 rfl ?_; cases h7 : (decide (p0.fBy ≤ 1000000000000000))
         · have hF := bF' h7 hF; refine QV rfl ?_; exact join false _ _ hF sw
         have hF := bT' h7 hF; refine Q_run SV 4 rfl ?_; cases h8 : (decide (p0.fState = 1))
         · have hF := bF' h8 hF; refine QV rfl ?_; exact join (decide (p0.fState = 2)) _ _ hF sw
         have hF := bT' h8 hF; refine QV rfl ?_; exact join true _ _ hF sw
       have hF := bT' h5 hF; refine QV rfl ?_; exact join true _ _ hF sw
     intro join hF
     refine wD 4 rfl ?_; cases h10 : (decide (p0.fState = 2))
     · have hF := bF' h10 hF; refine Q_run SV 14 rfl ?_; cases h11 : (!decide (p0.fState = 2))
       · have hF := bF' h11 hF; refine QV rfl ?_; exact join false _ _ hF sw
       have hF := bT' h11 hF; refine QV rfl ?_; exact join (!decide (p0.fOn = (-1))) _ _ hF sw
     have hF := bT' h10 hF; refine Q_run SV 4 rfl ?_; cases h12 : (decide (p0.fOn < 0))
     · have hF := bF' h12 hF; refine Q_run SV 6 rfl ?_; cases h13 : (decide (1000000000000000 < p0.fOn))
       · have hF := bF' h13 hF; refine Q_run SV 4 rfl ?_; cases h14 : (!decide (p0.fState = 2))
         · have hF := bF' h14 hF; refine QV rfl ?_; exact join false _ _ hF sw
         have hF := bT' h14 hF; refine QV rfl ?_; exact join (!decide (p0.fOn = (-1))) _ _ hF sw
       have hF := bT' h13 hF; refine QV rfl ?_; exact join true _ _ hF sw
     have hF := bT' h12 hF; refine QV rfl ?_; exact join true _ _ hF sw
   intro join hF
   refine wD 4 rfl ?_; cases h16 : (decide (p0.fState = 4))
   · have hF := bF' h16 hF; refine Q_run SV 14 rfl ?_; cases h17 : (!decide (p0.fState = 4))
     · have hF := bF' h17 hF; refine QV rfl ?_; exact join false _ _ hF sw
     have hF := bT' h17 hF; refine QV rfl ?_; exact join (!decide (p0.fCpu = (-1))) _ _ hF sw
   have hF := bT' h16 hF; refine Q_run SV 4 rfl ?_; cases h18 : (decide (p0.fCpu < 0))
   · have hF := bF' h18 hF; refine Q_run SV 6 rfl ?_; cases h19 : (decide (63 < p0.fCpu))
     · have hF := bF' h19 hF; refine Q_run SV 4 rfl ?_; cases h20 : (!decide (p0.fState = 4))
       · have hF := bF' h20 hF; refine QV rfl ?_; exact join false _ _ hF sw
       have hF := bT' h20 hF; refine QV rfl ?_; exact join (!decide (p0.fCpu = (-1))) _ _ hF sw
     have hF := bT' h19 hF; refine QV rfl ?_; exact join true _ _ hF sw
   have hF := bT' h18 hF; refine QV rfl ?_; exact join true _ _ hF sw
 intro join hF
 refine wD 4 rfl ?_; cases h22 : (decide (p0.fState < 0))
 · have hF := bF' h22 hF; refine QV rfl ?_; exact join (decide (5 < p0.fState)) _ _ hF sw
 have hF := bT' h22 hF; refine QV rfl ?_; exact join true _ _ hF sw
def tracebookref27_Check_L1 (p1 : (List api_State)) : Int → Option (Int ⊕ (Unit ⊕ Int)) := fun a117 =>
  (bif (decide (a117 < (List.length p1 : Int))) then ((((idx p1 a117).bind fun y128 => ((idx p1 (w64 (a117 - 1))).bind fun y129 => (bif (!decide (y128.fThread = y129.fThread)) then ((idx p1 (w64 (a117 - 1))).bind fun y131 => ((idx p1 (w64 ((List.length p1 : Int) - 1))).bind fun y132 => some (!decide (y131.fSpan.fTo = y132.fSpan.fTo)))) else some false))) : Option Bool).bind fun v126 => (bif v126 then some (.inr (.inr 11)) else some (.inl (w64 (a117 + 1))))) else some (.inr (.inl ())))
def tracebookref27_Check_L2 (p1 : (List api_State)) (r1 : (List api_Thread)) : (Int × Int) → Option ((Int × Int) ⊕ (Int ⊕ Int)) := fun (a66, a67) =>
  (bif (decide (a67 < (List.length p1 : Int))) then ((idx p1 a67).bind fun y135 => ((tracebookref27_index r1 y135.fThread).bind fun r136 => (bif (decide (r136 < 0)) then some (.inr (.inr 5)) else ((idx p1 a67).bind fun y137 => ((tracebookref04_Valid y137.fSpan).bind fun r138 => (bif (!r138) then some (.inr (.inr 2)) else ((idx p1 a67).bind fun y139 => ((tracebookref27_right y139).bind fun r140 => (bif (!r140) then some (.inr (.inr 1)) else (((bif (decide (0 < a67)) then ((idx p1 (w64 (a67 - 1))).bind fun y158 => ((idx p1 a67).bind fun y159 => some (decide (y158.fThread = y159.fThread)))) else some false) : Option Bool).bind fun v141 => (bif v141 then ((idx p1 (w64 (a67 - 1))).bind fun y142 => ((((idx p1 a67).bind fun y145 => (bif (!decide (y142.fSpan.fTo = y145.fSpan.fFrom)) then some true else ((idx p1 a67).bind fun y147 => (bif (decide (y142.fState = y147.fState)) then ((idx p1 a67).bind fun y149 => (bif (decide (y142.fCpu = y149.fCpu)) then ((idx p1 a67).bind fun y151 => some (decide (y142.fOn = y151.fOn))) else some false)) else some false)))) : Option Bool).bind fun v143 => (bif v143 then some (.inr (.inr 11)) else some (.inl (a66, (w64 (a67 + 1))))))) else ((((idx p1 a67).bind fun y154 => (bif (!decide (y154.fSpan.fFrom = 0)) then some true else some (!decide (r136 = (w64 (a66 + 1)))))) : Option Bool).bind fun v152 => (bif v152 then some (.inr (.inr 11)) else some (.inl (r136, (w64 (a67 + 1))))))))))))))))) else some (.inr (.inl a66)))
def tracebookref27_Check (p0 : (List api_Thread)) (p1 : (List api_State)) : Option Int :=
  ((tracebookref27_distinct p0).bind fun r1 => (bif (decide ((List.length p1 : Int) = 0)) then some 0 else ((loop (tracebookref27_Check_L2 p1 r1) ((-1), 0)).bind fun | .inl e97 => (bif (!decide (e97 = (w64 ((List.length r1 : Int) - 1)))) then some 11 else ((loop (tracebookref27_Check_L1 p1) 1).bind fun | .inl _ => some 0 | .inr rv => some rv)) | .inr rv => some rv)))
theorem tracebookref27_Check_fun (p0 : (List api_Thread)) (p1 : (List api_State)) (r : Int) (hF : tracebookref27_Check p0 p1 = some r) : Fun Tryz.prog 120 true [] [cL 3 t_api_Thread p0, cL 7 t_api_State p1] noHeap (cI r) noHeap := by
 refine Fun.of_walk0 Tryz.func120 c120 (by kernel_rfl) (rs := [.tmp 4]) (by kernel_rfl) ?_; unfold v120
 unfold tracebookref27_Check at hF
 refine wA rfl ?_; refine wC 1 rfl ?_; obtain ⟨r1, hr1, hF⟩ := bB hF
 refine R_stepX trivial (X_callG [((902,5520),(11,1))] rfl (callN _) (tracebookref27_distinct_fun _ _ hr1) trivial ⟨.inl rfl, trivial⟩ rfl rfl rfl ?_); refine QV rfl ?_; refine W_seq ?_; refine wC 1 rfl ?_
 refine rS (T_len (tc := t_api_State) p1 .tree ?_); refine QV rfl ?_; refine wIf hF rfl (fun _ hF => ?_) fun _ hF => ?_
 · refine wA rfl ?_; cases hF
   exact W_ret wR
 refine W_skip ?_; refine wA rfl ?_; refine W_seq ?_; refine wA rfl ?_; refine W_for (fun _ _ h => h) hF (.inl) (fun (a66, a67) => [(0, cO (11,1)), (1, cL 7 t_api_State p1), (5, cI a66), (6, cI a67)]) (fun (a66, a67) => [((11,1), .arr 74 3 (List.map t_api_Thread r1))]) (fun e97 => [(0, cO (11,1)), (1, cL 7 t_api_State p1), (5, cI e97)]) (fun e97 => [((11,1), .arr 74 3 (List.map t_api_Thread r1))]) sw ?_ ?_
 · rintro e97 hF
   refine W_seq ?_; refine wC 2 rfl ?_; refine rS (T_len (tc := t_api_Thread) r1 (.own _ _ rfl) ?_); refine QV rfl ?_; refine wIf hF rfl (fun _ hF => ?_) fun _ hF => ?_
   · refine wA rfl ?_; cases hF
     exact W_ret wR
   refine W_skip ?_; refine W_seq ?_; refine wA rfl ?_; refine W_for (fun _ _ h => h) hF (.inl) (fun a117 => [(1, cL 7 t_api_State p1), (9, cI a117)]) (fun a117 => []) (fun _ => []) (fun _ => []) sw ?_ ?_
   · rintro ⟨⟩ hF
     refine wA rfl ?_; cases hF
     exact W_ret wR
   rintro a117 x_0 hF cont_0 brk_0 fin_0
   unfold tracebookref27_Check_L1 at hF
   refine W_seq ?_; refine wC 2 rfl ?_; refine rS (T_len (tc := t_api_State) p1 .tree ?_); refine QV rfl ?_; refine wIf hF rfl (fun _ hF => ?_) fun _ hF => ?_
   · refine W_skip ?_; refine W_seq ?_; refine W_block ?_; refine W_seq ?_; refine W_join (fun _ _ h => h) hF (fun v126 => [(1, cL 7 t_api_State p1), (9, cI a117), (158, cB v126)]) (fun v126 => []) ?_ ?_
     · rintro v126 hF
       refine wIf hF rfl (fun _ hF => ?_) fun _ hF => ?_
       · refine wA rfl ?_; have hF := fin_0 _ (oi hF); cases hF
         exact W_ret wR
       refine W_skip ?_; refine wB rfl ?_; exact cont_0 _ _ _ (oi hF) sw
     intro join hF
     refine W_regD (by decide) (by kernel_rfl) rfl ?_; refine Q_run SP 2 rfl ?_; obtain ⟨y128, hy128, hF⟩ := bB' hF
     refine R_step SP trivial (T_ixT (tc := t_api_State) p1 rfl rfl hy128 ?_); refine Q_run SP 5 rfl ?_; obtain ⟨y129, hy129, hF⟩ := bB' hF
     refine R_step SP trivial (T_ixT (tc := t_api_State) p1 rfl rfl hy129 ?_); refine Q_run SP 4 rfl ?_; cases h130 : (!decide (y128.fThread = y129.fThread))
     · have hF := bF' h130 hF; refine QP rfl ?_; exact join false _ _ hF sw
     have hF := bT' h130 hF; refine Q_run SP 3 rfl ?_; obtain ⟨y131, hy131, hF⟩ := bB' hF
     refine R_step SP rfl (T_ixT (tc := t_api_State) p1 rfl rfl hy131 ?_); refine Q_run SP 5 rfl ?_; refine R_step SP rfl (T_len (tc := t_api_State) p1 .tree ?_); refine Q_run SP 1 rfl ?_; obtain ⟨y132, hy132, hF⟩ := bB' hF
     refine R_step SP rfl (T_ixT (tc := t_api_State) p1 rfl rfl hy132 ?_); refine QP rfl ?_; exact join (!decide (y131.fSpan.fTo = y132.fSpan.fTo)) _ _ hF sw
   refine W_exit ?_; refine thenQ_exit ?_; refine thenQ_exit ?_; refine blockQ_hit ?_; exact brk_0 _ _ _ (oi hF) sw
 rintro ⟨a66, a67⟩ x_0 hF cont_0 brk_0 fin_0
 unfold tracebookref27_Check_L2 at hF
 refine W_seq ?_; refine wC 2 rfl ?_; refine rS (T_len (tc := t_api_State) p1 .tree ?_); refine QV rfl ?_; refine wIf hF rfl (fun _ hF => ?_) fun _ hF => ?_
 · refine W_skip ?_; refine W_seq ?_; refine W_block ?_; refine wC 3 rfl ?_; obtain ⟨y135, hy135, hF⟩ := bB hF
   refine rS (T_ixT (tc := t_api_State) p1 rfl rfl hy135 ?_); refine Q_run SV 2 rfl ?_; obtain ⟨r136, hr136, hF⟩ := bB hF
   refine rS (T_call (tracebookref27_index_fun _ _ _ hr136) ⟨⟨_, rfl⟩, rfl, trivial⟩ rfl (.inl rfl) ?_); refine QV rfl ?_; refine W_seq ?_; refine wA rfl ?_; refine wIf hF rfl (fun _ hF => ?_) fun _ hF => ?_
   · refine wA rfl ?_; have hF := fin_0 _ (oi hF); cases hF
     exact W_ret wR
   refine W_skip ?_; refine W_seq ?_; refine wC 2 rfl ?_; obtain ⟨y137, hy137, hF⟩ := bB hF
   refine rS (T_ixT (tc := t_api_State) p1 rfl rfl hy137 ?_); refine Q_run SV 2 rfl ?_; obtain ⟨r138, hr138, hF⟩ := bB hF
   refine rS (T_call (tracebookref04_Valid_fun _ _ hr138) ⟨⟨rfl, rfl, trivial⟩, trivial⟩ rfl (.inl rfl) ?_); refine QV rfl ?_; refine wIf hF rfl (fun _ hF => ?_) fun _ hF => ?_
   · refine wA rfl ?_; have hF := fin_0 _ (oi hF); cases hF
     exact W_ret wR
   refine W_skip ?_; refine W_seq ?_; refine wC 2 rfl ?_; obtain ⟨y139, hy139, hF⟩ := bB hF
   refine rS (T_ixT (tc := t_api_State) p1 rfl rfl hy139 ?_); refine Q_run SV 1 rfl ?_; obtain ⟨r140, hr140, hF⟩ := bB hF
   refine rS (T_call (tracebookref27_right_fun _ _ hr140) ⟨⟨rfl, rfl, rfl, rfl, rfl, rfl, rfl, trivial⟩, trivial⟩ rfl (.inl rfl) ?_); refine QV rfl ?_; refine wIf hF rfl (fun _ hF => ?_) fun _ hF => ?_
   · refine wA rfl ?_; have hF := fin_0 _ (oi hF); cases hF
     exact W_ret wR
   refine W_skip ?_; refine W_seq ?_; refine W_join (fun _ _ h => h) hF (fun v141 => [(0, cO (11,1)), (1, cL 7 t_api_State p1), (5, cI a66), (6, cI a67), (7, cI r136), (58, cB v141)]) (fun v141 => [((11,1), .arr 74 3 (List.map t_api_Thread r1))]) ?_ ?_
   · rintro v141 hF
     refine wIf hF rfl (fun _ hF => ?_) fun _ hF => ?_
     · refine wC 3 rfl ?_; obtain ⟨y142, hy142, hF⟩ := bB hF
       refine rS (T_ixT (tc := t_api_State) p1 rfl rfl hy142 ?_); refine QV rfl ?_; refine W_seq ?_; refine W_join (fun _ _ h => h) hF (fun v143 => [(0, cO (11,1)), (1, cL 7 t_api_State p1), (5, cI a66), (6, cI a67), (103, cB v143)]) (fun v143 => [((11,1), .arr 74 3 (List.map t_api_Thread r1))]) ?_ ?_
       · rintro v143 hF
         refine wIf hF rfl (fun _ hF => ?_) fun _ hF => ?_
         · refine wA rfl ?_; have hF := fin_0 _ (oi hF); cases hF
           exact W_ret wR
         refine W_skip ?_; refine wB rfl ?_; exact cont_0 _ _ _ (oi hF) sw
       intro join hF
       refine W_regD (by decide) (by kernel_rfl) rfl ?_; refine Q_run SP 5 rfl ?_; obtain ⟨y145, hy145, hF⟩ := bB' hF
       refine R_step SP trivial (T_ixT (tc := t_api_State) p1 rfl rfl hy145 ?_); refine Q_run SP 5 rfl ?_; cases h146 : (!decide (y142.fSpan.fTo = y145.fSpan.fFrom))
       · have hF := bF' h146 hF; refine Q_run SP 4 rfl ?_; obtain ⟨y147, hy147, hF⟩ := bB' hF
         refine R_step SP rfl (T_ixT (tc := t_api_State) p1 rfl rfl hy147 ?_); refine Q_run SP 4 rfl ?_; cases h148 : (decide (y142.fState = y147.fState))
         · have hF := bF' h148 hF; refine QP rfl ?_; exact join false _ _ hF sw
         have hF := bT' h148 hF; refine Q_run SP 4 rfl ?_; obtain ⟨y149, hy149, hF⟩ := bB' hF
         refine R_step SP rfl (T_ixT (tc := t_api_State) p1 rfl rfl hy149 ?_); refine Q_run SP 5 rfl ?_; cases h150 : (decide (y142.fCpu = y149.fCpu))
         · have hF := bF' h150 hF; refine QP rfl ?_; exact join false _ _ hF sw
         have hF := bT' h150 hF; refine Q_run SP 4 rfl ?_; obtain ⟨y151, hy151, hF⟩ := bB' hF
         refine R_step SP rfl (T_ixT (tc := t_api_State) p1 rfl rfl hy151 ?_); refine QP rfl ?_; exact join (decide (y142.fOn = y151.fOn)) _ _ hF sw
       have hF := bT' h146 hF; refine QP rfl ?_; exact join true _ _ hF sw
     refine W_seq ?_; refine W_seq ?_; refine W_join (fun _ _ h => h) hF (fun v152 => [(0, cO (11,1)), (1, cL 7 t_api_State p1), (6, cI a67), (7, cI r136), (116, cB v152)]) (fun v152 => [((11,1), .arr 74 3 (List.map t_api_Thread r1))]) ?_ ?_
     · rintro v152 hF
       refine wIf hF rfl (fun _ hF => ?_) fun _ hF => ?_
       · refine wA rfl ?_; have hF := fin_0 _ (oi hF); cases hF
         exact W_ret wR
       refine W_skip ?_; refine wB rfl ?_; refine wB rfl ?_; exact cont_0 _ _ _ (oi hF) sw
     intro join hF
     refine wD 2 rfl ?_; obtain ⟨y154, hy154, hF⟩ := bB' hF
     refine rS (T_ixT (tc := t_api_State) p1 rfl rfl hy154 ?_); refine Q_run SV 5 rfl ?_; cases h155 : (!decide (y154.fSpan.fFrom = 0))
     · have hF := bF' h155 hF; refine QV rfl ?_; exact join (!decide (r136 = (w64 (a66 + 1)))) _ _ hF sw
     have hF := bT' h155 hF; refine QV rfl ?_; exact join true _ _ hF sw
   intro join hF
   refine W_regD (by decide) (by kernel_rfl) rfl ?_; refine Q_run SP 3 rfl ?_; cases h157 : (decide (0 < a67))
   · have hF := bF' h157 hF; refine QP rfl ?_; exact join false _ _ hF sw
   have hF := bT' h157 hF; refine Q_run SP 3 rfl ?_; obtain ⟨y158, hy158, hF⟩ := bB' hF
   refine R_step SP rfl (T_ixT (tc := t_api_State) p1 rfl rfl hy158 ?_); refine Q_run SP 4 rfl ?_; obtain ⟨y159, hy159, hF⟩ := bB' hF
   refine R_step SP rfl (T_ixT (tc := t_api_State) p1 rfl rfl hy159 ?_); refine QP rfl ?_; exact join (decide (y158.fThread = y159.fThread)) _ _ hF sw
 refine W_exit ?_; refine thenQ_exit ?_; refine thenQ_exit ?_; refine blockQ_hit ?_; exact brk_0 _ _ _ (oi hF) sw
def tracebookref28_natural (p0 : Int) : Option Bool :=
  (((bif (decide (0 ≤ p0)) then some (decide (p0 ≤ 1000000000000000)) else some false) : Option Bool).bind fun v1 => some v1)
theorem tracebookref28_natural_fun (p0 : Int) (r : Bool) (hF : tracebookref28_natural p0 = some r) : Fun Tryz.prog 141 true [] [cI p0] noHeap (cB r) noHeap := by
 refine Fun.of_walk0 Tryz.func141 c141 (by kernel_rfl) (rs := [.tmp 2]) (by kernel_rfl) ?_; unfold v141
 unfold tracebookref28_natural at hF
 refine wA rfl ?_; refine W_seq ?_; refine W_join (fun _ _ h => h) hF (fun v1 => [(2, cB v1)]) (fun v1 => []) ?_ ?_
 · rintro v1 hF
   cases hF
   exact W_ret wR
 intro join hF
 refine wD 3 rfl ?_; cases h2 : (decide (0 ≤ p0))
 · have hF := bF' h2 hF; refine QV rfl ?_; exact join false _ _ hF sw
 have hF := bT' h2 hF; refine QV rfl ?_; exact join (decide (p0 ≤ 1000000000000000)) _ _ hF sw
def tracebookref28_reading (p0 : Int) : Option Bool :=
  (((bif (decide (0 ≤ p0)) then some (decide (p0 ≤ 1000000000000)) else some false) : Option Bool).bind fun v1 => some v1)
theorem tracebookref28_reading_fun (p0 : Int) (r : Bool) (hF : tracebookref28_reading p0 = some r) : Fun Tryz.prog 142 true [] [cI p0] noHeap (cB r) noHeap := by
 refine Fun.of_walk0 Tryz.func142 c142 (by kernel_rfl) (rs := [.tmp 2]) (by kernel_rfl) ?_; unfold v142
 unfold tracebookref28_reading at hF
 refine wA rfl ?_; refine W_seq ?_; refine W_join (fun _ _ h => h) hF (fun v1 => [(2, cB v1)]) (fun v1 => []) ?_ ?_
 · rintro v1 hF
   cases hF
   exact W_ret wR
 intro join hF
 refine wD 3 rfl ?_; cases h2 : (decide (0 ≤ p0))
 · have hF := bF' h2 hF; refine QV rfl ?_; exact join false _ _ hF sw
 have hF := bT' h2 hF; refine QV rfl ?_; exact join (decide (p0 ≤ 1000000000000)) _ _ hF sw
def tracebookref28_Check_L1 (p0 : (List api_Flow)) : Int → Option (Int ⊕ (Unit ⊕ Int)) := fun a48 =>
  (bif (decide (a48 < (List.length p0 : Int))) then ((idx p0 a48).bind fun y71 => ((((tracebookref28_natural y71.fId).bind fun r79 => (bif (!r79) then some true else ((tracebookref28_natural y71.fFrom.fThread).bind fun r81 => (bif (!r81) then some true else ((tracebookref28_natural y71.fFrom.fSerial).bind fun r83 => (bif (!r83) then some true else ((tracebookref28_natural y71.fTo.fThread).bind fun r85 => (bif (!r85) then some true else ((tracebookref28_natural y71.fTo.fSerial).bind fun r87 => (bif (!r87) then some true else ((tracebookref28_reading y71.fSend).bind fun r89 => (bif (!r89) then some true else ((tracebookref28_reading y71.fRecv).bind fun r91 => some (!r91)))))))))))))) : Option Bool).bind fun v72 => (bif v72 then some (.inr (.inr 2)) else (((bif (decide (y71.fRecv < y71.fSend)) then some true else (bif (decide (0 < a48)) then ((idx p0 (w64 (a48 - 1))).bind fun y77 => some (decide (y71.fRecv < y77.fRecv))) else some false)) : Option Bool).bind fun v73 => (bif v73 then some (.inr (.inr 11)) else some (.inl (w64 (a48 + 1)))))))) else some (.inr (.inl ())))
def tracebookref28_Check (p0 : (List api_Flow)) : Option Int :=
  ((loop (tracebookref28_Check_L1 p0) 0).bind fun | .inl _ => some 0 | .inr rv => some rv)
theorem tracebookref28_Check_fun (p0 : (List api_Flow)) (r : Int) (hF : tracebookref28_Check p0 = some r) : Fun Tryz.prog 121 true [] [cL 7 t_api_Flow p0] noHeap (cI r) noHeap := by
 refine Fun.of_walk0 Tryz.func121 c121 (by kernel_rfl) (rs := [.tmp 2]) (by kernel_rfl) ?_; unfold v121
 unfold tracebookref28_Check at hF
 refine wA rfl ?_; refine W_seq ?_; refine wA rfl ?_; refine W_for (fun _ _ h => h) hF (.inl) (fun a48 => [(0, cL 7 t_api_Flow p0), (3, cI a48)]) (fun a48 => []) (fun _ => []) (fun _ => []) sw ?_ ?_
 · rintro ⟨⟩ hF
   refine wA rfl ?_; cases hF
   exact W_ret wR
 rintro a48 x_0 hF cont_0 brk_0 fin_0
 unfold tracebookref28_Check_L1 at hF
 refine W_seq ?_; refine wC 2 rfl ?_; refine rS (T_len (tc := t_api_Flow) p0 .tree ?_); refine QV rfl ?_; refine wIf hF rfl (fun _ hF => ?_) fun _ hF => ?_
 · refine W_skip ?_; refine W_seq ?_; refine W_block ?_; refine wC 2 rfl ?_; obtain ⟨y71, hy71, hF⟩ := bB hF
   refine rS (T_ixT (tc := t_api_Flow) p0 rfl rfl hy71 ?_); refine QV rfl ?_; refine W_seq ?_; refine W_seq ?_; refine W_join (fun _ _ h => h) hF (fun v72 => [(0, cL 7 t_api_Flow p0), (3, cI a48), (4, cP (4,0) 0), (58, cB v72)]) (fun v72 => [((4,0), .box (m_api_Flow y71))]) ?_ ?_
   · rintro v72 hF
     refine wIf hF rfl (fun _ hF => ?_) fun _ hF => ?_
     · refine wA rfl ?_; have hF := fin_0 _ (oi hF); cases hF
       exact W_ret wR
     refine W_skip ?_; refine W_seq ?_; refine W_join (fun _ _ h => h) hF (fun v73 => [(0, cL 7 t_api_Flow p0), (3, cI a48), (78, cB v73)]) (fun v73 => []) ?_ ?_
     · rintro v73 hF
       refine wIf hF rfl (fun _ hF => ?_) fun _ hF => ?_
       · refine wA rfl ?_; have hF := fin_0 _ (oi hF); cases hF
         exact W_ret wR
       refine W_skip ?_; refine wB rfl ?_; exact cont_0 _ _ _ (oi hF) sw
     intro join hF
     refine W_regD (by decide) (by kernel_rfl) rfl ?_; refine Q_run SP 6 rfl ?_; cases h75 : (decide (y71.fRecv < y71.fSend))
     · have hF := bF' h75 hF; refine Q_run SP 3 rfl ?_; cases h76 : (decide (0 < a48))
       · have hF := bF' h76 hF; refine QP rfl ?_; exact join false _ _ hF sw
       have hF := bT' h76 hF; refine Q_run SP 5 rfl ?_; obtain ⟨y77, hy77, hF⟩ := bB' hF
       refine R_step SP rfl (T_ixT (tc := t_api_Flow) p0 rfl rfl hy77 ?_); refine QP rfl ?_; exact join (decide (y71.fRecv < y77.fRecv)) _ _ hF sw
     have hF := bT' h75 hF; refine QP rfl ?_; exact join true _ _ hF sw
   intro join hF
   refine wD 2 rfl ?_; obtain ⟨r79, hr79, hF⟩ := bB' hF
   refine rS (T_call (tracebookref28_natural_fun _ _ hr79) ⟨rfl, trivial⟩ rfl (.inl rfl) ?_); refine Q_run SV 2 rfl ?_; cases h80 : (!r79)
   · have hF := bF' h80 hF; refine Q_run SV 3 rfl ?_; obtain ⟨r81, hr81, hF⟩ := bB' hF
     refine R_step SV rfl (T_call (tracebookref28_natural_fun _ _ hr81) ⟨rfl, trivial⟩ rfl (.inl rfl) ?_); refine Q_run SV 3 rfl ?_; cases h82 : (!r81)
     · have hF := bF' h82 hF; refine Q_run SV 3 rfl ?_; obtain ⟨r83, hr83, hF⟩ := bB' hF
       refine R_step SV rfl (T_call (tracebookref28_natural_fun _ _ hr83) ⟨rfl, trivial⟩ rfl (.inl rfl) ?_); refine Q_run SV 3 rfl ?_; cases h84 : (!r83)
       · have hF := bF' h84 hF; refine Q_run SV 3 rfl ?_; obtain ⟨r85, hr85, hF⟩ := bB' hF
         refine R_step SV rfl (T_call (tracebookref28_natural_fun _ _ hr85) ⟨rfl, trivial⟩ rfl (.inl rfl) ?_); refine Q_run SV 3 rfl ?_; cases h86 : (!r85)
         · have hF := bF' h86 hF; refine Q_run SV 3 rfl ?_; obtain ⟨r87, hr87, hF⟩ := bB' hF
           refine R_step SV rfl (T_call (tracebookref28_natural_fun _ _ hr87) ⟨rfl, trivial⟩ rfl (.inl rfl) ?_); refine Q_run SV 3 rfl ?_; cases h88 : (!r87)
           · have hF := bF' h88 hF; refine Q_run SV 2 rfl ?_; obtain ⟨r89, hr89, hF⟩ := bB' hF
             refine R_step SV rfl (T_call (tracebookref28_reading_fun _ _ hr89) ⟨rfl, trivial⟩ rfl (.inl rfl) ?_); refine Q_run SV 3 rfl ?_; cases h90 : (!r89)
             · have hF := bF' h90 hF; refine Q_run SV 2 rfl ?_; obtain ⟨r91, hr91, hF⟩ := bB' hF
               refine R_step SV rfl (T_call (tracebookref28_reading_fun _ _ hr91) ⟨rfl, trivial⟩ rfl (.inl rfl) ?_); refine QV rfl ?_; exact join (!r91) _ _ hF sw
             have hF := bT' h90 hF; refine QV rfl ?_; exact join true _ _ hF sw
           have hF := bT' h88 hF; refine QV rfl ?_; exact join true _ _ hF sw
         have hF := bT' h86 hF; refine QV rfl ?_; exact join true _ _ hF sw
       have hF := bT' h84 hF; refine QV rfl ?_; exact join true _ _ hF sw
     have hF := bT' h82 hF; refine QV rfl ?_; exact join true _ _ hF sw
   have hF := bT' h80 hF; refine QV rfl ?_; exact join true _ _ hF sw
 refine W_exit ?_; refine thenQ_exit ?_; refine thenQ_exit ?_; refine blockQ_hit ?_; exact brk_0 _ _ _ (oi hF) sw
def tracebookref29_inRange (p0 : api_Sample) : Option Bool :=
  (((bif (decide (0 ≤ p0.fThread)) then (bif (decide (p0.fThread ≤ 1000000000000000)) then (bif (decide (0 ≤ p0.fAt)) then (bif (decide (p0.fAt ≤ 1000000000000)) then (bif (decide (1 ≤ p0.fWeight)) then some (decide (p0.fWeight ≤ 1000000000000)) else some false) else some false) else some false) else some false) else some false) : Option Bool).bind fun v1 => some v1)
theorem tracebookref29_inRange_fun (p0 : api_Sample) (r : Bool) (hF : tracebookref29_inRange p0 = some r) : Fun Tryz.prog 143 true [] [.agg (m_api_Sample p0)] noHeap (cB r) noHeap := by
 refine Fun.of_walk0 Tryz.func143 c143 (by kernel_rfl) (rs := [.tmp 2]) (by kernel_rfl) ?_; unfold v143
 unfold tracebookref29_inRange at hF
 refine wA rfl ?_; refine W_seq ?_; refine W_join (fun _ _ h => h) hF (fun v1 => [(2, cB v1)]) (fun v1 => []) ?_ ?_
 · rintro v1 hF
   cases hF
   exact W_ret wR
 intro join hF
 refine wD 4 rfl ?_; cases h2 : (decide (0 ≤ p0.fThread))
 · have hF := bF' h2 hF; refine QV rfl ?_; exact join false _ _ hF sw
 have hF := bT' h2 hF; refine Q_run SV 5 rfl ?_; cases h3 : (decide (p0.fThread ≤ 1000000000000000))
 · have hF := bF' h3 hF; refine QV rfl ?_; exact join false _ _ hF sw
 have hF := bT' h3 hF; refine Q_run SV 5 rfl ?_; cases h4 : (decide (0 ≤ p0.fAt))
 · have hF := bF' h4 hF; refine QV rfl ?_; exact join false _ _ hF sw
 have hF := bT' h4 hF; refine Q_run SV 5 rfl ?_; cases h5 : (decide (p0.fAt ≤ 1000000000000))
 · have hF := bF' h5 hF; refine QV rfl ?_; exact join false _ _ hF sw
 have hF := bT' h5 hF; refine Q_run SV 5 rfl ?_; cases h6 : (decide (1 ≤ p0.fWeight))
 · have hF := bF' h6 hF; refine QV rfl ?_; exact join false _ _ hF sw
 have hF := bT' h6 hF; refine QV rfl ?_; exact join (decide (p0.fWeight ≤ 1000000000000)) _ _ hF sw
def tracebookref06_Frames_L1 (p0 : (List ByteArray)) : Int → Option (Int ⊕ (Unit ⊕ Int)) := fun a12 =>
  (bif (decide (a12 < (List.length p0 : Int))) then ((idx p0 a12).bind fun y17 => ((tracebookref06_Name y17).bind fun r18 => (bif (!decide (r18 = 0)) then some (.inr (.inr 3)) else some (.inl (w64 (a12 + 1)))))) else some (.inr (.inl ())))
def tracebookref06_Frames (p0 : (List ByteArray)) : Option Int :=
  (bif (decide (32 < (List.length p0 : Int))) then some 7 else ((loop (tracebookref06_Frames_L1 p0) 0).bind fun | .inl _ => some 0 | .inr rv => some rv))
theorem tracebookref06_Frames_fun (p0 : (List ByteArray)) (r : Int) (hF : tracebookref06_Frames p0 = some r) : Fun Tryz.prog 144 true [] [cL 1 t_str p0] noHeap (cI r) noHeap := by
 refine Fun.of_walk0 Tryz.func144 c144 (by kernel_rfl) (rs := [.tmp 2]) (by kernel_rfl) ?_; unfold v144
 unfold tracebookref06_Frames at hF
 refine wA rfl ?_; refine W_seq ?_; refine wC 1 rfl ?_; refine rS (T_len (tc := t_str) p0 .tree ?_); refine QV rfl ?_; refine wIf hF rfl (fun _ hF => ?_) fun _ hF => ?_
 · refine wA rfl ?_; cases hF
   exact W_ret wR
 refine W_skip ?_; refine W_seq ?_; refine wA rfl ?_; refine W_for (fun _ _ h => h) hF (.inl) (fun a12 => [(0, cL 1 t_str p0), (3, cI a12)]) (fun a12 => []) (fun _ => []) (fun _ => []) sw ?_ ?_
 · rintro ⟨⟩ hF
   refine wA rfl ?_; cases hF
   exact W_ret wR
 rintro a12 x_0 hF cont_0 brk_0 fin_0
 unfold tracebookref06_Frames_L1 at hF
 refine W_seq ?_; refine wC 2 rfl ?_; refine rS (T_len (tc := t_str) p0 .tree ?_); refine QV rfl ?_; refine wIf hF rfl (fun _ hF => ?_) fun _ hF => ?_
 · refine W_skip ?_; refine W_seq ?_; refine W_block ?_; refine wC 2 rfl ?_; obtain ⟨y17, hy17, hF⟩ := bB hF
   refine rS (T_ixT (tc := t_str) p0 rfl rfl hy17 ?_); refine Q_run SV 1 rfl ?_; obtain ⟨r18, hr18, hF⟩ := bB hF
   refine rS (T_call (tracebookref06_Name_fun _ _ hr18) ⟨rfl, trivial⟩ rfl (.inl rfl) ?_); refine QV rfl ?_; refine wIf hF rfl (fun _ hF => ?_) fun _ hF => ?_
   · refine wA rfl ?_; have hF := fin_0 _ (oi hF); cases hF
     exact W_ret wR
   refine W_skip ?_; refine wB rfl ?_; exact cont_0 _ _ _ (oi hF) sw
 refine W_exit ?_; refine thenQ_exit ?_; refine thenQ_exit ?_; refine blockQ_hit ?_; exact brk_0 _ _ _ (oi hF) sw
def tracebookref29_Check_L1 (p0 : (List api_Sample)) : Int → Option (Int ⊕ (Unit ⊕ Int)) := fun a28 =>
  (bif (decide (a28 < (List.length p0 : Int))) then ((idx p0 a28).bind fun y41 => ((tracebookref29_inRange y41).bind fun r42 => (bif (!r42) then some (.inr (.inr 2)) else ((idx p0 a28).bind fun y43 => ((tracebookref06_Frames y43.fStack).bind fun r44 => (bif (!decide (r44 = 0)) then some (.inr (.inr r44)) else (((bif (decide (0 < a28)) then ((idx p0 a28).bind fun y48 => ((idx p0 (w64 (a28 - 1))).bind fun y49 => some (decide (y48.fAt < y49.fAt)))) else some false) : Option Bool).bind fun v45 => (bif v45 then some (.inr (.inr 11)) else some (.inl (w64 (a28 + 1))))))))))) else some (.inr (.inl ())))
def tracebookref29_Check (p0 : (List api_Sample)) : Option Int :=
  ((loop (tracebookref29_Check_L1 p0) 0).bind fun | .inl _ => some 0 | .inr rv => some rv)
theorem tracebookref29_Check_fun (p0 : (List api_Sample)) (r : Int) (hF : tracebookref29_Check p0 = some r) : Fun Tryz.prog 122 true [] [cL 4 t_api_Sample p0] noHeap (cI r) noHeap := by
 refine Fun.of_walk0 Tryz.func122 c122 (by kernel_rfl) (rs := [.tmp 2]) (by kernel_rfl) ?_; unfold v122
 unfold tracebookref29_Check at hF
 refine wA rfl ?_; refine W_seq ?_; refine wA rfl ?_; refine W_for (fun _ _ h => h) hF (.inl) (fun a28 => [(0, cL 4 t_api_Sample p0), (3, cI a28)]) (fun a28 => []) (fun _ => []) (fun _ => []) sw ?_ ?_
 · rintro ⟨⟩ hF
   refine wA rfl ?_; cases hF
   exact W_ret wR
 rintro a28 x_0 hF cont_0 brk_0 fin_0
 unfold tracebookref29_Check_L1 at hF
 refine W_seq ?_; refine wC 2 rfl ?_; refine rS (T_len (tc := t_api_Sample) p0 .tree ?_); refine QV rfl ?_; refine wIf hF rfl (fun _ hF => ?_) fun _ hF => ?_
 · refine W_skip ?_; refine W_seq ?_; refine W_block ?_; refine W_seq ?_; refine wC 2 rfl ?_; obtain ⟨y41, hy41, hF⟩ := bB hF
   refine rS (T_ixT (tc := t_api_Sample) p0 rfl rfl hy41 ?_); refine Q_run SV 1 rfl ?_; obtain ⟨r42, hr42, hF⟩ := bB hF
   refine rS (T_call (tracebookref29_inRange_fun _ _ hr42) ⟨⟨rfl, rfl, rfl, rfl, trivial⟩, trivial⟩ rfl (.inl rfl) ?_); refine QV rfl ?_; refine wIf hF rfl (fun _ hF => ?_) fun _ hF => ?_
   · refine wA rfl ?_; have hF := fin_0 _ (oi hF); cases hF
     exact W_ret wR
   refine W_skip ?_; refine wC 2 rfl ?_; obtain ⟨y43, hy43, hF⟩ := bB hF
   refine rS (T_ixT (tc := t_api_Sample) p0 rfl rfl hy43 ?_); refine Q_run SV 2 rfl ?_; obtain ⟨r44, hr44, hF⟩ := bB hF
   refine rS (T_call (tracebookref06_Frames_fun _ _ hr44) ⟨rfl, trivial⟩ rfl (.inl rfl) ?_); refine QV rfl ?_; refine W_seq ?_; refine wA rfl ?_; refine wIf hF rfl (fun _ hF => ?_) fun _ hF => ?_
   · refine wA rfl ?_; have hF := fin_0 _ (oi hF); cases hF
     exact W_ret wR
   refine W_skip ?_; refine W_seq ?_; refine W_join (fun _ _ h => h) hF (fun v45 => [(0, cL 4 t_api_Sample p0), (3, cI a28), (41, cB v45)]) (fun v45 => []) ?_ ?_
   · rintro v45 hF
     refine wIf hF rfl (fun _ hF => ?_) fun _ hF => ?_
     · refine wA rfl ?_; have hF := fin_0 _ (oi hF); cases hF
       exact W_ret wR
     refine W_skip ?_; refine wB rfl ?_; exact cont_0 _ _ _ (oi hF) sw
   intro join hF
   refine W_regD (by decide) (by kernel_rfl) rfl ?_; refine Q_run SP 3 rfl ?_; cases h47 : (decide (0 < a28))
   · have hF := bF' h47 hF; refine QP rfl ?_; exact join false _ _ hF sw
   have hF := bT' h47 hF; refine Q_run SP 2 rfl ?_; obtain ⟨y48, hy48, hF⟩ := bB' hF
   refine R_step SP rfl (T_ixT (tc := t_api_Sample) p0 rfl rfl hy48 ?_); refine Q_run SP 5 rfl ?_; obtain ⟨y49, hy49, hF⟩ := bB' hF
   refine R_step SP rfl (T_ixT (tc := t_api_Sample) p0 rfl rfl hy49 ?_); refine QP rfl ?_; exact join (decide (y48.fAt < y49.fAt)) _ _ hF sw
 refine W_exit ?_; refine thenQ_exit ?_; refine thenQ_exit ?_; refine blockQ_hit ?_; exact brk_0 _ _ _ (oi hF) sw
def tracebookref30_Check_L1 (p0 : (List api_Step)) : Int → Option (Int ⊕ (Unit ⊕ Int)) := fun a58 =>
  (bif (decide (a58 < (List.length p0 : Int))) then ((idx p0 a58).bind fun y86 => ((tracebookref06_Name y86.fName).bind fun r87 => (bif (!decide (r87 = 0)) then some (.inr (.inr r87)) else ((((idx p0 a58).bind fun y104 => (bif (decide (y104.fAt < 0)) then some true else ((idx p0 a58).bind fun y106 => (bif (decide (1000000000000 < y106.fAt)) then some true else ((idx p0 a58).bind fun y108 => (bif (decide (y108.fValue < (-1000000000000000))) then some true else ((idx p0 a58).bind fun y110 => some (decide (1000000000000000 < y110.fValue))))))))) : Option Bool).bind fun v88 => (bif v88 then some (.inr (.inr 2)) else (((bif (decide (0 < a58)) then ((idx p0 a58).bind fun y92 => ((idx p0 (w64 (a58 - 1))).bind fun y93 => (bif (sLt y92.fName y93.fName) then some true else ((idx p0 a58).bind fun y95 => ((idx p0 (w64 (a58 - 1))).bind fun y96 => (bif (decide (y95.fName = y96.fName)) then ((idx p0 a58).bind fun y98 => ((idx p0 (w64 (a58 - 1))).bind fun y99 => (bif (decide (y98.fAt ≤ y99.fAt)) then some true else ((idx p0 a58).bind fun y101 => ((idx p0 (w64 (a58 - 1))).bind fun y102 => some (decide (y101.fValue = y102.fValue))))))) else some false)))))) else some false) : Option Bool).bind fun v89 => (bif v89 then some (.inr (.inr 11)) else some (.inl (w64 (a58 + 1)))))))))) else some (.inr (.inl ())))
def tracebookref30_Check (p0 : (List api_Step)) : Option Int :=
  ((loop (tracebookref30_Check_L1 p0) 0).bind fun | .inl _ => some 0 | .inr rv => some rv)
theorem tracebookref30_Check_fun (p0 : (List api_Step)) (r : Int) (hF : tracebookref30_Check p0 = some r) : Fun Tryz.prog 123 true [] [cL 3 t_api_Step p0] noHeap (cI r) noHeap := by
 refine Fun.of_walk0 Tryz.func123 c123 (by kernel_rfl) (rs := [.tmp 2]) (by kernel_rfl) ?_; unfold v123
 unfold tracebookref30_Check at hF
 refine wA rfl ?_; refine W_seq ?_; refine wA rfl ?_; refine W_for (fun _ _ h => h) hF (.inl) (fun a58 => [(0, cL 3 t_api_Step p0), (3, cI a58)]) (fun a58 => []) (fun _ => []) (fun _ => []) sw ?_ ?_
 · rintro ⟨⟩ hF
   refine wA rfl ?_; cases hF
   exact W_ret wR
 rintro a58 x_0 hF cont_0 brk_0 fin_0
 unfold tracebookref30_Check_L1 at hF
 refine W_seq ?_; refine wC 2 rfl ?_; refine rS (T_len (tc := t_api_Step) p0 .tree ?_); refine QV rfl ?_; refine wIf hF rfl (fun _ hF => ?_) fun _ hF => ?_
 · refine W_skip ?_; refine W_seq ?_; refine W_block ?_; refine wC 2 rfl ?_; obtain ⟨y86, hy86, hF⟩ := bB hF
   refine rS (T_ixT (tc := t_api_Step) p0 rfl rfl hy86 ?_); refine Q_run SV 2 rfl ?_; obtain ⟨r87, hr87, hF⟩ := bB hF
   refine rS (T_call (tracebookref06_Name_fun _ _ hr87) ⟨rfl, trivial⟩ rfl (.inl rfl) ?_); refine QV rfl ?_; refine W_seq ?_; refine wA rfl ?_; refine wIf hF rfl (fun _ hF => ?_) fun _ hF => ?_
   · refine wA rfl ?_; have hF := fin_0 _ (oi hF); cases hF
     exact W_ret wR
   refine W_skip ?_; refine W_seq ?_; refine W_seq ?_; refine W_join (fun _ _ h => h) hF (fun v88 => [(0, cL 3 t_api_Step p0), (3, cI a58), (49, cB v88)]) (fun v88 => []) ?_ ?_
   · rintro v88 hF
     refine wIf hF rfl (fun _ hF => ?_) fun _ hF => ?_
     · refine wA rfl ?_; have hF := fin_0 _ (oi hF); cases hF
       exact W_ret wR
     refine W_skip ?_; refine W_seq ?_; refine W_join (fun _ _ h => h) hF (fun v89 => [(0, cL 3 t_api_Step p0), (3, cI a58), (107, cB v89)]) (fun v89 => []) ?_ ?_
     · rintro v89 hF
       refine wIf hF rfl (fun _ hF => ?_) fun _ hF => ?_
       · refine wA rfl ?_; have hF := fin_0 _ (oi hF); cases hF
         exact W_ret wR
       refine W_skip ?_; refine wB rfl ?_; exact cont_0 _ _ _ (oi hF) sw
     intro join hF
     refine W_regD (by decide) (by kernel_rfl) rfl ?_; refine Q_run SP 3 rfl ?_; cases h91 : (decide (0 < a58))
     · have hF := bF' h91 hF; refine QP rfl ?_; exact join false _ _ hF sw
     have hF := bT' h91 hF; refine Q_run SP 2 rfl ?_; obtain ⟨y92, hy92, hF⟩ := bB' hF
     refine R_step SP rfl (T_ixT (tc := t_api_Step) p0 rfl rfl hy92 ?_); refine Q_run SP 5 rfl ?_; obtain ⟨y93, hy93, hF⟩ := bB' hF
     refine R_step SP rfl (T_ixT (tc := t_api_Step) p0 rfl rfl hy93 ?_); refine Q_run SP 4 rfl ?_; cases h94 : (sLt y92.fName y93.fName)
     · have hF := bF' h94 hF; refine Q_run SP 2 rfl ?_; obtain ⟨y95, hy95, hF⟩ := bB' hF
       refine R_step SP rfl (T_ixT (tc := t_api_Step) p0 rfl rfl hy95 ?_); refine Q_run SP 5 rfl ?_; obtain ⟨y96, hy96, hF⟩ := bB' hF
       refine R_step SP rfl (T_ixT (tc := t_api_Step) p0 rfl rfl hy96 ?_); refine Q_run SP 4 rfl ?_; cases h97 : (decide (y95.fName = y96.fName))
       · have hF := bF' h97 hF; refine QP rfl ?_; exact join false _ _ hF sw
       have hF := bT' h97 hF; refine Q_run SP 2 rfl ?_; obtain ⟨y98, hy98, hF⟩ := bB' hF
       refine R_step SP rfl (T_ixT (tc := t_api_Step) p0 rfl rfl hy98 ?_); refine Q_run SP 5 rfl ?_; obtain ⟨y99, hy99, hF⟩ := bB' hF
       refine R_step SP rfl (T_ixT (tc := t_api_Step) p0 rfl rfl hy99 ?_); refine Q_run SP 4 rfl ?_; cases h100 : (decide (y98.fAt ≤ y99.fAt))
       · have hF := bF' h100 hF; refine Q_run SP 2 rfl ?_; obtain ⟨y101, hy101, hF⟩ := bB' hF
         refine R_step SP rfl (T_ixT (tc := t_api_Step) p0 rfl rfl hy101 ?_); refine Q_run SP 5 rfl ?_; obtain ⟨y102, hy102, hF⟩ := bB' hF
         refine R_step SP rfl (T_ixT (tc := t_api_Step) p0 rfl rfl hy102 ?_); refine QP rfl ?_; exact join (decide (y101.fValue = y102.fValue)) _ _ hF sw
       have hF := bT' h100 hF; refine QP rfl ?_; exact join true _ _ hF sw
     have hF := bT' h94 hF; refine QP rfl ?_; exact join true _ _ hF sw
   intro join hF
   refine wD 2 rfl ?_; obtain ⟨y104, hy104, hF⟩ := bB' hF
   refine rS (T_ixT (tc := t_api_Step) p0 rfl rfl hy104 ?_); refine Q_run SV 4 rfl ?_; cases h105 : (decide (y104.fAt < 0))
   · have hF := bF' h105 hF; refine Q_run SV 2 rfl ?_; obtain ⟨y106, hy106, hF⟩ := bB' hF
     refine R_step SV rfl (T_ixT (tc := t_api_Step) p0 rfl rfl hy106 ?_); refine Q_run SV 5 rfl ?_; cases h107 : (decide (1000000000000 < y106.fAt))
     · have hF := bF' h107 hF; refine Q_run SV 2 rfl ?_; obtain ⟨y108, hy108, hF⟩ := bB' hF
       refine R_step SV rfl (T_ixT (tc := t_api_Step) p0 rfl rfl hy108 ?_); refine Q_run SV 5 rfl ?_; cases h109 : (decide (y108.fValue < (-1000000000000000)))
       · have hF := bF' h109 hF; refine Q_run SV 2 rfl ?_; obtain ⟨y110, hy110, hF⟩ := bB' hF
         refine R_step SV rfl (T_ixT (tc := t_api_Step) p0 rfl rfl hy110 ?_); refine QV rfl ?_; exact join (decide (1000000000000000 < y110.fValue)) _ _ hF sw
       have hF := bT' h109 hF; refine QV rfl ?_; exact join true _ _ hF sw
     have hF := bT' h107 hF; refine QV rfl ?_; exact join true _ _ hF sw
   have hF := bT' h105 hF; refine QV rfl ?_; exact join true _ _ hF sw
 refine W_exit ?_; refine thenQ_exit ?_; refine thenQ_exit ?_; refine blockQ_hit ?_; exact brk_0 _ _ _ (oi hF) sw
def tracebookref31_common (p0 : api_Span) (p1 : api_Span) : Option Bool :=
  (((bif (decide (p0.fFrom < p1.fTo)) then some (decide (p1.fFrom < p0.fTo)) else some false) : Option Bool).bind fun v1 => some v1)
theorem tracebookref31_common_fun (p0 : api_Span) (p1 : api_Span) (r : Bool) (hF : tracebookref31_common p0 p1 = some r) : Fun Tryz.prog 145 true [] [.agg [jI p0.fFrom, jI p0.fTo], .agg [jI p1.fFrom, jI p1.fTo]] noHeap (cB r) noHeap := by
 refine Fun.of_walk0 Tryz.func145 c145 (by kernel_rfl) (rs := [.tmp 4]) (by kernel_rfl) ?_; unfold v145
 unfold tracebookref31_common at hF
 refine wA rfl ?_; refine W_seq ?_; refine W_join (fun _ _ h => h) hF (fun v1 => [(4, cB v1)]) (fun v1 => []) ?_ ?_
 · rintro v1 hF
   cases hF
   exact W_ret wR
 intro join hF
 refine wD 6 rfl ?_; cases h2 : (decide (p0.fFrom < p1.fTo))
 · have hF := bF' h2 hF; refine QV rfl ?_; exact join false _ _ hF sw
 have hF := bT' h2 hF; refine QV rfl ?_; exact join (decide (p1.fFrom < p0.fTo)) _ _ hF sw
def tracebookref31_Check_L1 (p0 : (List api_Block)) (a104 : Int) (y155 : api_Block) : Int → Option (Int ⊕ (Unit ⊕ (Int ⊕ (Unit ⊕ Int)))) := fun a176 =>
  (bif (decide (a176 < a104)) then ((((idx p0 a176).bind fun y186 => (bif (decide (y186.fId = y155.fId)) then ((idx p0 a176).bind fun y188 => ((tracebookref31_common y188.fSpan y155.fSpan).bind fun r189 => some r189)) else some false)) : Option Bool).bind fun v184 => (bif v184 then some (.inr (.inr (.inr (.inr 4)))) else some (.inl (w64 (a176 + 1))))) else some (.inr (.inl ())))
def tracebookref31_Check_L2 (p0 : (List api_Block)) : Int → Option (Int ⊕ (Unit ⊕ Int)) := fun a104 =>
  (bif (decide (a104 < (List.length p0 : Int))) then ((idx p0 a104).bind fun y155 => (((bif (decide (y155.fId < 0)) then some true else (bif (decide (1000000000000000 < y155.fId)) then some true else (bif (decide (y155.fThread < 0)) then some true else (bif (decide (1000000000000000 < y155.fThread)) then some true else (bif (decide (y155.fSize < 1)) then some true else (bif (decide (1000000000000 < y155.fSize)) then some true else (bif (decide (y155.fSpan.fFrom < 0)) then some true else (bif (decide (y155.fSpan.fTo ≤ y155.fSpan.fFrom)) then some true else some (decide (1000000000000 < y155.fSpan.fTo)))))))))) : Option Bool).bind fun v156 => (bif v156 then some (.inr (.inr 2)) else ((tracebookref06_Frames y155.fStack).bind fun r157 => (bif (!decide (r157 = 0)) then some (.inr (.inr r157)) else (((bif (decide (0 < a104)) then ((idx p0 (w64 (a104 - 1))).bind fun y193 => some (decide (y155.fSpan.fFrom < y193.fSpan.fFrom))) else some false) : Option Bool).bind fun v158 => (bif v158 then some (.inr (.inr 11)) else ((loop (tracebookref31_Check_L1 p0 a104 y155) 0).bind fun | .inl _ => some (.inl (w64 (a104 + 1))) | .inr rv => some rv)))))))) else some (.inr (.inl ())))
def tracebookref31_Check (p0 : (List api_Block)) : Option Int :=
  ((loop (tracebookref31_Check_L2 p0) 0).bind fun | .inl _ => some 0 | .inr rv => some rv)
theorem tracebookref31_Check_fun (p0 : (List api_Block)) (r : Int) (hF : tracebookref31_Check p0 = some r) : Fun Tryz.prog 124 true [] [cL 7 t_api_Block p0] noHeap (cI r) noHeap := by
 refine Fun.of_walk0 Tryz.func124 c124 (by kernel_rfl) (rs := [.tmp 2]) (by kernel_rfl) ?_; unfold v124
 unfold tracebookref31_Check at hF
 refine wA rfl ?_; refine W_seq ?_; refine wA rfl ?_; refine W_for (fun _ _ h => h) hF (.inl) (fun a104 => [(0, cL 7 t_api_Block p0), (3, cI a104)]) (fun a104 => []) (fun _ => []) (fun _ => []) sw ?_ ?_
 · rintro ⟨⟩ hF
   refine wA rfl ?_; cases hF
   exact W_ret wR
 rintro a104 x_0 hF cont_0 brk_0 fin_0
 unfold tracebookref31_Check_L2 at hF
 refine W_seq ?_; refine wC 2 rfl ?_; refine rS (T_len (tc := t_api_Block) p0 .tree ?_); refine QV rfl ?_; refine wIf hF rfl (fun _ hF => ?_) fun _ hF => ?_
 · refine W_skip ?_; refine W_seq ?_; refine W_block ?_; refine wC 2 rfl ?_; obtain ⟨y155, hy155, hF⟩ := bB hF
   refine rS (T_ixT (tc := t_api_Block) p0 rfl rfl hy155 ?_); refine QV rfl ?_; refine W_seq ?_; refine W_seq ?_; refine W_join (fun _ _ h => h) hF (fun v156 => [(0, cL 7 t_api_Block p0), (3, cI a104), (4, cP (4,0) 0), (65, cB v156)]) (fun v156 => [((4,0), .box (m_api_Block y155))]) ?_ ?_
   · rintro v156 hF
     refine wIf hF rfl (fun _ hF => ?_) fun _ hF => ?_
     · refine wA rfl ?_; have hF := fin_0 _ (oi hF); cases hF
       exact W_ret wR
     refine W_skip ?_; refine wC 2 rfl ?_; obtain ⟨r157, hr157, hF⟩ := bB hF
     refine rS (T_call (tracebookref06_Frames_fun _ _ hr157) ⟨rfl, trivial⟩ rfl (.inl rfl) ?_); refine QV rfl ?_; refine W_seq ?_; refine wA rfl ?_; refine wIf hF rfl (fun _ hF => ?_) fun _ hF => ?_
     · refine wA rfl ?_; have hF := fin_0 _ (oi hF); cases hF
       exact W_ret wR
     refine W_skip ?_; refine W_seq ?_; refine W_seq ?_; refine W_join (fun _ _ h => h) hF (fun v158 => [(0, cL 7 t_api_Block p0), (3, cI a104), (4, cP (4,0) 0), (86, cB v158)]) (fun v158 => [((4,0), .box (m_api_Block y155))]) ?_ ?_
     · rintro v158 hF
       refine wIf hF rfl (fun _ hF => ?_) fun _ hF => ?_
       · refine wA rfl ?_; have hF := fin_0 _ (oi hF); cases hF
         exact W_ret wR
       refine W_skip ?_; refine wA rfl ?_; refine W_for (fun _ _ h => h) hF (.inl) (fun a176 => [(0, cL 7 t_api_Block p0), (3, cI a104), (4, cP (4,0) 0), (6, cI a176)]) (fun a176 => [((4,0), .box (m_api_Block y155))]) (fun _ => [(0, cL 7 t_api_Block p0), (3, cI a104)]) (fun _ => []) sw ?_ ?_
       · rintro ⟨⟩ hF
         refine wB rfl ?_; exact cont_0 _ _ _ (oi hF) sw
       rintro a176 x_1 hF cont_1 brk_1 fin_1
       unfold tracebookref31_Check_L1 at hF
       refine W_seq ?_; refine wA rfl ?_; refine wIf hF rfl (fun _ hF => ?_) fun _ hF => ?_
       · refine W_skip ?_; refine W_seq ?_; refine W_block ?_; refine W_seq ?_; refine W_join (fun _ _ h => h) hF (fun v184 => [(0, cL 7 t_api_Block p0), (3, cI a104), (4, cP (4,0) 0), (6, cI a176), (109, cB v184)]) (fun v184 => [((4,0), .box (m_api_Block y155))]) ?_ ?_
         · rintro v184 hF
           refine wIf hF rfl (fun _ hF => ?_) fun _ hF => ?_
           · refine wA rfl ?_; have hF := fin_1 _ (oi hF); have hF := fin_0 _ (oi hF); cases hF
             exact W_ret wR
           refine W_skip ?_; refine wB rfl ?_; exact cont_1 _ _ _ (oi hF) sw
         intro join hF
         refine W_regD (by decide) (by kernel_rfl) rfl ?_; refine Q_run SP 2 rfl ?_; obtain ⟨y186, hy186, hF⟩ := bB' hF
         refine R_step SP trivial (T_ixT (tc := t_api_Block) p0 rfl rfl hy186 ?_); refine Q_run SP 6 rfl ?_; cases h187 : (decide (y186.fId = y155.fId))
         · have hF := bF' h187 hF; refine QP rfl ?_; exact join false _ _ hF sw
         have hF := bT' h187 hF; refine Q_run SP 2 rfl ?_; obtain ⟨y188, hy188, hF⟩ := bB' hF
         refine R_step SP rfl (T_ixT (tc := t_api_Block) p0 rfl rfl hy188 ?_); refine Q_run SP 4 rfl ?_; obtain ⟨r189, hr189, hF⟩ := bB' hF
         refine R_step SP rfl (T_call (tracebookref31_common_fun _ _ _ hr189) ⟨⟨rfl, rfl, trivial⟩, ⟨rfl, rfl, trivial⟩, trivial⟩ rfl (.inl rfl) ?_); refine QP rfl ?_; exact join r189 _ _ hF sw
       refine W_exit ?_; refine thenQ_exit ?_; refine thenQ_exit ?_; refine blockQ_hit ?_; exact brk_1 _ _ _ (oi hF) sw
     intro join hF
     refine W_regD (by decide) (by kernel_rfl) rfl ?_; refine Q_run SP 3 rfl ?_; cases h192 : (decide (0 < a104))
     · have hF := bF' h192 hF; refine QP rfl ?_; exact join false _ _ hF sw
     have hF := bT' h192 hF; refine Q_run SP 6 rfl ?_; obtain ⟨y193, hy193, hF⟩ := bB' hF
     refine R_step SP rfl (T_ixT (tc := t_api_Block) p0 rfl rfl hy193 ?_); refine QP rfl ?_; exact join (decide (y155.fSpan.fFrom < y193.fSpan.fFrom)) _ _ hF sw
   intro join hF
   refine wD 4 rfl ?_; cases h196 : (decide (y155.fId < 0))
   · have hF := bF' h196 hF; refine Q_run SV 5 rfl ?_; cases h197 : (decide (1000000000000000 < y155.fId))
     · have hF := bF' h197 hF; refine Q_run SV 5 rfl ?_; cases h198 : (decide (y155.fThread < 0))
       · have hF := bF' h198 hF; refine Q_run SV 5 rfl ?_; cases h199 : (decide (1000000000000000 < y155.fThread))
         · have hF := bF' h199 hF; refine Q_run SV 5 rfl ?_; cases h200 : (decide (y155.fSize < 1))
           · have hF := bF' h200 hF; refine Q_run SV 5 rfl ?_; cases h201 : (decide (1000000000000 < y155.fSize))
             · have hF := bF' h201 hF; refine Q_run SV 6 rfl ?_; cases h202 : (decide (y155.fSpan.fFrom < 0))
               · have hF := bF' h202 hF; refine Q_run SV 9 rfl ?_; cases h203 : (decide (y155.fSpan.fTo ≤ y155.fSpan.fFrom))
                 · have hF := bF' h203 hF; refine QV rfl ?_; exact join (decide (1000000000000 < y155.fSpan.fTo)) _ _ hF sw
                 have hF := bT' h203 hF; refine QV rfl ?_; exact join true _ _ hF sw
               have hF := bT' h202 hF; refine QV rfl ?_; exact join true _ _ hF sw
             have hF := bT' h201 hF; refine QV rfl ?_; exact join true _ _ hF sw
           have hF := bT' h200 hF; refine QV rfl ?_; exact join true _ _ hF sw
         have hF := bT' h199 hF; refine QV rfl ?_; exact join true _ _ hF sw
       have hF := bT' h198 hF; refine QV rfl ?_; exact join true _ _ hF sw
     have hF := bT' h197 hF; refine QV rfl ?_; exact join true _ _ hF sw
   have hF := bT' h196 hF; refine QV rfl ?_; exact join true _ _ hF sw
 refine W_exit ?_; refine thenQ_exit ?_; refine thenQ_exit ?_; refine blockQ_hit ?_; exact brk_0 _ _ _ (oi hF) sw
def tracebookref32_rows_L1 (p0 : api_Trace) : (Int × Int) → Option ((Int × Int) ⊕ Int) := fun (a169, a170) =>
  (((bif (decide (a170 < (List.length p0.fLost : Int))) then some (decide (a169 = 0)) else some false) : Option Bool).bind fun v184 => (bif v184 then ((((idx p0.fLost a170).bind fun y186 => ((tracebookref32_Has p0 y186.fThread).bind fun r187 => (bif (!r187) then some 5 else ((((tracebookref04_Valid y186.fSpan).bind fun r190 => (bif (!r190) then some true else (bif (decide (y186.fCount < 1)) then some true else some (decide (1000000000000000 < y186.fCount))))) : Option Bool).bind fun v188 => (bif v188 then some 2 else some a169))))) : Option Int).bind fun v185 => some (.inl (v185, (w64 (a170 + 1))))) else some (.inr a169)))
def tracebookref32_rows_L2 (p0 : api_Trace) : (Int × Int) → Option ((Int × Int) ⊕ Int) := fun (a129, a130) =>
  (((bif (decide (a130 < (List.length p0.fBlocks : Int))) then some (decide (a129 = 0)) else some false) : Option Bool).bind fun v196 => (bif v196 then ((((idx p0.fBlocks a130).bind fun y198 => ((tracebookref32_Has p0 y198.fThread).bind fun r199 => (bif (!r199) then some 5 else some a129))) : Option Int).bind fun v197 => some (.inl (v197, (w64 (a130 + 1))))) else some (.inr a129)))
def tracebookref32_rows_L3 (p0 : api_Trace) : (Int × Int) → Option ((Int × Int) ⊕ Int) := fun (a97, a98) =>
  (((bif (decide (a98 < (List.length p0.fSamples : Int))) then some (decide (a97 = 0)) else some false) : Option Bool).bind fun v207 => (bif v207 then ((((idx p0.fSamples a98).bind fun y209 => ((tracebookref32_Has p0 y209.fThread).bind fun r210 => (bif (!r210) then some 5 else some a97))) : Option Int).bind fun v208 => some (.inl (v208, (w64 (a98 + 1))))) else some (.inr a97)))
def tracebookref32_rows_L4 (p0 : api_Trace) : (Int × Int) → Option ((Int × Int) ⊕ Int) := fun (a62, a63) =>
  (((bif (decide (a63 < (List.length p0.fFlows : Int))) then some (decide (a62 = 0)) else some false) : Option Bool).bind fun v216 => (bif v216 then ((((((idx p0.fFlows a63).bind fun y220 => ((tracebookref32_Has p0 y220.fFrom.fThread).bind fun r221 => (bif (!r221) then some true else ((idx p0.fFlows a63).bind fun y223 => ((tracebookref32_Has p0 y223.fTo.fThread).bind fun r224 => some (!r224)))))) : Option Bool).bind fun v218 => (bif v218 then some 5 else some a62)) : Option Int).bind fun v217 => some (.inl (v217, (w64 (a63 + 1))))) else some (.inr a62)))
def tracebookref32_rows_L5 (p0 : api_Trace) : (Int × Int) → Option ((Int × Int) ⊕ Int) := fun (a22, a23) =>
  (((bif (decide (a23 < (List.length p0.fSlices : Int))) then some (decide (a22 = 0)) else some false) : Option Bool).bind fun v231 => (bif v231 then ((((idx p0.fSlices a23).bind fun y233 => ((tracebookref32_Has p0 y233.fThread).bind fun r234 => (bif (!r234) then some 5 else some a22))) : Option Int).bind fun v232 => some (.inl (v232, (w64 (a23 + 1))))) else some (.inr a22)))
def tracebookref32_rows (p0 : api_Trace) : Option Int :=
  ((tracebookref26_Check p0.fSlices).bind fun r1 => ((loop (tracebookref32_rows_L5 p0) (r1, 0)).bind fun e31 => (((bif (decide (e31 = 0)) then ((tracebookref27_Check p0.fThreads p0.fStates).bind fun r229 => some r229) else some e31) : Option Int).bind fun v32 => (((bif (decide (v32 = 0)) then ((tracebookref28_Check p0.fFlows).bind fun r227 => some r227) else some v32) : Option Int).bind fun v33 => ((loop (tracebookref32_rows_L4 p0) (v33, 0)).bind fun e75 => (((bif (decide (e75 = 0)) then ((tracebookref29_Check p0.fSamples).bind fun r214 => some r214) else some e75) : Option Int).bind fun v76 => ((loop (tracebookref32_rows_L3 p0) (v76, 0)).bind fun e106 => (((bif (decide (e106 = 0)) then ((tracebookref30_Check p0.fSteps).bind fun r205 => some r205) else some e106) : Option Int).bind fun v107 => (((bif (decide (v107 = 0)) then ((tracebookref31_Check p0.fBlocks).bind fun r203 => some r203) else some v107) : Option Int).bind fun v108 => ((loop (tracebookref32_rows_L2 p0) (v108, 0)).bind fun e138 => ((loop (tracebookref32_rows_L1 p0) (e138, 0)).bind fun e183 => some e183)))))))))))
theorem tracebookref32_rows_fun (p0 : api_Trace) (r : Int) (hF : tracebookref32_rows p0 = some r) : Fun Tryz.prog 87 true [] [.agg (m_api_Trace p0)] noHeap (cI r) noHeap := by
 refine Fun.of_walk0 Tryz.func87 c87 (by kernel_rfl) (rs := [.tmp 2]) (by kernel_rfl) ?_; unfold v87
 unfold tracebookref32_rows at hF
 refine wA rfl ?_; refine wC 2 rfl ?_; obtain ⟨r1, hr1, hF⟩ := bB hF
 refine rS (T_call (tracebookref26_Check_fun _ _ hr1) ⟨rfl, trivial⟩ rfl (.inl rfl) ?_); refine QV rfl ?_; refine W_seq ?_; refine wA rfl ?_; refine W_for (fun _ _ h => h) hF (id) (fun (a22, a23) => [(1, cP (1,0) 0), (3, cI a22), (4, cI a23)]) (fun (a22, a23) => [((1,0), .box (m_api_Trace p0))]) (fun e31 => [(1, cP (1,0) 0), (3, cI e31)]) (fun e31 => [((1,0), .box (m_api_Trace p0))]) sw ?_ ?_
 · rintro e31 hF
   refine W_seq ?_; refine wA rfl ?_; refine W_join (fun _ _ h => h) hF (fun v32 => [(1, cP (1,0) 0), (3, cI v32)]) (fun v32 => [((1,0), .box (m_api_Trace p0))]) ?_ ?_
   · rintro v32 hF
     refine W_seq ?_; refine wA rfl ?_; refine W_join (fun _ _ h => h) hF (fun v33 => [(1, cP (1,0) 0), (3, cI v33)]) (fun v33 => [((1,0), .box (m_api_Trace p0))]) ?_ ?_
     · rintro v33 hF
       refine W_seq ?_; refine wA rfl ?_; refine W_for (fun _ _ h => h) hF (id) (fun (a62, a63) => [(1, cP (1,0) 0), (3, cI a62), (5, cI a63)]) (fun (a62, a63) => [((1,0), .box (m_api_Trace p0))]) (fun e75 => [(1, cP (1,0) 0), (3, cI e75)]) (fun e75 => [((1,0), .box (m_api_Trace p0))]) sw ?_ ?_
       · rintro e75 hF
         refine W_seq ?_; refine wA rfl ?_; refine W_join (fun _ _ h => h) hF (fun v76 => [(1, cP (1,0) 0), (3, cI v76)]) (fun v76 => [((1,0), .box (m_api_Trace p0))]) ?_ ?_
         · rintro v76 hF
           refine W_seq ?_; refine wA rfl ?_; refine W_for (fun _ _ h => h) hF (id) (fun (a97, a98) => [(1, cP (1,0) 0), (3, cI a97), (6, cI a98)]) (fun (a97, a98) => [((1,0), .box (m_api_Trace p0))]) (fun e106 => [(1, cP (1,0) 0), (3, cI e106)]) (fun e106 => [((1,0), .box (m_api_Trace p0))]) sw ?_ ?_
           · rintro e106 hF
             refine W_seq ?_; refine wA rfl ?_; refine W_join (fun _ _ h => h) hF (fun v107 => [(1, cP (1,0) 0), (3, cI v107)]) (fun v107 => [((1,0), .box (m_api_Trace p0))]) ?_ ?_
             · rintro v107 hF
               refine W_seq ?_; refine wA rfl ?_; refine W_join (fun _ _ h => h) hF (fun v108 => [(1, cP (1,0) 0), (3, cI v108)]) (fun v108 => [((1,0), .box (m_api_Trace p0))]) ?_ ?_
               · rintro v108 hF
                 refine W_seq ?_; refine wA rfl ?_; refine W_for (fun _ _ h => h) hF (id) (fun (a129, a130) => [(1, cP (1,0) 0), (3, cI a129), (7, cI a130)]) (fun (a129, a130) => [((1,0), .box (m_api_Trace p0))]) (fun e138 => [(1, cP (1,0) 0), (3, cI e138)]) (fun e138 => [((1,0), .box (m_api_Trace p0))]) sw ?_ ?_
                 · rintro e138 hF
                   refine W_seq ?_; refine wA rfl ?_; refine W_for (fun _ _ h => h) hF (id) (fun (a169, a170) => [(1, cP (1,0) 0), (3, cI a169), (8, cI a170)]) (fun (a169, a170) => [((1,0), .box (m_api_Trace p0))]) (fun e183 => [(3, cI e183)]) (fun e183 => []) sw ?_ ?_
                   · rintro e183 hF
                     refine wA rfl ?_; cases hF
                     exact W_ret wR
                   rintro ⟨a169, a170⟩ x_0 hF cont_0 brk_0 fin_0
                   unfold tracebookref32_rows_L1 at hF
                   refine W_seq ?_; refine W_seq ?_; refine W_join (fun _ _ h => h) hF (fun v184 => [(1, cP (1,0) 0), (3, cI a169), (8, cI a170), (141, cB v184)]) (fun v184 => [((1,0), .box (m_api_Trace p0))]) ?_ ?_
                   · rintro v184 hF
                     refine wIf hF rfl (fun _ hF => ?_) fun _ hF => ?_
                     · refine W_skip ?_; refine W_seq ?_; refine W_join (fun _ _ h => h) hF (fun v185 => [(1, cP (1,0) 0), (3, cI v185), (8, cI a170)]) (fun v185 => [((1,0), .box (m_api_Trace p0))]) ?_ ?_
                       · rintro v185 hF
                         refine wB rfl ?_; exact cont_0 _ _ _ (oi hF) sw
                       intro join hF
                       refine W_block ?_; refine wC 3 rfl ?_; obtain ⟨y186, hy186, hF⟩ := bB' hF
                       refine rS (T_ixT (tc := t_api_Loss) p0.fLost rfl rfl hy186 ?_); refine QV rfl ?_; refine wC 3 rfl ?_; obtain ⟨r187, hr187, hF⟩ := bB' hF
                       refine rS (T_call (tracebookref32_Has_fun _ _ _ hr187) ⟨⟨rfl, rfl, rfl, rfl, rfl, rfl, rfl, rfl, rfl, rfl, trivial⟩, rfl, trivial⟩ rfl (.inl rfl) ?_); refine QV rfl ?_; refine wIf' hF rfl (fun _ hF => ?_) fun _ hF => ?_
                       · refine wB rfl ?_; exact join 5 _ _ hF sw
                       refine W_seq ?_; have hF := bA hF; refine W_join (fun _ _ h => h) hF (fun v188 => [(1, cP (1,0) 0), (3, cI a169), (8, cI a170), (167, cB v188)]) (fun v188 => [((1,0), .box (m_api_Trace p0))]) ?_ ?_
                       · rintro v188 hF
                         refine wIf' hF rfl (fun _ hF => ?_) fun _ hF => ?_
                         · refine wB rfl ?_; exact join 2 _ _ hF sw
                         refine W_skip ?_; exact join a169 _ _ hF sw
                       intro join hF
                       refine wD 2 rfl ?_; obtain ⟨r190, hr190, hF⟩ := bB' hF
                       refine rS (T_call (tracebookref04_Valid_fun _ _ hr190) ⟨⟨rfl, rfl, trivial⟩, trivial⟩ rfl (.inl rfl) ?_); refine Q_run SV 2 rfl ?_; cases h191 : (!r190)
                       · have hF := bF' h191 hF; refine Q_run SV 5 rfl ?_; cases h192 : (decide (y186.fCount < 1))
                         · have hF := bF' h192 hF; refine QV rfl ?_; exact join (decide (1000000000000000 < y186.fCount)) _ _ hF sw
                         have hF := bT' h192 hF; refine QV rfl ?_; exact join true _ _ hF sw
                       have hF := bT' h191 hF; refine QV rfl ?_; exact join true _ _ hF sw
                     refine W_exit ?_; refine thenQ_exit ?_; refine thenQ_exit ?_; refine blockQ_hit ?_; exact brk_0 _ _ _ (oi hF) sw
                   intro join hF
                   refine wD 3 rfl ?_; refine rS (T_len (tc := t_api_Loss) p0.fLost .tree ?_); refine Q_run SV 2 rfl ?_; cases h195 : (decide (a170 < (List.length p0.fLost : Int)))
                   · have hF := bF' h195 hF; refine QV rfl ?_; exact join false _ _ hF sw
                   have hF := bT' h195 hF; refine QV rfl ?_; exact join (decide (a169 = 0)) _ _ hF sw
                 rintro ⟨a129, a130⟩ x_0 hF cont_0 brk_0 fin_0
                 unfold tracebookref32_rows_L2 at hF
                 refine W_seq ?_; refine W_seq ?_; refine W_join (fun _ _ h => h) hF (fun v196 => [(1, cP (1,0) 0), (3, cI a129), (7, cI a130), (121, cB v196)]) (fun v196 => [((1,0), .box (m_api_Trace p0))]) ?_ ?_
                 · rintro v196 hF
                   refine wIf hF rfl (fun _ hF => ?_) fun _ hF => ?_
                   · refine W_skip ?_; refine W_seq ?_; refine W_join (fun _ _ h => h) hF (fun v197 => [(1, cP (1,0) 0), (3, cI v197), (7, cI a130)]) (fun v197 => [((1,0), .box (m_api_Trace p0))]) ?_ ?_
                     · rintro v197 hF
                       refine wB rfl ?_; exact cont_0 _ _ _ (oi hF) sw
                     intro join hF
                     refine W_block ?_; refine W_seq ?_; refine W_regD (by decide) (by kernel_rfl) rfl ?_; refine Q_run SP 4 rfl ?_; obtain ⟨y198, hy198, hF⟩ := bB' hF
                     refine R_step SP trivial (T_ixT (tc := t_api_Block) p0.fBlocks rfl rfl hy198 ?_); refine Q_run SP 2 rfl ?_; obtain ⟨r199, hr199, hF⟩ := bB' hF
                     refine R_step SP trivial (T_call (tracebookref32_Has_fun _ _ _ hr199) ⟨⟨rfl, rfl, rfl, rfl, rfl, rfl, rfl, rfl, rfl, rfl, trivial⟩, rfl, trivial⟩ rfl (.inl rfl) ?_); refine QP rfl ?_; refine wIf' hF rfl (fun _ hF => ?_) fun _ hF => ?_
                     · refine wB rfl ?_; exact join 5 _ _ hF sw
                     refine W_skip ?_; exact join a129 _ _ hF sw
                   refine W_exit ?_; refine thenQ_exit ?_; refine thenQ_exit ?_; refine blockQ_hit ?_; exact brk_0 _ _ _ (oi hF) sw
                 intro join hF
                 refine wD 3 rfl ?_; refine rS (T_len (tc := t_api_Block) p0.fBlocks .tree ?_); refine Q_run SV 2 rfl ?_; cases h202 : (decide (a130 < (List.length p0.fBlocks : Int)))
                 · have hF := bF' h202 hF; refine QV rfl ?_; exact join false _ _ hF sw
                 have hF := bT' h202 hF; refine QV rfl ?_; exact join (decide (a129 = 0)) _ _ hF sw
               intro join hF
               refine wIf' hF rfl (fun _ hF => ?_) fun _ hF => ?_
               · refine wD 2 rfl ?_; obtain ⟨r203, hr203, hF⟩ := bB' hF
                 refine rS (T_call (tracebookref31_Check_fun _ _ hr203) ⟨rfl, trivial⟩ rfl (.inl rfl) ?_); refine QV rfl ?_; exact join r203 _ _ hF sw
               refine W_skip ?_; exact join v107 _ _ hF sw
             intro join hF
             refine wIf' hF rfl (fun _ hF => ?_) fun _ hF => ?_
             · refine wD 2 rfl ?_; obtain ⟨r205, hr205, hF⟩ := bB' hF
               refine rS (T_call (tracebookref30_Check_fun _ _ hr205) ⟨rfl, trivial⟩ rfl (.inl rfl) ?_); refine QV rfl ?_; exact join r205 _ _ hF sw
             refine W_skip ?_; exact join e106 _ _ hF sw
           rintro ⟨a97, a98⟩ x_0 hF cont_0 brk_0 fin_0
           unfold tracebookref32_rows_L3 at hF
           refine W_seq ?_; refine W_seq ?_; refine W_join (fun _ _ h => h) hF (fun v207 => [(1, cP (1,0) 0), (3, cI a97), (6, cI a98), (91, cB v207)]) (fun v207 => [((1,0), .box (m_api_Trace p0))]) ?_ ?_
           · rintro v207 hF
             refine wIf hF rfl (fun _ hF => ?_) fun _ hF => ?_
             · refine W_skip ?_; refine W_seq ?_; refine W_join (fun _ _ h => h) hF (fun v208 => [(1, cP (1,0) 0), (3, cI v208), (6, cI a98)]) (fun v208 => [((1,0), .box (m_api_Trace p0))]) ?_ ?_
               · rintro v208 hF
                 refine wB rfl ?_; exact cont_0 _ _ _ (oi hF) sw
               intro join hF
               refine W_block ?_; refine W_seq ?_; refine W_regD (by decide) (by kernel_rfl) rfl ?_; refine Q_run SP 4 rfl ?_; obtain ⟨y209, hy209, hF⟩ := bB' hF
               refine R_step SP trivial (T_ixT (tc := t_api_Sample) p0.fSamples rfl rfl hy209 ?_); refine Q_run SP 2 rfl ?_; obtain ⟨r210, hr210, hF⟩ := bB' hF
               refine R_step SP trivial (T_call (tracebookref32_Has_fun _ _ _ hr210) ⟨⟨rfl, rfl, rfl, rfl, rfl, rfl, rfl, rfl, rfl, rfl, trivial⟩, rfl, trivial⟩ rfl (.inl rfl) ?_); refine QP rfl ?_; refine wIf' hF rfl (fun _ hF => ?_) fun _ hF => ?_
               · refine wB rfl ?_; exact join 5 _ _ hF sw
               refine W_skip ?_; exact join a97 _ _ hF sw
             refine W_exit ?_; refine thenQ_exit ?_; refine thenQ_exit ?_; refine blockQ_hit ?_; exact brk_0 _ _ _ (oi hF) sw
           intro join hF
           refine wD 3 rfl ?_; refine rS (T_len (tc := t_api_Sample) p0.fSamples .tree ?_); refine Q_run SV 2 rfl ?_; cases h213 : (decide (a98 < (List.length p0.fSamples : Int)))
           · have hF := bF' h213 hF; refine QV rfl ?_; exact join false _ _ hF sw
           have hF := bT' h213 hF; refine QV rfl ?_; exact join (decide (a97 = 0)) _ _ hF sw
         intro join hF
         refine wIf' hF rfl (fun _ hF => ?_) fun _ hF => ?_
         · refine wD 2 rfl ?_; obtain ⟨r214, hr214, hF⟩ := bB' hF
           refine rS (T_call (tracebookref29_Check_fun _ _ hr214) ⟨rfl, trivial⟩ rfl (.inl rfl) ?_); refine QV rfl ?_; exact join r214 _ _ hF sw
         refine W_skip ?_; exact join e75 _ _ hF sw
       rintro ⟨a62, a63⟩ x_0 hF cont_0 brk_0 fin_0
       unfold tracebookref32_rows_L4 at hF
       refine W_seq ?_; refine W_seq ?_; refine W_join (fun _ _ h => h) hF (fun v216 => [(1, cP (1,0) 0), (3, cI a62), (5, cI a63), (53, cB v216)]) (fun v216 => [((1,0), .box (m_api_Trace p0))]) ?_ ?_
       · rintro v216 hF
         refine wIf hF rfl (fun _ hF => ?_) fun _ hF => ?_
         · refine W_skip ?_; refine W_seq ?_; refine W_join (fun _ _ h => h) hF (fun v217 => [(1, cP (1,0) 0), (3, cI v217), (5, cI a63)]) (fun v217 => [((1,0), .box (m_api_Trace p0))]) ?_ ?_
           · rintro v217 hF
             refine wB rfl ?_; exact cont_0 _ _ _ (oi hF) sw
           intro join hF
           refine W_block ?_; refine W_seq ?_; have hF := bA hF; refine W_join (fun _ _ h => h) hF (fun v218 => [(1, cP (1,0) 0), (3, cI a62), (5, cI a63), (77, cB v218)]) (fun v218 => [((1,0), .box (m_api_Trace p0))]) ?_ ?_
           · rintro v218 hF
             refine wIf' hF rfl (fun _ hF => ?_) fun _ hF => ?_
             · refine wB rfl ?_; exact join 5 _ _ hF sw
             refine W_skip ?_; exact join a62 _ _ hF sw
           intro join hF
           refine W_regD (by decide) (by kernel_rfl) rfl ?_; refine Q_run SP 4 rfl ?_; obtain ⟨y220, hy220, hF⟩ := bB' hF
           refine R_step SP trivial (T_ixT (tc := t_api_Flow) p0.fFlows rfl rfl hy220 ?_); refine Q_run SP 3 rfl ?_; obtain ⟨r221, hr221, hF⟩ := bB' hF
           refine R_step SP trivial (T_call (tracebookref32_Has_fun _ _ _ hr221) ⟨⟨rfl, rfl, rfl, rfl, rfl, rfl, rfl, rfl, rfl, rfl, trivial⟩, rfl, trivial⟩ rfl (.inl rfl) ?_); refine Q_run SP 2 rfl ?_; cases h222 : (!r221)
           · have hF := bF' h222 hF; refine Q_run SP 4 rfl ?_; obtain ⟨y223, hy223, hF⟩ := bB' hF
             refine R_step SP rfl (T_ixT (tc := t_api_Flow) p0.fFlows rfl rfl hy223 ?_); refine Q_run SP 3 rfl ?_; obtain ⟨r224, hr224, hF⟩ := bB' hF
             refine R_step SP rfl (T_call (tracebookref32_Has_fun _ _ _ hr224) ⟨⟨rfl, rfl, rfl, rfl, rfl, rfl, rfl, rfl, rfl, rfl, trivial⟩, rfl, trivial⟩ rfl (.inl rfl) ?_); refine QP rfl ?_; exact join (!r224) _ _ hF sw
           have hF := bT' h222 hF; refine QP rfl ?_; exact join true _ _ hF sw
         refine W_exit ?_; refine thenQ_exit ?_; refine thenQ_exit ?_; refine blockQ_hit ?_; exact brk_0 _ _ _ (oi hF) sw
       intro join hF
       refine wD 3 rfl ?_; refine rS (T_len (tc := t_api_Flow) p0.fFlows .tree ?_); refine Q_run SV 2 rfl ?_; cases h226 : (decide (a63 < (List.length p0.fFlows : Int)))
       · have hF := bF' h226 hF; refine QV rfl ?_; exact join false _ _ hF sw
       have hF := bT' h226 hF; refine QV rfl ?_; exact join (decide (a62 = 0)) _ _ hF sw
     intro join hF
     refine wIf' hF rfl (fun _ hF => ?_) fun _ hF => ?_
     · refine wD 2 rfl ?_; obtain ⟨r227, hr227, hF⟩ := bB' hF
       refine rS (T_call (tracebookref28_Check_fun _ _ hr227) ⟨rfl, trivial⟩ rfl (.inl rfl) ?_); refine QV rfl ?_; exact join r227 _ _ hF sw
     refine W_skip ?_; exact join v32 _ _ hF sw
   intro join hF
   refine wIf' hF rfl (fun _ hF => ?_) fun _ hF => ?_
   · refine wD 4 rfl ?_; obtain ⟨r229, hr229, hF⟩ := bB' hF
     refine rS (T_call (tracebookref27_Check_fun _ _ _ hr229) ⟨rfl, rfl, trivial⟩ rfl (.inl rfl) ?_); refine QV rfl ?_; exact join r229 _ _ hF sw
   refine W_skip ?_; exact join e31 _ _ hF sw
 rintro ⟨a22, a23⟩ x_0 hF cont_0 brk_0 fin_0
 unfold tracebookref32_rows_L5 at hF
 refine W_seq ?_; refine W_seq ?_; refine W_join (fun _ _ h => h) hF (fun v231 => [(1, cP (1,0) 0), (3, cI a22), (4, cI a23), (21, cB v231)]) (fun v231 => [((1,0), .box (m_api_Trace p0))]) ?_ ?_
 · rintro v231 hF
   refine wIf hF rfl (fun _ hF => ?_) fun _ hF => ?_
   · refine W_skip ?_; refine W_seq ?_; refine W_join (fun _ _ h => h) hF (fun v232 => [(1, cP (1,0) 0), (3, cI v232), (4, cI a23)]) (fun v232 => [((1,0), .box (m_api_Trace p0))]) ?_ ?_
     · rintro v232 hF
       refine wB rfl ?_; exact cont_0 _ _ _ (oi hF) sw
     intro join hF
     refine W_block ?_; refine W_seq ?_; refine W_regD (by decide) (by kernel_rfl) rfl ?_; refine Q_run SP 4 rfl ?_; obtain ⟨y233, hy233, hF⟩ := bB' hF
     refine R_step SP trivial (T_ixT (tc := t_api_Slice) p0.fSlices rfl rfl hy233 ?_); refine Q_run SP 2 rfl ?_; obtain ⟨r234, hr234, hF⟩ := bB' hF
     refine R_step SP trivial (T_call (tracebookref32_Has_fun _ _ _ hr234) ⟨⟨rfl, rfl, rfl, rfl, rfl, rfl, rfl, rfl, rfl, rfl, trivial⟩, rfl, trivial⟩ rfl (.inl rfl) ?_); refine QP rfl ?_; refine wIf' hF rfl (fun _ hF => ?_) fun _ hF => ?_
     · refine wB rfl ?_; exact join 5 _ _ hF sw
     refine W_skip ?_; exact join a22 _ _ hF sw
   refine W_exit ?_; refine thenQ_exit ?_; refine thenQ_exit ?_; refine blockQ_hit ?_; exact brk_0 _ _ _ (oi hF) sw
 intro join hF
 refine wD 3 rfl ?_; refine rS (T_len (tc := t_api_Slice) p0.fSlices .tree ?_); refine Q_run SV 2 rfl ?_; cases h237 : (decide (a23 < (List.length p0.fSlices : Int)))
 · have hF := bF' h237 hF; refine QV rfl ?_; exact join false _ _ hF sw
 have hF := bT' h237 hF; refine QV rfl ?_; exact join (decide (a22 = 0)) _ _ hF sw
def tracebookref32_tables_L1 (p0 : api_Trace) (a52 : Int) : Int → Option (Int ⊕ (Unit ⊕ (Int ⊕ (Unit ⊕ Int)))) := fun a91 =>
  (bif (decide (a91 < a52)) then ((idx p0.fThreads a91).bind fun y96 => ((idx p0.fThreads a52).bind fun y97 => (bif (decide (y96.fId = y97.fId)) then some (.inr (.inr (.inr (.inr 4)))) else some (.inl (w64 (a91 + 1)))))) else some (.inr (.inl ())))
def tracebookref32_tables_L2 (p0 : api_Trace) : Int → Option (Int ⊕ (Unit ⊕ Int)) := fun a52 =>
  (bif (decide (a52 < (List.length p0.fThreads : Int))) then ((idx p0.fThreads a52).bind fun y78 => ((tracebookref10_Thread y78).bind fun r79 => (bif (!decide (r79 = 0)) then some (.inr (.inr r79)) else ((loop (tracebookref32_tables_L1 p0 a52) 0).bind fun | .inl _ => some (.inl (w64 (a52 + 1))) | .inr rv => some rv)))) else some (.inr (.inl ())))
def tracebookref32_tables (p0 : api_Trace) : Option Int :=
  (bif (decide (64 < (List.length p0.fThreads : Int))) then some 7 else ((loop (tracebookref32_tables_L2 p0) 0).bind fun | .inl _ => ((tracebookref32_rows p0).bind fun r77 => some r77) | .inr rv => some rv))
theorem tracebookref32_tables_fun (p0 : api_Trace) (r : Int) (hF : tracebookref32_tables p0 = some r) : Fun Tryz.prog 48 true [] [.agg (m_api_Trace p0)] noHeap (cI r) noHeap := by
 refine Fun.of_walk0 Tryz.func48 c48 (by kernel_rfl) (rs := [.tmp 2]) (by kernel_rfl) ?_; unfold v48
 unfold tracebookref32_tables at hF
 refine wA rfl ?_; refine W_seq ?_; refine wC 2 rfl ?_; refine rS (T_len (tc := t_api_Thread) p0.fThreads .tree ?_); refine QV rfl ?_; refine wIf hF rfl (fun _ hF => ?_) fun _ hF => ?_
 · refine wA rfl ?_; cases hF
   exact W_ret wR
 refine W_skip ?_; refine W_seq ?_; refine wA rfl ?_; refine W_for (fun _ _ h => h) hF (.inl) (fun a52 => [(1, cP (1,0) 0), (3, cI a52)]) (fun a52 => [((1,0), .box (m_api_Trace p0))]) (fun _ => [(1, cP (1,0) 0)]) (fun _ => [((1,0), .box (m_api_Trace p0))]) sw ?_ ?_
 · rintro ⟨⟩ hF
   refine wC 1 rfl ?_; obtain ⟨r77, hr77, hF⟩ := bB hF
   refine rS (T_call (tracebookref32_rows_fun _ _ hr77) ⟨⟨rfl, rfl, rfl, rfl, rfl, rfl, rfl, rfl, rfl, rfl, trivial⟩, trivial⟩ rfl (.inl rfl) ?_); refine QV rfl ?_; cases hF
   exact W_ret wR
 rintro a52 x_0 hF cont_0 brk_0 fin_0
 unfold tracebookref32_tables_L2 at hF
 refine W_seq ?_; refine wC 3 rfl ?_; refine rS (T_len (tc := t_api_Thread) p0.fThreads .tree ?_); refine QV rfl ?_; refine wIf hF rfl (fun _ hF => ?_) fun _ hF => ?_
 · refine W_skip ?_; refine W_seq ?_; refine W_block ?_; refine wC 3 rfl ?_; obtain ⟨y78, hy78, hF⟩ := bB hF
   refine rS (T_ixT (tc := t_api_Thread) p0.fThreads rfl rfl hy78 ?_); refine Q_run SV 1 rfl ?_; obtain ⟨r79, hr79, hF⟩ := bB hF
   refine rS (T_call (tracebookref10_Thread_fun _ _ hr79) ⟨⟨rfl, rfl, rfl, trivial⟩, trivial⟩ rfl (.inl rfl) ?_); refine QV rfl ?_; refine W_seq ?_; refine wA rfl ?_; refine wIf hF rfl (fun _ hF => ?_) fun _ hF => ?_
   · refine wA rfl ?_; have hF := fin_0 _ (oi hF); cases hF
     exact W_ret wR
   refine W_skip ?_; refine wA rfl ?_; refine W_for (fun _ _ h => h) hF (.inl) (fun a91 => [(1, cP (1,0) 0), (3, cI a52), (5, cI a91)]) (fun a91 => [((1,0), .box (m_api_Trace p0))]) (fun _ => [(1, cP (1,0) 0), (3, cI a52)]) (fun _ => [((1,0), .box (m_api_Trace p0))]) sw ?_ ?_
   · rintro ⟨⟩ hF
     refine wB rfl ?_; exact cont_0 _ _ _ (oi hF) sw
   rintro a91 x_1 hF cont_1 brk_1 fin_1
   unfold tracebookref32_tables_L1 at hF
   refine W_seq ?_; refine wA rfl ?_; refine wIf hF rfl (fun _ hF => ?_) fun _ hF => ?_
   · refine W_skip ?_; refine W_seq ?_; refine W_block ?_; refine W_seq ?_; refine W_regD (by decide) (by kernel_rfl) rfl ?_; refine Q_run SP 3 rfl ?_; obtain ⟨y96, hy96, hF⟩ := bB hF
     refine R_step SP trivial (T_ixT (tc := t_api_Thread) p0.fThreads rfl rfl hy96 ?_); refine Q_run SP 5 rfl ?_; obtain ⟨y97, hy97, hF⟩ := bB hF
     refine R_step SP trivial (T_ixT (tc := t_api_Thread) p0.fThreads rfl rfl hy97 ?_); refine QP rfl ?_; refine wIf hF rfl (fun _ hF => ?_) fun _ hF => ?_
     · refine wA rfl ?_; have hF := fin_1 _ (oi hF); have hF := fin_0 _ (oi hF); cases hF
       exact W_ret wR
     refine W_skip ?_; refine wB rfl ?_; exact cont_1 _ _ _ (oi hF) sw
   refine W_exit ?_; refine thenQ_exit ?_; refine thenQ_exit ?_; refine blockQ_hit ?_; exact brk_1 _ _ _ (oi hF) sw
 refine W_exit ?_; refine thenQ_exit ?_; refine thenQ_exit ?_; refine blockQ_hit ?_; exact brk_0 _ _ _ (oi hF) sw
def tracebookref32_within (p0 : api_Span) (p1 : api_Span) : Option Bool :=
  (((bif (decide (p1.fFrom ≤ p0.fFrom)) then some (decide (p0.fTo ≤ p1.fTo)) else some false) : Option Bool).bind fun v1 => some v1)
theorem tracebookref32_within_fun (p0 : api_Span) (p1 : api_Span) (r : Bool) (hF : tracebookref32_within p0 p1 = some r) : Fun Tryz.prog 49 true [] [.agg [jI p0.fFrom, jI p0.fTo], .agg [jI p1.fFrom, jI p1.fTo]] noHeap (cB r) noHeap := by
 refine Fun.of_walk0 Tryz.func49 c49 (by kernel_rfl) (rs := [.tmp 4]) (by kernel_rfl) ?_; unfold v49
 unfold tracebookref32_within at hF
 refine wA rfl ?_; refine W_seq ?_; refine W_join (fun _ _ h => h) hF (fun v1 => [(4, cB v1)]) (fun v1 => []) ?_ ?_
 · rintro v1 hF
   cases hF
   exact W_ret wR
 intro join hF
 refine wD 6 rfl ?_; cases h2 : (decide (p1.fFrom ≤ p0.fFrom))
 · have hF := bF' h2 hF; refine QV rfl ?_; exact join false _ _ hF sw
 have hF := bT' h2 hF; refine QV rfl ?_; exact join (decide (p0.fTo ≤ p1.fTo)) _ _ hF sw
def tracebookref32_inside (p0 : Int) (p1 : api_Span) : Option Bool :=
  (((bif (decide (p1.fFrom ≤ p0)) then some (decide (p0 < p1.fTo)) else some false) : Option Bool).bind fun v1 => some v1)
theorem tracebookref32_inside_fun (p0 : Int) (p1 : api_Span) (r : Bool) (hF : tracebookref32_inside p0 p1 = some r) : Fun Tryz.prog 50 true [] [cI p0, .agg [jI p1.fFrom, jI p1.fTo]] noHeap (cB r) noHeap := by
 refine Fun.of_walk0 Tryz.func50 c50 (by kernel_rfl) (rs := [.tmp 4]) (by kernel_rfl) ?_; unfold v50
 unfold tracebookref32_inside at hF
 refine wA rfl ?_; refine W_seq ?_; refine W_join (fun _ _ h => h) hF (fun v1 => [(4, cB v1)]) (fun v1 => []) ?_ ?_
 · rintro v1 hF
   cases hF
   exact W_ret wR
 intro join hF
 refine wD 5 rfl ?_; cases h2 : (decide (p1.fFrom ≤ p0))
 · have hF := bF' h2 hF; refine QV rfl ?_; exact join false _ _ hF sw
 have hF := bT' h2 hF; refine QV rfl ?_; exact join (decide (p0 < p1.fTo)) _ _ hF sw
def tracebookref32_Check_L1 (p0 : api_Trace) : (Bool × Int) → Option ((Bool × Int) ⊕ Bool) := fun (a146, a147) =>
  (bif (decide (a147 < (List.length p0.fSteps : Int))) then (((bif a146 then ((idx p0.fSteps a147).bind fun y157 => ((tracebookref32_inside y157.fAt p0.fSpan).bind fun r158 => some r158)) else some false) : Option Bool).bind fun v155 => some (.inl (v155, (w64 (a147 + 1))))) else some (.inr a146))
def tracebookref32_Check_L2 (p0 : api_Trace) : (Bool × Int) → Option ((Bool × Int) ⊕ Bool) := fun (a122, a123) =>
  (bif (decide (a123 < (List.length p0.fSamples : Int))) then (((bif a122 then ((idx p0.fSamples a123).bind fun y162 => ((tracebookref32_inside y162.fAt p0.fSpan).bind fun r163 => some r163)) else some false) : Option Bool).bind fun v160 => some (.inl (v160, (w64 (a123 + 1))))) else some (.inr a122))
def tracebookref32_Check_L3 (p0 : api_Trace) : (Bool × Int) → Option ((Bool × Int) ⊕ Bool) := fun (a95, a96) =>
  (bif (decide (a96 < (List.length p0.fFlows : Int))) then (((bif a95 then ((idx p0.fFlows a96).bind fun y167 => ((tracebookref32_inside y167.fSend p0.fSpan).bind fun r168 => (bif r168 then ((idx p0.fFlows a96).bind fun y170 => ((tracebookref32_inside y170.fRecv p0.fSpan).bind fun r171 => some r171)) else some false))) else some false) : Option Bool).bind fun v165 => some (.inl (v165, (w64 (a96 + 1))))) else some (.inr a95))
def tracebookref32_Check_L4 (p0 : api_Trace) : (Bool × Int) → Option ((Bool × Int) ⊕ Bool) := fun (a65, a66) =>
  (bif (decide (a66 < (List.length p0.fBlocks : Int))) then (((bif a65 then ((idx p0.fBlocks a66).bind fun y175 => ((tracebookref32_within y175.fSpan p0.fSpan).bind fun r176 => some r176)) else some false) : Option Bool).bind fun v173 => some (.inl (v173, (w64 (a66 + 1))))) else some (.inr a65))
def tracebookref32_Check_L5 (p0 : api_Trace) : (Bool × Int) → Option ((Bool × Int) ⊕ Bool) := fun (a41, a42) =>
  (bif (decide (a42 < (List.length p0.fStates : Int))) then (((bif a41 then ((idx p0.fStates a42).bind fun y180 => ((tracebookref32_within y180.fSpan p0.fSpan).bind fun r181 => some r181)) else some false) : Option Bool).bind fun v178 => some (.inl (v178, (w64 (a42 + 1))))) else some (.inr a41))
def tracebookref32_Check_L6 (p0 : api_Trace) : (Bool × Int) → Option ((Bool × Int) ⊕ Bool) := fun (a17, a18) =>
  (bif (decide (a18 < (List.length p0.fSlices : Int))) then (((bif a17 then ((idx p0.fSlices a18).bind fun y185 => ((tracebookref32_within y185.fSpan p0.fSpan).bind fun r186 => some r186)) else some false) : Option Bool).bind fun v183 => some (.inl (v183, (w64 (a18 + 1))))) else some (.inr a17))
def tracebookref32_Check (p0 : api_Trace) : Option Int :=
  ((tracebookref32_tables p0).bind fun r1 => (bif (!decide (r1 = 0)) then some r1 else (((bif (decide (p0.fSpan.fFrom < 0)) then some true else (bif (decide (p0.fSpan.fTo < p0.fSpan.fFrom)) then some true else some (decide (1000000000000 < p0.fSpan.fTo)))) : Option Bool).bind fun v2 => (bif v2 then some 2 else ((loop (tracebookref32_Check_L6 p0) (true, 0)).bind fun e24 => ((loop (tracebookref32_Check_L5 p0) (e24, 0)).bind fun e48 => ((loop (tracebookref32_Check_L4 p0) (e48, 0)).bind fun e72 => ((loop (tracebookref32_Check_L3 p0) (e72, 0)).bind fun e105 => ((loop (tracebookref32_Check_L2 p0) (e105, 0)).bind fun e129 => ((loop (tracebookref32_Check_L1 p0) (e129, 0)).bind fun e153 => (bif (!e153) then some 10 else some 0)))))))))))
theorem tracebookref32_Check_fun (p0 : api_Trace) (r : Int) (hF : tracebookref32_Check p0 = some r) : Fun Tryz.prog 38 true [] [.agg (m_api_Trace p0)] noHeap (cI r) noHeap := by
 refine Fun.of_walk0 Tryz.func38 c38 (by kernel_rfl) (rs := [.tmp 2]) (by kernel_rfl) ?_; unfold v38
 unfold tracebookref32_Check at hF
 refine wA rfl ?_; refine wC 1 rfl ?_; obtain ⟨r1, hr1, hF⟩ := bB hF
 refine rS (T_call (tracebookref32_tables_fun _ _ hr1) ⟨⟨rfl, rfl, rfl, rfl, rfl, rfl, rfl, rfl, rfl, rfl, trivial⟩, trivial⟩ rfl (.inl rfl) ?_); refine QV rfl ?_; refine W_seq ?_; refine wA rfl ?_; refine wIf hF rfl (fun _ hF => ?_) fun _ hF => ?_
 · refine wA rfl ?_; cases hF
   exact W_ret wR
 refine W_skip ?_; refine wA rfl ?_; refine W_seq ?_; refine W_seq ?_; refine W_join (fun _ _ h => h) hF (fun v2 => [(1, cP (1,0) 0), (4, cP (4,0) 0), (33, cB v2)]) (fun v2 => [((1,0), .box (m_api_Trace p0)), ((4,0), .box [jI p0.fSpan.fFrom, jI p0.fSpan.fTo])]) ?_ ?_
 · rintro v2 hF
   refine wIf hF rfl (fun _ hF => ?_) fun _ hF => ?_
   · refine wA rfl ?_; cases hF
     exact W_ret wR
   refine W_skip ?_; refine wA rfl ?_; refine W_seq ?_; refine wA rfl ?_; refine W_for (fun _ _ h => h) hF (id) (fun (a17, a18) => [(1, cP (1,0) 0), (4, cP (4,0) 0), (5, cB a17), (6, cI a18)]) (fun (a17, a18) => [((1,0), .box (m_api_Trace p0)), ((4,0), .box [jI p0.fSpan.fFrom, jI p0.fSpan.fTo])]) (fun e24 => [(1, cP (1,0) 0), (4, cP (4,0) 0), (5, cB e24)]) (fun e24 => [((1,0), .box (m_api_Trace p0)), ((4,0), .box [jI p0.fSpan.fFrom, jI p0.fSpan.fTo])]) sw ?_ ?_
   · rintro e24 hF
     refine W_seq ?_; refine wA rfl ?_; refine W_for (fun _ _ h => h) hF (id) (fun (a41, a42) => [(1, cP (1,0) 0), (4, cP (4,0) 0), (5, cB a41), (7, cI a42)]) (fun (a41, a42) => [((1,0), .box (m_api_Trace p0)), ((4,0), .box [jI p0.fSpan.fFrom, jI p0.fSpan.fTo])]) (fun e48 => [(1, cP (1,0) 0), (4, cP (4,0) 0), (5, cB e48)]) (fun e48 => [((1,0), .box (m_api_Trace p0)), ((4,0), .box [jI p0.fSpan.fFrom, jI p0.fSpan.fTo])]) sw ?_ ?_
     · rintro e48 hF
       refine W_seq ?_; refine wA rfl ?_; refine W_for (fun _ _ h => h) hF (id) (fun (a65, a66) => [(1, cP (1,0) 0), (4, cP (4,0) 0), (5, cB a65), (8, cI a66)]) (fun (a65, a66) => [((1,0), .box (m_api_Trace p0)), ((4,0), .box [jI p0.fSpan.fFrom, jI p0.fSpan.fTo])]) (fun e72 => [(1, cP (1,0) 0), (4, cP (4,0) 0), (5, cB e72)]) (fun e72 => [((1,0), .box (m_api_Trace p0)), ((4,0), .box [jI p0.fSpan.fFrom, jI p0.fSpan.fTo])]) sw ?_ ?_
       · rintro e72 hF
         refine W_seq ?_; refine wA rfl ?_; refine W_for (fun _ _ h => h) hF (id) (fun (a95, a96) => [(1, cP (1,0) 0), (4, cP (4,0) 0), (5, cB a95), (9, cI a96)]) (fun (a95, a96) => [((1,0), .box (m_api_Trace p0)), ((4,0), .box [jI p0.fSpan.fFrom, jI p0.fSpan.fTo])]) (fun e105 => [(1, cP (1,0) 0), (4, cP (4,0) 0), (5, cB e105)]) (fun e105 => [((1,0), .box (m_api_Trace p0)), ((4,0), .box [jI p0.fSpan.fFrom, jI p0.fSpan.fTo])]) sw ?_ ?_
         · rintro e105 hF
           refine W_seq ?_; refine wA rfl ?_; refine W_for (fun _ _ h => h) hF (id) (fun (a122, a123) => [(1, cP (1,0) 0), (4, cP (4,0) 0), (5, cB a122), (10, cI a123)]) (fun (a122, a123) => [((1,0), .box (m_api_Trace p0)), ((4,0), .box [jI p0.fSpan.fFrom, jI p0.fSpan.fTo])]) (fun e129 => [(1, cP (1,0) 0), (4, cP (4,0) 0), (5, cB e129)]) (fun e129 => [((1,0), .box (m_api_Trace p0)), ((4,0), .box [jI p0.fSpan.fFrom, jI p0.fSpan.fTo])]) sw ?_ ?_
           · rintro e129 hF
             refine W_seq ?_; refine wA rfl ?_; refine W_for (fun _ _ h => h) hF (id) (fun (a146, a147) => [(1, cP (1,0) 0), (4, cP (4,0) 0), (5, cB a146), (11, cI a147)]) (fun (a146, a147) => [((1,0), .box (m_api_Trace p0)), ((4,0), .box [jI p0.fSpan.fFrom, jI p0.fSpan.fTo])]) (fun e153 => [(5, cB e153)]) (fun e153 => []) sw ?_ ?_
             · rintro e153 hF
               refine W_seq ?_; refine wA rfl ?_; refine wIf hF rfl (fun _ hF => ?_) fun _ hF => ?_
               · refine wA rfl ?_; cases hF
                 exact W_ret wR
               refine W_skip ?_; refine wA rfl ?_; cases hF
               exact W_ret wR
             rintro ⟨a146, a147⟩ x_0 hF cont_0 brk_0 fin_0
             unfold tracebookref32_Check_L1 at hF
             refine W_seq ?_; refine wC 3 rfl ?_; refine rS (T_len (tc := t_api_Step) p0.fSteps .tree ?_); refine QV rfl ?_; refine wIf hF rfl (fun _ hF => ?_) fun _ hF => ?_
             · refine W_skip ?_; refine W_seq ?_; refine W_join (fun _ _ h => h) hF (fun v155 => [(1, cP (1,0) 0), (4, cP (4,0) 0), (5, cB v155), (11, cI a147)]) (fun v155 => [((1,0), .box (m_api_Trace p0)), ((4,0), .box [jI p0.fSpan.fFrom, jI p0.fSpan.fTo])]) ?_ ?_
               · rintro v155 hF
                 refine wB rfl ?_; exact cont_0 _ _ _ (oi hF) sw
               intro join hF
               refine W_block ?_; refine W_regD (by decide) (by kernel_rfl) rfl ?_; refine Q_run SP 2 rfl ?_; cases h156 : a146
               · have hF := bF' h156 hF; refine QP rfl ?_; exact join false _ _ hF sw
               have hF := bT' h156 hF; refine Q_run SP 3 rfl ?_; obtain ⟨y157, hy157, hF⟩ := bB' hF
               refine R_step SP rfl (T_ixT (tc := t_api_Step) p0.fSteps rfl rfl hy157 ?_); refine Q_run SP 3 rfl ?_; obtain ⟨r158, hr158, hF⟩ := bB' hF
               refine R_step SP rfl (T_call (tracebookref32_inside_fun _ _ _ hr158) ⟨rfl, ⟨rfl, rfl, trivial⟩, trivial⟩ rfl (.inl rfl) ?_); refine QP rfl ?_; exact join r158 _ _ hF sw
             refine W_exit ?_; refine thenQ_exit ?_; refine thenQ_exit ?_; refine blockQ_hit ?_; exact brk_0 _ _ _ (oi hF) sw
           rintro ⟨a122, a123⟩ x_0 hF cont_0 brk_0 fin_0
           unfold tracebookref32_Check_L2 at hF
           refine W_seq ?_; refine wC 3 rfl ?_; refine rS (T_len (tc := t_api_Sample) p0.fSamples .tree ?_); refine QV rfl ?_; refine wIf hF rfl (fun _ hF => ?_) fun _ hF => ?_
           · refine W_skip ?_; refine W_seq ?_; refine W_join (fun _ _ h => h) hF (fun v160 => [(1, cP (1,0) 0), (4, cP (4,0) 0), (5, cB v160), (10, cI a123)]) (fun v160 => [((1,0), .box (m_api_Trace p0)), ((4,0), .box [jI p0.fSpan.fFrom, jI p0.fSpan.fTo])]) ?_ ?_
             · rintro v160 hF
               refine wB rfl ?_; exact cont_0 _ _ _ (oi hF) sw
             intro join hF
             refine W_block ?_; refine W_regD (by decide) (by kernel_rfl) rfl ?_; refine Q_run SP 2 rfl ?_; cases h161 : a122
             · have hF := bF' h161 hF; refine QP rfl ?_; exact join false _ _ hF sw
             have hF := bT' h161 hF; refine Q_run SP 3 rfl ?_; obtain ⟨y162, hy162, hF⟩ := bB' hF
             refine R_step SP rfl (T_ixT (tc := t_api_Sample) p0.fSamples rfl rfl hy162 ?_); refine Q_run SP 3 rfl ?_; obtain ⟨r163, hr163, hF⟩ := bB' hF
             refine R_step SP rfl (T_call (tracebookref32_inside_fun _ _ _ hr163) ⟨rfl, ⟨rfl, rfl, trivial⟩, trivial⟩ rfl (.inl rfl) ?_); refine QP rfl ?_; exact join r163 _ _ hF sw
           refine W_exit ?_; refine thenQ_exit ?_; refine thenQ_exit ?_; refine blockQ_hit ?_; exact brk_0 _ _ _ (oi hF) sw
         rintro ⟨a95, a96⟩ x_0 hF cont_0 brk_0 fin_0
         unfold tracebookref32_Check_L3 at hF
         refine W_seq ?_; refine wC 3 rfl ?_; refine rS (T_len (tc := t_api_Flow) p0.fFlows .tree ?_); refine QV rfl ?_; refine wIf hF rfl (fun _ hF => ?_) fun _ hF => ?_
         · refine W_skip ?_; refine W_seq ?_; refine W_join (fun _ _ h => h) hF (fun v165 => [(1, cP (1,0) 0), (4, cP (4,0) 0), (5, cB v165), (9, cI a96)]) (fun v165 => [((1,0), .box (m_api_Trace p0)), ((4,0), .box [jI p0.fSpan.fFrom, jI p0.fSpan.fTo])]) ?_ ?_
           · rintro v165 hF
             refine wB rfl ?_; exact cont_0 _ _ _ (oi hF) sw
           intro join hF
           refine W_block ?_; refine W_regD (by decide) (by kernel_rfl) rfl ?_; refine Q_run SP 2 rfl ?_; cases h166 : a95
           · have hF := bF' h166 hF; refine QP rfl ?_; exact join false _ _ hF sw
           have hF := bT' h166 hF; refine Q_run SP 3 rfl ?_; obtain ⟨y167, hy167, hF⟩ := bB' hF
           refine R_step SP rfl (T_ixT (tc := t_api_Flow) p0.fFlows rfl rfl hy167 ?_); refine Q_run SP 3 rfl ?_; obtain ⟨r168, hr168, hF⟩ := bB' hF
           refine R_step SP rfl (T_call (tracebookref32_inside_fun _ _ _ hr168) ⟨rfl, ⟨rfl, rfl, trivial⟩, trivial⟩ rfl (.inl rfl) ?_); refine Q_run SP 2 rfl ?_; cases h169 : r168
           · have hF := bF' h169 hF; refine QP rfl ?_; exact join false _ _ hF sw
           have hF := bT' h169 hF; refine Q_run SP 3 rfl ?_; obtain ⟨y170, hy170, hF⟩ := bB' hF
           refine R_step SP rfl (T_ixT (tc := t_api_Flow) p0.fFlows rfl rfl hy170 ?_); refine Q_run SP 3 rfl ?_; obtain ⟨r171, hr171, hF⟩ := bB' hF
           refine R_step SP rfl (T_call (tracebookref32_inside_fun _ _ _ hr171) ⟨rfl, ⟨rfl, rfl, trivial⟩, trivial⟩ rfl (.inl rfl) ?_); refine QP rfl ?_; exact join r171 _ _ hF sw
         refine W_exit ?_; refine thenQ_exit ?_; refine thenQ_exit ?_; refine blockQ_hit ?_; exact brk_0 _ _ _ (oi hF) sw
       rintro ⟨a65, a66⟩ x_0 hF cont_0 brk_0 fin_0
       unfold tracebookref32_Check_L4 at hF
       refine W_seq ?_; refine wC 3 rfl ?_; refine rS (T_len (tc := t_api_Block) p0.fBlocks .tree ?_); refine QV rfl ?_; refine wIf hF rfl (fun _ hF => ?_) fun _ hF => ?_
       · refine W_skip ?_; refine W_seq ?_; refine W_join (fun _ _ h => h) hF (fun v173 => [(1, cP (1,0) 0), (4, cP (4,0) 0), (5, cB v173), (8, cI a66)]) (fun v173 => [((1,0), .box (m_api_Trace p0)), ((4,0), .box [jI p0.fSpan.fFrom, jI p0.fSpan.fTo])]) ?_ ?_
         · rintro v173 hF
           refine wB rfl ?_; exact cont_0 _ _ _ (oi hF) sw
         intro join hF
         refine W_block ?_; refine W_regD (by decide) (by kernel_rfl) rfl ?_; refine Q_run SP 2 rfl ?_; cases h174 : a65
         · have hF := bF' h174 hF; refine QP rfl ?_; exact join false _ _ hF sw
         have hF := bT' h174 hF; refine Q_run SP 3 rfl ?_; obtain ⟨y175, hy175, hF⟩ := bB' hF
         refine R_step SP rfl (T_ixT (tc := t_api_Block) p0.fBlocks rfl rfl hy175 ?_); refine Q_run SP 3 rfl ?_; obtain ⟨r176, hr176, hF⟩ := bB' hF
         refine R_step SP rfl (T_call (tracebookref32_within_fun _ _ _ hr176) ⟨⟨rfl, rfl, trivial⟩, ⟨rfl, rfl, trivial⟩, trivial⟩ rfl (.inl rfl) ?_); refine QP rfl ?_; exact join r176 _ _ hF sw
       refine W_exit ?_; refine thenQ_exit ?_; refine thenQ_exit ?_; refine blockQ_hit ?_; exact brk_0 _ _ _ (oi hF) sw
     rintro ⟨a41, a42⟩ x_0 hF cont_0 brk_0 fin_0
     unfold tracebookref32_Check_L5 at hF
     refine W_seq ?_; refine wC 3 rfl ?_; refine rS (T_len (tc := t_api_State) p0.fStates .tree ?_); refine QV rfl ?_; refine wIf hF rfl (fun _ hF => ?_) fun _ hF => ?_
     · refine W_skip ?_; refine W_seq ?_; refine W_join (fun _ _ h => h) hF (fun v178 => [(1, cP (1,0) 0), (4, cP (4,0) 0), (5, cB v178), (7, cI a42)]) (fun v178 => [((1,0), .box (m_api_Trace p0)), ((4,0), .box [jI p0.fSpan.fFrom, jI p0.fSpan.fTo])]) ?_ ?_
       · rintro v178 hF
         refine wB rfl ?_; exact cont_0 _ _ _ (oi hF) sw
       intro join hF
       refine W_block ?_; refine W_regD (by decide) (by kernel_rfl) rfl ?_; refine Q_run SP 2 rfl ?_; cases h179 : a41
       · have hF := bF' h179 hF; refine QP rfl ?_; exact join false _ _ hF sw
       have hF := bT' h179 hF; refine Q_run SP 3 rfl ?_; obtain ⟨y180, hy180, hF⟩ := bB' hF
       refine R_step SP rfl (T_ixT (tc := t_api_State) p0.fStates rfl rfl hy180 ?_); refine Q_run SP 3 rfl ?_; obtain ⟨r181, hr181, hF⟩ := bB' hF
       refine R_step SP rfl (T_call (tracebookref32_within_fun _ _ _ hr181) ⟨⟨rfl, rfl, trivial⟩, ⟨rfl, rfl, trivial⟩, trivial⟩ rfl (.inl rfl) ?_); refine QP rfl ?_; exact join r181 _ _ hF sw
     refine W_exit ?_; refine thenQ_exit ?_; refine thenQ_exit ?_; refine blockQ_hit ?_; exact brk_0 _ _ _ (oi hF) sw
   rintro ⟨a17, a18⟩ x_0 hF cont_0 brk_0 fin_0
   unfold tracebookref32_Check_L6 at hF
   refine W_seq ?_; refine wC 3 rfl ?_; refine rS (T_len (tc := t_api_Slice) p0.fSlices .tree ?_); refine QV rfl ?_; refine wIf hF rfl (fun _ hF => ?_) fun _ hF => ?_
   · refine W_skip ?_; refine W_seq ?_; refine W_join (fun _ _ h => h) hF (fun v183 => [(1, cP (1,0) 0), (4, cP (4,0) 0), (5, cB v183), (6, cI a18)]) (fun v183 => [((1,0), .box (m_api_Trace p0)), ((4,0), .box [jI p0.fSpan.fFrom, jI p0.fSpan.fTo])]) ?_ ?_
     · rintro v183 hF
       refine wB rfl ?_; exact cont_0 _ _ _ (oi hF) sw
     intro join hF
     refine W_block ?_; refine W_regD (by decide) (by kernel_rfl) rfl ?_; refine Q_run SP 2 rfl ?_; cases h184 : a17
     · have hF := bF' h184 hF; refine QP rfl ?_; exact join false _ _ hF sw
     have hF := bT' h184 hF; refine Q_run SP 3 rfl ?_; obtain ⟨y185, hy185, hF⟩ := bB' hF
     refine R_step SP rfl (T_ixT (tc := t_api_Slice) p0.fSlices rfl rfl hy185 ?_); refine Q_run SP 3 rfl ?_; obtain ⟨r186, hr186, hF⟩ := bB' hF
     refine R_step SP rfl (T_call (tracebookref32_within_fun _ _ _ hr186) ⟨⟨rfl, rfl, trivial⟩, ⟨rfl, rfl, trivial⟩, trivial⟩ rfl (.inl rfl) ?_); refine QP rfl ?_; exact join r186 _ _ hF sw
   refine W_exit ?_; refine thenQ_exit ?_; refine thenQ_exit ?_; refine blockQ_hit ?_; exact brk_0 _ _ _ (oi hF) sw
 intro join hF
 refine wD 4 rfl ?_; cases h189 : (decide (p0.fSpan.fFrom < 0))
 · have hF := bF' h189 hF; refine Q_run SV 7 rfl ?_; cases h190 : (decide (p0.fSpan.fTo < p0.fSpan.fFrom))
   · have hF := bF' h190 hF; refine QV rfl ?_; exact join (decide (1000000000000 < p0.fSpan.fTo)) _ _ hF sw
   have hF := bT' h190 hF; refine QV rfl ?_; exact join true _ _ hF sw
 have hF := bT' h189 hF; refine QV rfl ?_; exact join true _ _ hF sw
def tracebookref27_At_L1 (p0 : (List api_State)) (p1 : Int) (p2 : Int) : Int → Option (Int ⊕ (Unit ⊕ (api_State × Bool))) := fun a22 =>
  (bif (decide (a22 < (List.length p0 : Int))) then ((((idx p0 a22).bind fun y35 => (bif (decide (y35.fThread = p1)) then ((idx p0 a22).bind fun y37 => (bif (decide (y37.fSpan.fFrom ≤ p2)) then ((idx p0 a22).bind fun y39 => some (decide (p2 < y39.fSpan.fTo))) else some false)) else some false)) : Option Bool).bind fun v32 => (bif v32 then ((idx p0 a22).bind fun y33 => some (.inr (.inr (y33, true)))) else some (.inl (w64 (a22 + 1))))) else some (.inr (.inl ())))
def tracebookref27_At (p0 : (List api_State)) (p1 : Int) (p2 : Int) : Option (api_State × Bool) :=
  ((loop (tracebookref27_At_L1 p0 p1 p2) 0).bind fun | .inl _ => some (({ fThread := 0, fState := 0, fSpan := ({ fFrom := 0, fTo := 0 } : api_Span), fCpu := 0, fOn := 0, fBy := 0 } : api_State), false) | .inr rv => some rv)
theorem tracebookref27_At_fun (p0 : (List api_State)) (p1 : Int) (p2 : Int) (r : (api_State × Bool)) (hF : tracebookref27_At p0 p1 p2 = some r) : Fun Tryz.prog 26 true [] [cL 7 t_api_State p0, cI p1, cI p2] noHeap (.tup [.agg (m_api_State r.1), cB r.2]) noHeap := by
 refine Fun.of_walk0 Tryz.func26 c26 (by kernel_rfl) (rs := [.cell 6 7 true, .tmp 7]) (by kernel_rfl) ?_; unfold v26
 unfold tracebookref27_At at hF
 refine wA rfl ?_; refine W_seq ?_; refine wA rfl ?_; refine W_for (fun _ _ h => h) hF (.inl) (fun a22 => [(0, cL 7 t_api_State p0), (1, cI p1), (2, cI p2), (6, cP (6,0) 0), (8, cI a22)]) (fun a22 => [((6,0), .box [jI 0, jI 0, jI 0, jI 0, jI 0, jI 0, jI 0])]) (fun _ => [(6, cP (6,0) 0)]) (fun _ => [((6,0), .box [jI 0, jI 0, jI 0, jI 0, jI 0, jI 0, jI 0])]) sw ?_ ?_
 · rintro ⟨⟩ hF
   refine wA rfl ?_; cases hF
   exact W_ret ⟨_, rfl, rfl, ⟨⟨⟨rfl, fun _ => rfl⟩, ⟨rfl, fun _ => rfl⟩, ⟨rfl, fun _ => rfl⟩, ⟨rfl, fun _ => rfl⟩, ⟨rfl, fun _ => rfl⟩, ⟨rfl, fun _ => rfl⟩, ⟨rfl, fun _ => rfl⟩, trivial⟩, ⟨rfl, fun _ => rfl⟩, trivial⟩, noOut _⟩
 rintro a22 x_0 hF cont_0 brk_0 fin_0
 unfold tracebookref27_At_L1 at hF
 refine W_seq ?_; refine wC 2 rfl ?_; refine rS (T_len (tc := t_api_State) p0 .tree ?_); refine QV rfl ?_; refine wIf hF rfl (fun _ hF => ?_) fun _ hF => ?_
 · refine W_skip ?_; refine W_seq ?_; refine W_block ?_; refine W_seq ?_; refine W_join (fun _ _ h => h) hF (fun v32 => [(0, cL 7 t_api_State p0), (1, cI p1), (2, cI p2), (6, cP (6,0) 0), (8, cI a22), (41, cB v32)]) (fun v32 => [((6,0), .box [jI 0, jI 0, jI 0, jI 0, jI 0, jI 0, jI 0])]) ?_ ?_
   · rintro v32 hF
     refine wIf hF rfl (fun _ hF => ?_) fun _ hF => ?_
     · refine wC 2 rfl ?_; obtain ⟨y33, hy33, hF⟩ := bB hF
       refine rS (T_ixT (tc := t_api_State) p0 rfl rfl hy33 ?_); refine QV rfl ?_; have hF := fin_0 _ (oi hF); cases hF
       exact W_ret ⟨_, rfl, rfl, ⟨⟨⟨rfl, fun _ => rfl⟩, ⟨rfl, fun _ => rfl⟩, ⟨rfl, fun _ => rfl⟩, ⟨rfl, fun _ => rfl⟩, ⟨rfl, fun _ => rfl⟩, ⟨rfl, fun _ => rfl⟩, ⟨rfl, fun _ => rfl⟩, trivial⟩, ⟨rfl, fun _ => rfl⟩, trivial⟩, noOut _⟩
     refine W_skip ?_; refine wB rfl ?_; exact cont_0 _ _ _ (oi hF) sw
   intro join hF
   refine wD 2 rfl ?_; obtain ⟨y35, hy35, hF⟩ := bB' hF
   refine rS (T_ixT (tc := t_api_State) p0 rfl rfl hy35 ?_); refine Q_run SV 5 rfl ?_; cases h36 : (decide (y35.fThread = p1))
   · have hF := bF' h36 hF; refine QV rfl ?_; exact join false _ _ hF sw
   have hF := bT' h36 hF; refine Q_run SV 2 rfl ?_; obtain ⟨y37, hy37, hF⟩ := bB' hF
   refine R_step SV rfl (T_ixT (tc := t_api_State) p0 rfl rfl hy37 ?_); refine Q_run SV 7 rfl ?_; cases h38 : (decide (y37.fSpan.fFrom ≤ p2))
   · have hF := bF' h38 hF; refine QV rfl ?_; exact join false _ _ hF sw
   have hF := bT' h38 hF; refine Q_run SV 3 rfl ?_; obtain ⟨y39, hy39, hF⟩ := bB' hF
   refine R_step SV rfl (T_ixT (tc := t_api_State) p0 rfl rfl hy39 ?_); refine QV rfl ?_; exact join (decide (p2 < y39.fSpan.fTo)) _ _ hF sw
 refine W_exit ?_; refine thenQ_exit ?_; refine thenQ_exit ?_; refine blockQ_hit ?_; exact brk_0 _ _ _ (oi hF) sw
def tracebookref48_fault (p0 : api_Trace) (p1 : Int) (p2 : api_Span) : Option Int :=
  ((tracebookref32_Check p0).bind fun r1 => (bif (!decide (r1 = 0)) then some r1 else ((tracebookref32_Has p0 p1).bind fun r2 => (bif (!r2) then some 5 else ((tracebookref04_Valid p2).bind fun r3 => (bif (!r3) then some 1 else ((tracebookref27_At p0.fStates p1 p2.fFrom).bind fun r4 => ((tracebookref27_At p0.fStates p1 (w64 (p2.fTo - 1))).bind fun r5 => (((bif (!r4.2) then some true else some (!r5.2)) : Option Bool).bind fun v6 => (bif v6 then some 1 else some 0))))))))))
theorem tracebookref48_fault_fun (p0 : api_Trace) (p1 : Int) (p2 : api_Span) (r : Int) (hF : tracebookref48_fault p0 p1 p2 = some r) : Fun Tryz.prog 23 true [] [.agg (m_api_Trace p0), cI p1, .agg [jI p2.fFrom, jI p2.fTo]] noHeap (cI r) noHeap := by
 refine Fun.of_walk0 Tryz.func23 c23 (by kernel_rfl) (rs := [.tmp 6]) (by kernel_rfl) ?_; unfold v23
 unfold tracebookref48_fault at hF
 refine wA rfl ?_; refine wC 1 rfl ?_; obtain ⟨r1, hr1, hF⟩ := bB hF
 refine rS (T_call (tracebookref32_Check_fun _ _ hr1) ⟨⟨rfl, rfl, rfl, rfl, rfl, rfl, rfl, rfl, rfl, rfl, trivial⟩, trivial⟩ rfl (.inl rfl) ?_); refine QV rfl ?_; refine W_seq ?_; refine wA rfl ?_; refine wIf hF rfl (fun _ hF => ?_) fun _ hF => ?_
 · refine wA rfl ?_; cases hF
   exact W_ret wR
 refine W_skip ?_; refine W_seq ?_; refine wC 2 rfl ?_; obtain ⟨r2, hr2, hF⟩ := bB hF
 refine rS (T_call (tracebookref32_Has_fun _ _ _ hr2) ⟨⟨rfl, rfl, rfl, rfl, rfl, rfl, rfl, rfl, rfl, rfl, trivial⟩, rfl, trivial⟩ rfl (.inl rfl) ?_); refine QV rfl ?_; refine wIf hF rfl (fun _ hF => ?_) fun _ hF => ?_
 · refine wA rfl ?_; cases hF
   exact W_ret wR
 refine W_skip ?_; refine W_seq ?_; refine wC 1 rfl ?_; obtain ⟨r3, hr3, hF⟩ := bB hF
 refine rS (T_call (tracebookref04_Valid_fun _ _ hr3) ⟨⟨rfl, rfl, trivial⟩, trivial⟩ rfl (.inl rfl) ?_); refine QV rfl ?_; refine wIf hF rfl (fun _ hF => ?_) fun _ hF => ?_
 · refine wA rfl ?_; cases hF
   exact W_ret wR
 refine W_skip ?_; refine wC 5 rfl ?_; obtain ⟨r4, hr4, hF⟩ := bB hF
 refine rS (T_call (tracebookref27_At_fun _ _ _ _ hr4) ⟨rfl, rfl, rfl, trivial⟩ rfl (.inl rfl) ?_); refine QV rfl ?_; refine wC 6 rfl ?_; obtain ⟨r5, hr5, hF⟩ := bB hF
 refine rS (T_call (tracebookref27_At_fun _ _ _ _ hr5) ⟨rfl, rfl, rfl, trivial⟩ rfl (.inl rfl) ?_); refine QV rfl ?_; refine W_seq ?_; refine W_seq ?_; refine W_join (fun _ _ h => h) hF (fun v6 => [(48, cB v6)]) (fun v6 => []) ?_ ?_
 · rintro v6 hF
   refine wIf hF rfl (fun _ hF => ?_) fun _ hF => ?_
   · refine wA rfl ?_; cases hF
     exact W_ret wR
   refine W_skip ?_; refine wA rfl ?_; cases hF
   exact W_ret wR
 intro join hF
 refine wD 3 rfl ?_; cases h8 : (!r4.2)
 · have hF := bF' h8 hF; refine QV rfl ?_; exact join (!r5.2) _ _ hF sw
 have hF := bT' h8 hF; refine QV rfl ?_; exact join true _ _ hF sw
def tracebookref48_waker (p0 : api_Trace) (p1 : Int) (p2 : Int) : Option (Int × Bool) :=
  ((tracebookref27_At p0.fStates p1 (w64 (p2 - 1))).bind fun r1 => (((bif (!r1.2) then some true else (bif (!decide (r1.1.fState = 1)) then (bif (!decide (r1.1.fState = 2)) then some true else (bif (!decide (r1.1.fSpan.fTo = p2)) then some true else (bif (decide (r1.1.fBy < 0)) then some true else ((tracebookref32_Has p0 r1.1.fBy).bind fun r12 => some (!r12))))) else (bif (!decide (r1.1.fSpan.fTo = p2)) then some true else (bif (decide (r1.1.fBy < 0)) then some true else ((tracebookref32_Has p0 r1.1.fBy).bind fun r8 => some (!r8)))))) : Option Bool).bind fun v2 => (bif v2 then some (0, false) else some (r1.1.fBy, true))))
theorem tracebookref48_waker_fun (p0 : api_Trace) (p1 : Int) (p2 : Int) (r : (Int × Bool)) (hF : tracebookref48_waker p0 p1 p2 = some r) : Fun Tryz.prog 24 true [] [.agg (m_api_Trace p0), cI p1, cI p2] noHeap (.tup [cI r.1, cB r.2]) noHeap := by
 refine Fun.of_walk0 Tryz.func24 c24 (by kernel_rfl) (rs := [.tmp 6, .tmp 7]) (by kernel_rfl) ?_; unfold v24
 unfold tracebookref48_waker at hF
 refine wA rfl ?_; refine wC 5 rfl ?_; obtain ⟨r1, hr1, hF⟩ := bB hF
 refine rS (T_call (tracebookref27_At_fun _ _ _ _ hr1) ⟨rfl, rfl, rfl, trivial⟩ rfl (.inl rfl) ?_); refine QV rfl ?_; refine W_seq ?_; refine W_seq ?_; refine W_join (fun _ _ h => h) hF (fun v2 => [(8, cP (8,0) 0), (49, cB v2)]) (fun v2 => [((8,0), .box (m_api_State r1.1))]) ?_ ?_
 · rintro v2 hF
   refine wIf hF rfl (fun _ hF => ?_) fun _ hF => ?_
   · refine wA rfl ?_; cases hF
     exact W_ret ⟨_, rfl, rfl, ⟨⟨rfl, fun _ => rfl⟩, ⟨rfl, fun _ => rfl⟩, trivial⟩, noOut _⟩
   refine W_skip ?_; refine wA rfl ?_; cases hF
   exact W_ret ⟨_, rfl, rfl, ⟨⟨rfl, fun _ => rfl⟩, ⟨rfl, fun _ => rfl⟩, trivial⟩, noOut _⟩
 intro join hF
 refine wD 3 rfl ?_; cases h4 : (!r1.2)
 · have hF := bF' h4 hF; refine Q_run SV 4 rfl ?_; cases h5 : (!decide (r1.1.fState = 1))
   · have hF := bF' h5 hF; refine Q_run SV 13 rfl ?_; cases h6 : (!decide (r1.1.fSpan.fTo = p2))
     · have hF := bF' h6 hF; refine Q_run SV 5 rfl ?_; cases h7 : (decide (r1.1.fBy < 0))
       · have hF := bF' h7 hF; refine Q_run SV 3 rfl ?_; obtain ⟨r8, hr8, hF⟩ := bB' hF
         refine R_step SV rfl (T_call (tracebookref32_Has_fun _ _ _ hr8) ⟨⟨rfl, rfl, rfl, rfl, rfl, rfl, rfl, rfl, rfl, rfl, trivial⟩, rfl, trivial⟩ rfl (.inl rfl) ?_); refine QV rfl ?_; exact join (!r8) _ _ hF sw
       have hF := bT' h7 hF; refine QV rfl ?_; exact join true _ _ hF sw
     have hF := bT' h6 hF; refine QV rfl ?_; exact join true _ _ hF sw
   have hF := bT' h5 hF; refine Q_run SV 6 rfl ?_; cases h9 : (!decide (r1.1.fState = 2))
   · have hF := bF' h9 hF; refine Q_run SV 7 rfl ?_; cases h10 : (!decide (r1.1.fSpan.fTo = p2))
     · have hF := bF' h10 hF; refine Q_run SV 5 rfl ?_; cases h11 : (decide (r1.1.fBy < 0))
       · have hF := bF' h11 hF; refine Q_run SV 3 rfl ?_; obtain ⟨r12, hr12, hF⟩ := bB' hF
         refine R_step SV rfl (T_call (tracebookref32_Has_fun _ _ _ hr12) ⟨⟨rfl, rfl, rfl, rfl, rfl, rfl, rfl, rfl, rfl, rfl, trivial⟩, rfl, trivial⟩ rfl (.inl rfl) ?_); refine QV rfl ?_; exact join (!r12) _ _ hF sw
       have hF := bT' h11 hF; refine QV rfl ?_; exact join true _ _ hF sw
     have hF := bT' h10 hF; refine QV rfl ?_; exact join true _ _ hF sw
   have hF := bT' h9 hF; refine QV rfl ?_; exact join true _ _ hF sw
 have hF := bT' h4 hF; refine QV rfl ?_; exact join true _ _ hF sw
def tracebookref48_has_L1 (p0 : (List Int)) (p1 : Int) : Int → Option (Int ⊕ (Unit ⊕ Bool)) := fun a10 =>
  (bif (decide (a10 < (List.length p0 : Int))) then ((idx p0 a10).bind fun y14 => (bif (decide (y14 = p1)) then some (.inr (.inr true)) else some (.inl (w64 (a10 + 1))))) else some (.inr (.inl ())))
def tracebookref48_has (p0 : (List Int)) (p1 : Int) : Option Bool :=
  ((loop (tracebookref48_has_L1 p0 p1) 0).bind fun | .inl _ => some false | .inr rv => some rv)
theorem tracebookref48_has_fun (p0 : (List Int)) (p1 : Int) (r : Bool) (hF : tracebookref48_has p0 p1 = some r) : Fun Tryz.prog 25 true [] [cL 1 t_i64 p0, cI p1] noHeap (cB r) noHeap := by
 refine Fun.of_walk0 Tryz.func25 c25 (by kernel_rfl) (rs := [.tmp 4]) (by kernel_rfl) ?_; unfold v25
 unfold tracebookref48_has at hF
 refine wA rfl ?_; refine W_seq ?_; refine wA rfl ?_; refine W_for (fun _ _ h => h) hF (.inl) (fun a10 => [(0, cL 1 t_i64 p0), (1, cI p1), (5, cI a10)]) (fun a10 => []) (fun _ => []) (fun _ => []) sw ?_ ?_
 · rintro ⟨⟩ hF
   refine wA rfl ?_; cases hF
   exact W_ret wR
 rintro a10 x_0 hF cont_0 brk_0 fin_0
 unfold tracebookref48_has_L1 at hF
 refine W_seq ?_; refine wC 2 rfl ?_; refine rS (T_len (tc := t_i64) p0 .tree ?_); refine QV rfl ?_; refine wIf hF rfl (fun _ hF => ?_) fun _ hF => ?_
 · refine W_skip ?_; refine W_seq ?_; refine W_block ?_; refine wC 2 rfl ?_; obtain ⟨y14, hy14, hF⟩ := bB hF
   refine rS (T_ixT (tc := t_i64) p0 rfl rfl hy14 ?_); refine QV rfl ?_; refine wIf hF rfl (fun _ hF => ?_) fun _ hF => ?_
   · refine wA rfl ?_; have hF := fin_0 _ (oi hF); cases hF
     exact W_ret wR
   refine W_skip ?_; refine wB rfl ?_; exact cont_0 _ _ _ (oi hF) sw
 refine W_exit ?_; refine thenQ_exit ?_; refine thenQ_exit ?_; refine blockQ_hit ?_; exact brk_0 _ _ _ (oi hF) sw
def tracebookref48_comes_L1 (p0 : api_Trace) (p2 : Int) (p3 : Int) : (Int × (List Int)) → Option ((Int × (List Int)) ⊕ (Unit ⊕ Bool)) := fun (a21, a22) =>
  (bif (!decide (a21 = p2)) then ((tracebookref48_waker p0 a21 p3).bind fun r30 => (((bif (!r30.2) then some true else ((tracebookref48_has a22 r30.1).bind fun r35 => some r35)) : Option Bool).bind fun v31 => (bif v31 then some (.inr (.inr false)) else (bif room 8 (List.length a22 + List.length [r30.1]) then some (.inl (r30.1, (a22 ++ [r30.1]))) else none)))) else some (.inr (.inl ())))
def tracebookref48_comes (p0 : api_Trace) (p1 : Int) (p2 : Int) (p3 : Int) : Option Bool :=
  ((loop (tracebookref48_comes_L1 p0 p2 p3) (p1, [p1])).bind fun | .inl _ => some true | .inr rv => some rv)
theorem tracebookref48_comes_fun (p0 : api_Trace) (p1 : Int) (p2 : Int) (p3 : Int) (r : Bool) (hF : tracebookref48_comes p0 p1 p2 p3 = some r) : Fun Tryz.prog 35 true [] [.agg (m_api_Trace p0), cI p1, cI p2, cI p3] noHeap (cB r) noHeap := by
 refine Fun.of_walk0 Tryz.func35 c35 (by kernel_rfl) (rs := [.tmp 8]) (by kernel_rfl) ?_; unfold v35
 unfold tracebookref48_comes at hF
 refine wA rfl ?_; refine wC 1 rfl ?_; refine rS (T_bsl (tc := t_i64) [p1] rfl ⟨rfl, trivial⟩ rfl (fun _ => rfl) rfl ?_)
 refine QV rfl ?_; refine W_seq ?_; refine W_for (fun _ _ h => h) hF (.inl) (fun (a21, a22) => [(1, cI a21), (2, cI p2), (3, cI p3), (4, cP (4,0) 0), (9, cO (13,1))]) (fun (a21, a22) => [((4,0), .box (m_api_Trace p0)), ((13,1), .arr 3 1 (List.map t_i64 a22))]) (fun _ => []) (fun _ => []) (S_ren (13,0) (13,1) rfl rfl sw) ?_ ?_
 · rintro ⟨⟩ hF
   refine wA rfl ?_; cases hF
   exact W_ret wR
 rintro ⟨a21, a22⟩ x_0 hF cont_0 brk_0 fin_0
 unfold tracebookref48_comes_L1 at hF
 refine W_seq ?_; refine wA rfl ?_; refine wIf hF rfl (fun _ hF => ?_) fun _ hF => ?_
 · refine W_skip ?_; refine W_block ?_; refine wC 3 rfl ?_; obtain ⟨r30, hr30, hF⟩ := bB hF
   refine rS (T_call (tracebookref48_waker_fun _ _ _ _ hr30) ⟨⟨rfl, rfl, rfl, rfl, rfl, rfl, rfl, rfl, rfl, rfl, trivial⟩, rfl, rfl, trivial⟩ rfl (.inl rfl) ?_); refine QV rfl ?_; refine W_seq ?_; refine W_seq ?_
   refine W_join (fun _ _ h => h) hF (fun v31 => [(2, cI p2), (3, cI p3), (4, cP (4,0) 0), (9, cO (13,1)), (10, cI r30.1), (30, cB v31)]) (fun v31 => [((4,0), .box (m_api_Trace p0)), ((13,1), .arr 3 1 (List.map t_i64 a22))]) ?_ ?_
   · rintro v31 hF
     refine wIf hF rfl (fun _ hF => ?_) fun _ hF => ?_
     · refine wA rfl ?_; have hF := fin_0 _ (oi hF); cases hF
       exact W_ret wR
     refine W_skip ?_; refine wC 2 rfl ?_; refine rS (T_bsl (tc := t_i64) [r30.1] rfl ⟨rfl, trivial⟩ rfl (fun _ => rfl) rfl ?_)
     obtain ⟨h32, hF⟩ := roomT hF
     refine rS (T_appO (tc := t_i64) a22 [r30.1] rfl rfl (.own _ _ rfl) h32 rfl ?_); refine QV rfl ?_; refine wB rfl ?_; exact cont_0 _ _ _ (oi hF) (S_ren (34,0) (13,1) rfl rfl sw)
   intro join hF
   refine wD 3 rfl ?_; cases h34 : (!r30.2)
   · have hF := bF' h34 hF; refine Q_run SV 2 rfl ?_; obtain ⟨r35, hr35, hF⟩ := bB' hF
     refine R_step SV rfl (T_call (tracebookref48_has_fun _ _ _ hr35) ⟨⟨_, rfl⟩, rfl, trivial⟩ rfl (.inl rfl) ?_); refine QV rfl ?_; exact join r35 _ _ hF sw
   have hF := bT' h34 hF; refine QV rfl ?_; exact join true _ _ hF sw
 refine W_exit ?_; refine thenQ_exit ?_; refine thenQ_exit ?_; refine blockQ_hit ?_; exact brk_0 _ _ _ (oi hF) sw
def tracebookref48_Check_L1 (p0 : api_Trace) (p1 : Int) (p2 : api_Span) (p3 : (List api_Hop)) : (Int × Int) → Option ((Int × Int) ⊕ (Int ⊕ Bool)) := fun (a42, a43) =>
  (bif (decide (a43 < (List.length p3 : Int))) then ((idx p3 a43).bind fun y62 => ((((tracebookref04_Valid y62.fSpan).bind fun r75 => (bif (!r75) then some true else (bif (!decide (y62.fSpan.fFrom = a42)) then some true else some (decide (p2.fTo < y62.fSpan.fTo))))) : Option Bool).bind fun v63 => (bif v63 then some (.inr (.inr false)) else ((tracebookref27_At p0.fStates y62.fThread y62.fSpan.fFrom).bind fun r64 => (((bif (!r64.2) then some true else (bif (!decide (r64.1.fState = y62.fState)) then some true else some (decide (r64.1.fSpan.fTo < y62.fSpan.fTo)))) : Option Bool).bind fun v65 => (bif v65 then some (.inr (.inr false)) else (((bif (decide ((w64 (a43 + 1)) < (List.length p3 : Int))) then ((idx p3 (w64 (a43 + 1))).bind fun y69 => some y69.fThread) else some p1) : Option Int).bind fun v66 => ((tracebookref48_comes p0 v66 y62.fThread y62.fSpan.fTo).bind fun r67 => (bif (!r67) then some (.inr (.inr false)) else some (.inl (y62.fSpan.fTo, (w64 (a43 + 1))))))))))))) else some (.inr (.inl a42)))
def tracebookref48_Check (p0 : api_Trace) (p1 : Int) (p2 : api_Span) (p3 : (List api_Hop)) : Option Bool :=
  ((((tracebookref48_fault p0 p1 p2).bind fun r80 => (bif (!decide (r80 = 0)) then some true else some (decide ((List.length p3 : Int) = 0)))) : Option Bool).bind fun v1 => (bif v1 then some false else ((loop (tracebookref48_Check_L1 p0 p1 p2 p3) (p2.fFrom, 0)).bind fun | .inl e61 => some (decide (e61 = p2.fTo)) | .inr rv => some rv)))
theorem tracebookref48_Check_fun (p0 : api_Trace) (p1 : Int) (p2 : api_Span) (p3 : (List api_Hop)) (r : Bool) (hF : tracebookref48_Check p0 p1 p2 p3 = some r) : Fun Tryz.prog 14 true [] [.agg (m_api_Trace p0), cI p1, .agg [jI p2.fFrom, jI p2.fTo], cL 4 t_api_Hop p3] noHeap (cB r) noHeap := by
 refine Fun.of_walk0 Tryz.func14 c14 (by kernel_rfl) (rs := [.tmp 8]) (by kernel_rfl) ?_; unfold v14
 unfold tracebookref48_Check at hF
 refine wA rfl ?_; refine W_seq ?_; refine W_seq ?_; refine W_join (fun _ _ h => h) hF (fun v1 => [(1, cI p1), (3, cL 4 t_api_Hop p3), (4, cP (4,0) 0), (6, cP (6,0) 0), (24, cB v1)]) (fun v1 => [((4,0), .box (m_api_Trace p0)), ((6,0), .box [jI p2.fFrom, jI p2.fTo])]) ?_ ?_
 · rintro v1 hF
   refine wIf hF rfl (fun _ hF => ?_) fun _ hF => ?_
   · refine wA rfl ?_; cases hF
     exact W_ret wR
   refine W_skip ?_; refine wA rfl ?_; refine W_seq ?_; refine wA rfl ?_; refine W_for (fun _ _ h => h) hF (.inl) (fun (a42, a43) => [(1, cI p1), (3, cL 4 t_api_Hop p3), (4, cP (4,0) 0), (6, cP (6,0) 0), (9, cI a42), (10, cI a43)]) (fun (a42, a43) => [((4,0), .box (m_api_Trace p0)), ((6,0), .box [jI p2.fFrom, jI p2.fTo])]) (fun e61 => [(6, cP (6,0) 0), (9, cI e61)]) (fun e61 => [((6,0), .box [jI p2.fFrom, jI p2.fTo])]) sw ?_ ?_
   · rintro e61 hF
     refine wA rfl ?_; cases hF
     exact W_ret wR
   rintro ⟨a42, a43⟩ x_0 hF cont_0 brk_0 fin_0
   unfold tracebookref48_Check_L1 at hF
   refine W_seq ?_; refine wC 2 rfl ?_; refine rS (T_len (tc := t_api_Hop) p3 .tree ?_); refine QV rfl ?_; refine wIf hF rfl (fun _ hF => ?_) fun _ hF => ?_
   · refine W_skip ?_; refine W_seq ?_; refine W_block ?_; refine wC 2 rfl ?_; obtain ⟨y62, hy62, hF⟩ := bB hF
     refine rS (T_ixT (tc := t_api_Hop) p3 rfl rfl hy62 ?_); refine QV rfl ?_; refine W_seq ?_; refine W_seq ?_; refine W_join (fun _ _ h => h) hF (fun v63 => [(1, cI p1), (3, cL 4 t_api_Hop p3), (4, cP (4,0) 0), (6, cP (6,0) 0), (10, cI a43), (11, cP (11,0) 0), (55, cB v63)]) (fun v63 => [((4,0), .box (m_api_Trace p0)), ((6,0), .box [jI p2.fFrom, jI p2.fTo]), ((11,0), .box (m_api_Hop y62))]) ?_ ?_
     · rintro v63 hF
       refine wIf hF rfl (fun _ hF => ?_) fun _ hF => ?_
       · refine wA rfl ?_; have hF := fin_0 _ (oi hF); cases hF
         exact W_ret wR
       refine W_skip ?_; refine wA rfl ?_; refine wC 7 rfl ?_; obtain ⟨r64, hr64, hF⟩ := bB hF
       refine rS (T_call (tracebookref27_At_fun _ _ _ _ hr64) ⟨rfl, rfl, rfl, trivial⟩ rfl (.inl rfl) ?_); refine QV rfl ?_; refine W_seq ?_; refine W_seq ?_; refine W_join (fun _ _ h => h) hF (fun v65 => [(1, cI p1), (3, cL 4 t_api_Hop p3), (4, cP (4,0) 0), (6, cP (6,0) 0), (9, cI y62.fSpan.fTo), (10, cI a43), (11, cP (11,0) 0), (87, cB v65)]) (fun v65 => [((4,0), .box (m_api_Trace p0)), ((6,0), .box [jI p2.fFrom, jI p2.fTo]), ((11,0), .box (m_api_Hop y62))]) ?_ ?_
       · rintro v65 hF
         refine wIf hF rfl (fun _ hF => ?_) fun _ hF => ?_
         · refine wA rfl ?_; have hF := fin_0 _ (oi hF); cases hF
           exact W_ret wR
         refine W_skip ?_; refine wA rfl ?_; refine W_seq ?_; refine wC 3 rfl ?_; refine rS (T_len (tc := t_api_Hop) p3 .tree ?_); refine QV rfl ?_; refine W_join (fun _ _ h => h) hF (fun v66 => [(1, cI p1), (3, cL 4 t_api_Hop p3), (4, cP (4,0) 0), (6, cP (6,0) 0), (9, cI y62.fSpan.fTo), (10, cI a43), (11, cP (11,0) 0), (14, cI v66)]) (fun v66 => [((4,0), .box (m_api_Trace p0)), ((6,0), .box [jI p2.fFrom, jI p2.fTo]), ((11,0), .box (m_api_Hop y62))]) ?_ ?_
         · rintro v66 hF
           refine wC 7 rfl ?_; obtain ⟨r67, hr67, hF⟩ := bB hF
           refine rS (T_call (tracebookref48_comes_fun _ _ _ _ _ hr67) ⟨⟨rfl, rfl, rfl, rfl, rfl, rfl, rfl, rfl, rfl, rfl, trivial⟩, rfl, rfl, rfl, trivial⟩ rfl (.inl rfl) ?_); refine QV rfl ?_; refine wIf hF rfl (fun _ hF => ?_) fun _ hF => ?_
           · refine wA rfl ?_; have hF := fin_0 _ (oi hF); cases hF
             exact W_ret wR
           refine W_skip ?_; refine wB rfl ?_; exact cont_0 _ _ _ (oi hF) sw
         intro join hF
         refine wIf' hF rfl (fun _ hF => ?_) fun _ hF => ?_
         · refine wD 3 rfl ?_; obtain ⟨y69, hy69, hF⟩ := bB' hF
           refine rS (T_ixT (tc := t_api_Hop) p3 rfl rfl hy69 ?_); refine QV rfl ?_; exact join y69.fThread _ _ hF sw
         refine W_skip ?_; exact join p1 _ _ hF sw
       intro join hF
       refine wD 3 rfl ?_; cases h72 : (!r64.2)
       · have hF := bF' h72 hF; refine Q_run SV 7 rfl ?_; cases h73 : (!decide (r64.1.fState = y62.fState))
         · have hF := bF' h73 hF; refine QV rfl ?_; exact join (decide (r64.1.fSpan.fTo < y62.fSpan.fTo)) _ _ hF sw
         have hF := bT' h73 hF; refine QV rfl ?_; exact join true _ _ hF sw
       have hF := bT' h72 hF; refine QV rfl ?_; exact join true _ _ hF sw
     intro join hF
     refine wD 2 rfl ?_; obtain ⟨r75, hr75, hF⟩ := bB' hF
     refine rS (T_call (tracebookref04_Valid_fun _ _ hr75) ⟨⟨rfl, rfl, trivial⟩, trivial⟩ rfl (.inl rfl) ?_); refine Q_run SV 2 rfl ?_; cases h76 : (!r75)
     · have hF := bF' h76 hF; refine Q_run SV 7 rfl ?_; cases h77 : (!decide (y62.fSpan.fFrom = a42))
       · have hF := bF' h77 hF; refine QV rfl ?_; exact join (decide (p2.fTo < y62.fSpan.fTo)) _ _ hF sw
       have hF := bT' h77 hF; refine QV rfl ?_; exact join true _ _ hF sw
     have hF := bT' h76 hF; refine QV rfl ?_; exact join true _ _ hF sw
   refine W_exit ?_; refine thenQ_exit ?_; refine thenQ_exit ?_; refine blockQ_hit ?_; exact brk_0 _ _ _ (oi hF) sw
 intro join hF
 refine wD 3 rfl ?_; obtain ⟨r80, hr80, hF⟩ := bB' hF
 refine rS (T_call (tracebookref48_fault_fun _ _ _ _ hr80) ⟨⟨rfl, rfl, rfl, rfl, rfl, rfl, rfl, rfl, rfl, rfl, trivial⟩, rfl, ⟨rfl, rfl, trivial⟩, trivial⟩ rfl (.inl rfl) ?_); refine Q_run SV 2 rfl ?_; cases h81 : (!decide (r80 = 0))
 · have hF := bF' h81 hF; refine Q_run SV 1 rfl ?_; refine R_step SV rfl (T_len (tc := t_api_Hop) p3 .tree ?_); refine QV rfl ?_; exact join (decide ((List.length p3 : Int) = 0)) _ _ hF sw
 have hF := bT' h81 hF; refine QV rfl ?_; exact join true _ _ hF sw
def critical_Total_L1 (p0 : (List api_Hop)) (p1 : Int) : (Int × Int) → Option ((Int × Int) ⊕ Int) := fun (a17, a18) =>
  (bif (decide (a18 < (List.length p0 : Int))) then ((((idx p0 a18).bind fun y26 => (bif (decide (y26.fState = p1)) then ((critical_length y26).bind fun r27 => some (w64 (a17 + r27))) else some a17)) : Option Int).bind fun v25 => some (.inl (v25, (w64 (a18 + 1))))) else some (.inr a17))
def critical_Total (p0 : (List api_Hop)) (p1 : Int) : Option Int :=
  ((loop (critical_Total_L1 p0 p1) (0, 0)).bind fun e24 => some e24)
theorem critical_Total_fun (p0 : (List api_Hop)) (p1 : Int) (r : Int) (hF : critical_Total p0 p1 = some r) : Fun Tryz.prog 15 true [] [cL 4 t_api_Hop p0, cI p1] noHeap (cI r) noHeap := by
 refine Fun.of_walk0 Tryz.func15 c15 (by kernel_rfl) (rs := [.tmp 4]) (by kernel_rfl) ?_; unfold v15
 unfold critical_Total at hF
 refine wA rfl ?_; refine wA rfl ?_; refine W_seq ?_; refine wC 1 rfl ?_; refine rS (T_len (tc := t_api_Hop) p0 .tree ?_); refine QV rfl ?_; refine W_for (fun _ _ h => h) hF (id) (fun (a17, a18) => [(1, cI p1), (5, cI a17), (8, cL 4 t_api_Hop p0), (9, cI (List.length p0 : Int)), (10, cI a18)]) (fun (a17, a18) => []) (fun e24 => [(5, cI e24)]) (fun e24 => []) sw ?_ ?_
 · rintro e24 hF
   refine wA rfl ?_; cases hF
   exact W_ret wR
 rintro ⟨a17, a18⟩ x_0 hF cont_0 brk_0 fin_0
 unfold critical_Total_L1 at hF
 refine wA rfl ?_; refine W_seq ?_; refine wIf hF rfl (fun _ hF => ?_) fun _ hF => ?_
 · refine W_skip ?_; refine W_seq ?_; refine W_join (fun _ _ h => h) hF (fun v25 => [(1, cI p1), (5, cI v25), (8, cL 4 t_api_Hop p0), (9, cI (List.length p0 : Int)), (10, cI a18)]) (fun v25 => []) ?_ ?_
   · rintro v25 hF
     refine wB rfl ?_; exact cont_0 _ _ _ (oi hF) sw
   intro join hF
   refine W_block ?_; refine wE ?_; obtain ⟨y26, hy26, hF⟩ := bB' hF
   refine rS (T_ixT (tc := t_api_Hop) p0 rfl rfl hy26 ?_); refine QV rfl ?_; refine wA rfl ?_; refine wIf' hF rfl (fun _ hF => ?_) fun _ hF => ?_
   · refine wD 2 rfl ?_; obtain ⟨r27, hr27, hF⟩ := bB' hF
     refine rS (T_call (critical_length_fun _ _ hr27) ⟨⟨rfl, rfl, rfl, rfl, trivial⟩, trivial⟩ rfl (.inl rfl) ?_); refine QV rfl ?_; exact join (w64 (a17 + r27)) _ _ hF sw
   refine W_skip ?_; exact join a17 _ _ hF sw
 refine W_exit ?_; refine thenQ_exit ?_; refine thenQ_exit ?_; refine blockQ_hit ?_; exact brk_0 _ _ _ (oi hF) sw
def tracebookref48_Total_L1 (p0 : (List api_Hop)) (p1 : Int) : (Int × Int) → Option ((Int × Int) ⊕ Int) := fun (a27, a28) =>
  (bif (decide (a28 < (List.length p0 : Int))) then ((((((idx p0 a28).bind fun y45 => (bif (decide (y45.fState = p1)) then ((idx p0 a28).bind fun y47 => ((tracebookref04_Valid y47.fSpan).bind fun r48 => some r48)) else some false)) : Option Bool).bind fun v41 => (bif v41 then ((idx p0 a28).bind fun y42 => ((idx p0 a28).bind fun y43 => some (w64 ((w64 (a27 + y42.fSpan.fTo)) - y43.fSpan.fFrom)))) else some a27)) : Option Int).bind fun v40 => some (.inl (v40, (w64 (a28 + 1))))) else some (.inr a27))
def tracebookref48_Total (p0 : (List api_Hop)) (p1 : Int) : Option Int :=
  ((loop (tracebookref48_Total_L1 p0 p1) (0, 0)).bind fun e39 => some e39)
theorem tracebookref48_Total_fun (p0 : (List api_Hop)) (p1 : Int) (r : Int) (hF : tracebookref48_Total p0 p1 = some r) : Fun Tryz.prog 16 true [] [cL 4 t_api_Hop p0, cI p1] noHeap (cI r) noHeap := by
 refine Fun.of_walk0 Tryz.func16 c16 (by kernel_rfl) (rs := [.tmp 4]) (by kernel_rfl) ?_; unfold v16
 unfold tracebookref48_Total at hF
 refine wA rfl ?_; refine wA rfl ?_; refine W_seq ?_; refine wA rfl ?_; refine W_for (fun _ _ h => h) hF (id) (fun (a27, a28) => [(0, cL 4 t_api_Hop p0), (1, cI p1), (5, cI a27), (6, cI a28)]) (fun (a27, a28) => []) (fun e39 => [(5, cI e39)]) (fun e39 => []) sw ?_ ?_
 · rintro e39 hF
   refine wA rfl ?_; cases hF
   exact W_ret wR
 rintro ⟨a27, a28⟩ x_0 hF cont_0 brk_0 fin_0
 unfold tracebookref48_Total_L1 at hF
 refine W_seq ?_; refine wC 2 rfl ?_; refine rS (T_len (tc := t_api_Hop) p0 .tree ?_); refine QV rfl ?_; refine wIf hF rfl (fun _ hF => ?_) fun _ hF => ?_
 · refine W_skip ?_; refine W_seq ?_; refine W_join (fun _ _ h => h) hF (fun v40 => [(0, cL 4 t_api_Hop p0), (1, cI p1), (5, cI v40), (6, cI a28)]) (fun v40 => []) ?_ ?_
   · rintro v40 hF
     refine wB rfl ?_; exact cont_0 _ _ _ (oi hF) sw
   intro join hF
   refine W_block ?_; refine W_seq ?_; have hF := bA hF; refine W_join (fun _ _ h => h) hF (fun v41 => [(0, cL 4 t_api_Hop p0), (1, cI p1), (5, cI a27), (6, cI a28), (27, cB v41)]) (fun v41 => []) ?_ ?_
   · rintro v41 hF
     refine wIf' hF rfl (fun _ hF => ?_) fun _ hF => ?_
     · refine W_regD (by decide) (by kernel_rfl) rfl ?_; refine Q_run SP 3 rfl ?_; obtain ⟨y42, hy42, hF⟩ := bB' hF
       refine R_step SP trivial (T_ixT (tc := t_api_Hop) p0 rfl rfl hy42 ?_); refine Q_run SP 6 rfl ?_; obtain ⟨y43, hy43, hF⟩ := bB' hF
       refine R_step SP trivial (T_ixT (tc := t_api_Hop) p0 rfl rfl hy43 ?_); refine QP rfl ?_; exact join (w64 ((w64 (a27 + y42.fSpan.fTo)) - y43.fSpan.fFrom)) _ _ hF sw
     refine W_skip ?_; exact join a27 _ _ hF sw
   intro join hF
   refine wD 2 rfl ?_; obtain ⟨y45, hy45, hF⟩ := bB' hF
   refine rS (T_ixT (tc := t_api_Hop) p0 rfl rfl hy45 ?_); refine Q_run SV 5 rfl ?_; cases h46 : (decide (y45.fState = p1))
   · have hF := bF' h46 hF; refine QV rfl ?_; exact join false _ _ hF sw
   have hF := bT' h46 hF; refine Q_run SV 2 rfl ?_; obtain ⟨y47, hy47, hF⟩ := bB' hF
   refine R_step SV rfl (T_ixT (tc := t_api_Hop) p0 rfl rfl hy47 ?_); refine Q_run SV 2 rfl ?_; obtain ⟨r48, hr48, hF⟩ := bB' hF
   refine R_step SV rfl (T_call (tracebookref04_Valid_fun _ _ hr48) ⟨⟨rfl, rfl, trivial⟩, trivial⟩ rfl (.inl rfl) ?_); refine QV rfl ?_; exact join r48 _ _ hF sw
 refine W_exit ?_; refine thenQ_exit ?_; refine thenQ_exit ?_; refine blockQ_hit ?_; exact brk_0 _ _ _ (oi hF) sw
def tracebooklaw48_CriticalReads_L1 (r3 : (List T46_2_int)) (r4 : (List T46_2_int)) : Int → Option (Int ⊕ (Unit ⊕ Bool)) := fun a17 =>
  (bif (decide (a17 < (List.length r3 : Int))) then ((idx r3 a17).bind fun y23 => ((idx r4 a17).bind fun y24 => (bif ((decide (y23.a0 = y24.a0) && (decide (y23.a1 = y24.a1) && true)) != true) then some (.inr (.inr false)) else some (.inl (w64 (a17 + 1)))))) else some (.inr (.inl ())))
def tracebooklaw48_CriticalReads (p0 : api_Trace) (p1 : Int) (p2 : api_Span) (p3 : (List api_Hop)) (p4 : Int) : Option Bool :=
  ((((tracebooklaw48_few p0).bind fun r35 => (bif (!r35) then some true else some (decide (100 < (List.length p3 : Int))))) : Option Bool).bind fun v1 => (bif v1 then ((tracebooklaw48_awake ).bind fun r2 => some r2) else ((critical_Shares p3).bind fun r3 => ((tracebookref48_Shares p3).bind fun r4 => ((((critical_Check p0 p1 p2 p3).bind fun r28 => ((tracebookref48_Check p0 p1 p2 p3).bind fun r29 => (bif (decide (r28 = r29) != true) then some true else ((critical_Total p3 p4).bind fun r31 => ((tracebookref48_Total p3 p4).bind fun r32 => (bif (!decide (r31 = r32)) then some true else some (!decide ((List.length r3 : Int) = (List.length r4 : Int))))))))) : Option Bool).bind fun v5 => (bif v5 then some false else ((loop (tracebooklaw48_CriticalReads_L1 r3 r4) 0).bind fun | .inl _ => ((tracebooklaw48_awake ).bind fun r22 => some r22) | .inr rv => some rv)))))))
theorem tracebooklaw48_CriticalReads_fun (p0 : api_Trace) (p1 : Int) (p2 : api_Span) (p3 : (List api_Hop)) (p4 : Int) (r : Bool) (hF : tracebooklaw48_CriticalReads p0 p1 p2 p3 p4 = some r) : Fun Tryz.prog 4 true [] [.agg (m_api_Trace p0), cI p1, .agg [jI p2.fFrom, jI p2.fTo], cL 4 t_api_Hop p3, cI p4] noHeap (cB r) noHeap := by
 refine Fun.of_walk0 Tryz.func4 c4 (by kernel_rfl) (rs := [.tmp 10]) (by kernel_rfl) ?_; unfold v4
 unfold tracebooklaw48_CriticalReads at hF
 refine wA rfl ?_; refine W_seq ?_; refine W_seq ?_; refine W_join (fun _ _ h => h) hF (fun v1 => [(1, cI p1), (3, cL 4 t_api_Hop p3), (4, cI p4), (5, cP (5,0) 0), (7, cP (7,0) 0), (21, cB v1)]) (fun v1 => [((5,0), .box (m_api_Trace p0)), ((7,0), .box [jI p2.fFrom, jI p2.fTo])]) ?_ ?_
 · rintro v1 hF
   refine wIf hF rfl (fun _ hF => ?_) fun _ hF => ?_
   · refine wE ?_; obtain ⟨r2, hr2, hF⟩ := bB hF
     refine rS (T_call (tracebooklaw48_awake_fun _ hr2) trivial rfl (.inl rfl) ?_); refine QV rfl ?_; cases hF
     exact W_ret wR
   refine W_skip ?_; refine wC 1 rfl ?_; obtain ⟨r3, hr3, hF⟩ := bB hF
   refine R_stepX trivial (X_callG [((902,440),(24,1))] rfl (callN _) (critical_Shares_fun _ _ hr3) trivial ⟨.inl rfl, trivial⟩ rfl rfl rfl ?_); refine Q_run SV 1 rfl ?_; obtain ⟨r4, hr4, hF⟩ := bB hF
   refine R_stepX trivial (X_callG [((902,480),(26,1))] rfl (callN _) (tracebookref48_Shares_fun _ _ hr4) trivial ⟨.inl rfl, trivial⟩ rfl rfl rfl ?_); refine QV rfl ?_; refine W_seq ?_; refine W_seq ?_; refine W_join (fun _ _ h => h) hF (fun v5 => [(11, cO (24,1)), (12, cO (26,1)), (53, cB v5)]) (fun v5 => [((24,1), .arr 46 2 (List.map t_T46_2_int r3)), ((26,1), .arr 46 2 (List.map t_T46_2_int r4))]) ?_ ?_
   · rintro v5 hF
     refine wIf hF rfl (fun _ hF => ?_) fun _ hF => ?_
     · refine wA rfl ?_; cases hF
       exact W_ret wR
     refine W_skip ?_; refine W_seq ?_; refine wC 1 rfl ?_; refine rS (T_len (tc := t_T46_2_int) r3 (.own _ _ rfl) ?_); refine QV rfl ?_; refine W_for (fun _ _ h => h) hF (.inl) (fun a17 => [(11, cO (24,1)), (12, cO (26,1)), (55, cI (List.length r3 : Int)), (56, cI a17)]) (fun a17 => [((24,1), .arr 46 2 (List.map t_T46_2_int r3)), ((26,1), .arr 46 2 (List.map t_T46_2_int r4))]) (fun _ => []) (fun _ => []) sw ?_ ?_
     · rintro ⟨⟩ hF
       refine wE ?_; obtain ⟨r22, hr22, hF⟩ := bB hF
       refine rS (T_call (tracebooklaw48_awake_fun _ hr22) trivial rfl (.inl rfl) ?_); refine QV rfl ?_; cases hF
       exact W_ret wR
     rintro a17 x_0 hF cont_0 brk_0 fin_0
     unfold tracebooklaw48_CriticalReads_L1 at hF
     refine wA rfl ?_; refine W_seq ?_; refine wIf hF rfl (fun _ hF => ?_) fun _ hF => ?_
     · refine W_skip ?_; refine W_seq ?_; refine W_block ?_; refine wA rfl ?_; refine W_seq ?_; refine W_regD (by decide) (by kernel_rfl) rfl ?_; refine Q_run SP 2 rfl ?_; obtain ⟨y23, hy23, hF⟩ := bB hF
       refine R_step SP trivial (T_ixO (tc := t_T46_2_int) r3 rfl rfl rfl hy23 ?_); refine R_step SP trivial (T_ldE (tc := t_T46_2_int) r3 rfl rfl (idx_get hy23).2.1 rfl ?_); refine Q_run SP 2 rfl ?_; obtain ⟨y24, hy24, hF⟩ := bB hF
       refine R_step SP trivial (T_ixO (tc := t_T46_2_int) r4 rfl rfl rfl hy24 ?_); refine R_step SP trivial (T_ldE (tc := t_T46_2_int) r4 rfl rfl (idx_get hy24).2.1 rfl ?_); refine R_step SP trivial (T_aeq (b := (decide (y23.a0 = y24.a0) && (decide (y23.a1 = y24.a1) && true))) (eqOk_arr (n := 1) (she := [.int .i64]) (sh := [.int .i64, .int .i64]) Tryz.underlying46 (by kernel_rfl) (by kernel_rfl) (by kernel_rfl) rfl) rfl rfl rfl rfl ?_)
       refine QP rfl ?_; refine wIf hF rfl (fun _ hF => ?_) fun _ hF => ?_
       · refine wA rfl ?_; have hF := fin_0 _ (oi hF); cases hF
         exact W_ret wR
       refine W_skip ?_; refine wB rfl ?_; exact cont_0 _ _ _ (oi hF) sw
     refine W_exit ?_; refine thenQ_exit ?_; refine thenQ_exit ?_; refine blockQ_hit ?_; exact brk_0 _ _ _ (oi hF) sw
   intro join hF
   refine W_regD (by decide) (by kernel_rfl) rfl ?_; refine Q_run SP 4 rfl ?_; obtain ⟨r28, hr28, hF⟩ := bB' hF
   refine R_step SP trivial (T_call (critical_Check_fun _ _ _ _ _ hr28) ⟨⟨rfl, rfl, rfl, rfl, rfl, rfl, rfl, rfl, rfl, rfl, trivial⟩, rfl, ⟨rfl, rfl, trivial⟩, rfl, trivial⟩ rfl (.inl rfl) ?_); refine Q_run SP 4 rfl ?_
   obtain ⟨r29, hr29, hF⟩ := bB' hF
   refine R_step SP trivial (T_call (tracebookref48_Check_fun _ _ _ _ _ hr29) ⟨⟨rfl, rfl, rfl, rfl, rfl, rfl, rfl, rfl, rfl, rfl, trivial⟩, rfl, ⟨rfl, rfl, trivial⟩, rfl, trivial⟩ rfl (.inl rfl) ?_); refine Q_run SP 2 rfl ?_
   cases h30 : (decide (r28 = r29) != true)
   · have hF := bF' h30 hF; refine Q_run SP 2 rfl ?_; obtain ⟨r31, hr31, hF⟩ := bB' hF
     refine R_step SP rfl (T_call (critical_Total_fun _ _ _ hr31) ⟨rfl, rfl, trivial⟩ rfl (.inl rfl) ?_); refine Q_run SP 2 rfl ?_; obtain ⟨r32, hr32, hF⟩ := bB' hF
     refine R_step SP rfl (T_call (tracebookref48_Total_fun _ _ _ hr32) ⟨rfl, rfl, trivial⟩ rfl (.inl rfl) ?_); refine Q_run SP 3 rfl ?_; cases h33 : (!decide (r31 = r32))
     · have hF := bF' h33 hF; refine Q_run SP 1 rfl ?_; refine R_step SP rfl (T_len (tc := t_T46_2_int) r3 (.own _ _ rfl) ?_); refine Q_run SP 1 rfl ?_; refine R_step SP rfl (T_len (tc := t_T46_2_int) r4 (.own _ _ rfl) ?_)
       refine QP rfl ?_; exact join (!decide ((List.length r3 : Int) = (List.length r4 : Int))) _ _ hF sw
     have hF := bT' h33 hF; refine QP rfl ?_; exact join true _ _ hF sw
   have hF := bT' h30 hF; refine QP rfl ?_; exact join true _ _ hF sw
 intro join hF
 refine wD 1 rfl ?_; obtain ⟨r35, hr35, hF⟩ := bB' hF
 refine rS (T_call (tracebooklaw48_few_fun _ _ hr35) ⟨⟨rfl, rfl, rfl, rfl, rfl, rfl, rfl, rfl, rfl, rfl, trivial⟩, trivial⟩ rfl (.inl rfl) ?_); refine Q_run SV 2 rfl ?_; cases h36 : (!r35)
 · have hF := bF' h36 hF; refine Q_run SV 1 rfl ?_; refine R_step SV rfl (T_len (tc := t_api_Hop) p3 .tree ?_); refine QV rfl ?_; exact join (decide (100 < (List.length p3 : Int))) _ _ hF sw
 have hF := bT' h36 hF; refine QV rfl ?_; exact join true _ _ hF sw
end Go.VM
