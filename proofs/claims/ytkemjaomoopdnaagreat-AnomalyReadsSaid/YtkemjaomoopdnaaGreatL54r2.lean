/- What the functions of the law compute, each with its proof. -/
import Derived.Test.YtkemjaomoopdnaaGreatL54r1
import Derived.Test.YtkemjaomoopdnaaGreatRows
import Derived.KernelRfl
import Derived.Lib.Bytealg
import Derived.Laws.Externs
import Derived.WalkKit
namespace Go.VM
open Go.Proofs Go.Proofs.YtkemjaomoopdnaaGreat
open Go.RowKit
set_option maxRecDepth 100000
set_option maxHeartbeats 4000000
theorem memory_Check_fun (p0 : (List api_Block)) (r : Int) (hF : memory_Check p0 = some r) : Fun Tryz.prog 62 true [] [cL 7 t_api_Block p0] noHeap (cI r) noHeap := by
 refine Fun.of_walk0 Tryz.func62 c62 (by kernel_rfl) (rs := [.tmp 2]) (by kernel_rfl) ?_; unfold v62
 unfold memory_Check at hF
 refine wA rfl ?_; refine W_seq ?_; refine wC 1 rfl ?_; refine rS (T_len (tc := t_api_Block) p0 .tree ?_); refine QV rfl ?_; refine W_for (fun _ _ h => h) hF (.inl) (fun a96 => [(0, cL 7 t_api_Block p0), (8, cL 7 t_api_Block p0), (9, cI (List.length p0 : Int)), (10, cI a96)]) (fun a96 => []) (fun _ => []) (fun _ => []) sw ?_ ?_
 · rintro ⟨⟩ hF
   refine wA rfl ?_; cases hF
   exact W_ret wR
 rintro a96 x_0 hF cont_0 brk_0 fin_0
 unfold memory_Check_L2 at hF
 refine wA rfl ?_; refine W_seq ?_; refine wIf hF rfl (fun _ hF => ?_) fun _ hF => ?_
 · refine W_skip ?_; refine W_seq ?_; refine W_block ?_; refine wC 1 rfl ?_; obtain ⟨y143, hy143, hF⟩ := bB hF
   refine rS (T_ixT (tc := t_api_Block) p0 rfl rfl hy143 ?_); refine QV rfl ?_; refine W_seq ?_; refine W_seq ?_; refine W_join (fun _ _ h => h) hF (fun v144 => [(0, cL 7 t_api_Block p0), (3, cI a96), (4, cP (4,0) 0), (8, cL 7 t_api_Block p0), (9, cI (List.length p0 : Int)), (10, cI a96), (48, cB v144)]) (fun v144 => [((4,0), .box (m_api_Block y143))]) ?_ ?_
   · rintro v144 hF
     refine wIf hF rfl (fun _ hF => ?_) fun _ hF => ?_
     · refine wA rfl ?_; have hF := fin_0 _ (oi hF); cases hF
       exact W_ret wR
     refine W_skip ?_; refine W_seq ?_; refine wC 2 rfl ?_; obtain ⟨r145, hr145, hF⟩ := bB hF
     refine rS (T_call (intern_Frames_fun _ _ hr145) ⟨rfl, trivial⟩ rfl (.inl rfl) ?_); refine QV rfl ?_; refine wA rfl ?_; refine wIf hF rfl (fun _ hF => ?_) fun _ hF => ?_
     · refine wA rfl ?_; have hF := fin_0 _ (oi hF); cases hF
       exact W_ret wR
     refine W_skip ?_; refine W_seq ?_; refine W_seq ?_; refine W_join (fun _ _ h => h) hF (fun v146 => [(0, cL 7 t_api_Block p0), (3, cI a96), (4, cP (4,0) 0), (8, cL 7 t_api_Block p0), (9, cI (List.length p0 : Int)), (10, cI a96), (69, cB v146)]) (fun v146 => [((4,0), .box (m_api_Block y143))]) ?_ ?_
     · rintro v146 hF
       refine wIf hF rfl (fun _ hF => ?_) fun _ hF => ?_
       · refine wA rfl ?_; have hF := fin_0 _ (oi hF); cases hF
         exact W_ret wR
       refine W_skip ?_; refine wC 2 rfl ?_; obtain ⟨y147, hy147, hF⟩ := bB hF
       refine rS (T_sub (tc := t_api_Block) p0 rfl rfl rfl hy147 ?_); refine rS (T_len (tc := t_api_Block) y147 .tree ?_); refine QV rfl ?_; refine W_for (fun _ _ h => h) hF (.inl) (fun a163 => [(0, cL 7 t_api_Block p0), (4, cP (4,0) 0), (8, cL 7 t_api_Block p0), (9, cI (List.length p0 : Int)), (10, cI a96), (72, cL 7 t_api_Block y147), (73, cI (List.length y147 : Int)), (74, cI a163)]) (fun a163 => [((4,0), .box (m_api_Block y143))]) (fun _ => [(0, cL 7 t_api_Block p0), (8, cL 7 t_api_Block p0), (9, cI (List.length p0 : Int)), (10, cI a96)]) (fun _ => []) sw ?_ ?_
       · rintro ⟨⟩ hF
         refine wB rfl ?_; exact cont_0 _ _ _ (oi hF) sw
       rintro a163 x_1 hF cont_1 brk_1 fin_1
       unfold memory_Check_L1 at hF
       refine wA rfl ?_; refine W_seq ?_; refine wIf hF rfl (fun _ hF => ?_) fun _ hF => ?_
       · refine W_skip ?_; refine W_seq ?_; refine W_block ?_; refine wE ?_; obtain ⟨y170, hy170, hF⟩ := bB hF
         refine rS (T_ixT (tc := t_api_Block) y147 rfl rfl hy170 ?_); refine QV rfl ?_; refine W_seq ?_; refine W_join (fun _ _ h => h) hF (fun v171 => [(0, cL 7 t_api_Block p0), (4, cP (4,0) 0), (8, cL 7 t_api_Block p0), (9, cI (List.length p0 : Int)), (10, cI a96), (72, cL 7 t_api_Block y147), (73, cI (List.length y147 : Int)), (74, cI a163), (100, cB v171)]) (fun v171 => [((4,0), .box (m_api_Block y143))]) ?_ ?_
         · rintro v171 hF
           refine wIf hF rfl (fun _ hF => ?_) fun _ hF => ?_
           · refine wA rfl ?_; have hF := fin_1 _ (oi hF); have hF := fin_0 _ (oi hF); cases hF
             exact W_ret wR
           refine W_skip ?_; refine wB rfl ?_; exact cont_1 _ _ _ (oi hF) sw
         intro join hF
         refine wD 6 rfl ?_; cases h173 : (decide (y170.fId = y143.fId))
         · have hF := bF' h173 hF; refine QV rfl ?_; exact join false _ _ hF sw
         have hF := bT' h173 hF; refine Q_run SV 9 rfl ?_; cases h174 : (decide (y170.fSpan.fFrom < y143.fSpan.fTo))
         · have hF := bF' h174 hF; refine QV rfl ?_; exact join false _ _ hF sw
         have hF := bT' h174 hF; refine QV rfl ?_; exact join (decide (y143.fSpan.fFrom < y170.fSpan.fTo)) _ _ hF sw
       refine W_exit ?_; refine thenQ_exit ?_; refine thenQ_exit ?_; refine blockQ_hit ?_; exact brk_1 _ _ _ (oi hF) sw
     intro join hF
     refine W_regD (by decide) (by kernel_rfl) rfl ?_; refine Q_run SP 3 rfl ?_; cases h177 : (decide (0 < a96))
     · have hF := bF' h177 hF; refine QP rfl ?_; exact join false _ _ hF sw
     have hF := bT' h177 hF; refine Q_run SP 6 rfl ?_; obtain ⟨y178, hy178, hF⟩ := bB' hF
     refine R_step SP rfl (T_ixT (tc := t_api_Block) p0 rfl rfl hy178 ?_); refine QP rfl ?_; exact join (decide (y143.fSpan.fFrom < y178.fSpan.fFrom)) _ _ hF sw
   intro join hF
   refine wD 4 rfl ?_; cases h181 : (decide (y143.fId < 0))
   · have hF := bF' h181 hF; refine Q_run SV 5 rfl ?_; cases h182 : (decide (1000000000000000 < y143.fId))
     · have hF := bF' h182 hF; refine Q_run SV 5 rfl ?_; cases h183 : (decide (y143.fThread < 0))
       · have hF := bF' h183 hF; refine Q_run SV 5 rfl ?_; cases h184 : (decide (1000000000000000 < y143.fThread))
         · have hF := bF' h184 hF; refine Q_run SV 5 rfl ?_; cases h185 : (decide (y143.fSize < 1))
           · have hF := bF' h185 hF; refine Q_run SV 5 rfl ?_; cases h186 : (decide (1000000000000 < y143.fSize))
             · have hF := bF' h186 hF; refine Q_run SV 2 rfl ?_; obtain ⟨r187, hr187, hF⟩ := bB' hF
               refine R_step SV rfl (T_call (spans_Valid_fun _ _ hr187) ⟨⟨rfl, rfl, trivial⟩, trivial⟩ rfl (.inl rfl) ?_); refine QV rfl ?_; exact join (!r187) _ _ hF sw
             have hF := bT' h186 hF; refine QV rfl ?_; exact join true _ _ hF sw
           have hF := bT' h185 hF; refine QV rfl ?_; exact join true _ _ hF sw
         have hF := bT' h184 hF; refine QV rfl ?_; exact join true _ _ hF sw
       have hF := bT' h183 hF; refine QV rfl ?_; exact join true _ _ hF sw
     have hF := bT' h182 hF; refine QV rfl ?_; exact join true _ _ hF sw
   have hF := bT' h181 hF; refine QV rfl ?_; exact join true _ _ hF sw
 refine W_exit ?_; refine thenQ_exit ?_; refine thenQ_exit ?_; refine blockQ_hit ?_; exact brk_0 _ _ _ (oi hF) sw
def trace_tables_5 (p0 : api_Block) : Option Int :=
  some p0.fThread
theorem trace_tables_5_fun (p0 : api_Block) (r : Int) (hF : trace_tables_5 p0 = some r) : Fun Tryz.prog 63 true [] [.agg (m_api_Block p0)] noHeap (cI r) noHeap := by
 refine Fun.of_walk0 Tryz.func63 c63 (by kernel_rfl) (rs := [.tmp 2]) (by kernel_rfl) ?_; unfold v63
 unfold trace_tables_5 at hF
 refine wA rfl ?_; refine wA rfl ?_; cases hF
 exact W_ret wR
def trace_known_api_Block_k1_L1 (p1 : (List (Int × ByteArray))) (p2 : (List api_Block)) : Int → Option (Int ⊕ (Unit ⊕ Int)) := fun a12 =>
  (bif (decide (a12 < (List.length p2 : Int))) then ((idx p2 a12).bind fun y17 => ((trace_tables_5 y17).bind fun r18 => (bif (!(Option.isSome (mget r18 p1))) then some (.inr (.inr 5)) else some (.inl (w64 (a12 + 1)))))) else some (.inr (.inl ())))
def trace_known_api_Block_k1 (p0 : Int) (p1 : (List (Int × ByteArray))) (p2 : (List api_Block)) : Option Int :=
  (bif (!decide (p0 = 0)) then some p0 else ((loop (trace_known_api_Block_k1_L1 p1 p2) 0).bind fun | .inl _ => some 0 | .inr rv => some rv))
theorem trace_known_api_Block_k1_fun (p0 : Int) (p1 : (List (Int × ByteArray))) (p2 : (List api_Block)) (r : Int) (hF : trace_known_api_Block_k1 p0 p1 p2 = some r) : Fun Tryz.prog 61 false [(3440,0)] [cI p0, cM (3440,0), cL 7 t_api_Block p2, .c (.fn 63 [])] (heapOf [((3440,0), mapOb (.int .i64) kvI vvS p1)]) (cI r) (heapOf [((3440,0), mapOb (.int .i64) kvI vvS p1)]) := by
 refine Fun.of_walkM [(3440,0)] (some [(3440,0)]) Tryz.func61 c61 (by kernel_rfl) (rs := [.tmp 8]) (by kernel_rfl) rfl rfl rfl ?_; unfold v61
 unfold trace_known_api_Block_k1 at hF
 refine wA rfl ?_; refine W_seq ?_; refine wA rfl ?_; refine wIf hF rfl (fun _ hF => ?_) fun _ hF => ?_
 · refine wA rfl ?_; cases hF
   exact W_ret ⟨_, _, S_refl, _, rfl, rfl, ⟨rfl, fun _ => rfl⟩, (AgM.weak ⟨rfl, trivial⟩)⟩
 refine W_skip ?_; refine W_seq ?_; refine wC 1 rfl ?_; refine rS (T_len (tc := t_api_Block) p2 .tree ?_); refine QV rfl ?_; refine W_for (fun _ _ h => h) hF (.inl) (fun a12 => [(1, cM (3440,0)), (3, .c (.fn 63 [])), (16, cL 7 t_api_Block p2), (17, cI (List.length p2 : Int)), (18, cI a12)]) (fun a12 => [((3440,0), mapOb (.int .i64) kvI vvS p1)]) (fun _ => []) (fun _ => [((3440,0), mapOb (.int .i64) kvI vvS p1)]) sw ?_ ?_
 · rintro ⟨⟩ hF
   refine wA rfl ?_; cases hF
   exact W_ret ⟨_, _, S_refl, _, rfl, rfl, ⟨rfl, fun _ => rfl⟩, (AgM.weak ⟨rfl, trivial⟩)⟩
 rintro a12 x_0 hF cont_0 brk_0 fin_0
 unfold trace_known_api_Block_k1_L1 at hF
 refine wA rfl ?_; refine W_seq ?_; refine wIf hF rfl (fun _ hF => ?_) fun _ hF => ?_
 · refine W_skip ?_; refine W_seq ?_; refine W_block ?_; refine wE ?_; obtain ⟨y17, hy17, hF⟩ := bB hF
   refine rS (T_ixT (tc := t_api_Block) p2 rfl rfl hy17 ?_); refine QV rfl ?_; refine wC 3 rfl ?_; obtain ⟨r18, hr18, hF⟩ := bB hF
   refine R_stepX trivial (X_call (callW _ rfl fnOk63) (trace_tables_5_fun _ _ hr18) ⟨⟨rfl, rfl, rfl, rfl, rfl, rfl, rfl, trivial⟩, trivial⟩ rfl (.inl rfl) ?_); refine rS (T_lookOk (keyI .i64) (vv := vvS) p1 r18 ⟨#[]⟩ (.own _ rfl) rfl rfl ?_)
   refine QV rfl ?_; refine wA rfl ?_; refine wIf hF rfl (fun _ hF => ?_) fun _ hF => ?_
   · refine wA rfl ?_; have hF := fin_0 _ (oi hF); cases hF
     exact W_ret ⟨_, _, S_refl, _, rfl, rfl, ⟨rfl, fun _ => rfl⟩, (AgM.weak ⟨rfl, trivial⟩)⟩
   refine W_skip ?_; refine wB rfl ?_; exact cont_0 _ _ _ (oi hF) sw
 refine W_exit ?_; refine thenQ_exit ?_; refine thenQ_exit ?_; refine blockQ_hit ?_; exact brk_0 _ _ _ (oi hF) sw
def trace_losses_k1_L1 (p0 : (List (Int × ByteArray))) (p1 : (List api_Loss)) : Int → Option (Int ⊕ (Unit ⊕ Int)) := fun a20 =>
  (bif (decide (a20 < (List.length p1 : Int))) then ((idx p1 a20).bind fun y29 => (bif (!(Option.isSome (mget y29.fThread p0))) then some (.inr (.inr 5)) else ((((spans_Valid y29.fSpan).bind fun r32 => (bif (!r32) then some true else (bif (decide (y29.fCount < 1)) then some true else some (decide (1000000000000000 < y29.fCount))))) : Option Bool).bind fun v30 => (bif v30 then some (.inr (.inr 2)) else some (.inl (w64 (a20 + 1))))))) else some (.inr (.inl ())))
def trace_losses_k1 (p0 : (List (Int × ByteArray))) (p1 : (List api_Loss)) : Option Int :=
  ((loop (trace_losses_k1_L1 p0 p1) 0).bind fun | .inl _ => some 0 | .inr rv => some rv)
theorem trace_losses_k1_fun (p0 : (List (Int × ByteArray))) (p1 : (List api_Loss)) (r : Int) (hF : trace_losses_k1 p0 p1 = some r) : Fun Tryz.prog 64 false [(3560,0)] [cM (3560,0), cL 4 t_api_Loss p1] (heapOf [((3560,0), mapOb (.int .i64) kvI vvS p0)]) (cI r) (heapOf [((3560,0), mapOb (.int .i64) kvI vvS p0)]) := by
 refine Fun.of_walkM [(3560,0)] (some [(3560,0)]) Tryz.func64 c64 (by kernel_rfl) (rs := [.tmp 4]) (by kernel_rfl) rfl rfl rfl ?_; unfold v64
 unfold trace_losses_k1 at hF
 refine wA rfl ?_; refine W_seq ?_; refine wC 1 rfl ?_; refine rS (T_len (tc := t_api_Loss) p1 .tree ?_); refine QV rfl ?_; refine W_for (fun _ _ h => h) hF (.inl) (fun a20 => [(0, cM (3560,0)), (9, cL 4 t_api_Loss p1), (10, cI (List.length p1 : Int)), (11, cI a20)]) (fun a20 => [((3560,0), mapOb (.int .i64) kvI vvS p0)]) (fun _ => []) (fun _ => [((3560,0), mapOb (.int .i64) kvI vvS p0)]) sw ?_ ?_
 · rintro ⟨⟩ hF
   refine wA rfl ?_; cases hF
   exact W_ret ⟨_, _, S_refl, _, rfl, rfl, ⟨rfl, fun _ => rfl⟩, (AgM.weak ⟨rfl, trivial⟩)⟩
 rintro a20 x_0 hF cont_0 brk_0 fin_0
 unfold trace_losses_k1_L1 at hF
 refine wA rfl ?_; refine W_seq ?_; refine wIf hF rfl (fun _ hF => ?_) fun _ hF => ?_
 · refine W_skip ?_; refine W_seq ?_; refine W_block ?_; refine wE ?_; obtain ⟨y29, hy29, hF⟩ := bB hF
   refine rS (T_ixT (tc := t_api_Loss) p1 rfl rfl hy29 ?_); refine QV rfl ?_; refine W_seq ?_; refine wC 3 rfl ?_; refine rS (T_lookOk (keyI .i64) (vv := vvS) p0 y29.fThread ⟨#[]⟩ (.own _ rfl) rfl rfl ?_)
   refine QV rfl ?_; refine wA rfl ?_; refine wIf hF rfl (fun _ hF => ?_) fun _ hF => ?_
   · refine wA rfl ?_; have hF := fin_0 _ (oi hF); cases hF
     exact W_ret ⟨_, _, S_refl, _, rfl, rfl, ⟨rfl, fun _ => rfl⟩, (AgM.weak ⟨rfl, trivial⟩)⟩
   refine W_skip ?_; refine W_seq ?_; refine W_join (fun _ _ h => h) hF (fun v30 => [(0, cM (3560,0)), (9, cL 4 t_api_Loss p1), (10, cI (List.length p1 : Int)), (11, cI a20), (37, cB v30)]) (fun v30 => [((3560,0), mapOb (.int .i64) kvI vvS p0)]) ?_ ?_
   · rintro v30 hF
     refine wIf hF rfl (fun _ hF => ?_) fun _ hF => ?_
     · refine wA rfl ?_; have hF := fin_0 _ (oi hF); cases hF
       exact W_ret ⟨_, _, S_refl, _, rfl, rfl, ⟨rfl, fun _ => rfl⟩, (AgM.weak ⟨rfl, trivial⟩)⟩
     refine W_skip ?_; refine wB rfl ?_; exact cont_0 _ _ _ (oi hF) sw
   intro join hF
   refine wD 2 rfl ?_; obtain ⟨r32, hr32, hF⟩ := bB' hF
   refine rS (T_call (spans_Valid_fun _ _ hr32) ⟨⟨rfl, rfl, trivial⟩, trivial⟩ rfl (.inl rfl) ?_); refine Q_run SV 2 rfl ?_; cases h33 : (!r32)
   · have hF := bF' h33 hF; refine Q_run SV 5 rfl ?_; cases h34 : (decide (y29.fCount < 1))
     · have hF := bF' h34 hF; refine QV rfl ?_; exact join (decide (1000000000000000 < y29.fCount)) _ _ hF sw
     have hF := bT' h34 hF; refine QV rfl ?_; exact join true _ _ hF sw
   have hF := bT' h33 hF; refine QV rfl ?_; exact join true _ _ hF sw
 refine W_exit ?_; refine thenQ_exit ?_; refine thenQ_exit ?_; refine blockQ_hit ?_; exact brk_0 _ _ _ (oi hF) sw
def trace_tables (p0 : api_Trace) : Option Int :=
  ((trace_threads p0).bind fun | .inl r1_0 => (bif (!decide (r1_0.2 = 0)) then some r1_0.2 else ((slice_Check p0.fSlices).bind fun r2 => none)) | .inr r1_1 => (bif (!decide (r1_1.2 = 0)) then some r1_1.2 else ((slice_Check p0.fSlices).bind fun r4 => ((trace_known_api_Slice_k1 r4 r1_1.1 p0.fSlices).bind fun r5 => (bif (!decide (r5 = 0)) then some r5 else ((state_Check p0.fThreads p0.fStates).bind fun r6 => (bif (!decide (r6 = 0)) then some r6 else ((flow_Check p0.fFlows).bind fun r7 => ((trace_known_api_Flow_k1 r7 r1_1.1 p0.fFlows).bind fun r8 => ((trace_known_api_Flow_k2 r8 r1_1.1 p0.fFlows).bind fun r9 => (bif (!decide (r9 = 0)) then some r9 else ((sample_Check p0.fSamples).bind fun r10 => ((trace_known_api_Sample_k1 r10 r1_1.1 p0.fSamples).bind fun r11 => (bif (!decide (r11 = 0)) then some r11 else ((counter_Check p0.fSteps).bind fun r12 => (bif (!decide (r12 = 0)) then some r12 else ((memory_Check p0.fBlocks).bind fun r13 => ((trace_known_api_Block_k1 r13 r1_1.1 p0.fBlocks).bind fun r14 => (bif (!decide (r14 = 0)) then some r14 else ((trace_losses_k1 r1_1.1 p0.fLost).bind fun r15 => some r15))))))))))))))))))))
theorem trace_tables_fun (p0 : api_Trace) (r : Int) (hF : trace_tables p0 = some r) : Fun Tryz.prog 32 true [] [.agg (m_api_Trace p0)] noHeap (cI r) noHeap := by
 refine Fun.of_walk0 Tryz.func32 c32 (by kernel_rfl) (rs := [.tmp 2]) (by kernel_rfl) ?_; unfold v32
 unfold trace_tables at hF
 refine wA rfl ?_; refine wC 1 rfl ?_; obtain ⟨r1, hr1, hF⟩ := bB hF
 rcases r1 with r1_0 | r1_1
 · refine R_stepX trivial (X_callG [] rfl (callN _) (trace_threads_fun _ _ hr1) trivial ⟨.inr ⟨rfl, rfl, rfl, rfl, rfl, rfl, rfl, rfl, rfl, rfl, trivial⟩, trivial⟩ rfl rfl rfl ?_); refine QV rfl ?_; refine W_seq ?_
   refine wA rfl ?_; refine wIf hF rfl (fun _ hF => ?_) fun _ hF => ?_
   · refine wA rfl ?_; cases hF
     exact W_ret wR
   refine W_skip ?_; refine W_seq ?_; refine W_seq ?_; refine W_regD (by decide) (by kernel_rfl) rfl ?_; refine Q_run SP 2 rfl ?_; obtain ⟨r2, hr2, hF⟩ := bB hF
   refine R_step SP trivial (T_call (slice_Check_fun _ _ hr2) ⟨rfl, trivial⟩ rfl (.inl rfl) ?_); refine Q_run SP 3 rfl ?_; simp at hF
 refine R_stepX trivial (X_callG [((902,1920),(13,1))] rfl (callN _) (trace_threads_fun _ _ hr1) trivial ⟨.inr ⟨rfl, rfl, rfl, rfl, rfl, rfl, rfl, rfl, rfl, rfl, trivial⟩, trivial⟩ rfl rfl rfl ?_); refine QV rfl ?_
 refine W_seq ?_; refine wA rfl ?_; refine wIf hF rfl (fun _ hF => ?_) fun _ hF => ?_
 · refine wA rfl ?_; cases hF
   exact W_ret wR
 refine W_skip ?_; refine W_seq ?_; refine W_seq ?_; refine W_regD (by decide) (by kernel_rfl) rfl ?_; refine Q_run SP 2 rfl ?_; obtain ⟨r4, hr4, hF⟩ := bB hF
 refine R_step SP trivial (T_call (slice_Check_fun _ _ hr4) ⟨rfl, trivial⟩ rfl (.inl rfl) ?_); refine Q_run SP 3 rfl ?_; obtain ⟨r5, hr5, hF⟩ := bB hF
 refine R_step SP trivial (T_callO [((2960,0),(13,1))] rfl (trace_known_api_Slice_k1_fun _ _ _ _ hr5) ⟨rfl, trivial⟩ rfl rfl (.inr ⟨.inl rfl, .inl rfl, .inl rfl, .inl rfl, trivial⟩) ?_); refine QP rfl ?_
 refine wA rfl ?_; refine wIf hF rfl (fun _ hF => ?_) fun _ hF => ?_
 · refine wA rfl ?_; cases hF
   exact W_ret wR
 refine W_skip ?_; refine W_seq ?_; refine wC 4 rfl ?_; obtain ⟨r6, hr6, hF⟩ := bB hF
 refine rS (T_call (state_Check_fun _ _ _ hr6) ⟨rfl, rfl, trivial⟩ rfl (.inl rfl) ?_); refine QV rfl ?_; refine wA rfl ?_; refine wIf hF rfl (fun _ hF => ?_) fun _ hF => ?_
 · refine wA rfl ?_; cases hF
   exact W_ret wR
 refine W_skip ?_; refine W_seq ?_; refine W_regD (by decide) (by kernel_rfl) rfl ?_; refine Q_run SP 2 rfl ?_; obtain ⟨r7, hr7, hF⟩ := bB hF
 refine R_step SP trivial (T_call (flow_Check_fun _ _ hr7) ⟨rfl, trivial⟩ rfl (.inl rfl) ?_); refine Q_run SP 3 rfl ?_; obtain ⟨r8, hr8, hF⟩ := bB hF
 refine R_step SP trivial (T_callO [((3120,0),(13,1))] rfl (trace_known_api_Flow_k1_fun _ _ _ _ hr8) ⟨rfl, trivial⟩ rfl rfl (.inr ⟨.inl rfl, .inl rfl, .inl rfl, .inl rfl, trivial⟩) ?_); refine QP rfl ?_
 refine W_seq ?_; refine wC 4 rfl ?_; obtain ⟨r9, hr9, hF⟩ := bB hF
 refine rS (T_callO [((3120,0),(13,1))] rfl (trace_known_api_Flow_k2_fun _ _ _ _ hr9) ⟨rfl, trivial⟩ rfl rfl (.inr ⟨.inl rfl, .inl rfl, .inl rfl, .inl rfl, trivial⟩) ?_); refine QV rfl ?_; refine wA rfl ?_
 refine wIf hF rfl (fun _ hF => ?_) fun _ hF => ?_
 · refine wA rfl ?_; cases hF
   exact W_ret wR
 refine W_skip ?_; refine W_seq ?_; refine W_seq ?_; refine W_regD (by decide) (by kernel_rfl) rfl ?_; refine Q_run SP 2 rfl ?_; obtain ⟨r10, hr10, hF⟩ := bB hF
 refine R_step SP trivial (T_call (sample_Check_fun _ _ hr10) ⟨rfl, trivial⟩ rfl (.inl rfl) ?_); refine Q_run SP 3 rfl ?_; obtain ⟨r11, hr11, hF⟩ := bB hF
 refine R_step SP trivial (T_callO [((3280,0),(13,1))] rfl (trace_known_api_Sample_k1_fun _ _ _ _ hr11) ⟨rfl, trivial⟩ rfl rfl (.inr ⟨.inl rfl, .inl rfl, .inl rfl, .inl rfl, trivial⟩) ?_); refine QP rfl ?_
 refine wA rfl ?_; refine wIf hF rfl (fun _ hF => ?_) fun _ hF => ?_
 · refine wA rfl ?_; cases hF
   exact W_ret wR
 refine W_skip ?_; refine W_seq ?_; refine wC 2 rfl ?_; obtain ⟨r12, hr12, hF⟩ := bB hF
 refine rS (T_call (counter_Check_fun _ _ hr12) ⟨rfl, trivial⟩ rfl (.inl rfl) ?_); refine QV rfl ?_; refine wA rfl ?_; refine wIf hF rfl (fun _ hF => ?_) fun _ hF => ?_
 · refine wA rfl ?_; cases hF
   exact W_ret wR
 refine W_skip ?_; refine W_seq ?_; refine W_seq ?_; refine W_regD (by decide) (by kernel_rfl) rfl ?_; refine Q_run SP 2 rfl ?_; obtain ⟨r13, hr13, hF⟩ := bB hF
 refine R_step SP trivial (T_call (memory_Check_fun _ _ hr13) ⟨rfl, trivial⟩ rfl (.inl rfl) ?_); refine Q_run SP 3 rfl ?_; obtain ⟨r14, hr14, hF⟩ := bB hF
 refine R_step SP trivial (T_callO [((3440,0),(13,1))] rfl (trace_known_api_Block_k1_fun _ _ _ _ hr14) ⟨rfl, trivial⟩ rfl rfl (.inr ⟨.inl rfl, .inl rfl, .inl rfl, .inl rfl, trivial⟩) ?_); refine QP rfl ?_
 refine wA rfl ?_; refine wIf hF rfl (fun _ hF => ?_) fun _ hF => ?_
 · refine wA rfl ?_; cases hF
   exact W_ret wR
 refine W_skip ?_; refine wC 3 rfl ?_; obtain ⟨r15, hr15, hF⟩ := bB hF
 refine rS (T_callO [((3560,0),(13,1))] rfl (trace_losses_k1_fun _ _ _ hr15) ⟨rfl, trivial⟩ rfl rfl (.inr ⟨.inl rfl, .inl rfl, trivial⟩) ?_); refine QV rfl ?_; cases hF
 exact W_ret wR
def trace_within (p0 : api_Span) (p1 : api_Span) : Option Bool :=
  (((bif (decide (p1.fFrom ≤ p0.fFrom)) then some (decide (p0.fTo ≤ p1.fTo)) else some false) : Option Bool).bind fun v1 => some v1)
theorem trace_within_fun (p0 : api_Span) (p1 : api_Span) (r : Bool) (hF : trace_within p0 p1 = some r) : Fun Tryz.prog 67 true [] [.agg [jI p0.fFrom, jI p0.fTo], .agg [jI p1.fFrom, jI p1.fTo]] noHeap (cB r) noHeap := by
 refine Fun.of_walk0 Tryz.func67 c67 (by kernel_rfl) (rs := [.tmp 4]) (by kernel_rfl) ?_; unfold v67
 unfold trace_within at hF
 refine wA rfl ?_; refine W_seq ?_; refine W_join (fun _ _ h => h) hF (fun v1 => [(4, cB v1)]) (fun v1 => []) ?_ ?_
 · rintro v1 hF
   cases hF
   exact W_ret wR
 intro join hF
 refine wD 6 rfl ?_; cases h2 : (decide (p1.fFrom ≤ p0.fFrom))
 · have hF := bF' h2 hF; refine QV rfl ?_; exact join false _ _ hF sw
 have hF := bT' h2 hF; refine QV rfl ?_; exact join (decide (p0.fTo ≤ p1.fTo)) _ _ hF sw
def trace_outside_1_k1 (p0 : api_Slice) (p1 : api_Span) : Option Bool :=
  ((trace_within p0.fSpan p1).bind fun r1 => some (!r1))
theorem trace_outside_1_k1_fun (p0 : api_Slice) (p1 : api_Span) (r : Bool) (hF : trace_outside_1_k1 p0 p1 = some r) : Fun Tryz.prog 66 true [] [.agg (m_api_Slice p0), .c (.ptrI [tI p1.fFrom, tI p1.fTo])] noHeap (cB r) noHeap := by
 refine Fun.of_walk0 Tryz.func66 c66 (by kernel_rfl) (rs := [.tmp 3]) (by kernel_rfl) ?_; unfold v66
 unfold trace_outside_1_k1 at hF
 refine wA rfl ?_; refine wC 3 rfl ?_; obtain ⟨r1, hr1, hF⟩ := bB hF
 refine rS (T_call (trace_within_fun _ _ _ hr1) ⟨⟨rfl, rfl, trivial⟩, ⟨rfl, rfl, trivial⟩, trivial⟩ rfl (.inl rfl) ?_); refine QV rfl ?_; cases hF
 exact W_ret wR
def slices_IndexFunc_api_Slice_api_Slice_k1_L1 (p0 : (List api_Slice)) (p1_0 : api_Span) : Int → Option (Int ⊕ (Unit ⊕ Int)) := fun a12 =>
  (bif (decide (a12 < (List.length p0 : Int))) then ((idx p0 a12).bind fun y17 => ((trace_outside_1_k1 y17 p1_0).bind fun r18 => (bif r18 then some (.inr (.inr a12)) else some (.inl (w64 (a12 + 1)))))) else some (.inr (.inl ())))
def slices_IndexFunc_api_Slice_api_Slice_k1 (p0 : (List api_Slice)) (p1_0 : api_Span) : Option Int :=
  ((loop (slices_IndexFunc_api_Slice_api_Slice_k1_L1 p0 p1_0) 0).bind fun | .inl _ => some (-1) | .inr rv => some rv)
theorem slices_IndexFunc_api_Slice_api_Slice_k1_fun (p0 : (List api_Slice)) (p1_0 : api_Span) (r : Int) (hF : slices_IndexFunc_api_Slice_api_Slice_k1 p0 p1_0 = some r) : Fun Tryz.prog 109 false [(5360,0)] [cL 8 t_api_Slice p0, .c (.fn 66 [.ptr (5360,0)])] (heapOf [((5360,0), .box [jI p1_0.fFrom, jI p1_0.fTo])]) (cI r) (heapOf [((5360,0), .box [jI p1_0.fFrom, jI p1_0.fTo])]) := by
 refine Fun.of_walkM [(5360,0)] (some [(5360,0)]) Tryz.func109 c109 (by kernel_rfl) (rs := [.tmp 4]) (by kernel_rfl) rfl rfl rfl ?_; unfold v109
 unfold slices_IndexFunc_api_Slice_api_Slice_k1 at hF
 refine wA rfl ?_; refine W_seq ?_; refine wC 1 rfl ?_; refine rS (T_len (tc := t_api_Slice) p0 .tree ?_); refine QV rfl ?_; refine W_for (fun _ _ h => h) hF (.inl) (fun a12 => [(0, cL 8 t_api_Slice p0), (1, .c (.fn 66 [.ptr (5360,0)])), (7, cI (List.length p0 : Int)), (8, cI a12)]) (fun a12 => [((5360,0), .box [jI p1_0.fFrom, jI p1_0.fTo])]) (fun _ => []) (fun _ => [((5360,0), .box [jI p1_0.fFrom, jI p1_0.fTo])]) sw ?_ ?_
 · rintro ⟨⟩ hF
   refine wA rfl ?_; cases hF
   exact W_ret ⟨_, _, S_refl, _, rfl, rfl, ⟨rfl, fun _ => rfl⟩, (AgM.weak ⟨rfl, trivial⟩)⟩
 rintro a12 x_0 hF cont_0 brk_0 fin_0
 unfold slices_IndexFunc_api_Slice_api_Slice_k1_L1 at hF
 refine wA rfl ?_; refine W_seq ?_; refine wIf hF rfl (fun _ hF => ?_) fun _ hF => ?_
 · refine W_skip ?_; refine W_seq ?_; refine W_block ?_; refine wA rfl ?_; refine wC 3 rfl ?_; obtain ⟨y17, hy17, hF⟩ := bB hF
   refine rS (T_ixT (tc := t_api_Slice) p0 rfl rfl hy17 ?_); refine Q_run SV 1 rfl ?_; obtain ⟨r18, hr18, hF⟩ := bB hF
   refine R_stepX trivial (X_call (callW _ rfl fnOk66) (trace_outside_1_k1_fun _ _ _ hr18) ⟨⟨rfl, rfl, rfl, rfl, rfl, rfl, rfl, rfl, trivial⟩, ⟨_, rfl, ⟨rfl, rfl, trivial⟩⟩, trivial⟩ rfl (.inl rfl) ?_); refine QV rfl ?_
   refine wIf hF rfl (fun _ hF => ?_) fun _ hF => ?_
   · refine wA rfl ?_; have hF := fin_0 _ (oi hF); cases hF
     exact W_ret ⟨_, _, S_refl, _, rfl, rfl, ⟨rfl, fun _ => rfl⟩, (AgM.weak ⟨rfl, trivial⟩)⟩
   refine W_skip ?_; refine wB rfl ?_; exact cont_0 _ _ _ (oi hF) sw
 refine W_exit ?_; refine thenQ_exit ?_; refine thenQ_exit ?_; refine blockQ_hit ?_; exact brk_0 _ _ _ (oi hF) sw
def slices_ContainsFunc_api_Slice_api_Slice_k1 (p0 : (List api_Slice)) (p1_0 : api_Span) : Option Bool :=
  ((slices_IndexFunc_api_Slice_api_Slice_k1 p0 p1_0).bind fun r1 => some (decide (0 ≤ r1)))
theorem slices_ContainsFunc_api_Slice_api_Slice_k1_fun (p0 : (List api_Slice)) (p1_0 : api_Span) (r : Bool) (hF : slices_ContainsFunc_api_Slice_api_Slice_k1 p0 p1_0 = some r) : Fun Tryz.prog 65 false [(3600,0)] [cL 8 t_api_Slice p0, .c (.fn 66 [.ptr (3600,0)])] (heapOf [((3600,0), .box [jI p1_0.fFrom, jI p1_0.fTo])]) (cB r) (heapOf [((3600,0), .box [jI p1_0.fFrom, jI p1_0.fTo])]) := by
 refine Fun.of_walkM [(3600,0)] (some [(3600,0)]) Tryz.func65 c65 (by kernel_rfl) (rs := [.tmp 4]) (by kernel_rfl) rfl rfl rfl ?_; unfold v65
 unfold slices_ContainsFunc_api_Slice_api_Slice_k1 at hF
 refine wA rfl ?_; refine wC 2 rfl ?_; obtain ⟨r1, hr1, hF⟩ := bB hF
 refine rS (T_callO [((5360,0),(3600,0))] rfl (slices_IndexFunc_api_Slice_api_Slice_k1_fun _ _ _ hr1) ⟨rfl, trivial⟩ rfl rfl (.inr ⟨.inl rfl, .inl rfl, trivial⟩) ?_); refine QV rfl ?_; cases hF
 exact W_ret ⟨_, _, S_refl, _, rfl, rfl, ⟨rfl, fun _ => rfl⟩, (AgM.weak ⟨rfl, trivial⟩)⟩
def trace_outside_2_k1 (p0 : api_State) (p1 : api_Span) : Option Bool :=
  ((trace_within p0.fSpan p1).bind fun r1 => some (!r1))
theorem trace_outside_2_k1_fun (p0 : api_State) (p1 : api_Span) (r : Bool) (hF : trace_outside_2_k1 p0 p1 = some r) : Fun Tryz.prog 69 true [] [.agg (m_api_State p0), .c (.ptrI [tI p1.fFrom, tI p1.fTo])] noHeap (cB r) noHeap := by
 refine Fun.of_walk0 Tryz.func69 c69 (by kernel_rfl) (rs := [.tmp 3]) (by kernel_rfl) ?_; unfold v69
 unfold trace_outside_2_k1 at hF
 refine wA rfl ?_; refine wC 3 rfl ?_; obtain ⟨r1, hr1, hF⟩ := bB hF
 refine rS (T_call (trace_within_fun _ _ _ hr1) ⟨⟨rfl, rfl, trivial⟩, ⟨rfl, rfl, trivial⟩, trivial⟩ rfl (.inl rfl) ?_); refine QV rfl ?_; cases hF
 exact W_ret wR
def slices_IndexFunc_api_State_api_State_k1_L1 (p0 : (List api_State)) (p1_0 : api_Span) : Int → Option (Int ⊕ (Unit ⊕ Int)) := fun a12 =>
  (bif (decide (a12 < (List.length p0 : Int))) then ((idx p0 a12).bind fun y17 => ((trace_outside_2_k1 y17 p1_0).bind fun r18 => (bif r18 then some (.inr (.inr a12)) else some (.inl (w64 (a12 + 1)))))) else some (.inr (.inl ())))
def slices_IndexFunc_api_State_api_State_k1 (p0 : (List api_State)) (p1_0 : api_Span) : Option Int :=
  ((loop (slices_IndexFunc_api_State_api_State_k1_L1 p0 p1_0) 0).bind fun | .inl _ => some (-1) | .inr rv => some rv)
theorem slices_IndexFunc_api_State_api_State_k1_fun (p0 : (List api_State)) (p1_0 : api_Span) (r : Int) (hF : slices_IndexFunc_api_State_api_State_k1 p0 p1_0 = some r) : Fun Tryz.prog 110 false [(5400,0)] [cL 7 t_api_State p0, .c (.fn 69 [.ptr (5400,0)])] (heapOf [((5400,0), .box [jI p1_0.fFrom, jI p1_0.fTo])]) (cI r) (heapOf [((5400,0), .box [jI p1_0.fFrom, jI p1_0.fTo])]) := by
 refine Fun.of_walkM [(5400,0)] (some [(5400,0)]) Tryz.func110 c110 (by kernel_rfl) (rs := [.tmp 4]) (by kernel_rfl) rfl rfl rfl ?_; unfold v110
 unfold slices_IndexFunc_api_State_api_State_k1 at hF
 refine wA rfl ?_; refine W_seq ?_; refine wC 1 rfl ?_; refine rS (T_len (tc := t_api_State) p0 .tree ?_); refine QV rfl ?_; refine W_for (fun _ _ h => h) hF (.inl) (fun a12 => [(0, cL 7 t_api_State p0), (1, .c (.fn 69 [.ptr (5400,0)])), (7, cI (List.length p0 : Int)), (8, cI a12)]) (fun a12 => [((5400,0), .box [jI p1_0.fFrom, jI p1_0.fTo])]) (fun _ => []) (fun _ => [((5400,0), .box [jI p1_0.fFrom, jI p1_0.fTo])]) sw ?_ ?_
 · rintro ⟨⟩ hF
   refine wA rfl ?_; cases hF
   exact W_ret ⟨_, _, S_refl, _, rfl, rfl, ⟨rfl, fun _ => rfl⟩, (AgM.weak ⟨rfl, trivial⟩)⟩
 rintro a12 x_0 hF cont_0 brk_0 fin_0
 unfold slices_IndexFunc_api_State_api_State_k1_L1 at hF
 refine wA rfl ?_; refine W_seq ?_; refine wIf hF rfl (fun _ hF => ?_) fun _ hF => ?_
 · refine W_skip ?_; refine W_seq ?_; refine W_block ?_; refine wA rfl ?_; refine wC 3 rfl ?_; obtain ⟨y17, hy17, hF⟩ := bB hF
   refine rS (T_ixT (tc := t_api_State) p0 rfl rfl hy17 ?_); refine Q_run SV 1 rfl ?_; obtain ⟨r18, hr18, hF⟩ := bB hF
   refine R_stepX trivial (X_call (callW _ rfl fnOk69) (trace_outside_2_k1_fun _ _ _ hr18) ⟨⟨rfl, rfl, rfl, rfl, rfl, rfl, rfl, trivial⟩, ⟨_, rfl, ⟨rfl, rfl, trivial⟩⟩, trivial⟩ rfl (.inl rfl) ?_); refine QV rfl ?_
   refine wIf hF rfl (fun _ hF => ?_) fun _ hF => ?_
   · refine wA rfl ?_; have hF := fin_0 _ (oi hF); cases hF
     exact W_ret ⟨_, _, S_refl, _, rfl, rfl, ⟨rfl, fun _ => rfl⟩, (AgM.weak ⟨rfl, trivial⟩)⟩
   refine W_skip ?_; refine wB rfl ?_; exact cont_0 _ _ _ (oi hF) sw
 refine W_exit ?_; refine thenQ_exit ?_; refine thenQ_exit ?_; refine blockQ_hit ?_; exact brk_0 _ _ _ (oi hF) sw
def slices_ContainsFunc_api_State_api_State_k1 (p0 : (List api_State)) (p1_0 : api_Span) : Option Bool :=
  ((slices_IndexFunc_api_State_api_State_k1 p0 p1_0).bind fun r1 => some (decide (0 ≤ r1)))
theorem slices_ContainsFunc_api_State_api_State_k1_fun (p0 : (List api_State)) (p1_0 : api_Span) (r : Bool) (hF : slices_ContainsFunc_api_State_api_State_k1 p0 p1_0 = some r) : Fun Tryz.prog 68 false [(3720,0)] [cL 7 t_api_State p0, .c (.fn 69 [.ptr (3720,0)])] (heapOf [((3720,0), .box [jI p1_0.fFrom, jI p1_0.fTo])]) (cB r) (heapOf [((3720,0), .box [jI p1_0.fFrom, jI p1_0.fTo])]) := by
 refine Fun.of_walkM [(3720,0)] (some [(3720,0)]) Tryz.func68 c68 (by kernel_rfl) (rs := [.tmp 4]) (by kernel_rfl) rfl rfl rfl ?_; unfold v68
 unfold slices_ContainsFunc_api_State_api_State_k1 at hF
 refine wA rfl ?_; refine wC 2 rfl ?_; obtain ⟨r1, hr1, hF⟩ := bB hF
 refine rS (T_callO [((5400,0),(3720,0))] rfl (slices_IndexFunc_api_State_api_State_k1_fun _ _ _ hr1) ⟨rfl, trivial⟩ rfl rfl (.inr ⟨.inl rfl, .inl rfl, trivial⟩) ?_); refine QV rfl ?_; cases hF
 exact W_ret ⟨_, _, S_refl, _, rfl, rfl, ⟨rfl, fun _ => rfl⟩, (AgM.weak ⟨rfl, trivial⟩)⟩
def trace_outside_3_k1 (p0 : api_Block) (p1 : api_Span) : Option Bool :=
  ((trace_within p0.fSpan p1).bind fun r1 => some (!r1))
theorem trace_outside_3_k1_fun (p0 : api_Block) (p1 : api_Span) (r : Bool) (hF : trace_outside_3_k1 p0 p1 = some r) : Fun Tryz.prog 71 true [] [.agg (m_api_Block p0), .c (.ptrI [tI p1.fFrom, tI p1.fTo])] noHeap (cB r) noHeap := by
 refine Fun.of_walk0 Tryz.func71 c71 (by kernel_rfl) (rs := [.tmp 3]) (by kernel_rfl) ?_; unfold v71
 unfold trace_outside_3_k1 at hF
 refine wA rfl ?_; refine wC 3 rfl ?_; obtain ⟨r1, hr1, hF⟩ := bB hF
 refine rS (T_call (trace_within_fun _ _ _ hr1) ⟨⟨rfl, rfl, trivial⟩, ⟨rfl, rfl, trivial⟩, trivial⟩ rfl (.inl rfl) ?_); refine QV rfl ?_; cases hF
 exact W_ret wR
def slices_IndexFunc_api_Block_api_Block_k1_L1 (p0 : (List api_Block)) (p1_0 : api_Span) : Int → Option (Int ⊕ (Unit ⊕ Int)) := fun a12 =>
  (bif (decide (a12 < (List.length p0 : Int))) then ((idx p0 a12).bind fun y17 => ((trace_outside_3_k1 y17 p1_0).bind fun r18 => (bif r18 then some (.inr (.inr a12)) else some (.inl (w64 (a12 + 1)))))) else some (.inr (.inl ())))
def slices_IndexFunc_api_Block_api_Block_k1 (p0 : (List api_Block)) (p1_0 : api_Span) : Option Int :=
  ((loop (slices_IndexFunc_api_Block_api_Block_k1_L1 p0 p1_0) 0).bind fun | .inl _ => some (-1) | .inr rv => some rv)
theorem slices_IndexFunc_api_Block_api_Block_k1_fun (p0 : (List api_Block)) (p1_0 : api_Span) (r : Int) (hF : slices_IndexFunc_api_Block_api_Block_k1 p0 p1_0 = some r) : Fun Tryz.prog 111 false [(5440,0)] [cL 7 t_api_Block p0, .c (.fn 71 [.ptr (5440,0)])] (heapOf [((5440,0), .box [jI p1_0.fFrom, jI p1_0.fTo])]) (cI r) (heapOf [((5440,0), .box [jI p1_0.fFrom, jI p1_0.fTo])]) := by
 refine Fun.of_walkM [(5440,0)] (some [(5440,0)]) Tryz.func111 c111 (by kernel_rfl) (rs := [.tmp 4]) (by kernel_rfl) rfl rfl rfl ?_; unfold v111
 unfold slices_IndexFunc_api_Block_api_Block_k1 at hF
 refine wA rfl ?_; refine W_seq ?_; refine wC 1 rfl ?_; refine rS (T_len (tc := t_api_Block) p0 .tree ?_); refine QV rfl ?_; refine W_for (fun _ _ h => h) hF (.inl) (fun a12 => [(0, cL 7 t_api_Block p0), (1, .c (.fn 71 [.ptr (5440,0)])), (7, cI (List.length p0 : Int)), (8, cI a12)]) (fun a12 => [((5440,0), .box [jI p1_0.fFrom, jI p1_0.fTo])]) (fun _ => []) (fun _ => [((5440,0), .box [jI p1_0.fFrom, jI p1_0.fTo])]) sw ?_ ?_
 · rintro ⟨⟩ hF
   refine wA rfl ?_; cases hF
   exact W_ret ⟨_, _, S_refl, _, rfl, rfl, ⟨rfl, fun _ => rfl⟩, (AgM.weak ⟨rfl, trivial⟩)⟩
 rintro a12 x_0 hF cont_0 brk_0 fin_0
 unfold slices_IndexFunc_api_Block_api_Block_k1_L1 at hF
 refine wA rfl ?_; refine W_seq ?_; refine wIf hF rfl (fun _ hF => ?_) fun _ hF => ?_
 · refine W_skip ?_; refine W_seq ?_; refine W_block ?_; refine wA rfl ?_; refine wC 3 rfl ?_; obtain ⟨y17, hy17, hF⟩ := bB hF
   refine rS (T_ixT (tc := t_api_Block) p0 rfl rfl hy17 ?_); refine Q_run SV 1 rfl ?_; obtain ⟨r18, hr18, hF⟩ := bB hF
   refine R_stepX trivial (X_call (callW _ rfl fnOk71) (trace_outside_3_k1_fun _ _ _ hr18) ⟨⟨rfl, rfl, rfl, rfl, rfl, rfl, rfl, trivial⟩, ⟨_, rfl, ⟨rfl, rfl, trivial⟩⟩, trivial⟩ rfl (.inl rfl) ?_); refine QV rfl ?_
   refine wIf hF rfl (fun _ hF => ?_) fun _ hF => ?_
   · refine wA rfl ?_; have hF := fin_0 _ (oi hF); cases hF
     exact W_ret ⟨_, _, S_refl, _, rfl, rfl, ⟨rfl, fun _ => rfl⟩, (AgM.weak ⟨rfl, trivial⟩)⟩
   refine W_skip ?_; refine wB rfl ?_; exact cont_0 _ _ _ (oi hF) sw
 refine W_exit ?_; refine thenQ_exit ?_; refine thenQ_exit ?_; refine blockQ_hit ?_; exact brk_0 _ _ _ (oi hF) sw
def slices_ContainsFunc_api_Block_api_Block_k1 (p0 : (List api_Block)) (p1_0 : api_Span) : Option Bool :=
  ((slices_IndexFunc_api_Block_api_Block_k1 p0 p1_0).bind fun r1 => some (decide (0 ≤ r1)))
theorem slices_ContainsFunc_api_Block_api_Block_k1_fun (p0 : (List api_Block)) (p1_0 : api_Span) (r : Bool) (hF : slices_ContainsFunc_api_Block_api_Block_k1 p0 p1_0 = some r) : Fun Tryz.prog 70 false [(3800,0)] [cL 7 t_api_Block p0, .c (.fn 71 [.ptr (3800,0)])] (heapOf [((3800,0), .box [jI p1_0.fFrom, jI p1_0.fTo])]) (cB r) (heapOf [((3800,0), .box [jI p1_0.fFrom, jI p1_0.fTo])]) := by
 refine Fun.of_walkM [(3800,0)] (some [(3800,0)]) Tryz.func70 c70 (by kernel_rfl) (rs := [.tmp 4]) (by kernel_rfl) rfl rfl rfl ?_; unfold v70
 unfold slices_ContainsFunc_api_Block_api_Block_k1 at hF
 refine wA rfl ?_; refine wC 2 rfl ?_; obtain ⟨r1, hr1, hF⟩ := bB hF
 refine rS (T_callO [((5440,0),(3800,0))] rfl (slices_IndexFunc_api_Block_api_Block_k1_fun _ _ _ hr1) ⟨rfl, trivial⟩ rfl rfl (.inr ⟨.inl rfl, .inl rfl, trivial⟩) ?_); refine QV rfl ?_; cases hF
 exact W_ret ⟨_, _, S_refl, _, rfl, rfl, ⟨rfl, fun _ => rfl⟩, (AgM.weak ⟨rfl, trivial⟩)⟩
def trace_inside (p0 : api_Span) (p1 : Int) : Option Bool :=
  (((bif (decide (p0.fFrom ≤ p1)) then some (decide (p1 < p0.fTo)) else some false) : Option Bool).bind fun v1 => some v1)
theorem trace_inside_fun (p0 : api_Span) (p1 : Int) (r : Bool) (hF : trace_inside p0 p1 = some r) : Fun Tryz.prog 74 true [] [.agg [jI p0.fFrom, jI p0.fTo], cI p1] noHeap (cB r) noHeap := by
 refine Fun.of_walk0 Tryz.func74 c74 (by kernel_rfl) (rs := [.tmp 4]) (by kernel_rfl) ?_; unfold v74
 unfold trace_inside at hF
 refine wA rfl ?_; refine W_seq ?_; refine W_join (fun _ _ h => h) hF (fun v1 => [(4, cB v1)]) (fun v1 => []) ?_ ?_
 · rintro v1 hF
   cases hF
   exact W_ret wR
 intro join hF
 refine wD 5 rfl ?_; cases h2 : (decide (p0.fFrom ≤ p1))
 · have hF := bF' h2 hF; refine QV rfl ?_; exact join false _ _ hF sw
 have hF := bT' h2 hF; refine QV rfl ?_; exact join (decide (p1 < p0.fTo)) _ _ hF sw
def trace_outside_4_k1 (p0 : api_Flow) (p1 : api_Span) : Option Bool :=
  ((((trace_inside p1 p0.fSend).bind fun r2 => (bif (!r2) then some true else ((trace_inside p1 p0.fRecv).bind fun r4 => some (!r4)))) : Option Bool).bind fun v1 => some v1)
theorem trace_outside_4_k1_fun (p0 : api_Flow) (p1 : api_Span) (r : Bool) (hF : trace_outside_4_k1 p0 p1 = some r) : Fun Tryz.prog 73 true [] [.agg (m_api_Flow p0), .c (.ptrI [tI p1.fFrom, tI p1.fTo])] noHeap (cB r) noHeap := by
 refine Fun.of_walk0 Tryz.func73 c73 (by kernel_rfl) (rs := [.tmp 3]) (by kernel_rfl) ?_; unfold v73
 unfold trace_outside_4_k1 at hF
 refine wA rfl ?_; refine W_seq ?_; refine W_join (fun _ _ h => h) hF (fun v1 => [(3, cB v1)]) (fun v1 => []) ?_ ?_
 · rintro v1 hF
   cases hF
   exact W_ret wR
 intro join hF
 refine wD 3 rfl ?_; obtain ⟨r2, hr2, hF⟩ := bB' hF
 refine rS (T_call (trace_inside_fun _ _ _ hr2) ⟨⟨rfl, rfl, trivial⟩, rfl, trivial⟩ rfl (.inl rfl) ?_); refine Q_run SV 2 rfl ?_; cases h3 : (!r2)
 · have hF := bF' h3 hF; refine Q_run SV 3 rfl ?_; obtain ⟨r4, hr4, hF⟩ := bB' hF
   refine R_step SV rfl (T_call (trace_inside_fun _ _ _ hr4) ⟨⟨rfl, rfl, trivial⟩, rfl, trivial⟩ rfl (.inl rfl) ?_); refine QV rfl ?_; exact join (!r4) _ _ hF sw
 have hF := bT' h3 hF; refine QV rfl ?_; exact join true _ _ hF sw
def slices_IndexFunc_api_Flow_api_Flow_k1_L1 (p0 : (List api_Flow)) (p1_0 : api_Span) : Int → Option (Int ⊕ (Unit ⊕ Int)) := fun a12 =>
  (bif (decide (a12 < (List.length p0 : Int))) then ((idx p0 a12).bind fun y17 => ((trace_outside_4_k1 y17 p1_0).bind fun r18 => (bif r18 then some (.inr (.inr a12)) else some (.inl (w64 (a12 + 1)))))) else some (.inr (.inl ())))
def slices_IndexFunc_api_Flow_api_Flow_k1 (p0 : (List api_Flow)) (p1_0 : api_Span) : Option Int :=
  ((loop (slices_IndexFunc_api_Flow_api_Flow_k1_L1 p0 p1_0) 0).bind fun | .inl _ => some (-1) | .inr rv => some rv)
theorem slices_IndexFunc_api_Flow_api_Flow_k1_fun (p0 : (List api_Flow)) (p1_0 : api_Span) (r : Int) (hF : slices_IndexFunc_api_Flow_api_Flow_k1 p0 p1_0 = some r) : Fun Tryz.prog 112 false [(5480,0)] [cL 7 t_api_Flow p0, .c (.fn 73 [.ptr (5480,0)])] (heapOf [((5480,0), .box [jI p1_0.fFrom, jI p1_0.fTo])]) (cI r) (heapOf [((5480,0), .box [jI p1_0.fFrom, jI p1_0.fTo])]) := by
 refine Fun.of_walkM [(5480,0)] (some [(5480,0)]) Tryz.func112 c112 (by kernel_rfl) (rs := [.tmp 4]) (by kernel_rfl) rfl rfl rfl ?_; unfold v112
 unfold slices_IndexFunc_api_Flow_api_Flow_k1 at hF
 refine wA rfl ?_; refine W_seq ?_; refine wC 1 rfl ?_; refine rS (T_len (tc := t_api_Flow) p0 .tree ?_); refine QV rfl ?_; refine W_for (fun _ _ h => h) hF (.inl) (fun a12 => [(0, cL 7 t_api_Flow p0), (1, .c (.fn 73 [.ptr (5480,0)])), (7, cI (List.length p0 : Int)), (8, cI a12)]) (fun a12 => [((5480,0), .box [jI p1_0.fFrom, jI p1_0.fTo])]) (fun _ => []) (fun _ => [((5480,0), .box [jI p1_0.fFrom, jI p1_0.fTo])]) sw ?_ ?_
 · rintro ⟨⟩ hF
   refine wA rfl ?_; cases hF
   exact W_ret ⟨_, _, S_refl, _, rfl, rfl, ⟨rfl, fun _ => rfl⟩, (AgM.weak ⟨rfl, trivial⟩)⟩
 rintro a12 x_0 hF cont_0 brk_0 fin_0
 unfold slices_IndexFunc_api_Flow_api_Flow_k1_L1 at hF
 refine wA rfl ?_; refine W_seq ?_; refine wIf hF rfl (fun _ hF => ?_) fun _ hF => ?_
 · refine W_skip ?_; refine W_seq ?_; refine W_block ?_; refine wA rfl ?_; refine wC 3 rfl ?_; obtain ⟨y17, hy17, hF⟩ := bB hF
   refine rS (T_ixT (tc := t_api_Flow) p0 rfl rfl hy17 ?_); refine Q_run SV 1 rfl ?_; obtain ⟨r18, hr18, hF⟩ := bB hF
   refine R_stepX trivial (X_call (callW _ rfl fnOk73) (trace_outside_4_k1_fun _ _ _ hr18) ⟨⟨rfl, rfl, rfl, rfl, rfl, rfl, rfl, trivial⟩, ⟨_, rfl, ⟨rfl, rfl, trivial⟩⟩, trivial⟩ rfl (.inl rfl) ?_); refine QV rfl ?_
   refine wIf hF rfl (fun _ hF => ?_) fun _ hF => ?_
   · refine wA rfl ?_; have hF := fin_0 _ (oi hF); cases hF
     exact W_ret ⟨_, _, S_refl, _, rfl, rfl, ⟨rfl, fun _ => rfl⟩, (AgM.weak ⟨rfl, trivial⟩)⟩
   refine W_skip ?_; refine wB rfl ?_; exact cont_0 _ _ _ (oi hF) sw
 refine W_exit ?_; refine thenQ_exit ?_; refine thenQ_exit ?_; refine blockQ_hit ?_; exact brk_0 _ _ _ (oi hF) sw
def slices_ContainsFunc_api_Flow_api_Flow_k1 (p0 : (List api_Flow)) (p1_0 : api_Span) : Option Bool :=
  ((slices_IndexFunc_api_Flow_api_Flow_k1 p0 p1_0).bind fun r1 => some (decide (0 ≤ r1)))
theorem slices_ContainsFunc_api_Flow_api_Flow_k1_fun (p0 : (List api_Flow)) (p1_0 : api_Span) (r : Bool) (hF : slices_ContainsFunc_api_Flow_api_Flow_k1 p0 p1_0 = some r) : Fun Tryz.prog 72 false [(3880,0)] [cL 7 t_api_Flow p0, .c (.fn 73 [.ptr (3880,0)])] (heapOf [((3880,0), .box [jI p1_0.fFrom, jI p1_0.fTo])]) (cB r) (heapOf [((3880,0), .box [jI p1_0.fFrom, jI p1_0.fTo])]) := by
 refine Fun.of_walkM [(3880,0)] (some [(3880,0)]) Tryz.func72 c72 (by kernel_rfl) (rs := [.tmp 4]) (by kernel_rfl) rfl rfl rfl ?_; unfold v72
 unfold slices_ContainsFunc_api_Flow_api_Flow_k1 at hF
 refine wA rfl ?_; refine wC 2 rfl ?_; obtain ⟨r1, hr1, hF⟩ := bB hF
 refine rS (T_callO [((5480,0),(3880,0))] rfl (slices_IndexFunc_api_Flow_api_Flow_k1_fun _ _ _ hr1) ⟨rfl, trivial⟩ rfl rfl (.inr ⟨.inl rfl, .inl rfl, trivial⟩) ?_); refine QV rfl ?_; cases hF
 exact W_ret ⟨_, _, S_refl, _, rfl, rfl, ⟨rfl, fun _ => rfl⟩, (AgM.weak ⟨rfl, trivial⟩)⟩
def trace_outside_5_k1 (p0 : api_Sample) (p1 : api_Span) : Option Bool :=
  ((trace_inside p1 p0.fAt).bind fun r1 => some (!r1))
theorem trace_outside_5_k1_fun (p0 : api_Sample) (p1 : api_Span) (r : Bool) (hF : trace_outside_5_k1 p0 p1 = some r) : Fun Tryz.prog 76 true [] [.agg (m_api_Sample p0), .c (.ptrI [tI p1.fFrom, tI p1.fTo])] noHeap (cB r) noHeap := by
 refine Fun.of_walk0 Tryz.func76 c76 (by kernel_rfl) (rs := [.tmp 3]) (by kernel_rfl) ?_; unfold v76
 unfold trace_outside_5_k1 at hF
 refine wA rfl ?_; refine wC 3 rfl ?_; obtain ⟨r1, hr1, hF⟩ := bB hF
 refine rS (T_call (trace_inside_fun _ _ _ hr1) ⟨⟨rfl, rfl, trivial⟩, rfl, trivial⟩ rfl (.inl rfl) ?_); refine QV rfl ?_; cases hF
 exact W_ret wR
def slices_IndexFunc_api_Sample_api_Sample_k1_L1 (p0 : (List api_Sample)) (p1_0 : api_Span) : Int → Option (Int ⊕ (Unit ⊕ Int)) := fun a12 =>
  (bif (decide (a12 < (List.length p0 : Int))) then ((idx p0 a12).bind fun y17 => ((trace_outside_5_k1 y17 p1_0).bind fun r18 => (bif r18 then some (.inr (.inr a12)) else some (.inl (w64 (a12 + 1)))))) else some (.inr (.inl ())))
def slices_IndexFunc_api_Sample_api_Sample_k1 (p0 : (List api_Sample)) (p1_0 : api_Span) : Option Int :=
  ((loop (slices_IndexFunc_api_Sample_api_Sample_k1_L1 p0 p1_0) 0).bind fun | .inl _ => some (-1) | .inr rv => some rv)
theorem slices_IndexFunc_api_Sample_api_Sample_k1_fun (p0 : (List api_Sample)) (p1_0 : api_Span) (r : Int) (hF : slices_IndexFunc_api_Sample_api_Sample_k1 p0 p1_0 = some r) : Fun Tryz.prog 113 false [(5520,0)] [cL 4 t_api_Sample p0, .c (.fn 76 [.ptr (5520,0)])] (heapOf [((5520,0), .box [jI p1_0.fFrom, jI p1_0.fTo])]) (cI r) (heapOf [((5520,0), .box [jI p1_0.fFrom, jI p1_0.fTo])]) := by
 refine Fun.of_walkM [(5520,0)] (some [(5520,0)]) Tryz.func113 c113 (by kernel_rfl) (rs := [.tmp 4]) (by kernel_rfl) rfl rfl rfl ?_; unfold v113
 unfold slices_IndexFunc_api_Sample_api_Sample_k1 at hF
 refine wA rfl ?_; refine W_seq ?_; refine wC 1 rfl ?_; refine rS (T_len (tc := t_api_Sample) p0 .tree ?_); refine QV rfl ?_; refine W_for (fun _ _ h => h) hF (.inl) (fun a12 => [(0, cL 4 t_api_Sample p0), (1, .c (.fn 76 [.ptr (5520,0)])), (7, cI (List.length p0 : Int)), (8, cI a12)]) (fun a12 => [((5520,0), .box [jI p1_0.fFrom, jI p1_0.fTo])]) (fun _ => []) (fun _ => [((5520,0), .box [jI p1_0.fFrom, jI p1_0.fTo])]) sw ?_ ?_
 · rintro ⟨⟩ hF
   refine wA rfl ?_; cases hF
   exact W_ret ⟨_, _, S_refl, _, rfl, rfl, ⟨rfl, fun _ => rfl⟩, (AgM.weak ⟨rfl, trivial⟩)⟩
 rintro a12 x_0 hF cont_0 brk_0 fin_0
 unfold slices_IndexFunc_api_Sample_api_Sample_k1_L1 at hF
 refine wA rfl ?_; refine W_seq ?_; refine wIf hF rfl (fun _ hF => ?_) fun _ hF => ?_
 · refine W_skip ?_; refine W_seq ?_; refine W_block ?_; refine wA rfl ?_; refine wC 3 rfl ?_; obtain ⟨y17, hy17, hF⟩ := bB hF
   refine rS (T_ixT (tc := t_api_Sample) p0 rfl rfl hy17 ?_); refine Q_run SV 1 rfl ?_; obtain ⟨r18, hr18, hF⟩ := bB hF
   refine R_stepX trivial (X_call (callW _ rfl fnOk76) (trace_outside_5_k1_fun _ _ _ hr18) ⟨⟨rfl, rfl, rfl, rfl, trivial⟩, ⟨_, rfl, ⟨rfl, rfl, trivial⟩⟩, trivial⟩ rfl (.inl rfl) ?_); refine QV rfl ?_; refine wIf hF rfl (fun _ hF => ?_) fun _ hF => ?_
   · refine wA rfl ?_; have hF := fin_0 _ (oi hF); cases hF
     exact W_ret ⟨_, _, S_refl, _, rfl, rfl, ⟨rfl, fun _ => rfl⟩, (AgM.weak ⟨rfl, trivial⟩)⟩
   refine W_skip ?_; refine wB rfl ?_; exact cont_0 _ _ _ (oi hF) sw
 refine W_exit ?_; refine thenQ_exit ?_; refine thenQ_exit ?_; refine blockQ_hit ?_; exact brk_0 _ _ _ (oi hF) sw
def slices_ContainsFunc_api_Sample_api_Sample_k1 (p0 : (List api_Sample)) (p1_0 : api_Span) : Option Bool :=
  ((slices_IndexFunc_api_Sample_api_Sample_k1 p0 p1_0).bind fun r1 => some (decide (0 ≤ r1)))
theorem slices_ContainsFunc_api_Sample_api_Sample_k1_fun (p0 : (List api_Sample)) (p1_0 : api_Span) (r : Bool) (hF : slices_ContainsFunc_api_Sample_api_Sample_k1 p0 p1_0 = some r) : Fun Tryz.prog 75 false [(4000,0)] [cL 4 t_api_Sample p0, .c (.fn 76 [.ptr (4000,0)])] (heapOf [((4000,0), .box [jI p1_0.fFrom, jI p1_0.fTo])]) (cB r) (heapOf [((4000,0), .box [jI p1_0.fFrom, jI p1_0.fTo])]) := by
 refine Fun.of_walkM [(4000,0)] (some [(4000,0)]) Tryz.func75 c75 (by kernel_rfl) (rs := [.tmp 4]) (by kernel_rfl) rfl rfl rfl ?_; unfold v75
 unfold slices_ContainsFunc_api_Sample_api_Sample_k1 at hF
 refine wA rfl ?_; refine wC 2 rfl ?_; obtain ⟨r1, hr1, hF⟩ := bB hF
 refine rS (T_callO [((5520,0),(4000,0))] rfl (slices_IndexFunc_api_Sample_api_Sample_k1_fun _ _ _ hr1) ⟨rfl, trivial⟩ rfl rfl (.inr ⟨.inl rfl, .inl rfl, trivial⟩) ?_); refine QV rfl ?_; cases hF
 exact W_ret ⟨_, _, S_refl, _, rfl, rfl, ⟨rfl, fun _ => rfl⟩, (AgM.weak ⟨rfl, trivial⟩)⟩
def trace_outside_6_k1 (p0 : api_Step) (p1 : api_Span) : Option Bool :=
  ((trace_inside p1 p0.fAt).bind fun r1 => some (!r1))
theorem trace_outside_6_k1_fun (p0 : api_Step) (p1 : api_Span) (r : Bool) (hF : trace_outside_6_k1 p0 p1 = some r) : Fun Tryz.prog 78 true [] [.agg (m_api_Step p0), .c (.ptrI [tI p1.fFrom, tI p1.fTo])] noHeap (cB r) noHeap := by
 refine Fun.of_walk0 Tryz.func78 c78 (by kernel_rfl) (rs := [.tmp 3]) (by kernel_rfl) ?_; unfold v78
 unfold trace_outside_6_k1 at hF
 refine wA rfl ?_; refine wC 3 rfl ?_; obtain ⟨r1, hr1, hF⟩ := bB hF
 refine rS (T_call (trace_inside_fun _ _ _ hr1) ⟨⟨rfl, rfl, trivial⟩, rfl, trivial⟩ rfl (.inl rfl) ?_); refine QV rfl ?_; cases hF
 exact W_ret wR
def slices_IndexFunc_api_Step_api_Step_k1_L1 (p0 : (List api_Step)) (p1_0 : api_Span) : Int → Option (Int ⊕ (Unit ⊕ Int)) := fun a12 =>
  (bif (decide (a12 < (List.length p0 : Int))) then ((idx p0 a12).bind fun y17 => ((trace_outside_6_k1 y17 p1_0).bind fun r18 => (bif r18 then some (.inr (.inr a12)) else some (.inl (w64 (a12 + 1)))))) else some (.inr (.inl ())))
def slices_IndexFunc_api_Step_api_Step_k1 (p0 : (List api_Step)) (p1_0 : api_Span) : Option Int :=
  ((loop (slices_IndexFunc_api_Step_api_Step_k1_L1 p0 p1_0) 0).bind fun | .inl _ => some (-1) | .inr rv => some rv)
theorem slices_IndexFunc_api_Step_api_Step_k1_fun (p0 : (List api_Step)) (p1_0 : api_Span) (r : Int) (hF : slices_IndexFunc_api_Step_api_Step_k1 p0 p1_0 = some r) : Fun Tryz.prog 114 false [(5560,0)] [cL 3 t_api_Step p0, .c (.fn 78 [.ptr (5560,0)])] (heapOf [((5560,0), .box [jI p1_0.fFrom, jI p1_0.fTo])]) (cI r) (heapOf [((5560,0), .box [jI p1_0.fFrom, jI p1_0.fTo])]) := by
 refine Fun.of_walkM [(5560,0)] (some [(5560,0)]) Tryz.func114 c114 (by kernel_rfl) (rs := [.tmp 4]) (by kernel_rfl) rfl rfl rfl ?_; unfold v114
 unfold slices_IndexFunc_api_Step_api_Step_k1 at hF
 refine wA rfl ?_; refine W_seq ?_; refine wC 1 rfl ?_; refine rS (T_len (tc := t_api_Step) p0 .tree ?_); refine QV rfl ?_; refine W_for (fun _ _ h => h) hF (.inl) (fun a12 => [(0, cL 3 t_api_Step p0), (1, .c (.fn 78 [.ptr (5560,0)])), (7, cI (List.length p0 : Int)), (8, cI a12)]) (fun a12 => [((5560,0), .box [jI p1_0.fFrom, jI p1_0.fTo])]) (fun _ => []) (fun _ => [((5560,0), .box [jI p1_0.fFrom, jI p1_0.fTo])]) sw ?_ ?_
 · rintro ⟨⟩ hF
   refine wA rfl ?_; cases hF
   exact W_ret ⟨_, _, S_refl, _, rfl, rfl, ⟨rfl, fun _ => rfl⟩, (AgM.weak ⟨rfl, trivial⟩)⟩
 rintro a12 x_0 hF cont_0 brk_0 fin_0
 unfold slices_IndexFunc_api_Step_api_Step_k1_L1 at hF
 refine wA rfl ?_; refine W_seq ?_; refine wIf hF rfl (fun _ hF => ?_) fun _ hF => ?_
 · refine W_skip ?_; refine W_seq ?_; refine W_block ?_; refine wA rfl ?_; refine wC 3 rfl ?_; obtain ⟨y17, hy17, hF⟩ := bB hF
   refine rS (T_ixT (tc := t_api_Step) p0 rfl rfl hy17 ?_); refine Q_run SV 1 rfl ?_; obtain ⟨r18, hr18, hF⟩ := bB hF
   refine R_stepX trivial (X_call (callW _ rfl fnOk78) (trace_outside_6_k1_fun _ _ _ hr18) ⟨⟨rfl, rfl, rfl, trivial⟩, ⟨_, rfl, ⟨rfl, rfl, trivial⟩⟩, trivial⟩ rfl (.inl rfl) ?_); refine QV rfl ?_; refine wIf hF rfl (fun _ hF => ?_) fun _ hF => ?_
   · refine wA rfl ?_; have hF := fin_0 _ (oi hF); cases hF
     exact W_ret ⟨_, _, S_refl, _, rfl, rfl, ⟨rfl, fun _ => rfl⟩, (AgM.weak ⟨rfl, trivial⟩)⟩
   refine W_skip ?_; refine wB rfl ?_; exact cont_0 _ _ _ (oi hF) sw
 refine W_exit ?_; refine thenQ_exit ?_; refine thenQ_exit ?_; refine blockQ_hit ?_; exact brk_0 _ _ _ (oi hF) sw
def slices_ContainsFunc_api_Step_api_Step_k1 (p0 : (List api_Step)) (p1_0 : api_Span) : Option Bool :=
  ((slices_IndexFunc_api_Step_api_Step_k1 p0 p1_0).bind fun r1 => some (decide (0 ≤ r1)))
theorem slices_ContainsFunc_api_Step_api_Step_k1_fun (p0 : (List api_Step)) (p1_0 : api_Span) (r : Bool) (hF : slices_ContainsFunc_api_Step_api_Step_k1 p0 p1_0 = some r) : Fun Tryz.prog 77 false [(4080,0)] [cL 3 t_api_Step p0, .c (.fn 78 [.ptr (4080,0)])] (heapOf [((4080,0), .box [jI p1_0.fFrom, jI p1_0.fTo])]) (cB r) (heapOf [((4080,0), .box [jI p1_0.fFrom, jI p1_0.fTo])]) := by
 refine Fun.of_walkM [(4080,0)] (some [(4080,0)]) Tryz.func77 c77 (by kernel_rfl) (rs := [.tmp 4]) (by kernel_rfl) rfl rfl rfl ?_; unfold v77
 unfold slices_ContainsFunc_api_Step_api_Step_k1 at hF
 refine wA rfl ?_; refine wC 2 rfl ?_; obtain ⟨r1, hr1, hF⟩ := bB hF
 refine rS (T_callO [((5560,0),(4080,0))] rfl (slices_IndexFunc_api_Step_api_Step_k1_fun _ _ _ hr1) ⟨rfl, trivial⟩ rfl rfl (.inr ⟨.inl rfl, .inl rfl, trivial⟩) ?_); refine QV rfl ?_; cases hF
 exact W_ret ⟨_, _, S_refl, _, rfl, rfl, ⟨rfl, fun _ => rfl⟩, (AgM.weak ⟨rfl, trivial⟩)⟩
def trace_outside (p0 : api_Trace) : Option Bool :=
  ((((slices_ContainsFunc_api_Slice_api_Slice_k1 p0.fSlices p0.fSpan).bind fun r2 => (bif r2 then some true else ((slices_ContainsFunc_api_State_api_State_k1 p0.fStates p0.fSpan).bind fun r4 => (bif r4 then some true else ((slices_ContainsFunc_api_Block_api_Block_k1 p0.fBlocks p0.fSpan).bind fun r6 => (bif r6 then some true else ((slices_ContainsFunc_api_Flow_api_Flow_k1 p0.fFlows p0.fSpan).bind fun r8 => (bif r8 then some true else ((slices_ContainsFunc_api_Sample_api_Sample_k1 p0.fSamples p0.fSpan).bind fun r10 => (bif r10 then some true else ((slices_ContainsFunc_api_Step_api_Step_k1 p0.fSteps p0.fSpan).bind fun r12 => some r12))))))))))) : Option Bool).bind fun v1 => some v1)
theorem trace_outside_fun (p0 : api_Trace) (r : Bool) (hF : trace_outside p0 = some r) : Fun Tryz.prog 33 true [] [.agg (m_api_Trace p0)] noHeap (cB r) noHeap := by
 refine Fun.of_walk0 Tryz.func33 c33 (by kernel_rfl) (rs := [.tmp 2]) (by kernel_rfl) ?_; unfold v33
 unfold trace_outside at hF
 refine wA rfl ?_; refine wA rfl ?_; refine W_seq ?_; refine W_join (fun _ _ h => h) hF (fun v1 => [(2, cB v1)]) (fun v1 => []) ?_ ?_
 · rintro v1 hF
   cases hF
   exact W_ret wR
 intro join hF
 refine wD 3 rfl ?_; obtain ⟨r2, hr2, hF⟩ := bB' hF
 refine rS (T_callO [((3600,0),(3,0))] rfl (slices_ContainsFunc_api_Slice_api_Slice_k1_fun _ _ _ hr2) ⟨rfl, trivial⟩ rfl rfl (.inr ⟨.inl rfl, .inl rfl, trivial⟩) ?_); refine Q_run SV 1 rfl ?_; cases h3 : r2
 · have hF := bF' h3 hF; refine Q_run SV 3 rfl ?_; obtain ⟨r4, hr4, hF⟩ := bB' hF
   refine R_step SV rfl (T_callO [((3720,0),(3,0))] rfl (slices_ContainsFunc_api_State_api_State_k1_fun _ _ _ hr4) ⟨rfl, trivial⟩ rfl rfl (.inr ⟨.inl rfl, .inl rfl, trivial⟩) ?_); refine Q_run SV 2 rfl ?_
   cases h5 : r4
   · have hF := bF' h5 hF; refine Q_run SV 3 rfl ?_; obtain ⟨r6, hr6, hF⟩ := bB' hF
     refine R_step SV rfl (T_callO [((3800,0),(3,0))] rfl (slices_ContainsFunc_api_Block_api_Block_k1_fun _ _ _ hr6) ⟨rfl, trivial⟩ rfl rfl (.inr ⟨.inl rfl, .inl rfl, trivial⟩) ?_); refine Q_run SV 2 rfl ?_
     cases h7 : r6
     · have hF := bF' h7 hF; refine Q_run SV 3 rfl ?_; obtain ⟨r8, hr8, hF⟩ := bB' hF
       refine R_step SV rfl (T_callO [((3880,0),(3,0))] rfl (slices_ContainsFunc_api_Flow_api_Flow_k1_fun _ _ _ hr8) ⟨rfl, trivial⟩ rfl rfl (.inr ⟨.inl rfl, .inl rfl, trivial⟩) ?_); refine Q_run SV 2 rfl ?_; cases h9 : r8
       · have hF := bF' h9 hF; refine Q_run SV 3 rfl ?_; obtain ⟨r10, hr10, hF⟩ := bB' hF
         refine R_step SV rfl (T_callO [((4000,0),(3,0))] rfl (slices_ContainsFunc_api_Sample_api_Sample_k1_fun _ _ _ hr10) ⟨rfl, trivial⟩ rfl rfl (.inr ⟨.inl rfl, .inl rfl, trivial⟩) ?_); refine Q_run SV 2 rfl ?_
         cases h11 : r10
         · have hF := bF' h11 hF; refine Q_run SV 3 rfl ?_; obtain ⟨r12, hr12, hF⟩ := bB' hF
           refine R_step SV rfl (T_callO [((4080,0),(3,0))] rfl (slices_ContainsFunc_api_Step_api_Step_k1_fun _ _ _ hr12) ⟨rfl, trivial⟩ rfl rfl (.inr ⟨.inl rfl, .inl rfl, trivial⟩) ?_); refine QV rfl ?_; exact join r12 _ _ hF sw
         have hF := bT' h11 hF; refine QV rfl ?_; exact join true _ _ hF sw
       have hF := bT' h9 hF; refine QV rfl ?_; exact join true _ _ hF sw
     have hF := bT' h7 hF; refine QV rfl ?_; exact join true _ _ hF sw
   have hF := bT' h5 hF; refine QV rfl ?_; exact join true _ _ hF sw
 have hF := bT' h3 hF; refine QV rfl ?_; exact join true _ _ hF sw
def trace_Check (p0 : api_Trace) : Option Int :=
  ((trace_tables p0).bind fun r1 => (bif (!decide (r1 = 0)) then some r1 else (((bif (decide (p0.fSpan.fFrom < 0)) then some true else (bif (decide (p0.fSpan.fTo < p0.fSpan.fFrom)) then some true else some (decide (1000000000000 < p0.fSpan.fTo)))) : Option Bool).bind fun v2 => (bif v2 then some 2 else ((trace_outside p0).bind fun r3 => (bif r3 then some 10 else some 0))))))
theorem trace_Check_fun (p0 : api_Trace) (r : Int) (hF : trace_Check p0 = some r) : Fun Tryz.prog 19 true [] [.agg (m_api_Trace p0)] noHeap (cI r) noHeap := by
 refine Fun.of_walk0 Tryz.func19 c19 (by kernel_rfl) (rs := [.tmp 2]) (by kernel_rfl) ?_; unfold v19
 unfold trace_Check at hF
 refine wA rfl ?_; refine W_seq ?_; refine wC 1 rfl ?_; obtain ⟨r1, hr1, hF⟩ := bB hF
 refine rS (T_call (trace_tables_fun _ _ hr1) ⟨⟨rfl, rfl, rfl, rfl, rfl, rfl, rfl, rfl, rfl, rfl, trivial⟩, trivial⟩ rfl (.inl rfl) ?_); refine QV rfl ?_; refine wA rfl ?_; refine wIf hF rfl (fun _ hF => ?_) fun _ hF => ?_
 · refine wA rfl ?_; cases hF
   exact W_ret wR
 refine W_skip ?_; refine W_seq ?_; refine W_seq ?_; refine W_join (fun _ _ h => h) hF (fun v2 => [(1, cP (1,0) 0), (27, cB v2)]) (fun v2 => [((1,0), .box (m_api_Trace p0))]) ?_ ?_
 · rintro v2 hF
   refine wIf hF rfl (fun _ hF => ?_) fun _ hF => ?_
   · refine wA rfl ?_; cases hF
     exact W_ret wR
   refine W_skip ?_; refine W_seq ?_; refine wC 1 rfl ?_; obtain ⟨r3, hr3, hF⟩ := bB hF
   refine rS (T_call (trace_outside_fun _ _ hr3) ⟨⟨rfl, rfl, rfl, rfl, rfl, rfl, rfl, rfl, rfl, rfl, trivial⟩, trivial⟩ rfl (.inl rfl) ?_); refine QV rfl ?_; refine wIf hF rfl (fun _ hF => ?_) fun _ hF => ?_
   · refine wA rfl ?_; cases hF
     exact W_ret wR
   refine W_skip ?_; refine wA rfl ?_; cases hF
   exact W_ret wR
 intro join hF
 refine wD 5 rfl ?_; cases h6 : (decide (p0.fSpan.fFrom < 0))
 · have hF := bF' h6 hF; refine Q_run SV 9 rfl ?_; cases h7 : (decide (p0.fSpan.fTo < p0.fSpan.fFrom))
   · have hF := bF' h7 hF; refine QV rfl ?_; exact join (decide (1000000000000 < p0.fSpan.fTo)) _ _ hF sw
   have hF := bT' h7 hF; refine QV rfl ?_; exact join true _ _ hF sw
 have hF := bT' h6 hF; refine QV rfl ?_; exact join true _ _ hF sw
def anomaly_length (p0 : api_Slice) : Option Int :=
  some (w64 (p0.fSpan.fTo - p0.fSpan.fFrom))
theorem anomaly_length_fun (p0 : api_Slice) (r : Int) (hF : anomaly_length p0 = some r) : Fun Tryz.prog 22 true [] [.agg (m_api_Slice p0)] noHeap (cI r) noHeap := by
 refine Fun.of_walk0 Tryz.func22 c22 (by kernel_rfl) (rs := [.tmp 2]) (by kernel_rfl) ?_; unfold v22
 unfold anomaly_length at hF
 refine wA rfl ?_; refine wA rfl ?_; cases hF
 exact W_ret wR
def anomaly_closed_L1 (p0 : api_Trace) (p1 : ByteArray) : ((List Int) × Int) → Option (((List Int) × Int) ⊕ (List Int)) := fun (a23, a24) =>
  (bif (decide (a24 < (List.length p0.fSlices : Int))) then ((((idx p0.fSlices a24).bind fun y35 => (((bif (decide (y35.fName = p1)) then some (!y35.fOpen) else some false) : Option Bool).bind fun v36 => (bif v36 then ((anomaly_length y35).bind fun r37 => (bif room 8 (List.length a23 + List.length [r37]) then some (a23 ++ [r37]) else none)) else some a23))) : Option (List Int)).bind fun v34 => some (.inl (v34, (w64 (a24 + 1))))) else some (.inr a23))
def anomaly_closed (p0 : api_Trace) (p1 : ByteArray) : Option (List Int) :=
  ((loop (anomaly_closed_L1 p0 p1) ([], 0)).bind fun e33 => some e33)
theorem anomaly_closed_fun (p0 : api_Trace) (p1 : ByteArray) (r : (List Int)) (hF : anomaly_closed p0 p1 = some r) : Fun Tryz.prog 20 false [] [.agg (m_api_Trace p0), .c (jS p1)] (heapOf []) (cO (902,800)) (heapOf [((902,800), .arr 3 1 (List.map t_i64 r))]) := by
 refine Fun.of_walkM [] (some []) Tryz.func20 c20 (by kernel_rfl) (rs := [.tmp 4]) (by kernel_rfl) rfl rfl rfl ?_; unfold v20
 unfold anomaly_closed at hF
 refine wA rfl ?_; refine wA rfl ?_; refine W_seq ?_; refine wC 2 rfl ?_; refine rS (T_len (tc := t_api_Slice) p0.fSlices .tree ?_); refine QV rfl ?_; refine W_for (fun _ _ h => h) hF (id) (fun (a23, a24) => [(1, .c (jS p1)), (5, cO (28,1)), (9, cL 8 t_api_Slice p0.fSlices), (10, cI (List.length p0.fSlices : Int)), (11, cI a24)]) (fun (a23, a24) => [((28,1), .arr 3 1 (List.map t_i64 a23))]) (fun e33 => [(5, cO (28,1))]) (fun e33 => [((28,1), .arr 3 1 (List.map t_i64 e33))]) (S_own 5 (28,1) 3 1 rfl rfl rfl rfl sw) ?_ ?_
 · rintro e33 hF
   refine wA rfl ?_; cases hF
   exact W_ret ⟨_, _, (S_ren (28,1) (902,800) rfl rfl S_refl), _, rfl, rfl, rfl, (AgM.weak ⟨rfl, trivial⟩)⟩
 rintro ⟨a23, a24⟩ x_0 hF cont_0 brk_0 fin_0
 unfold anomaly_closed_L1 at hF
 refine wA rfl ?_; refine W_seq ?_; refine wIf hF rfl (fun _ hF => ?_) fun _ hF => ?_
 · refine W_skip ?_; refine W_seq ?_; refine W_join (fun _ _ h => h) hF (fun v34 => [(1, .c (jS p1)), (5, cO (28,1)), (9, cL 8 t_api_Slice p0.fSlices), (10, cI (List.length p0.fSlices : Int)), (11, cI a24)]) (fun v34 => [((28,1), .arr 3 1 (List.map t_i64 v34))]) ?_ ?_
   · rintro v34 hF
     refine wB rfl ?_; exact cont_0 _ _ _ (oi hF) sw
   intro join hF
   refine W_block ?_; refine wE ?_; obtain ⟨y35, hy35, hF⟩ := bB' hF
   refine rS (T_ixT (tc := t_api_Slice) p0.fSlices rfl rfl hy35 ?_); refine QV rfl ?_; refine W_seq ?_; have hF := bA hF; refine W_join (fun _ _ h => h) hF (fun v36 => [(1, .c (jS p1)), (5, cO (28,1)), (7, cP (7,0) 0), (9, cL 8 t_api_Slice p0.fSlices), (10, cI (List.length p0.fSlices : Int)), (11, cI a24), (23, cB v36)]) (fun v36 => [((28,1), .arr 3 1 (List.map t_i64 a23)), ((7,0), .box (m_api_Slice y35))]) ?_ ?_
   · rintro v36 hF
     refine wIf' hF rfl (fun _ hF => ?_) fun _ hF => ?_
     · refine wD 2 rfl ?_; obtain ⟨r37, hr37, hF⟩ := bB' hF
       refine rS (T_call (anomaly_length_fun _ _ hr37) ⟨⟨rfl, rfl, rfl, rfl, rfl, rfl, rfl, rfl, trivial⟩, trivial⟩ rfl (.inl rfl) ?_); refine rS (T_bsl (tc := t_i64) [r37] rfl ⟨rfl, trivial⟩ rfl (fun _ => rfl) rfl ?_)
       obtain ⟨h38, hF⟩ := roomT' hF
       refine rS (T_appO (tc := t_i64) a23 [r37] rfl rfl (.own _ _ rfl) h38 rfl ?_); refine QV rfl ?_; exact join (a23 ++ [r37]) _ _ hF (S_ren (28,0) (28,1) rfl rfl sw)
     refine W_skip ?_; exact join a23 _ _ hF sw
   intro join hF
   refine wD 5 rfl ?_; cases h40 : (decide (y35.fName = p1))
   · have hF := bF' h40 hF; refine QV rfl ?_; exact join false _ _ hF sw
   have hF := bT' h40 hF; refine QV rfl ?_; exact join (!y35.fOpen) _ _ hF sw
 refine W_exit ?_; refine thenQ_exit ?_; refine thenQ_exit ?_; refine blockQ_hit ?_; exact brk_0 _ _ _ (oi hF) sw
def slices_Values_int_int (p0 : (List Int)) : Option (List Int) := some p0
theorem slices_Values_int_int_fun (p0 : (List Int)) (r : (List Int)) (hF : slices_Values_int_int p0 = some r) : Fun Tryz.prog 80 false [] [cL 1 t_i64 p0] (heapOf []) (.c (.fn 117 [.ptr (902,3200)])) (heapOf [((902,3200), .box [jL 1 t_i64 r])]) := by
 cases hF
 exact values_fun p0 (902,3200)
def slices_Sorted_int_k1 (p0_0 : (List Int)) : Option (List Int) := bif sortB p0_0 then some (sortI p0_0) else none
theorem slices_Sorted_int_k1_fun (p0_0 : (List Int)) (r : (List Int)) (hF : slices_Sorted_int_k1 p0_0 = some r) : Fun Tryz.prog 79 false [(4160,0)] [.c (.fn 117 [.ptr (4160,0)])] (heapOf [((4160,0), .box [jL 1 t_i64 p0_0])]) (cO (902,3160)) (heapOf [((4160,0), .box [jL 1 t_i64 p0_0]), ((902,3160), .arr 3 1 (List.map t_i64 r))]) := by
 obtain ⟨h, hF⟩ := roomT hF
 cases hF
 exact sorted_fun p0_0 (sortB_spec h).1 (sortB_spec h).2 (4160,0) (902,3160) (by decide)
def math_bits_Mul64 (p0 : Int) (p1 : Int) : Option (Int × Int) :=
  some ((IntKind.wrap .u64 ((IntKind.wrap .u64 ((IntKind.wrap .u64 ((shR .u64 p0 32) * (shR .u64 p1 32))) + (shR .u64 (IntKind.wrap .u64 ((IntKind.wrap .u64 ((shR .u64 p0 32) * (bAnd .u64 p1 4294967295))) + (shR .u64 (IntKind.wrap .u64 ((bAnd .u64 p0 4294967295) * (bAnd .u64 p1 4294967295))) 32))) 32))) + (shR .u64 (IntKind.wrap .u64 ((bAnd .u64 (IntKind.wrap .u64 ((IntKind.wrap .u64 ((shR .u64 p0 32) * (bAnd .u64 p1 4294967295))) + (shR .u64 (IntKind.wrap .u64 ((bAnd .u64 p0 4294967295) * (bAnd .u64 p1 4294967295))) 32))) 4294967295) + (IntKind.wrap .u64 ((bAnd .u64 p0 4294967295) * (shR .u64 p1 32))))) 32))), (IntKind.wrap .u64 (p0 * p1)))
theorem math_bits_Mul64_fun (p0 : Int) (p1 : Int) (r : (Int × Int)) (hF : math_bits_Mul64 p0 p1 = some r) : Fun Tryz.prog 81 true [] [.c (.imm (.sc (.int .u64 p0))), .c (.imm (.sc (.int .u64 p1)))] noHeap (.tup [.c (.imm (.sc (.int .u64 r.1))), .c (.imm (.sc (.int .u64 r.2)))]) noHeap := by
 refine Fun.of_walk0 Tryz.func81 c81 (by kernel_rfl) (rs := [.tmp 4, .tmp 5]) (by kernel_rfl) ?_; unfold v81
 unfold math_bits_Mul64 at hF
 refine wA rfl ?_; refine wA rfl ?_; refine wA rfl ?_; refine wA rfl ?_; refine wA rfl ?_; refine wA rfl ?_; refine wA rfl ?_; refine wA rfl ?_; refine wA rfl ?_; refine wA rfl ?_; refine wA rfl ?_; refine wA rfl ?_
 cases hF
 exact W_ret ⟨_, rfl, rfl, ⟨⟨rfl, fun _ => rfl⟩, ⟨rfl, fun _ => rfl⟩, trivial⟩, noOut _⟩
def math_bits_Div64 (p0 : Int) (p1 : Int) (p2 : Int) : Option (Int × Int) :=
  (bif (decide (p2 = 0)) then none else (bif (decide (p2 ≤ p0)) then none else (bif (decide (p0 = 0)) then (bif decide (p2 ≠ 0) then (bif decide (p2 ≠ 0) then some ((IntKind.wrap .u64 (Int.tdiv p1 p2)), (Int.tmod p1 p2)) else none) else none) else none)))
theorem math_bits_Div64_fun (p0 : Int) (p1 : Int) (p2 : Int) (r : (Int × Int)) (hF : math_bits_Div64 p0 p1 p2 = some r) : Fun Tryz.prog 82 true [] [.c (.imm (.sc (.int .u64 p0))), .c (.imm (.sc (.int .u64 p1))), .c (.imm (.sc (.int .u64 p2)))] noHeap (.tup [.c (.imm (.sc (.int .u64 r.1))), .c (.imm (.sc (.int .u64 r.2)))]) noHeap := by
 refine Fun.of_walk0 Tryz.func82 c82 (by kernel_rfl) (rs := [.tmp 6, .tmp 7]) (by kernel_rfl) ?_; unfold v82
 unfold math_bits_Div64 at hF
 refine wA rfl ?_; refine W_seq ?_; refine wA rfl ?_; refine wIf hF rfl (fun _ hF => ?_) fun _ hF => ?_
 · simp at hF
 refine W_skip ?_; refine W_seq ?_; refine wA rfl ?_; refine wIf hF rfl (fun _ hF => ?_) fun _ hF => ?_
 · simp at hF
 refine W_skip ?_; refine W_seq ?_; refine wA rfl ?_; refine wIf hF rfl (fun _ hF => ?_) fun _ hF => ?_
 · refine W_seq ?_; refine W_regD (by decide) (by kernel_rfl) rfl ?_; refine Q_run SP 2 rfl ?_; obtain ⟨h1, hF⟩ := roomT hF
   refine R_step SP trivial (T_bin (quoV .u64 p1 p2 (of_decide_eq_true h1)) ?_); refine Q_run SP 2 rfl ?_; obtain ⟨h2, hF⟩ := roomT hF
   refine R_step SP trivial (T_bin (remV .u64 p1 p2 (of_decide_eq_true h2)) ?_); refine QP rfl ?_; cases hF
   exact W_ret ⟨_, rfl, rfl, ⟨⟨rfl, fun _ => rfl⟩, ⟨rfl, fun _ => rfl⟩, trivial⟩, noOut _⟩
 simp at hF
def num_Quantile (p0 : (List Int)) (p1 : Int) (p2 : Int) : Option (Int × Bool) :=
  (((bif (decide ((List.length p0 : Int) = 0)) then some true else (bif (decide (p2 < 1)) then some true else (bif (decide (1000000000000000 < p2)) then some true else (bif (decide (p1 < 0)) then some true else some (decide (p2 < p1)))))) : Option Bool).bind fun v1 => (bif v1 then some (0, false) else ((slices_Values_int_int p0).bind fun r2 => ((slices_Sorted_int_k1 r2).bind fun r3 => ((math_bits_Mul64 (IntKind.wrap .u64 p1) (IntKind.wrap .u64 (List.length p0 : Int))).bind fun r4 => ((math_bits_Div64 r4.1 r4.2 (IntKind.wrap .u64 p2)).bind fun r5 => (((bif (decide (0 < r5.2)) then some (IntKind.wrap .u64 (r5.1 + 1)) else some r5.1) : Option Int).bind fun v6 => ((idx r3 (IntKind.wrap .u64 ((max v6 1) - 1))).bind fun y7 => some (y7, true)))))))))
theorem num_Quantile_fun (p0 : (List Int)) (p1 : Int) (p2 : Int) (r : (Int × Bool)) (hF : num_Quantile p0 p1 p2 = some r) : Fun Tryz.prog 34 true [] [cL 1 t_i64 p0, cI p1, cI p2] noHeap (.tup [cI r.1, cB r.2]) noHeap := by
 refine Fun.of_walk0 Tryz.func34 c34 (by kernel_rfl) (rs := [.tmp 6, .tmp 7]) (by kernel_rfl) ?_; unfold v34
 unfold num_Quantile at hF
 refine wA rfl ?_; refine W_seq ?_; refine W_seq ?_; refine W_join (fun _ _ h => h) hF (fun v1 => [(0, cL 1 t_i64 p0), (1, cI p1), (2, cI p2), (32, cB v1)]) (fun v1 => []) ?_ ?_
 · rintro v1 hF
   refine wIf hF rfl (fun _ hF => ?_) fun _ hF => ?_
   · refine wA rfl ?_; cases hF
     exact W_ret ⟨_, rfl, rfl, ⟨⟨rfl, fun _ => rfl⟩, ⟨rfl, fun _ => rfl⟩, trivial⟩, noOut _⟩
   refine W_skip ?_; refine wC 1 rfl ?_; obtain ⟨r2, hr2, hF⟩ := bB hF
   refine R_stepX trivial (X_callG [((902,3200),(34,1))] rfl (callN _) (slices_Values_int_int_fun _ _ hr2) trivial ⟨.inl rfl, trivial⟩ rfl rfl rfl ?_); obtain ⟨r3, hr3, hF⟩ := bB hF
   refine R_stepX trivial (X_callG [((4160,0),(34,1)), ((902,3160),(35,1))] rfl (callN _) (slices_Sorted_int_k1_fun _ _ hr3) ⟨rfl, trivial⟩ ⟨.inl rfl, trivial⟩ rfl rfl rfl ?_); refine QV rfl ?_; refine wC 3 rfl ?_
   refine rS (T_len (tc := t_i64) p0 .tree ?_); refine Q_run SV 1 rfl ?_; obtain ⟨r4, hr4, hF⟩ := bB hF
   refine rS (T_call (math_bits_Mul64_fun _ _ _ hr4) ⟨rfl, rfl, trivial⟩ rfl (.inl rfl) ?_); refine QV rfl ?_; refine wC 4 rfl ?_; obtain ⟨r5, hr5, hF⟩ := bB hF
   refine rS (T_call (math_bits_Div64_fun _ _ _ _ hr5) ⟨rfl, rfl, rfl, trivial⟩ rfl (.inl rfl) ?_); refine QV rfl ?_; refine W_seq ?_; refine wA rfl ?_; refine W_join (fun _ _ h => h) hF (fun v6 => [(8, cO (35,1)), (11, .c (.imm (.sc (.int .u64 v6))))]) (fun v6 => [((35,1), .arr 3 1 (List.map t_i64 r3))]) ?_ ?_
   · rintro v6 hF
     refine wC 4 rfl ?_; obtain ⟨y7, hy7, hF⟩ := bB hF
     refine rS (T_ixO (tc := t_i64) r3 rfl rfl rfl hy7 ?_); refine rS (T_ldE (tc := t_i64) r3 rfl rfl (idx_get hy7).2.1 rfl ?_); refine QV rfl ?_; cases hF
     exact W_ret ⟨_, rfl, rfl, ⟨⟨rfl, fun _ => rfl⟩, ⟨rfl, fun _ => rfl⟩, trivial⟩, noOut _⟩
   intro join hF
   refine wIf' hF rfl (fun _ hF => ?_) fun _ hF => ?_
   · refine wB rfl ?_; exact join (IntKind.wrap .u64 (r5.1 + 1)) _ _ hF sw
   refine W_skip ?_; exact join r5.1 _ _ hF sw
 intro join hF
 refine wD 1 rfl ?_; refine rS (T_len (tc := t_i64) p0 .tree ?_); refine Q_run SV 2 rfl ?_; cases h10 : (decide ((List.length p0 : Int) = 0))
 · have hF := bF' h10 hF; refine Q_run SV 4 rfl ?_; cases h11 : (decide (p2 < 1))
   · have hF := bF' h11 hF; refine Q_run SV 4 rfl ?_; cases h12 : (decide (1000000000000000 < p2))
     · have hF := bF' h12 hF; refine Q_run SV 4 rfl ?_; cases h13 : (decide (p1 < 0))
       · have hF := bF' h13 hF; refine QV rfl ?_; exact join (decide (p2 < p1)) _ _ hF sw
       have hF := bT' h13 hF; refine QV rfl ?_; exact join true _ _ hF sw
     have hF := bT' h12 hF; refine QV rfl ?_; exact join true _ _ hF sw
   have hF := bT' h11 hF; refine QV rfl ?_; exact join true _ _ hF sw
 have hF := bT' h10 hF; refine QV rfl ?_; exact join true _ _ hF sw
def anomaly_usual_L1 (p0 : api_Trace) (p1 : ByteArray) (r2 : (Int × Bool)) : Int → Option (Int ⊕ (Unit ⊕ (Int × Bool))) := fun a20 =>
  (bif (decide (a20 < (List.length p0.fSlices : Int))) then ((idx p0.fSlices a20).bind fun y28 => (((bif (decide (y28.fName = p1)) then (bif (!y28.fOpen) then ((anomaly_length y28).bind fun r33 => some (decide (r33 = r2.1))) else some false) else some false) : Option Bool).bind fun v29 => (bif v29 then some (.inr (.inr (a20, true))) else some (.inl (w64 (a20 + 1)))))) else some (.inr (.inl ())))
def anomaly_usual (p0 : api_Trace) (p1 : ByteArray) : Option (Int × Bool) :=
  ((anomaly_closed p0 p1).bind fun r1 => ((num_Quantile r1 1 2).bind fun r2 => (bif (!r2.2) then some (0, false) else ((loop (anomaly_usual_L1 p0 p1 r2) 0).bind fun | .inl _ => some (0, false) | .inr rv => some rv))))
theorem anomaly_usual_fun (p0 : api_Trace) (p1 : ByteArray) (r : (Int × Bool)) (hF : anomaly_usual p0 p1 = some r) : Fun Tryz.prog 21 true [] [.agg (m_api_Trace p0), .c (jS p1)] noHeap (.tup [cI r.1, cB r.2]) noHeap := by
 refine Fun.of_walk0 Tryz.func21 c21 (by kernel_rfl) (rs := [.tmp 4, .tmp 5]) (by kernel_rfl) ?_; unfold v21
 unfold anomaly_usual at hF
 refine wA rfl ?_; refine wC 2 rfl ?_; obtain ⟨r1, hr1, hF⟩ := bB hF
 refine R_stepX trivial (X_callG [((902,800),(13,1))] rfl (callN _) (anomaly_closed_fun _ _ _ hr1) trivial ⟨.inr ⟨rfl, rfl, rfl, rfl, rfl, rfl, rfl, rfl, rfl, rfl, trivial⟩, .inl rfl, trivial⟩ rfl rfl rfl ?_)
 obtain ⟨r2, hr2, hF⟩ := bB hF
 refine rS (T_call (num_Quantile_fun _ _ _ _ hr2) ⟨⟨_, rfl⟩, rfl, rfl, trivial⟩ rfl (.inl rfl) ?_); refine QV rfl ?_; refine W_seq ?_; refine wA rfl ?_; refine wIf hF rfl (fun _ hF => ?_) fun _ hF => ?_
 · refine wA rfl ?_; cases hF
   exact W_ret ⟨_, rfl, rfl, ⟨⟨rfl, fun _ => rfl⟩, ⟨rfl, fun _ => rfl⟩, trivial⟩, noOut _⟩
 refine W_skip ?_; refine W_seq ?_; refine wC 2 rfl ?_; refine rS (T_len (tc := t_api_Slice) p0.fSlices .tree ?_); refine QV rfl ?_; refine W_for (fun _ _ h => h) hF (.inl) (fun a20 => [(1, .c (jS p1)), (6, cI r2.1), (20, cL 8 t_api_Slice p0.fSlices), (21, cI (List.length p0.fSlices : Int)), (22, cI a20)]) (fun a20 => []) (fun _ => []) (fun _ => []) sw ?_ ?_
 · rintro ⟨⟩ hF
   refine wA rfl ?_; cases hF
   exact W_ret ⟨_, rfl, rfl, ⟨⟨rfl, fun _ => rfl⟩, ⟨rfl, fun _ => rfl⟩, trivial⟩, noOut _⟩
 rintro a20 x_0 hF cont_0 brk_0 fin_0
 unfold anomaly_usual_L1 at hF
 refine wA rfl ?_; refine W_seq ?_; refine wIf hF rfl (fun _ hF => ?_) fun _ hF => ?_
 · refine W_skip ?_; refine W_seq ?_; refine W_block ?_; refine wC 1 rfl ?_; obtain ⟨y28, hy28, hF⟩ := bB hF
   refine rS (T_ixT (tc := t_api_Slice) p0.fSlices rfl rfl hy28 ?_); refine QV rfl ?_; refine W_seq ?_; refine W_join (fun _ _ h => h) hF (fun v29 => [(1, .c (jS p1)), (6, cI r2.1), (8, cI a20), (20, cL 8 t_api_Slice p0.fSlices), (21, cI (List.length p0.fSlices : Int)), (22, cI a20), (41, cB v29)]) (fun v29 => []) ?_ ?_
   · rintro v29 hF
     refine wIf hF rfl (fun _ hF => ?_) fun _ hF => ?_
     · refine wA rfl ?_; have hF := fin_0 _ (oi hF); cases hF
       exact W_ret ⟨_, rfl, rfl, ⟨⟨rfl, fun _ => rfl⟩, ⟨rfl, fun _ => rfl⟩, trivial⟩, noOut _⟩
     refine W_skip ?_; refine wB rfl ?_; exact cont_0 _ _ _ (oi hF) sw
   intro join hF
   refine wD 5 rfl ?_; cases h31 : (decide (y28.fName = p1))
   · have hF := bF' h31 hF; refine QV rfl ?_; exact join false _ _ hF sw
   have hF := bT' h31 hF; refine Q_run SV 5 rfl ?_; cases h32 : (!y28.fOpen)
   · have hF := bF' h32 hF; refine QV rfl ?_; exact join false _ _ hF sw
   have hF := bT' h32 hF; refine Q_run SV 1 rfl ?_; obtain ⟨r33, hr33, hF⟩ := bB' hF
   refine R_step SV rfl (T_call (anomaly_length_fun _ _ hr33) ⟨⟨rfl, rfl, rfl, rfl, rfl, rfl, rfl, rfl, trivial⟩, trivial⟩ rfl (.inl rfl) ?_); refine QV rfl ?_; exact join (decide (r33 = r2.1)) _ _ hF sw
 refine W_exit ?_; refine thenQ_exit ?_; refine thenQ_exit ?_; refine blockQ_hit ?_; exact brk_0 _ _ _ (oi hF) sw
def state_Total_L1 (p0 : (List api_State)) (p1 : Int) (p2 : Int) (p3 : api_Span) : (Int × Int) → Option ((Int × Int) ⊕ Int) := fun (a20, a21) =>
  (bif (decide (a21 < (List.length p0 : Int))) then ((((idx p0 a21).bind fun y30 => (((bif (decide (y30.fThread = p1)) then some (decide (y30.fState = p2)) else some false) : Option Bool).bind fun v31 => (bif v31 then some (w64 (a20 + (max 0 (w64 ((min y30.fSpan.fTo p3.fTo) - (max y30.fSpan.fFrom p3.fFrom)))))) else some a20))) : Option Int).bind fun v29 => some (.inl (v29, (w64 (a21 + 1))))) else some (.inr a20))
def state_Total (p0 : (List api_State)) (p1 : Int) (p2 : Int) (p3 : api_Span) : Option Int :=
  ((spans_Valid p3).bind fun r1 => (bif (!r1) then some 0 else ((loop (state_Total_L1 p0 p1 p2 p3) (0, 0)).bind fun e28 => some e28)))
theorem state_Total_fun (p0 : (List api_State)) (p1 : Int) (p2 : Int) (p3 : api_Span) (r : Int) (hF : state_Total p0 p1 p2 p3 = some r) : Fun Tryz.prog 42 true [] [cL 7 t_api_State p0, cI p1, cI p2, .agg [jI p3.fFrom, jI p3.fTo]] noHeap (cI r) noHeap := by
 refine Fun.of_walk0 Tryz.func42 c42 (by kernel_rfl) (rs := [.tmp 8]) (by kernel_rfl) ?_; unfold v42
 unfold state_Total at hF
 refine wA rfl ?_; refine W_seq ?_; refine wC 1 rfl ?_; obtain ⟨r1, hr1, hF⟩ := bB hF
 refine rS (T_call (spans_Valid_fun _ _ hr1) ⟨⟨rfl, rfl, trivial⟩, trivial⟩ rfl (.inl rfl) ?_); refine QV rfl ?_; refine wIf hF rfl (fun _ hF => ?_) fun _ hF => ?_
 · refine wA rfl ?_; cases hF
   exact W_ret wR
 refine W_skip ?_; refine wA rfl ?_; refine W_seq ?_; refine wC 1 rfl ?_; refine rS (T_len (tc := t_api_State) p0 .tree ?_); refine QV rfl ?_; refine W_for (fun _ _ h => h) hF (id) (fun (a20, a21) => [(1, cI p1), (2, cI p2), (7, cP (7,0) 0), (9, cI a20), (15, cL 7 t_api_State p0), (16, cI (List.length p0 : Int)), (17, cI a21)]) (fun (a20, a21) => [((7,0), .box [jI p3.fFrom, jI p3.fTo])]) (fun e28 => [(9, cI e28)]) (fun e28 => []) sw ?_ ?_
 · rintro e28 hF
   refine wA rfl ?_; cases hF
   exact W_ret wR
 rintro ⟨a20, a21⟩ x_0 hF cont_0 brk_0 fin_0
 unfold state_Total_L1 at hF
 refine wA rfl ?_; refine W_seq ?_; refine wIf hF rfl (fun _ hF => ?_) fun _ hF => ?_
 · refine W_skip ?_; refine W_seq ?_; refine W_join (fun _ _ h => h) hF (fun v29 => [(1, cI p1), (2, cI p2), (7, cP (7,0) 0), (9, cI v29), (15, cL 7 t_api_State p0), (16, cI (List.length p0 : Int)), (17, cI a21)]) (fun v29 => [((7,0), .box [jI p3.fFrom, jI p3.fTo])]) ?_ ?_
   · rintro v29 hF
     refine wB rfl ?_; exact cont_0 _ _ _ (oi hF) sw
   intro join hF
   refine W_block ?_; refine wE ?_; obtain ⟨y30, hy30, hF⟩ := bB' hF
   refine rS (T_ixT (tc := t_api_State) p0 rfl rfl hy30 ?_); refine QV rfl ?_; refine W_seq ?_; have hF := bA hF; refine W_join (fun _ _ h => h) hF (fun v31 => [(1, cI p1), (2, cI p2), (7, cP (7,0) 0), (9, cI a20), (11, cP (11,0) 0), (15, cL 7 t_api_State p0), (16, cI (List.length p0 : Int)), (17, cI a21), (30, cB v31)]) (fun v31 => [((7,0), .box [jI p3.fFrom, jI p3.fTo]), ((11,0), .box (m_api_State y30))]) ?_ ?_
   · rintro v31 hF
     refine wIf' hF rfl (fun _ hF => ?_) fun _ hF => ?_
     · refine wB rfl ?_; exact join (w64 (a20 + (max 0 (w64 ((min y30.fSpan.fTo p3.fTo) - (max y30.fSpan.fFrom p3.fFrom)))))) _ _ hF sw
     refine W_skip ?_; exact join a20 _ _ hF sw
   intro join hF
   refine wD 5 rfl ?_; cases h33 : (decide (y30.fThread = p1))
   · have hF := bF' h33 hF; refine QV rfl ?_; exact join false _ _ hF sw
   have hF := bT' h33 hF; refine QV rfl ?_; exact join (decide (y30.fState = p2)) _ _ hF sw
 refine W_exit ?_; refine thenQ_exit ?_; refine thenQ_exit ?_; refine blockQ_hit ?_; exact brk_0 _ _ _ (oi hF) sw
def anomaly_times_k2_L1 (p0 : api_Trace) (p1 : api_Slice) : (Int × (List Int) × Int) → Option ((Int × (List Int) × Int) ⊕ (Int × (List Int))) := fun (a18, a19, a20) =>
  (bif (decide (a20 < 6)) then ((state_Total p0.fStates p1.fThread a20 p1.fSpan).bind fun r28 => (bif room 8 (List.length a19 + List.length [r28]) then some (.inl ((w64 (a18 - r28)), (a19 ++ [r28]), (w64 (a20 + 1)))) else none)) else some (.inr (a18, a19)))
def anomaly_times_k2 (p0 : api_Trace) (p1 : api_Slice) : Option (List Int) :=
  ((anomaly_length p1).bind fun r1 => (bif mkB 8 6 then ((loop (anomaly_times_k2_L1 p0 p1) (r1, [], 0)).bind fun (e24, e25) => ((idx e25 5).bind fun y26 => ((idx e25 5).bind fun y27 => some (List.set e25 (Int.toNat 5) (w64 (y26 + e24)))))) else none))
theorem anomaly_times_k2_fun (p0 : api_Trace) (p1 : api_Slice) (r : (List Int)) (hF : anomaly_times_k2 p0 p1 = some r) : Fun Tryz.prog 30 true [] [.agg (m_api_Trace p0), .agg (m_api_Slice p1)] noHeap (cL 1 t_i64 r) noHeap := by
 refine Fun.of_walk0 Tryz.func30 c30 (by kernel_rfl) (rs := [.tmp 4]) (by kernel_rfl) ?_; unfold v30
 unfold anomaly_times_k2 at hF
 refine wA rfl ?_; refine wC 1 rfl ?_; obtain ⟨r1, hr1, hF⟩ := bB hF
 refine rS (T_call (anomaly_length_fun _ _ hr1) ⟨⟨rfl, rfl, rfl, rfl, rfl, rfl, rfl, rfl, trivial⟩, trivial⟩ rfl (.inl rfl) ?_); refine QV rfl ?_; refine wE ?_; obtain ⟨h2, hF⟩ := roomT hF
 refine rS (T_mk0 (tc := t_i64) 0 rfl rfl (mkOk h2) rfl rfl ?_); refine QV rfl ?_; refine W_seq ?_; refine wA rfl ?_; refine W_for (fun _ _ h => h) hF (id) (fun (a18, a19, a20) => [(2, cP (2,0) 0), (3, cP (3,0) 0), (5, cI a18), (6, cO (11,1)), (12, cI a20)]) (fun (a18, a19, a20) => [((2,0), .box (m_api_Trace p0)), ((3,0), .box (m_api_Slice p1)), ((11,1), .arr 3 1 (List.map t_i64 a19))]) (fun (e24, e25) => [(5, cI e24), (6, cO (11,1))]) (fun (e24, e25) => [((11,1), .arr 3 1 (List.map t_i64 e25))]) (S_ren (11,0) (11,1) rfl rfl sw) ?_ ?_
 · rintro ⟨e24, e25⟩ hF
   refine wC 1 rfl ?_; obtain ⟨y26, hy26, hF⟩ := bB hF
   refine rS (T_ixO (tc := t_i64) e25 rfl rfl rfl hy26 ?_); refine rS (T_ldE (tc := t_i64) e25 rfl rfl (idx_get hy26).2.1 rfl ?_); refine Q_run SV 2 rfl ?_; obtain ⟨y27, hy27, hF⟩ := bB hF
   refine rS (T_ixO (tc := t_i64) e25 rfl rfl rfl hy27 ?_); refine rS (T_stE (tc := t_i64) e25 (w64 (y26 + e24)) rfl rfl (idx_get hy27).2.1 rfl rfl rfl rfl rfl ?_); refine QV rfl ?_; refine wA rfl ?_; cases hF
   exact W_ret ⟨_, rfl, rfl, ⟨⟨_, rfl⟩, fun _ _ h => by simp [noHeap] at h, rfl, fun _ => by simp [-List.map_set, t_i64, flatT]⟩, noOut _⟩
 rintro ⟨a18, a19, a20⟩ x_0 hF cont_0 brk_0 fin_0
 unfold anomaly_times_k2_L1 at hF
 refine wA rfl ?_; refine W_seq ?_; refine wIf hF rfl (fun _ hF => ?_) fun _ hF => ?_
 · refine W_skip ?_; refine W_seq ?_; refine W_block ?_; refine wA rfl ?_; refine wC 7 rfl ?_; obtain ⟨r28, hr28, hF⟩ := bB hF
   refine rS (T_call (state_Total_fun _ _ _ _ _ hr28) ⟨rfl, rfl, rfl, ⟨rfl, rfl, trivial⟩, trivial⟩ rfl (.inl rfl) ?_); refine QV rfl ?_; refine wC 2 rfl ?_; refine rS (T_bsl (tc := t_i64) [r28] rfl ⟨rfl, trivial⟩ rfl (fun _ => rfl) rfl ?_)
   obtain ⟨h29, hF⟩ := roomT hF
   refine rS (T_appO (tc := t_i64) a19 [r28] rfl rfl (.own _ _ rfl) h29 rfl ?_); refine QV rfl ?_; refine wB rfl ?_; refine wB rfl ?_; exact cont_0 _ _ _ (oi hF) (S_ren (26,0) (11,1) rfl rfl sw)
 refine W_exit ?_; refine thenQ_exit ?_; refine thenQ_exit ?_; refine blockQ_hit ?_; exact brk_0 _ _ _ (oi hF) sw
def anomaly_causes  : Option (List ByteArray) :=
  some [⟨#[114, 101, 97, 100, 121]⟩, ⟨#[97, 115, 108, 101, 101, 112]⟩, ⟨#[98, 108, 111, 99, 107, 101, 100]⟩, ⟨#[103, 111, 110, 101]⟩, ⟨#[114, 117, 110, 110, 105, 110, 103]⟩, ⟨#[117, 110, 107, 110, 111, 119, 110]⟩]
theorem anomaly_causes_fun  (r : (List ByteArray)) (hF : anomaly_causes  = some r) : Fun Tryz.prog 35 false [] [] (heapOf []) (cO (902,1400)) (heapOf [((902,1400), .arr 9 1 (List.map t_str r))]) := by
 refine Fun.of_walkM [] (some []) Tryz.func35 c35 (by kernel_rfl) (rs := [.tmp 0]) (by kernel_rfl) rfl rfl rfl ?_; unfold v35
 unfold anomaly_causes at hF
 refine wA rfl ?_; refine wE ?_; refine rS (T_bsl (tc := t_str) [⟨#[114, 101, 97, 100, 121]⟩, ⟨#[97, 115, 108, 101, 101, 112]⟩, ⟨#[98, 108, 111, 99, 107, 101, 100]⟩, ⟨#[103, 111, 110, 101]⟩, ⟨#[114, 117, 110, 110, 105, 110, 103]⟩, ⟨#[117, 110, 107, 110, 111, 119, 110]⟩] rfl ⟨rfl, rfl, rfl, rfl, rfl, rfl, trivial⟩ rfl (fun _ => rfl) rfl ?_)
 refine QV rfl ?_; cases hF
 exact W_ret ⟨_, _, (S_ren (1,0) (902,1400) rfl rfl S_refl), _, rfl, rfl, rfl, (AgM.weak ⟨rfl, trivial⟩)⟩
def slices_Reverse_string_string_k1_L1  : ((List ByteArray) × Int × Int) → Option (((List ByteArray) × Int × Int) ⊕ (List ByteArray)) := fun (a20, a21, a22) =>
  (bif (decide (a21 < a22)) then ((idx a20 a22).bind fun y23 => ((idx a20 a21).bind fun y24 => ((idx a20 a21).bind fun y25 => ((idx (List.set a20 (Int.toNat a21) y23) a22).bind fun y26 => some (.inl ((List.set (List.set a20 (Int.toNat a21) y23) (Int.toNat a22) y24), (w64 (a21 + 1)), (w64 (a22 - 1)))))))) else some (.inr a20))
def slices_Reverse_string_string_k1 (p0 : (List ByteArray)) : Option (List ByteArray) :=
  (loop (slices_Reverse_string_string_k1_L1) (p0, 0, (w64 ((List.length p0 : Int) - 1))))
theorem slices_Reverse_string_string_k1_fun (p0 : (List ByteArray)) (r : (List ByteArray)) (hF : slices_Reverse_string_string_k1 p0 = some r) : Fun Tryz.prog 83 false [(4320,0)] [cO (4320,0)] (heapOf [((4320,0), .arr 9 1 (List.map t_str p0))]) (.tup []) (heapOf [((4320,0), .arr 9 1 (List.map t_str r))]) := by
 refine Fun.of_walkM [(4320,0)] (some [(4320,0)]) Tryz.func83 c83 (by kernel_rfl) (rs := []) (by kernel_rfl) rfl rfl rfl ?_; unfold v83
 unfold slices_Reverse_string_string_k1 at hF
 refine wC 1 rfl ?_; refine rS (T_len (tc := t_str) p0 (.own _ _ rfl) ?_); refine QV rfl ?_; refine W_for0 hF (fun (a20, a21, a22) => [(0, cO (4320,0)), (2, cI a21), (3, cI a22)]) (fun (a20, a21, a22) => [((4320,0), .arr 9 1 (List.map t_str a20))]) sw ?_
 rintro ⟨a20, a21, a22⟩ x_0 hF cont_0 fin_0
 unfold slices_Reverse_string_string_k1_L1 at hF
 refine W_seq ?_; refine wA rfl ?_; refine wIf hF rfl (fun _ hF => ?_) fun _ hF => ?_
 · refine W_skip ?_; refine W_seq ?_; refine W_block ?_; refine W_regD (by decide) (by kernel_rfl) rfl ?_; refine Q_run SP 6 rfl ?_; obtain ⟨y23, hy23, hF⟩ := bB hF
   refine R_step SP trivial (T_ixO (tc := t_str) a20 rfl rfl rfl hy23 ?_); refine R_step SP trivial (T_ldE (tc := t_str) a20 rfl rfl (idx_get hy23).2.1 rfl ?_); refine Q_run SP 2 rfl ?_; obtain ⟨y24, hy24, hF⟩ := bB hF
   refine R_step SP trivial (T_ixO (tc := t_str) a20 rfl rfl rfl hy24 ?_); refine R_step SP trivial (T_ldE (tc := t_str) a20 rfl rfl (idx_get hy24).2.1 rfl ?_); obtain ⟨y25, hy25, hF⟩ := bB hF
   refine R_step SP trivial (T_ixO (tc := t_str) a20 rfl rfl rfl hy25 ?_); refine R_step SP trivial (T_stE (tc := t_str) a20 y23 rfl rfl (idx_get hy25).2.1 rfl rfl rfl rfl rfl ?_); obtain ⟨y26, hy26, hF⟩ := bB hF
   refine R_step SP trivial (T_ixO (tc := t_str) (List.set a20 (Int.toNat a21) y23) rfl rfl rfl hy26 ?_); refine R_step SP trivial (T_stE (tc := t_str) (List.set a20 (Int.toNat a21) y23) y24 rfl rfl (idx_get hy26).2.1 rfl rfl rfl rfl rfl ?_)
   refine QP rfl ?_; refine wB rfl ?_; exact cont_0 _ _ _ (oi hF) sw
 refine W_exit ?_; refine thenQ_exit ?_; refine thenQ_exit ?_; refine blockQ_hit ?_; have hF := fin_0 _ (oi hF); cases hF
 exact ⟨_, _, S_refl, _, rfl, rfl, trivial, (AgM.weak ⟨rfl, trivial⟩)⟩
def slice_Path_L1 (p0 : (List api_Slice)) : (Int × (List ByteArray) × Int) → Option ((Int × (List ByteArray) × Int) ⊕ (List ByteArray)) := fun (a25, a26, a27) =>
  (((bif (decide (0 ≤ a25)) then (bif (decide (a25 < (List.length p0 : Int))) then some (decide (a27 ≤ (List.length p0 : Int))) else some false) else some false) : Option Bool).bind fun v37 => (bif v37 then ((idx p0 a25).bind fun y38 => (bif room 16 (List.length a26 + List.length [y38.fName]) then ((idx p0 a25).bind fun y40 => some (.inl (y40.fParent, (a26 ++ [y38.fName]), (w64 (a27 + 1))))) else none)) else some (.inr a26)))
def slice_Path (p0 : (List api_Slice)) (p1 : Int) : Option (List ByteArray) :=
  (((bif (decide (p1 < 0)) then some true else some (decide ((List.length p0 : Int) ≤ p1))) : Option Bool).bind fun v1 => (bif v1 then some [] else ((loop (slice_Path_L1 p0) (p1, [], 0)).bind fun e35 => ((slices_Reverse_string_string_k1 e35).bind fun r36 => some r36))))
theorem slice_Path_fun (p0 : (List api_Slice)) (p1 : Int) (r : (List ByteArray)) (hF : slice_Path p0 p1 = some r) : Fun Tryz.prog 36 false [] [cL 8 t_api_Slice p0, cI p1] (heapOf []) (cO (902,1440)) (heapOf [((902,1440), .arr 9 1 (List.map t_str r))]) := by
 refine Fun.of_walkM [] (some []) Tryz.func36 c36 (by kernel_rfl) (rs := [.tmp 4]) (by kernel_rfl) rfl rfl rfl ?_; unfold v36
 unfold slice_Path at hF
 refine wA rfl ?_; refine W_seq ?_; refine W_seq ?_; refine W_join (fun _ _ h => h) hF (fun v1 => [(0, cL 8 t_api_Slice p0), (1, cI p1), (14, cB v1)]) (fun v1 => []) ?_ ?_
 · rintro v1 hF
   refine wIf hF rfl (fun _ hF => ?_) fun _ hF => ?_
   · refine wA rfl ?_; cases hF
     exact W_ret ⟨_, _, (S_own 4 (902,1440) 9 1 rfl rfl rfl rfl S_refl), _, rfl, rfl, rfl, (AgM.weak ⟨rfl, trivial⟩)⟩
   refine W_skip ?_; refine wA rfl ?_; refine W_seq ?_; refine wA rfl ?_; refine W_for (fun _ _ h => h) hF (id) (fun (a25, a26, a27) => [(0, cL 8 t_api_Slice p0), (1, cI a25), (5, cO (38,1)), (6, cI a27)]) (fun (a25, a26, a27) => [((38,1), .arr 9 1 (List.map t_str a26))]) (fun e35 => [(5, cO (38,1))]) (fun e35 => [((38,1), .arr 9 1 (List.map t_str e35))]) (S_own 5 (38,1) 9 1 rfl rfl rfl rfl sw) ?_ ?_
   · rintro e35 hF
     refine wC 1 rfl ?_; obtain ⟨r36, hr36, hF⟩ := bB hF
     refine R_stepX trivial (X_callG [((4320,0),(38,1))] rfl (callN _) (slices_Reverse_string_string_k1_fun _ _ hr36) ⟨rfl, trivial⟩ ⟨.inl rfl, trivial⟩ rfl rfl rfl ?_); refine QV rfl ?_; refine wA rfl ?_; cases hF
     exact W_ret ⟨_, _, (S_ren (38,1) (902,1440) rfl rfl S_refl), _, rfl, rfl, rfl, (AgM.weak ⟨rfl, trivial⟩)⟩
   rintro ⟨a25, a26, a27⟩ x_0 hF cont_0 brk_0 fin_0
   unfold slice_Path_L1 at hF
   refine W_seq ?_; refine W_seq ?_; refine W_join (fun _ _ h => h) hF (fun v37 => [(0, cL 8 t_api_Slice p0), (1, cI a25), (5, cO (38,1)), (6, cI a27), (28, cB v37)]) (fun v37 => [((38,1), .arr 9 1 (List.map t_str a26))]) ?_ ?_
   · rintro v37 hF
     refine wIf hF rfl (fun _ hF => ?_) fun _ hF => ?_
     · refine W_skip ?_; refine W_seq ?_; refine W_block ?_; refine wC 3 rfl ?_; obtain ⟨y38, hy38, hF⟩ := bB hF
       refine rS (T_ixT (tc := t_api_Slice) p0 rfl rfl hy38 ?_); refine Q_run SV 2 rfl ?_; refine rS (T_bsl (tc := t_str) [y38.fName] rfl ⟨rfl, trivial⟩ rfl (fun _ => rfl) rfl ?_)
       obtain ⟨h39, hF⟩ := roomT hF
       refine rS (T_appO (tc := t_str) a26 [y38.fName] rfl rfl (.own _ _ rfl) h39 rfl ?_); refine QV rfl ?_; refine wD 2 rfl ?_; obtain ⟨y40, hy40, hF⟩ := bB hF
       refine rS (T_ixT (tc := t_api_Slice) p0 rfl rfl hy40 ?_); refine QV rfl ?_; refine wB rfl ?_; exact cont_0 _ _ _ (oi hF) (S_ren (38,0) (38,1) rfl rfl sw)
     refine W_exit ?_; refine thenQ_exit ?_; refine thenQ_exit ?_; refine blockQ_hit ?_; exact brk_0 _ _ _ (oi hF) sw
   intro join hF
   refine wD 3 rfl ?_; cases h42 : (decide (0 ≤ a25))
   · have hF := bF' h42 hF; refine QV rfl ?_; exact join false _ _ hF sw
   have hF := bT' h42 hF; refine Q_run SV 2 rfl ?_; refine R_step SV rfl (T_len (tc := t_api_Slice) p0 .tree ?_); refine Q_run SV 3 rfl ?_; cases h43 : (decide (a25 < (List.length p0 : Int)))
   · have hF := bF' h43 hF; refine QV rfl ?_; exact join false _ _ hF sw
   have hF := bT' h43 hF; refine Q_run SV 2 rfl ?_; refine R_step SV rfl (T_len (tc := t_api_Slice) p0 .tree ?_); refine QV rfl ?_; exact join (decide (a27 ≤ (List.length p0 : Int))) _ _ hF sw
 intro join hF
 refine wD 3 rfl ?_; cases h45 : (decide (p1 < 0))
 · have hF := bF' h45 hF; refine Q_run SV 2 rfl ?_; refine R_step SV rfl (T_len (tc := t_api_Slice) p0 .tree ?_); refine QV rfl ?_; exact join (decide ((List.length p0 : Int) ≤ p1)) _ _ hF sw
 have hF := bT' h45 hF; refine QV rfl ?_; exact join true _ _ hF sw
def anomaly_parts_k2_L1 (p0 : api_Trace) (p1 : Int) (r2 : (List Int)) (r4 : (List Int)) (r5 : (List ByteArray)) : ((List api_Part) × Int) → Option (((List api_Part) × Int) ⊕ (List api_Part)) := fun (a28, a29) =>
  (bif (decide (a29 < (List.length r5 : Int))) then ((((idx r5 a29).bind fun y40 => ((idx r2 a29).bind fun y41 => ((idx r4 a29).bind fun y42 => (bif (!decide ((w64 (y41 - y42)) = 0)) then ((slice_Path p0.fSlices p1).bind fun r43 => (bif room 56 (List.length a28 + List.length [({ fPath := r43, fCause := y40, fValue := ({ fN := (w64 (y41 - y42)), fD := 1 } : api_Frac) } : api_Part)]) then some (a28 ++ [({ fPath := r43, fCause := y40, fValue := ({ fN := (w64 (y41 - y42)), fD := 1 } : api_Frac) } : api_Part)]) else none)) else some a28)))) : Option (List api_Part)).bind fun v39 => some (.inl (v39, (w64 (a29 + 1))))) else some (.inr a28))
def anomaly_parts_k2 (p0 : api_Trace) (p1 : Int) (p2 : Int) : Option (List api_Part) :=
  ((idx p0.fSlices p1).bind fun y1 => ((anomaly_times_k2 p0 y1).bind fun r2 => ((idx p0.fSlices p2).bind fun y3 => ((anomaly_times_k2 p0 y3).bind fun r4 => ((anomaly_causes ).bind fun r5 => ((loop (anomaly_parts_k2_L1 p0 p1 r2 r4 r5) ([], 0)).bind fun e38 => some e38))))))
theorem anomaly_parts_k2_fun (p0 : api_Trace) (p1 : Int) (p2 : Int) (r : (List api_Part)) (hF : anomaly_parts_k2 p0 p1 p2 = some r) : Fun Tryz.prog 23 false [] [.agg (m_api_Trace p0), cI p1, cI p2] noHeap (cL 4 t_api_Part r) noHeap := by
 refine Fun.of_walk0 Tryz.func23 c23 (by kernel_rfl) (rs := [.tmp 6]) (by kernel_rfl) ?_; unfold v23
 unfold anomaly_parts_k2 at hF
 refine wA rfl ?_; refine wA rfl ?_; refine W_seq ?_; refine W_regD (by decide) (by kernel_rfl) rfl ?_; refine Q_run SP 4 rfl ?_; obtain ⟨y1, hy1, hF⟩ := bB hF
 refine R_step SP trivial (T_ixT (tc := t_api_Slice) p0.fSlices rfl rfl hy1 ?_); refine Q_run SP 1 rfl ?_; obtain ⟨r2, hr2, hF⟩ := bB hF
 refine R_step SP trivial (T_call (anomaly_times_k2_fun _ _ _ hr2) ⟨⟨rfl, rfl, rfl, rfl, rfl, rfl, rfl, rfl, rfl, rfl, trivial⟩, ⟨rfl, rfl, rfl, rfl, rfl, rfl, rfl, rfl, trivial⟩, trivial⟩ rfl (.inl rfl) ?_)
 refine Q_run SP 4 rfl ?_; obtain ⟨y3, hy3, hF⟩ := bB hF
 refine R_step SP trivial (T_ixT (tc := t_api_Slice) p0.fSlices rfl rfl hy3 ?_); refine Q_run SP 1 rfl ?_; obtain ⟨r4, hr4, hF⟩ := bB hF
 refine R_step SP trivial (T_call (anomaly_times_k2_fun _ _ _ hr4) ⟨⟨rfl, rfl, rfl, rfl, rfl, rfl, rfl, rfl, rfl, rfl, trivial⟩, ⟨rfl, rfl, rfl, rfl, rfl, rfl, rfl, rfl, trivial⟩, trivial⟩ rfl (.inl rfl) ?_)
 refine QP rfl ?_; refine W_seq ?_; refine wE ?_; obtain ⟨r5, hr5, hF⟩ := bB hF
 refine R_stepX trivial (X_callG [((902,1400),(27,1))] rfl (callN _) (anomaly_causes_fun _ hr5) trivial trivial rfl rfl rfl ?_); refine rS (T_len (tc := t_str) r5 (.own _ _ rfl) ?_); refine QV rfl ?_; refine W_for (fun _ _ h => h) hF (id) (fun (a28, a29) => [(1, cI p1), (3, cP (3,0) 0), (7, cO (55,1)), (8, cL 1 t_i64 r2), (9, cL 1 t_i64 r4), (27, cO (27,1)), (28, cI (List.length r5 : Int)), (29, cI a29)]) (fun (a28, a29) => [((3,0), .box (m_api_Trace p0)), ((55,1), .arr 61 4 (List.map t_api_Part a28)), ((27,1), .arr 9 1 (List.map t_str r5))]) (fun e38 => [(7, cO (55,1))]) (fun e38 => [((55,1), .arr 61 4 (List.map t_api_Part e38))]) (S_own 7 (55,1) 61 4 rfl rfl rfl rfl sw) ?_ ?_
 · rintro e38 hF
   refine wA rfl ?_; cases hF
   exact W_ret ⟨_, rfl, rfl, ⟨⟨_, rfl⟩, fun _ _ h => by simp [noHeap] at h, rfl, fun h => (by cases h)⟩, noOut _⟩
 rintro ⟨a28, a29⟩ x_0 hF cont_0 brk_0 fin_0
 unfold anomaly_parts_k2_L1 at hF
 refine wA rfl ?_; refine W_seq ?_; refine wIf hF rfl (fun _ hF => ?_) fun _ hF => ?_
 · refine W_skip ?_; refine W_seq ?_; refine W_join (fun _ _ h => h) hF (fun v39 => [(1, cI p1), (3, cP (3,0) 0), (7, cO (55,1)), (8, cL 1 t_i64 r2), (9, cL 1 t_i64 r4), (27, cO (27,1)), (28, cI (List.length r5 : Int)), (29, cI a29)]) (fun v39 => [((3,0), .box (m_api_Trace p0)), ((55,1), .arr 61 4 (List.map t_api_Part v39)), ((27,1), .arr 9 1 (List.map t_str r5))]) ?_ ?_
   · rintro v39 hF
     refine wB rfl ?_; exact cont_0 _ _ _ (oi hF) sw
   intro join hF
   refine W_block ?_; refine wC 1 rfl ?_; obtain ⟨y40, hy40, hF⟩ := bB' hF
   refine rS (T_ixO (tc := t_str) r5 rfl rfl rfl hy40 ?_); refine rS (T_ldE (tc := t_str) r5 rfl rfl (idx_get hy40).2.1 rfl ?_); refine QV rfl ?_; refine W_seq ?_; refine W_regD (by decide) (by kernel_rfl) rfl ?_
   refine Q_run SP 2 rfl ?_; obtain ⟨y41, hy41, hF⟩ := bB' hF
   refine R_step SP trivial (T_ixT (tc := t_i64) r2 rfl rfl hy41 ?_); refine Q_run SP 3 rfl ?_; obtain ⟨y42, hy42, hF⟩ := bB' hF
   refine R_step SP trivial (T_ixT (tc := t_i64) r4 rfl rfl hy42 ?_); refine QP rfl ?_; refine wA rfl ?_; refine wIf' hF rfl (fun _ hF => ?_) fun _ hF => ?_
   · refine wD 4 rfl ?_; obtain ⟨r43, hr43, hF⟩ := bB' hF
     refine R_stepX trivial (X_callG [((902,1440),(49,1))] rfl (callN _) (slice_Path_fun _ _ _ hr43) trivial ⟨.inl rfl, .inl rfl, trivial⟩ rfl rfl rfl ?_); refine Q_run SV 4 rfl ?_; refine R_shift trivial (S_frz (49,1) rfl rfl S_refl) (.inl (T_bsl (tc := t_api_Part) [({ fPath := r43, fCause := y40, fValue := ({ fN := (w64 (y41 - y42)), fD := 1 } : api_Frac) } : api_Part)] rfl ⟨rfl, rfl, rfl, rfl, trivial⟩ rfl (fun _ => rfl) rfl ?_))
     obtain ⟨h44, hF⟩ := roomT' hF
     refine rS (T_appO (tc := t_api_Part) a28 [({ fPath := r43, fCause := y40, fValue := ({ fN := (w64 (y41 - y42)), fD := 1 } : api_Frac) } : api_Part)] rfl rfl (.own _ _ rfl) h44 rfl ?_); refine QV rfl ?_
     exact join (a28 ++ [({ fPath := r43, fCause := y40, fValue := ({ fN := (w64 (y41 - y42)), fD := 1 } : api_Frac) } : api_Part)]) _ _ hF (S_ren (55,0) (55,1) rfl rfl sw)
   refine W_skip ?_; exact join a28 _ _ hF sw
 refine W_exit ?_; refine thenQ_exit ?_; refine thenQ_exit ?_; refine blockQ_hit ?_; exact brk_0 _ _ _ (oi hF) sw
def anomaly_Of_L1 (p0 : api_Trace) (p1 : Int) (p2 : Int) : ((List api_Outlier) × Int) → Option (((List api_Outlier) × Int) ⊕ (List api_Outlier)) := fun (a41, a42) =>
  (bif (decide (a42 < (List.length p0.fSlices : Int))) then ((((idx p0.fSlices a42).bind fun y61 => (((bif y61.fOpen then some true else ((anomaly_closed p0 y61.fName).bind fun r74 => some (decide ((List.length r74 : Int) < 3)))) : Option Bool).bind fun v62 => (bif v62 then some a41 else ((anomaly_usual p0 y61.fName).bind fun r63 => (bif (!r63.2) then some a41 else ((idx p0.fSlices r63.1).bind fun y64 => ((anomaly_length y64).bind fun r65 => ((anomaly_length y61).bind fun r66 => (bif (decide ((w64 (p1 * r65)) < (w64 (p2 * r66)))) then ((anomaly_length y61).bind fun r67 => ((anomaly_parts_k2 p0 a42 r63.1).bind fun r68 => (bif room 40 (List.length a41 + List.length [({ fSlice := a42, fExcess := (w64 (r67 - r65)), fParts := r68 } : api_Outlier)]) then some (a41 ++ [({ fSlice := a42, fExcess := (w64 (r67 - r65)), fParts := r68 } : api_Outlier)]) else none))) else some a41))))))))) : Option (List api_Outlier)).bind fun v60 => some (.inl (v60, (w64 (a42 + 1))))) else some (.inr a41))
def anomaly_Of (p0 : api_Trace) (p1 : Int) (p2 : Int) : Option ((List api_Outlier) × Int) :=
  ((trace_Check p0).bind fun r1 => (bif (!decide (r1 = 0)) then some ([], r1) else (((bif (decide (p2 < 1)) then some true else (bif (decide (p1 < p2)) then some true else some (decide (1000 < p1)))) : Option Bool).bind fun v2 => (bif v2 then some ([], 1) else ((loop (anomaly_Of_L1 p0 p1 p2) ([], 0)).bind fun e59 => some (e59, 0))))))
theorem anomaly_Of_fun (p0 : api_Trace) (p1 : Int) (p2 : Int) (r : ((List api_Outlier) × Int)) (hF : anomaly_Of p0 p1 p2 = some r) : Fun Tryz.prog 10 false [] [.agg (m_api_Trace p0), cI p1, cI p2] (heapOf []) (.tup [cO (902,400), cI r.2]) (heapOf [((902,400), .arr 42 3 (List.map t_api_Outlier r.1))]) := by
 refine Fun.of_walkM [] (some []) Tryz.func10 c10 (by kernel_rfl) (rs := [.tmp 6, .tmp 7]) (by kernel_rfl) rfl rfl rfl ?_; unfold v10
 unfold anomaly_Of at hF
 refine wA rfl ?_; refine W_seq ?_; refine wC 1 rfl ?_; obtain ⟨r1, hr1, hF⟩ := bB hF
 refine rS (T_call (trace_Check_fun _ _ hr1) ⟨⟨rfl, rfl, rfl, rfl, rfl, rfl, rfl, rfl, rfl, rfl, trivial⟩, trivial⟩ rfl (.inl rfl) ?_); refine QV rfl ?_; refine wA rfl ?_; refine wIf hF rfl (fun _ hF => ?_) fun _ hF => ?_
 · refine wA rfl ?_; cases hF
   exact W_ret ⟨_, _, (S_own 6 (902,400) 42 3 rfl rfl rfl rfl S_refl), _, rfl, rfl, ⟨rfl, ⟨rfl, fun _ => rfl⟩, trivial⟩, (AgM.weak ⟨rfl, trivial⟩)⟩
 refine W_skip ?_; refine W_seq ?_; refine W_seq ?_; refine W_join (fun _ _ h => h) hF (fun v2 => [(1, cI p1), (2, cI p2), (3, cP (3,0) 0), (30, cB v2)]) (fun v2 => [((3,0), .box (m_api_Trace p0))]) ?_ ?_
 · rintro v2 hF
   refine wIf hF rfl (fun _ hF => ?_) fun _ hF => ?_
   · refine wA rfl ?_; cases hF
     exact W_ret ⟨_, _, (S_own 6 (902,400) 42 3 rfl rfl rfl rfl S_refl), _, rfl, rfl, ⟨rfl, ⟨rfl, fun _ => rfl⟩, trivial⟩, (AgM.weak ⟨rfl, trivial⟩)⟩
   refine W_skip ?_; refine wA rfl ?_; refine W_seq ?_; refine wC 2 rfl ?_; refine rS (T_len (tc := t_api_Slice) p0.fSlices .tree ?_); refine QV rfl ?_; refine W_for (fun _ _ h => h) hF (id) (fun (a41, a42) => [(1, cI p1), (2, cI p2), (3, cP (3,0) 0), (9, cO (84,1)), (32, cL 8 t_api_Slice p0.fSlices), (33, cI (List.length p0.fSlices : Int)), (34, cI a42)]) (fun (a41, a42) => [((3,0), .box (m_api_Trace p0)), ((84,1), .arr 42 3 (List.map t_api_Outlier a41))]) (fun e59 => [(9, cO (84,1))]) (fun e59 => [((84,1), .arr 42 3 (List.map t_api_Outlier e59))]) (S_own 9 (84,1) 42 3 rfl rfl rfl rfl sw) ?_ ?_
   · rintro e59 hF
     refine wA rfl ?_; cases hF
     exact W_ret ⟨_, _, (S_ren (84,1) (902,400) rfl rfl S_refl), _, rfl, rfl, ⟨rfl, ⟨rfl, fun _ => rfl⟩, trivial⟩, (AgM.weak ⟨rfl, trivial⟩)⟩
   rintro ⟨a41, a42⟩ x_0 hF cont_0 brk_0 fin_0
   unfold anomaly_Of_L1 at hF
   refine wA rfl ?_; refine W_seq ?_; refine wIf hF rfl (fun _ hF => ?_) fun _ hF => ?_
   · refine W_skip ?_; refine W_seq ?_; refine W_join (fun _ _ h => h) hF (fun v60 => [(1, cI p1), (2, cI p2), (3, cP (3,0) 0), (9, cO (84,1)), (32, cL 8 t_api_Slice p0.fSlices), (33, cI (List.length p0.fSlices : Int)), (34, cI a42)]) (fun v60 => [((3,0), .box (m_api_Trace p0)), ((84,1), .arr 42 3 (List.map t_api_Outlier v60))]) ?_ ?_
     · rintro v60 hF
       refine wB rfl ?_; exact cont_0 _ _ _ (oi hF) sw
     intro join hF
     refine W_block ?_; refine wC 1 rfl ?_; obtain ⟨y61, hy61, hF⟩ := bB' hF
     refine rS (T_ixT (tc := t_api_Slice) p0.fSlices rfl rfl hy61 ?_); refine QV rfl ?_; refine W_seq ?_; refine W_seq ?_; have hF := bA hF; refine W_join (fun _ _ h => h) hF (fun v62 => [(1, cI p1), (2, cI p2), (3, cP (3,0) 0), (9, cO (84,1)), (10, cI a42), (11, cP (11,0) 0), (32, cL 8 t_api_Slice p0.fSlices), (33, cI (List.length p0.fSlices : Int)), (34, cI a42), (48, cB v62)]) (fun v62 => [((3,0), .box (m_api_Trace p0)), ((84,1), .arr 42 3 (List.map t_api_Outlier a41)), ((11,0), .box [jI y61.fThread, jI y61.fParent, jI y61.fDepth, jS y61.fName, jI y61.fSpan.fFrom, jI y61.fSpan.fTo, jI y61.fSelf, jB y61.fOpen])]) ?_ ?_
     · rintro v62 hF
       refine wIf' hF rfl (fun _ hF => ?_) fun _ hF => ?_
       · refine W_exit ?_; refine thenQ_exit ?_; refine blockQ_hit ?_; exact join a41 _ _ hF sw
       refine W_skip ?_; refine wC 3 rfl ?_; obtain ⟨r63, hr63, hF⟩ := bB' hF
       refine rS (T_call (anomaly_usual_fun _ _ _ hr63) ⟨⟨rfl, rfl, rfl, rfl, rfl, rfl, rfl, rfl, rfl, rfl, trivial⟩, rfl, trivial⟩ rfl (.inl rfl) ?_); refine QV rfl ?_; refine W_seq ?_; refine wA rfl ?_; refine wIf' hF rfl (fun _ hF => ?_) fun _ hF => ?_
       · refine W_exit ?_; refine thenQ_exit ?_; refine blockQ_hit ?_; exact join a41 _ _ hF sw
       refine W_skip ?_; refine wC 3 rfl ?_; obtain ⟨y64, hy64, hF⟩ := bB' hF
       refine rS (T_ixT (tc := t_api_Slice) p0.fSlices rfl rfl hy64 ?_); refine Q_run SV 1 rfl ?_; obtain ⟨r65, hr65, hF⟩ := bB' hF
       refine rS (T_call (anomaly_length_fun _ _ hr65) ⟨⟨rfl, rfl, rfl, rfl, rfl, rfl, rfl, rfl, trivial⟩, trivial⟩ rfl (.inl rfl) ?_); refine QV rfl ?_; refine wC 2 rfl ?_; obtain ⟨r66, hr66, hF⟩ := bB' hF
       refine rS (T_call (anomaly_length_fun _ _ hr66) ⟨⟨rfl, rfl, rfl, rfl, rfl, rfl, rfl, rfl, trivial⟩, trivial⟩ rfl (.inl rfl) ?_); refine QV rfl ?_; refine wIf' hF rfl (fun _ hF => ?_) fun _ hF => ?_
       · refine W_regD (by decide) (by kernel_rfl) rfl ?_; refine Q_run SP 3 rfl ?_; obtain ⟨r67, hr67, hF⟩ := bB' hF
         refine R_step SP trivial (T_call (anomaly_length_fun _ _ hr67) ⟨⟨rfl, rfl, rfl, rfl, rfl, rfl, rfl, rfl, trivial⟩, trivial⟩ rfl (.inl rfl) ?_); refine Q_run SP 5 rfl ?_; obtain ⟨r68, hr68, hF⟩ := bB' hF
         refine R_step SP trivial (T_call (anomaly_parts_k2_fun _ _ _ _ hr68) ⟨⟨rfl, rfl, rfl, rfl, rfl, rfl, rfl, rfl, rfl, rfl, trivial⟩, rfl, rfl, trivial⟩ rfl (.inr (.inr ⟨⟨rfl, rfl, rfl, rfl, rfl, rfl, rfl, rfl, rfl, rfl, trivial⟩, rfl, rfl, trivial⟩)) ?_)
         refine Q_run SP 1 rfl ?_; refine R_step SP trivial (T_bsl (tc := t_api_Outlier) [({ fSlice := a42, fExcess := (w64 (r67 - r65)), fParts := r68 } : api_Outlier)] rfl ⟨rfl, rfl, rfl, trivial⟩ rfl (fun _ => rfl) rfl ?_)
         obtain ⟨h69, hF⟩ := roomT' hF
         refine R_step SP trivial (T_appO (tc := t_api_Outlier) a41 [({ fSlice := a42, fExcess := (w64 (r67 - r65)), fParts := r68 } : api_Outlier)] rfl rfl (.own _ _ rfl) h69 rfl ?_); refine QP rfl ?_; exact join (a41 ++ [({ fSlice := a42, fExcess := (w64 (r67 - r65)), fParts := r68 } : api_Outlier)]) _ _ hF (S_ren (84,0) (84,1) rfl rfl sw)
       refine W_skip ?_; exact join a41 _ _ hF sw
     intro join hF
     refine wD 3 rfl ?_; cases h73 : y61.fOpen
     · have hF := bF' h73 hF; refine Q_run SV 3 rfl ?_; obtain ⟨r74, hr74, hF⟩ := bB' hF
       refine R_stepX rfl (X_callG [((902,800),(45,1))] rfl (callN _) (anomaly_closed_fun _ _ _ hr74) trivial ⟨.inr ⟨rfl, rfl, rfl, rfl, rfl, rfl, rfl, rfl, rfl, rfl, trivial⟩, .inl rfl, trivial⟩ rfl rfl rfl ?_)
       refine R_step SV rfl (T_len (tc := t_i64) r74 (.own _ _ rfl) ?_); refine QV rfl ?_; exact join (decide ((List.length r74 : Int) < 3)) _ _ hF (S_weak (by repeat' first | constructor | (rw [h73]; rfl)) (by repeat' first | constructor | (rw [h73]; rfl)))
     have hF := bT' h73 hF; refine QV rfl ?_; exact join true _ _ hF (S_weak (by repeat' first | constructor | (rw [h73]; rfl)) (by repeat' first | constructor | (rw [h73]; rfl)))
   refine W_exit ?_; refine thenQ_exit ?_; refine thenQ_exit ?_; refine blockQ_hit ?_; exact brk_0 _ _ _ (oi hF) sw
 intro join hF
 refine wD 3 rfl ?_; cases h77 : (decide (p2 < 1))
 · have hF := bF' h77 hF; refine Q_run SV 5 rfl ?_; cases h78 : (decide (p1 < p2))
   · have hF := bF' h78 hF; refine QV rfl ?_; exact join (decide (1000 < p1)) _ _ hF sw
   have hF := bT' h78 hF; refine QV rfl ?_; exact join true _ _ hF sw
 have hF := bT' h77 hF; refine QV rfl ?_; exact join true _ _ hF sw
def anomaly_Usual (p0 : api_Trace) (p1 : ByteArray) : Option (Int × Int) :=
  ((trace_Check p0).bind fun r1 => (bif (!decide (r1 = 0)) then some (0, r1) else ((anomaly_usual p0 p1).bind fun r2 => (bif (!r2.2) then some (0, 5) else some (r2.1, 0)))))
theorem anomaly_Usual_fun (p0 : api_Trace) (p1 : ByteArray) (r : (Int × Int)) (hF : anomaly_Usual p0 p1 = some r) : Fun Tryz.prog 15 true [] [.agg (m_api_Trace p0), .c (jS p1)] noHeap (.tup [cI r.1, cI r.2]) noHeap := by
 refine Fun.of_walk0 Tryz.func15 c15 (by kernel_rfl) (rs := [.tmp 4, .tmp 5]) (by kernel_rfl) ?_; unfold v15
 unfold anomaly_Usual at hF
 refine wA rfl ?_; refine W_seq ?_; refine wC 1 rfl ?_; obtain ⟨r1, hr1, hF⟩ := bB hF
 refine rS (T_call (trace_Check_fun _ _ hr1) ⟨⟨rfl, rfl, rfl, rfl, rfl, rfl, rfl, rfl, rfl, rfl, trivial⟩, trivial⟩ rfl (.inl rfl) ?_); refine QV rfl ?_; refine wA rfl ?_; refine wIf hF rfl (fun _ hF => ?_) fun _ hF => ?_
 · refine wA rfl ?_; cases hF
   exact W_ret ⟨_, rfl, rfl, ⟨⟨rfl, fun _ => rfl⟩, ⟨rfl, fun _ => rfl⟩, trivial⟩, noOut _⟩
 refine W_skip ?_; refine wC 2 rfl ?_; obtain ⟨r2, hr2, hF⟩ := bB hF
 refine rS (T_call (anomaly_usual_fun _ _ _ hr2) ⟨⟨rfl, rfl, rfl, rfl, rfl, rfl, rfl, rfl, rfl, rfl, trivial⟩, rfl, trivial⟩ rfl (.inl rfl) ?_); refine QV rfl ?_; refine W_seq ?_; refine wA rfl ?_; refine wIf hF rfl (fun _ hF => ?_) fun _ hF => ?_
 · refine wA rfl ?_; cases hF
   exact W_ret ⟨_, rfl, rfl, ⟨⟨rfl, fun _ => rfl⟩, ⟨rfl, fun _ => rfl⟩, trivial⟩, noOut _⟩
 refine W_skip ?_; refine wA rfl ?_; cases hF
 exact W_ret ⟨_, rfl, rfl, ⟨⟨rfl, fun _ => rfl⟩, ⟨rfl, fun _ => rfl⟩, trivial⟩, noOut _⟩
def tracebooklaw54_awake  : Option Bool :=
  ((tracebooklaw54_calls 30 [10, 10, 40]).bind fun r1 => ((anomaly_Of r1 2 1).bind fun r2 => ((tracebooklaw54_calls 0 [10, 40]).bind fun r3 => ((anomaly_Of r3 2 1).bind fun r4 => ((tracebooklaw54_calls 0 [1, 2, 3]).bind fun r5 => ((anomaly_Usual r5 ⟨#[102]⟩).bind fun r6 => ((tracebooklaw54_calls 0 [1, 2, 3]).bind fun r7 => ((anomaly_Of r7 1 1).bind fun r8 => (((bif (decide (r2.2 = 0)) then (bif (decide ((List.length r2.1 : Int) = 1)) then ((idx r2.1 0).bind fun y12 => (bif (decide (y12.fSlice = 2)) then ((idx r2.1 0).bind fun y14 => (bif (decide (y14.fExcess = 30)) then ((idx r2.1 0).bind fun y16 => (bif (decide ((List.length y16.fParts : Int) = 1)) then ((idx r2.1 0).bind fun y18 => ((idx y18.fParts 0).bind fun y19 => (bif (decide (y19.fCause = ⟨#[97, 115, 108, 101, 101, 112]⟩)) then ((idx r2.1 0).bind fun y21 => ((idx y21.fParts 0).bind fun y22 => (bif (decide (y22.fValue.fN = 30)) then (bif (decide (r4.2 = 0)) then (bif (decide ((List.length r4.1 : Int) = 0)) then (bif (decide (r6.2 = 0)) then (bif (decide (r6.1 = 1)) then (bif (decide (r8.2 = 0)) then (bif (decide ((List.length r8.1 : Int) = 1)) then ((idx r8.1 0).bind fun y30 => some (decide (y30.fSlice = 2))) else some false) else some false) else some false) else some false) else some false) else some false) else some false))) else some false))) else some false)) else some false)) else some false)) else some false) else some false) : Option Bool).bind fun v9 => some v9)))))))))
theorem tracebooklaw54_awake_fun  (r : Bool) (hF : tracebooklaw54_awake  = some r) : Fun Tryz.prog 9 true [] [] noHeap (cB r) noHeap := by
 refine Fun.of_walk0 Tryz.func9 c9 (by kernel_rfl) (rs := [.tmp 0]) (by kernel_rfl) ?_; unfold v9
 unfold tracebooklaw54_awake at hF
 refine wA rfl ?_; refine wE ?_; refine rS (T_bsl (tc := t_i64) [10, 10, 40] rfl ⟨rfl, rfl, rfl, trivial⟩ rfl (fun _ => rfl) rfl ?_)
 obtain ⟨r1, hr1, hF⟩ := bB hF
 refine R_shift trivial (S_frz (10,0) rfl rfl S_refl) (X_callG [((902,720),(11,1)), ((902,721),(11,2)), ((902,722),(11,3))] rfl (callN _) (tracebooklaw54_calls_fun _ _ _ hr1) trivial ⟨.inl rfl, .inl rfl, trivial⟩ rfl rfl rfl ?_)
 obtain ⟨r2, hr2, hF⟩ := bB hF
 refine R_shift trivial (S_frz (11,1) rfl rfl (S_frz (11,2) rfl rfl (S_frz (11,3) rfl rfl S_refl))) (X_callG [((902,400),(12,1))] rfl (callN _) (anomaly_Of_fun _ _ _ _ hr2) trivial ⟨.inr ⟨rfl, rfl, rfl, rfl, rfl, rfl, rfl, rfl, rfl, rfl, trivial⟩, .inl rfl, .inl rfl, trivial⟩ rfl rfl rfl ?_)
 refine QV rfl ?_; refine wE ?_; refine rS (T_bsl (tc := t_i64) [10, 40] rfl ⟨rfl, rfl, trivial⟩ rfl (fun _ => rfl) rfl ?_)
 obtain ⟨r3, hr3, hF⟩ := bB hF
 refine R_shift trivial (S_frz (16,0) rfl rfl S_refl) (X_callG [((902,720),(17,1)), ((902,721),(17,2)), ((902,722),(17,3))] rfl (callN _) (tracebooklaw54_calls_fun _ _ _ hr3) trivial ⟨.inl rfl, .inl rfl, trivial⟩ rfl rfl rfl ?_)
 obtain ⟨r4, hr4, hF⟩ := bB hF
 refine R_shift trivial (S_frz (17,1) rfl rfl (S_frz (17,2) rfl rfl (S_frz (17,3) rfl rfl S_refl))) (X_callG [((902,400),(18,1))] rfl (callN _) (anomaly_Of_fun _ _ _ _ hr4) trivial ⟨.inr ⟨rfl, rfl, rfl, rfl, rfl, rfl, rfl, rfl, rfl, rfl, trivial⟩, .inl rfl, .inl rfl, trivial⟩ rfl rfl rfl ?_)
 refine QV rfl ?_; refine wE ?_; refine rS (T_bsl (tc := t_i64) [1, 2, 3] rfl ⟨rfl, rfl, rfl, trivial⟩ rfl (fun _ => rfl) rfl ?_)
 obtain ⟨r5, hr5, hF⟩ := bB hF
 refine R_shift trivial (S_frz (22,0) rfl rfl S_refl) (X_callG [((902,720),(23,1)), ((902,721),(23,2)), ((902,722),(23,3))] rfl (callN _) (tracebooklaw54_calls_fun _ _ _ hr5) trivial ⟨.inl rfl, .inl rfl, trivial⟩ rfl rfl rfl ?_)
 obtain ⟨r6, hr6, hF⟩ := bB hF
 refine rS (T_call (anomaly_Usual_fun _ _ _ hr6) ⟨⟨rfl, rfl, ⟨_, rfl⟩, ⟨_, rfl⟩, ⟨_, rfl⟩, rfl, rfl, rfl, rfl, rfl, trivial⟩, rfl, trivial⟩ rfl (.inl rfl) ?_); refine QV rfl ?_; refine wE ?_; refine rS (T_bsl (tc := t_i64) [1, 2, 3] rfl ⟨rfl, rfl, rfl, trivial⟩ rfl (fun _ => rfl) rfl ?_)
 obtain ⟨r7, hr7, hF⟩ := bB hF
 refine R_shift trivial (S_frz (28,0) rfl rfl S_refl) (X_callG [((902,720),(29,1)), ((902,721),(29,2)), ((902,722),(29,3))] rfl (callN _) (tracebooklaw54_calls_fun _ _ _ hr7) trivial ⟨.inl rfl, .inl rfl, trivial⟩ rfl rfl rfl ?_)
 obtain ⟨r8, hr8, hF⟩ := bB hF
 refine R_shift trivial (S_frz (29,1) rfl rfl (S_frz (29,2) rfl rfl (S_frz (29,3) rfl rfl S_refl))) (X_callG [((902,400),(30,1))] rfl (callN _) (anomaly_Of_fun _ _ _ _ hr8) trivial ⟨.inr ⟨rfl, rfl, rfl, rfl, rfl, rfl, rfl, rfl, rfl, rfl, trivial⟩, .inl rfl, .inl rfl, trivial⟩ rfl rfl rfl ?_)
 refine QV rfl ?_; refine W_seq ?_; refine W_join (fun _ _ h => h) hF (fun v9 => [(0, cB v9)]) (fun v9 => []) ?_ ?_
 · rintro v9 hF
   cases hF
   exact W_ret wR
 intro join hF
 refine wD 3 rfl ?_; cases h10 : (decide (r2.2 = 0))
 · have hF := bF' h10 hF; refine QV rfl ?_; exact join false _ _ hF sw
 have hF := bT' h10 hF; refine Q_run SV 1 rfl ?_; refine R_step SV rfl (T_len (tc := t_api_Outlier) r2.1 (.own _ _ rfl) ?_); refine Q_run SV 3 rfl ?_; cases h11 : (decide ((List.length r2.1 : Int) = 1))
 · have hF := bF' h11 hF; refine QV rfl ?_; exact join false _ _ hF sw
 have hF := bT' h11 hF; refine Q_run SV 1 rfl ?_; obtain ⟨y12, hy12, hF⟩ := bB' hF
 refine R_step SV rfl (T_ixO (tc := t_api_Outlier) r2.1 rfl rfl rfl hy12 ?_); refine Q_run SV 1 rfl ?_; refine R_step SV rfl (T_ldE (tc := t_api_Outlier) r2.1 rfl rfl (idx_get hy12).2.1 rfl ?_); refine Q_run SV 3 rfl ?_
 cases h13 : (decide (y12.fSlice = 2))
 · have hF := bF' h13 hF; refine QV rfl ?_; exact join false _ _ hF sw
 have hF := bT' h13 hF; refine Q_run SV 1 rfl ?_; obtain ⟨y14, hy14, hF⟩ := bB' hF
 refine R_step SV rfl (T_ixO (tc := t_api_Outlier) r2.1 rfl rfl rfl hy14 ?_); refine Q_run SV 1 rfl ?_; refine R_step SV rfl (T_ldE (tc := t_api_Outlier) r2.1 rfl rfl (idx_get hy14).2.1 rfl ?_); refine Q_run SV 3 rfl ?_
 cases h15 : (decide (y14.fExcess = 30))
 · have hF := bF' h15 hF; refine QV rfl ?_; exact join false _ _ hF sw
 have hF := bT' h15 hF; refine Q_run SV 1 rfl ?_; obtain ⟨y16, hy16, hF⟩ := bB' hF
 refine R_step SV rfl (T_ixO (tc := t_api_Outlier) r2.1 rfl rfl rfl hy16 ?_); refine Q_run SV 1 rfl ?_; refine R_step SV rfl (T_ldE (tc := t_api_Outlier) r2.1 rfl rfl (idx_get hy16).2.1 rfl ?_); refine R_step SV rfl (T_len (tc := t_api_Part) y16.fParts .tree ?_)
 refine Q_run SV 3 rfl ?_; cases h17 : (decide ((List.length y16.fParts : Int) = 1))
 · have hF := bF' h17 hF; refine QV rfl ?_; exact join false _ _ hF sw
 have hF := bT' h17 hF; refine Q_run SV 1 rfl ?_; obtain ⟨y18, hy18, hF⟩ := bB' hF
 refine R_step SV rfl (T_ixO (tc := t_api_Outlier) r2.1 rfl rfl rfl hy18 ?_); refine Q_run SV 1 rfl ?_; refine R_step SV rfl (T_ldE (tc := t_api_Outlier) r2.1 rfl rfl (idx_get hy18).2.1 rfl ?_); obtain ⟨y19, hy19, hF⟩ := bB' hF
 refine R_step SV rfl (T_ixT (tc := t_api_Part) y18.fParts rfl rfl hy19 ?_); refine Q_run SV 5 rfl ?_; cases h20 : (decide (y19.fCause = ⟨#[97, 115, 108, 101, 101, 112]⟩))
 · have hF := bF' h20 hF; refine QV rfl ?_; exact join false _ _ hF sw
 have hF := bT' h20 hF; refine Q_run SV 1 rfl ?_; obtain ⟨y21, hy21, hF⟩ := bB' hF
 refine R_step SV rfl (T_ixO (tc := t_api_Outlier) r2.1 rfl rfl rfl hy21 ?_); refine Q_run SV 1 rfl ?_; refine R_step SV rfl (T_ldE (tc := t_api_Outlier) r2.1 rfl rfl (idx_get hy21).2.1 rfl ?_); obtain ⟨y22, hy22, hF⟩ := bB' hF
 refine R_step SV rfl (T_ixT (tc := t_api_Part) y21.fParts rfl rfl hy22 ?_); refine Q_run SV 6 rfl ?_; cases h23 : (decide (y22.fValue.fN = 30))
 · have hF := bF' h23 hF; refine QV rfl ?_; exact join false _ _ hF sw
 have hF := bT' h23 hF; refine Q_run SV 4 rfl ?_; cases h24 : (decide (r4.2 = 0))
 · have hF := bF' h24 hF; refine QV rfl ?_; exact join false _ _ hF sw
 have hF := bT' h24 hF; refine Q_run SV 1 rfl ?_; refine R_step SV rfl (T_len (tc := t_api_Outlier) r4.1 (.own _ _ rfl) ?_); refine Q_run SV 3 rfl ?_; cases h25 : (decide ((List.length r4.1 : Int) = 0))
 · have hF := bF' h25 hF; refine QV rfl ?_; exact join false _ _ hF sw
 have hF := bT' h25 hF; refine Q_run SV 4 rfl ?_; cases h26 : (decide (r6.2 = 0))
 · have hF := bF' h26 hF; refine QV rfl ?_; exact join false _ _ hF sw
 have hF := bT' h26 hF; refine Q_run SV 4 rfl ?_; cases h27 : (decide (r6.1 = 1))
 · have hF := bF' h27 hF; refine QV rfl ?_; exact join false _ _ hF sw
 have hF := bT' h27 hF; refine Q_run SV 4 rfl ?_; cases h28 : (decide (r8.2 = 0))
 · have hF := bF' h28 hF; refine QV rfl ?_; exact join false _ _ hF sw
 have hF := bT' h28 hF; refine Q_run SV 1 rfl ?_; refine R_step SV rfl (T_len (tc := t_api_Outlier) r8.1 (.own _ _ rfl) ?_); refine Q_run SV 3 rfl ?_; cases h29 : (decide ((List.length r8.1 : Int) = 1))
 · have hF := bF' h29 hF; refine QV rfl ?_; exact join false _ _ hF sw
 have hF := bT' h29 hF; refine Q_run SV 1 rfl ?_; obtain ⟨y30, hy30, hF⟩ := bB' hF
 refine R_step SV rfl (T_ixO (tc := t_api_Outlier) r8.1 rfl rfl rfl hy30 ?_); refine Q_run SV 1 rfl ?_; refine R_step SV rfl (T_ldE (tc := t_api_Outlier) r8.1 rfl rfl (idx_get hy30).2.1 rfl ?_); refine QV rfl ?_
 exact join (decide (y30.fSlice = 2)) _ _ hF sw
def anomaly_Times (p0 : api_Trace) (p1 : Int) : Option ((List Int) × Int) :=
  ((trace_Check p0).bind fun r1 => (bif (!decide (r1 = 0)) then some ([], r1) else (((bif (decide (p1 < 0)) then some true else some (decide ((List.length p0.fSlices : Int) ≤ p1))) : Option Bool).bind fun v2 => (bif v2 then some ([], 5) else ((idx p0.fSlices p1).bind fun y3 => ((anomaly_times_k2 p0 y3).bind fun r4 => some (r4, 0)))))))
theorem anomaly_Times_fun (p0 : api_Trace) (p1 : Int) (r : ((List Int) × Int)) (hF : anomaly_Times p0 p1 = some r) : Fun Tryz.prog 13 false [] [.agg (m_api_Trace p0), cI p1] noHeap (.tup [cL 1 t_i64 r.1, cI r.2]) noHeap := by
 refine Fun.of_walk0 Tryz.func13 c13 (by kernel_rfl) (rs := [.tmp 4, .tmp 5]) (by kernel_rfl) ?_; unfold v13
 unfold anomaly_Times at hF
 refine wA rfl ?_; refine W_seq ?_; refine wC 1 rfl ?_; obtain ⟨r1, hr1, hF⟩ := bB hF
 refine rS (T_call (trace_Check_fun _ _ hr1) ⟨⟨rfl, rfl, rfl, rfl, rfl, rfl, rfl, rfl, rfl, rfl, trivial⟩, trivial⟩ rfl (.inl rfl) ?_); refine QV rfl ?_; refine wA rfl ?_; refine wIf hF rfl (fun _ hF => ?_) fun _ hF => ?_
 · refine wA rfl ?_; cases hF
   exact W_ret ⟨_, rfl, rfl, ⟨rfl, ⟨rfl, fun _ => rfl⟩, trivial⟩, noOut _⟩
 refine W_skip ?_; refine W_seq ?_; refine W_seq ?_; refine W_join (fun _ _ h => h) hF (fun v2 => [(1, cI p1), (2, cP (2,0) 0), (20, cB v2)]) (fun v2 => [((2,0), .box (m_api_Trace p0))]) ?_ ?_
 · rintro v2 hF
   refine wIf hF rfl (fun _ hF => ?_) fun _ hF => ?_
   · refine wA rfl ?_; cases hF
     exact W_ret ⟨_, rfl, rfl, ⟨rfl, ⟨rfl, fun _ => rfl⟩, trivial⟩, noOut _⟩
   refine W_skip ?_; refine W_seq ?_; refine W_regD (by decide) (by kernel_rfl) rfl ?_; refine Q_run SP 4 rfl ?_; obtain ⟨y3, hy3, hF⟩ := bB hF
   refine R_step SP trivial (T_ixT (tc := t_api_Slice) p0.fSlices rfl rfl hy3 ?_); refine Q_run SP 1 rfl ?_; obtain ⟨r4, hr4, hF⟩ := bB hF
   refine R_step SP trivial (T_call (anomaly_times_k2_fun _ _ _ hr4) ⟨⟨rfl, rfl, rfl, rfl, rfl, rfl, rfl, rfl, rfl, rfl, trivial⟩, ⟨rfl, rfl, rfl, rfl, rfl, rfl, rfl, rfl, trivial⟩, trivial⟩ rfl (.inl rfl) ?_)
   refine QP rfl ?_; cases hF
   exact W_ret ⟨_, rfl, rfl, ⟨⟨rfl, fun h => (by cases h)⟩, ⟨rfl, fun _ => rfl⟩, trivial⟩, noOut _⟩
 intro join hF
 refine wD 3 rfl ?_; cases h6 : (decide (p1 < 0))
 · have hF := bF' h6 hF; refine Q_run SV 3 rfl ?_; refine R_step SV rfl (T_len (tc := t_api_Slice) p0.fSlices .tree ?_); refine QV rfl ?_; exact join (decide ((List.length p0.fSlices : Int) ≤ p1)) _ _ hF sw
 have hF := bT' h6 hF; refine QV rfl ?_; exact join true _ _ hF sw
def tracebookref06_letter_L1 (p0 : Int) : Int → Option (Int ⊕ (Unit ⊕ Bool)) := fun a11 =>
  (bif (decide (a11 < (ByteArray.size ⟨#[95, 46, 58, 47, 60, 62, 36, 42, 126, 45]⟩ : Int))) then ((idx (ByteArray.data ⟨#[95, 46, 58, 47, 60, 62, 36, 42, 126, 45]⟩).toList a11).bind fun y15 => (bif (decide ((UInt8.toNat y15 : Int) = p0)) then some (.inr (.inr true)) else some (.inl (w64 (a11 + 1))))) else some (.inr (.inl ())))
def tracebookref06_letter (p0 : Int) : Option Bool :=
  (((bif (decide (97 ≤ p0)) then (bif (decide (p0 ≤ 122)) then some true else (bif (decide (65 ≤ p0)) then (bif (decide (p0 ≤ 90)) then some true else (bif (decide (48 ≤ p0)) then some (decide (p0 ≤ 57)) else some false)) else (bif (decide (48 ≤ p0)) then some (decide (p0 ≤ 57)) else some false))) else (bif (decide (65 ≤ p0)) then (bif (decide (p0 ≤ 90)) then some true else (bif (decide (48 ≤ p0)) then some (decide (p0 ≤ 57)) else some false)) else (bif (decide (48 ≤ p0)) then some (decide (p0 ≤ 57)) else some false))) : Option Bool).bind fun v1 => (bif v1 then some true else ((loop (tracebookref06_letter_L1 p0) 0).bind fun | .inl _ => some false | .inr rv => some rv)))
theorem tracebookref06_letter_fun (p0 : Int) (r : Bool) (hF : tracebookref06_letter p0 = some r) : Fun Tryz.prog 138 true [] [.c (.imm (.sc (.int .u8 p0)))] noHeap (cB r) noHeap := by
 refine Fun.of_walk0 Tryz.func138 c138 (by kernel_rfl) (rs := [.tmp 2]) (by kernel_rfl) ?_; unfold v138
 unfold tracebookref06_letter at hF
 refine wA rfl ?_; refine W_seq ?_; refine W_seq ?_; refine W_join (fun _ _ h => h) hF (fun v1 => [(0, .c (.imm (.sc (.int .u8 p0)))), (26, cB v1)]) (fun v1 => []) ?_ ?_
 · rintro v1 hF
   refine wIf hF rfl (fun _ hF => ?_) fun _ hF => ?_
   · refine wA rfl ?_; cases hF
     exact W_ret wR
   refine W_skip ?_; refine wA rfl ?_; refine W_seq ?_; refine wA rfl ?_; refine W_for (fun _ _ h => h) hF (.inl) (fun a11 => [(0, .c (.imm (.sc (.int .u8 p0)))), (3, .c (jS ⟨#[95, 46, 58, 47, 60, 62, 36, 42, 126, 45]⟩)), (4, cI a11)]) (fun a11 => []) (fun _ => []) (fun _ => []) sw ?_ ?_
   · rintro ⟨⟩ hF
     refine wA rfl ?_; cases hF
     exact W_ret wR
   rintro a11 x_0 hF cont_0 brk_0 fin_0
   unfold tracebookref06_letter_L1 at hF
   refine W_seq ?_; refine wA rfl ?_; refine wIf hF rfl (fun _ hF => ?_) fun _ hF => ?_
   · refine W_skip ?_; refine W_seq ?_; refine W_block ?_; refine wC 2 rfl ?_; obtain ⟨y15, hy15, hF⟩ := bB hF
     refine rS (T_ixS ⟨#[95, 46, 58, 47, 60, 62, 36, 42, 126, 45]⟩ rfl rfl hy15 ?_); refine QV rfl ?_; refine wIf hF rfl (fun _ hF => ?_) fun _ hF => ?_
     · refine wA rfl ?_; have hF := fin_0 _ (oi hF); cases hF
       exact W_ret wR
     refine W_skip ?_; refine wB rfl ?_; exact cont_0 _ _ _ (oi hF) sw
   refine W_exit ?_; refine thenQ_exit ?_; refine thenQ_exit ?_; refine blockQ_hit ?_; exact brk_0 _ _ _ (oi hF) sw
 intro join hF
 refine wD 3 rfl ?_; cases h19 : (decide (97 ≤ p0))
 · have hF := bF' h19 hF; refine Q_run SV 7 rfl ?_; cases h20 : (decide (65 ≤ p0))
   · have hF := bF' h20 hF; refine Q_run SV 8 rfl ?_; cases h21 : (decide (48 ≤ p0))
     · have hF := bF' h21 hF; refine QV rfl ?_; exact join false _ _ hF sw
     have hF := bT' h21 hF; refine QV rfl ?_; exact join (decide (p0 ≤ 57)) _ _ hF sw
   have hF := bT' h20 hF; refine Q_run SV 5 rfl ?_; cases h22 : (decide (p0 ≤ 90))
   · have hF := bF' h22 hF; refine Q_run SV 3 rfl ?_; cases h23 : (decide (48 ≤ p0))
     · have hF := bF' h23 hF; refine QV rfl ?_; exact join false _ _ hF sw
     have hF := bT' h23 hF; refine QV rfl ?_; exact join (decide (p0 ≤ 57)) _ _ hF sw
   have hF := bT' h22 hF; refine QV rfl ?_; exact join true _ _ hF sw
 have hF := bT' h19 hF; refine Q_run SV 4 rfl ?_; cases h24 : (decide (p0 ≤ 122))
 · have hF := bF' h24 hF; refine Q_run SV 3 rfl ?_; cases h25 : (decide (65 ≤ p0))
   · have hF := bF' h25 hF; refine Q_run SV 8 rfl ?_; cases h26 : (decide (48 ≤ p0))
     · have hF := bF' h26 hF; refine QV rfl ?_; exact join false _ _ hF sw
     have hF := bT' h26 hF; refine QV rfl ?_; exact join (decide (p0 ≤ 57)) _ _ hF sw
   have hF := bT' h25 hF; refine Q_run SV 5 rfl ?_; cases h27 : (decide (p0 ≤ 90))
   · have hF := bF' h27 hF; refine Q_run SV 3 rfl ?_; cases h28 : (decide (48 ≤ p0))
     · have hF := bF' h28 hF; refine QV rfl ?_; exact join false _ _ hF sw
     have hF := bT' h28 hF; refine QV rfl ?_; exact join (decide (p0 ≤ 57)) _ _ hF sw
   have hF := bT' h27 hF; refine QV rfl ?_; exact join true _ _ hF sw
 have hF := bT' h24 hF; refine QV rfl ?_; exact join true _ _ hF sw
def tracebookref06_Name_L1 (p0 : ByteArray) : Int → Option (Int ⊕ (Unit ⊕ Int)) := fun a13 =>
  (bif (decide (a13 < (ByteArray.size p0 : Int))) then ((idx (ByteArray.data p0).toList a13).bind fun y18 => ((tracebookref06_letter (UInt8.toNat y18 : Int)).bind fun r19 => (bif (!r19) then some (.inr (.inr 3)) else some (.inl (w64 (a13 + 1)))))) else some (.inr (.inl ())))
def tracebookref06_Name (p0 : ByteArray) : Option Int :=
  (((bif (decide ((ByteArray.size p0 : Int) < 1)) then some true else some (decide (40 < (ByteArray.size p0 : Int)))) : Option Bool).bind fun v1 => (bif v1 then some 3 else ((loop (tracebookref06_Name_L1 p0) 0).bind fun | .inl _ => some 0 | .inr rv => some rv)))
theorem tracebookref06_Name_fun (p0 : ByteArray) (r : Int) (hF : tracebookref06_Name p0 = some r) : Fun Tryz.prog 119 true [] [.c (jS p0)] noHeap (cI r) noHeap := by
 refine Fun.of_walk0 Tryz.func119 c119 (by kernel_rfl) (rs := [.tmp 2]) (by kernel_rfl) ?_; unfold v119
 unfold tracebookref06_Name at hF
 refine wA rfl ?_; refine W_seq ?_; refine W_seq ?_; refine W_join (fun _ _ h => h) hF (fun v1 => [(0, .c (jS p0)), (11, cB v1)]) (fun v1 => []) ?_ ?_
 · rintro v1 hF
   refine wIf hF rfl (fun _ hF => ?_) fun _ hF => ?_
   · refine wA rfl ?_; cases hF
     exact W_ret wR
   refine W_skip ?_; refine W_seq ?_; refine wA rfl ?_; refine W_for (fun _ _ h => h) hF (.inl) (fun a13 => [(0, .c (jS p0)), (3, cI a13)]) (fun a13 => []) (fun _ => []) (fun _ => []) sw ?_ ?_
   · rintro ⟨⟩ hF
     refine wA rfl ?_; cases hF
     exact W_ret wR
   rintro a13 x_0 hF cont_0 brk_0 fin_0
   unfold tracebookref06_Name_L1 at hF
   refine W_seq ?_; refine wA rfl ?_; refine wIf hF rfl (fun _ hF => ?_) fun _ hF => ?_
   · refine W_skip ?_; refine W_seq ?_; refine W_block ?_; refine wC 2 rfl ?_; obtain ⟨y18, hy18, hF⟩ := bB hF
     refine rS (T_ixS p0 rfl rfl hy18 ?_); obtain ⟨r19, hr19, hF⟩ := bB hF
     refine rS (T_call (tracebookref06_letter_fun _ _ hr19) ⟨rfl, trivial⟩ rfl (.inl rfl) ?_); refine QV rfl ?_; refine wIf hF rfl (fun _ hF => ?_) fun _ hF => ?_
     · refine wA rfl ?_; have hF := fin_0 _ (oi hF); cases hF
       exact W_ret wR
     refine W_skip ?_; refine wB rfl ?_; exact cont_0 _ _ _ (oi hF) sw
   refine W_exit ?_; refine thenQ_exit ?_; refine thenQ_exit ?_; refine blockQ_hit ?_; exact brk_0 _ _ _ (oi hF) sw
 intro join hF
 refine wD 4 rfl ?_; cases h23 : (decide ((ByteArray.size p0 : Int) < 1))
 · have hF := bF' h23 hF; refine QV rfl ?_; exact join (decide (40 < (ByteArray.size p0 : Int))) _ _ hF sw
 have hF := bT' h23 hF; refine QV rfl ?_; exact join true _ _ hF sw
def tracebookref10_Thread (p0 : api_Thread) : Option Int :=
  (((bif (decide (p0.fId < 0)) then some true else (bif (decide (1000000000000000 < p0.fId)) then some true else (bif (decide (p0.fDomain < 0)) then some true else some (decide (8 ≤ p0.fDomain))))) : Option Bool).bind fun v1 => (bif v1 then some 2 else ((tracebookref06_Name p0.fName).bind fun r2 => some r2)))
theorem tracebookref10_Thread_fun (p0 : api_Thread) (r : Int) (hF : tracebookref10_Thread p0 = some r) : Fun Tryz.prog 84 true [] [.agg (m_api_Thread p0)] noHeap (cI r) noHeap := by
 refine Fun.of_walk0 Tryz.func84 c84 (by kernel_rfl) (rs := [.tmp 2]) (by kernel_rfl) ?_; unfold v84
 unfold tracebookref10_Thread at hF
 refine wA rfl ?_; refine W_seq ?_; refine W_seq ?_; refine W_join (fun _ _ h => h) hF (fun v1 => [(1, cP (1,0) 0), (20, cB v1)]) (fun v1 => [((1,0), .box (m_api_Thread p0))]) ?_ ?_
 · rintro v1 hF
   refine wIf hF rfl (fun _ hF => ?_) fun _ hF => ?_
   · refine wA rfl ?_; cases hF
     exact W_ret wR
   refine W_skip ?_; refine wC 2 rfl ?_; obtain ⟨r2, hr2, hF⟩ := bB hF
   refine rS (T_call (tracebookref06_Name_fun _ _ hr2) ⟨rfl, trivial⟩ rfl (.inl rfl) ?_); refine QV rfl ?_; cases hF
   exact W_ret wR
 intro join hF
 refine wD 4 rfl ?_; cases h4 : (decide (p0.fId < 0))
 · have hF := bF' h4 hF; refine Q_run SV 5 rfl ?_; cases h5 : (decide (1000000000000000 < p0.fId))
   · have hF := bF' h5 hF; refine Q_run SV 5 rfl ?_; cases h6 : (decide (p0.fDomain < 0))
     · have hF := bF' h6 hF; refine QV rfl ?_; exact join (decide (8 ≤ p0.fDomain)) _ _ hF sw
     have hF := bT' h6 hF; refine QV rfl ?_; exact join true _ _ hF sw
   have hF := bT' h5 hF; refine QV rfl ?_; exact join true _ _ hF sw
 have hF := bT' h4 hF; refine QV rfl ?_; exact join true _ _ hF sw
def tracebookref04_Valid (p0 : api_Span) : Option Bool :=
  (((bif (decide (0 ≤ p0.fFrom)) then (bif (decide (p0.fFrom < p0.fTo)) then some (decide (p0.fTo ≤ 1000000000000)) else some false) else some false) : Option Bool).bind fun v1 => some v1)
theorem tracebookref04_Valid_fun (p0 : api_Span) (r : Bool) (hF : tracebookref04_Valid p0 = some r) : Fun Tryz.prog 86 true [] [.agg [jI p0.fFrom, jI p0.fTo]] noHeap (cB r) noHeap := by
 refine Fun.of_walk0 Tryz.func86 c86 (by kernel_rfl) (rs := [.tmp 2]) (by kernel_rfl) ?_; unfold v86
 unfold tracebookref04_Valid at hF
 refine wA rfl ?_; refine W_seq ?_; refine W_join (fun _ _ h => h) hF (fun v1 => [(2, cB v1)]) (fun v1 => []) ?_ ?_
 · rintro v1 hF
   cases hF
   exact W_ret wR
 intro join hF
 refine wD 4 rfl ?_; cases h2 : (decide (0 ≤ p0.fFrom))
 · have hF := bF' h2 hF; refine QV rfl ?_; exact join false _ _ hF sw
 have hF := bT' h2 hF; refine Q_run SV 7 rfl ?_; cases h3 : (decide (p0.fFrom < p0.fTo))
 · have hF := bF' h3 hF; refine QV rfl ?_; exact join false _ _ hF sw
 have hF := bT' h3 hF; refine QV rfl ?_; exact join (decide (p0.fTo ≤ 1000000000000)) _ _ hF sw
def tracebookref26_Precedes (p0 : api_Slice) (p1 : api_Slice) : Option Bool :=
  (bif (!decide (p0.fSpan.fFrom = p1.fSpan.fFrom)) then some (decide (p0.fSpan.fFrom < p1.fSpan.fFrom)) else (bif (!decide (p0.fSpan.fTo = p1.fSpan.fTo)) then some (decide (p1.fSpan.fTo < p0.fSpan.fTo)) else some (decide (p0.fThread < p1.fThread))))
theorem tracebookref26_Precedes_fun (p0 : api_Slice) (p1 : api_Slice) (r : Bool) (hF : tracebookref26_Precedes p0 p1 = some r) : Fun Tryz.prog 139 true [] [.agg (m_api_Slice p0), .agg (m_api_Slice p1)] noHeap (cB r) noHeap := by
 refine Fun.of_walk0 Tryz.func139 c139 (by kernel_rfl) (rs := [.tmp 4]) (by kernel_rfl) ?_; unfold v139
 unfold tracebookref26_Precedes at hF
 refine wA rfl ?_; refine W_seq ?_; refine W_block ?_; refine wA rfl ?_; refine wIf hF rfl (fun _ hF => ?_) fun _ hF => ?_
 · refine wA rfl ?_; cases hF
   exact W_ret wR
 refine wA rfl ?_; refine wIf hF rfl (fun _ hF => ?_) fun _ hF => ?_
 · refine wA rfl ?_; cases hF
   exact W_ret wR
 refine W_skip ?_; refine wA rfl ?_; cases hF
 exact W_ret wR
def tracebookref26_contains (p0 : api_Span) (p1 : api_Span) : Option Bool :=
  (((bif (decide (p0.fFrom ≤ p1.fFrom)) then some (decide (p1.fTo ≤ p0.fTo)) else some false) : Option Bool).bind fun v1 => some v1)
theorem tracebookref26_contains_fun (p0 : api_Span) (p1 : api_Span) (r : Bool) (hF : tracebookref26_contains p0 p1 = some r) : Fun Tryz.prog 162 true [] [.agg [jI p0.fFrom, jI p0.fTo], .agg [jI p1.fFrom, jI p1.fTo]] noHeap (cB r) noHeap := by
 refine Fun.of_walk0 Tryz.func162 c162 (by kernel_rfl) (rs := [.tmp 4]) (by kernel_rfl) ?_; unfold v162
 unfold tracebookref26_contains at hF
 refine wA rfl ?_; refine W_seq ?_; refine W_join (fun _ _ h => h) hF (fun v1 => [(4, cB v1)]) (fun v1 => []) ?_ ?_
 · rintro v1 hF
   cases hF
   exact W_ret wR
 intro join hF
 refine wD 6 rfl ?_; cases h2 : (decide (p0.fFrom ≤ p1.fFrom))
 · have hF := bF' h2 hF; refine QV rfl ?_; exact join false _ _ hF sw
 have hF := bT' h2 hF; refine QV rfl ?_; exact join (decide (p1.fTo ≤ p0.fTo)) _ _ hF sw
def tracebookref26_above_L1 (p0 : (List api_Slice)) (p1 : Int) : Int → Option (Int ⊕ Int) := fun a12 =>
  (((bif (decide (0 ≤ a12)) then some (decide (p1 < a12)) else some false) : Option Bool).bind fun v18 => (bif v18 then ((idx p0 a12).bind fun y19 => some (.inl y19.fParent)) else some (.inr a12)))
def tracebookref26_above (p0 : (List api_Slice)) (p1 : Int) (p2 : Int) : Option Bool :=
  ((loop (tracebookref26_above_L1 p0 p1) p2).bind fun e17 => some (decide (p1 = e17)))
theorem tracebookref26_above_fun (p0 : (List api_Slice)) (p1 : Int) (p2 : Int) (r : Bool) (hF : tracebookref26_above p0 p1 p2 = some r) : Fun Tryz.prog 163 true [] [cL 8 t_api_Slice p0, cI p1, cI p2] noHeap (cB r) noHeap := by
 refine Fun.of_walk0 Tryz.func163 c163 (by kernel_rfl) (rs := [.tmp 6]) (by kernel_rfl) ?_; unfold v163
 unfold tracebookref26_above at hF
 refine wA rfl ?_; refine W_seq ?_; refine W_for (fun _ _ h => h) hF (id) (fun a12 => [(0, cL 8 t_api_Slice p0), (1, cI p1), (2, cI a12)]) (fun a12 => []) (fun e17 => [(1, cI p1), (2, cI e17)]) (fun e17 => []) sw ?_ ?_
 · rintro e17 hF
   refine wA rfl ?_; cases hF
   exact W_ret wR
 rintro a12 x_0 hF cont_0 brk_0 fin_0
 unfold tracebookref26_above_L1 at hF
 refine W_seq ?_; refine W_seq ?_; refine W_join (fun _ _ h => h) hF (fun v18 => [(0, cL 8 t_api_Slice p0), (1, cI p1), (2, cI a12), (13, cB v18)]) (fun v18 => []) ?_ ?_
 · rintro v18 hF
   refine wIf hF rfl (fun _ hF => ?_) fun _ hF => ?_
   · refine W_skip ?_; refine W_block ?_; refine wD 2 rfl ?_; obtain ⟨y19, hy19, hF⟩ := bB hF
     refine rS (T_ixT (tc := t_api_Slice) p0 rfl rfl hy19 ?_); refine QV rfl ?_; exact cont_0 _ _ _ (oi hF) sw
   refine W_exit ?_; refine thenQ_exit ?_; refine thenQ_exit ?_; refine blockQ_hit ?_; exact brk_0 _ _ _ (oi hF) sw
 intro join hF
 refine wD 3 rfl ?_; cases h21 : (decide (0 ≤ a12))
 · have hF := bF' h21 hF; refine QV rfl ?_; exact join false _ _ hF sw
 have hF := bT' h21 hF; refine QV rfl ?_; exact join (decide (p1 < a12)) _ _ hF sw
def tracebookref26_formed_L1 (p0 : (List api_Slice)) (a259 : Int) : (Int × Int) → Option ((Int × Int) ⊕ (Int ⊕ (Int ⊕ (Unit ⊕ Bool)))) := fun (a402, a403) =>
  (bif (decide (a403 < (List.length p0 : Int))) then ((idx p0 a403).bind fun y427 => (((bif (decide (y427.fParent = a259)) then ((idx p0 a403).bind fun y443 => ((idx p0 a403).bind fun y444 => some (w64 (a402 - (w64 (y443.fSpan.fTo - y444.fSpan.fFrom)))))) else some a402) : Option Int).bind fun v428 => ((((idx p0 a259).bind fun y438 => ((idx p0 a403).bind fun y439 => (bif (decide (y438.fSpan.fFrom < y439.fSpan.fTo)) then ((idx p0 a403).bind fun y441 => ((idx p0 a259).bind fun y442 => some (decide (y441.fSpan.fFrom < y442.fSpan.fTo)))) else some false))) : Option Bool).bind fun v429 => (((bif (decide (a259 < a403)) then ((idx p0 a259).bind fun y433 => ((idx p0 a403).bind fun y434 => (bif (decide (y433.fThread = y434.fThread)) then (bif v429 then ((tracebookref26_above p0 a259 a403).bind fun r437 => some (!r437)) else some false) else some false))) else some false) : Option Bool).bind fun v430 => (bif v430 then some (.inr (.inr (.inr (.inr false)))) else some (.inl (v428, (w64 (a403 + 1))))))))) else some (.inr (.inl a402)))
def tracebookref26_formed_L2 (p0 : (List api_Slice)) : Int → Option (Int ⊕ (Unit ⊕ Bool)) := fun a259 =>
  (bif (decide (a259 < (List.length p0 : Int))) then ((idx p0 a259).bind fun y354 => ((idx p0 a259).bind fun y355 => ((loop (tracebookref26_formed_L1 p0 a259) ((w64 (y354.fSpan.fTo - y355.fSpan.fFrom)), 0)).bind fun | .inl e424 => ((idx p0 a259).bind fun y425 => (bif (!decide (y425.fSelf = e424)) then some (.inr (.inr false)) else some (.inl (w64 (a259 + 1))))) | .inr rv => some rv))) else some (.inr (.inl ())))
def tracebookref26_formed_L3 (p0 : (List api_Slice)) : Int → Option (Int ⊕ (Unit ⊕ Bool)) := fun a46 =>
  (bif (decide (a46 < (List.length p0 : Int))) then ((idx p0 a46).bind fun y448 => (((bif (decide (y448.fParent < (-1))) then some true else some (decide (a46 ≤ y448.fParent))) : Option Bool).bind fun v449 => (bif v449 then some (.inr (.inr false)) else (((bif (decide (y448.fParent = (-1))) then ((idx p0 a46).bind fun y465 => some (!decide (y465.fDepth = 0))) else some false) : Option Bool).bind fun v450 => (bif v450 then some (.inr (.inr false)) else (((bif (decide (0 ≤ y448.fParent)) then ((idx p0 y448.fParent).bind fun y454 => ((idx p0 a46).bind fun y455 => (bif (!decide (y454.fThread = y455.fThread)) then some true else ((idx p0 y448.fParent).bind fun y457 => ((idx p0 a46).bind fun y458 => ((tracebookref26_contains y457.fSpan y458.fSpan).bind fun r459 => (bif (!r459) then some true else ((idx p0 a46).bind fun y461 => ((idx p0 y448.fParent).bind fun y462 => some (!decide (y461.fDepth = (w64 (y462.fDepth + 1))))))))))))) else some false) : Option Bool).bind fun v451 => (bif v451 then some (.inr (.inr false)) else some (.inl (w64 (a46 + 1)))))))))) else some (.inr (.inl ())))
def tracebookref26_formed (p0 : (List api_Slice)) : Option Bool :=
  ((loop (tracebookref26_formed_L3 p0) 0).bind fun | .inl _ => ((loop (tracebookref26_formed_L2 p0) 0).bind fun | .inl _ => some true | .inr rv => some rv) | .inr rv => some rv)
theorem tracebookref26_formed_fun (p0 : (List api_Slice)) (r : Bool) (hF : tracebookref26_formed p0 = some r) : Fun Tryz.prog 140 true [] [cL 8 t_api_Slice p0] noHeap (cB r) noHeap := by
 refine Fun.of_walk0 Tryz.func140 c140 (by kernel_rfl) (rs := [.tmp 2]) (by kernel_rfl) ?_; unfold v140
 unfold tracebookref26_formed at hF
 refine wA rfl ?_; refine W_seq ?_; refine wA rfl ?_; refine W_for (fun _ _ h => h) hF (.inl) (fun a46 => [(0, cL 8 t_api_Slice p0), (3, cI a46)]) (fun a46 => []) (fun _ => [(0, cL 8 t_api_Slice p0)]) (fun _ => []) sw ?_ ?_
 · rintro ⟨⟩ hF
   refine W_seq ?_; refine wA rfl ?_; refine W_for (fun _ _ h => h) hF (.inl) (fun a259 => [(0, cL 8 t_api_Slice p0), (5, cI a259)]) (fun a259 => []) (fun _ => []) (fun _ => []) sw ?_ ?_
   · rintro ⟨⟩ hF
     refine wA rfl ?_; cases hF
     exact W_ret wR
   rintro a259 x_0 hF cont_0 brk_0 fin_0
   unfold tracebookref26_formed_L2 at hF
   refine W_seq ?_; refine wC 2 rfl ?_; refine rS (T_len (tc := t_api_Slice) p0 .tree ?_); refine QV rfl ?_; refine wIf hF rfl (fun _ hF => ?_) fun _ hF => ?_
   · refine W_skip ?_; refine W_seq ?_; refine W_block ?_; refine W_seq ?_; refine W_regD (by decide) (by kernel_rfl) rfl ?_; refine Q_run SP 2 rfl ?_; obtain ⟨y354, hy354, hF⟩ := bB hF
     refine R_step SP trivial (T_ixT (tc := t_api_Slice) p0 rfl rfl hy354 ?_); refine Q_run SP 5 rfl ?_; obtain ⟨y355, hy355, hF⟩ := bB hF
     refine R_step SP trivial (T_ixT (tc := t_api_Slice) p0 rfl rfl hy355 ?_); refine QP rfl ?_; refine W_seq ?_; refine wA rfl ?_; refine W_for (fun _ _ h => h) hF (.inl) (fun (a402, a403) => [(0, cL 8 t_api_Slice p0), (5, cI a259), (6, cI a402), (7, cI a403)]) (fun (a402, a403) => []) (fun e424 => [(0, cL 8 t_api_Slice p0), (5, cI a259), (6, cI e424)]) (fun e424 => []) sw ?_ ?_
     · rintro e424 hF
       refine wC 2 rfl ?_; obtain ⟨y425, hy425, hF⟩ := bB hF
       refine rS (T_ixT (tc := t_api_Slice) p0 rfl rfl hy425 ?_); refine QV rfl ?_; refine wIf hF rfl (fun _ hF => ?_) fun _ hF => ?_
       · refine wA rfl ?_; have hF := fin_0 _ (oi hF); cases hF
         exact W_ret wR
       refine W_skip ?_; refine wB rfl ?_; exact cont_0 _ _ _ (oi hF) sw
     rintro ⟨a402, a403⟩ x_1 hF cont_1 brk_1 fin_1
     unfold tracebookref26_formed_L1 at hF
     refine W_seq ?_; refine wC 2 rfl ?_; refine rS (T_len (tc := t_api_Slice) p0 .tree ?_); refine QV rfl ?_; refine wIf hF rfl (fun _ hF => ?_) fun _ hF => ?_
     · refine W_skip ?_; refine W_seq ?_; refine W_block ?_; refine W_seq ?_; refine wC 2 rfl ?_; obtain ⟨y427, hy427, hF⟩ := bB hF
       refine rS (T_ixT (tc := t_api_Slice) p0 rfl rfl hy427 ?_); refine QV rfl ?_; refine W_join (fun _ _ h => h) hF (fun v428 => [(0, cL 8 t_api_Slice p0), (5, cI a259), (6, cI v428), (7, cI a403)]) (fun v428 => []) ?_ ?_
       · rintro v428 hF
         refine W_seq ?_; refine W_join (fun _ _ h => h) hF (fun v429 => [(0, cL 8 t_api_Slice p0), (5, cI a259), (6, cI v428), (7, cI a403), (8, cB v429)]) (fun v429 => []) ?_ ?_
         · rintro v429 hF
           refine W_seq ?_; refine W_join (fun _ _ h => h) hF (fun v430 => [(0, cL 8 t_api_Slice p0), (5, cI a259), (6, cI v428), (7, cI a403), (180, cB v430)]) (fun v430 => []) ?_ ?_
           · rintro v430 hF
             refine wIf hF rfl (fun _ hF => ?_) fun _ hF => ?_
             · refine wA rfl ?_; have hF := fin_1 _ (oi hF); have hF := fin_0 _ (oi hF); cases hF
               exact W_ret wR
             refine W_skip ?_; refine wB rfl ?_; exact cont_1 _ _ _ (oi hF) sw
           intro join hF
           refine W_regD (by decide) (by kernel_rfl) rfl ?_; refine Q_run SP 4 rfl ?_; cases h432 : (decide (a259 < a403))
           · have hF := bF' h432 hF; refine QP rfl ?_; exact join false _ _ hF sw
           have hF := bT' h432 hF; refine Q_run SP 2 rfl ?_; obtain ⟨y433, hy433, hF⟩ := bB' hF
           refine R_step SP rfl (T_ixT (tc := t_api_Slice) p0 rfl rfl hy433 ?_); refine Q_run SP 4 rfl ?_; obtain ⟨y434, hy434, hF⟩ := bB' hF
           refine R_step SP rfl (T_ixT (tc := t_api_Slice) p0 rfl rfl hy434 ?_); refine Q_run SP 5 rfl ?_; cases h435 : (decide (y433.fThread = y434.fThread))
           · have hF := bF' h435 hF; refine QP rfl ?_; exact join false _ _ hF sw
           have hF := bT' h435 hF; refine Q_run SP 3 rfl ?_; cases h436 : v429
           · have hF := bF' h436 hF; refine QP rfl ?_; exact join false _ _ hF sw
           have hF := bT' h436 hF; refine Q_run SP 3 rfl ?_; obtain ⟨r437, hr437, hF⟩ := bB' hF
           refine R_step SP rfl (T_call (tracebookref26_above_fun _ _ _ _ hr437) ⟨rfl, rfl, rfl, trivial⟩ rfl (.inl rfl) ?_); refine QP rfl ?_; exact join (!r437) _ _ hF sw
         intro join hF
         refine W_regD (by decide) (by kernel_rfl) rfl ?_; refine Q_run SP 2 rfl ?_; obtain ⟨y438, hy438, hF⟩ := bB' hF
         refine R_step SP trivial (T_ixT (tc := t_api_Slice) p0 rfl rfl hy438 ?_); refine Q_run SP 5 rfl ?_; obtain ⟨y439, hy439, hF⟩ := bB' hF
         refine R_step SP trivial (T_ixT (tc := t_api_Slice) p0 rfl rfl hy439 ?_); refine Q_run SP 5 rfl ?_; cases h440 : (decide (y438.fSpan.fFrom < y439.fSpan.fTo))
         · have hF := bF' h440 hF; refine QP rfl ?_; exact join false _ _ hF sw
         have hF := bT' h440 hF; refine Q_run SP 2 rfl ?_; obtain ⟨y441, hy441, hF⟩ := bB' hF
         refine R_step SP rfl (T_ixT (tc := t_api_Slice) p0 rfl rfl hy441 ?_); refine Q_run SP 5 rfl ?_; obtain ⟨y442, hy442, hF⟩ := bB' hF
         refine R_step SP rfl (T_ixT (tc := t_api_Slice) p0 rfl rfl hy442 ?_); refine QP rfl ?_; exact join (decide (y441.fSpan.fFrom < y442.fSpan.fTo)) _ _ hF sw
       intro join hF
       refine wIf' hF rfl (fun _ hF => ?_) fun _ hF => ?_
       · refine W_regD (by decide) (by kernel_rfl) rfl ?_; refine Q_run SP 3 rfl ?_; obtain ⟨y443, hy443, hF⟩ := bB' hF
         refine R_step SP trivial (T_ixT (tc := t_api_Slice) p0 rfl rfl hy443 ?_); refine Q_run SP 5 rfl ?_; obtain ⟨y444, hy444, hF⟩ := bB' hF
         refine R_step SP trivial (T_ixT (tc := t_api_Slice) p0 rfl rfl hy444 ?_); refine QP rfl ?_; exact join (w64 (a402 - (w64 (y443.fSpan.fTo - y444.fSpan.fFrom)))) _ _ hF sw
       refine W_skip ?_; exact join a402 _ _ hF sw
     refine W_exit ?_; refine thenQ_exit ?_; refine thenQ_exit ?_; refine blockQ_hit ?_; exact brk_1 _ _ _ (oi hF) sw
   refine W_exit ?_; refine thenQ_exit ?_; refine thenQ_exit ?_; refine blockQ_hit ?_; exact brk_0 _ _ _ (oi hF) sw
 rintro a46 x_0 hF cont_0 brk_0 fin_0
 unfold tracebookref26_formed_L3 at hF
 refine W_seq ?_; refine wC 2 rfl ?_; refine rS (T_len (tc := t_api_Slice) p0 .tree ?_); refine QV rfl ?_; refine wIf hF rfl (fun _ hF => ?_) fun _ hF => ?_
 · refine W_skip ?_; refine W_seq ?_; refine W_block ?_; refine wC 2 rfl ?_; obtain ⟨y448, hy448, hF⟩ := bB hF
   refine rS (T_ixT (tc := t_api_Slice) p0 rfl rfl hy448 ?_); refine QV rfl ?_; refine W_seq ?_; refine W_seq ?_; refine W_join (fun _ _ h => h) hF (fun v449 => [(0, cL 8 t_api_Slice p0), (3, cI a46), (4, cI y448.fParent), (26, cB v449)]) (fun v449 => []) ?_ ?_
   · rintro v449 hF
     refine wIf hF rfl (fun _ hF => ?_) fun _ hF => ?_
     · refine wA rfl ?_; have hF := fin_0 _ (oi hF); cases hF
       exact W_ret wR
     refine W_skip ?_; refine W_seq ?_; refine W_seq ?_; refine W_join (fun _ _ h => h) hF (fun v450 => [(0, cL 8 t_api_Slice p0), (3, cI a46), (4, cI y448.fParent), (36, cB v450)]) (fun v450 => []) ?_ ?_
     · rintro v450 hF
       refine wIf hF rfl (fun _ hF => ?_) fun _ hF => ?_
       · refine wA rfl ?_; have hF := fin_0 _ (oi hF); cases hF
         exact W_ret wR
       refine W_skip ?_; refine W_seq ?_; refine W_join (fun _ _ h => h) hF (fun v451 => [(0, cL 8 t_api_Slice p0), (3, cI a46), (79, cB v451)]) (fun v451 => []) ?_ ?_
       · rintro v451 hF
         refine wIf hF rfl (fun _ hF => ?_) fun _ hF => ?_
         · refine wA rfl ?_; have hF := fin_0 _ (oi hF); cases hF
           exact W_ret wR
         refine W_skip ?_; refine wB rfl ?_; exact cont_0 _ _ _ (oi hF) sw
       intro join hF
       refine W_regD (by decide) (by kernel_rfl) rfl ?_; refine Q_run SP 3 rfl ?_; cases h453 : (decide (0 ≤ y448.fParent))
       · have hF := bF' h453 hF; refine QP rfl ?_; exact join false _ _ hF sw
       have hF := bT' h453 hF; refine Q_run SP 2 rfl ?_; obtain ⟨y454, hy454, hF⟩ := bB' hF
       refine R_step SP rfl (T_ixT (tc := t_api_Slice) p0 rfl rfl hy454 ?_); refine Q_run SP 4 rfl ?_; obtain ⟨y455, hy455, hF⟩ := bB' hF
       refine R_step SP rfl (T_ixT (tc := t_api_Slice) p0 rfl rfl hy455 ?_); refine Q_run SP 4 rfl ?_; cases h456 : (!decide (y454.fThread = y455.fThread))
       · have hF := bF' h456 hF; refine Q_run SP 2 rfl ?_; obtain ⟨y457, hy457, hF⟩ := bB' hF
         refine R_step SP rfl (T_ixT (tc := t_api_Slice) p0 rfl rfl hy457 ?_); refine Q_run SP 4 rfl ?_; obtain ⟨y458, hy458, hF⟩ := bB' hF
         refine R_step SP rfl (T_ixT (tc := t_api_Slice) p0 rfl rfl hy458 ?_); refine Q_run SP 2 rfl ?_; obtain ⟨r459, hr459, hF⟩ := bB' hF
         refine R_step SP rfl (T_call (tracebookref26_contains_fun _ _ _ hr459) ⟨⟨rfl, rfl, trivial⟩, ⟨rfl, rfl, trivial⟩, trivial⟩ rfl (.inl rfl) ?_); refine Q_run SP 3 rfl ?_; cases h460 : (!r459)
         · have hF := bF' h460 hF; refine Q_run SP 2 rfl ?_; obtain ⟨y461, hy461, hF⟩ := bB' hF
           refine R_step SP rfl (T_ixT (tc := t_api_Slice) p0 rfl rfl hy461 ?_); refine Q_run SP 4 rfl ?_; obtain ⟨y462, hy462, hF⟩ := bB' hF
           refine R_step SP rfl (T_ixT (tc := t_api_Slice) p0 rfl rfl hy462 ?_); refine QP rfl ?_; exact join (!decide (y461.fDepth = (w64 (y462.fDepth + 1)))) _ _ hF sw
         have hF := bT' h460 hF; refine QP rfl ?_; exact join true _ _ hF sw
       have hF := bT' h456 hF; refine QP rfl ?_; exact join true _ _ hF sw
     intro join hF
     refine wD 3 rfl ?_; cases h464 : (decide (y448.fParent = (-1)))
     · have hF := bF' h464 hF; refine QV rfl ?_; exact join false _ _ hF sw
     have hF := bT' h464 hF; refine Q_run SV 2 rfl ?_; obtain ⟨y465, hy465, hF⟩ := bB' hF
     refine R_step SV rfl (T_ixT (tc := t_api_Slice) p0 rfl rfl hy465 ?_); refine QV rfl ?_; exact join (!decide (y465.fDepth = 0)) _ _ hF sw
   intro join hF
   refine wD 3 rfl ?_; cases h467 : (decide (y448.fParent < (-1)))
   · have hF := bF' h467 hF; refine QV rfl ?_; exact join (decide (a46 ≤ y448.fParent)) _ _ hF sw
   have hF := bT' h467 hF; refine QV rfl ?_; exact join true _ _ hF sw
 refine W_exit ?_; refine thenQ_exit ?_; refine thenQ_exit ?_; refine blockQ_hit ?_; exact brk_0 _ _ _ (oi hF) sw
def tracebookref26_Check_L1 (p0 : (List api_Slice)) : Int → Option (Int ⊕ (Unit ⊕ Int)) := fun a40 =>
  (bif (decide (a40 < (List.length p0 : Int))) then ((((idx p0 a40).bind fun y72 => (bif (decide (y72.fThread < 0)) then some true else ((idx p0 a40).bind fun y74 => (bif (decide (1000000000000000 < y74.fThread)) then some true else ((idx p0 a40).bind fun y76 => ((tracebookref04_Valid y76.fSpan).bind fun r77 => some (!r77))))))) : Option Bool).bind fun v61 => (bif v61 then some (.inr (.inr 2)) else ((idx p0 a40).bind fun y62 => ((tracebookref06_Name y62.fName).bind fun r63 => (bif (!decide (r63 = 0)) then some (.inr (.inr r63)) else (((bif (decide (0 < a40)) then ((idx p0 a40).bind fun y67 => ((idx p0 (w64 (a40 - 1))).bind fun y68 => ((tracebookref26_Precedes y67 y68).bind fun r69 => some r69))) else some false) : Option Bool).bind fun v64 => (bif v64 then some (.inr (.inr 11)) else some (.inl (w64 (a40 + 1)))))))))) else some (.inr (.inl ())))
def tracebookref26_Check (p0 : (List api_Slice)) : Option Int :=
  ((loop (tracebookref26_Check_L1 p0) 0).bind fun | .inl _ => ((tracebookref26_formed p0).bind fun r59 => (bif (!r59) then some 10 else some 0)) | .inr rv => some rv)
theorem tracebookref26_Check_fun (p0 : (List api_Slice)) (r : Int) (hF : tracebookref26_Check p0 = some r) : Fun Tryz.prog 120 true [] [cL 8 t_api_Slice p0] noHeap (cI r) noHeap := by
 refine Fun.of_walk0 Tryz.func120 c120 (by kernel_rfl) (rs := [.tmp 2]) (by kernel_rfl) ?_; unfold v120
 unfold tracebookref26_Check at hF
 refine wA rfl ?_; refine W_seq ?_; refine wA rfl ?_; refine W_for (fun _ _ h => h) hF (.inl) (fun a40 => [(0, cL 8 t_api_Slice p0), (3, cI a40)]) (fun a40 => []) (fun _ => [(0, cL 8 t_api_Slice p0)]) (fun _ => []) sw ?_ ?_
 · rintro ⟨⟩ hF
   refine W_seq ?_; refine wC 1 rfl ?_; obtain ⟨r59, hr59, hF⟩ := bB hF
   refine rS (T_call (tracebookref26_formed_fun _ _ hr59) ⟨rfl, trivial⟩ rfl (.inl rfl) ?_); refine QV rfl ?_; refine wIf hF rfl (fun _ hF => ?_) fun _ hF => ?_
   · refine wA rfl ?_; cases hF
     exact W_ret wR
   refine W_skip ?_; refine wA rfl ?_; cases hF
   exact W_ret wR
 rintro a40 x_0 hF cont_0 brk_0 fin_0
 unfold tracebookref26_Check_L1 at hF
 refine W_seq ?_; refine wC 2 rfl ?_; refine rS (T_len (tc := t_api_Slice) p0 .tree ?_); refine QV rfl ?_; refine wIf hF rfl (fun _ hF => ?_) fun _ hF => ?_
 · refine W_skip ?_; refine W_seq ?_; refine W_block ?_; refine W_seq ?_; refine W_seq ?_; refine W_join (fun _ _ h => h) hF (fun v61 => [(0, cL 8 t_api_Slice p0), (3, cI a40), (33, cB v61)]) (fun v61 => []) ?_ ?_
   · rintro v61 hF
     refine wIf hF rfl (fun _ hF => ?_) fun _ hF => ?_
     · refine wA rfl ?_; have hF := fin_0 _ (oi hF); cases hF
       exact W_ret wR
     refine W_skip ?_; refine wC 2 rfl ?_; obtain ⟨y62, hy62, hF⟩ := bB hF
     refine rS (T_ixT (tc := t_api_Slice) p0 rfl rfl hy62 ?_); refine Q_run SV 2 rfl ?_; obtain ⟨r63, hr63, hF⟩ := bB hF
     refine rS (T_call (tracebookref06_Name_fun _ _ hr63) ⟨rfl, trivial⟩ rfl (.inl rfl) ?_); refine QV rfl ?_; refine W_seq ?_; refine wA rfl ?_; refine wIf hF rfl (fun _ hF => ?_) fun _ hF => ?_
     · refine wA rfl ?_; have hF := fin_0 _ (oi hF); cases hF
       exact W_ret wR
     refine W_skip ?_; refine W_seq ?_; refine W_join (fun _ _ h => h) hF (fun v64 => [(0, cL 8 t_api_Slice p0), (3, cI a40), (56, cB v64)]) (fun v64 => []) ?_ ?_
     · rintro v64 hF
       refine wIf hF rfl (fun _ hF => ?_) fun _ hF => ?_
       · refine wA rfl ?_; have hF := fin_0 _ (oi hF); cases hF
         exact W_ret wR
       refine W_skip ?_; refine wB rfl ?_; exact cont_0 _ _ _ (oi hF) sw
     intro join hF
     refine W_regD (by decide) (by kernel_rfl) rfl ?_; refine Q_run SP 3 rfl ?_; cases h66 : (decide (0 < a40))
     · have hF := bF' h66 hF; refine QP rfl ?_; exact join false _ _ hF sw
     have hF := bT' h66 hF; refine Q_run SP 2 rfl ?_; obtain ⟨y67, hy67, hF⟩ := bB' hF
     refine R_step SP rfl (T_ixT (tc := t_api_Slice) p0 rfl rfl hy67 ?_); refine Q_run SP 4 rfl ?_; obtain ⟨y68, hy68, hF⟩ := bB' hF
     refine R_step SP rfl (T_ixT (tc := t_api_Slice) p0 rfl rfl hy68 ?_); refine Q_run SP 1 rfl ?_; obtain ⟨r69, hr69, hF⟩ := bB' hF
     refine R_step SP rfl (T_call (tracebookref26_Precedes_fun _ _ _ hr69) ⟨⟨rfl, rfl, rfl, rfl, rfl, rfl, rfl, rfl, trivial⟩, ⟨rfl, rfl, rfl, rfl, rfl, rfl, rfl, rfl, trivial⟩, trivial⟩ rfl (.inl rfl) ?_)
     refine QP rfl ?_; exact join r69 _ _ hF sw
   intro join hF
   refine wD 2 rfl ?_; obtain ⟨y72, hy72, hF⟩ := bB' hF
   refine rS (T_ixT (tc := t_api_Slice) p0 rfl rfl hy72 ?_); refine Q_run SV 4 rfl ?_; cases h73 : (decide (y72.fThread < 0))
   · have hF := bF' h73 hF; refine Q_run SV 2 rfl ?_; obtain ⟨y74, hy74, hF⟩ := bB' hF
     refine R_step SV rfl (T_ixT (tc := t_api_Slice) p0 rfl rfl hy74 ?_); refine Q_run SV 5 rfl ?_; cases h75 : (decide (1000000000000000 < y74.fThread))
     · have hF := bF' h75 hF; refine Q_run SV 2 rfl ?_; obtain ⟨y76, hy76, hF⟩ := bB' hF
       refine R_step SV rfl (T_ixT (tc := t_api_Slice) p0 rfl rfl hy76 ?_); refine Q_run SV 2 rfl ?_; obtain ⟨r77, hr77, hF⟩ := bB' hF
       refine R_step SV rfl (T_call (tracebookref04_Valid_fun _ _ hr77) ⟨⟨rfl, rfl, trivial⟩, trivial⟩ rfl (.inl rfl) ?_); refine QV rfl ?_; exact join (!r77) _ _ hF sw
     have hF := bT' h75 hF; refine QV rfl ?_; exact join true _ _ hF sw
   have hF := bT' h73 hF; refine QV rfl ?_; exact join true _ _ hF sw
 refine W_exit ?_; refine thenQ_exit ?_; refine thenQ_exit ?_; refine blockQ_hit ?_; exact brk_0 _ _ _ (oi hF) sw
def tracebookref32_Has_L1 (p0 : api_Trace) (p1 : Int) : Int → Option (Int ⊕ (Unit ⊕ Bool)) := fun a10 =>
  (bif (decide (a10 < (List.length p0.fThreads : Int))) then ((idx p0.fThreads a10).bind fun y14 => (bif (decide (y14.fId = p1)) then some (.inr (.inr true)) else some (.inl (w64 (a10 + 1))))) else some (.inr (.inl ())))
def tracebookref32_Has (p0 : api_Trace) (p1 : Int) : Option Bool :=
  ((loop (tracebookref32_Has_L1 p0 p1) 0).bind fun | .inl _ => some false | .inr rv => some rv)
theorem tracebookref32_Has_fun (p0 : api_Trace) (p1 : Int) (r : Bool) (hF : tracebookref32_Has p0 p1 = some r) : Fun Tryz.prog 121 true [] [.agg (m_api_Trace p0), cI p1] noHeap (cB r) noHeap := by
 refine Fun.of_walk0 Tryz.func121 c121 (by kernel_rfl) (rs := [.tmp 4]) (by kernel_rfl) ?_; unfold v121
 unfold tracebookref32_Has at hF
 refine wA rfl ?_; refine W_seq ?_; refine wA rfl ?_; refine W_for (fun _ _ h => h) hF (.inl) (fun a10 => [(1, cI p1), (2, cP (2,0) 0), (5, cI a10)]) (fun a10 => [((2,0), .box (m_api_Trace p0))]) (fun _ => []) (fun _ => []) sw ?_ ?_
 · rintro ⟨⟩ hF
   refine wA rfl ?_; cases hF
   exact W_ret wR
 rintro a10 x_0 hF cont_0 brk_0 fin_0
 unfold tracebookref32_Has_L1 at hF
 refine W_seq ?_; refine wC 3 rfl ?_; refine rS (T_len (tc := t_api_Thread) p0.fThreads .tree ?_); refine QV rfl ?_; refine wIf hF rfl (fun _ hF => ?_) fun _ hF => ?_
 · refine W_skip ?_; refine W_seq ?_; refine W_block ?_; refine wC 3 rfl ?_; obtain ⟨y14, hy14, hF⟩ := bB hF
   refine rS (T_ixT (tc := t_api_Thread) p0.fThreads rfl rfl hy14 ?_); refine QV rfl ?_; refine wIf hF rfl (fun _ hF => ?_) fun _ hF => ?_
   · refine wA rfl ?_; have hF := fin_0 _ (oi hF); cases hF
     exact W_ret wR
   refine W_skip ?_; refine wB rfl ?_; exact cont_0 _ _ _ (oi hF) sw
 refine W_exit ?_; refine thenQ_exit ?_; refine thenQ_exit ?_; refine blockQ_hit ?_; exact brk_0 _ _ _ (oi hF) sw
def tracebookref27_index_L1 (p0 : (List api_Thread)) (p1 : Int) : Int → Option (Int ⊕ (Unit ⊕ Int)) := fun a10 =>
  (bif (decide (a10 < (List.length p0 : Int))) then ((idx p0 a10).bind fun y14 => (bif (decide (y14.fId = p1)) then some (.inr (.inr a10)) else some (.inl (w64 (a10 + 1))))) else some (.inr (.inl ())))
def tracebookref27_index (p0 : (List api_Thread)) (p1 : Int) : Option Int :=
  ((loop (tracebookref27_index_L1 p0 p1) 0).bind fun | .inl _ => some (-1) | .inr rv => some rv)
theorem tracebookref27_index_fun (p0 : (List api_Thread)) (p1 : Int) (r : Int) (hF : tracebookref27_index p0 p1 = some r) : Fun Tryz.prog 142 true [] [cL 3 t_api_Thread p0, cI p1] noHeap (cI r) noHeap := by
 refine Fun.of_walk0 Tryz.func142 c142 (by kernel_rfl) (rs := [.tmp 4]) (by kernel_rfl) ?_; unfold v142
 unfold tracebookref27_index at hF
 refine wA rfl ?_; refine W_seq ?_; refine wA rfl ?_; refine W_for (fun _ _ h => h) hF (.inl) (fun a10 => [(0, cL 3 t_api_Thread p0), (1, cI p1), (5, cI a10)]) (fun a10 => []) (fun _ => []) (fun _ => []) sw ?_ ?_
 · rintro ⟨⟩ hF
   refine wA rfl ?_; cases hF
   exact W_ret wR
 rintro a10 x_0 hF cont_0 brk_0 fin_0
 unfold tracebookref27_index_L1 at hF
 refine W_seq ?_; refine wC 2 rfl ?_; refine rS (T_len (tc := t_api_Thread) p0 .tree ?_); refine QV rfl ?_; refine wIf hF rfl (fun _ hF => ?_) fun _ hF => ?_
 · refine W_skip ?_; refine W_seq ?_; refine W_block ?_; refine wC 2 rfl ?_; obtain ⟨y14, hy14, hF⟩ := bB hF
   refine rS (T_ixT (tc := t_api_Thread) p0 rfl rfl hy14 ?_); refine QV rfl ?_; refine wIf hF rfl (fun _ hF => ?_) fun _ hF => ?_
   · refine wA rfl ?_; have hF := fin_0 _ (oi hF); cases hF
     exact W_ret wR
   refine W_skip ?_; refine wB rfl ?_; exact cont_0 _ _ _ (oi hF) sw
 refine W_exit ?_; refine thenQ_exit ?_; refine thenQ_exit ?_; refine blockQ_hit ?_; exact brk_0 _ _ _ (oi hF) sw
def tracebookref27_distinct_L1 (p0 : (List api_Thread)) : ((List api_Thread) × Int) → Option (((List api_Thread) × Int) ⊕ (List api_Thread)) := fun (a21, a22) =>
  (bif (decide (a22 < (List.length p0 : Int))) then ((((idx p0 a22).bind fun y32 => ((tracebookref27_index a21 y32.fId).bind fun r33 => (bif (decide (r33 < 0)) then ((idx p0 a22).bind fun y34 => (bif room 32 (List.length a21 + List.length [y34]) then some (a21 ++ [y34]) else none)) else some a21))) : Option (List api_Thread)).bind fun v31 => some (.inl (v31, (w64 (a22 + 1))))) else some (.inr a21))
def tracebookref27_distinct (p0 : (List api_Thread)) : Option (List api_Thread) :=
  ((loop (tracebookref27_distinct_L1 p0) ([], 0)).bind fun e30 => some e30)
theorem tracebookref27_distinct_fun (p0 : (List api_Thread)) (r : (List api_Thread)) (hF : tracebookref27_distinct p0 = some r) : Fun Tryz.prog 141 false [] [cL 3 t_api_Thread p0] (heapOf []) (cO (902,5640)) (heapOf [((902,5640), .arr 76 3 (List.map t_api_Thread r))]) := by
 refine Fun.of_walkM [] (some []) Tryz.func141 c141 (by kernel_rfl) (rs := [.tmp 2]) (by kernel_rfl) rfl rfl rfl ?_; unfold v141
 unfold tracebookref27_distinct at hF
 refine wA rfl ?_; refine wA rfl ?_; refine W_seq ?_; refine wA rfl ?_; refine W_for (fun _ _ h => h) hF (id) (fun (a21, a22) => [(0, cL 3 t_api_Thread p0), (3, cO (25,1)), (4, cI a22)]) (fun (a21, a22) => [((25,1), .arr 76 3 (List.map t_api_Thread a21))]) (fun e30 => [(3, cO (25,1))]) (fun e30 => [((25,1), .arr 76 3 (List.map t_api_Thread e30))]) (S_own 3 (25,1) 76 3 rfl rfl rfl rfl sw) ?_ ?_
 · rintro e30 hF
   refine wA rfl ?_; cases hF
   exact W_ret ⟨_, _, (S_ren (25,1) (902,5640) rfl rfl S_refl), _, rfl, rfl, rfl, (AgM.weak ⟨rfl, trivial⟩)⟩
 rintro ⟨a21, a22⟩ x_0 hF cont_0 brk_0 fin_0
 unfold tracebookref27_distinct_L1 at hF
 refine W_seq ?_; refine wC 2 rfl ?_; refine rS (T_len (tc := t_api_Thread) p0 .tree ?_); refine QV rfl ?_; refine wIf hF rfl (fun _ hF => ?_) fun _ hF => ?_
 · refine W_skip ?_; refine W_seq ?_; refine W_join (fun _ _ h => h) hF (fun v31 => [(0, cL 3 t_api_Thread p0), (3, cO (25,1)), (4, cI a22)]) (fun v31 => [((25,1), .arr 76 3 (List.map t_api_Thread v31))]) ?_ ?_
   · rintro v31 hF
     refine wB rfl ?_; exact cont_0 _ _ _ (oi hF) sw
   intro join hF
   refine W_block ?_; refine wC 3 rfl ?_; obtain ⟨y32, hy32, hF⟩ := bB' hF
   refine rS (T_ixT (tc := t_api_Thread) p0 rfl rfl hy32 ?_); refine Q_run SV 2 rfl ?_; obtain ⟨r33, hr33, hF⟩ := bB' hF
   refine rS (T_call (tracebookref27_index_fun _ _ _ hr33) ⟨⟨_, rfl⟩, rfl, trivial⟩ rfl (.inl rfl) ?_); refine QV rfl ?_; refine wIf' hF rfl (fun _ hF => ?_) fun _ hF => ?_
   · refine wD 3 rfl ?_; obtain ⟨y34, hy34, hF⟩ := bB' hF
     refine rS (T_ixT (tc := t_api_Thread) p0 rfl rfl hy34 ?_); refine Q_run SV 1 rfl ?_; refine rS (T_bsl (tc := t_api_Thread) [y34] rfl ⟨rfl, rfl, rfl, trivial⟩ rfl (fun _ => rfl) rfl ?_)
     obtain ⟨h35, hF⟩ := roomT' hF
     refine rS (T_appO (tc := t_api_Thread) a21 [y34] rfl rfl (.own _ _ rfl) h35 rfl ?_); refine QV rfl ?_; exact join (a21 ++ [y34]) _ _ hF (S_ren (25,0) (25,1) rfl rfl sw)
   refine W_skip ?_; exact join a21 _ _ hF sw
 refine W_exit ?_; refine thenQ_exit ?_; refine thenQ_exit ?_; refine blockQ_hit ?_; exact brk_0 _ _ _ (oi hF) sw
def tracebookref27_right (p0 : api_State) : Option Bool :=
  (((bif (decide (p0.fState < 0)) then some true else some (decide (5 < p0.fState))) : Option Bool).bind fun v1 => (bif v1 then some false else (((bif (decide (p0.fState = 4)) then (bif (decide (p0.fCpu < 0)) then some true else (bif (decide (63 < p0.fCpu)) then some true else (bif (!decide (p0.fState = 4)) then some (!decide (p0.fCpu = (-1))) else some false))) else (bif (!decide (p0.fState = 4)) then some (!decide (p0.fCpu = (-1))) else some false)) : Option Bool).bind fun v2 => (bif v2 then some false else (((bif (decide (p0.fState = 2)) then (bif (decide (p0.fOn < 0)) then some true else (bif (decide (1000000000000000 < p0.fOn)) then some true else (bif (!decide (p0.fState = 2)) then some (!decide (p0.fOn = (-1))) else some false))) else (bif (!decide (p0.fState = 2)) then some (!decide (p0.fOn = (-1))) else some false)) : Option Bool).bind fun v3 => (bif v3 then some false else (((bif (decide (p0.fBy = (-1))) then some true else (bif (decide (0 ≤ p0.fBy)) then (bif (decide (p0.fBy ≤ 1000000000000000)) then (bif (decide (p0.fState = 1)) then some true else some (decide (p0.fState = 2))) else some false) else some false)) : Option Bool).bind fun v4 => some v4)))))))
theorem tracebookref27_right_fun (p0 : api_State) (r : Bool) (hF : tracebookref27_right p0 = some r) : Fun Tryz.prog 143 true [] [.agg (m_api_State p0)] noHeap (cB r) noHeap := by
 refine Fun.of_walk0 Tryz.func143 c143 (by kernel_rfl) (rs := [.tmp 2]) (by kernel_rfl) ?_; unfold v143
 unfold tracebookref27_right at hF
 refine wA rfl ?_; refine W_seq ?_; refine W_seq ?_; refine W_join (fun _ _ h => h) hF (fun v1 => [(1, cP (1,0) 0), (10, cB v1)]) (fun v1 => [((1,0), .box (m_api_State p0))]) ?_ ?_
 · rintro v1 hF
   refine wIf hF rfl (fun _ hF => ?_) fun _ hF => ?_
   · refine wA rfl ?_; cases hF
     exact W_ret wR
   refine W_skip ?_; refine W_seq ?_; refine W_seq ?_; refine W_join (fun _ _ h => h) hF (fun v2 => [(1, cP (1,0) 0), (33, cB v2)]) (fun v2 => [((1,0), .box (m_api_State p0))]) ?_ ?_
   · rintro v2 hF
     refine wIf hF rfl (fun _ hF => ?_) fun _ hF => ?_
     · refine wA rfl ?_; cases hF
       exact W_ret wR
     refine W_skip ?_; refine W_seq ?_; refine W_seq ?_; refine W_join (fun _ _ h => h) hF (fun v3 => [(1, cP (1,0) 0), (56, cB v3)]) (fun v3 => [((1,0), .box (m_api_State p0))]) ?_ ?_
     · rintro v3 hF
       refine wIf hF rfl (fun _ hF => ?_) fun _ hF => ?_
       · refine wA rfl ?_; cases hF
         exact W_ret wR
       refine W_skip ?_; refine W_seq ?_; refine W_join (fun _ _ h => h) hF (fun v4 => [(2, cB v4)]) (fun v4 => []) ?_ ?_
       · rintro v4 hF
         cases hF
         exact W_ret wR
       intro join hF
       refine wD 4 rfl ?_; cases h5 : (decide (p0.fBy = (-1)))
       · have hF := bF' h5 hF; refine Q_run SV 4 rfl ?_; cases h6 : (decide (0 ≤ p0.fBy))
         · have hF := bF' h6 hF; refine QV rfl ?_; exact join false _ _ hF sw
         have hF := bT' h6 hF; refine Q_run SV 5 rfl ?_; cases h7 : (decide (p0.fBy ≤ 1000000000000000))
         · have hF := bF' h7 hF; refine QV rfl ?_; exact join false _ _ hF sw
         have hF := bT' h7 hF; refine Q_run SV 4 rfl ?_; cases h8 : (decide (p0.fState = 1))
         · have hF := bF' h8 hF; refine QV rfl ?_; exact join (decide (p0.fState = 2)) _ _ hF sw
         have hF := bT' h8 hF; refine QV rfl ?_; exact join true _ _ hF sw
       have hF := bT' h5 hF; refine QV rfl ?_; exact join true _ _ hF sw
     intro join hF
     refine wD 4 rfl ?_; cases h10 : (decide (p0.fState = 2))
     · have hF := bF' h10 hF; refine Q_run SV 14 rfl ?_; cases h11 : (!decide (p0.fState = 2))
       · have hF := bF' h11 hF; refine QV rfl ?_; exact join false _ _ hF sw
       have hF := bT' h11 hF; refine QV rfl ?_; exact join (!decide (p0.fOn = (-1))) _ _ hF sw
     have hF := bT' h10 hF; refine Q_run SV 4 rfl ?_; cases h12 : (decide (p0.fOn < 0))
     · have hF := bF' h12 hF; refine Q_run SV 6 rfl ?_; cases h13 : (decide (1000000000000000 < p0.fOn))
       · have hF := bF' h13 hF; refine Q_run SV 4 rfl ?_; cases h14 : (!decide (p0.fState = 2))
         · have hF := bF' h14 hF; refine QV rfl ?_; exact join false _ _ hF sw
         have hF := bT' h14 hF; refine QV rfl ?_; exact join (!decide (p0.fOn = (-1))) _ _ hF sw
       have hF := bT' h13 hF; refine QV rfl ?_; exact join true _ _ hF sw
     have hF := bT' h12 hF; refine QV rfl ?_; exact join true _ _ hF sw
   intro join hF
   refine wD 4 rfl ?_; cases h16 : (decide (p0.fState = 4))
   · have hF := bF' h16 hF; refine Q_run SV 14 rfl ?_; cases h17 : (!decide (p0.fState = 4))
     · have hF := bF' h17 hF; refine QV rfl ?_; exact join false _ _ hF sw
     have hF := bT' h17 hF; refine QV rfl ?_; exact join (!decide (p0.fCpu = (-1))) _ _ hF sw
   have hF := bT' h16 hF; refine Q_run SV 4 rfl ?_; cases h18 : (decide (p0.fCpu < 0))
   · have hF := bF' h18 hF; refine Q_run SV 6 rfl ?_; cases h19 : (decide (63 < p0.fCpu))
     · have hF := bF' h19 hF; refine Q_run SV 4 rfl ?_; cases h20 : (!decide (p0.fState = 4))
       · have hF := bF' h20 hF; refine QV rfl ?_; exact join false _ _ hF sw
       have hF := bT' h20 hF; refine QV rfl ?_; exact join (!decide (p0.fCpu = (-1))) _ _ hF sw
     have hF := bT' h19 hF; refine QV rfl ?_; exact join true _ _ hF sw
   have hF := bT' h18 hF; refine QV rfl ?_; exact join true _ _ hF sw
 intro join hF
 refine wD 4 rfl ?_; cases h22 : (decide (p0.fState < 0))
 · have hF := bF' h22 hF; refine QV rfl ?_; exact join (decide (5 < p0.fState)) _ _ hF sw
 have hF := bT' h22 hF; refine QV rfl ?_; exact join true _ _ hF sw
def tracebookref27_Check_L1 (p1 : (List api_State)) : Int → Option (Int ⊕ (Unit ⊕ Int)) := fun a117 =>
  (bif (decide (a117 < (List.length p1 : Int))) then ((((idx p1 a117).bind fun y128 => ((idx p1 (w64 (a117 - 1))).bind fun y129 => (bif (!decide (y128.fThread = y129.fThread)) then ((idx p1 (w64 (a117 - 1))).bind fun y131 => ((idx p1 (w64 ((List.length p1 : Int) - 1))).bind fun y132 => some (!decide (y131.fSpan.fTo = y132.fSpan.fTo)))) else some false))) : Option Bool).bind fun v126 => (bif v126 then some (.inr (.inr 11)) else some (.inl (w64 (a117 + 1))))) else some (.inr (.inl ())))
def tracebookref27_Check_L2 (p1 : (List api_State)) (r1 : (List api_Thread)) : (Int × Int) → Option ((Int × Int) ⊕ (Int ⊕ Int)) := fun (a66, a67) =>
  (bif (decide (a67 < (List.length p1 : Int))) then ((idx p1 a67).bind fun y135 => ((tracebookref27_index r1 y135.fThread).bind fun r136 => (bif (decide (r136 < 0)) then some (.inr (.inr 5)) else ((idx p1 a67).bind fun y137 => ((tracebookref04_Valid y137.fSpan).bind fun r138 => (bif (!r138) then some (.inr (.inr 2)) else ((idx p1 a67).bind fun y139 => ((tracebookref27_right y139).bind fun r140 => (bif (!r140) then some (.inr (.inr 1)) else (((bif (decide (0 < a67)) then ((idx p1 (w64 (a67 - 1))).bind fun y158 => ((idx p1 a67).bind fun y159 => some (decide (y158.fThread = y159.fThread)))) else some false) : Option Bool).bind fun v141 => (bif v141 then ((idx p1 (w64 (a67 - 1))).bind fun y142 => ((((idx p1 a67).bind fun y145 => (bif (!decide (y142.fSpan.fTo = y145.fSpan.fFrom)) then some true else ((idx p1 a67).bind fun y147 => (bif (decide (y142.fState = y147.fState)) then ((idx p1 a67).bind fun y149 => (bif (decide (y142.fCpu = y149.fCpu)) then ((idx p1 a67).bind fun y151 => some (decide (y142.fOn = y151.fOn))) else some false)) else some false)))) : Option Bool).bind fun v143 => (bif v143 then some (.inr (.inr 11)) else some (.inl (a66, (w64 (a67 + 1))))))) else ((((idx p1 a67).bind fun y154 => (bif (!decide (y154.fSpan.fFrom = 0)) then some true else some (!decide (r136 = (w64 (a66 + 1)))))) : Option Bool).bind fun v152 => (bif v152 then some (.inr (.inr 11)) else some (.inl (r136, (w64 (a67 + 1))))))))))))))))) else some (.inr (.inl a66)))
def tracebookref27_Check (p0 : (List api_Thread)) (p1 : (List api_State)) : Option Int :=
  ((tracebookref27_distinct p0).bind fun r1 => (bif (decide ((List.length p1 : Int) = 0)) then some 0 else ((loop (tracebookref27_Check_L2 p1 r1) ((-1), 0)).bind fun | .inl e97 => (bif (!decide (e97 = (w64 ((List.length r1 : Int) - 1)))) then some 11 else ((loop (tracebookref27_Check_L1 p1) 1).bind fun | .inl _ => some 0 | .inr rv => some rv)) | .inr rv => some rv)))
theorem tracebookref27_Check_fun (p0 : (List api_Thread)) (p1 : (List api_State)) (r : Int) (hF : tracebookref27_Check p0 p1 = some r) : Fun Tryz.prog 122 true [] [cL 3 t_api_Thread p0, cL 7 t_api_State p1] noHeap (cI r) noHeap := by
 refine Fun.of_walk0 Tryz.func122 c122 (by kernel_rfl) (rs := [.tmp 4]) (by kernel_rfl) ?_; unfold v122
 unfold tracebookref27_Check at hF
 refine wA rfl ?_; refine wC 1 rfl ?_; obtain ⟨r1, hr1, hF⟩ := bB hF
 refine R_stepX trivial (X_callG [((902,5640),(11,1))] rfl (callN _) (tracebookref27_distinct_fun _ _ hr1) trivial ⟨.inl rfl, trivial⟩ rfl rfl rfl ?_); refine QV rfl ?_; refine W_seq ?_; refine wC 1 rfl ?_
 refine rS (T_len (tc := t_api_State) p1 .tree ?_); refine QV rfl ?_; refine wIf hF rfl (fun _ hF => ?_) fun _ hF => ?_
 · refine wA rfl ?_; cases hF
   exact W_ret wR
 refine W_skip ?_; refine wA rfl ?_; refine W_seq ?_; refine wA rfl ?_; refine W_for (fun _ _ h => h) hF (.inl) (fun (a66, a67) => [(0, cO (11,1)), (1, cL 7 t_api_State p1), (5, cI a66), (6, cI a67)]) (fun (a66, a67) => [((11,1), .arr 76 3 (List.map t_api_Thread r1))]) (fun e97 => [(0, cO (11,1)), (1, cL 7 t_api_State p1), (5, cI e97)]) (fun e97 => [((11,1), .arr 76 3 (List.map t_api_Thread r1))]) sw ?_ ?_
 · rintro e97 hF
   refine W_seq ?_; refine wC 2 rfl ?_; refine rS (T_len (tc := t_api_Thread) r1 (.own _ _ rfl) ?_); refine QV rfl ?_; refine wIf hF rfl (fun _ hF => ?_) fun _ hF => ?_
   · refine wA rfl ?_; cases hF
     exact W_ret wR
   refine W_skip ?_; refine W_seq ?_; refine wA rfl ?_; refine W_for (fun _ _ h => h) hF (.inl) (fun a117 => [(1, cL 7 t_api_State p1), (9, cI a117)]) (fun a117 => []) (fun _ => []) (fun _ => []) sw ?_ ?_
   · rintro ⟨⟩ hF
     refine wA rfl ?_; cases hF
     exact W_ret wR
   rintro a117 x_0 hF cont_0 brk_0 fin_0
   unfold tracebookref27_Check_L1 at hF
   refine W_seq ?_; refine wC 2 rfl ?_; refine rS (T_len (tc := t_api_State) p1 .tree ?_); refine QV rfl ?_; refine wIf hF rfl (fun _ hF => ?_) fun _ hF => ?_
   · refine W_skip ?_; refine W_seq ?_; refine W_block ?_; refine W_seq ?_; refine W_join (fun _ _ h => h) hF (fun v126 => [(1, cL 7 t_api_State p1), (9, cI a117), (158, cB v126)]) (fun v126 => []) ?_ ?_
     · rintro v126 hF
       refine wIf hF rfl (fun _ hF => ?_) fun _ hF => ?_
       · refine wA rfl ?_; have hF := fin_0 _ (oi hF); cases hF
         exact W_ret wR
       refine W_skip ?_; refine wB rfl ?_; exact cont_0 _ _ _ (oi hF) sw
     intro join hF
     refine W_regD (by decide) (by kernel_rfl) rfl ?_; refine Q_run SP 2 rfl ?_; obtain ⟨y128, hy128, hF⟩ := bB' hF
     refine R_step SP trivial (T_ixT (tc := t_api_State) p1 rfl rfl hy128 ?_); refine Q_run SP 5 rfl ?_; obtain ⟨y129, hy129, hF⟩ := bB' hF
     refine R_step SP trivial (T_ixT (tc := t_api_State) p1 rfl rfl hy129 ?_); refine Q_run SP 4 rfl ?_; cases h130 : (!decide (y128.fThread = y129.fThread))
     · have hF := bF' h130 hF; refine QP rfl ?_; exact join false _ _ hF sw
     have hF := bT' h130 hF; refine Q_run SP 3 rfl ?_; obtain ⟨y131, hy131, hF⟩ := bB' hF
     refine R_step SP rfl (T_ixT (tc := t_api_State) p1 rfl rfl hy131 ?_); refine Q_run SP 5 rfl ?_; refine R_step SP rfl (T_len (tc := t_api_State) p1 .tree ?_); refine Q_run SP 1 rfl ?_; obtain ⟨y132, hy132, hF⟩ := bB' hF
     refine R_step SP rfl (T_ixT (tc := t_api_State) p1 rfl rfl hy132 ?_); refine QP rfl ?_; exact join (!decide (y131.fSpan.fTo = y132.fSpan.fTo)) _ _ hF sw
   refine W_exit ?_; refine thenQ_exit ?_; refine thenQ_exit ?_; refine blockQ_hit ?_; exact brk_0 _ _ _ (oi hF) sw
 rintro ⟨a66, a67⟩ x_0 hF cont_0 brk_0 fin_0
 unfold tracebookref27_Check_L2 at hF
 refine W_seq ?_; refine wC 2 rfl ?_; refine rS (T_len (tc := t_api_State) p1 .tree ?_); refine QV rfl ?_; refine wIf hF rfl (fun _ hF => ?_) fun _ hF => ?_
 · refine W_skip ?_; refine W_seq ?_; refine W_block ?_; refine wC 3 rfl ?_; obtain ⟨y135, hy135, hF⟩ := bB hF
   refine rS (T_ixT (tc := t_api_State) p1 rfl rfl hy135 ?_); refine Q_run SV 2 rfl ?_; obtain ⟨r136, hr136, hF⟩ := bB hF
   refine rS (T_call (tracebookref27_index_fun _ _ _ hr136) ⟨⟨_, rfl⟩, rfl, trivial⟩ rfl (.inl rfl) ?_); refine QV rfl ?_; refine W_seq ?_; refine wA rfl ?_; refine wIf hF rfl (fun _ hF => ?_) fun _ hF => ?_
   · refine wA rfl ?_; have hF := fin_0 _ (oi hF); cases hF
     exact W_ret wR
   refine W_skip ?_; refine W_seq ?_; refine wC 2 rfl ?_; obtain ⟨y137, hy137, hF⟩ := bB hF
   refine rS (T_ixT (tc := t_api_State) p1 rfl rfl hy137 ?_); refine Q_run SV 2 rfl ?_; obtain ⟨r138, hr138, hF⟩ := bB hF
   refine rS (T_call (tracebookref04_Valid_fun _ _ hr138) ⟨⟨rfl, rfl, trivial⟩, trivial⟩ rfl (.inl rfl) ?_); refine QV rfl ?_; refine wIf hF rfl (fun _ hF => ?_) fun _ hF => ?_
   · refine wA rfl ?_; have hF := fin_0 _ (oi hF); cases hF
     exact W_ret wR
   refine W_skip ?_; refine W_seq ?_; refine wC 2 rfl ?_; obtain ⟨y139, hy139, hF⟩ := bB hF
   refine rS (T_ixT (tc := t_api_State) p1 rfl rfl hy139 ?_); refine Q_run SV 1 rfl ?_; obtain ⟨r140, hr140, hF⟩ := bB hF
   refine rS (T_call (tracebookref27_right_fun _ _ hr140) ⟨⟨rfl, rfl, rfl, rfl, rfl, rfl, rfl, trivial⟩, trivial⟩ rfl (.inl rfl) ?_); refine QV rfl ?_; refine wIf hF rfl (fun _ hF => ?_) fun _ hF => ?_
   · refine wA rfl ?_; have hF := fin_0 _ (oi hF); cases hF
     exact W_ret wR
   refine W_skip ?_; refine W_seq ?_; refine W_join (fun _ _ h => h) hF (fun v141 => [(0, cO (11,1)), (1, cL 7 t_api_State p1), (5, cI a66), (6, cI a67), (7, cI r136), (58, cB v141)]) (fun v141 => [((11,1), .arr 76 3 (List.map t_api_Thread r1))]) ?_ ?_
   · rintro v141 hF
     refine wIf hF rfl (fun _ hF => ?_) fun _ hF => ?_
     · refine wC 3 rfl ?_; obtain ⟨y142, hy142, hF⟩ := bB hF
       refine rS (T_ixT (tc := t_api_State) p1 rfl rfl hy142 ?_); refine QV rfl ?_; refine W_seq ?_; refine W_join (fun _ _ h => h) hF (fun v143 => [(0, cO (11,1)), (1, cL 7 t_api_State p1), (5, cI a66), (6, cI a67), (103, cB v143)]) (fun v143 => [((11,1), .arr 76 3 (List.map t_api_Thread r1))]) ?_ ?_
       · rintro v143 hF
         refine wIf hF rfl (fun _ hF => ?_) fun _ hF => ?_
         · refine wA rfl ?_; have hF := fin_0 _ (oi hF); cases hF
           exact W_ret wR
         refine W_skip ?_; refine wB rfl ?_; exact cont_0 _ _ _ (oi hF) sw
       intro join hF
       refine W_regD (by decide) (by kernel_rfl) rfl ?_; refine Q_run SP 5 rfl ?_; obtain ⟨y145, hy145, hF⟩ := bB' hF
       refine R_step SP trivial (T_ixT (tc := t_api_State) p1 rfl rfl hy145 ?_); refine Q_run SP 5 rfl ?_; cases h146 : (!decide (y142.fSpan.fTo = y145.fSpan.fFrom))
       · have hF := bF' h146 hF; refine Q_run SP 4 rfl ?_; obtain ⟨y147, hy147, hF⟩ := bB' hF
         refine R_step SP rfl (T_ixT (tc := t_api_State) p1 rfl rfl hy147 ?_); refine Q_run SP 4 rfl ?_; cases h148 : (decide (y142.fState = y147.fState))
         · have hF := bF' h148 hF; refine QP rfl ?_; exact join false _ _ hF sw
         have hF := bT' h148 hF; refine Q_run SP 4 rfl ?_; obtain ⟨y149, hy149, hF⟩ := bB' hF
         refine R_step SP rfl (T_ixT (tc := t_api_State) p1 rfl rfl hy149 ?_); refine Q_run SP 5 rfl ?_; cases h150 : (decide (y142.fCpu = y149.fCpu))
         · have hF := bF' h150 hF; refine QP rfl ?_; exact join false _ _ hF sw
         have hF := bT' h150 hF; refine Q_run SP 4 rfl ?_; obtain ⟨y151, hy151, hF⟩ := bB' hF
         refine R_step SP rfl (T_ixT (tc := t_api_State) p1 rfl rfl hy151 ?_); refine QP rfl ?_; exact join (decide (y142.fOn = y151.fOn)) _ _ hF sw
       have hF := bT' h146 hF; refine QP rfl ?_; exact join true _ _ hF sw
     refine W_seq ?_; refine W_seq ?_; refine W_join (fun _ _ h => h) hF (fun v152 => [(0, cO (11,1)), (1, cL 7 t_api_State p1), (6, cI a67), (7, cI r136), (116, cB v152)]) (fun v152 => [((11,1), .arr 76 3 (List.map t_api_Thread r1))]) ?_ ?_
     · rintro v152 hF
       refine wIf hF rfl (fun _ hF => ?_) fun _ hF => ?_
       · refine wA rfl ?_; have hF := fin_0 _ (oi hF); cases hF
         exact W_ret wR
       refine W_skip ?_; refine wB rfl ?_; refine wB rfl ?_; exact cont_0 _ _ _ (oi hF) sw
     intro join hF
     refine wD 2 rfl ?_; obtain ⟨y154, hy154, hF⟩ := bB' hF
     refine rS (T_ixT (tc := t_api_State) p1 rfl rfl hy154 ?_); refine Q_run SV 5 rfl ?_; cases h155 : (!decide (y154.fSpan.fFrom = 0))
     · have hF := bF' h155 hF; refine QV rfl ?_; exact join (!decide (r136 = (w64 (a66 + 1)))) _ _ hF sw
     have hF := bT' h155 hF; refine QV rfl ?_; exact join true _ _ hF sw
   intro join hF
   refine W_regD (by decide) (by kernel_rfl) rfl ?_; refine Q_run SP 3 rfl ?_; cases h157 : (decide (0 < a67))
   · have hF := bF' h157 hF; refine QP rfl ?_; exact join false _ _ hF sw
   have hF := bT' h157 hF; refine Q_run SP 3 rfl ?_; obtain ⟨y158, hy158, hF⟩ := bB' hF
   refine R_step SP rfl (T_ixT (tc := t_api_State) p1 rfl rfl hy158 ?_); refine Q_run SP 4 rfl ?_; obtain ⟨y159, hy159, hF⟩ := bB' hF
   refine R_step SP rfl (T_ixT (tc := t_api_State) p1 rfl rfl hy159 ?_); refine QP rfl ?_; exact join (decide (y158.fThread = y159.fThread)) _ _ hF sw
 refine W_exit ?_; refine thenQ_exit ?_; refine thenQ_exit ?_; refine blockQ_hit ?_; exact brk_0 _ _ _ (oi hF) sw
def tracebookref28_natural (p0 : Int) : Option Bool :=
  (((bif (decide (0 ≤ p0)) then some (decide (p0 ≤ 1000000000000000)) else some false) : Option Bool).bind fun v1 => some v1)
theorem tracebookref28_natural_fun (p0 : Int) (r : Bool) (hF : tracebookref28_natural p0 = some r) : Fun Tryz.prog 144 true [] [cI p0] noHeap (cB r) noHeap := by
 refine Fun.of_walk0 Tryz.func144 c144 (by kernel_rfl) (rs := [.tmp 2]) (by kernel_rfl) ?_; unfold v144
 unfold tracebookref28_natural at hF
 refine wA rfl ?_; refine W_seq ?_; refine W_join (fun _ _ h => h) hF (fun v1 => [(2, cB v1)]) (fun v1 => []) ?_ ?_
 · rintro v1 hF
   cases hF
   exact W_ret wR
 intro join hF
 refine wD 3 rfl ?_; cases h2 : (decide (0 ≤ p0))
 · have hF := bF' h2 hF; refine QV rfl ?_; exact join false _ _ hF sw
 have hF := bT' h2 hF; refine QV rfl ?_; exact join (decide (p0 ≤ 1000000000000000)) _ _ hF sw
def tracebookref28_reading (p0 : Int) : Option Bool :=
  (((bif (decide (0 ≤ p0)) then some (decide (p0 ≤ 1000000000000)) else some false) : Option Bool).bind fun v1 => some v1)
theorem tracebookref28_reading_fun (p0 : Int) (r : Bool) (hF : tracebookref28_reading p0 = some r) : Fun Tryz.prog 145 true [] [cI p0] noHeap (cB r) noHeap := by
 refine Fun.of_walk0 Tryz.func145 c145 (by kernel_rfl) (rs := [.tmp 2]) (by kernel_rfl) ?_; unfold v145
 unfold tracebookref28_reading at hF
 refine wA rfl ?_; refine W_seq ?_; refine W_join (fun _ _ h => h) hF (fun v1 => [(2, cB v1)]) (fun v1 => []) ?_ ?_
 · rintro v1 hF
   cases hF
   exact W_ret wR
 intro join hF
 refine wD 3 rfl ?_; cases h2 : (decide (0 ≤ p0))
 · have hF := bF' h2 hF; refine QV rfl ?_; exact join false _ _ hF sw
 have hF := bT' h2 hF; refine QV rfl ?_; exact join (decide (p0 ≤ 1000000000000)) _ _ hF sw
def tracebookref28_Check_L1 (p0 : (List api_Flow)) : Int → Option (Int ⊕ (Unit ⊕ Int)) := fun a48 =>
  (bif (decide (a48 < (List.length p0 : Int))) then ((idx p0 a48).bind fun y71 => ((((tracebookref28_natural y71.fId).bind fun r79 => (bif (!r79) then some true else ((tracebookref28_natural y71.fFrom.fThread).bind fun r81 => (bif (!r81) then some true else ((tracebookref28_natural y71.fFrom.fSerial).bind fun r83 => (bif (!r83) then some true else ((tracebookref28_natural y71.fTo.fThread).bind fun r85 => (bif (!r85) then some true else ((tracebookref28_natural y71.fTo.fSerial).bind fun r87 => (bif (!r87) then some true else ((tracebookref28_reading y71.fSend).bind fun r89 => (bif (!r89) then some true else ((tracebookref28_reading y71.fRecv).bind fun r91 => some (!r91)))))))))))))) : Option Bool).bind fun v72 => (bif v72 then some (.inr (.inr 2)) else (((bif (decide (y71.fRecv < y71.fSend)) then some true else (bif (decide (0 < a48)) then ((idx p0 (w64 (a48 - 1))).bind fun y77 => some (decide (y71.fRecv < y77.fRecv))) else some false)) : Option Bool).bind fun v73 => (bif v73 then some (.inr (.inr 11)) else some (.inl (w64 (a48 + 1)))))))) else some (.inr (.inl ())))
def tracebookref28_Check (p0 : (List api_Flow)) : Option Int :=
  ((loop (tracebookref28_Check_L1 p0) 0).bind fun | .inl _ => some 0 | .inr rv => some rv)
theorem tracebookref28_Check_fun (p0 : (List api_Flow)) (r : Int) (hF : tracebookref28_Check p0 = some r) : Fun Tryz.prog 123 true [] [cL 7 t_api_Flow p0] noHeap (cI r) noHeap := by
 refine Fun.of_walk0 Tryz.func123 c123 (by kernel_rfl) (rs := [.tmp 2]) (by kernel_rfl) ?_; unfold v123
 unfold tracebookref28_Check at hF
 refine wA rfl ?_; refine W_seq ?_; refine wA rfl ?_; refine W_for (fun _ _ h => h) hF (.inl) (fun a48 => [(0, cL 7 t_api_Flow p0), (3, cI a48)]) (fun a48 => []) (fun _ => []) (fun _ => []) sw ?_ ?_
 · rintro ⟨⟩ hF
   refine wA rfl ?_; cases hF
   exact W_ret wR
 rintro a48 x_0 hF cont_0 brk_0 fin_0
 unfold tracebookref28_Check_L1 at hF
 refine W_seq ?_; refine wC 2 rfl ?_; refine rS (T_len (tc := t_api_Flow) p0 .tree ?_); refine QV rfl ?_; refine wIf hF rfl (fun _ hF => ?_) fun _ hF => ?_
 · refine W_skip ?_; refine W_seq ?_; refine W_block ?_; refine wC 2 rfl ?_; obtain ⟨y71, hy71, hF⟩ := bB hF
   refine rS (T_ixT (tc := t_api_Flow) p0 rfl rfl hy71 ?_); refine QV rfl ?_; refine W_seq ?_; refine W_seq ?_; refine W_join (fun _ _ h => h) hF (fun v72 => [(0, cL 7 t_api_Flow p0), (3, cI a48), (4, cP (4,0) 0), (58, cB v72)]) (fun v72 => [((4,0), .box (m_api_Flow y71))]) ?_ ?_
   · rintro v72 hF
     refine wIf hF rfl (fun _ hF => ?_) fun _ hF => ?_
     · refine wA rfl ?_; have hF := fin_0 _ (oi hF); cases hF
       exact W_ret wR
     refine W_skip ?_; refine W_seq ?_; refine W_join (fun _ _ h => h) hF (fun v73 => [(0, cL 7 t_api_Flow p0), (3, cI a48), (78, cB v73)]) (fun v73 => []) ?_ ?_
     · rintro v73 hF
       refine wIf hF rfl (fun _ hF => ?_) fun _ hF => ?_
       · refine wA rfl ?_; have hF := fin_0 _ (oi hF); cases hF
         exact W_ret wR
       refine W_skip ?_; refine wB rfl ?_; exact cont_0 _ _ _ (oi hF) sw
     intro join hF
     refine W_regD (by decide) (by kernel_rfl) rfl ?_; refine Q_run SP 6 rfl ?_; cases h75 : (decide (y71.fRecv < y71.fSend))
     · have hF := bF' h75 hF; refine Q_run SP 3 rfl ?_; cases h76 : (decide (0 < a48))
       · have hF := bF' h76 hF; refine QP rfl ?_; exact join false _ _ hF sw
       have hF := bT' h76 hF; refine Q_run SP 5 rfl ?_; obtain ⟨y77, hy77, hF⟩ := bB' hF
       refine R_step SP rfl (T_ixT (tc := t_api_Flow) p0 rfl rfl hy77 ?_); refine QP rfl ?_; exact join (decide (y71.fRecv < y77.fRecv)) _ _ hF sw
     have hF := bT' h75 hF; refine QP rfl ?_; exact join true _ _ hF sw
   intro join hF
   refine wD 2 rfl ?_; obtain ⟨r79, hr79, hF⟩ := bB' hF
   refine rS (T_call (tracebookref28_natural_fun _ _ hr79) ⟨rfl, trivial⟩ rfl (.inl rfl) ?_); refine Q_run SV 2 rfl ?_; cases h80 : (!r79)
   · have hF := bF' h80 hF; refine Q_run SV 3 rfl ?_; obtain ⟨r81, hr81, hF⟩ := bB' hF
     refine R_step SV rfl (T_call (tracebookref28_natural_fun _ _ hr81) ⟨rfl, trivial⟩ rfl (.inl rfl) ?_); refine Q_run SV 3 rfl ?_; cases h82 : (!r81)
     · have hF := bF' h82 hF; refine Q_run SV 3 rfl ?_; obtain ⟨r83, hr83, hF⟩ := bB' hF
       refine R_step SV rfl (T_call (tracebookref28_natural_fun _ _ hr83) ⟨rfl, trivial⟩ rfl (.inl rfl) ?_); refine Q_run SV 3 rfl ?_; cases h84 : (!r83)
       · have hF := bF' h84 hF; refine Q_run SV 3 rfl ?_; obtain ⟨r85, hr85, hF⟩ := bB' hF
         refine R_step SV rfl (T_call (tracebookref28_natural_fun _ _ hr85) ⟨rfl, trivial⟩ rfl (.inl rfl) ?_); refine Q_run SV 3 rfl ?_; cases h86 : (!r85)
         · have hF := bF' h86 hF; refine Q_run SV 3 rfl ?_; obtain ⟨r87, hr87, hF⟩ := bB' hF
           refine R_step SV rfl (T_call (tracebookref28_natural_fun _ _ hr87) ⟨rfl, trivial⟩ rfl (.inl rfl) ?_); refine Q_run SV 3 rfl ?_; cases h88 : (!r87)
           · have hF := bF' h88 hF; refine Q_run SV 2 rfl ?_; obtain ⟨r89, hr89, hF⟩ := bB' hF
             refine R_step SV rfl (T_call (tracebookref28_reading_fun _ _ hr89) ⟨rfl, trivial⟩ rfl (.inl rfl) ?_); refine Q_run SV 3 rfl ?_; cases h90 : (!r89)
             · have hF := bF' h90 hF; refine Q_run SV 2 rfl ?_; obtain ⟨r91, hr91, hF⟩ := bB' hF
               refine R_step SV rfl (T_call (tracebookref28_reading_fun _ _ hr91) ⟨rfl, trivial⟩ rfl (.inl rfl) ?_); refine QV rfl ?_; exact join (!r91) _ _ hF sw
             have hF := bT' h90 hF; refine QV rfl ?_; exact join true _ _ hF sw
           have hF := bT' h88 hF; refine QV rfl ?_; exact join true _ _ hF sw
         have hF := bT' h86 hF; refine QV rfl ?_; exact join true _ _ hF sw
       have hF := bT' h84 hF; refine QV rfl ?_; exact join true _ _ hF sw
     have hF := bT' h82 hF; refine QV rfl ?_; exact join true _ _ hF sw
   have hF := bT' h80 hF; refine QV rfl ?_; exact join true _ _ hF sw
 refine W_exit ?_; refine thenQ_exit ?_; refine thenQ_exit ?_; refine blockQ_hit ?_; exact brk_0 _ _ _ (oi hF) sw
def tracebookref29_inRange (p0 : api_Sample) : Option Bool :=
  (((bif (decide (0 ≤ p0.fThread)) then (bif (decide (p0.fThread ≤ 1000000000000000)) then (bif (decide (0 ≤ p0.fAt)) then (bif (decide (p0.fAt ≤ 1000000000000)) then (bif (decide (1 ≤ p0.fWeight)) then some (decide (p0.fWeight ≤ 1000000000000)) else some false) else some false) else some false) else some false) else some false) : Option Bool).bind fun v1 => some v1)
theorem tracebookref29_inRange_fun (p0 : api_Sample) (r : Bool) (hF : tracebookref29_inRange p0 = some r) : Fun Tryz.prog 146 true [] [.agg (m_api_Sample p0)] noHeap (cB r) noHeap := by
 refine Fun.of_walk0 Tryz.func146 c146 (by kernel_rfl) (rs := [.tmp 2]) (by kernel_rfl) ?_; unfold v146
 unfold tracebookref29_inRange at hF
 refine wA rfl ?_; refine W_seq ?_; refine W_join (fun _ _ h => h) hF (fun v1 => [(2, cB v1)]) (fun v1 => []) ?_ ?_
 · rintro v1 hF
   cases hF
   exact W_ret wR
 intro join hF
 refine wD 4 rfl ?_; cases h2 : (decide (0 ≤ p0.fThread))
 · have hF := bF' h2 hF; refine QV rfl ?_; exact join false _ _ hF sw
 have hF := bT' h2 hF; refine Q_run SV 5 rfl ?_; cases h3 : (decide (p0.fThread ≤ 1000000000000000))
 · have hF := bF' h3 hF; refine QV rfl ?_; exact join false _ _ hF sw
 have hF := bT' h3 hF; refine Q_run SV 5 rfl ?_; cases h4 : (decide (0 ≤ p0.fAt))
 · have hF := bF' h4 hF; refine QV rfl ?_; exact join false _ _ hF sw
 have hF := bT' h4 hF; refine Q_run SV 5 rfl ?_; cases h5 : (decide (p0.fAt ≤ 1000000000000))
 · have hF := bF' h5 hF; refine QV rfl ?_; exact join false _ _ hF sw
 have hF := bT' h5 hF; refine Q_run SV 5 rfl ?_; cases h6 : (decide (1 ≤ p0.fWeight))
 · have hF := bF' h6 hF; refine QV rfl ?_; exact join false _ _ hF sw
 have hF := bT' h6 hF; refine QV rfl ?_; exact join (decide (p0.fWeight ≤ 1000000000000)) _ _ hF sw
def tracebookref06_Frames_L1 (p0 : (List ByteArray)) : Int → Option (Int ⊕ (Unit ⊕ Int)) := fun a12 =>
  (bif (decide (a12 < (List.length p0 : Int))) then ((idx p0 a12).bind fun y17 => ((tracebookref06_Name y17).bind fun r18 => (bif (!decide (r18 = 0)) then some (.inr (.inr 3)) else some (.inl (w64 (a12 + 1)))))) else some (.inr (.inl ())))
def tracebookref06_Frames (p0 : (List ByteArray)) : Option Int :=
  (bif (decide (32 < (List.length p0 : Int))) then some 7 else ((loop (tracebookref06_Frames_L1 p0) 0).bind fun | .inl _ => some 0 | .inr rv => some rv))
theorem tracebookref06_Frames_fun (p0 : (List ByteArray)) (r : Int) (hF : tracebookref06_Frames p0 = some r) : Fun Tryz.prog 147 true [] [cL 1 t_str p0] noHeap (cI r) noHeap := by
 refine Fun.of_walk0 Tryz.func147 c147 (by kernel_rfl) (rs := [.tmp 2]) (by kernel_rfl) ?_; unfold v147
 unfold tracebookref06_Frames at hF
 refine wA rfl ?_; refine W_seq ?_; refine wC 1 rfl ?_; refine rS (T_len (tc := t_str) p0 .tree ?_); refine QV rfl ?_; refine wIf hF rfl (fun _ hF => ?_) fun _ hF => ?_
 · refine wA rfl ?_; cases hF
   exact W_ret wR
 refine W_skip ?_; refine W_seq ?_; refine wA rfl ?_; refine W_for (fun _ _ h => h) hF (.inl) (fun a12 => [(0, cL 1 t_str p0), (3, cI a12)]) (fun a12 => []) (fun _ => []) (fun _ => []) sw ?_ ?_
 · rintro ⟨⟩ hF
   refine wA rfl ?_; cases hF
   exact W_ret wR
 rintro a12 x_0 hF cont_0 brk_0 fin_0
 unfold tracebookref06_Frames_L1 at hF
 refine W_seq ?_; refine wC 2 rfl ?_; refine rS (T_len (tc := t_str) p0 .tree ?_); refine QV rfl ?_; refine wIf hF rfl (fun _ hF => ?_) fun _ hF => ?_
 · refine W_skip ?_; refine W_seq ?_; refine W_block ?_; refine wC 2 rfl ?_; obtain ⟨y17, hy17, hF⟩ := bB hF
   refine rS (T_ixT (tc := t_str) p0 rfl rfl hy17 ?_); refine Q_run SV 1 rfl ?_; obtain ⟨r18, hr18, hF⟩ := bB hF
   refine rS (T_call (tracebookref06_Name_fun _ _ hr18) ⟨rfl, trivial⟩ rfl (.inl rfl) ?_); refine QV rfl ?_; refine wIf hF rfl (fun _ hF => ?_) fun _ hF => ?_
   · refine wA rfl ?_; have hF := fin_0 _ (oi hF); cases hF
     exact W_ret wR
   refine W_skip ?_; refine wB rfl ?_; exact cont_0 _ _ _ (oi hF) sw
 refine W_exit ?_; refine thenQ_exit ?_; refine thenQ_exit ?_; refine blockQ_hit ?_; exact brk_0 _ _ _ (oi hF) sw
def tracebookref29_Check_L1 (p0 : (List api_Sample)) : Int → Option (Int ⊕ (Unit ⊕ Int)) := fun a28 =>
  (bif (decide (a28 < (List.length p0 : Int))) then ((idx p0 a28).bind fun y41 => ((tracebookref29_inRange y41).bind fun r42 => (bif (!r42) then some (.inr (.inr 2)) else ((idx p0 a28).bind fun y43 => ((tracebookref06_Frames y43.fStack).bind fun r44 => (bif (!decide (r44 = 0)) then some (.inr (.inr r44)) else (((bif (decide (0 < a28)) then ((idx p0 a28).bind fun y48 => ((idx p0 (w64 (a28 - 1))).bind fun y49 => some (decide (y48.fAt < y49.fAt)))) else some false) : Option Bool).bind fun v45 => (bif v45 then some (.inr (.inr 11)) else some (.inl (w64 (a28 + 1))))))))))) else some (.inr (.inl ())))
def tracebookref29_Check (p0 : (List api_Sample)) : Option Int :=
  ((loop (tracebookref29_Check_L1 p0) 0).bind fun | .inl _ => some 0 | .inr rv => some rv)
theorem tracebookref29_Check_fun (p0 : (List api_Sample)) (r : Int) (hF : tracebookref29_Check p0 = some r) : Fun Tryz.prog 124 true [] [cL 4 t_api_Sample p0] noHeap (cI r) noHeap := by
 refine Fun.of_walk0 Tryz.func124 c124 (by kernel_rfl) (rs := [.tmp 2]) (by kernel_rfl) ?_; unfold v124
 unfold tracebookref29_Check at hF
 refine wA rfl ?_; refine W_seq ?_; refine wA rfl ?_; refine W_for (fun _ _ h => h) hF (.inl) (fun a28 => [(0, cL 4 t_api_Sample p0), (3, cI a28)]) (fun a28 => []) (fun _ => []) (fun _ => []) sw ?_ ?_
 · rintro ⟨⟩ hF
   refine wA rfl ?_; cases hF
   exact W_ret wR
 rintro a28 x_0 hF cont_0 brk_0 fin_0
 unfold tracebookref29_Check_L1 at hF
 refine W_seq ?_; refine wC 2 rfl ?_; refine rS (T_len (tc := t_api_Sample) p0 .tree ?_); refine QV rfl ?_; refine wIf hF rfl (fun _ hF => ?_) fun _ hF => ?_
 · refine W_skip ?_; refine W_seq ?_; refine W_block ?_; refine W_seq ?_; refine wC 2 rfl ?_; obtain ⟨y41, hy41, hF⟩ := bB hF
   refine rS (T_ixT (tc := t_api_Sample) p0 rfl rfl hy41 ?_); refine Q_run SV 1 rfl ?_; obtain ⟨r42, hr42, hF⟩ := bB hF
   refine rS (T_call (tracebookref29_inRange_fun _ _ hr42) ⟨⟨rfl, rfl, rfl, rfl, trivial⟩, trivial⟩ rfl (.inl rfl) ?_); refine QV rfl ?_; refine wIf hF rfl (fun _ hF => ?_) fun _ hF => ?_
   · refine wA rfl ?_; have hF := fin_0 _ (oi hF); cases hF
     exact W_ret wR
   refine W_skip ?_; refine wC 2 rfl ?_; obtain ⟨y43, hy43, hF⟩ := bB hF
   refine rS (T_ixT (tc := t_api_Sample) p0 rfl rfl hy43 ?_); refine Q_run SV 2 rfl ?_; obtain ⟨r44, hr44, hF⟩ := bB hF
   refine rS (T_call (tracebookref06_Frames_fun _ _ hr44) ⟨rfl, trivial⟩ rfl (.inl rfl) ?_); refine QV rfl ?_; refine W_seq ?_; refine wA rfl ?_; refine wIf hF rfl (fun _ hF => ?_) fun _ hF => ?_
   · refine wA rfl ?_; have hF := fin_0 _ (oi hF); cases hF
     exact W_ret wR
   refine W_skip ?_; refine W_seq ?_; refine W_join (fun _ _ h => h) hF (fun v45 => [(0, cL 4 t_api_Sample p0), (3, cI a28), (41, cB v45)]) (fun v45 => []) ?_ ?_
   · rintro v45 hF
     refine wIf hF rfl (fun _ hF => ?_) fun _ hF => ?_
     · refine wA rfl ?_; have hF := fin_0 _ (oi hF); cases hF
       exact W_ret wR
     refine W_skip ?_; refine wB rfl ?_; exact cont_0 _ _ _ (oi hF) sw
   intro join hF
   refine W_regD (by decide) (by kernel_rfl) rfl ?_; refine Q_run SP 3 rfl ?_; cases h47 : (decide (0 < a28))
   · have hF := bF' h47 hF; refine QP rfl ?_; exact join false _ _ hF sw
   have hF := bT' h47 hF; refine Q_run SP 2 rfl ?_; obtain ⟨y48, hy48, hF⟩ := bB' hF
   refine R_step SP rfl (T_ixT (tc := t_api_Sample) p0 rfl rfl hy48 ?_); refine Q_run SP 5 rfl ?_; obtain ⟨y49, hy49, hF⟩ := bB' hF
   refine R_step SP rfl (T_ixT (tc := t_api_Sample) p0 rfl rfl hy49 ?_); refine QP rfl ?_; exact join (decide (y48.fAt < y49.fAt)) _ _ hF sw
 refine W_exit ?_; refine thenQ_exit ?_; refine thenQ_exit ?_; refine blockQ_hit ?_; exact brk_0 _ _ _ (oi hF) sw
def tracebookref30_Check_L1 (p0 : (List api_Step)) : Int → Option (Int ⊕ (Unit ⊕ Int)) := fun a58 =>
  (bif (decide (a58 < (List.length p0 : Int))) then ((idx p0 a58).bind fun y86 => ((tracebookref06_Name y86.fName).bind fun r87 => (bif (!decide (r87 = 0)) then some (.inr (.inr r87)) else ((((idx p0 a58).bind fun y104 => (bif (decide (y104.fAt < 0)) then some true else ((idx p0 a58).bind fun y106 => (bif (decide (1000000000000 < y106.fAt)) then some true else ((idx p0 a58).bind fun y108 => (bif (decide (y108.fValue < (-1000000000000000))) then some true else ((idx p0 a58).bind fun y110 => some (decide (1000000000000000 < y110.fValue))))))))) : Option Bool).bind fun v88 => (bif v88 then some (.inr (.inr 2)) else (((bif (decide (0 < a58)) then ((idx p0 a58).bind fun y92 => ((idx p0 (w64 (a58 - 1))).bind fun y93 => (bif (sLt y92.fName y93.fName) then some true else ((idx p0 a58).bind fun y95 => ((idx p0 (w64 (a58 - 1))).bind fun y96 => (bif (decide (y95.fName = y96.fName)) then ((idx p0 a58).bind fun y98 => ((idx p0 (w64 (a58 - 1))).bind fun y99 => (bif (decide (y98.fAt ≤ y99.fAt)) then some true else ((idx p0 a58).bind fun y101 => ((idx p0 (w64 (a58 - 1))).bind fun y102 => some (decide (y101.fValue = y102.fValue))))))) else some false)))))) else some false) : Option Bool).bind fun v89 => (bif v89 then some (.inr (.inr 11)) else some (.inl (w64 (a58 + 1)))))))))) else some (.inr (.inl ())))
def tracebookref30_Check (p0 : (List api_Step)) : Option Int :=
  ((loop (tracebookref30_Check_L1 p0) 0).bind fun | .inl _ => some 0 | .inr rv => some rv)
theorem tracebookref30_Check_fun (p0 : (List api_Step)) (r : Int) (hF : tracebookref30_Check p0 = some r) : Fun Tryz.prog 125 true [] [cL 3 t_api_Step p0] noHeap (cI r) noHeap := by
 refine Fun.of_walk0 Tryz.func125 c125 (by kernel_rfl) (rs := [.tmp 2]) (by kernel_rfl) ?_; unfold v125
 unfold tracebookref30_Check at hF
 refine wA rfl ?_; refine W_seq ?_; refine wA rfl ?_; refine W_for (fun _ _ h => h) hF (.inl) (fun a58 => [(0, cL 3 t_api_Step p0), (3, cI a58)]) (fun a58 => []) (fun _ => []) (fun _ => []) sw ?_ ?_
 · rintro ⟨⟩ hF
   refine wA rfl ?_; cases hF
   exact W_ret wR
 rintro a58 x_0 hF cont_0 brk_0 fin_0
 unfold tracebookref30_Check_L1 at hF
 refine W_seq ?_; refine wC 2 rfl ?_; refine rS (T_len (tc := t_api_Step) p0 .tree ?_); refine QV rfl ?_; refine wIf hF rfl (fun _ hF => ?_) fun _ hF => ?_
 · refine W_skip ?_; refine W_seq ?_; refine W_block ?_; refine wC 2 rfl ?_; obtain ⟨y86, hy86, hF⟩ := bB hF
   refine rS (T_ixT (tc := t_api_Step) p0 rfl rfl hy86 ?_); refine Q_run SV 2 rfl ?_; obtain ⟨r87, hr87, hF⟩ := bB hF
   refine rS (T_call (tracebookref06_Name_fun _ _ hr87) ⟨rfl, trivial⟩ rfl (.inl rfl) ?_); refine QV rfl ?_; refine W_seq ?_; refine wA rfl ?_; refine wIf hF rfl (fun _ hF => ?_) fun _ hF => ?_
   · refine wA rfl ?_; have hF := fin_0 _ (oi hF); cases hF
     exact W_ret wR
   refine W_skip ?_; refine W_seq ?_; refine W_seq ?_; refine W_join (fun _ _ h => h) hF (fun v88 => [(0, cL 3 t_api_Step p0), (3, cI a58), (49, cB v88)]) (fun v88 => []) ?_ ?_
   · rintro v88 hF
     refine wIf hF rfl (fun _ hF => ?_) fun _ hF => ?_
     · refine wA rfl ?_; have hF := fin_0 _ (oi hF); cases hF
       exact W_ret wR
     refine W_skip ?_; refine W_seq ?_; refine W_join (fun _ _ h => h) hF (fun v89 => [(0, cL 3 t_api_Step p0), (3, cI a58), (107, cB v89)]) (fun v89 => []) ?_ ?_
     · rintro v89 hF
       refine wIf hF rfl (fun _ hF => ?_) fun _ hF => ?_
       · refine wA rfl ?_; have hF := fin_0 _ (oi hF); cases hF
         exact W_ret wR
       refine W_skip ?_; refine wB rfl ?_; exact cont_0 _ _ _ (oi hF) sw
     intro join hF
     refine W_regD (by decide) (by kernel_rfl) rfl ?_; refine Q_run SP 3 rfl ?_; cases h91 : (decide (0 < a58))
     · have hF := bF' h91 hF; refine QP rfl ?_; exact join false _ _ hF sw
     have hF := bT' h91 hF; refine Q_run SP 2 rfl ?_; obtain ⟨y92, hy92, hF⟩ := bB' hF
     refine R_step SP rfl (T_ixT (tc := t_api_Step) p0 rfl rfl hy92 ?_); refine Q_run SP 5 rfl ?_; obtain ⟨y93, hy93, hF⟩ := bB' hF
     refine R_step SP rfl (T_ixT (tc := t_api_Step) p0 rfl rfl hy93 ?_); refine Q_run SP 4 rfl ?_; cases h94 : (sLt y92.fName y93.fName)
     · have hF := bF' h94 hF; refine Q_run SP 2 rfl ?_; obtain ⟨y95, hy95, hF⟩ := bB' hF
       refine R_step SP rfl (T_ixT (tc := t_api_Step) p0 rfl rfl hy95 ?_); refine Q_run SP 5 rfl ?_; obtain ⟨y96, hy96, hF⟩ := bB' hF
       refine R_step SP rfl (T_ixT (tc := t_api_Step) p0 rfl rfl hy96 ?_); refine Q_run SP 4 rfl ?_; cases h97 : (decide (y95.fName = y96.fName))
       · have hF := bF' h97 hF; refine QP rfl ?_; exact join false _ _ hF sw
       have hF := bT' h97 hF; refine Q_run SP 2 rfl ?_; obtain ⟨y98, hy98, hF⟩ := bB' hF
       refine R_step SP rfl (T_ixT (tc := t_api_Step) p0 rfl rfl hy98 ?_); refine Q_run SP 5 rfl ?_; obtain ⟨y99, hy99, hF⟩ := bB' hF
       refine R_step SP rfl (T_ixT (tc := t_api_Step) p0 rfl rfl hy99 ?_); refine Q_run SP 4 rfl ?_; cases h100 : (decide (y98.fAt ≤ y99.fAt))
       · have hF := bF' h100 hF; refine Q_run SP 2 rfl ?_; obtain ⟨y101, hy101, hF⟩ := bB' hF
         refine R_step SP rfl (T_ixT (tc := t_api_Step) p0 rfl rfl hy101 ?_); refine Q_run SP 5 rfl ?_; obtain ⟨y102, hy102, hF⟩ := bB' hF
         refine R_step SP rfl (T_ixT (tc := t_api_Step) p0 rfl rfl hy102 ?_); refine QP rfl ?_; exact join (decide (y101.fValue = y102.fValue)) _ _ hF sw
       have hF := bT' h100 hF; refine QP rfl ?_; exact join true _ _ hF sw
     have hF := bT' h94 hF; refine QP rfl ?_; exact join true _ _ hF sw
   intro join hF
   refine wD 2 rfl ?_; obtain ⟨y104, hy104, hF⟩ := bB' hF
   refine rS (T_ixT (tc := t_api_Step) p0 rfl rfl hy104 ?_); refine Q_run SV 4 rfl ?_; cases h105 : (decide (y104.fAt < 0))
   · have hF := bF' h105 hF; refine Q_run SV 2 rfl ?_; obtain ⟨y106, hy106, hF⟩ := bB' hF
     refine R_step SV rfl (T_ixT (tc := t_api_Step) p0 rfl rfl hy106 ?_); refine Q_run SV 5 rfl ?_; cases h107 : (decide (1000000000000 < y106.fAt))
     · have hF := bF' h107 hF; refine Q_run SV 2 rfl ?_; obtain ⟨y108, hy108, hF⟩ := bB' hF
       refine R_step SV rfl (T_ixT (tc := t_api_Step) p0 rfl rfl hy108 ?_); refine Q_run SV 5 rfl ?_; cases h109 : (decide (y108.fValue < (-1000000000000000)))
       · have hF := bF' h109 hF; refine Q_run SV 2 rfl ?_; obtain ⟨y110, hy110, hF⟩ := bB' hF
         refine R_step SV rfl (T_ixT (tc := t_api_Step) p0 rfl rfl hy110 ?_); refine QV rfl ?_; exact join (decide (1000000000000000 < y110.fValue)) _ _ hF sw
       have hF := bT' h109 hF; refine QV rfl ?_; exact join true _ _ hF sw
     have hF := bT' h107 hF; refine QV rfl ?_; exact join true _ _ hF sw
   have hF := bT' h105 hF; refine QV rfl ?_; exact join true _ _ hF sw
 refine W_exit ?_; refine thenQ_exit ?_; refine thenQ_exit ?_; refine blockQ_hit ?_; exact brk_0 _ _ _ (oi hF) sw
def tracebookref31_common (p0 : api_Span) (p1 : api_Span) : Option Bool :=
  (((bif (decide (p0.fFrom < p1.fTo)) then some (decide (p1.fFrom < p0.fTo)) else some false) : Option Bool).bind fun v1 => some v1)
theorem tracebookref31_common_fun (p0 : api_Span) (p1 : api_Span) (r : Bool) (hF : tracebookref31_common p0 p1 = some r) : Fun Tryz.prog 148 true [] [.agg [jI p0.fFrom, jI p0.fTo], .agg [jI p1.fFrom, jI p1.fTo]] noHeap (cB r) noHeap := by
 refine Fun.of_walk0 Tryz.func148 c148 (by kernel_rfl) (rs := [.tmp 4]) (by kernel_rfl) ?_; unfold v148
 unfold tracebookref31_common at hF
 refine wA rfl ?_; refine W_seq ?_; refine W_join (fun _ _ h => h) hF (fun v1 => [(4, cB v1)]) (fun v1 => []) ?_ ?_
 · rintro v1 hF
   cases hF
   exact W_ret wR
 intro join hF
 refine wD 6 rfl ?_; cases h2 : (decide (p0.fFrom < p1.fTo))
 · have hF := bF' h2 hF; refine QV rfl ?_; exact join false _ _ hF sw
 have hF := bT' h2 hF; refine QV rfl ?_; exact join (decide (p1.fFrom < p0.fTo)) _ _ hF sw
def tracebookref31_Check_L1 (p0 : (List api_Block)) (a104 : Int) (y155 : api_Block) : Int → Option (Int ⊕ (Unit ⊕ (Int ⊕ (Unit ⊕ Int)))) := fun a176 =>
  (bif (decide (a176 < a104)) then ((((idx p0 a176).bind fun y186 => (bif (decide (y186.fId = y155.fId)) then ((idx p0 a176).bind fun y188 => ((tracebookref31_common y188.fSpan y155.fSpan).bind fun r189 => some r189)) else some false)) : Option Bool).bind fun v184 => (bif v184 then some (.inr (.inr (.inr (.inr 4)))) else some (.inl (w64 (a176 + 1))))) else some (.inr (.inl ())))
def tracebookref31_Check_L2 (p0 : (List api_Block)) : Int → Option (Int ⊕ (Unit ⊕ Int)) := fun a104 =>
  (bif (decide (a104 < (List.length p0 : Int))) then ((idx p0 a104).bind fun y155 => (((bif (decide (y155.fId < 0)) then some true else (bif (decide (1000000000000000 < y155.fId)) then some true else (bif (decide (y155.fThread < 0)) then some true else (bif (decide (1000000000000000 < y155.fThread)) then some true else (bif (decide (y155.fSize < 1)) then some true else (bif (decide (1000000000000 < y155.fSize)) then some true else (bif (decide (y155.fSpan.fFrom < 0)) then some true else (bif (decide (y155.fSpan.fTo ≤ y155.fSpan.fFrom)) then some true else some (decide (1000000000000 < y155.fSpan.fTo)))))))))) : Option Bool).bind fun v156 => (bif v156 then some (.inr (.inr 2)) else ((tracebookref06_Frames y155.fStack).bind fun r157 => (bif (!decide (r157 = 0)) then some (.inr (.inr r157)) else (((bif (decide (0 < a104)) then ((idx p0 (w64 (a104 - 1))).bind fun y193 => some (decide (y155.fSpan.fFrom < y193.fSpan.fFrom))) else some false) : Option Bool).bind fun v158 => (bif v158 then some (.inr (.inr 11)) else ((loop (tracebookref31_Check_L1 p0 a104 y155) 0).bind fun | .inl _ => some (.inl (w64 (a104 + 1))) | .inr rv => some rv)))))))) else some (.inr (.inl ())))
def tracebookref31_Check (p0 : (List api_Block)) : Option Int :=
  ((loop (tracebookref31_Check_L2 p0) 0).bind fun | .inl _ => some 0 | .inr rv => some rv)
theorem tracebookref31_Check_fun (p0 : (List api_Block)) (r : Int) (hF : tracebookref31_Check p0 = some r) : Fun Tryz.prog 126 true [] [cL 7 t_api_Block p0] noHeap (cI r) noHeap := by
 refine Fun.of_walk0 Tryz.func126 c126 (by kernel_rfl) (rs := [.tmp 2]) (by kernel_rfl) ?_; unfold v126
 unfold tracebookref31_Check at hF
 refine wA rfl ?_; refine W_seq ?_; refine wA rfl ?_; refine W_for (fun _ _ h => h) hF (.inl) (fun a104 => [(0, cL 7 t_api_Block p0), (3, cI a104)]) (fun a104 => []) (fun _ => []) (fun _ => []) sw ?_ ?_
 · rintro ⟨⟩ hF
   refine wA rfl ?_; cases hF
   exact W_ret wR
 rintro a104 x_0 hF cont_0 brk_0 fin_0
 unfold tracebookref31_Check_L2 at hF
 refine W_seq ?_; refine wC 2 rfl ?_; refine rS (T_len (tc := t_api_Block) p0 .tree ?_); refine QV rfl ?_; refine wIf hF rfl (fun _ hF => ?_) fun _ hF => ?_
 · refine W_skip ?_; refine W_seq ?_; refine W_block ?_; refine wC 2 rfl ?_; obtain ⟨y155, hy155, hF⟩ := bB hF
   refine rS (T_ixT (tc := t_api_Block) p0 rfl rfl hy155 ?_); refine QV rfl ?_; refine W_seq ?_; refine W_seq ?_; refine W_join (fun _ _ h => h) hF (fun v156 => [(0, cL 7 t_api_Block p0), (3, cI a104), (4, cP (4,0) 0), (65, cB v156)]) (fun v156 => [((4,0), .box (m_api_Block y155))]) ?_ ?_
   · rintro v156 hF
     refine wIf hF rfl (fun _ hF => ?_) fun _ hF => ?_
     · refine wA rfl ?_; have hF := fin_0 _ (oi hF); cases hF
       exact W_ret wR
     refine W_skip ?_; refine wC 2 rfl ?_; obtain ⟨r157, hr157, hF⟩ := bB hF
     refine rS (T_call (tracebookref06_Frames_fun _ _ hr157) ⟨rfl, trivial⟩ rfl (.inl rfl) ?_); refine QV rfl ?_; refine W_seq ?_; refine wA rfl ?_; refine wIf hF rfl (fun _ hF => ?_) fun _ hF => ?_
     · refine wA rfl ?_; have hF := fin_0 _ (oi hF); cases hF
       exact W_ret wR
     refine W_skip ?_; refine W_seq ?_; refine W_seq ?_; refine W_join (fun _ _ h => h) hF (fun v158 => [(0, cL 7 t_api_Block p0), (3, cI a104), (4, cP (4,0) 0), (86, cB v158)]) (fun v158 => [((4,0), .box (m_api_Block y155))]) ?_ ?_
     · rintro v158 hF
       refine wIf hF rfl (fun _ hF => ?_) fun _ hF => ?_
       · refine wA rfl ?_; have hF := fin_0 _ (oi hF); cases hF
         exact W_ret wR
       refine W_skip ?_; refine wA rfl ?_; refine W_for (fun _ _ h => h) hF (.inl) (fun a176 => [(0, cL 7 t_api_Block p0), (3, cI a104), (4, cP (4,0) 0), (6, cI a176)]) (fun a176 => [((4,0), .box (m_api_Block y155))]) (fun _ => [(0, cL 7 t_api_Block p0), (3, cI a104)]) (fun _ => []) sw ?_ ?_
       · rintro ⟨⟩ hF
         refine wB rfl ?_; exact cont_0 _ _ _ (oi hF) sw
       rintro a176 x_1 hF cont_1 brk_1 fin_1
       unfold tracebookref31_Check_L1 at hF
       refine W_seq ?_; refine wA rfl ?_; refine wIf hF rfl (fun _ hF => ?_) fun _ hF => ?_
       · refine W_skip ?_; refine W_seq ?_; refine W_block ?_; refine W_seq ?_; refine W_join (fun _ _ h => h) hF (fun v184 => [(0, cL 7 t_api_Block p0), (3, cI a104), (4, cP (4,0) 0), (6, cI a176), (109, cB v184)]) (fun v184 => [((4,0), .box (m_api_Block y155))]) ?_ ?_
         · rintro v184 hF
           refine wIf hF rfl (fun _ hF => ?_) fun _ hF => ?_
           · refine wA rfl ?_; have hF := fin_1 _ (oi hF); have hF := fin_0 _ (oi hF); cases hF
             exact W_ret wR
           refine W_skip ?_; refine wB rfl ?_; exact cont_1 _ _ _ (oi hF) sw
         intro join hF
         refine W_regD (by decide) (by kernel_rfl) rfl ?_; refine Q_run SP 2 rfl ?_; obtain ⟨y186, hy186, hF⟩ := bB' hF
         refine R_step SP trivial (T_ixT (tc := t_api_Block) p0 rfl rfl hy186 ?_); refine Q_run SP 6 rfl ?_; cases h187 : (decide (y186.fId = y155.fId))
         · have hF := bF' h187 hF; refine QP rfl ?_; exact join false _ _ hF sw
         have hF := bT' h187 hF; refine Q_run SP 2 rfl ?_; obtain ⟨y188, hy188, hF⟩ := bB' hF
         refine R_step SP rfl (T_ixT (tc := t_api_Block) p0 rfl rfl hy188 ?_); refine Q_run SP 4 rfl ?_; obtain ⟨r189, hr189, hF⟩ := bB' hF
         refine R_step SP rfl (T_call (tracebookref31_common_fun _ _ _ hr189) ⟨⟨rfl, rfl, trivial⟩, ⟨rfl, rfl, trivial⟩, trivial⟩ rfl (.inl rfl) ?_); refine QP rfl ?_; exact join r189 _ _ hF sw
       refine W_exit ?_; refine thenQ_exit ?_; refine thenQ_exit ?_; refine blockQ_hit ?_; exact brk_1 _ _ _ (oi hF) sw
     intro join hF
     refine W_regD (by decide) (by kernel_rfl) rfl ?_; refine Q_run SP 3 rfl ?_; cases h192 : (decide (0 < a104))
     · have hF := bF' h192 hF; refine QP rfl ?_; exact join false _ _ hF sw
     have hF := bT' h192 hF; refine Q_run SP 6 rfl ?_; obtain ⟨y193, hy193, hF⟩ := bB' hF
     refine R_step SP rfl (T_ixT (tc := t_api_Block) p0 rfl rfl hy193 ?_); refine QP rfl ?_; exact join (decide (y155.fSpan.fFrom < y193.fSpan.fFrom)) _ _ hF sw
   intro join hF
   refine wD 4 rfl ?_; cases h196 : (decide (y155.fId < 0))
   · have hF := bF' h196 hF; refine Q_run SV 5 rfl ?_; cases h197 : (decide (1000000000000000 < y155.fId))
     · have hF := bF' h197 hF; refine Q_run SV 5 rfl ?_; cases h198 : (decide (y155.fThread < 0))
       · have hF := bF' h198 hF; refine Q_run SV 5 rfl ?_; cases h199 : (decide (1000000000000000 < y155.fThread))
         · have hF := bF' h199 hF; refine Q_run SV 5 rfl ?_; cases h200 : (decide (y155.fSize < 1))
           · have hF := bF' h200 hF; refine Q_run SV 5 rfl ?_; cases h201 : (decide (1000000000000 < y155.fSize))
             · have hF := bF' h201 hF; refine Q_run SV 6 rfl ?_; cases h202 : (decide (y155.fSpan.fFrom < 0))
               · have hF := bF' h202 hF; refine Q_run SV 9 rfl ?_; cases h203 : (decide (y155.fSpan.fTo ≤ y155.fSpan.fFrom))
                 · have hF := bF' h203 hF; refine QV rfl ?_; exact join (decide (1000000000000 < y155.fSpan.fTo)) _ _ hF sw
                 have hF := bT' h203 hF; refine QV rfl ?_; exact join true _ _ hF sw
               have hF := bT' h202 hF; refine QV rfl ?_; exact join true _ _ hF sw
             have hF := bT' h201 hF; refine QV rfl ?_; exact join true _ _ hF sw
           have hF := bT' h200 hF; refine QV rfl ?_; exact join true _ _ hF sw
         have hF := bT' h199 hF; refine QV rfl ?_; exact join true _ _ hF sw
       have hF := bT' h198 hF; refine QV rfl ?_; exact join true _ _ hF sw
     have hF := bT' h197 hF; refine QV rfl ?_; exact join true _ _ hF sw
   have hF := bT' h196 hF; refine QV rfl ?_; exact join true _ _ hF sw
 refine W_exit ?_; refine thenQ_exit ?_; refine thenQ_exit ?_; refine blockQ_hit ?_; exact brk_0 _ _ _ (oi hF) sw
def tracebookref32_rows_L1 (p0 : api_Trace) : (Int × Int) → Option ((Int × Int) ⊕ Int) := fun (a169, a170) =>
  (((bif (decide (a170 < (List.length p0.fLost : Int))) then some (decide (a169 = 0)) else some false) : Option Bool).bind fun v184 => (bif v184 then ((((idx p0.fLost a170).bind fun y186 => ((tracebookref32_Has p0 y186.fThread).bind fun r187 => (bif (!r187) then some 5 else ((((tracebookref04_Valid y186.fSpan).bind fun r190 => (bif (!r190) then some true else (bif (decide (y186.fCount < 1)) then some true else some (decide (1000000000000000 < y186.fCount))))) : Option Bool).bind fun v188 => (bif v188 then some 2 else some a169))))) : Option Int).bind fun v185 => some (.inl (v185, (w64 (a170 + 1))))) else some (.inr a169)))
def tracebookref32_rows_L2 (p0 : api_Trace) : (Int × Int) → Option ((Int × Int) ⊕ Int) := fun (a129, a130) =>
  (((bif (decide (a130 < (List.length p0.fBlocks : Int))) then some (decide (a129 = 0)) else some false) : Option Bool).bind fun v196 => (bif v196 then ((((idx p0.fBlocks a130).bind fun y198 => ((tracebookref32_Has p0 y198.fThread).bind fun r199 => (bif (!r199) then some 5 else some a129))) : Option Int).bind fun v197 => some (.inl (v197, (w64 (a130 + 1))))) else some (.inr a129)))
def tracebookref32_rows_L3 (p0 : api_Trace) : (Int × Int) → Option ((Int × Int) ⊕ Int) := fun (a97, a98) =>
  (((bif (decide (a98 < (List.length p0.fSamples : Int))) then some (decide (a97 = 0)) else some false) : Option Bool).bind fun v207 => (bif v207 then ((((idx p0.fSamples a98).bind fun y209 => ((tracebookref32_Has p0 y209.fThread).bind fun r210 => (bif (!r210) then some 5 else some a97))) : Option Int).bind fun v208 => some (.inl (v208, (w64 (a98 + 1))))) else some (.inr a97)))
def tracebookref32_rows_L4 (p0 : api_Trace) : (Int × Int) → Option ((Int × Int) ⊕ Int) := fun (a62, a63) =>
  (((bif (decide (a63 < (List.length p0.fFlows : Int))) then some (decide (a62 = 0)) else some false) : Option Bool).bind fun v216 => (bif v216 then ((((((idx p0.fFlows a63).bind fun y220 => ((tracebookref32_Has p0 y220.fFrom.fThread).bind fun r221 => (bif (!r221) then some true else ((idx p0.fFlows a63).bind fun y223 => ((tracebookref32_Has p0 y223.fTo.fThread).bind fun r224 => some (!r224)))))) : Option Bool).bind fun v218 => (bif v218 then some 5 else some a62)) : Option Int).bind fun v217 => some (.inl (v217, (w64 (a63 + 1))))) else some (.inr a62)))
def tracebookref32_rows_L5 (p0 : api_Trace) : (Int × Int) → Option ((Int × Int) ⊕ Int) := fun (a22, a23) =>
  (((bif (decide (a23 < (List.length p0.fSlices : Int))) then some (decide (a22 = 0)) else some false) : Option Bool).bind fun v231 => (bif v231 then ((((idx p0.fSlices a23).bind fun y233 => ((tracebookref32_Has p0 y233.fThread).bind fun r234 => (bif (!r234) then some 5 else some a22))) : Option Int).bind fun v232 => some (.inl (v232, (w64 (a23 + 1))))) else some (.inr a22)))
def tracebookref32_rows (p0 : api_Trace) : Option Int :=
  ((tracebookref26_Check p0.fSlices).bind fun r1 => ((loop (tracebookref32_rows_L5 p0) (r1, 0)).bind fun e31 => (((bif (decide (e31 = 0)) then ((tracebookref27_Check p0.fThreads p0.fStates).bind fun r229 => some r229) else some e31) : Option Int).bind fun v32 => (((bif (decide (v32 = 0)) then ((tracebookref28_Check p0.fFlows).bind fun r227 => some r227) else some v32) : Option Int).bind fun v33 => ((loop (tracebookref32_rows_L4 p0) (v33, 0)).bind fun e75 => (((bif (decide (e75 = 0)) then ((tracebookref29_Check p0.fSamples).bind fun r214 => some r214) else some e75) : Option Int).bind fun v76 => ((loop (tracebookref32_rows_L3 p0) (v76, 0)).bind fun e106 => (((bif (decide (e106 = 0)) then ((tracebookref30_Check p0.fSteps).bind fun r205 => some r205) else some e106) : Option Int).bind fun v107 => (((bif (decide (v107 = 0)) then ((tracebookref31_Check p0.fBlocks).bind fun r203 => some r203) else some v107) : Option Int).bind fun v108 => ((loop (tracebookref32_rows_L2 p0) (v108, 0)).bind fun e138 => ((loop (tracebookref32_rows_L1 p0) (e138, 0)).bind fun e183 => some e183)))))))))))
theorem tracebookref32_rows_fun (p0 : api_Trace) (r : Int) (hF : tracebookref32_rows p0 = some r) : Fun Tryz.prog 85 true [] [.agg (m_api_Trace p0)] noHeap (cI r) noHeap := by
 refine Fun.of_walk0 Tryz.func85 c85 (by kernel_rfl) (rs := [.tmp 2]) (by kernel_rfl) ?_; unfold v85
 unfold tracebookref32_rows at hF
 refine wA rfl ?_; refine wC 2 rfl ?_; obtain ⟨r1, hr1, hF⟩ := bB hF
 refine rS (T_call (tracebookref26_Check_fun _ _ hr1) ⟨rfl, trivial⟩ rfl (.inl rfl) ?_); refine QV rfl ?_; refine W_seq ?_; refine wA rfl ?_; refine W_for (fun _ _ h => h) hF (id) (fun (a22, a23) => [(1, cP (1,0) 0), (3, cI a22), (4, cI a23)]) (fun (a22, a23) => [((1,0), .box (m_api_Trace p0))]) (fun e31 => [(1, cP (1,0) 0), (3, cI e31)]) (fun e31 => [((1,0), .box (m_api_Trace p0))]) sw ?_ ?_
 · rintro e31 hF
   refine W_seq ?_; refine wA rfl ?_; refine W_join (fun _ _ h => h) hF (fun v32 => [(1, cP (1,0) 0), (3, cI v32)]) (fun v32 => [((1,0), .box (m_api_Trace p0))]) ?_ ?_
   · rintro v32 hF
     refine W_seq ?_; refine wA rfl ?_; refine W_join (fun _ _ h => h) hF (fun v33 => [(1, cP (1,0) 0), (3, cI v33)]) (fun v33 => [((1,0), .box (m_api_Trace p0))]) ?_ ?_
     · rintro v33 hF
       refine W_seq ?_; refine wA rfl ?_; refine W_for (fun _ _ h => h) hF (id) (fun (a62, a63) => [(1, cP (1,0) 0), (3, cI a62), (5, cI a63)]) (fun (a62, a63) => [((1,0), .box (m_api_Trace p0))]) (fun e75 => [(1, cP (1,0) 0), (3, cI e75)]) (fun e75 => [((1,0), .box (m_api_Trace p0))]) sw ?_ ?_
       · rintro e75 hF
         refine W_seq ?_; refine wA rfl ?_; refine W_join (fun _ _ h => h) hF (fun v76 => [(1, cP (1,0) 0), (3, cI v76)]) (fun v76 => [((1,0), .box (m_api_Trace p0))]) ?_ ?_
         · rintro v76 hF
           refine W_seq ?_; refine wA rfl ?_; refine W_for (fun _ _ h => h) hF (id) (fun (a97, a98) => [(1, cP (1,0) 0), (3, cI a97), (6, cI a98)]) (fun (a97, a98) => [((1,0), .box (m_api_Trace p0))]) (fun e106 => [(1, cP (1,0) 0), (3, cI e106)]) (fun e106 => [((1,0), .box (m_api_Trace p0))]) sw ?_ ?_
           · rintro e106 hF
             refine W_seq ?_; refine wA rfl ?_; refine W_join (fun _ _ h => h) hF (fun v107 => [(1, cP (1,0) 0), (3, cI v107)]) (fun v107 => [((1,0), .box (m_api_Trace p0))]) ?_ ?_
             · rintro v107 hF
               refine W_seq ?_; refine wA rfl ?_; refine W_join (fun _ _ h => h) hF (fun v108 => [(1, cP (1,0) 0), (3, cI v108)]) (fun v108 => [((1,0), .box (m_api_Trace p0))]) ?_ ?_
               · rintro v108 hF
                 refine W_seq ?_; refine wA rfl ?_; refine W_for (fun _ _ h => h) hF (id) (fun (a129, a130) => [(1, cP (1,0) 0), (3, cI a129), (7, cI a130)]) (fun (a129, a130) => [((1,0), .box (m_api_Trace p0))]) (fun e138 => [(1, cP (1,0) 0), (3, cI e138)]) (fun e138 => [((1,0), .box (m_api_Trace p0))]) sw ?_ ?_
                 · rintro e138 hF
                   refine W_seq ?_; refine wA rfl ?_; refine W_for (fun _ _ h => h) hF (id) (fun (a169, a170) => [(1, cP (1,0) 0), (3, cI a169), (8, cI a170)]) (fun (a169, a170) => [((1,0), .box (m_api_Trace p0))]) (fun e183 => [(3, cI e183)]) (fun e183 => []) sw ?_ ?_
                   · rintro e183 hF
                     refine wA rfl ?_; cases hF
                     exact W_ret wR
                   rintro ⟨a169, a170⟩ x_0 hF cont_0 brk_0 fin_0
                   unfold tracebookref32_rows_L1 at hF
                   refine W_seq ?_; refine W_seq ?_; refine W_join (fun _ _ h => h) hF (fun v184 => [(1, cP (1,0) 0), (3, cI a169), (8, cI a170), (141, cB v184)]) (fun v184 => [((1,0), .box (m_api_Trace p0))]) ?_ ?_
                   · rintro v184 hF
                     refine wIf hF rfl (fun _ hF => ?_) fun _ hF => ?_
                     · refine W_skip ?_; refine W_seq ?_; refine W_join (fun _ _ h => h) hF (fun v185 => [(1, cP (1,0) 0), (3, cI v185), (8, cI a170)]) (fun v185 => [((1,0), .box (m_api_Trace p0))]) ?_ ?_
                       · rintro v185 hF
                         refine wB rfl ?_; exact cont_0 _ _ _ (oi hF) sw
                       intro join hF
                       refine W_block ?_; refine wC 3 rfl ?_; obtain ⟨y186, hy186, hF⟩ := bB' hF
                       refine rS (T_ixT (tc := t_api_Loss) p0.fLost rfl rfl hy186 ?_); refine QV rfl ?_; refine wC 3 rfl ?_; obtain ⟨r187, hr187, hF⟩ := bB' hF
                       refine rS (T_call (tracebookref32_Has_fun _ _ _ hr187) ⟨⟨rfl, rfl, rfl, rfl, rfl, rfl, rfl, rfl, rfl, rfl, trivial⟩, rfl, trivial⟩ rfl (.inl rfl) ?_); refine QV rfl ?_; refine wIf' hF rfl (fun _ hF => ?_) fun _ hF => ?_
                       · refine wB rfl ?_; exact join 5 _ _ hF sw
                       refine W_seq ?_; have hF := bA hF; refine W_join (fun _ _ h => h) hF (fun v188 => [(1, cP (1,0) 0), (3, cI a169), (8, cI a170), (167, cB v188)]) (fun v188 => [((1,0), .box (m_api_Trace p0))]) ?_ ?_
                       · rintro v188 hF
                         refine wIf' hF rfl (fun _ hF => ?_) fun _ hF => ?_
                         · refine wB rfl ?_; exact join 2 _ _ hF sw
                         refine W_skip ?_; exact join a169 _ _ hF sw
                       intro join hF
                       refine wD 2 rfl ?_; obtain ⟨r190, hr190, hF⟩ := bB' hF
                       refine rS (T_call (tracebookref04_Valid_fun _ _ hr190) ⟨⟨rfl, rfl, trivial⟩, trivial⟩ rfl (.inl rfl) ?_); refine Q_run SV 2 rfl ?_; cases h191 : (!r190)
                       · have hF := bF' h191 hF; refine Q_run SV 5 rfl ?_; cases h192 : (decide (y186.fCount < 1))
                         · have hF := bF' h192 hF; refine QV rfl ?_; exact join (decide (1000000000000000 < y186.fCount)) _ _ hF sw
                         have hF := bT' h192 hF; refine QV rfl ?_; exact join true _ _ hF sw
                       have hF := bT' h191 hF; refine QV rfl ?_; exact join true _ _ hF sw
                     refine W_exit ?_; refine thenQ_exit ?_; refine thenQ_exit ?_; refine blockQ_hit ?_; exact brk_0 _ _ _ (oi hF) sw
                   intro join hF
                   refine wD 3 rfl ?_; refine rS (T_len (tc := t_api_Loss) p0.fLost .tree ?_); refine Q_run SV 2 rfl ?_; cases h195 : (decide (a170 < (List.length p0.fLost : Int)))
                   · have hF := bF' h195 hF; refine QV rfl ?_; exact join false _ _ hF sw
                   have hF := bT' h195 hF; refine QV rfl ?_; exact join (decide (a169 = 0)) _ _ hF sw
                 rintro ⟨a129, a130⟩ x_0 hF cont_0 brk_0 fin_0
                 unfold tracebookref32_rows_L2 at hF
                 refine W_seq ?_; refine W_seq ?_; refine W_join (fun _ _ h => h) hF (fun v196 => [(1, cP (1,0) 0), (3, cI a129), (7, cI a130), (121, cB v196)]) (fun v196 => [((1,0), .box (m_api_Trace p0))]) ?_ ?_
                 · rintro v196 hF
                   refine wIf hF rfl (fun _ hF => ?_) fun _ hF => ?_
                   · refine W_skip ?_; refine W_seq ?_; refine W_join (fun _ _ h => h) hF (fun v197 => [(1, cP (1,0) 0), (3, cI v197), (7, cI a130)]) (fun v197 => [((1,0), .box (m_api_Trace p0))]) ?_ ?_
                     · rintro v197 hF
                       refine wB rfl ?_; exact cont_0 _ _ _ (oi hF) sw
                     intro join hF
                     refine W_block ?_; refine W_seq ?_; refine W_regD (by decide) (by kernel_rfl) rfl ?_; refine Q_run SP 4 rfl ?_; obtain ⟨y198, hy198, hF⟩ := bB' hF
                     refine R_step SP trivial (T_ixT (tc := t_api_Block) p0.fBlocks rfl rfl hy198 ?_); refine Q_run SP 2 rfl ?_; obtain ⟨r199, hr199, hF⟩ := bB' hF
                     refine R_step SP trivial (T_call (tracebookref32_Has_fun _ _ _ hr199) ⟨⟨rfl, rfl, rfl, rfl, rfl, rfl, rfl, rfl, rfl, rfl, trivial⟩, rfl, trivial⟩ rfl (.inl rfl) ?_); refine QP rfl ?_; refine wIf' hF rfl (fun _ hF => ?_) fun _ hF => ?_
                     · refine wB rfl ?_; exact join 5 _ _ hF sw
                     refine W_skip ?_; exact join a129 _ _ hF sw
                   refine W_exit ?_; refine thenQ_exit ?_; refine thenQ_exit ?_; refine blockQ_hit ?_; exact brk_0 _ _ _ (oi hF) sw
                 intro join hF
                 refine wD 3 rfl ?_; refine rS (T_len (tc := t_api_Block) p0.fBlocks .tree ?_); refine Q_run SV 2 rfl ?_; cases h202 : (decide (a130 < (List.length p0.fBlocks : Int)))
                 · have hF := bF' h202 hF; refine QV rfl ?_; exact join false _ _ hF sw
                 have hF := bT' h202 hF; refine QV rfl ?_; exact join (decide (a129 = 0)) _ _ hF sw
               intro join hF
               refine wIf' hF rfl (fun _ hF => ?_) fun _ hF => ?_
               · refine wD 2 rfl ?_; obtain ⟨r203, hr203, hF⟩ := bB' hF
                 refine rS (T_call (tracebookref31_Check_fun _ _ hr203) ⟨rfl, trivial⟩ rfl (.inl rfl) ?_); refine QV rfl ?_; exact join r203 _ _ hF sw
               refine W_skip ?_; exact join v107 _ _ hF sw
             intro join hF
             refine wIf' hF rfl (fun _ hF => ?_) fun _ hF => ?_
             · refine wD 2 rfl ?_; obtain ⟨r205, hr205, hF⟩ := bB' hF
               refine rS (T_call (tracebookref30_Check_fun _ _ hr205) ⟨rfl, trivial⟩ rfl (.inl rfl) ?_); refine QV rfl ?_; exact join r205 _ _ hF sw
             refine W_skip ?_; exact join e106 _ _ hF sw
           rintro ⟨a97, a98⟩ x_0 hF cont_0 brk_0 fin_0
           unfold tracebookref32_rows_L3 at hF
           refine W_seq ?_; refine W_seq ?_; refine W_join (fun _ _ h => h) hF (fun v207 => [(1, cP (1,0) 0), (3, cI a97), (6, cI a98), (91, cB v207)]) (fun v207 => [((1,0), .box (m_api_Trace p0))]) ?_ ?_
           · rintro v207 hF
             refine wIf hF rfl (fun _ hF => ?_) fun _ hF => ?_
             · refine W_skip ?_; refine W_seq ?_; refine W_join (fun _ _ h => h) hF (fun v208 => [(1, cP (1,0) 0), (3, cI v208), (6, cI a98)]) (fun v208 => [((1,0), .box (m_api_Trace p0))]) ?_ ?_
               · rintro v208 hF
                 refine wB rfl ?_; exact cont_0 _ _ _ (oi hF) sw
               intro join hF
               refine W_block ?_; refine W_seq ?_; refine W_regD (by decide) (by kernel_rfl) rfl ?_; refine Q_run SP 4 rfl ?_; obtain ⟨y209, hy209, hF⟩ := bB' hF
               refine R_step SP trivial (T_ixT (tc := t_api_Sample) p0.fSamples rfl rfl hy209 ?_); refine Q_run SP 2 rfl ?_; obtain ⟨r210, hr210, hF⟩ := bB' hF
               refine R_step SP trivial (T_call (tracebookref32_Has_fun _ _ _ hr210) ⟨⟨rfl, rfl, rfl, rfl, rfl, rfl, rfl, rfl, rfl, rfl, trivial⟩, rfl, trivial⟩ rfl (.inl rfl) ?_); refine QP rfl ?_; refine wIf' hF rfl (fun _ hF => ?_) fun _ hF => ?_
               · refine wB rfl ?_; exact join 5 _ _ hF sw
               refine W_skip ?_; exact join a97 _ _ hF sw
             refine W_exit ?_; refine thenQ_exit ?_; refine thenQ_exit ?_; refine blockQ_hit ?_; exact brk_0 _ _ _ (oi hF) sw
           intro join hF
           refine wD 3 rfl ?_; refine rS (T_len (tc := t_api_Sample) p0.fSamples .tree ?_); refine Q_run SV 2 rfl ?_; cases h213 : (decide (a98 < (List.length p0.fSamples : Int)))
           · have hF := bF' h213 hF; refine QV rfl ?_; exact join false _ _ hF sw
           have hF := bT' h213 hF; refine QV rfl ?_; exact join (decide (a97 = 0)) _ _ hF sw
         intro join hF
         refine wIf' hF rfl (fun _ hF => ?_) fun _ hF => ?_
         · refine wD 2 rfl ?_; obtain ⟨r214, hr214, hF⟩ := bB' hF
           refine rS (T_call (tracebookref29_Check_fun _ _ hr214) ⟨rfl, trivial⟩ rfl (.inl rfl) ?_); refine QV rfl ?_; exact join r214 _ _ hF sw
         refine W_skip ?_; exact join e75 _ _ hF sw
       rintro ⟨a62, a63⟩ x_0 hF cont_0 brk_0 fin_0
       unfold tracebookref32_rows_L4 at hF
       refine W_seq ?_; refine W_seq ?_; refine W_join (fun _ _ h => h) hF (fun v216 => [(1, cP (1,0) 0), (3, cI a62), (5, cI a63), (53, cB v216)]) (fun v216 => [((1,0), .box (m_api_Trace p0))]) ?_ ?_
       · rintro v216 hF
         refine wIf hF rfl (fun _ hF => ?_) fun _ hF => ?_
         · refine W_skip ?_; refine W_seq ?_; refine W_join (fun _ _ h => h) hF (fun v217 => [(1, cP (1,0) 0), (3, cI v217), (5, cI a63)]) (fun v217 => [((1,0), .box (m_api_Trace p0))]) ?_ ?_
           · rintro v217 hF
             refine wB rfl ?_; exact cont_0 _ _ _ (oi hF) sw
           intro join hF
           refine W_block ?_; refine W_seq ?_; have hF := bA hF; refine W_join (fun _ _ h => h) hF (fun v218 => [(1, cP (1,0) 0), (3, cI a62), (5, cI a63), (77, cB v218)]) (fun v218 => [((1,0), .box (m_api_Trace p0))]) ?_ ?_
           · rintro v218 hF
             refine wIf' hF rfl (fun _ hF => ?_) fun _ hF => ?_
             · refine wB rfl ?_; exact join 5 _ _ hF sw
             refine W_skip ?_; exact join a62 _ _ hF sw
           intro join hF
           refine W_regD (by decide) (by kernel_rfl) rfl ?_; refine Q_run SP 4 rfl ?_; obtain ⟨y220, hy220, hF⟩ := bB' hF
           refine R_step SP trivial (T_ixT (tc := t_api_Flow) p0.fFlows rfl rfl hy220 ?_); refine Q_run SP 3 rfl ?_; obtain ⟨r221, hr221, hF⟩ := bB' hF
           refine R_step SP trivial (T_call (tracebookref32_Has_fun _ _ _ hr221) ⟨⟨rfl, rfl, rfl, rfl, rfl, rfl, rfl, rfl, rfl, rfl, trivial⟩, rfl, trivial⟩ rfl (.inl rfl) ?_); refine Q_run SP 2 rfl ?_; cases h222 : (!r221)
           · have hF := bF' h222 hF; refine Q_run SP 4 rfl ?_; obtain ⟨y223, hy223, hF⟩ := bB' hF
             refine R_step SP rfl (T_ixT (tc := t_api_Flow) p0.fFlows rfl rfl hy223 ?_); refine Q_run SP 3 rfl ?_; obtain ⟨r224, hr224, hF⟩ := bB' hF
             refine R_step SP rfl (T_call (tracebookref32_Has_fun _ _ _ hr224) ⟨⟨rfl, rfl, rfl, rfl, rfl, rfl, rfl, rfl, rfl, rfl, trivial⟩, rfl, trivial⟩ rfl (.inl rfl) ?_); refine QP rfl ?_; exact join (!r224) _ _ hF sw
           have hF := bT' h222 hF; refine QP rfl ?_; exact join true _ _ hF sw
         refine W_exit ?_; refine thenQ_exit ?_; refine thenQ_exit ?_; refine blockQ_hit ?_; exact brk_0 _ _ _ (oi hF) sw
       intro join hF
       refine wD 3 rfl ?_; refine rS (T_len (tc := t_api_Flow) p0.fFlows .tree ?_); refine Q_run SV 2 rfl ?_; cases h226 : (decide (a63 < (List.length p0.fFlows : Int)))
       · have hF := bF' h226 hF; refine QV rfl ?_; exact join false _ _ hF sw
       have hF := bT' h226 hF; refine QV rfl ?_; exact join (decide (a62 = 0)) _ _ hF sw
     intro join hF
     refine wIf' hF rfl (fun _ hF => ?_) fun _ hF => ?_
     · refine wD 2 rfl ?_; obtain ⟨r227, hr227, hF⟩ := bB' hF
       refine rS (T_call (tracebookref28_Check_fun _ _ hr227) ⟨rfl, trivial⟩ rfl (.inl rfl) ?_); refine QV rfl ?_; exact join r227 _ _ hF sw
     refine W_skip ?_; exact join v32 _ _ hF sw
   intro join hF
   refine wIf' hF rfl (fun _ hF => ?_) fun _ hF => ?_
   · refine wD 4 rfl ?_; obtain ⟨r229, hr229, hF⟩ := bB' hF
     refine rS (T_call (tracebookref27_Check_fun _ _ _ hr229) ⟨rfl, rfl, trivial⟩ rfl (.inl rfl) ?_); refine QV rfl ?_; exact join r229 _ _ hF sw
   refine W_skip ?_; exact join e31 _ _ hF sw
 rintro ⟨a22, a23⟩ x_0 hF cont_0 brk_0 fin_0
 unfold tracebookref32_rows_L5 at hF
 refine W_seq ?_; refine W_seq ?_; refine W_join (fun _ _ h => h) hF (fun v231 => [(1, cP (1,0) 0), (3, cI a22), (4, cI a23), (21, cB v231)]) (fun v231 => [((1,0), .box (m_api_Trace p0))]) ?_ ?_
 · rintro v231 hF
   refine wIf hF rfl (fun _ hF => ?_) fun _ hF => ?_
   · refine W_skip ?_; refine W_seq ?_; refine W_join (fun _ _ h => h) hF (fun v232 => [(1, cP (1,0) 0), (3, cI v232), (4, cI a23)]) (fun v232 => [((1,0), .box (m_api_Trace p0))]) ?_ ?_
     · rintro v232 hF
       refine wB rfl ?_; exact cont_0 _ _ _ (oi hF) sw
     intro join hF
     refine W_block ?_; refine W_seq ?_; refine W_regD (by decide) (by kernel_rfl) rfl ?_; refine Q_run SP 4 rfl ?_; obtain ⟨y233, hy233, hF⟩ := bB' hF
     refine R_step SP trivial (T_ixT (tc := t_api_Slice) p0.fSlices rfl rfl hy233 ?_); refine Q_run SP 2 rfl ?_; obtain ⟨r234, hr234, hF⟩ := bB' hF
     refine R_step SP trivial (T_call (tracebookref32_Has_fun _ _ _ hr234) ⟨⟨rfl, rfl, rfl, rfl, rfl, rfl, rfl, rfl, rfl, rfl, trivial⟩, rfl, trivial⟩ rfl (.inl rfl) ?_); refine QP rfl ?_; refine wIf' hF rfl (fun _ hF => ?_) fun _ hF => ?_
     · refine wB rfl ?_; exact join 5 _ _ hF sw
     refine W_skip ?_; exact join a22 _ _ hF sw
   refine W_exit ?_; refine thenQ_exit ?_; refine thenQ_exit ?_; refine blockQ_hit ?_; exact brk_0 _ _ _ (oi hF) sw
 intro join hF
 refine wD 3 rfl ?_; refine rS (T_len (tc := t_api_Slice) p0.fSlices .tree ?_); refine Q_run SV 2 rfl ?_; cases h237 : (decide (a23 < (List.length p0.fSlices : Int)))
 · have hF := bF' h237 hF; refine QV rfl ?_; exact join false _ _ hF sw
 have hF := bT' h237 hF; refine QV rfl ?_; exact join (decide (a22 = 0)) _ _ hF sw
def tracebookref32_tables_L1 (p0 : api_Trace) (a52 : Int) : Int → Option (Int ⊕ (Unit ⊕ (Int ⊕ (Unit ⊕ Int)))) := fun a91 =>
  (bif (decide (a91 < a52)) then ((idx p0.fThreads a91).bind fun y96 => ((idx p0.fThreads a52).bind fun y97 => (bif (decide (y96.fId = y97.fId)) then some (.inr (.inr (.inr (.inr 4)))) else some (.inl (w64 (a91 + 1)))))) else some (.inr (.inl ())))
def tracebookref32_tables_L2 (p0 : api_Trace) : Int → Option (Int ⊕ (Unit ⊕ Int)) := fun a52 =>
  (bif (decide (a52 < (List.length p0.fThreads : Int))) then ((idx p0.fThreads a52).bind fun y78 => ((tracebookref10_Thread y78).bind fun r79 => (bif (!decide (r79 = 0)) then some (.inr (.inr r79)) else ((loop (tracebookref32_tables_L1 p0 a52) 0).bind fun | .inl _ => some (.inl (w64 (a52 + 1))) | .inr rv => some rv)))) else some (.inr (.inl ())))
def tracebookref32_tables (p0 : api_Trace) : Option Int :=
  (bif (decide (64 < (List.length p0.fThreads : Int))) then some 7 else ((loop (tracebookref32_tables_L2 p0) 0).bind fun | .inl _ => ((tracebookref32_rows p0).bind fun r77 => some r77) | .inr rv => some rv))
theorem tracebookref32_tables_fun (p0 : api_Trace) (r : Int) (hF : tracebookref32_tables p0 = some r) : Fun Tryz.prog 37 true [] [.agg (m_api_Trace p0)] noHeap (cI r) noHeap := by
 refine Fun.of_walk0 Tryz.func37 c37 (by kernel_rfl) (rs := [.tmp 2]) (by kernel_rfl) ?_; unfold v37
 unfold tracebookref32_tables at hF
 refine wA rfl ?_; refine W_seq ?_; refine wC 2 rfl ?_; refine rS (T_len (tc := t_api_Thread) p0.fThreads .tree ?_); refine QV rfl ?_; refine wIf hF rfl (fun _ hF => ?_) fun _ hF => ?_
 · refine wA rfl ?_; cases hF
   exact W_ret wR
 refine W_skip ?_; refine W_seq ?_; refine wA rfl ?_; refine W_for (fun _ _ h => h) hF (.inl) (fun a52 => [(1, cP (1,0) 0), (3, cI a52)]) (fun a52 => [((1,0), .box (m_api_Trace p0))]) (fun _ => [(1, cP (1,0) 0)]) (fun _ => [((1,0), .box (m_api_Trace p0))]) sw ?_ ?_
 · rintro ⟨⟩ hF
   refine wC 1 rfl ?_; obtain ⟨r77, hr77, hF⟩ := bB hF
   refine rS (T_call (tracebookref32_rows_fun _ _ hr77) ⟨⟨rfl, rfl, rfl, rfl, rfl, rfl, rfl, rfl, rfl, rfl, trivial⟩, trivial⟩ rfl (.inl rfl) ?_); refine QV rfl ?_; cases hF
   exact W_ret wR
 rintro a52 x_0 hF cont_0 brk_0 fin_0
 unfold tracebookref32_tables_L2 at hF
 refine W_seq ?_; refine wC 3 rfl ?_; refine rS (T_len (tc := t_api_Thread) p0.fThreads .tree ?_); refine QV rfl ?_; refine wIf hF rfl (fun _ hF => ?_) fun _ hF => ?_
 · refine W_skip ?_; refine W_seq ?_; refine W_block ?_; refine wC 3 rfl ?_; obtain ⟨y78, hy78, hF⟩ := bB hF
   refine rS (T_ixT (tc := t_api_Thread) p0.fThreads rfl rfl hy78 ?_); refine Q_run SV 1 rfl ?_; obtain ⟨r79, hr79, hF⟩ := bB hF
   refine rS (T_call (tracebookref10_Thread_fun _ _ hr79) ⟨⟨rfl, rfl, rfl, trivial⟩, trivial⟩ rfl (.inl rfl) ?_); refine QV rfl ?_; refine W_seq ?_; refine wA rfl ?_; refine wIf hF rfl (fun _ hF => ?_) fun _ hF => ?_
   · refine wA rfl ?_; have hF := fin_0 _ (oi hF); cases hF
     exact W_ret wR
   refine W_skip ?_; refine wA rfl ?_; refine W_for (fun _ _ h => h) hF (.inl) (fun a91 => [(1, cP (1,0) 0), (3, cI a52), (5, cI a91)]) (fun a91 => [((1,0), .box (m_api_Trace p0))]) (fun _ => [(1, cP (1,0) 0), (3, cI a52)]) (fun _ => [((1,0), .box (m_api_Trace p0))]) sw ?_ ?_
   · rintro ⟨⟩ hF
     refine wB rfl ?_; exact cont_0 _ _ _ (oi hF) sw
   rintro a91 x_1 hF cont_1 brk_1 fin_1
   unfold tracebookref32_tables_L1 at hF
   refine W_seq ?_; refine wA rfl ?_; refine wIf hF rfl (fun _ hF => ?_) fun _ hF => ?_
   · refine W_skip ?_; refine W_seq ?_; refine W_block ?_; refine W_seq ?_; refine W_regD (by decide) (by kernel_rfl) rfl ?_; refine Q_run SP 3 rfl ?_; obtain ⟨y96, hy96, hF⟩ := bB hF
     refine R_step SP trivial (T_ixT (tc := t_api_Thread) p0.fThreads rfl rfl hy96 ?_); refine Q_run SP 5 rfl ?_; obtain ⟨y97, hy97, hF⟩ := bB hF
     refine R_step SP trivial (T_ixT (tc := t_api_Thread) p0.fThreads rfl rfl hy97 ?_); refine QP rfl ?_; refine wIf hF rfl (fun _ hF => ?_) fun _ hF => ?_
     · refine wA rfl ?_; have hF := fin_1 _ (oi hF); have hF := fin_0 _ (oi hF); cases hF
       exact W_ret wR
     refine W_skip ?_; refine wB rfl ?_; exact cont_1 _ _ _ (oi hF) sw
   refine W_exit ?_; refine thenQ_exit ?_; refine thenQ_exit ?_; refine blockQ_hit ?_; exact brk_1 _ _ _ (oi hF) sw
 refine W_exit ?_; refine thenQ_exit ?_; refine thenQ_exit ?_; refine blockQ_hit ?_; exact brk_0 _ _ _ (oi hF) sw
def tracebookref32_within (p0 : api_Span) (p1 : api_Span) : Option Bool :=
  (((bif (decide (p1.fFrom ≤ p0.fFrom)) then some (decide (p0.fTo ≤ p1.fTo)) else some false) : Option Bool).bind fun v1 => some v1)
theorem tracebookref32_within_fun (p0 : api_Span) (p1 : api_Span) (r : Bool) (hF : tracebookref32_within p0 p1 = some r) : Fun Tryz.prog 38 true [] [.agg [jI p0.fFrom, jI p0.fTo], .agg [jI p1.fFrom, jI p1.fTo]] noHeap (cB r) noHeap := by
 refine Fun.of_walk0 Tryz.func38 c38 (by kernel_rfl) (rs := [.tmp 4]) (by kernel_rfl) ?_; unfold v38
 unfold tracebookref32_within at hF
 refine wA rfl ?_; refine W_seq ?_; refine W_join (fun _ _ h => h) hF (fun v1 => [(4, cB v1)]) (fun v1 => []) ?_ ?_
 · rintro v1 hF
   cases hF
   exact W_ret wR
 intro join hF
 refine wD 6 rfl ?_; cases h2 : (decide (p1.fFrom ≤ p0.fFrom))
 · have hF := bF' h2 hF; refine QV rfl ?_; exact join false _ _ hF sw
 have hF := bT' h2 hF; refine QV rfl ?_; exact join (decide (p0.fTo ≤ p1.fTo)) _ _ hF sw
def tracebookref32_inside (p0 : Int) (p1 : api_Span) : Option Bool :=
  (((bif (decide (p1.fFrom ≤ p0)) then some (decide (p0 < p1.fTo)) else some false) : Option Bool).bind fun v1 => some v1)
theorem tracebookref32_inside_fun (p0 : Int) (p1 : api_Span) (r : Bool) (hF : tracebookref32_inside p0 p1 = some r) : Fun Tryz.prog 39 true [] [cI p0, .agg [jI p1.fFrom, jI p1.fTo]] noHeap (cB r) noHeap := by
 refine Fun.of_walk0 Tryz.func39 c39 (by kernel_rfl) (rs := [.tmp 4]) (by kernel_rfl) ?_; unfold v39
 unfold tracebookref32_inside at hF
 refine wA rfl ?_; refine W_seq ?_; refine W_join (fun _ _ h => h) hF (fun v1 => [(4, cB v1)]) (fun v1 => []) ?_ ?_
 · rintro v1 hF
   cases hF
   exact W_ret wR
 intro join hF
 refine wD 5 rfl ?_; cases h2 : (decide (p1.fFrom ≤ p0))
 · have hF := bF' h2 hF; refine QV rfl ?_; exact join false _ _ hF sw
 have hF := bT' h2 hF; refine QV rfl ?_; exact join (decide (p0 < p1.fTo)) _ _ hF sw
def tracebookref32_Check_L1 (p0 : api_Trace) : (Bool × Int) → Option ((Bool × Int) ⊕ Bool) := fun (a146, a147) =>
  (bif (decide (a147 < (List.length p0.fSteps : Int))) then (((bif a146 then ((idx p0.fSteps a147).bind fun y157 => ((tracebookref32_inside y157.fAt p0.fSpan).bind fun r158 => some r158)) else some false) : Option Bool).bind fun v155 => some (.inl (v155, (w64 (a147 + 1))))) else some (.inr a146))
def tracebookref32_Check_L2 (p0 : api_Trace) : (Bool × Int) → Option ((Bool × Int) ⊕ Bool) := fun (a122, a123) =>
  (bif (decide (a123 < (List.length p0.fSamples : Int))) then (((bif a122 then ((idx p0.fSamples a123).bind fun y162 => ((tracebookref32_inside y162.fAt p0.fSpan).bind fun r163 => some r163)) else some false) : Option Bool).bind fun v160 => some (.inl (v160, (w64 (a123 + 1))))) else some (.inr a122))
def tracebookref32_Check_L3 (p0 : api_Trace) : (Bool × Int) → Option ((Bool × Int) ⊕ Bool) := fun (a95, a96) =>
  (bif (decide (a96 < (List.length p0.fFlows : Int))) then (((bif a95 then ((idx p0.fFlows a96).bind fun y167 => ((tracebookref32_inside y167.fSend p0.fSpan).bind fun r168 => (bif r168 then ((idx p0.fFlows a96).bind fun y170 => ((tracebookref32_inside y170.fRecv p0.fSpan).bind fun r171 => some r171)) else some false))) else some false) : Option Bool).bind fun v165 => some (.inl (v165, (w64 (a96 + 1))))) else some (.inr a95))
def tracebookref32_Check_L4 (p0 : api_Trace) : (Bool × Int) → Option ((Bool × Int) ⊕ Bool) := fun (a65, a66) =>
  (bif (decide (a66 < (List.length p0.fBlocks : Int))) then (((bif a65 then ((idx p0.fBlocks a66).bind fun y175 => ((tracebookref32_within y175.fSpan p0.fSpan).bind fun r176 => some r176)) else some false) : Option Bool).bind fun v173 => some (.inl (v173, (w64 (a66 + 1))))) else some (.inr a65))
def tracebookref32_Check_L5 (p0 : api_Trace) : (Bool × Int) → Option ((Bool × Int) ⊕ Bool) := fun (a41, a42) =>
  (bif (decide (a42 < (List.length p0.fStates : Int))) then (((bif a41 then ((idx p0.fStates a42).bind fun y180 => ((tracebookref32_within y180.fSpan p0.fSpan).bind fun r181 => some r181)) else some false) : Option Bool).bind fun v178 => some (.inl (v178, (w64 (a42 + 1))))) else some (.inr a41))
def tracebookref32_Check_L6 (p0 : api_Trace) : (Bool × Int) → Option ((Bool × Int) ⊕ Bool) := fun (a17, a18) =>
  (bif (decide (a18 < (List.length p0.fSlices : Int))) then (((bif a17 then ((idx p0.fSlices a18).bind fun y185 => ((tracebookref32_within y185.fSpan p0.fSpan).bind fun r186 => some r186)) else some false) : Option Bool).bind fun v183 => some (.inl (v183, (w64 (a18 + 1))))) else some (.inr a17))
def tracebookref32_Check (p0 : api_Trace) : Option Int :=
  ((tracebookref32_tables p0).bind fun r1 => (bif (!decide (r1 = 0)) then some r1 else (((bif (decide (p0.fSpan.fFrom < 0)) then some true else (bif (decide (p0.fSpan.fTo < p0.fSpan.fFrom)) then some true else some (decide (1000000000000 < p0.fSpan.fTo)))) : Option Bool).bind fun v2 => (bif v2 then some 2 else ((loop (tracebookref32_Check_L6 p0) (true, 0)).bind fun e24 => ((loop (tracebookref32_Check_L5 p0) (e24, 0)).bind fun e48 => ((loop (tracebookref32_Check_L4 p0) (e48, 0)).bind fun e72 => ((loop (tracebookref32_Check_L3 p0) (e72, 0)).bind fun e105 => ((loop (tracebookref32_Check_L2 p0) (e105, 0)).bind fun e129 => ((loop (tracebookref32_Check_L1 p0) (e129, 0)).bind fun e153 => (bif (!e153) then some 10 else some 0)))))))))))
theorem tracebookref32_Check_fun (p0 : api_Trace) (r : Int) (hF : tracebookref32_Check p0 = some r) : Fun Tryz.prog 24 true [] [.agg (m_api_Trace p0)] noHeap (cI r) noHeap := by
 refine Fun.of_walk0 Tryz.func24 c24 (by kernel_rfl) (rs := [.tmp 2]) (by kernel_rfl) ?_; unfold v24
 unfold tracebookref32_Check at hF
 refine wA rfl ?_; refine wC 1 rfl ?_; obtain ⟨r1, hr1, hF⟩ := bB hF
 refine rS (T_call (tracebookref32_tables_fun _ _ hr1) ⟨⟨rfl, rfl, rfl, rfl, rfl, rfl, rfl, rfl, rfl, rfl, trivial⟩, trivial⟩ rfl (.inl rfl) ?_); refine QV rfl ?_; refine W_seq ?_; refine wA rfl ?_; refine wIf hF rfl (fun _ hF => ?_) fun _ hF => ?_
 · refine wA rfl ?_; cases hF
   exact W_ret wR
 refine W_skip ?_; refine wA rfl ?_; refine W_seq ?_; refine W_seq ?_; refine W_join (fun _ _ h => h) hF (fun v2 => [(1, cP (1,0) 0), (4, cP (4,0) 0), (33, cB v2)]) (fun v2 => [((1,0), .box (m_api_Trace p0)), ((4,0), .box [jI p0.fSpan.fFrom, jI p0.fSpan.fTo])]) ?_ ?_
 · rintro v2 hF
   refine wIf hF rfl (fun _ hF => ?_) fun _ hF => ?_
   · refine wA rfl ?_; cases hF
     exact W_ret wR
   refine W_skip ?_; refine wA rfl ?_; refine W_seq ?_; refine wA rfl ?_; refine W_for (fun _ _ h => h) hF (id) (fun (a17, a18) => [(1, cP (1,0) 0), (4, cP (4,0) 0), (5, cB a17), (6, cI a18)]) (fun (a17, a18) => [((1,0), .box (m_api_Trace p0)), ((4,0), .box [jI p0.fSpan.fFrom, jI p0.fSpan.fTo])]) (fun e24 => [(1, cP (1,0) 0), (4, cP (4,0) 0), (5, cB e24)]) (fun e24 => [((1,0), .box (m_api_Trace p0)), ((4,0), .box [jI p0.fSpan.fFrom, jI p0.fSpan.fTo])]) sw ?_ ?_
   · rintro e24 hF
     refine W_seq ?_; refine wA rfl ?_; refine W_for (fun _ _ h => h) hF (id) (fun (a41, a42) => [(1, cP (1,0) 0), (4, cP (4,0) 0), (5, cB a41), (7, cI a42)]) (fun (a41, a42) => [((1,0), .box (m_api_Trace p0)), ((4,0), .box [jI p0.fSpan.fFrom, jI p0.fSpan.fTo])]) (fun e48 => [(1, cP (1,0) 0), (4, cP (4,0) 0), (5, cB e48)]) (fun e48 => [((1,0), .box (m_api_Trace p0)), ((4,0), .box [jI p0.fSpan.fFrom, jI p0.fSpan.fTo])]) sw ?_ ?_
     · rintro e48 hF
       refine W_seq ?_; refine wA rfl ?_; refine W_for (fun _ _ h => h) hF (id) (fun (a65, a66) => [(1, cP (1,0) 0), (4, cP (4,0) 0), (5, cB a65), (8, cI a66)]) (fun (a65, a66) => [((1,0), .box (m_api_Trace p0)), ((4,0), .box [jI p0.fSpan.fFrom, jI p0.fSpan.fTo])]) (fun e72 => [(1, cP (1,0) 0), (4, cP (4,0) 0), (5, cB e72)]) (fun e72 => [((1,0), .box (m_api_Trace p0)), ((4,0), .box [jI p0.fSpan.fFrom, jI p0.fSpan.fTo])]) sw ?_ ?_
       · rintro e72 hF
         refine W_seq ?_; refine wA rfl ?_; refine W_for (fun _ _ h => h) hF (id) (fun (a95, a96) => [(1, cP (1,0) 0), (4, cP (4,0) 0), (5, cB a95), (9, cI a96)]) (fun (a95, a96) => [((1,0), .box (m_api_Trace p0)), ((4,0), .box [jI p0.fSpan.fFrom, jI p0.fSpan.fTo])]) (fun e105 => [(1, cP (1,0) 0), (4, cP (4,0) 0), (5, cB e105)]) (fun e105 => [((1,0), .box (m_api_Trace p0)), ((4,0), .box [jI p0.fSpan.fFrom, jI p0.fSpan.fTo])]) sw ?_ ?_
         · rintro e105 hF
           refine W_seq ?_; refine wA rfl ?_; refine W_for (fun _ _ h => h) hF (id) (fun (a122, a123) => [(1, cP (1,0) 0), (4, cP (4,0) 0), (5, cB a122), (10, cI a123)]) (fun (a122, a123) => [((1,0), .box (m_api_Trace p0)), ((4,0), .box [jI p0.fSpan.fFrom, jI p0.fSpan.fTo])]) (fun e129 => [(1, cP (1,0) 0), (4, cP (4,0) 0), (5, cB e129)]) (fun e129 => [((1,0), .box (m_api_Trace p0)), ((4,0), .box [jI p0.fSpan.fFrom, jI p0.fSpan.fTo])]) sw ?_ ?_
           · rintro e129 hF
             refine W_seq ?_; refine wA rfl ?_; refine W_for (fun _ _ h => h) hF (id) (fun (a146, a147) => [(1, cP (1,0) 0), (4, cP (4,0) 0), (5, cB a146), (11, cI a147)]) (fun (a146, a147) => [((1,0), .box (m_api_Trace p0)), ((4,0), .box [jI p0.fSpan.fFrom, jI p0.fSpan.fTo])]) (fun e153 => [(5, cB e153)]) (fun e153 => []) sw ?_ ?_
             · rintro e153 hF
               refine W_seq ?_; refine wA rfl ?_; refine wIf hF rfl (fun _ hF => ?_) fun _ hF => ?_
               · refine wA rfl ?_; cases hF
                 exact W_ret wR
               refine W_skip ?_; refine wA rfl ?_; cases hF
               exact W_ret wR
             rintro ⟨a146, a147⟩ x_0 hF cont_0 brk_0 fin_0
             unfold tracebookref32_Check_L1 at hF
             refine W_seq ?_; refine wC 3 rfl ?_; refine rS (T_len (tc := t_api_Step) p0.fSteps .tree ?_); refine QV rfl ?_; refine wIf hF rfl (fun _ hF => ?_) fun _ hF => ?_
             · refine W_skip ?_; refine W_seq ?_; refine W_join (fun _ _ h => h) hF (fun v155 => [(1, cP (1,0) 0), (4, cP (4,0) 0), (5, cB v155), (11, cI a147)]) (fun v155 => [((1,0), .box (m_api_Trace p0)), ((4,0), .box [jI p0.fSpan.fFrom, jI p0.fSpan.fTo])]) ?_ ?_
               · rintro v155 hF
                 refine wB rfl ?_; exact cont_0 _ _ _ (oi hF) sw
               intro join hF
               refine W_block ?_; refine W_regD (by decide) (by kernel_rfl) rfl ?_; refine Q_run SP 2 rfl ?_; cases h156 : a146
               · have hF := bF' h156 hF; refine QP rfl ?_; exact join false _ _ hF sw
               have hF := bT' h156 hF; refine Q_run SP 3 rfl ?_; obtain ⟨y157, hy157, hF⟩ := bB' hF
               refine R_step SP rfl (T_ixT (tc := t_api_Step) p0.fSteps rfl rfl hy157 ?_); refine Q_run SP 3 rfl ?_; obtain ⟨r158, hr158, hF⟩ := bB' hF
               refine R_step SP rfl (T_call (tracebookref32_inside_fun _ _ _ hr158) ⟨rfl, ⟨rfl, rfl, trivial⟩, trivial⟩ rfl (.inl rfl) ?_); refine QP rfl ?_; exact join r158 _ _ hF sw
             refine W_exit ?_; refine thenQ_exit ?_; refine thenQ_exit ?_; refine blockQ_hit ?_; exact brk_0 _ _ _ (oi hF) sw
           rintro ⟨a122, a123⟩ x_0 hF cont_0 brk_0 fin_0
           unfold tracebookref32_Check_L2 at hF
           refine W_seq ?_; refine wC 3 rfl ?_; refine rS (T_len (tc := t_api_Sample) p0.fSamples .tree ?_); refine QV rfl ?_; refine wIf hF rfl (fun _ hF => ?_) fun _ hF => ?_
           · refine W_skip ?_; refine W_seq ?_; refine W_join (fun _ _ h => h) hF (fun v160 => [(1, cP (1,0) 0), (4, cP (4,0) 0), (5, cB v160), (10, cI a123)]) (fun v160 => [((1,0), .box (m_api_Trace p0)), ((4,0), .box [jI p0.fSpan.fFrom, jI p0.fSpan.fTo])]) ?_ ?_
             · rintro v160 hF
               refine wB rfl ?_; exact cont_0 _ _ _ (oi hF) sw
             intro join hF
             refine W_block ?_; refine W_regD (by decide) (by kernel_rfl) rfl ?_; refine Q_run SP 2 rfl ?_; cases h161 : a122
             · have hF := bF' h161 hF; refine QP rfl ?_; exact join false _ _ hF sw
             have hF := bT' h161 hF; refine Q_run SP 3 rfl ?_; obtain ⟨y162, hy162, hF⟩ := bB' hF
             refine R_step SP rfl (T_ixT (tc := t_api_Sample) p0.fSamples rfl rfl hy162 ?_); refine Q_run SP 3 rfl ?_; obtain ⟨r163, hr163, hF⟩ := bB' hF
             refine R_step SP rfl (T_call (tracebookref32_inside_fun _ _ _ hr163) ⟨rfl, ⟨rfl, rfl, trivial⟩, trivial⟩ rfl (.inl rfl) ?_); refine QP rfl ?_; exact join r163 _ _ hF sw
           refine W_exit ?_; refine thenQ_exit ?_; refine thenQ_exit ?_; refine blockQ_hit ?_; exact brk_0 _ _ _ (oi hF) sw
         rintro ⟨a95, a96⟩ x_0 hF cont_0 brk_0 fin_0
         unfold tracebookref32_Check_L3 at hF
         refine W_seq ?_; refine wC 3 rfl ?_; refine rS (T_len (tc := t_api_Flow) p0.fFlows .tree ?_); refine QV rfl ?_; refine wIf hF rfl (fun _ hF => ?_) fun _ hF => ?_
         · refine W_skip ?_; refine W_seq ?_; refine W_join (fun _ _ h => h) hF (fun v165 => [(1, cP (1,0) 0), (4, cP (4,0) 0), (5, cB v165), (9, cI a96)]) (fun v165 => [((1,0), .box (m_api_Trace p0)), ((4,0), .box [jI p0.fSpan.fFrom, jI p0.fSpan.fTo])]) ?_ ?_
           · rintro v165 hF
             refine wB rfl ?_; exact cont_0 _ _ _ (oi hF) sw
           intro join hF
           refine W_block ?_; refine W_regD (by decide) (by kernel_rfl) rfl ?_; refine Q_run SP 2 rfl ?_; cases h166 : a95
           · have hF := bF' h166 hF; refine QP rfl ?_; exact join false _ _ hF sw
           have hF := bT' h166 hF; refine Q_run SP 3 rfl ?_; obtain ⟨y167, hy167, hF⟩ := bB' hF
           refine R_step SP rfl (T_ixT (tc := t_api_Flow) p0.fFlows rfl rfl hy167 ?_); refine Q_run SP 3 rfl ?_; obtain ⟨r168, hr168, hF⟩ := bB' hF
           refine R_step SP rfl (T_call (tracebookref32_inside_fun _ _ _ hr168) ⟨rfl, ⟨rfl, rfl, trivial⟩, trivial⟩ rfl (.inl rfl) ?_); refine Q_run SP 2 rfl ?_; cases h169 : r168
           · have hF := bF' h169 hF; refine QP rfl ?_; exact join false _ _ hF sw
           have hF := bT' h169 hF; refine Q_run SP 3 rfl ?_; obtain ⟨y170, hy170, hF⟩ := bB' hF
           refine R_step SP rfl (T_ixT (tc := t_api_Flow) p0.fFlows rfl rfl hy170 ?_); refine Q_run SP 3 rfl ?_; obtain ⟨r171, hr171, hF⟩ := bB' hF
           refine R_step SP rfl (T_call (tracebookref32_inside_fun _ _ _ hr171) ⟨rfl, ⟨rfl, rfl, trivial⟩, trivial⟩ rfl (.inl rfl) ?_); refine QP rfl ?_; exact join r171 _ _ hF sw
         refine W_exit ?_; refine thenQ_exit ?_; refine thenQ_exit ?_; refine blockQ_hit ?_; exact brk_0 _ _ _ (oi hF) sw
       rintro ⟨a65, a66⟩ x_0 hF cont_0 brk_0 fin_0
       unfold tracebookref32_Check_L4 at hF
       refine W_seq ?_; refine wC 3 rfl ?_; refine rS (T_len (tc := t_api_Block) p0.fBlocks .tree ?_); refine QV rfl ?_; refine wIf hF rfl (fun _ hF => ?_) fun _ hF => ?_
       · refine W_skip ?_; refine W_seq ?_; refine W_join (fun _ _ h => h) hF (fun v173 => [(1, cP (1,0) 0), (4, cP (4,0) 0), (5, cB v173), (8, cI a66)]) (fun v173 => [((1,0), .box (m_api_Trace p0)), ((4,0), .box [jI p0.fSpan.fFrom, jI p0.fSpan.fTo])]) ?_ ?_
         · rintro v173 hF
           refine wB rfl ?_; exact cont_0 _ _ _ (oi hF) sw
         intro join hF
         refine W_block ?_; refine W_regD (by decide) (by kernel_rfl) rfl ?_; refine Q_run SP 2 rfl ?_; cases h174 : a65
         · have hF := bF' h174 hF; refine QP rfl ?_; exact join false _ _ hF sw
         have hF := bT' h174 hF; refine Q_run SP 3 rfl ?_; obtain ⟨y175, hy175, hF⟩ := bB' hF
         refine R_step SP rfl (T_ixT (tc := t_api_Block) p0.fBlocks rfl rfl hy175 ?_); refine Q_run SP 3 rfl ?_; obtain ⟨r176, hr176, hF⟩ := bB' hF
         refine R_step SP rfl (T_call (tracebookref32_within_fun _ _ _ hr176) ⟨⟨rfl, rfl, trivial⟩, ⟨rfl, rfl, trivial⟩, trivial⟩ rfl (.inl rfl) ?_); refine QP rfl ?_; exact join r176 _ _ hF sw
       refine W_exit ?_; refine thenQ_exit ?_; refine thenQ_exit ?_; refine blockQ_hit ?_; exact brk_0 _ _ _ (oi hF) sw
     rintro ⟨a41, a42⟩ x_0 hF cont_0 brk_0 fin_0
     unfold tracebookref32_Check_L5 at hF
     refine W_seq ?_; refine wC 3 rfl ?_; refine rS (T_len (tc := t_api_State) p0.fStates .tree ?_); refine QV rfl ?_; refine wIf hF rfl (fun _ hF => ?_) fun _ hF => ?_
     · refine W_skip ?_; refine W_seq ?_; refine W_join (fun _ _ h => h) hF (fun v178 => [(1, cP (1,0) 0), (4, cP (4,0) 0), (5, cB v178), (7, cI a42)]) (fun v178 => [((1,0), .box (m_api_Trace p0)), ((4,0), .box [jI p0.fSpan.fFrom, jI p0.fSpan.fTo])]) ?_ ?_
       · rintro v178 hF
         refine wB rfl ?_; exact cont_0 _ _ _ (oi hF) sw
       intro join hF
       refine W_block ?_; refine W_regD (by decide) (by kernel_rfl) rfl ?_; refine Q_run SP 2 rfl ?_; cases h179 : a41
       · have hF := bF' h179 hF; refine QP rfl ?_; exact join false _ _ hF sw
       have hF := bT' h179 hF; refine Q_run SP 3 rfl ?_; obtain ⟨y180, hy180, hF⟩ := bB' hF
       refine R_step SP rfl (T_ixT (tc := t_api_State) p0.fStates rfl rfl hy180 ?_); refine Q_run SP 3 rfl ?_; obtain ⟨r181, hr181, hF⟩ := bB' hF
       refine R_step SP rfl (T_call (tracebookref32_within_fun _ _ _ hr181) ⟨⟨rfl, rfl, trivial⟩, ⟨rfl, rfl, trivial⟩, trivial⟩ rfl (.inl rfl) ?_); refine QP rfl ?_; exact join r181 _ _ hF sw
     refine W_exit ?_; refine thenQ_exit ?_; refine thenQ_exit ?_; refine blockQ_hit ?_; exact brk_0 _ _ _ (oi hF) sw
   rintro ⟨a17, a18⟩ x_0 hF cont_0 brk_0 fin_0
   unfold tracebookref32_Check_L6 at hF
   refine W_seq ?_; refine wC 3 rfl ?_; refine rS (T_len (tc := t_api_Slice) p0.fSlices .tree ?_); refine QV rfl ?_; refine wIf hF rfl (fun _ hF => ?_) fun _ hF => ?_
   · refine W_skip ?_; refine W_seq ?_; refine W_join (fun _ _ h => h) hF (fun v183 => [(1, cP (1,0) 0), (4, cP (4,0) 0), (5, cB v183), (6, cI a18)]) (fun v183 => [((1,0), .box (m_api_Trace p0)), ((4,0), .box [jI p0.fSpan.fFrom, jI p0.fSpan.fTo])]) ?_ ?_
     · rintro v183 hF
       refine wB rfl ?_; exact cont_0 _ _ _ (oi hF) sw
     intro join hF
     refine W_block ?_; refine W_regD (by decide) (by kernel_rfl) rfl ?_; refine Q_run SP 2 rfl ?_; cases h184 : a17
     · have hF := bF' h184 hF; refine QP rfl ?_; exact join false _ _ hF sw
     have hF := bT' h184 hF; refine Q_run SP 3 rfl ?_; obtain ⟨y185, hy185, hF⟩ := bB' hF
     refine R_step SP rfl (T_ixT (tc := t_api_Slice) p0.fSlices rfl rfl hy185 ?_); refine Q_run SP 3 rfl ?_; obtain ⟨r186, hr186, hF⟩ := bB' hF
     refine R_step SP rfl (T_call (tracebookref32_within_fun _ _ _ hr186) ⟨⟨rfl, rfl, trivial⟩, ⟨rfl, rfl, trivial⟩, trivial⟩ rfl (.inl rfl) ?_); refine QP rfl ?_; exact join r186 _ _ hF sw
   refine W_exit ?_; refine thenQ_exit ?_; refine thenQ_exit ?_; refine blockQ_hit ?_; exact brk_0 _ _ _ (oi hF) sw
 intro join hF
 refine wD 4 rfl ?_; cases h189 : (decide (p0.fSpan.fFrom < 0))
 · have hF := bF' h189 hF; refine Q_run SV 7 rfl ?_; cases h190 : (decide (p0.fSpan.fTo < p0.fSpan.fFrom))
   · have hF := bF' h190 hF; refine QV rfl ?_; exact join (decide (1000000000000 < p0.fSpan.fTo)) _ _ hF sw
   have hF := bT' h190 hF; refine QV rfl ?_; exact join true _ _ hF sw
 have hF := bT' h189 hF; refine QV rfl ?_; exact join true _ _ hF sw
def tracebookref27_Total_L1 (p0 : (List api_State)) (p1 : Int) (p2 : Int) (p3 : api_Span) : (Int × Int) → Option ((Int × Int) ⊕ Int) := fun (a36, a37) =>
  (bif (decide (a37 < (List.length p0 : Int))) then ((((((idx p0 a37).bind fun y63 => (bif (!decide (y63.fThread = p1)) then some true else ((idx p0 a37).bind fun y65 => some (!decide (y65.fState = p2))))) : Option Bool).bind fun v54 => (bif v54 then some a36 else ((idx p0 a37).bind fun y55 => (((bif (decide (y55.fSpan.fFrom < p3.fFrom)) then some p3.fFrom else some y55.fSpan.fFrom) : Option Int).bind fun v56 => ((idx p0 a37).bind fun y57 => (((bif (decide (p3.fTo < y57.fSpan.fTo)) then some p3.fTo else some y57.fSpan.fTo) : Option Int).bind fun v58 => (bif (decide (v56 < v58)) then some (w64 ((w64 (a36 + v58)) - v56)) else some a36))))))) : Option Int).bind fun v53 => some (.inl (v53, (w64 (a37 + 1))))) else some (.inr a36))
def tracebookref27_Total (p0 : (List api_State)) (p1 : Int) (p2 : Int) (p3 : api_Span) : Option Int :=
  ((tracebookref04_Valid p3).bind fun r1 => (bif (!r1) then some 0 else ((loop (tracebookref27_Total_L1 p0 p1 p2 p3) (0, 0)).bind fun e52 => some e52)))
theorem tracebookref27_Total_fun (p0 : (List api_State)) (p1 : Int) (p2 : Int) (p3 : api_Span) (r : Int) (hF : tracebookref27_Total p0 p1 p2 p3 = some r) : Fun Tryz.prog 41 true [] [cL 7 t_api_State p0, cI p1, cI p2, .agg [jI p3.fFrom, jI p3.fTo]] noHeap (cI r) noHeap := by
 refine Fun.of_walk0 Tryz.func41 c41 (by kernel_rfl) (rs := [.tmp 8]) (by kernel_rfl) ?_; unfold v41
 unfold tracebookref27_Total at hF
 refine wA rfl ?_; refine W_seq ?_; refine wC 1 rfl ?_; obtain ⟨r1, hr1, hF⟩ := bB hF
 refine rS (T_call (tracebookref04_Valid_fun _ _ hr1) ⟨⟨rfl, rfl, trivial⟩, trivial⟩ rfl (.inl rfl) ?_); refine QV rfl ?_; refine wIf hF rfl (fun _ hF => ?_) fun _ hF => ?_
 · refine wA rfl ?_; cases hF
   exact W_ret wR
 refine W_skip ?_; refine wA rfl ?_; refine W_seq ?_; refine wA rfl ?_; refine W_for (fun _ _ h => h) hF (id) (fun (a36, a37) => [(0, cL 7 t_api_State p0), (1, cI p1), (2, cI p2), (7, cP (7,0) 0), (9, cI a36), (10, cI a37)]) (fun (a36, a37) => [((7,0), .box [jI p3.fFrom, jI p3.fTo])]) (fun e52 => [(9, cI e52)]) (fun e52 => []) sw ?_ ?_
 · rintro e52 hF
   refine wA rfl ?_; cases hF
   exact W_ret wR
 rintro ⟨a36, a37⟩ x_0 hF cont_0 brk_0 fin_0
 unfold tracebookref27_Total_L1 at hF
 refine W_seq ?_; refine wC 2 rfl ?_; refine rS (T_len (tc := t_api_State) p0 .tree ?_); refine QV rfl ?_; refine wIf hF rfl (fun _ hF => ?_) fun _ hF => ?_
 · refine W_skip ?_; refine W_seq ?_; refine W_join (fun _ _ h => h) hF (fun v53 => [(0, cL 7 t_api_State p0), (1, cI p1), (2, cI p2), (7, cP (7,0) 0), (9, cI v53), (10, cI a37)]) (fun v53 => [((7,0), .box [jI p3.fFrom, jI p3.fTo])]) ?_ ?_
   · rintro v53 hF
     refine wB rfl ?_; exact cont_0 _ _ _ (oi hF) sw
   intro join hF
   refine W_block ?_; refine W_seq ?_; refine W_seq ?_; have hF := bA hF; refine W_join (fun _ _ h => h) hF (fun v54 => [(0, cL 7 t_api_State p0), (1, cI p1), (2, cI p2), (7, cP (7,0) 0), (9, cI a36), (10, cI a37), (37, cB v54)]) (fun v54 => [((7,0), .box [jI p3.fFrom, jI p3.fTo])]) ?_ ?_
   · rintro v54 hF
     refine wIf' hF rfl (fun _ hF => ?_) fun _ hF => ?_
     · refine W_exit ?_; refine thenQ_exit ?_; refine blockQ_hit ?_; exact join a36 _ _ hF sw
     refine W_skip ?_; refine wC 2 rfl ?_; obtain ⟨y55, hy55, hF⟩ := bB' hF
     refine rS (T_ixT (tc := t_api_State) p0 rfl rfl hy55 ?_); refine QV rfl ?_; refine W_seq ?_; refine wA rfl ?_; have hF := bA hF; refine W_join (fun _ _ h => h) hF (fun v56 => [(0, cL 7 t_api_State p0), (1, cI p1), (2, cI p2), (7, cP (7,0) 0), (9, cI a36), (10, cI a37), (11, cI v56)]) (fun v56 => [((7,0), .box [jI p3.fFrom, jI p3.fTo])]) ?_ ?_
     · rintro v56 hF
       refine wC 2 rfl ?_; obtain ⟨y57, hy57, hF⟩ := bB' hF
       refine rS (T_ixT (tc := t_api_State) p0 rfl rfl hy57 ?_); refine QV rfl ?_; refine W_seq ?_; refine wA rfl ?_; have hF := bA hF; refine W_join (fun _ _ h => h) hF (fun v58 => [(0, cL 7 t_api_State p0), (1, cI p1), (2, cI p2), (7, cP (7,0) 0), (9, cI a36), (10, cI a37), (11, cI v56), (12, cI v58)]) (fun v58 => [((7,0), .box [jI p3.fFrom, jI p3.fTo])]) ?_ ?_
       · rintro v58 hF
         refine wA rfl ?_; refine wIf' hF rfl (fun _ hF => ?_) fun _ hF => ?_
         · refine wB rfl ?_; exact join (w64 ((w64 (a36 + v58)) - v56)) _ _ hF sw
         refine W_skip ?_; exact join a36 _ _ hF sw
       intro join hF
       refine wIf' hF rfl (fun _ hF => ?_) fun _ hF => ?_
       · refine wB rfl ?_; exact join p3.fTo _ _ hF sw
       refine W_skip ?_; exact join y57.fSpan.fTo _ _ hF sw
     intro join hF
     refine wIf' hF rfl (fun _ hF => ?_) fun _ hF => ?_
     · refine wB rfl ?_; exact join p3.fFrom _ _ hF sw
     refine W_skip ?_; exact join y55.fSpan.fFrom _ _ hF sw
   intro join hF
   refine wD 2 rfl ?_; obtain ⟨y63, hy63, hF⟩ := bB' hF
   refine rS (T_ixT (tc := t_api_State) p0 rfl rfl hy63 ?_); refine Q_run SV 5 rfl ?_; cases h64 : (!decide (y63.fThread = p1))
   · have hF := bF' h64 hF; refine Q_run SV 2 rfl ?_; obtain ⟨y65, hy65, hF⟩ := bB' hF
     refine R_step SV rfl (T_ixT (tc := t_api_State) p0 rfl rfl hy65 ?_); refine QV rfl ?_; exact join (!decide (y65.fState = p2)) _ _ hF sw
   have hF := bT' h64 hF; refine QV rfl ?_; exact join true _ _ hF sw
 refine W_exit ?_; refine thenQ_exit ?_; refine thenQ_exit ?_; refine blockQ_hit ?_; exact brk_0 _ _ _ (oi hF) sw
def tracebookref54_times_L1 (p0 : api_Trace) (y1 : api_Slice) : ((List Int) × Int × Int) → Option (((List Int) × Int × Int) ⊕ ((List Int) × Int)) := fun (a17, a18, a19) =>
  (bif (decide (a19 ≤ 5)) then ((tracebookref27_Total p0.fStates y1.fThread a19 y1.fSpan).bind fun r27 => (bif room 8 (List.length a17 + List.length [r27]) then some (.inl ((a17 ++ [r27]), (w64 (a18 - r27)), (w64 (a19 + 1)))) else none)) else some (.inr (a17, a18)))
def tracebookref54_times (p0 : api_Trace) (p1 : Int) : Option (List Int) :=
  ((idx p0.fSlices p1).bind fun y1 => ((loop (tracebookref54_times_L1 p0 y1) ([], (w64 (y1.fSpan.fTo - y1.fSpan.fFrom)), 0)).bind fun (e23, e24) => ((idx e23 5).bind fun y25 => ((idx e23 5).bind fun y26 => some (List.set e23 (Int.toNat 5) (w64 (y25 + e24)))))))
theorem tracebookref54_times_fun (p0 : api_Trace) (p1 : Int) (r : (List Int)) (hF : tracebookref54_times p0 p1 = some r) : Fun Tryz.prog 27 false [] [.agg (m_api_Trace p0), cI p1] (heapOf []) (cO (902,1080)) (heapOf [((902,1080), .arr 3 1 (List.map t_i64 r))]) := by
 refine Fun.of_walkM [] (some []) Tryz.func27 c27 (by kernel_rfl) (rs := [.tmp 4]) (by kernel_rfl) rfl rfl rfl ?_; unfold v27
 unfold tracebookref54_times at hF
 refine wA rfl ?_; refine wC 3 rfl ?_; obtain ⟨y1, hy1, hF⟩ := bB hF
 refine rS (T_ixT (tc := t_api_Slice) p0.fSlices rfl rfl hy1 ?_); refine QV rfl ?_; refine wA rfl ?_; refine wA rfl ?_; refine W_seq ?_; refine wA rfl ?_; refine W_for (fun _ _ h => h) hF (id) (fun (a17, a18, a19) => [(2, cP (2,0) 0), (5, cP (5,0) 0), (6, cO (37,1)), (7, cI a18), (8, cI a19)]) (fun (a17, a18, a19) => [((2,0), .box (m_api_Trace p0)), ((5,0), .box (m_api_Slice y1)), ((37,1), .arr 3 1 (List.map t_i64 a17))]) (fun (e23, e24) => [(6, cO (37,1)), (7, cI e24)]) (fun (e23, e24) => [((37,1), .arr 3 1 (List.map t_i64 e23))]) (S_own 6 (37,1) 3 1 rfl rfl rfl rfl sw) ?_ ?_
 · rintro ⟨e23, e24⟩ hF
   refine wC 2 rfl ?_; obtain ⟨y25, hy25, hF⟩ := bB hF
   refine rS (T_ixO (tc := t_i64) e23 rfl rfl rfl hy25 ?_); refine rS (T_ldE (tc := t_i64) e23 rfl rfl (idx_get hy25).2.1 rfl ?_); refine Q_run SV 2 rfl ?_; obtain ⟨y26, hy26, hF⟩ := bB hF
   refine rS (T_ixO (tc := t_i64) e23 rfl rfl rfl hy26 ?_); refine rS (T_stE (tc := t_i64) e23 (w64 (y25 + e24)) rfl rfl (idx_get hy26).2.1 rfl rfl rfl rfl rfl ?_); refine QV rfl ?_; refine wA rfl ?_; cases hF
   exact W_ret ⟨_, _, (S_ren (37,1) (902,1080) rfl rfl S_refl), _, rfl, rfl, rfl, (AgM.weak ⟨rfl, trivial⟩)⟩
 rintro ⟨a17, a18, a19⟩ x_0 hF cont_0 brk_0 fin_0
 unfold tracebookref54_times_L1 at hF
 refine W_seq ?_; refine wA rfl ?_; refine wIf hF rfl (fun _ hF => ?_) fun _ hF => ?_
 · refine W_skip ?_; refine W_seq ?_; refine W_block ?_; refine wC 7 rfl ?_; obtain ⟨r27, hr27, hF⟩ := bB hF
   refine rS (T_call (tracebookref27_Total_fun _ _ _ _ _ hr27) ⟨rfl, rfl, rfl, ⟨rfl, rfl, trivial⟩, trivial⟩ rfl (.inl rfl) ?_); refine QV rfl ?_; refine wC 2 rfl ?_; refine rS (T_bsl (tc := t_i64) [r27] rfl ⟨rfl, trivial⟩ rfl (fun _ => rfl) rfl ?_)
   obtain ⟨h28, hF⟩ := roomT hF
   refine rS (T_appO (tc := t_i64) a17 [r27] rfl rfl (.own _ _ rfl) h28 rfl ?_); refine QV rfl ?_; refine wB rfl ?_; refine wB rfl ?_; exact cont_0 _ _ _ (oi hF) (S_ren (37,0) (37,1) rfl rfl sw)
 refine W_exit ?_; refine thenQ_exit ?_; refine thenQ_exit ?_; refine blockQ_hit ?_; exact brk_0 _ _ _ (oi hF) sw
def tracebookref54_Times (p0 : api_Trace) (p1 : Int) : Option ((List Int) × Int) :=
  ((tracebookref32_Check p0).bind fun r1 => (bif (!decide (r1 = 0)) then some ([], r1) else (((bif (decide (p1 < 0)) then some true else some (decide ((List.length p0.fSlices : Int) ≤ p1))) : Option Bool).bind fun v2 => (bif v2 then some ([], 5) else ((tracebookref54_times p0 p1).bind fun r3 => some (r3, 0))))))
theorem tracebookref54_Times_fun (p0 : api_Trace) (p1 : Int) (r : ((List Int) × Int)) (hF : tracebookref54_Times p0 p1 = some r) : Fun Tryz.prog 14 false [] [.agg (m_api_Trace p0), cI p1] (heapOf []) (.tup [cO (902,560), cI r.2]) (heapOf [((902,560), .arr 3 1 (List.map t_i64 r.1))]) := by
 refine Fun.of_walkM [] (some []) Tryz.func14 c14 (by kernel_rfl) (rs := [.tmp 4, .tmp 5]) (by kernel_rfl) rfl rfl rfl ?_; unfold v14
 unfold tracebookref54_Times at hF
 refine wA rfl ?_; refine wC 1 rfl ?_; obtain ⟨r1, hr1, hF⟩ := bB hF
 refine rS (T_call (tracebookref32_Check_fun _ _ hr1) ⟨⟨rfl, rfl, rfl, rfl, rfl, rfl, rfl, rfl, rfl, rfl, trivial⟩, trivial⟩ rfl (.inl rfl) ?_); refine QV rfl ?_; refine W_seq ?_; refine wA rfl ?_; refine wIf hF rfl (fun _ hF => ?_) fun _ hF => ?_
 · refine wA rfl ?_; cases hF
   exact W_ret ⟨_, _, (S_own 4 (902,560) 3 1 rfl rfl rfl rfl S_refl), _, rfl, rfl, ⟨rfl, ⟨rfl, fun _ => rfl⟩, trivial⟩, (AgM.weak ⟨rfl, trivial⟩)⟩
 refine W_skip ?_; refine W_seq ?_; refine W_seq ?_; refine W_join (fun _ _ h => h) hF (fun v2 => [(1, cI p1), (2, cP (2,0) 0), (20, cB v2)]) (fun v2 => [((2,0), .box (m_api_Trace p0))]) ?_ ?_
 · rintro v2 hF
   refine wIf hF rfl (fun _ hF => ?_) fun _ hF => ?_
   · refine wA rfl ?_; cases hF
     exact W_ret ⟨_, _, (S_own 4 (902,560) 3 1 rfl rfl rfl rfl S_refl), _, rfl, rfl, ⟨rfl, ⟨rfl, fun _ => rfl⟩, trivial⟩, (AgM.weak ⟨rfl, trivial⟩)⟩
   refine W_skip ?_; refine wC 2 rfl ?_; obtain ⟨r3, hr3, hF⟩ := bB hF
   refine R_stepX trivial (X_callG [((902,1080),(23,1))] rfl (callN _) (tracebookref54_times_fun _ _ _ hr3) trivial ⟨.inr ⟨rfl, rfl, rfl, rfl, rfl, rfl, rfl, rfl, rfl, rfl, trivial⟩, .inl rfl, trivial⟩ rfl rfl rfl ?_)
   refine QV rfl ?_; cases hF
   exact W_ret ⟨_, _, (S_ren (23,1) (902,560) rfl rfl S_refl), _, rfl, rfl, ⟨rfl, ⟨rfl, fun _ => rfl⟩, trivial⟩, (AgM.weak ⟨rfl, trivial⟩)⟩
 intro join hF
 refine wD 3 rfl ?_; cases h5 : (decide (p1 < 0))
 · have hF := bF' h5 hF; refine Q_run SV 3 rfl ?_; refine R_step SV rfl (T_len (tc := t_api_Slice) p0.fSlices .tree ?_); refine QV rfl ?_; exact join (decide ((List.length p0.fSlices : Int) ≤ p1)) _ _ hF sw
 have hF := bT' h5 hF; refine QV rfl ?_; exact join true _ _ hF sw
def tracebookref54_lengths_L1 (p0 : api_Trace) (p1 : ByteArray) : ((List Int) × Int) → Option (((List Int) × Int) ⊕ (List Int)) := fun (a21, a22) =>
  (bif (decide (a22 < (List.length p0.fSlices : Int))) then ((((idx p0.fSlices a22).bind fun y32 => (((bif (decide (y32.fName = p1)) then some (!y32.fOpen) else some false) : Option Bool).bind fun v33 => (bif v33 then (bif room 8 (List.length a21 + List.length [(w64 (y32.fSpan.fTo - y32.fSpan.fFrom))]) then some (a21 ++ [(w64 (y32.fSpan.fTo - y32.fSpan.fFrom))]) else none) else some a21))) : Option (List Int)).bind fun v31 => some (.inl (v31, (w64 (a22 + 1))))) else some (.inr a21))
def tracebookref54_lengths (p0 : api_Trace) (p1 : ByteArray) : Option (List Int) :=
  ((loop (tracebookref54_lengths_L1 p0 p1) ([], 0)).bind fun e30 => some e30)
theorem tracebookref54_lengths_fun (p0 : api_Trace) (p1 : ByteArray) (r : (List Int)) (hF : tracebookref54_lengths p0 p1 = some r) : Fun Tryz.prog 25 false [] [.agg (m_api_Trace p0), .c (jS p1)] (heapOf []) (cO (902,1000)) (heapOf [((902,1000), .arr 3 1 (List.map t_i64 r))]) := by
 refine Fun.of_walkM [] (some []) Tryz.func25 c25 (by kernel_rfl) (rs := [.tmp 4]) (by kernel_rfl) rfl rfl rfl ?_; unfold v25
 unfold tracebookref54_lengths at hF
 refine wA rfl ?_; refine wA rfl ?_; refine W_seq ?_; refine wA rfl ?_; refine W_for (fun _ _ h => h) hF (id) (fun (a21, a22) => [(1, .c (jS p1)), (2, cP (2,0) 0), (5, cO (38,1)), (6, cI a22)]) (fun (a21, a22) => [((2,0), .box (m_api_Trace p0)), ((38,1), .arr 3 1 (List.map t_i64 a21))]) (fun e30 => [(5, cO (38,1))]) (fun e30 => [((38,1), .arr 3 1 (List.map t_i64 e30))]) (S_own 5 (38,1) 3 1 rfl rfl rfl rfl sw) ?_ ?_
 · rintro e30 hF
   refine wA rfl ?_; cases hF
   exact W_ret ⟨_, _, (S_ren (38,1) (902,1000) rfl rfl S_refl), _, rfl, rfl, rfl, (AgM.weak ⟨rfl, trivial⟩)⟩
 rintro ⟨a21, a22⟩ x_0 hF cont_0 brk_0 fin_0
 unfold tracebookref54_lengths_L1 at hF
 refine W_seq ?_; refine wC 3 rfl ?_; refine rS (T_len (tc := t_api_Slice) p0.fSlices .tree ?_); refine QV rfl ?_; refine wIf hF rfl (fun _ hF => ?_) fun _ hF => ?_
 · refine W_skip ?_; refine W_seq ?_; refine W_join (fun _ _ h => h) hF (fun v31 => [(1, .c (jS p1)), (2, cP (2,0) 0), (5, cO (38,1)), (6, cI a22)]) (fun v31 => [((2,0), .box (m_api_Trace p0)), ((38,1), .arr 3 1 (List.map t_i64 v31))]) ?_ ?_
   · rintro v31 hF
     refine wB rfl ?_; exact cont_0 _ _ _ (oi hF) sw
   intro join hF
   refine W_block ?_; refine wC 3 rfl ?_; obtain ⟨y32, hy32, hF⟩ := bB' hF
   refine rS (T_ixT (tc := t_api_Slice) p0.fSlices rfl rfl hy32 ?_); refine QV rfl ?_; refine W_seq ?_; have hF := bA hF; refine W_join (fun _ _ h => h) hF (fun v33 => [(1, .c (jS p1)), (2, cP (2,0) 0), (5, cO (38,1)), (6, cI a22), (7, cP (7,0) 0), (28, cB v33)]) (fun v33 => [((2,0), .box (m_api_Trace p0)), ((38,1), .arr 3 1 (List.map t_i64 a21)), ((7,0), .box (m_api_Slice y32))]) ?_ ?_
   · rintro v33 hF
     refine wIf' hF rfl (fun _ hF => ?_) fun _ hF => ?_
     · refine wD 8 rfl ?_; refine rS (T_bsl (tc := t_i64) [(w64 (y32.fSpan.fTo - y32.fSpan.fFrom))] rfl ⟨rfl, trivial⟩ rfl (fun _ => rfl) rfl ?_)
       obtain ⟨h34, hF⟩ := roomT' hF
       refine rS (T_appO (tc := t_i64) a21 [(w64 (y32.fSpan.fTo - y32.fSpan.fFrom))] rfl rfl (.own _ _ rfl) h34 rfl ?_); refine QV rfl ?_; exact join (a21 ++ [(w64 (y32.fSpan.fTo - y32.fSpan.fFrom))]) _ _ hF (S_ren (38,0) (38,1) rfl rfl sw)
     refine W_skip ?_; exact join a21 _ _ hF sw
   intro join hF
   refine wD 5 rfl ?_; cases h36 : (decide (y32.fName = p1))
   · have hF := bF' h36 hF; refine QV rfl ?_; exact join false _ _ hF sw
   have hF := bT' h36 hF; refine QV rfl ?_; exact join (!y32.fOpen) _ _ hF sw
 refine W_exit ?_; refine thenQ_exit ?_; refine thenQ_exit ?_; refine blockQ_hit ?_; exact brk_0 _ _ _ (oi hF) sw
def tracebookref01_Quantile_L1 (p0 : (List Int)) (a87 : Int) : (Int × Int) → Option ((Int × Int) ⊕ Int) := fun (a145, a146) =>
  (bif (decide (a146 < (List.length p0 : Int))) then ((((idx p0 a146).bind fun y160 => ((idx p0 a87).bind fun y161 => (bif (decide (y160 ≤ y161)) then some (w64 (a145 + 1)) else some a145))) : Option Int).bind fun v159 => some (.inl (v159, (w64 (a146 + 1))))) else some (.inr a145))
def tracebookref01_Quantile_L2 (p0 : (List Int)) (p1 : Int) (p2 : Int) : (Int × Bool × Int) → Option ((Int × Bool × Int) ⊕ Int) := fun (a85, a86, a87) =>
  (bif (decide (a87 < (List.length p0 : Int))) then ((((loop (tracebookref01_Quantile_L1 p0 a87) (0, 0)).bind fun e152 => (((bif (decide ((w64 (p1 * (List.length p0 : Int))) ≤ (w64 (p2 * e152)))) then (bif (!a86) then some true else ((idx p0 a87).bind fun y158 => some (decide (y158 < a85)))) else some false) : Option Bool).bind fun v153 => (bif v153 then ((idx p0 a87).bind fun y154 => some (y154, true)) else some (a85, a86)))) : Option (Int × Bool)).bind fun (v127, v128) => some (.inl (v127, v128, (w64 (a87 + 1))))) else some (.inr a85))
def tracebookref01_Quantile (p0 : (List Int)) (p1 : Int) (p2 : Int) : Option (Int × Bool) :=
  (((bif (decide ((List.length p0 : Int) = 0)) then some true else (bif (decide (p2 < 1)) then some true else (bif (decide (1000000000000000 < p2)) then some true else (bif (decide (p1 < 0)) then some true else some (decide (p2 < p1)))))) : Option Bool).bind fun v1 => (bif v1 then some (0, false) else ((loop (tracebookref01_Quantile_L2 p0 p1 p2) (0, false, 0)).bind fun e126 => some (e126, true))))
theorem tracebookref01_Quantile_fun (p0 : (List Int)) (p1 : Int) (p2 : Int) (r : (Int × Bool)) (hF : tracebookref01_Quantile p0 p1 p2 = some r) : Fun Tryz.prog 40 true [] [cL 1 t_i64 p0, cI p1, cI p2] noHeap (.tup [cI r.1, cB r.2]) noHeap := by
 refine Fun.of_walk0 Tryz.func40 c40 (by kernel_rfl) (rs := [.tmp 6, .tmp 7]) (by kernel_rfl) ?_; unfold v40
 unfold tracebookref01_Quantile at hF
 refine wA rfl ?_; refine W_seq ?_; refine W_seq ?_; refine W_join (fun _ _ h => h) hF (fun v1 => [(0, cL 1 t_i64 p0), (1, cI p1), (2, cI p2), (32, cB v1)]) (fun v1 => []) ?_ ?_
 · rintro v1 hF
   refine wIf hF rfl (fun _ hF => ?_) fun _ hF => ?_
   · refine wA rfl ?_; cases hF
     exact W_ret ⟨_, rfl, rfl, ⟨⟨rfl, fun _ => rfl⟩, ⟨rfl, fun _ => rfl⟩, trivial⟩, noOut _⟩
   refine W_skip ?_; refine wA rfl ?_; refine W_seq ?_; refine wA rfl ?_; refine W_for (fun _ _ h => h) hF (id) (fun (a85, a86, a87) => [(0, cL 1 t_i64 p0), (1, cI p1), (2, cI p2), (8, cI a85), (9, cB a86), (10, cI a87)]) (fun (a85, a86, a87) => []) (fun e126 => [(8, cI e126)]) (fun e126 => []) sw ?_ ?_
   · rintro e126 hF
     refine wA rfl ?_; cases hF
     exact W_ret ⟨_, rfl, rfl, ⟨⟨rfl, fun _ => rfl⟩, ⟨rfl, fun _ => rfl⟩, trivial⟩, noOut _⟩
   rintro ⟨a85, a86, a87⟩ x_0 hF cont_0 brk_0 fin_0
   unfold tracebookref01_Quantile_L2 at hF
   refine W_seq ?_; refine wC 2 rfl ?_; refine rS (T_len (tc := t_i64) p0 .tree ?_); refine QV rfl ?_; refine wIf hF rfl (fun _ hF => ?_) fun _ hF => ?_
   · refine W_skip ?_; refine W_seq ?_; refine W_join (fun _ _ h => h) hF (fun (v127, v128) => [(0, cL 1 t_i64 p0), (1, cI p1), (2, cI p2), (8, cI v127), (9, cB v128), (10, cI a87)]) (fun (v127, v128) => []) ?_ ?_
     · rintro ⟨v127, v128⟩ hF
       refine wB rfl ?_; exact cont_0 _ _ _ (oi hF) sw
     intro join hF
     refine W_block ?_; refine wA rfl ?_; refine W_seq ?_; refine wA rfl ?_; have hF := bA hF; refine W_for (fun _ _ h => h) hF (id) (fun (a145, a146) => [(0, cL 1 t_i64 p0), (1, cI p1), (2, cI p2), (8, cI a85), (9, cB a86), (10, cI a87), (11, cI a145), (12, cI a146)]) (fun (a145, a146) => []) (fun e152 => [(0, cL 1 t_i64 p0), (1, cI p1), (2, cI p2), (8, cI a85), (9, cB a86), (10, cI a87), (11, cI e152)]) (fun e152 => []) sw ?_ ?_
     · rintro e152 hF
       refine W_seq ?_; have hF := bA hF; refine W_join (fun _ _ h => h) hF (fun v153 => [(0, cL 1 t_i64 p0), (1, cI p1), (2, cI p2), (8, cI a85), (9, cB a86), (10, cI a87), (75, cB v153)]) (fun v153 => []) ?_ ?_
       · rintro v153 hF
         refine wIf' hF rfl (fun _ hF => ?_) fun _ hF => ?_
         · refine wC 2 rfl ?_; obtain ⟨y154, hy154, hF⟩ := bB' hF
           refine rS (T_ixT (tc := t_i64) p0 rfl rfl hy154 ?_); refine QV rfl ?_; refine wB rfl ?_; exact join (y154, true) _ _ hF sw
         refine W_skip ?_; exact join (a85, a86) _ _ hF sw
       intro join hF
       refine wD 5 rfl ?_; refine rS (T_len (tc := t_i64) p0 .tree ?_); refine Q_run SV 3 rfl ?_; cases h156 : (decide ((w64 (p1 * (List.length p0 : Int))) ≤ (w64 (p2 * e152))))
       · have hF := bF' h156 hF; refine QV rfl ?_; exact join false _ _ hF sw
       have hF := bT' h156 hF; refine Q_run SV 3 rfl ?_; cases h157 : (!a86)
       · have hF := bF' h157 hF; refine Q_run SV 2 rfl ?_; obtain ⟨y158, hy158, hF⟩ := bB' hF
         refine R_step SV rfl (T_ixT (tc := t_i64) p0 rfl rfl hy158 ?_); refine QV rfl ?_; exact join (decide (y158 < a85)) _ _ hF sw
       have hF := bT' h157 hF; refine QV rfl ?_; exact join true _ _ hF sw
     rintro ⟨a145, a146⟩ x_1 hF cont_1 brk_1 fin_1
     unfold tracebookref01_Quantile_L1 at hF
     refine W_seq ?_; refine wC 2 rfl ?_; refine rS (T_len (tc := t_i64) p0 .tree ?_); refine QV rfl ?_; refine wIf hF rfl (fun _ hF => ?_) fun _ hF => ?_
     · refine W_skip ?_; refine W_seq ?_; refine W_join (fun _ _ h => h) hF (fun v159 => [(0, cL 1 t_i64 p0), (1, cI p1), (2, cI p2), (8, cI a85), (9, cB a86), (10, cI a87), (11, cI v159), (12, cI a146)]) (fun v159 => []) ?_ ?_
       · rintro v159 hF
         refine wB rfl ?_; exact cont_1 _ _ _ (oi hF) sw
       intro join hF
       refine W_block ?_; refine W_seq ?_; refine W_regD (by decide) (by kernel_rfl) rfl ?_; refine Q_run SP 2 rfl ?_; obtain ⟨y160, hy160, hF⟩ := bB' hF
       refine R_step SP trivial (T_ixT (tc := t_i64) p0 rfl rfl hy160 ?_); refine Q_run SP 3 rfl ?_; obtain ⟨y161, hy161, hF⟩ := bB' hF
       refine R_step SP trivial (T_ixT (tc := t_i64) p0 rfl rfl hy161 ?_); refine QP rfl ?_; refine wIf' hF rfl (fun _ hF => ?_) fun _ hF => ?_
       · refine wB rfl ?_; exact join (w64 (a145 + 1)) _ _ hF sw
       refine W_skip ?_; exact join a145 _ _ hF sw
     refine W_exit ?_; refine thenQ_exit ?_; refine thenQ_exit ?_; refine blockQ_hit ?_; exact brk_1 _ _ _ (oi hF) sw
   refine W_exit ?_; refine thenQ_exit ?_; refine thenQ_exit ?_; refine blockQ_hit ?_; exact brk_0 _ _ _ (oi hF) sw
 intro join hF
 refine wD 1 rfl ?_; refine rS (T_len (tc := t_i64) p0 .tree ?_); refine Q_run SV 2 rfl ?_; cases h166 : (decide ((List.length p0 : Int) = 0))
 · have hF := bF' h166 hF; refine Q_run SV 4 rfl ?_; cases h167 : (decide (p2 < 1))
   · have hF := bF' h167 hF; refine Q_run SV 4 rfl ?_; cases h168 : (decide (1000000000000000 < p2))
     · have hF := bF' h168 hF; refine Q_run SV 4 rfl ?_; cases h169 : (decide (p1 < 0))
       · have hF := bF' h169 hF; refine QV rfl ?_; exact join (decide (p2 < p1)) _ _ hF sw
       have hF := bT' h169 hF; refine QV rfl ?_; exact join true _ _ hF sw
     have hF := bT' h168 hF; refine QV rfl ?_; exact join true _ _ hF sw
   have hF := bT' h167 hF; refine QV rfl ?_; exact join true _ _ hF sw
 have hF := bT' h166 hF; refine QV rfl ?_; exact join true _ _ hF sw
def tracebookref54_usual_L1 (p0 : api_Trace) (p1 : ByteArray) (r2 : (Int × Bool)) : Int → Option (Int ⊕ (Unit ⊕ Int)) := fun a22 =>
  (((bif (decide (a22 < (List.length p0.fSlices : Int))) then some r2.2 else some false) : Option Bool).bind fun v31 => (bif v31 then ((idx p0.fSlices a22).bind fun y32 => (((bif (decide (y32.fName = p1)) then (bif (!y32.fOpen) then some (decide ((w64 (y32.fSpan.fTo - y32.fSpan.fFrom)) = r2.1)) else some false) else some false) : Option Bool).bind fun v33 => (bif v33 then some (.inr (.inr a22)) else some (.inl (w64 (a22 + 1)))))) else some (.inr (.inl ()))))
def tracebookref54_usual (p0 : api_Trace) (p1 : ByteArray) : Option Int :=
  ((tracebookref54_lengths p0 p1).bind fun r1 => ((tracebookref01_Quantile r1 1 2).bind fun r2 => ((loop (tracebookref54_usual_L1 p0 p1 r2) 0).bind fun | .inl _ => some (-1) | .inr rv => some rv)))
theorem tracebookref54_usual_fun (p0 : api_Trace) (p1 : ByteArray) (r : Int) (hF : tracebookref54_usual p0 p1 = some r) : Fun Tryz.prog 26 true [] [.agg (m_api_Trace p0), .c (jS p1)] noHeap (cI r) noHeap := by
 refine Fun.of_walk0 Tryz.func26 c26 (by kernel_rfl) (rs := [.tmp 4]) (by kernel_rfl) ?_; unfold v26
 unfold tracebookref54_usual at hF
 refine wA rfl ?_; refine wC 2 rfl ?_; obtain ⟨r1, hr1, hF⟩ := bB hF
 refine R_stepX trivial (X_callG [((902,1000),(12,1))] rfl (callN _) (tracebookref54_lengths_fun _ _ _ hr1) trivial ⟨.inr ⟨rfl, rfl, rfl, rfl, rfl, rfl, rfl, rfl, rfl, rfl, trivial⟩, .inl rfl, trivial⟩ rfl rfl rfl ?_)
 obtain ⟨r2, hr2, hF⟩ := bB hF
 refine rS (T_call (tracebookref01_Quantile_fun _ _ _ _ hr2) ⟨⟨_, rfl⟩, rfl, rfl, trivial⟩ rfl (.inl rfl) ?_); refine QV rfl ?_; refine W_seq ?_; refine wA rfl ?_; refine W_for (fun _ _ h => h) hF (.inl) (fun a22 => [(1, .c (jS p1)), (2, cP (2,0) 0), (5, cI r2.1), (6, cB r2.2), (7, cI a22)]) (fun a22 => [((2,0), .box (m_api_Trace p0))]) (fun _ => []) (fun _ => []) sw ?_ ?_
 · rintro ⟨⟩ hF
   refine wA rfl ?_; cases hF
   exact W_ret wR
 rintro a22 x_0 hF cont_0 brk_0 fin_0
 unfold tracebookref54_usual_L1 at hF
 refine W_seq ?_; refine W_seq ?_; refine W_join (fun _ _ h => h) hF (fun v31 => [(1, .c (jS p1)), (2, cP (2,0) 0), (5, cI r2.1), (6, cB r2.2), (7, cI a22), (23, cB v31)]) (fun v31 => [((2,0), .box (m_api_Trace p0))]) ?_ ?_
 · rintro v31 hF
   refine wIf hF rfl (fun _ hF => ?_) fun _ hF => ?_
   · refine W_skip ?_; refine W_seq ?_; refine W_block ?_; refine wC 3 rfl ?_; obtain ⟨y32, hy32, hF⟩ := bB hF
     refine rS (T_ixT (tc := t_api_Slice) p0.fSlices rfl rfl hy32 ?_); refine QV rfl ?_; refine W_seq ?_; refine W_join (fun _ _ h => h) hF (fun v33 => [(1, .c (jS p1)), (2, cP (2,0) 0), (5, cI r2.1), (6, cB r2.2), (7, cI a22), (50, cB v33)]) (fun v33 => [((2,0), .box (m_api_Trace p0))]) ?_ ?_
     · rintro v33 hF
       refine wIf hF rfl (fun _ hF => ?_) fun _ hF => ?_
       · refine wA rfl ?_; have hF := fin_0 _ (oi hF); cases hF
         exact W_ret wR
       refine W_skip ?_; refine wB rfl ?_; exact cont_0 _ _ _ (oi hF) sw
     intro join hF
     refine wD 5 rfl ?_; cases h35 : (decide (y32.fName = p1))
     · have hF := bF' h35 hF; refine QV rfl ?_; exact join false _ _ hF sw
     have hF := bT' h35 hF; refine Q_run SV 5 rfl ?_; cases h36 : (!y32.fOpen)
     · have hF := bF' h36 hF; refine QV rfl ?_; exact join false _ _ hF sw
     have hF := bT' h36 hF; refine QV rfl ?_; exact join (decide ((w64 (y32.fSpan.fTo - y32.fSpan.fFrom)) = r2.1)) _ _ hF sw
   refine W_exit ?_; refine thenQ_exit ?_; refine thenQ_exit ?_; refine blockQ_hit ?_; exact brk_0 _ _ _ (oi hF) sw
 intro join hF
 refine wD 3 rfl ?_; refine rS (T_len (tc := t_api_Slice) p0.fSlices .tree ?_); refine Q_run SV 2 rfl ?_; cases h38 : (decide (a22 < (List.length p0.fSlices : Int)))
 · have hF := bF' h38 hF; refine QV rfl ?_; exact join false _ _ hF sw
 have hF := bT' h38 hF; refine QV rfl ?_; exact join r2.2 _ _ hF sw
def tracebookref54_Usual (p0 : api_Trace) (p1 : ByteArray) : Option (Int × Int) :=
  ((tracebookref32_Check p0).bind fun r1 => (bif (!decide (r1 = 0)) then some (0, r1) else ((tracebookref54_usual p0 p1).bind fun r2 => (bif (decide (r2 < 0)) then some (0, 5) else some (r2, 0)))))
theorem tracebookref54_Usual_fun (p0 : api_Trace) (p1 : ByteArray) (r : (Int × Int)) (hF : tracebookref54_Usual p0 p1 = some r) : Fun Tryz.prog 16 true [] [.agg (m_api_Trace p0), .c (jS p1)] noHeap (.tup [cI r.1, cI r.2]) noHeap := by
 refine Fun.of_walk0 Tryz.func16 c16 (by kernel_rfl) (rs := [.tmp 4, .tmp 5]) (by kernel_rfl) ?_; unfold v16
 unfold tracebookref54_Usual at hF
 refine wA rfl ?_; refine wC 1 rfl ?_; obtain ⟨r1, hr1, hF⟩ := bB hF
 refine rS (T_call (tracebookref32_Check_fun _ _ hr1) ⟨⟨rfl, rfl, rfl, rfl, rfl, rfl, rfl, rfl, rfl, rfl, trivial⟩, trivial⟩ rfl (.inl rfl) ?_); refine QV rfl ?_; refine W_seq ?_; refine wA rfl ?_; refine wIf hF rfl (fun _ hF => ?_) fun _ hF => ?_
 · refine wA rfl ?_; cases hF
   exact W_ret ⟨_, rfl, rfl, ⟨⟨rfl, fun _ => rfl⟩, ⟨rfl, fun _ => rfl⟩, trivial⟩, noOut _⟩
 refine W_skip ?_; refine wC 2 rfl ?_; obtain ⟨r2, hr2, hF⟩ := bB hF
 refine rS (T_call (tracebookref54_usual_fun _ _ _ hr2) ⟨⟨rfl, rfl, rfl, rfl, rfl, rfl, rfl, rfl, rfl, rfl, trivial⟩, rfl, trivial⟩ rfl (.inl rfl) ?_); refine QV rfl ?_; refine W_seq ?_; refine wA rfl ?_
 refine wIf hF rfl (fun _ hF => ?_) fun _ hF => ?_
 · refine wA rfl ?_; cases hF
   exact W_ret ⟨_, rfl, rfl, ⟨⟨rfl, fun _ => rfl⟩, ⟨rfl, fun _ => rfl⟩, trivial⟩, noOut _⟩
 refine W_skip ?_; refine wA rfl ?_; cases hF
 exact W_ret ⟨_, rfl, rfl, ⟨⟨rfl, fun _ => rfl⟩, ⟨rfl, fun _ => rfl⟩, trivial⟩, noOut _⟩
def tracebooklaw54_AnomalyReads_L1 (r3 : ((List Int) × Int)) (r4 : ((List Int) × Int)) : Int → Option (Int ⊕ (Unit ⊕ Bool)) := fun a19 =>
  (bif (decide (a19 < (List.length r3.1 : Int))) then ((idx r3.1 a19).bind fun y25 => ((idx r4.1 a19).bind fun y26 => (bif (!decide (y25 = y26)) then some (.inr (.inr false)) else some (.inl (w64 (a19 + 1)))))) else some (.inr (.inl ())))
def tracebooklaw54_AnomalyReads (p0 : api_Trace) (p1 : Int) (p2 : ByteArray) : Option Bool :=
  ((tracebooklaw54_few p0).bind fun r1 => (bif (!r1) then ((tracebooklaw54_awake ).bind fun r2 => some r2) else ((anomaly_Times p0 p1).bind fun r3 => ((tracebookref54_Times p0 p1).bind fun r4 => ((anomaly_Usual p0 p2).bind fun r5 => ((tracebookref54_Usual p0 p2).bind fun r6 => (((bif (!decide (r3.2 = r4.2)) then some true else (bif (!decide ((List.length r3.1 : Int) = (List.length r4.1 : Int))) then some true else (bif (!decide (r5.1 = r6.1)) then some true else some (!decide (r5.2 = r6.2))))) : Option Bool).bind fun v7 => (bif v7 then some false else ((loop (tracebooklaw54_AnomalyReads_L1 r3 r4) 0).bind fun | .inl _ => ((tracebooklaw54_awake ).bind fun r24 => some r24) | .inr rv => some rv)))))))))
theorem tracebooklaw54_AnomalyReads_fun (p0 : api_Trace) (p1 : Int) (p2 : ByteArray) (r : Bool) (hF : tracebooklaw54_AnomalyReads p0 p1 p2 = some r) : Fun Tryz.prog 6 true [] [.agg (m_api_Trace p0), cI p1, .c (jS p2)] noHeap (cB r) noHeap := by
 refine Fun.of_walk0 Tryz.func6 c6 (by kernel_rfl) (rs := [.tmp 6]) (by kernel_rfl) ?_; unfold v6
 unfold tracebooklaw54_AnomalyReads at hF
 refine wA rfl ?_; refine W_seq ?_; refine wC 1 rfl ?_; obtain ⟨r1, hr1, hF⟩ := bB hF
 refine rS (T_call (tracebooklaw54_few_fun _ _ hr1) ⟨⟨rfl, rfl, rfl, rfl, rfl, rfl, rfl, rfl, rfl, rfl, trivial⟩, trivial⟩ rfl (.inl rfl) ?_); refine QV rfl ?_; refine wIf hF rfl (fun _ hF => ?_) fun _ hF => ?_
 · refine wE ?_; obtain ⟨r2, hr2, hF⟩ := bB hF
   refine rS (T_call (tracebooklaw54_awake_fun _ hr2) trivial rfl (.inl rfl) ?_); refine QV rfl ?_; cases hF
   exact W_ret wR
 refine W_skip ?_; refine wC 2 rfl ?_; obtain ⟨r3, hr3, hF⟩ := bB hF
 refine rS (T_call (anomaly_Times_fun _ _ _ hr3) ⟨⟨rfl, rfl, rfl, rfl, rfl, rfl, rfl, rfl, rfl, rfl, trivial⟩, rfl, trivial⟩ rfl (.inr (.inr ⟨⟨rfl, rfl, rfl, rfl, rfl, rfl, rfl, rfl, rfl, rfl, trivial⟩, rfl, trivial⟩)) ?_)
 refine QV rfl ?_; refine wC 2 rfl ?_; obtain ⟨r4, hr4, hF⟩ := bB hF
 refine R_stepX trivial (X_callG [((902,560),(29,1))] rfl (callN _) (tracebookref54_Times_fun _ _ _ hr4) trivial ⟨.inr ⟨rfl, rfl, rfl, rfl, rfl, rfl, rfl, rfl, rfl, rfl, trivial⟩, .inl rfl, trivial⟩ rfl rfl rfl ?_)
 refine QV rfl ?_; refine wC 2 rfl ?_; obtain ⟨r5, hr5, hF⟩ := bB hF
 refine rS (T_call (anomaly_Usual_fun _ _ _ hr5) ⟨⟨rfl, rfl, rfl, rfl, rfl, rfl, rfl, rfl, rfl, rfl, trivial⟩, rfl, trivial⟩ rfl (.inl rfl) ?_); refine QV rfl ?_; refine wC 2 rfl ?_; obtain ⟨r6, hr6, hF⟩ := bB hF
 refine rS (T_call (tracebookref54_Usual_fun _ _ _ hr6) ⟨⟨rfl, rfl, rfl, rfl, rfl, rfl, rfl, rfl, rfl, rfl, trivial⟩, rfl, trivial⟩ rfl (.inl rfl) ?_); refine QV rfl ?_; refine W_seq ?_; refine W_seq ?_
 refine W_join (fun _ _ h => h) hF (fun v7 => [(7, cL 1 t_i64 r3.1), (9, cO (29,1)), (63, cB v7)]) (fun v7 => [((29,1), .arr 3 1 (List.map t_i64 r4.1))]) ?_ ?_
 · rintro v7 hF
   refine wIf hF rfl (fun _ hF => ?_) fun _ hF => ?_
   · refine wA rfl ?_; cases hF
     exact W_ret wR
   refine W_skip ?_; refine W_seq ?_; refine wC 1 rfl ?_; refine rS (T_len (tc := t_i64) r3.1 .tree ?_); refine QV rfl ?_; refine W_for (fun _ _ h => h) hF (.inl) (fun a19 => [(7, cL 1 t_i64 r3.1), (9, cO (29,1)), (65, cI (List.length r3.1 : Int)), (66, cI a19)]) (fun a19 => [((29,1), .arr 3 1 (List.map t_i64 r4.1))]) (fun _ => []) (fun _ => []) sw ?_ ?_
   · rintro ⟨⟩ hF
     refine wE ?_; obtain ⟨r24, hr24, hF⟩ := bB hF
     refine rS (T_call (tracebooklaw54_awake_fun _ hr24) trivial rfl (.inl rfl) ?_); refine QV rfl ?_; cases hF
     exact W_ret wR
   rintro a19 x_0 hF cont_0 brk_0 fin_0
   unfold tracebooklaw54_AnomalyReads_L1 at hF
   refine wA rfl ?_; refine W_seq ?_; refine wIf hF rfl (fun _ hF => ?_) fun _ hF => ?_
   · refine W_skip ?_; refine W_seq ?_; refine W_block ?_; refine wA rfl ?_; refine W_seq ?_; refine W_regD (by decide) (by kernel_rfl) rfl ?_; refine Q_run SP 2 rfl ?_; obtain ⟨y25, hy25, hF⟩ := bB hF
     refine R_step SP trivial (T_ixT (tc := t_i64) r3.1 rfl rfl hy25 ?_); refine Q_run SP 3 rfl ?_; obtain ⟨y26, hy26, hF⟩ := bB hF
     refine R_step SP trivial (T_ixO (tc := t_i64) r4.1 rfl rfl rfl hy26 ?_); refine R_step SP trivial (T_ldE (tc := t_i64) r4.1 rfl rfl (idx_get hy26).2.1 rfl ?_); refine QP rfl ?_; refine wIf hF rfl (fun _ hF => ?_) fun _ hF => ?_
     · refine wA rfl ?_; have hF := fin_0 _ (oi hF); cases hF
       exact W_ret wR
     refine W_skip ?_; refine wB rfl ?_; exact cont_0 _ _ _ (oi hF) sw
   refine W_exit ?_; refine thenQ_exit ?_; refine thenQ_exit ?_; refine blockQ_hit ?_; exact brk_0 _ _ _ (oi hF) sw
 intro join hF
 refine wD 4 rfl ?_; cases h30 : (!decide (r3.2 = r4.2))
 · have hF := bF' h30 hF; refine Q_run SV 1 rfl ?_; refine R_step SV rfl (T_len (tc := t_i64) r3.1 .tree ?_); refine Q_run SV 1 rfl ?_; refine R_step SV rfl (T_len (tc := t_i64) r4.1 (.own _ _ rfl) ?_); refine Q_run SV 3 rfl ?_
   cases h31 : (!decide ((List.length r3.1 : Int) = (List.length r4.1 : Int)))
   · have hF := bF' h31 hF; refine Q_run SV 5 rfl ?_; cases h32 : (!decide (r5.1 = r6.1))
     · have hF := bF' h32 hF; refine QV rfl ?_; exact join (!decide (r5.2 = r6.2)) _ _ hF sw
     have hF := bT' h32 hF; refine QV rfl ?_; exact join true _ _ hF sw
   have hF := bT' h31 hF; refine QV rfl ?_; exact join true _ _ hF sw
 have hF := bT' h30 hF; refine QV rfl ?_; exact join true _ _ hF sw
end Go.VM
