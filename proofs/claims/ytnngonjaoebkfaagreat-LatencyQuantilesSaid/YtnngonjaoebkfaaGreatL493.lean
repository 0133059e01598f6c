/- What the functions of the law compute, each with its proof. -/
import Derived.Test.YtnngonjaoebkfaaGreatL492
import Derived.Test.YtnngonjaoebkfaaGreatRows
import Derived.KernelRfl
import Derived.Lib.Bytealg
import Derived.Laws.Externs
import Derived.WalkKit
namespace Go.VM
open Go.Proofs Go.Proofs.YtnngonjaoebkfaaGreat
open Go.RowKit
set_option maxRecDepth 100000
set_option maxHeartbeats 4000000
theorem tracebookref32_Check_fun (p0 : api_Trace) (r : Int) (hF : tracebookref32_Check p0 = some r) : Fun Tryz.prog 31 true [] [.agg (m_api_Trace p0)] noHeap (cI r) noHeap := by
 refine Fun.of_walk0 Tryz.func31 c31 (by kernel_rfl) (rs := [.tmp 2]) (by kernel_rfl) ?_; unfold v31
 unfold tracebookref32_Check at hF
 refine wA rfl ?_; refine wC 1 rfl ?_; obtain ⟨r1, hr1, hF⟩ := bB hF
 refine rS (T_call (tracebookref32_tables_fun _ _ hr1) ⟨⟨rfl, rfl, rfl, rfl, rfl, rfl, rfl, rfl, rfl, rfl, trivial⟩, trivial⟩ rfl (.inl rfl) ?_); refine QV rfl ?_; refine W_seq ?_; refine wA rfl ?_; refine wIf hF rfl (fun _ hF => ?_) fun _ hF => ?_
 · refine wA rfl ?_; cases hF
   exact W_ret wR
 refine W_skip ?_; refine wA rfl ?_; refine W_seq ?_; refine W_seq ?_; refine W_join (fun _ _ h => h) hF (fun v2 => [(1, cP (1,0) 0), (4, cP (4,0) 0), (33, cB v2)]) (fun v2 => [((1,0), .box (m_api_Trace p0)), ((4,0), .box [jI p0.fSpan.fFrom, jI p0.fSpan.fTo])]) ?_ ?_
 · rintro v2 hF
   refine wIf hF rfl (fun _ hF => ?_) fun _ hF => ?_
   · refine wA rfl ?_; cases hF
     exact W_ret wR
   refine W_skip ?_; refine wA rfl ?_; refine W_seq ?_; refine wA rfl ?_; refine W_for (fun _ _ h => h) hF (id) (fun (a17, a18) => [(1, cP (1,0) 0), (4, cP (4,0) 0), (5, cB a17), (6, cI a18)]) (fun (a17, a18) => [((1,0), .box (m_api_Trace p0)), ((4,0), .box [jI p0.fSpan.fFrom, jI p0.fSpan.fTo])]) (fun e24 => [(1, cP (1,0) 0), (4, cP (4,0) 0), (5, cB e24)]) (fun e24 => [((1,0), .box (m_api_Trace p0)), ((4,0), .box [jI p0.fSpan.fFrom, jI p0.fSpan.fTo])]) sw ?_ ?_
   · rintro e24 hF
     refine W_seq ?_; refine wA rfl ?_; refine W_for (fun _ _ h => h) hF (id) (fun (a41, a42) => [(1, cP (1,0) 0), (4, cP (4,0) 0), (5, cB a41), (7, cI a42)]) (fun (a41, a42) => [((1,0), .box (m_api_Trace p0)), ((4,0), .box [jI p0.fSpan.fFrom, jI p0.fSpan.fTo])]) (fun e48 => [(1, cP (1,0) 0), (4, cP (4,0) 0), (5, cB e48)]) (fun e48 => [((1,0), .box (m_api_Trace p0)), ((4,0), .box [jI p0.fSpan.fFrom, jI p0.fSpan.fTo])]) sw ?_ ?_
     · rintro e48 hF
       refine W_seq ?_; refine wA rfl ?_; refine W_for (fun _ _ h => h) hF (id) (fun (a65, a66) => [(1, cP (1,0) 0), (4, cP (4,0) 0), (5, cB a65), (8, cI a66)]) (fun (a65, a66) => [((1,0), .box (m_api_Trace p0)), ((4,0), .box [jI p0.fSpan.fFrom, jI p0.fSpan.fTo])]) (fun e72 => [(1, cP (1,0) 0), (4, cP (4,0) 0), (5, cB e72)]) (fun e72 => [((1,0), .box (m_api_Trace p0)), ((4,0), .box [jI p0.fSpan.fFrom, jI p0.fSpan.fTo])]) sw ?_ ?_
       · rintro e72 hF
         refine W_seq ?_; refine wA rfl ?_; refine W_for (fun _ _ h => h) hF (id) (fun (a95, a96) => [(1, cP (1,0) 0), (4, cP (4,0) 0), (5, cB a95), (9, cI a96)]) (fun (a95, a96) => [((1,0), .box (m_api_Trace p0)), ((4,0), .box [jI p0.fSpan.fFrom, jI p0.fSpan.fTo])]) (fun e105 => [(1, cP (1,0) 0), (4, cP (4,0) 0), (5, cB e105)]) (fun e105 => [((1,0), .box (m_api_Trace p0)), ((4,0), .box [jI p0.fSpan.fFrom, jI p0.fSpan.fTo])]) sw ?_ ?_
         · rintro e105 hF
           refine W_seq ?_; refine wA rfl ?_; refine W_for (fun _ _ h => h) hF (id) (fun (a122, a123) => [(1, cP (1,0) 0), (4, cP (4,0) 0), (5, cB a122), (10, cI a123)]) (fun (a122, a123) => [((1,0), .box (m_api_Trace p0)), ((4,0), .box [jI p0.fSpan.fFrom, jI p0.fSpan.fTo])]) (fun e129 => [(1, cP (1,0) 0), (4, cP (4,0) 0), (5, cB e129)]) (fun e129 => [((1,0), .box (m_api_Trace p0)), ((4,0), .box [jI p0.fSpan.fFrom, jI p0.fSpan.fTo])]) sw ?_ ?_
           · rintro e129 hF
             refine W_seq ?_; refine wA rfl ?_; refine W_for (fun _ _ h => h) hF (id) (fun (a146, a147) => [(1, cP (1,0) 0), (4, cP (4,0) 0), (5, cB a146), (11, cI a147)]) (fun (a146, a147) => [((1,0), .box (m_api_Trace p0)), ((4,0), .box [jI p0.fSpan.fFrom, jI p0.fSpan.fTo])]) (fun e153 => [(5, cB e153)]) (fun e153 => []) sw ?_ ?_
             · rintro e153 hF
               refine W_seq ?_; refine wA rfl ?_; refine wIf hF rfl (fun _ hF => ?_) fun _ hF => ?_
               · refine wA rfl ?_; cases hF
                 exact W_ret wR
               refine W_skip ?_; refine wA rfl ?_; cases hF
               exact W_ret wR
             rintro ⟨a146, a147⟩ x_0 hF cont_0 brk_0 fin_0
             unfold tracebookref32_Check_L1 at hF
             refine W_seq ?_; refine wC 3 rfl ?_; refine rS (T_len (tc := t_api_Step) p0.fSteps .tree ?_); refine QV rfl ?_; refine wIf hF rfl (fun _ hF => ?_) fun _ hF => ?_
             · refine W_skip ?_; refine W_seq ?_; refine W_join (fun _ _ h => h) hF (fun v155 => [(1, cP (1,0) 0), (4, cP (4,0) 0), (5, cB v155), (11, cI a147)]) (fun v155 => [((1,0), .box (m_api_Trace p0)), ((4,0), .box [jI p0.fSpan.fFrom, jI p0.fSpan.fTo])]) ?_ ?_
               · rintro v155 hF
                 refine wB rfl ?_; exact cont_0 _ _ _ (oi hF) sw
               intro join hF
               refine W_block ?_; refine W_regD (by decide) (by kernel_rfl) rfl ?_; refine Q_run SP 2 rfl ?_; cases h156 : a146
               · have hF := bF' h156 hF; refine QP rfl ?_; exact join false _ _ hF sw
               have hF := bT' h156 hF; refine Q_run SP 3 rfl ?_; obtain ⟨y157, hy157, hF⟩ := bB' hF
               refine R_step SP rfl (T_ixT (tc := t_api_Step) p0.fSteps rfl rfl hy157 ?_); refine Q_run SP 3 rfl ?_; obtain ⟨r158, hr158, hF⟩ := bB' hF
               refine R_step SP rfl (T_call (tracebookref32_inside_fun _ _ _ hr158) ⟨rfl, ⟨rfl, rfl, trivial⟩, trivial⟩ rfl (.inl rfl) ?_); refine QP rfl ?_; exact join r158 _ _ hF sw
             refine W_exit ?_; refine thenQ_exit ?_; refine thenQ_exit ?_; refine blockQ_hit ?_; exact brk_0 _ _ _ (oi hF) sw
           rintro ⟨a122, a123⟩ x_0 hF cont_0 brk_0 fin_0
           unfold tracebookref32_Check_L2 at hF
           refine W_seq ?_; refine wC 3 rfl ?_; refine rS (T_len (tc := t_api_Sample) p0.fSamples .tree ?_); refine QV rfl ?_; refine wIf hF rfl (fun _ hF => ?_) fun _ hF => ?_
           · refine W_skip ?_; refine W_seq ?_; refine W_join (fun _ _ h => h) hF (fun v160 => [(1, cP (1,0) 0), (4, cP (4,0) 0), (5, cB v160), (10, cI a123)]) (fun v160 => [((1,0), .box (m_api_Trace p0)), ((4,0), .box [jI p0.fSpan.fFrom, jI p0.fSpan.fTo])]) ?_ ?_
             · rintro v160 hF
               refine wB rfl ?_; exact cont_0 _ _ _ (oi hF) sw
             intro join hF
             refine W_block ?_; refine W_regD (by decide) (by kernel_rfl) rfl ?_; refine Q_run SP 2 rfl ?_; cases h161 : a122
             · have hF := bF' h161 hF; refine QP rfl ?_; exact join false _ _ hF sw
             have hF := bT' h161 hF; refine Q_run SP 3 rfl ?_; obtain ⟨y162, hy162, hF⟩ := bB' hF
             refine R_step SP rfl (T_ixT (tc := t_api_Sample) p0.fSamples rfl rfl hy162 ?_); refine Q_run SP 3 rfl ?_; obtain ⟨r163, hr163, hF⟩ := bB' hF
             refine R_step SP rfl (T_call (tracebookref32_inside_fun _ _ _ hr163) ⟨rfl, ⟨rfl, rfl, trivial⟩, trivial⟩ rfl (.inl rfl) ?_); refine QP rfl ?_; exact join r163 _ _ hF sw
           refine W_exit ?_; refine thenQ_exit ?_; refine thenQ_exit ?_; refine blockQ_hit ?_; exact brk_0 _ _ _ (oi hF) sw
         rintro ⟨a95, a96⟩ x_0 hF cont_0 brk_0 fin_0
         unfold tracebookref32_Check_L3 at hF
         refine W_seq ?_; refine wC 3 rfl ?_; refine rS (T_len (tc := t_api_Flow) p0.fFlows .tree ?_); refine QV rfl ?_; refine wIf hF rfl (fun _ hF => ?_) fun _ hF => ?_
         · refine W_skip ?_; refine W_seq ?_; refine W_join (fun _ _ h => h) hF (fun v165 => [(1, cP (1,0) 0), (4, cP (4,0) 0), (5, cB v165), (9, cI a96)]) (fun v165 => [((1,0), .box (m_api_Trace p0)), ((4,0), .box [jI p0.fSpan.fFrom, jI p0.fSpan.fTo])]) ?_ ?_
           · rintro v165 hF
             refine wB rfl ?_; exact cont_0 _ _ _ (oi hF) sw
           intro join hF
           refine W_block ?_; refine W_regD (by decide) (by kernel_rfl) rfl ?_; refine Q_run SP 2 rfl ?_; cases h166 : a95
           · have hF := bF' h166 hF; refine QP rfl ?_; exact join false _ _ hF sw
           have hF := bT' h166 hF; refine Q_run SP 3 rfl ?_; obtain ⟨y167, hy167, hF⟩ := bB' hF
           refine R_step SP rfl (T_ixT (tc := t_api_Flow) p0.fFlows rfl rfl hy167 ?_); refine Q_run SP 3 rfl ?_; obtain ⟨r168, hr168, hF⟩ := bB' hF
           refine R_step SP rfl (T_call (tracebookref32_inside_fun _ _ _ hr168) ⟨rfl, ⟨rfl, rfl, trivial⟩, trivial⟩ rfl (.inl rfl) ?_); refine Q_run SP 2 rfl ?_; cases h169 : r168
           · have hF := bF' h169 hF; refine QP rfl ?_; exact join false _ _ hF sw
           have hF := bT' h169 hF; refine Q_run SP 3 rfl ?_; obtain ⟨y170, hy170, hF⟩ := bB' hF
           refine R_step SP rfl (T_ixT (tc := t_api_Flow) p0.fFlows rfl rfl hy170 ?_); refine Q_run SP 3 rfl ?_; obtain ⟨r171, hr171, hF⟩ := bB' hF
           refine R_step SP rfl (T_call (tracebookref32_inside_fun _ _ _ hr171) ⟨rfl, ⟨rfl, rfl, trivial⟩, trivial⟩ rfl (.inl rfl) ?_); refine QP rfl ?_; exact join r171 _ _ hF sw
         refine W_exit ?_; refine thenQ_exit ?_; refine thenQ_exit ?_; refine blockQ_hit ?_; exact brk_0 _ _ _ (oi hF) sw
       rintro ⟨a65, a66⟩ x_0 hF cont_0 brk_0 fin_0
       unfold tracebookref32_Check_L4 at hF
       refine W_seq ?_; refine wC 3 rfl ?_; refine rS (T_len (tc := t_api_Block) p0.fBlocks .tree ?_); refine QV rfl ?_; refine wIf hF rfl (fun _ hF => ?_) fun _ hF => ?_
       · refine W_skip ?_; refine W_seq ?_; refine W_join (fun _ _ h => h) hF (fun v173 => [(1, cP (1,0) 0), (4, cP (4,0) 0), (5, cB v173), (8, cI a66)]) (fun v173 => [((1,0), .box (m_api_Trace p0)), ((4,0), .box [jI p0.fSpan.fFrom, jI p0.fSpan.fTo])]) ?_ ?_
         · rintro v173 hF
           refine wB rfl ?_; exact cont_0 _ _ _ (oi hF) sw
         intro join hF
         refine W_block ?_; refine W_regD (by decide) (by kernel_rfl) rfl ?_; refine Q_run SP 2 rfl ?_; cases h174 : a65
         · have hF := bF' h174 hF; refine QP rfl ?_; exact join false _ _ hF sw
         have hF := bT' h174 hF; refine Q_run SP 3 rfl ?_; obtain ⟨y175, hy175, hF⟩ := bB' hF
         refine R_step SP rfl (T_ixT (tc := t_api_Block) p0.fBlocks rfl rfl hy175 ?_); refine Q_run SP 3 rfl ?_; obtain ⟨r176, hr176, hF⟩ := bB' hF
         refine R_step SP rfl (T_call (tracebookref32_within_fun _ _ _ hr176) ⟨⟨rfl, rfl, trivial⟩, ⟨rfl, rfl, trivial⟩, trivial⟩ rfl (.inl rfl) ?_); refine QP rfl ?_; exact join r176 _ _ hF sw
       refine W_exit ?_; refine thenQ_exit ?_; refine thenQ_exit ?_; refine blockQ_hit ?_; exact brk_0 _ _ _ (oi hF) sw
     rintro ⟨a41, a42⟩ x_0 hF cont_0 brk_0 fin_0
     unfold tracebookref32_Check_L5 at hF
     refine W_seq ?_; refine wC 3 rfl ?_; refine rS (T_len (tc := t_api_State) p0.fStates .tree ?_); refine QV rfl ?_; refine wIf hF rfl (fun _ hF => ?_) fun _ hF => ?_
     · refine W_skip ?_; refine W_seq ?_; refine W_join (fun _ _ h => h) hF (fun v178 => [(1, cP (1,0) 0), (4, cP (4,0) 0), (5, cB v178), (7, cI a42)]) (fun v178 => [((1,0), .box (m_api_Trace p0)), ((4,0), .box [jI p0.fSpan.fFrom, jI p0.fSpan.fTo])]) ?_ ?_
       · rintro v178 hF
         refine wB rfl ?_; exact cont_0 _ _ _ (oi hF) sw
       intro join hF
       refine W_block ?_; refine W_regD (by decide) (by kernel_rfl) rfl ?_; refine Q_run SP 2 rfl ?_; cases h179 : a41
       · have hF := bF' h179 hF; refine QP rfl ?_; exact join false _ _ hF sw
       have hF := bT' h179 hF; refine Q_run SP 3 rfl ?_; obtain ⟨y180, hy180, hF⟩ := bB' hF
       refine R_step SP rfl (T_ixT (tc := t_api_State) p0.fStates rfl rfl hy180 ?_); refine Q_run SP 3 rfl ?_; obtain ⟨r181, hr181, hF⟩ := bB' hF
       refine R_step SP rfl (T_call (tracebookref32_within_fun _ _ _ hr181) ⟨⟨rfl, rfl, trivial⟩, ⟨rfl, rfl, trivial⟩, trivial⟩ rfl (.inl rfl) ?_); refine QP rfl ?_; exact join r181 _ _ hF sw
     refine W_exit ?_; refine thenQ_exit ?_; refine thenQ_exit ?_; refine blockQ_hit ?_; exact brk_0 _ _ _ (oi hF) sw
   rintro ⟨a17, a18⟩ x_0 hF cont_0 brk_0 fin_0
   unfold tracebookref32_Check_L6 at hF
   refine W_seq ?_; refine wC 3 rfl ?_; refine rS (T_len (tc := t_api_Slice) p0.fSlices .tree ?_); refine QV rfl ?_; refine wIf hF rfl (fun _ hF => ?_) fun _ hF => ?_
   · refine W_skip ?_; refine W_seq ?_; refine W_join (fun _ _ h => h) hF (fun v183 => [(1, cP (1,0) 0), (4, cP (4,0) 0), (5, cB v183), (6, cI a18)]) (fun v183 => [((1,0), .box (m_api_Trace p0)), ((4,0), .box [jI p0.fSpan.fFrom, jI p0.fSpan.fTo])]) ?_ ?_
     · rintro v183 hF
       refine wB rfl ?_; exact cont_0 _ _ _ (oi hF) sw
     intro join hF
     refine W_block ?_; refine W_regD (by decide) (by kernel_rfl) rfl ?_; refine Q_run SP 2 rfl ?_; cases h184 : a17
     · have hF := bF' h184 hF; refine QP rfl ?_; exact join false _ _ hF sw
     have hF := bT' h184 hF; refine Q_run SP 3 rfl ?_; obtain ⟨y185, hy185, hF⟩ := bB' hF
     refine R_step SP rfl (T_ixT (tc := t_api_Slice) p0.fSlices rfl rfl hy185 ?_); refine Q_run SP 3 rfl ?_; obtain ⟨r186, hr186, hF⟩ := bB' hF
     refine R_step SP rfl (T_call (tracebookref32_within_fun _ _ _ hr186) ⟨⟨rfl, rfl, trivial⟩, ⟨rfl, rfl, trivial⟩, trivial⟩ rfl (.inl rfl) ?_); refine QP rfl ?_; exact join r186 _ _ hF sw
   refine W_exit ?_; refine thenQ_exit ?_; refine thenQ_exit ?_; refine blockQ_hit ?_; exact brk_0 _ _ _ (oi hF) sw
 intro join hF
 refine wD 4 rfl ?_; cases h189 : (decide (p0.fSpan.fFrom < 0))
 · have hF := bF' h189 hF; refine Q_run SV 7 rfl ?_; cases h190 : (decide (p0.fSpan.fTo < p0.fSpan.fFrom))
   · have hF := bF' h190 hF; refine QV rfl ?_; exact join (decide (1000000000000 < p0.fSpan.fTo)) _ _ hF sw
   have hF := bT' h190 hF; refine QV rfl ?_; exact join true _ _ hF sw
 have hF := bT' h189 hF; refine QV rfl ?_; exact join true _ _ hF sw
def tracebookref49_waits_L1 (p0 : (List api_State)) : ((List api_State) × Int) → Option (((List api_State) × Int) ⊕ (List api_State)) := fun (a31, a32) =>
  (bif (decide ((w64 (a32 + 1)) < (List.length p0 : Int))) then ((((((idx p0 a32).bind fun y51 => (bif (decide (y51.fState = 0)) then ((idx p0 (w64 (a32 + 1))).bind fun y53 => (bif (decide (y53.fState = 4)) then ((idx p0 a32).bind fun y55 => ((idx p0 (w64 (a32 + 1))).bind fun y56 => some (decide (y55.fThread = y56.fThread)))) else some false)) else some false)) : Option Bool).bind fun v47 => (bif v47 then ((idx p0 a32).bind fun y48 => (bif room 56 (List.length a31 + List.length [y48]) then some (a31 ++ [y48]) else none)) else some a31)) : Option (List api_State)).bind fun v46 => some (.inl (v46, (w64 (a32 + 1))))) else some (.inr a31))
def tracebookref49_waits (p0 : (List api_State)) : Option (List api_State) :=
  ((loop (tracebookref49_waits_L1 p0) ([], 0)).bind fun e45 => some e45)
theorem tracebookref49_waits_fun (p0 : (List api_State)) (r : (List api_State)) (hF : tracebookref49_waits p0 = some r) : Fun Tryz.prog 33 false [] [cL 7 t_api_State p0] (heapOf []) (cO (902,1320)) (heapOf [((902,1320), .arr 55 7 (List.map t_api_State r))]) := by
 refine Fun.of_walkM [] (some []) Tryz.func33 c33 (by kernel_rfl) (rs := [.tmp 2]) (by kernel_rfl) rfl rfl rfl ?_; unfold v33
 unfold tracebookref49_waits at hF
 refine wA rfl ?_; refine wA rfl ?_; refine W_seq ?_; refine wA rfl ?_; refine W_for (fun _ _ h => h) hF (id) (fun (a31, a32) => [(0, cL 7 t_api_State p0), (3, cO (47,1)), (4, cI a32)]) (fun (a31, a32) => [((47,1), .arr 55 7 (List.map t_api_State a31))]) (fun e45 => [(3, cO (47,1))]) (fun e45 => [((47,1), .arr 55 7 (List.map t_api_State e45))]) (S_own 3 (47,1) 55 7 rfl rfl rfl rfl sw) ?_ ?_
 · rintro e45 hF
   refine wA rfl ?_; cases hF
   exact W_ret ⟨_, _, (S_ren (47,1) (902,1320) rfl rfl S_refl), _, rfl, rfl, rfl, (AgM.weak ⟨rfl, trivial⟩)⟩
 rintro ⟨a31, a32⟩ x_0 hF cont_0 brk_0 fin_0
 unfold tracebookref49_waits_L1 at hF
 refine W_seq ?_; refine wC 3 rfl ?_; refine rS (T_len (tc := t_api_State) p0 .tree ?_); refine QV rfl ?_; refine wIf hF rfl (fun _ hF => ?_) fun _ hF => ?_
 · refine W_skip ?_; refine W_seq ?_; refine W_join (fun _ _ h => h) hF (fun v46 => [(0, cL 7 t_api_State p0), (3, cO (47,1)), (4, cI a32)]) (fun v46 => [((47,1), .arr 55 7 (List.map t_api_State v46))]) ?_ ?_
   · rintro v46 hF
     refine wB rfl ?_; exact cont_0 _ _ _ (oi hF) sw
   intro join hF
   refine W_block ?_; refine W_seq ?_; have hF := bA hF; refine W_join (fun _ _ h => h) hF (fun v47 => [(0, cL 7 t_api_State p0), (3, cO (47,1)), (4, cI a32), (40, cB v47)]) (fun v47 => [((47,1), .arr 55 7 (List.map t_api_State a31))]) ?_ ?_
   · rintro v47 hF
     refine wIf' hF rfl (fun _ hF => ?_) fun _ hF => ?_
     · refine wD 3 rfl ?_; obtain ⟨y48, hy48, hF⟩ := bB' hF
       refine rS (T_ixT (tc := t_api_State) p0 rfl rfl hy48 ?_); refine Q_run SV 1 rfl ?_; refine rS (T_bsl (tc := t_api_State) [y48] rfl ⟨rfl, rfl, rfl, rfl, rfl, rfl, rfl, trivial⟩ rfl (fun _ => rfl) rfl ?_)
       obtain ⟨h49, hF⟩ := roomT' hF
       refine rS (T_appO (tc := t_api_State) a31 [y48] rfl rfl (.own _ _ rfl) h49 rfl ?_); refine QV rfl ?_; exact join (a31 ++ [y48]) _ _ hF (S_ren (47,0) (47,1) rfl rfl sw)
     refine W_skip ?_; exact join a31 _ _ hF sw
   intro join hF
   refine W_regD (by decide) (by kernel_rfl) rfl ?_; refine Q_run SP 2 rfl ?_; obtain ⟨y51, hy51, hF⟩ := bB' hF
   refine R_step SP trivial (T_ixT (tc := t_api_State) p0 rfl rfl hy51 ?_); refine Q_run SP 4 rfl ?_; cases h52 : (decide (y51.fState = 0))
   · have hF := bF' h52 hF; refine QP rfl ?_; exact join false _ _ hF sw
   have hF := bT' h52 hF; refine Q_run SP 3 rfl ?_; obtain ⟨y53, hy53, hF⟩ := bB' hF
   refine R_step SP rfl (T_ixT (tc := t_api_State) p0 rfl rfl hy53 ?_); refine Q_run SP 5 rfl ?_; cases h54 : (decide (y53.fState = 4))
   · have hF := bF' h54 hF; refine QP rfl ?_; exact join false _ _ hF sw
   have hF := bT' h54 hF; refine Q_run SP 2 rfl ?_; obtain ⟨y55, hy55, hF⟩ := bB' hF
   refine R_step SP rfl (T_ixT (tc := t_api_State) p0 rfl rfl hy55 ?_); refine Q_run SP 5 rfl ?_; obtain ⟨y56, hy56, hF⟩ := bB' hF
   refine R_step SP rfl (T_ixT (tc := t_api_State) p0 rfl rfl hy56 ?_); refine QP rfl ?_; exact join (decide (y55.fThread = y56.fThread)) _ _ hF sw
 refine W_exit ?_; refine thenQ_exit ?_; refine thenQ_exit ?_; refine blockQ_hit ?_; exact brk_0 _ _ _ (oi hF) sw
def tracebookref49_length (p0 : api_State) : Option Int :=
  some (w64 (p0.fSpan.fTo - p0.fSpan.fFrom))
theorem tracebookref49_length_fun (p0 : api_State) (r : Int) (hF : tracebookref49_length p0 = some r) : Fun Tryz.prog 34 true [] [.agg (m_api_State p0)] noHeap (cI r) noHeap := by
 refine Fun.of_walk0 Tryz.func34 c34 (by kernel_rfl) (rs := [.tmp 2]) (by kernel_rfl) ?_; unfold v34
 unfold tracebookref49_length at hF
 refine wA rfl ?_; refine wA rfl ?_; cases hF
 exact W_ret wR
def tracebookref49_insert_L1 (p0 : (List Int)) (p1 : Int) : Int → Option (Int ⊕ Int) := fun a12 =>
  (((bif (decide (0 < a12)) then ((idx p0 (w64 (a12 - 1))).bind fun y26 => some (decide (p1 < y26))) else some false) : Option Bool).bind fun v23 => (bif v23 then some (.inl (w64 (a12 - 1))) else some (.inr a12)))
def tracebookref49_insert (p0 : (List Int)) (p1 : Int) : Option (List Int) :=
  ((loop (tracebookref49_insert_L1 p0 p1) (List.length p0 : Int)).bind fun e17 => ((slcPart p0 0 e17).bind fun y18 => (bif room 8 (List.length ([] : List Int) + List.length y18) then (bif room 8 (List.length ([] ++ y18) + List.length [p1]) then ((slcPart p0 e17 (List.length p0 : Int)).bind fun y21 => (bif room 8 (List.length (([] ++ y18) ++ [p1]) + List.length y21) then some ((([] ++ y18) ++ [p1]) ++ y21) else none)) else none) else none)))
theorem tracebookref49_insert_fun (p0 : (List Int)) (p1 : Int) (r : (List Int)) (hF : tracebookref49_insert p0 p1 = some r) : Fun Tryz.prog 36 false [] [cL 1 t_i64 p0, cI p1] (heapOf []) (cO (902,1440)) (heapOf [((902,1440), .arr 3 1 (List.map t_i64 r))]) := by
 refine Fun.of_walkM [] (some []) Tryz.func36 c36 (by kernel_rfl) (rs := [.tmp 4]) (by kernel_rfl) rfl rfl rfl ?_; unfold v36
 unfold tracebookref49_insert at hF
 refine wA rfl ?_; refine wC 1 rfl ?_; refine rS (T_len (tc := t_i64) p0 .tree ?_); refine QV rfl ?_; refine W_seq ?_; refine W_for (fun _ _ h => h) hF (id) (fun a12 => [(0, cL 1 t_i64 p0), (1, cI p1), (5, cI a12)]) (fun a12 => []) (fun e17 => [(0, cL 1 t_i64 p0), (1, cI p1), (5, cI e17)]) (fun e17 => []) sw ?_ ?_
 · rintro e17 hF
   refine wE ?_; refine rS (T_bsl (tc := t_i64) [] rfl trivial rfl (fun _ => rfl) rfl ?_)
   refine Q_run SV 2 rfl ?_; obtain ⟨y18, hy18, hF⟩ := bB hF
   refine rS (T_sub (tc := t_i64) p0 rfl rfl rfl hy18 ?_); obtain ⟨h19, hF⟩ := roomT hF
   refine rS (T_appO (tc := t_i64) [] y18 rfl rfl .tree h19 rfl ?_); refine QV rfl ?_; refine wC 2 rfl ?_; refine rS (T_bsl (tc := t_i64) [p1] rfl ⟨rfl, trivial⟩ rfl (fun _ => rfl) rfl ?_)
   obtain ⟨h20, hF⟩ := roomT hF
   refine rS (T_appO (tc := t_i64) ([] ++ y18) [p1] rfl rfl (.own _ _ rfl) h20 rfl ?_); refine QV rfl ?_; refine wC 3 rfl ?_; obtain ⟨y21, hy21, hF⟩ := bB hF
   refine rS (T_sub (tc := t_i64) p0 rfl rfl rfl hy21 ?_); obtain ⟨h22, hF⟩ := roomT hF
   refine rS (T_appO (tc := t_i64) (([] ++ y18) ++ [p1]) y21 rfl rfl .tree h22 rfl ?_); refine QV rfl ?_; cases hF
   exact W_ret ⟨_, _, (S_ren (35,0) (902,1440) rfl rfl S_refl), _, rfl, rfl, rfl, (AgM.weak ⟨rfl, trivial⟩)⟩
 rintro a12 x_0 hF cont_0 brk_0 fin_0
 unfold tracebookref49_insert_L1 at hF
 refine W_seq ?_; refine W_seq ?_; refine W_join (fun _ _ h => h) hF (fun v23 => [(0, cL 1 t_i64 p0), (1, cI p1), (5, cI a12), (19, cB v23)]) (fun v23 => []) ?_ ?_
 · rintro v23 hF
   refine wIf hF rfl (fun _ hF => ?_) fun _ hF => ?_
   · refine W_skip ?_; refine W_block ?_; refine wB rfl ?_; exact cont_0 _ _ _ (oi hF) sw
   refine W_exit ?_; refine thenQ_exit ?_; refine thenQ_exit ?_; refine blockQ_hit ?_; exact brk_0 _ _ _ (oi hF) sw
 intro join hF
 refine wD 3 rfl ?_; cases h25 : (decide (0 < a12))
 · have hF := bF' h25 hF; refine QV rfl ?_; exact join false _ _ hF sw
 have hF := bT' h25 hF; refine Q_run SV 3 rfl ?_; obtain ⟨y26, hy26, hF⟩ := bB' hF
 refine R_step SV rfl (T_ixT (tc := t_i64) p0 rfl rfl hy26 ?_); refine QV rfl ?_; exact join (decide (p1 < y26)) _ _ hF sw
def tracebookref49_All_L1 (r2 : (List api_State)) : ((List Int) × Int) → Option (((List Int) × Int) ⊕ (List Int)) := fun (a17, a18) =>
  (bif (decide (a18 < (List.length r2 : Int))) then ((idx r2 a18).bind fun y24 => ((tracebookref49_length y24).bind fun r25 => ((tracebookref49_insert a17 r25).bind fun r26 => some (.inl (r26, (w64 (a18 + 1))))))) else some (.inr a17))
def tracebookref49_All (p0 : api_Trace) : Option ((List Int) × Int) :=
  ((tracebookref32_Check p0).bind fun r1 => (bif (!decide (r1 = 0)) then some ([], r1) else ((tracebookref49_waits p0.fStates).bind fun r2 => ((loop (tracebookref49_All_L1 r2) ([], 0)).bind fun e23 => some (e23, 0)))))
theorem tracebookref49_All_fun (p0 : api_Trace) (r : ((List Int) × Int)) (hF : tracebookref49_All p0 = some r) : Fun Tryz.prog 14 false [] [.agg (m_api_Trace p0)] (heapOf []) (.tup [cO (902,560), cI r.2]) (heapOf [((902,560), .arr 3 1 (List.map t_i64 r.1))]) := by
 refine Fun.of_walkM [] (some []) Tryz.func14 c14 (by kernel_rfl) (rs := [.tmp 2, .tmp 3]) (by kernel_rfl) rfl rfl rfl ?_; unfold v14
 unfold tracebookref49_All at hF
 refine wA rfl ?_; refine wC 1 rfl ?_; obtain ⟨r1, hr1, hF⟩ := bB hF
 refine rS (T_call (tracebookref32_Check_fun _ _ hr1) ⟨⟨rfl, rfl, rfl, rfl, rfl, rfl, rfl, rfl, rfl, rfl, trivial⟩, trivial⟩ rfl (.inl rfl) ?_); refine QV rfl ?_; refine W_seq ?_; refine wA rfl ?_; refine wIf hF rfl (fun _ hF => ?_) fun _ hF => ?_
 · refine wA rfl ?_; cases hF
   exact W_ret ⟨_, _, (S_own 2 (902,560) 3 1 rfl rfl rfl rfl S_refl), _, rfl, rfl, ⟨rfl, ⟨rfl, fun _ => rfl⟩, trivial⟩, (AgM.weak ⟨rfl, trivial⟩)⟩
 refine W_skip ?_; refine wA rfl ?_; refine wC 2 rfl ?_; obtain ⟨r2, hr2, hF⟩ := bB hF
 refine R_stepX trivial (X_callG [((902,1320),(15,1))] rfl (callN _) (tracebookref49_waits_fun _ _ hr2) trivial ⟨.inl rfl, trivial⟩ rfl rfl rfl ?_); refine QV rfl ?_; refine W_seq ?_; refine wA rfl ?_; refine W_for (fun _ _ h => h) hF (id) (fun (a17, a18) => [(5, cO (28,1)), (6, cO (15,1)), (7, cI a18)]) (fun (a17, a18) => [((28,1), .arr 3 1 (List.map t_i64 a17)), ((15,1), .arr 55 7 (List.map t_api_State r2))]) (fun e23 => [(5, cO (28,1))]) (fun e23 => [((28,1), .arr 3 1 (List.map t_i64 e23))]) (S_own 5 (28,1) 3 1 rfl rfl rfl rfl sw) ?_ ?_
 · rintro e23 hF
   refine wA rfl ?_; cases hF
   exact W_ret ⟨_, _, (S_ren (28,1) (902,560) rfl rfl S_refl), _, rfl, rfl, ⟨rfl, ⟨rfl, fun _ => rfl⟩, trivial⟩, (AgM.weak ⟨rfl, trivial⟩)⟩
 rintro ⟨a17, a18⟩ x_0 hF cont_0 brk_0 fin_0
 unfold tracebookref49_All_L1 at hF
 refine W_seq ?_; refine wC 2 rfl ?_; refine rS (T_len (tc := t_api_State) r2 (.own _ _ rfl) ?_); refine QV rfl ?_; refine wIf hF rfl (fun _ hF => ?_) fun _ hF => ?_
 · refine W_skip ?_; refine W_seq ?_; refine W_block ?_; refine wD 3 rfl ?_; obtain ⟨y24, hy24, hF⟩ := bB hF
   refine rS (T_ixO (tc := t_api_State) r2 rfl rfl rfl hy24 ?_); refine rS (T_ldE (tc := t_api_State) r2 rfl rfl (idx_get hy24).2.1 rfl ?_); obtain ⟨r25, hr25, hF⟩ := bB hF
   refine rS (T_call (tracebookref49_length_fun _ _ hr25) ⟨⟨rfl, rfl, rfl, rfl, rfl, rfl, rfl, trivial⟩, trivial⟩ rfl (.inl rfl) ?_); obtain ⟨r26, hr26, hF⟩ := bB hF
   refine R_stepX trivial (X_callL [((902,1440),(28,2))] rfl (callN _) (tracebookref49_insert_fun _ _ _ hr26) trivial ⟨.inr ⟨_, rfl⟩, .inr rfl, trivial⟩ rfl rfl rfl rfl ⟨(flatArr fun _ => rfl), trivial⟩ ?_)
   refine QV rfl ?_; refine wB rfl ?_; exact cont_0 _ _ _ (oi hF) (S_ren (28,2) (28,1) rfl rfl sw)
 refine W_exit ?_; refine thenQ_exit ?_; refine thenQ_exit ?_; refine blockQ_hit ?_; exact brk_0 _ _ _ (oi hF) sw
def tracebookref01_Quantile_L1 (p0 : (List Int)) (a87 : Int) : (Int × Int) → Option ((Int × Int) ⊕ Int) := fun (a145, a146) =>
  (bif (decide (a146 < (List.length p0 : Int))) then ((((idx p0 a146).bind fun y160 => ((idx p0 a87).bind fun y161 => (bif (decide (y160 ≤ y161)) then some (w64 (a145 + 1)) else some a145))) : Option Int).bind fun v159 => some (.inl (v159, (w64 (a146 + 1))))) else some (.inr a145))
def tracebookref01_Quantile_L2 (p0 : (List Int)) (p1 : Int) (p2 : Int) : (Int × Bool × Int) → Option ((Int × Bool × Int) ⊕ Int) := fun (a85, a86, a87) =>
  (bif (decide (a87 < (List.length p0 : Int))) then ((((loop (tracebookref01_Quantile_L1 p0 a87) (0, 0)).bind fun e152 => (((bif (decide ((w64 (p1 * (List.length p0 : Int))) ≤ (w64 (p2 * e152)))) then (bif (!a86) then some true else ((idx p0 a87).bind fun y158 => some (decide (y158 < a85)))) else some false) : Option Bool).bind fun v153 => (bif v153 then ((idx p0 a87).bind fun y154 => some (y154, true)) else some (a85, a86)))) : Option (Int × Bool)).bind fun (v127, v128) => some (.inl (v127, v128, (w64 (a87 + 1))))) else some (.inr a85))
def tracebookref01_Quantile (p0 : (List Int)) (p1 : Int) (p2 : Int) : Option (Int × Bool) :=
  (((bif (decide ((List.length p0 : Int) = 0)) then some true else (bif (decide (p2 < 1)) then some true else (bif (decide (1000000000000000 < p2)) then some true else (bif (decide (p1 < 0)) then some true else some (decide (p2 < p1)))))) : Option Bool).bind fun v1 => (bif v1 then some (0, false) else ((loop (tracebookref01_Quantile_L2 p0 p1 p2) (0, false, 0)).bind fun e126 => some (e126, true))))
theorem tracebookref01_Quantile_fun (p0 : (List Int)) (p1 : Int) (p2 : Int) (r : (Int × Bool)) (hF : tracebookref01_Quantile p0 p1 p2 = some r) : Fun Tryz.prog 41 true [] [cL 1 t_i64 p0, cI p1, cI p2] noHeap (.tup [cI r.1, cB r.2]) noHeap := by
 refine Fun.of_walk0 Tryz.func41 c41 (by kernel_rfl) (rs := [.tmp 6, .tmp 7]) (by kernel_rfl) ?_; unfold v41
 unfold tracebookref01_Quantile at hF
 refine wA rfl ?_; refine W_seq ?_; refine W_seq ?_; refine W_join (fun _ _ h => h) hF (fun v1 => [(0, cL 1 t_i64 p0), (1, cI p1), (2, cI p2), (32, cB v1)]) (fun v1 => []) ?_ ?_
 · rintro v1 hF
   refine wIf hF rfl (fun _ hF => ?_) fun _ hF => ?_
   · refine wA rfl ?_; cases hF
     exact W_ret ⟨_, rfl, rfl, ⟨⟨rfl, fun _ => rfl⟩, ⟨rfl, fun _ => rfl⟩, trivial⟩, noOut _⟩
   refine W_skip ?_; refine wA rfl ?_; refine W_seq ?_; refine wA rfl ?_; refine W_for (fun _ _ h => h) hF (id) (fun (a85, a86, a87) => [(0, cL 1 t_i64 p0), (1, cI p1), (2, cI p2), (8, cI a85), (9, cB a86), (10, cI a87)]) (fun (a85, a86, a87) => []) (fun e126 => [(8, cI e126)]) (fun e126 => []) sw ?_ ?_
   · rintro e126 hF
     refine wA rfl ?_; cases hF
     exact W_ret ⟨_, rfl, rfl, ⟨⟨rfl, fun _ => rfl⟩, ⟨rfl, fun _ => rfl⟩, trivial⟩, noOut _⟩
   rintro ⟨a85, a86, a87⟩ x_0 hF cont_0 brk_0 fin_0
   unfold tracebookref01_Quantile_L2 at hF
   refine W_seq ?_; refine wC 2 rfl ?_; refine rS (T_len (tc := t_i64) p0 .tree ?_); refine QV rfl ?_; refine wIf hF rfl (fun _ hF => ?_) fun _ hF => ?_
   · refine W_skip ?_; refine W_seq ?_; refine W_join (fun _ _ h => h) hF (fun (v127, v128) => [(0, cL 1 t_i64 p0), (1, cI p1), (2, cI p2), (8, cI v127), (9, cB v128), (10, cI a87)]) (fun (v127, v128) => []) ?_ ?_
     · rintro ⟨v127, v128⟩ hF
       refine wB rfl ?_; exact cont_0 _ _ _ (oi hF) sw
     intro join hF
     refine W_block ?_; refine wA rfl ?_; refine W_seq ?_; refine wA rfl ?_; have hF := bA hF; refine W_for (fun _ _ h => h) hF (id) (fun (a145, a146) => [(0, cL 1 t_i64 p0), (1, cI p1), (2, cI p2), (8, cI a85), (9, cB a86), (10, cI a87), (11, cI a145), (12, cI a146)]) (fun (a145, a146) => []) (fun e152 => [(0, cL 1 t_i64 p0), (1, cI p1), (2, cI p2), (8, cI a85), (9, cB a86), (10, cI a87), (11, cI e152)]) (fun e152 => []) sw ?_ ?_
     · rintro e152 hF
       refine W_seq ?_; have hF := bA hF; refine W_join (fun _ _ h => h) hF (fun v153 => [(0, cL 1 t_i64 p0), (1, cI p1), (2, cI p2), (8, cI a85), (9, cB a86), (10, cI a87), (75, cB v153)]) (fun v153 => []) ?_ ?_
       · rintro v153 hF
         refine wIf' hF rfl (fun _ hF => ?_) fun _ hF => ?_
         · refine wC 2 rfl ?_; obtain ⟨y154, hy154, hF⟩ := bB' hF
           refine rS (T_ixT (tc := t_i64) p0 rfl rfl hy154 ?_); refine QV rfl ?_; refine wB rfl ?_; exact join (y154, true) _ _ hF sw
         refine W_skip ?_; exact join (a85, a86) _ _ hF sw
       intro join hF
       refine wD 5 rfl ?_; refine rS (T_len (tc := t_i64) p0 .tree ?_); refine Q_run SV 3 rfl ?_; cases h156 : (decide ((w64 (p1 * (List.length p0 : Int))) ≤ (w64 (p2 * e152))))
       · have hF := bF' h156 hF; refine QV rfl ?_; exact join false _ _ hF sw
       have hF := bT' h156 hF; refine Q_run SV 3 rfl ?_; cases h157 : (!a86)
       · have hF := bF' h157 hF; refine Q_run SV 2 rfl ?_; obtain ⟨y158, hy158, hF⟩ := bB' hF
         refine R_step SV rfl (T_ixT (tc := t_i64) p0 rfl rfl hy158 ?_); refine QV rfl ?_; exact join (decide (y158 < a85)) _ _ hF sw
       have hF := bT' h157 hF; refine QV rfl ?_; exact join true _ _ hF sw
     rintro ⟨a145, a146⟩ x_1 hF cont_1 brk_1 fin_1
     unfold tracebookref01_Quantile_L1 at hF
     refine W_seq ?_; refine wC 2 rfl ?_; refine rS (T_len (tc := t_i64) p0 .tree ?_); refine QV rfl ?_; refine wIf hF rfl (fun _ hF => ?_) fun _ hF => ?_
     · refine W_skip ?_; refine W_seq ?_; refine W_join (fun _ _ h => h) hF (fun v159 => [(0, cL 1 t_i64 p0), (1, cI p1), (2, cI p2), (8, cI a85), (9, cB a86), (10, cI a87), (11, cI v159), (12, cI a146)]) (fun v159 => []) ?_ ?_
       · rintro v159 hF
         refine wB rfl ?_; exact cont_1 _ _ _ (oi hF) sw
       intro join hF
       refine W_block ?_; refine W_seq ?_; refine W_regD (by decide) (by kernel_rfl) rfl ?_; refine Q_run SP 2 rfl ?_; obtain ⟨y160, hy160, hF⟩ := bB' hF
       refine R_step SP trivial (T_ixT (tc := t_i64) p0 rfl rfl hy160 ?_); refine Q_run SP 3 rfl ?_; obtain ⟨y161, hy161, hF⟩ := bB' hF
       refine R_step SP trivial (T_ixT (tc := t_i64) p0 rfl rfl hy161 ?_); refine QP rfl ?_; refine wIf' hF rfl (fun _ hF => ?_) fun _ hF => ?_
       · refine wB rfl ?_; exact join (w64 (a145 + 1)) _ _ hF sw
       refine W_skip ?_; exact join a145 _ _ hF sw
     refine W_exit ?_; refine thenQ_exit ?_; refine thenQ_exit ?_; refine blockQ_hit ?_; exact brk_1 _ _ _ (oi hF) sw
   refine W_exit ?_; refine thenQ_exit ?_; refine thenQ_exit ?_; refine blockQ_hit ?_; exact brk_0 _ _ _ (oi hF) sw
 intro join hF
 refine wD 1 rfl ?_; refine rS (T_len (tc := t_i64) p0 .tree ?_); refine Q_run SV 2 rfl ?_; cases h166 : (decide ((List.length p0 : Int) = 0))
 · have hF := bF' h166 hF; refine Q_run SV 4 rfl ?_; cases h167 : (decide (p2 < 1))
   · have hF := bF' h167 hF; refine Q_run SV 4 rfl ?_; cases h168 : (decide (1000000000000000 < p2))
     · have hF := bF' h168 hF; refine Q_run SV 4 rfl ?_; cases h169 : (decide (p1 < 0))
       · have hF := bF' h169 hF; refine QV rfl ?_; exact join (decide (p2 < p1)) _ _ hF sw
       have hF := bT' h169 hF; refine QV rfl ?_; exact join true _ _ hF sw
     have hF := bT' h168 hF; refine QV rfl ?_; exact join true _ _ hF sw
   have hF := bT' h167 hF; refine QV rfl ?_; exact join true _ _ hF sw
 have hF := bT' h166 hF; refine QV rfl ?_; exact join true _ _ hF sw
def tracebookref49_Quantile (p0 : api_Trace) (p1 : Int) (p2 : Int) : Option (Int × Int) :=
  ((tracebookref49_All p0).bind fun r1 => (bif (!decide (r1.2 = 0)) then some (0, r1.2) else ((tracebookref01_Quantile r1.1 p1 p2).bind fun r2 => (bif (!r2.2) then some (0, 1) else some (r2.1, 0)))))
theorem tracebookref49_Quantile_fun (p0 : api_Trace) (p1 : Int) (p2 : Int) (r : (Int × Int)) (hF : tracebookref49_Quantile p0 p1 p2 = some r) : Fun Tryz.prog 20 true [] [.agg (m_api_Trace p0), cI p1, cI p2] noHeap (.tup [cI r.1, cI r.2]) noHeap := by
 refine Fun.of_walk0 Tryz.func20 c20 (by kernel_rfl) (rs := [.tmp 6, .tmp 7]) (by kernel_rfl) ?_; unfold v20
 unfold tracebookref49_Quantile at hF
 refine wA rfl ?_; refine wC 1 rfl ?_; obtain ⟨r1, hr1, hF⟩ := bB hF
 refine R_stepX trivial (X_callG [((902,560),(14,1))] rfl (callN _) (tracebookref49_All_fun _ _ hr1) trivial ⟨.inr ⟨rfl, rfl, rfl, rfl, rfl, rfl, rfl, rfl, rfl, rfl, trivial⟩, trivial⟩ rfl rfl rfl ?_); refine QV rfl ?_
 refine W_seq ?_; refine wA rfl ?_; refine wIf hF rfl (fun _ hF => ?_) fun _ hF => ?_
 · refine wA rfl ?_; cases hF
   exact W_ret ⟨_, rfl, rfl, ⟨⟨rfl, fun _ => rfl⟩, ⟨rfl, fun _ => rfl⟩, trivial⟩, noOut _⟩
 refine W_skip ?_; refine wC 3 rfl ?_; obtain ⟨r2, hr2, hF⟩ := bB hF
 refine rS (T_call (tracebookref01_Quantile_fun _ _ _ _ hr2) ⟨⟨_, rfl⟩, rfl, rfl, trivial⟩ rfl (.inl rfl) ?_); refine QV rfl ?_; refine W_seq ?_; refine wA rfl ?_; refine wIf hF rfl (fun _ hF => ?_) fun _ hF => ?_
 · refine wA rfl ?_; cases hF
   exact W_ret ⟨_, rfl, rfl, ⟨⟨rfl, fun _ => rfl⟩, ⟨rfl, fun _ => rfl⟩, trivial⟩, noOut _⟩
 refine W_skip ?_; refine wA rfl ?_; cases hF
 exact W_ret ⟨_, rfl, rfl, ⟨⟨rfl, fun _ => rfl⟩, ⟨rfl, fun _ => rfl⟩, trivial⟩, noOut _⟩
def tracebooklaw49_LatencyQuantiles (p0 : api_Trace) (p1 : Int) (p2 : Int) : Option Bool :=
  ((tracebooklaw49_small p0).bind fun r1 => (bif (!r1) then ((tracebooklaw49_awake ).bind fun r2 => some r2) else ((latency_Quantile p0 p1 p2).bind fun r3 => ((tracebookref49_Quantile p0 p1 p2).bind fun r4 => (((bif (!decide (r3.1 = r4.1)) then some true else some (!decide (r3.2 = r4.2))) : Option Bool).bind fun v5 => (bif v5 then some false else ((latency_All p0).bind fun r6 => (bif (!decide (r3.2 = 0)) then (((bif (!decide (r6.2 = 0)) then (bif (decide (r6.2 = r3.2)) then ((tracebooklaw49_awake ).bind fun r32 => some r32) else (bif (decide (r3.2 = 1)) then (bif (decide ((List.length r6.1 : Int) = 0)) then ((tracebooklaw49_awake ).bind fun r31 => some r31) else (bif (decide (p1 < 0)) then ((tracebooklaw49_awake ).bind fun r30 => some r30) else (bif (decide (p2 < 1)) then ((tracebooklaw49_awake ).bind fun r29 => some r29) else (bif (decide (p2 < p1)) then ((tracebooklaw49_awake ).bind fun r28 => some r28) else (bif (decide (1000000000000000 < p2)) then ((tracebooklaw49_awake ).bind fun r27 => some r27) else some false))))) else some false)) else (bif (decide (r3.2 = 1)) then (bif (decide ((List.length r6.1 : Int) = 0)) then ((tracebooklaw49_awake ).bind fun r19 => some r19) else (bif (decide (p1 < 0)) then ((tracebooklaw49_awake ).bind fun r18 => some r18) else (bif (decide (p2 < 1)) then ((tracebooklaw49_awake ).bind fun r17 => some r17) else (bif (decide (p2 < p1)) then ((tracebooklaw49_awake ).bind fun r16 => some r16) else (bif (decide (1000000000000000 < p2)) then ((tracebooklaw49_awake ).bind fun r15 => some r15) else some false))))) else some false)) : Option Bool).bind fun v7 => some v7) else ((latency_Quantile p0 0 p2).bind fun r33 => ((latency_Quantile p0 p2 p2).bind fun r34 => (((bif (decide ((List.length r6.1 : Int) = 0)) then some true else (bif (!decide (r33.2 = 0)) then some true else (bif (!decide (r34.2 = 0)) then some true else ((idx r6.1 0).bind fun y45 => (bif (!decide (r33.1 = y45)) then some true else ((idx r6.1 (w64 ((List.length r6.1 : Int) - 1))).bind fun y47 => (bif (!decide (r34.1 = y47)) then some true else (bif (decide (r3.1 < r33.1)) then some true else some (decide (r34.1 < r3.1)))))))))) : Option Bool).bind fun v35 => (bif v35 then some false else ((latency_Quantile p0 (min (w64 (p1 + 1)) p2) p2).bind fun r36 => (((bif (decide (r36.2 = 0)) then (bif (decide (r3.1 ≤ r36.1)) then ((tracebooklaw49_awake ).bind fun r40 => some r40) else some false) else some false) : Option Bool).bind fun v37 => some v37))))))))))))))
theorem tracebooklaw49_LatencyQuantiles_fun (p0 : api_Trace) (p1 : Int) (p2 : Int) (r : Bool) (hF : tracebooklaw49_LatencyQuantiles p0 p1 p2 = some r) : Fun Tryz.prog 4 true [] [.agg (m_api_Trace p0), cI p1, cI p2] noHeap (cB r) noHeap := by
 refine Fun.of_walk0 Tryz.func4 c4 (by kernel_rfl) (rs := [.tmp 6]) (by kernel_rfl) ?_; unfold v4
 unfold tracebooklaw49_LatencyQuantiles at hF
 refine wA rfl ?_; refine W_seq ?_; refine wC 1 rfl ?_; obtain ⟨r1, hr1, hF⟩ := bB hF
 refine rS (T_call (tracebooklaw49_small_fun _ _ hr1) ⟨⟨rfl, rfl, rfl, rfl, rfl, rfl, rfl, rfl, rfl, rfl, trivial⟩, trivial⟩ rfl (.inl rfl) ?_); refine QV rfl ?_; refine wIf hF rfl (fun _ hF => ?_) fun _ hF => ?_
 · refine wE ?_; obtain ⟨r2, hr2, hF⟩ := bB hF
   refine rS (T_call (tracebooklaw49_awake_fun _ hr2) trivial rfl (.inl rfl) ?_); refine QV rfl ?_; cases hF
   exact W_ret wR
 refine W_skip ?_; refine wC 3 rfl ?_; obtain ⟨r3, hr3, hF⟩ := bB hF
 refine rS (T_call (latency_Quantile_fun _ _ _ _ hr3) ⟨⟨rfl, rfl, rfl, rfl, rfl, rfl, rfl, rfl, rfl, rfl, trivial⟩, rfl, rfl, trivial⟩ rfl (.inl rfl) ?_); refine QV rfl ?_; refine wC 3 rfl ?_; obtain ⟨r4, hr4, hF⟩ := bB hF
 refine rS (T_call (tracebookref49_Quantile_fun _ _ _ _ hr4) ⟨⟨rfl, rfl, rfl, rfl, rfl, rfl, rfl, rfl, rfl, rfl, trivial⟩, rfl, rfl, trivial⟩ rfl (.inl rfl) ?_); refine QV rfl ?_; refine W_seq ?_; refine W_seq ?_
 refine W_join (fun _ _ h => h) hF (fun v5 => [(1, cI p1), (2, cI p2), (3, cP (3,0) 0), (7, cI r3.1), (8, cI r3.2), (44, cB v5)]) (fun v5 => [((3,0), .box (m_api_Trace p0))]) ?_ ?_
 · rintro v5 hF
   refine wIf hF rfl (fun _ hF => ?_) fun _ hF => ?_
   · refine wA rfl ?_; cases hF
     exact W_ret wR
   refine W_skip ?_; refine wC 1 rfl ?_; obtain ⟨r6, hr6, hF⟩ := bB hF
   refine R_stepX trivial (X_callG [((902,520),(47,1))] rfl (callN _) (latency_All_fun _ _ hr6) trivial ⟨.inr ⟨rfl, rfl, rfl, rfl, rfl, rfl, rfl, rfl, rfl, rfl, trivial⟩, trivial⟩ rfl rfl rfl ?_); refine QV rfl ?_
   refine W_seq ?_; refine wA rfl ?_; refine wIf hF rfl (fun _ hF => ?_) fun _ hF => ?_
   · refine W_seq ?_; refine W_join (fun _ _ h => h) hF (fun v7 => [(6, cB v7)]) (fun v7 => []) ?_ ?_
     · rintro v7 hF
       cases hF
       exact W_ret wR
     intro join hF
     refine wD 3 rfl ?_; cases h8 : (!decide (r6.2 = 0))
     · have hF := bF' h8 hF; refine Q_run SV 8 rfl ?_; cases h9 : (decide (r3.2 = 1))
       · have hF := bF' h9 hF; refine QV rfl ?_; exact join false _ _ hF sw
       have hF := bT' h9 hF; refine Q_run SV 1 rfl ?_; refine R_step SV rfl (T_len (tc := t_i64) r6.1 (.own _ _ rfl) ?_); refine Q_run SV 2 rfl ?_; cases h10 : (decide ((List.length r6.1 : Int) = 0))
       · have hF := bF' h10 hF; refine Q_run SV 4 rfl ?_; cases h11 : (decide (p1 < 0))
         · have hF := bF' h11 hF; refine Q_run SV 4 rfl ?_; cases h12 : (decide (p2 < 1))
           · have hF := bF' h12 hF; refine Q_run SV 5 rfl ?_; cases h13 : (decide (p2 < p1))
             · have hF := bF' h13 hF; refine Q_run SV 6 rfl ?_; cases h14 : (decide (1000000000000000 < p2))
               · have hF := bF' h14 hF; refine QV rfl ?_; exact join false _ _ hF sw
               have hF := bT' h14 hF; obtain ⟨r15, hr15, hF⟩ := bB' hF
               refine R_step SV rfl (T_call (tracebooklaw49_awake_fun _ hr15) trivial rfl (.inl rfl) ?_); refine QV rfl ?_; exact join r15 _ _ hF sw
             have hF := bT' h13 hF; refine Q_run SV 6 rfl ?_; obtain ⟨r16, hr16, hF⟩ := bB' hF
             refine R_step SV rfl (T_call (tracebooklaw49_awake_fun _ hr16) trivial rfl (.inl rfl) ?_); refine QV rfl ?_; exact join r16 _ _ hF sw
           have hF := bT' h12 hF; refine Q_run SV 11 rfl ?_; obtain ⟨r17, hr17, hF⟩ := bB' hF
           refine R_step SV rfl (T_call (tracebooklaw49_awake_fun _ hr17) trivial rfl (.inl rfl) ?_); refine QV rfl ?_; exact join r17 _ _ hF sw
         have hF := bT' h11 hF; refine Q_run SV 15 rfl ?_; obtain ⟨r18, hr18, hF⟩ := bB' hF
         refine R_step SV rfl (T_call (tracebooklaw49_awake_fun _ hr18) trivial rfl (.inl rfl) ?_); refine QV rfl ?_; exact join r18 _ _ hF sw
       have hF := bT' h10 hF; refine Q_run SV 19 rfl ?_; obtain ⟨r19, hr19, hF⟩ := bB' hF
       refine R_step SV rfl (T_call (tracebooklaw49_awake_fun _ hr19) trivial rfl (.inl rfl) ?_); refine QV rfl ?_; exact join r19 _ _ hF sw
     have hF := bT' h8 hF; refine Q_run SV 5 rfl ?_; cases h20 : (decide (r6.2 = r3.2))
     · have hF := bF' h20 hF; refine Q_run SV 3 rfl ?_; cases h21 : (decide (r3.2 = 1))
       · have hF := bF' h21 hF; refine QV rfl ?_; exact join false _ _ hF sw
       have hF := bT' h21 hF; refine Q_run SV 1 rfl ?_; refine R_step SV rfl (T_len (tc := t_i64) r6.1 (.own _ _ rfl) ?_); refine Q_run SV 2 rfl ?_; cases h22 : (decide ((List.length r6.1 : Int) = 0))
       · have hF := bF' h22 hF; refine Q_run SV 4 rfl ?_; cases h23 : (decide (p1 < 0))
         · have hF := bF' h23 hF; refine Q_run SV 4 rfl ?_; cases h24 : (decide (p2 < 1))
           · have hF := bF' h24 hF; refine Q_run SV 5 rfl ?_; cases h25 : (decide (p2 < p1))
             · have hF := bF' h25 hF; refine Q_run SV 6 rfl ?_; cases h26 : (decide (1000000000000000 < p2))
               · have hF := bF' h26 hF; refine QV rfl ?_; exact join false _ _ hF sw
               have hF := bT' h26 hF; obtain ⟨r27, hr27, hF⟩ := bB' hF
               refine R_step SV rfl (T_call (tracebooklaw49_awake_fun _ hr27) trivial rfl (.inl rfl) ?_); refine QV rfl ?_; exact join r27 _ _ hF sw
             have hF := bT' h25 hF; refine Q_run SV 6 rfl ?_; obtain ⟨r28, hr28, hF⟩ := bB' hF
             refine R_step SV rfl (T_call (tracebooklaw49_awake_fun _ hr28) trivial rfl (.inl rfl) ?_); refine QV rfl ?_; exact join r28 _ _ hF sw
           have hF := bT' h24 hF; refine Q_run SV 11 rfl ?_; obtain ⟨r29, hr29, hF⟩ := bB' hF
           refine R_step SV rfl (T_call (tracebooklaw49_awake_fun _ hr29) trivial rfl (.inl rfl) ?_); refine QV rfl ?_; exact join r29 _ _ hF sw
         have hF := bT' h23 hF; refine Q_run SV 15 rfl ?_; obtain ⟨r30, hr30, hF⟩ := bB' hF
         refine R_step SV rfl (T_call (tracebooklaw49_awake_fun _ hr30) trivial rfl (.inl rfl) ?_); refine QV rfl ?_; exact join r30 _ _ hF sw
       have hF := bT' h22 hF; refine Q_run SV 19 rfl ?_; obtain ⟨r31, hr31, hF⟩ := bB' hF
       refine R_step SV rfl (T_call (tracebooklaw49_awake_fun _ hr31) trivial rfl (.inl rfl) ?_); refine QV rfl ?_; exact join r31 _ _ hF sw
     have hF := bT' h20 hF; refine Q_run SV 26 rfl ?_; obtain ⟨r32, hr32, hF⟩ := bB' hF
     refine R_step SV rfl (T_call (tracebooklaw49_awake_fun _ hr32) trivial rfl (.inl rfl) ?_); refine QV rfl ?_; exact join r32 _ _ hF sw
   refine W_skip ?_; refine wC 2 rfl ?_; obtain ⟨r33, hr33, hF⟩ := bB hF
   refine rS (T_call (latency_Quantile_fun _ _ _ _ hr33) ⟨⟨rfl, rfl, rfl, rfl, rfl, rfl, rfl, rfl, rfl, rfl, trivial⟩, rfl, rfl, trivial⟩ rfl (.inl rfl) ?_); refine QV rfl ?_; refine wC 3 rfl ?_; obtain ⟨r34, hr34, hF⟩ := bB hF
   refine rS (T_call (latency_Quantile_fun _ _ _ _ hr34) ⟨⟨rfl, rfl, rfl, rfl, rfl, rfl, rfl, rfl, rfl, rfl, trivial⟩, rfl, rfl, trivial⟩ rfl (.inl rfl) ?_); refine QV rfl ?_; refine W_seq ?_; refine W_seq ?_
   refine W_join (fun _ _ h => h) hF (fun v35 => [(1, cI p1), (2, cI p2), (3, cP (3,0) 0), (7, cI r3.1), (138, cB v35)]) (fun v35 => [((3,0), .box (m_api_Trace p0))]) ?_ ?_
   · rintro v35 hF
     refine wIf hF rfl (fun _ hF => ?_) fun _ hF => ?_
     · refine wA rfl ?_; cases hF
       exact W_ret wR
     refine W_skip ?_; refine wC 6 rfl ?_; obtain ⟨r36, hr36, hF⟩ := bB hF
     refine rS (T_call (latency_Quantile_fun _ _ _ _ hr36) ⟨⟨rfl, rfl, rfl, rfl, rfl, rfl, rfl, rfl, rfl, rfl, trivial⟩, rfl, rfl, trivial⟩ rfl (.inl rfl) ?_); refine QV rfl ?_; refine W_seq ?_; refine W_join (fun _ _ h => h) hF (fun v37 => [(6, cB v37)]) (fun v37 => []) ?_ ?_
     · rintro v37 hF
       cases hF
       exact W_ret wR
     intro join hF
     refine wD 3 rfl ?_; cases h38 : (decide (r36.2 = 0))
     · have hF := bF' h38 hF; refine QV rfl ?_; exact join false _ _ hF sw
     have hF := bT' h38 hF; refine Q_run SV 5 rfl ?_; cases h39 : (decide (r3.1 ≤ r36.1))
     · have hF := bF' h39 hF; refine QV rfl ?_; exact join false _ _ hF sw
     have hF := bT' h39 hF; obtain ⟨r40, hr40, hF⟩ := bB' hF
     refine R_step SV rfl (T_call (tracebooklaw49_awake_fun _ hr40) trivial rfl (.inl rfl) ?_); refine QV rfl ?_; exact join r40 _ _ hF sw
   intro join hF
   refine wD 1 rfl ?_; refine rS (T_len (tc := t_i64) r6.1 (.own _ _ rfl) ?_); refine Q_run SV 2 rfl ?_; cases h42 : (decide ((List.length r6.1 : Int) = 0))
   · have hF := bF' h42 hF; refine Q_run SV 4 rfl ?_; cases h43 : (!decide (r33.2 = 0))
     · have hF := bF' h43 hF; refine Q_run SV 4 rfl ?_; cases h44 : (!decide (r34.2 = 0))
       · have hF := bF' h44 hF; refine Q_run SV 2 rfl ?_; obtain ⟨y45, hy45, hF⟩ := bB' hF
         refine R_step SV rfl (T_ixO (tc := t_i64) r6.1 rfl rfl rfl hy45 ?_); refine R_step SV rfl (T_ldE (tc := t_i64) r6.1 rfl rfl (idx_get hy45).2.1 rfl ?_); refine Q_run SV 3 rfl ?_; cases h46 : (!decide (r33.1 = y45))
         · have hF := bF' h46 hF; refine Q_run SV 3 rfl ?_; refine R_step SV rfl (T_len (tc := t_i64) r6.1 (.own _ _ rfl) ?_); refine Q_run SV 1 rfl ?_; obtain ⟨y47, hy47, hF⟩ := bB' hF
           refine R_step SV rfl (T_ixO (tc := t_i64) r6.1 rfl rfl rfl hy47 ?_); refine R_step SV rfl (T_ldE (tc := t_i64) r6.1 rfl rfl (idx_get hy47).2.1 rfl ?_); refine Q_run SV 3 rfl ?_; cases h48 : (!decide (r34.1 = y47))
           · have hF := bF' h48 hF; refine Q_run SV 5 rfl ?_; cases h49 : (decide (r3.1 < r33.1))
             · have hF := bF' h49 hF; refine QV rfl ?_; exact join (decide (r34.1 < r3.1)) _ _ hF sw
             have hF := bT' h49 hF; refine QV rfl ?_; exact join true _ _ hF sw
           have hF := bT' h48 hF; refine QV rfl ?_; exact join true _ _ hF sw
         have hF := bT' h46 hF; refine QV rfl ?_; exact join true _ _ hF sw
       have hF := bT' h44 hF; refine QV rfl ?_; exact join true _ _ hF sw
     have hF := bT' h43 hF; refine QV rfl ?_; exact join true _ _ hF sw
   have hF := bT' h42 hF; refine QV rfl ?_; exact join true _ _ hF sw
 intro join hF
 refine wD 4 rfl ?_; cases h52 : (!decide (r3.1 = r4.1))
 · have hF := bF' h52 hF; refine QV rfl ?_; exact join (!decide (r3.2 = r4.2)) _ _ hF sw
 have hF := bT' h52 hF; refine QV rfl ?_; exact join true _ _ hF sw
end Go.VM
