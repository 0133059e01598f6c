/- What the functions of the law compute, each with its proof. -/
import Derived.Test.YtdpnoiebfagmfaaGreatL48r1
import Derived.Test.YtdpnoiebfagmfaaGreatRows
import Derived.KernelRfl
import Derived.Lib.Bytealg
import Derived.Laws.Externs
import Derived.WalkKit
namespace Go.VM
open Go.Proofs Go.Proofs.YtdpnoiebfagmfaaGreat
open Go.RowKit
set_option maxRecDepth 100000
set_option maxHeartbeats 4000000
theorem critical_comes_fun (p0 : api_Trace) (p1 : Int) (p2 : Int) (p3 : Int) (r : Bool) (hF : critical_comes p0 p1 p2 p3 = some r) : Fun Tryz.prog 34 true [] [.agg (m_api_Trace p0), cI p1, cI p2, cI p3] noHeap (cB r) noHeap := by
 refine Fun.of_walk0 Tryz.func34 c34 (by kernel_rfl) (rs := [.tmp 8]) (by kernel_rfl) ?_; unfold v34
 unfold critical_comes at hF
 refine wA rfl ?_; refine W_seq ?_; refine wE ?_; refine rS (T_mkmap (kd := (.int .i64)) (kv := kvI) (vv := vvB) rfl ?_)
 refine QV rfl ?_; refine W_for (fun _ _ h => h) hF (.inl) (fun (a15, a16) => [(1, cI a15), (2, cI p2), (3, cI p3), (4, cP (4,0) 0), (9, cM (12,0))]) (fun (a15, a16) => [((4,0), .box (m_api_Trace p0)), ((12,0), mapOb (.int .i64) kvI vvB a16)]) (fun _ => []) (fun _ => []) sw ?_ ?_
 · rintro ⟨⟩ hF
   refine wA rfl ?_; cases hF
   exact W_ret wR
 rintro ⟨a15, a16⟩ x_0 hF cont_0 brk_0 fin_0
 unfold critical_comes_L1 at hF
 refine W_seq ?_; refine wC 2 rfl ?_; refine rS (T_look (keyI .i64) (vv := vvB) a16 a15 false (.own _ rfl) rfl rfl ?_)
 refine QV rfl ?_; refine wIf hF rfl (fun _ hF => ?_) fun _ hF => ?_
 · refine W_skip ?_; refine W_block ?_; refine W_seq ?_; refine wA rfl ?_; refine wIf hF rfl (fun _ hF => ?_) fun _ hF => ?_
   · refine wA rfl ?_; have hF := fin_0 _ (oi hF); cases hF
     exact W_ret wR
   refine W_skip ?_; refine wC 2 rfl ?_; refine rS (T_mupd (keyI .i64) (vv := vvB) a16 a15 true rfl rfl rfl rfl ?_)
   refine QV rfl ?_; refine wC 3 rfl ?_; obtain ⟨r21, hr21, hF⟩ := bB hF
   refine rS (T_call (critical_waker_fun _ _ _ _ hr21) ⟨⟨rfl, rfl, rfl, rfl, rfl, rfl, rfl, rfl, rfl, rfl, trivial⟩, rfl, rfl, trivial⟩ rfl (.inl rfl) ?_); refine QV rfl ?_; refine W_seq ?_; refine wA rfl ?_
   refine wIf hF rfl (fun _ hF => ?_) fun _ hF => ?_
   · refine wA rfl ?_; have hF := fin_0 _ (oi hF); cases hF
     exact W_ret wR
   refine W_skip ?_; refine wB rfl ?_; exact cont_0 _ _ _ (oi hF) sw
 refine W_exit ?_; refine thenQ_exit ?_; refine thenQ_exit ?_; refine blockQ_hit ?_; exact brk_0 _ _ _ (oi hF) sw
def critical_Check_L1 (p0 : api_Trace) (p1 : Int) (p3 : (List api_Hop)) : Int → Option (Int ⊕ (Unit ⊕ Bool)) := fun a45 =>
  (bif (decide (a45 < (List.length p3 : Int))) then ((idx p3 a45).bind fun y66 => (bif (decide ((w64 (a45 + 1)) < (List.length p3 : Int))) then ((idx p3 (w64 (a45 + 1))).bind fun y67 => ((idx p3 (w64 (a45 + 1))).bind fun y68 => (bif (!decide (y68.fSpan.fFrom = y66.fSpan.fTo)) then some (.inr (.inr false)) else ((((spans_Valid y66.fSpan).bind fun r71 => (bif (!r71) then some true else ((critical_within p0 y66).bind fun r73 => (bif (!r73) then some true else ((critical_comes p0 y67.fThread y66.fThread y66.fSpan.fTo).bind fun r75 => some (!r75)))))) : Option Bool).bind fun v69 => (bif v69 then some (.inr (.inr false)) else some (.inl (w64 (a45 + 1)))))))) else ((((spans_Valid y66.fSpan).bind fun r79 => (bif (!r79) then some true else ((critical_within p0 y66).bind fun r81 => (bif (!r81) then some true else ((critical_comes p0 p1 y66.fThread y66.fSpan.fTo).bind fun r83 => some (!r83)))))) : Option Bool).bind fun v77 => (bif v77 then some (.inr (.inr false)) else some (.inl (w64 (a45 + 1))))))) else some (.inr (.inl ())))
def critical_Check (p0 : api_Trace) (p1 : Int) (p2 : api_Span) (p3 : (List api_Hop)) : Option Bool :=
  ((((critical_check p0 p1 p2).bind fun r87 => (bif (!decide (r87 = 0)) then some true else (bif (decide ((List.length p3 : Int) = 0)) then some true else ((idx p3 0).bind fun y90 => (bif (!decide (y90.fSpan.fFrom = p2.fFrom)) then some true else ((idx p3 (w64 ((List.length p3 : Int) - 1))).bind fun y92 => some (!decide (y92.fSpan.fTo = p2.fTo)))))))) : Option Bool).bind fun v1 => (bif v1 then some false else ((loop (critical_Check_L1 p0 p1 p3) 0).bind fun | .inl _ => some true | .inr rv => some rv)))
theorem critical_Check_fun (p0 : api_Trace) (p1 : Int) (p2 : api_Span) (p3 : (List api_Hop)) (r : Bool) (hF : critical_Check p0 p1 p2 p3 = some r) : Fun Tryz.prog 13 true [] [.agg (m_api_Trace p0), cI p1, .agg [jI p2.fFrom, jI p2.fTo], cL 4 t_api_Hop p3] noHeap (cB r) noHeap := by
 refine Fun.of_walk0 Tryz.func13 c13 (by kernel_rfl) (rs := [.tmp 8]) (by kernel_rfl) ?_; unfold v13
 unfold critical_Check at hF
 refine wA rfl ?_; refine W_seq ?_; refine W_seq ?_; refine W_join (fun _ _ h => h) hF (fun v1 => [(1, cI p1), (3, cL 4 t_api_Hop p3), (4, cP (4,0) 0), (44, cB v1)]) (fun v1 => [((4,0), .box (m_api_Trace p0))]) ?_ ?_
 · rintro v1 hF
   refine wIf hF rfl (fun _ hF => ?_) fun _ hF => ?_
   · refine wA rfl ?_; cases hF
     exact W_ret wR
   refine W_skip ?_; refine W_seq ?_; refine wC 1 rfl ?_; refine rS (T_len (tc := t_api_Hop) p3 .tree ?_); refine QV rfl ?_; refine W_for (fun _ _ h => h) hF (.inl) (fun a45 => [(1, cI p1), (3, cL 4 t_api_Hop p3), (4, cP (4,0) 0), (45, cL 4 t_api_Hop p3), (46, cI (List.length p3 : Int)), (47, cI a45)]) (fun a45 => [((4,0), .box (m_api_Trace p0))]) (fun _ => []) (fun _ => []) sw ?_ ?_
   · rintro ⟨⟩ hF
     refine wA rfl ?_; cases hF
     exact W_ret wR
   rintro a45 x_0 hF cont_0 brk_0 fin_0
   unfold critical_Check_L1 at hF
   refine wA rfl ?_; refine W_seq ?_; refine wIf hF rfl (fun _ hF => ?_) fun _ hF => ?_
   · refine W_skip ?_; refine W_seq ?_; refine W_block ?_; refine wC 1 rfl ?_; obtain ⟨y66, hy66, hF⟩ := bB hF
     refine rS (T_ixT (tc := t_api_Hop) p3 rfl rfl hy66 ?_); refine QV rfl ?_; refine wA rfl ?_; refine W_seq ?_; refine wC 3 rfl ?_; refine rS (T_len (tc := t_api_Hop) p3 .tree ?_); refine QV rfl ?_; refine wIf hF rfl (fun _ hF => ?_) fun _ hF => ?_
     · refine wC 3 rfl ?_; obtain ⟨y67, hy67, hF⟩ := bB hF
       refine rS (T_ixT (tc := t_api_Hop) p3 rfl rfl hy67 ?_); refine QV rfl ?_; refine W_seq ?_; refine W_regD (by decide) (by kernel_rfl) rfl ?_; refine Q_run SP 3 rfl ?_; obtain ⟨y68, hy68, hF⟩ := bB hF
       refine R_step SP trivial (T_ixT (tc := t_api_Hop) p3 rfl rfl hy68 ?_); refine QP rfl ?_; refine wIf hF rfl (fun _ hF => ?_) fun _ hF => ?_
       · refine wA rfl ?_; have hF := fin_0 _ (oi hF); cases hF
         exact W_ret wR
       refine W_skip ?_; refine W_seq ?_; refine W_join (fun _ _ h => h) hF (fun v69 => [(1, cI p1), (3, cL 4 t_api_Hop p3), (4, cP (4,0) 0), (45, cL 4 t_api_Hop p3), (46, cI (List.length p3 : Int)), (47, cI a45), (95, cB v69)]) (fun v69 => [((4,0), .box (m_api_Trace p0))]) ?_ ?_
       · rintro v69 hF
         refine wIf hF rfl (fun _ hF => ?_) fun _ hF => ?_
         · refine wA rfl ?_; have hF := fin_0 _ (oi hF); cases hF
           exact W_ret wR
         refine W_skip ?_; refine wB rfl ?_; exact cont_0 _ _ _ (oi hF) sw
       intro join hF
       refine wD 2 rfl ?_; obtain ⟨r71, hr71, hF⟩ := bB' hF
       refine rS (T_call (spans_Valid_fun _ _ hr71) ⟨⟨rfl, rfl, trivial⟩, trivial⟩ rfl (.inl rfl) ?_); refine Q_run SV 2 rfl ?_; cases h72 : (!r71)
       · have hF := bF' h72 hF; refine Q_run SV 2 rfl ?_; obtain ⟨r73, hr73, hF⟩ := bB' hF
         refine R_step SV rfl (T_call (critical_within_fun _ _ _ hr73) ⟨⟨rfl, rfl, rfl, rfl, rfl, rfl, rfl, rfl, rfl, rfl, trivial⟩, ⟨rfl, rfl, rfl, rfl, trivial⟩, trivial⟩ rfl (.inl rfl) ?_); refine Q_run SV 3 rfl ?_
         cases h74 : (!r73)
         · have hF := bF' h74 hF; refine Q_run SV 7 rfl ?_; obtain ⟨r75, hr75, hF⟩ := bB' hF
           refine R_step SV rfl (T_call (critical_comes_fun _ _ _ _ _ hr75) ⟨⟨rfl, rfl, rfl, rfl, rfl, rfl, rfl, rfl, rfl, rfl, trivial⟩, rfl, rfl, rfl, trivial⟩ rfl (.inl rfl) ?_); refine QV rfl ?_; exact join (!r75) _ _ hF sw
         have hF := bT' h74 hF; refine QV rfl ?_; exact join true _ _ hF sw
       have hF := bT' h72 hF; refine QV rfl ?_; exact join true _ _ hF sw
     refine W_skip ?_; refine W_seq ?_; refine W_join (fun _ _ h => h) hF (fun v77 => [(1, cI p1), (3, cL 4 t_api_Hop p3), (4, cP (4,0) 0), (45, cL 4 t_api_Hop p3), (46, cI (List.length p3 : Int)), (47, cI a45), (95, cB v77)]) (fun v77 => [((4,0), .box (m_api_Trace p0))]) ?_ ?_
     · rintro v77 hF
       refine wIf hF rfl (fun _ hF => ?_) fun _ hF => ?_
       · refine wA rfl ?_; have hF := fin_0 _ (oi hF); cases hF
         exact W_ret wR
       refine W_skip ?_; refine wB rfl ?_; exact cont_0 _ _ _ (oi hF) sw
     intro join hF
     refine wD 2 rfl ?_; obtain ⟨r79, hr79, hF⟩ := bB' hF
     refine rS (T_call (spans_Valid_fun _ _ hr79) ⟨⟨rfl, rfl, trivial⟩, trivial⟩ rfl (.inl rfl) ?_); refine Q_run SV 2 rfl ?_; cases h80 : (!r79)
     · have hF := bF' h80 hF; refine Q_run SV 2 rfl ?_; obtain ⟨r81, hr81, hF⟩ := bB' hF
       refine R_step SV rfl (T_call (critical_within_fun _ _ _ hr81) ⟨⟨rfl, rfl, rfl, rfl, rfl, rfl, rfl, rfl, rfl, rfl, trivial⟩, ⟨rfl, rfl, rfl, rfl, trivial⟩, trivial⟩ rfl (.inl rfl) ?_); refine Q_run SV 3 rfl ?_
       cases h82 : (!r81)
       · have hF := bF' h82 hF; refine Q_run SV 7 rfl ?_; obtain ⟨r83, hr83, hF⟩ := bB' hF
         refine R_step SV rfl (T_call (critical_comes_fun _ _ _ _ _ hr83) ⟨⟨rfl, rfl, rfl, rfl, rfl, rfl, rfl, rfl, rfl, rfl, trivial⟩, rfl, rfl, rfl, trivial⟩ rfl (.inl rfl) ?_); refine QV rfl ?_; exact join (!r83) _ _ hF sw
       have hF := bT' h82 hF; refine QV rfl ?_; exact join true _ _ hF sw
     have hF := bT' h80 hF; refine QV rfl ?_; exact join true _ _ hF sw
   refine W_exit ?_; refine thenQ_exit ?_; refine thenQ_exit ?_; refine blockQ_hit ?_; exact brk_0 _ _ _ (oi hF) sw
 intro join hF
 refine W_regD (by decide) (by kernel_rfl) rfl ?_; refine Q_run SP 3 rfl ?_; obtain ⟨r87, hr87, hF⟩ := bB' hF
 refine R_step SP trivial (T_call (critical_check_fun _ _ _ _ hr87) ⟨⟨rfl, rfl, rfl, rfl, rfl, rfl, rfl, rfl, rfl, rfl, trivial⟩, rfl, ⟨rfl, rfl, trivial⟩, trivial⟩ rfl (.inl rfl) ?_); refine Q_run SP 2 rfl ?_
 cases h88 : (!decide (r87 = 0))
 · have hF := bF' h88 hF; refine Q_run SP 1 rfl ?_; refine R_step SP rfl (T_len (tc := t_api_Hop) p3 .tree ?_); refine Q_run SP 3 rfl ?_; cases h89 : (decide ((List.length p3 : Int) = 0))
   · have hF := bF' h89 hF; refine Q_run SP 1 rfl ?_; obtain ⟨y90, hy90, hF⟩ := bB' hF
     refine R_step SP rfl (T_ixT (tc := t_api_Hop) p3 rfl rfl hy90 ?_); refine Q_run SP 8 rfl ?_; cases h91 : (!decide (y90.fSpan.fFrom = p2.fFrom))
     · have hF := bF' h91 hF; refine Q_run SP 2 rfl ?_; refine R_step SP rfl (T_len (tc := t_api_Hop) p3 .tree ?_); refine Q_run SP 1 rfl ?_; obtain ⟨y92, hy92, hF⟩ := bB' hF
       refine R_step SP rfl (T_ixT (tc := t_api_Hop) p3 rfl rfl hy92 ?_); refine QP rfl ?_; exact join (!decide (y92.fSpan.fTo = p2.fTo)) _ _ hF sw
     have hF := bT' h91 hF; refine QP rfl ?_; exact join true _ _ hF sw
   have hF := bT' h89 hF; refine QP rfl ?_; exact join true _ _ hF sw
 have hF := bT' h88 hF; refine QP rfl ?_; exact join true _ _ hF sw
def tracebooklaw48_awake  : Option Bool :=
  ((tracebooklaw48_piece 1 4 0 5 (-1) (-1)).bind fun r1 => ((tracebooklaw48_piece 1 2 5 9 2 2).bind fun r2 => ((tracebooklaw48_piece 1 4 9 10 (-1) (-1)).bind fun r3 => ((tracebooklaw48_piece 2 1 0 3 (-1) (-1)).bind fun r4 => ((tracebooklaw48_piece 2 4 3 9 (-1) (-1)).bind fun r5 => ((tracebooklaw48_piece 2 0 9 10 (-1) (-1)).bind fun r6 => ((tracebooklaw48_pair [r1, r2, r3, r4, r5, r6]).bind fun r7 => ((critical_Path r7 1 ({ fFrom := 4, fTo := 9 } : api_Span)).bind fun r8 => ((tracebooklaw48_piece 1 2 0 6 2 2).bind fun r9 => ((tracebooklaw48_piece 1 4 6 10 (-1) (-1)).bind fun r10 => ((tracebooklaw48_piece 2 2 0 6 1 1).bind fun r11 => ((tracebooklaw48_piece 2 4 6 10 (-1) (-1)).bind fun r12 => ((tracebooklaw48_pair [r9, r10, r11, r12]).bind fun r13 => ((critical_Path r13 1 ({ fFrom := 2, fTo := 6 } : api_Span)).bind fun r14 => ((critical_Path r13 1 ({ fFrom := 7, fTo := 9 } : api_Span)).bind fun r15 => (((bif (decide (r8.2 = 0)) then ((tracebookref48_Same r8.1 [({ fThread := 2, fState := 4, fSpan := ({ fFrom := 4, fTo := 9 } : api_Span) } : api_Hop)]).bind fun r18 => (bif r18 then (bif (decide (r14.2 = 0)) then ((tracebookref48_Same r14.1 [({ fThread := 2, fState := 2, fSpan := ({ fFrom := 2, fTo := 6 } : api_Span) } : api_Hop)]).bind fun r21 => (bif r21 then (bif (decide (r15.2 = 0)) then (bif (decide ((List.length r15.1 : Int) = 1)) then ((critical_Check r13 1 ({ fFrom := 2, fTo := 6 } : api_Span) r14.1).bind fun r25 => some r25) else some false) else some false) else some false)) else some false) else some false)) else some false) : Option Bool).bind fun v16 => some v16))))))))))))))))
theorem tracebooklaw48_awake_fun  (r : Bool) (hF : tracebooklaw48_awake  = some r) : Fun Tryz.prog 7 true [] [] noHeap (cB r) noHeap := by
 refine Fun.of_walk0 Tryz.func7 c7 (by kernel_rfl) (rs := [.tmp 0]) (by kernel_rfl) ?_; unfold v7
 unfold tracebooklaw48_awake at hF
 refine wA rfl ?_; refine wE ?_; obtain ⟨r1, hr1, hF⟩ := bB hF
 refine rS (T_call (tracebooklaw48_piece_fun _ _ _ _ _ _ _ hr1) ⟨rfl, rfl, rfl, rfl, rfl, rfl, trivial⟩ rfl (.inl rfl) ?_); obtain ⟨r2, hr2, hF⟩ := bB hF
 refine rS (T_call (tracebooklaw48_piece_fun _ _ _ _ _ _ _ hr2) ⟨rfl, rfl, rfl, rfl, rfl, rfl, trivial⟩ rfl (.inl rfl) ?_); obtain ⟨r3, hr3, hF⟩ := bB hF
 refine rS (T_call (tracebooklaw48_piece_fun _ _ _ _ _ _ _ hr3) ⟨rfl, rfl, rfl, rfl, rfl, rfl, trivial⟩ rfl (.inl rfl) ?_); obtain ⟨r4, hr4, hF⟩ := bB hF
 refine rS (T_call (tracebooklaw48_piece_fun _ _ _ _ _ _ _ hr4) ⟨rfl, rfl, rfl, rfl, rfl, rfl, trivial⟩ rfl (.inl rfl) ?_); obtain ⟨r5, hr5, hF⟩ := bB hF
 refine rS (T_call (tracebooklaw48_piece_fun _ _ _ _ _ _ _ hr5) ⟨rfl, rfl, rfl, rfl, rfl, rfl, trivial⟩ rfl (.inl rfl) ?_); obtain ⟨r6, hr6, hF⟩ := bB hF
 refine rS (T_call (tracebooklaw48_piece_fun _ _ _ _ _ _ _ hr6) ⟨rfl, rfl, rfl, rfl, rfl, rfl, trivial⟩ rfl (.inl rfl) ?_); refine rS (T_bsl (tc := t_api_State) [r1, r2, r3, r4, r5, r6] rfl ⟨rfl, rfl, rfl, rfl, rfl, rfl, rfl, rfl, rfl, rfl, rfl, rfl, rfl, rfl, rfl, rfl, rfl, rfl, rfl, rfl, rfl, rfl, rfl, rfl, rfl, rfl, rfl, rfl, rfl, rfl, rfl, rfl, rfl, rfl, rfl, rfl, rfl, rfl, rfl, rfl, rfl, rfl, trivial⟩ rfl (fun _ => rfl) rfl ?_)
 obtain ⟨r7, hr7, hF⟩ := bB hF
 refine R_shift trivial (S_frz (15,0) rfl rfl S_refl) (X_callG [((902,680),(16,1))] rfl (callN _) (tracebooklaw48_pair_fun _ _ hr7) trivial ⟨.inl rfl, trivial⟩ rfl rfl rfl ?_); refine QV rfl ?_; refine wC 2 rfl ?_
 obtain ⟨r8, hr8, hF⟩ := bB hF
 refine R_stepX trivial (X_callL [((902,320),(20,1))] rfl (callN _) (critical_Path_fun _ _ _ _ hr8) trivial ⟨.inr ⟨rfl, rfl, ⟨_, rfl⟩, rfl, rfl, rfl, rfl, rfl, rfl, rfl, trivial⟩, .inr rfl, .inr ⟨rfl, rfl, trivial⟩, trivial⟩ rfl rfl rfl rfl ⟨(flatArr fun _ => rfl), trivial⟩ ?_)
 refine QV rfl ?_; refine wE ?_; obtain ⟨r9, hr9, hF⟩ := bB hF
 refine rS (T_call (tracebooklaw48_piece_fun _ _ _ _ _ _ _ hr9) ⟨rfl, rfl, rfl, rfl, rfl, rfl, trivial⟩ rfl (.inl rfl) ?_); obtain ⟨r10, hr10, hF⟩ := bB hF
 refine rS (T_call (tracebooklaw48_piece_fun _ _ _ _ _ _ _ hr10) ⟨rfl, rfl, rfl, rfl, rfl, rfl, trivial⟩ rfl (.inl rfl) ?_); obtain ⟨r11, hr11, hF⟩ := bB hF
 refine rS (T_call (tracebooklaw48_piece_fun _ _ _ _ _ _ _ hr11) ⟨rfl, rfl, rfl, rfl, rfl, rfl, trivial⟩ rfl (.inl rfl) ?_); obtain ⟨r12, hr12, hF⟩ := bB hF
 refine rS (T_call (tracebooklaw48_piece_fun _ _ _ _ _ _ _ hr12) ⟨rfl, rfl, rfl, rfl, rfl, rfl, trivial⟩ rfl (.inl rfl) ?_); refine rS (T_bsl (tc := t_api_State) [r9, r10, r11, r12] rfl ⟨rfl, rfl, rfl, rfl, rfl, rfl, rfl, rfl, rfl, rfl, rfl, rfl, rfl, rfl, rfl, rfl, rfl, rfl, rfl, rfl, rfl, rfl, rfl, rfl, rfl, rfl, rfl, rfl, trivial⟩ rfl (fun _ => rfl) rfl ?_)
 obtain ⟨r13, hr13, hF⟩ := bB hF
 refine R_shift trivial (S_frz (27,0) rfl rfl S_refl) (X_callG [((902,680),(28,1))] rfl (callN _) (tracebooklaw48_pair_fun _ _ hr13) trivial ⟨.inl rfl, trivial⟩ rfl rfl rfl ?_); refine QV rfl ?_; refine wC 2 rfl ?_
 obtain ⟨r14, hr14, hF⟩ := bB hF
 refine R_stepX trivial (X_callL [((902,320),(32,1))] rfl (callN _) (critical_Path_fun _ _ _ _ hr14) trivial ⟨.inr ⟨rfl, rfl, ⟨_, rfl⟩, rfl, rfl, rfl, rfl, rfl, rfl, rfl, trivial⟩, .inr rfl, .inr ⟨rfl, rfl, trivial⟩, trivial⟩ rfl rfl rfl rfl ⟨(flatArr fun _ => rfl), trivial⟩ ?_)
 refine QV rfl ?_; refine wC 2 rfl ?_; obtain ⟨r15, hr15, hF⟩ := bB hF
 refine R_stepX trivial (X_callL [((902,320),(38,1))] rfl (callN _) (critical_Path_fun _ _ _ _ hr15) trivial ⟨.inr ⟨rfl, rfl, ⟨_, rfl⟩, rfl, rfl, rfl, rfl, rfl, rfl, rfl, trivial⟩, .inr rfl, .inr ⟨rfl, rfl, trivial⟩, trivial⟩ rfl rfl rfl rfl ⟨(flatArr fun _ => rfl), trivial⟩ ?_)
 refine QV rfl ?_; refine W_seq ?_; refine W_join (fun _ _ h => h) hF (fun v16 => [(0, cB v16)]) (fun v16 => []) ?_ ?_
 · rintro v16 hF
   cases hF
   exact W_ret wR
 intro join hF
 refine wD 3 rfl ?_; cases h17 : (decide (r8.2 = 0))
 · have hF := bF' h17 hF; refine QV rfl ?_; exact join false _ _ hF sw
 have hF := bT' h17 hF; refine Q_run SV 3 rfl ?_; refine R_step SV rfl (T_bsl (tc := t_api_Hop) [({ fThread := 2, fState := 4, fSpan := ({ fFrom := 4, fTo := 9 } : api_Span) } : api_Hop)] rfl ⟨rfl, rfl, rfl, rfl, trivial⟩ rfl (fun _ => rfl) rfl ?_)
 obtain ⟨r18, hr18, hF⟩ := bB' hF
 refine R_step SV rfl (T_call (tracebookref48_Same_fun _ _ _ hr18) ⟨⟨_, rfl⟩, ⟨_, rfl⟩, trivial⟩ rfl (.inl rfl) ?_); refine Q_run SV 2 rfl ?_; cases h19 : r18
 · have hF := bF' h19 hF; refine QV rfl ?_; exact join false _ _ hF sw
 have hF := bT' h19 hF; refine Q_run SV 4 rfl ?_; cases h20 : (decide (r14.2 = 0))
 · have hF := bF' h20 hF; refine QV rfl ?_; exact join false _ _ hF sw
 have hF := bT' h20 hF; refine Q_run SV 3 rfl ?_; refine R_step SV rfl (T_bsl (tc := t_api_Hop) [({ fThread := 2, fState := 2, fSpan := ({ fFrom := 2, fTo := 6 } : api_Span) } : api_Hop)] rfl ⟨rfl, rfl, rfl, rfl, trivial⟩ rfl (fun _ => rfl) rfl ?_)
 obtain ⟨r21, hr21, hF⟩ := bB' hF
 refine R_step SV rfl (T_call (tracebookref48_Same_fun _ _ _ hr21) ⟨⟨_, rfl⟩, ⟨_, rfl⟩, trivial⟩ rfl (.inl rfl) ?_); refine Q_run SV 2 rfl ?_; cases h22 : r21
 · have hF := bF' h22 hF; refine QV rfl ?_; exact join false _ _ hF sw
 have hF := bT' h22 hF; refine Q_run SV 4 rfl ?_; cases h23 : (decide (r15.2 = 0))
 · have hF := bF' h23 hF; refine QV rfl ?_; exact join false _ _ hF sw
 have hF := bT' h23 hF; refine Q_run SV 1 rfl ?_; refine R_step SV rfl (T_len (tc := t_api_Hop) r15.1 (.own _ _ rfl) ?_); refine Q_run SV 3 rfl ?_; cases h24 : (decide ((List.length r15.1 : Int) = 1))
 · have hF := bF' h24 hF; refine QV rfl ?_; exact join false _ _ hF sw
 have hF := bT' h24 hF; refine Q_run SV 3 rfl ?_; obtain ⟨r25, hr25, hF⟩ := bB' hF
 refine R_step SV rfl (T_call (critical_Check_fun _ _ _ _ _ hr25) ⟨⟨rfl, rfl, ⟨_, rfl⟩, rfl, rfl, rfl, rfl, rfl, rfl, rfl, trivial⟩, rfl, ⟨rfl, rfl, trivial⟩, ⟨_, rfl⟩, trivial⟩ rfl (.inl rfl) ?_); refine QV rfl ?_
 exact join r25 _ _ hF sw
def critical_length (p0 : api_Hop) : Option Int :=
  ((spans_Valid p0.fSpan).bind fun r1 => (bif (!r1) then some 0 else some (w64 (p0.fSpan.fTo - p0.fSpan.fFrom))))
theorem critical_length_fun (p0 : api_Hop) (r : Int) (hF : critical_length p0 = some r) : Fun Tryz.prog 27 true [] [.agg (m_api_Hop p0)] noHeap (cI r) noHeap := by
 refine Fun.of_walk0 Tryz.func27 c27 (by kernel_rfl) (rs := [.tmp 2]) (by kernel_rfl) ?_; unfold v27
 unfold critical_length at hF
 refine wA rfl ?_; refine W_seq ?_; refine wC 2 rfl ?_; obtain ⟨r1, hr1, hF⟩ := bB hF
 refine rS (T_call (spans_Valid_fun _ _ hr1) ⟨⟨rfl, rfl, trivial⟩, trivial⟩ rfl (.inl rfl) ?_); refine QV rfl ?_; refine wIf hF rfl (fun _ hF => ?_) fun _ hF => ?_
 · refine wA rfl ?_; cases hF
   exact W_ret wR
 refine W_skip ?_; refine wA rfl ?_; cases hF
 exact W_ret wR
def critical_Total_L1 (p0 : (List api_Hop)) (p1 : Int) : (Int × Int) → Option ((Int × Int) ⊕ Int) := fun (a17, a18) =>
  (bif (decide (a18 < (List.length p0 : Int))) then ((((idx p0 a18).bind fun y26 => (bif (decide (y26.fState = p1)) then ((critical_length y26).bind fun r27 => some (w64 (a17 + r27))) else some a17)) : Option Int).bind fun v25 => some (.inl (v25, (w64 (a18 + 1))))) else some (.inr a17))
def critical_Total (p0 : (List api_Hop)) (p1 : Int) : Option Int :=
  ((loop (critical_Total_L1 p0 p1) (0, 0)).bind fun e24 => some e24)
theorem critical_Total_fun (p0 : (List api_Hop)) (p1 : Int) (r : Int) (hF : critical_Total p0 p1 = some r) : Fun Tryz.prog 15 true [] [cL 4 t_api_Hop p0, cI p1] noHeap (cI r) noHeap := by
 refine Fun.of_walk0 Tryz.func15 c15 (by kernel_rfl) (rs := [.tmp 4]) (by kernel_rfl) ?_; unfold v15
 unfold critical_Total at hF
 refine wA rfl ?_; refine wA rfl ?_; refine W_seq ?_; refine wC 1 rfl ?_; refine rS (T_len (tc := t_api_Hop) p0 .tree ?_); refine QV rfl ?_; refine W_for (fun _ _ h => h) hF (id) (fun (a17, a18) => [(1, cI p1), (5, cI a17), (8, cL 4 t_api_Hop p0), (9, cI (List.length p0 : Int)), (10, cI a18)]) (fun (a17, a18) => []) (fun e24 => [(5, cI e24)]) (fun e24 => []) sw ?_ ?_
 · rintro e24 hF
   refine wA rfl ?_; cases hF
   exact W_ret wR
 rintro ⟨a17, a18⟩ x_0 hF cont_0 brk_0 fin_0
 unfold critical_Total_L1 at hF
 refine wA rfl ?_; refine W_seq ?_; refine wIf hF rfl (fun _ hF => ?_) fun _ hF => ?_
 · refine W_skip ?_; refine W_seq ?_; refine W_join (fun _ _ h => h) hF (fun v25 => [(1, cI p1), (5, cI v25), (8, cL 4 t_api_Hop p0), (9, cI (List.length p0 : Int)), (10, cI a18)]) (fun v25 => []) ?_ ?_
   · rintro v25 hF
     refine wB rfl ?_; exact cont_0 _ _ _ (oi hF) sw
   intro join hF
   refine W_block ?_; refine wE ?_; obtain ⟨y26, hy26, hF⟩ := bB' hF
   refine rS (T_ixT (tc := t_api_Hop) p0 rfl rfl hy26 ?_); refine QV rfl ?_; refine wA rfl ?_; refine wIf' hF rfl (fun _ hF => ?_) fun _ hF => ?_
   · refine wD 2 rfl ?_; obtain ⟨r27, hr27, hF⟩ := bB' hF
     refine rS (T_call (critical_length_fun _ _ hr27) ⟨⟨rfl, rfl, rfl, rfl, trivial⟩, trivial⟩ rfl (.inl rfl) ?_); refine QV rfl ?_; exact join (w64 (a17 + r27)) _ _ hF sw
   refine W_skip ?_; exact join a17 _ _ hF sw
 refine W_exit ?_; refine thenQ_exit ?_; refine thenQ_exit ?_; refine blockQ_hit ?_; exact brk_0 _ _ _ (oi hF) sw
def maps_Keys_map_int_int_int_int_k1 (p0 : (List (Int × Int))) : Option Unit := some ()
theorem maps_Keys_map_int_int_int_int_k1_fun (p0 : (List (Int × Int))) (r : Unit) (hF : maps_Keys_map_int_int_int_int_k1 p0 = some r) : Fun Tryz.prog 29 false [(2160,0)] [.c (.mapO (2160,0))] (heapOf [((2160,0), mapOb (.int .i64) (fun n : Int => .int .i64 n) (fun y : Int => (.one (tI y) : MT)) p0)]) (.c (.fn 42 [.ptr (902,1160)])) (heapOf [((2160,0), mapOb (.int .i64) (fun n : Int => .int .i64 n) (fun y : Int => (.one (tI y) : MT)) p0), ((902,1160), .box [.mapO (2160,0)])]) := mkeys_fun p0 (2160,0) (902,1160) (by decide)
def slices_SortedFunc_int_k1 (p0_0 : (List (Int × Int))) : Option (List Int) := bif keysB p0_0 then some (sortI (p0_0.map (·.1))) else none
theorem slices_SortedFunc_int_k1_fun (p0_0 : (List (Int × Int))) (r : (List Int)) (hF : slices_SortedFunc_int_k1 p0_0 = some r) : Fun Tryz.prog 28 false [(2120,0), (2121,0)] [.c (.fn 42 [.ptr (2120,0)]), .c (.fn 30 [])] (heapOf [((2120,0), .box [.mapO (2121,0)]), ((2121,0), mapOb (.int .i64) kvI (fun y : Int => (.one (tI y) : MT)) p0_0)]) (cO (902,1120)) (heapOf [((2120,0), .box [.mapO (2121,0)]), ((2121,0), mapOb (.int .i64) kvI (fun y : Int => (.one (tI y) : MT)) p0_0), ((902,1120), .arr 3 1 (List.map t_i64 r))]) := by
 obtain ⟨h, hF⟩ := roomT hF
 cases hF
 exact skeys_fun p0_0 (of_decide_eq_true h) (2120,0) (2121,0) (902,1120) (by decide) (by decide) (by decide)
def critical_Shares_L1 (e24 : (List (Int × Int))) (r26 : (List Int)) : ((List T46_2_int) × Int) → Option (((List T46_2_int) × Int) ⊕ (List T46_2_int)) := fun (a39, a40) =>
  (bif (decide (a40 < (List.length r26 : Int))) then ((idx r26 a40).bind fun y45 => (bif room 16 (List.length a39 + List.length [({ a0 := y45, a1 := (Option.getD (mget y45 e24) 0) } : T46_2_int)]) then some (.inl ((a39 ++ [({ a0 := y45, a1 := (Option.getD (mget y45 e24) 0) } : T46_2_int)]), (w64 (a40 + 1)))) else none)) else some (.inr a39))
def critical_Shares_L2 (p0 : (List api_Hop)) : ((List (Int × Int)) × Int) → Option (((List (Int × Int)) × Int) ⊕ (List (Int × Int))) := fun (a17, a18) =>
  (bif (decide (a18 < (List.length p0 : Int))) then ((((idx p0 a18).bind fun y49 => ((critical_length y49).bind fun r50 => (bif (decide (0 < r50)) then some (mput y49.fThread (w64 ((Option.getD (mget y49.fThread a17) 0) + r50)) a17) else some a17))) : Option (List (Int × Int))).bind fun v48 => some (.inl (v48, (w64 (a18 + 1))))) else some (.inr a17))
def critical_Shares (p0 : (List api_Hop)) : Option (List T46_2_int) :=
  ((loop (critical_Shares_L2 p0) ([], 0)).bind fun e24 => ((maps_Keys_map_int_int_int_int_k1 e24).bind fun r25 => ((slices_SortedFunc_int_k1 e24).bind fun r26 => ((loop (critical_Shares_L1 e24 r26) ([], 0)).bind fun e44 => some e44))))
theorem critical_Shares_fun (p0 : (List api_Hop)) (r : (List T46_2_int)) (hF : critical_Shares p0 = some r) : Fun Tryz.prog 11 false [] [cL 4 t_api_Hop p0] (heapOf []) (cO (902,440)) (heapOf [((902,440), .arr 46 2 (List.map t_T46_2_int r))]) := by
 refine Fun.of_walkM [] (some []) Tryz.func11 c11 (by kernel_rfl) (rs := [.tmp 2]) (by kernel_rfl) rfl rfl rfl ?_; unfold v11
 unfold critical_Shares at hF
 refine wA rfl ?_; refine wE ?_; refine rS (T_mkmap (kd := (.int .i64)) (kv := kvI) (vv := (fun y : Int => (.one (tI y) : MT))) rfl ?_)
 refine QV rfl ?_; refine W_seq ?_; refine wC 1 rfl ?_; refine rS (T_len (tc := t_api_Hop) p0 .tree ?_); refine QV rfl ?_; refine W_for (fun _ _ h => h) hF (id) (fun (a17, a18) => [(3, cM (10,0)), (11, cL 4 t_api_Hop p0), (12, cI (List.length p0 : Int)), (13, cI a18)]) (fun (a17, a18) => [((10,0), mapOb (.int .i64) kvI (fun y : Int => (.one (tI y) : MT)) a17)]) (fun e24 => [(3, cM (10,0))]) (fun e24 => [((10,0), mapOb (.int .i64) kvI (fun y : Int => (.one (tI y) : MT)) e24)]) sw ?_ ?_
 · rintro e24 hF
   refine wA rfl ?_; refine W_seq ?_; refine wC 1 rfl ?_; obtain ⟨r25, hr25, hF⟩ := bB hF
   refine R_stepX trivial (X_callG [((2160,0),(10,0)), ((902,1160),(29,1))] rfl (callN _) (maps_Keys_map_int_int_int_int_k1_fun _ _ hr25) ⟨rfl, trivial⟩ ⟨.inl rfl, trivial⟩ rfl rfl rfl ?_); obtain ⟨r26, hr26, hF⟩ := bB hF
   refine R_stepX trivial (X_callG [((2120,0),(29,1)), ((2121,0),(10,0)), ((902,1120),(30,1))] rfl (callN _) (slices_SortedFunc_int_k1_fun _ _ hr26) ⟨rfl, rfl, trivial⟩ ⟨.inl rfl, .inl rfl, trivial⟩ rfl rfl rfl ?_)
   refine rS (T_len (tc := t_i64) r26 (.own _ _ rfl) ?_); refine QV rfl ?_; refine W_for (fun _ _ h => h) hF (id) (fun (a39, a40) => [(3, cM (10,0)), (7, cO (43,1)), (30, cO (30,1)), (31, cI (List.length r26 : Int)), (32, cI a40)]) (fun (a39, a40) => [((10,0), mapOb (.int .i64) kvI (fun y : Int => (.one (tI y) : MT)) e24), ((43,1), .arr 46 2 (List.map t_T46_2_int a39)), ((30,1), .arr 3 1 (List.map t_i64 r26))]) (fun e44 => [(7, cO (43,1))]) (fun e44 => [((43,1), .arr 46 2 (List.map t_T46_2_int e44))]) (S_own 7 (43,1) 46 2 rfl rfl rfl rfl sw) ?_ ?_
   · rintro e44 hF
     refine wA rfl ?_; cases hF
     exact W_ret ⟨_, _, (S_ren (43,1) (902,440) rfl rfl S_refl), _, rfl, rfl, rfl, (AgM.weak ⟨rfl, trivial⟩)⟩
   rintro ⟨a39, a40⟩ x_0 hF cont_0 brk_0 fin_0
   unfold critical_Shares_L1 at hF
   refine wA rfl ?_; refine W_seq ?_; refine wIf hF rfl (fun _ hF => ?_) fun _ hF => ?_
   · refine W_skip ?_; refine W_seq ?_; refine W_block ?_; refine wE ?_; obtain ⟨y45, hy45, hF⟩ := bB hF
     refine rS (T_ixO (tc := t_i64) r26 rfl rfl rfl hy45 ?_); refine rS (T_ldE (tc := t_i64) r26 rfl rfl (idx_get hy45).2.1 rfl ?_); refine QV rfl ?_; refine wD 4 rfl ?_; refine rS (T_look (keyI .i64) (vv := (fun y : Int => (.one (tI y) : MT))) e24 y45 0 (.own _ rfl) rfl rfl ?_)
     refine Q_run SV 1 rfl ?_; refine rS (T_bsl (tc := t_T46_2_int) [({ a0 := y45, a1 := (Option.getD (mget y45 e24) 0) } : T46_2_int)] rfl ⟨rfl, rfl, trivial⟩ rfl (fun _ => rfl) rfl ?_)
     obtain ⟨h46, hF⟩ := roomT hF
     refine rS (T_appO (tc := t_T46_2_int) a39 [({ a0 := y45, a1 := (Option.getD (mget y45 e24) 0) } : T46_2_int)] rfl rfl (.own _ _ rfl) h46 rfl ?_); refine QV rfl ?_; refine wB rfl ?_; exact cont_0 _ _ _ (oi hF) (S_ren (43,0) (43,1) rfl rfl sw)
   refine W_exit ?_; refine thenQ_exit ?_; refine thenQ_exit ?_; refine blockQ_hit ?_; exact brk_0 _ _ _ (oi hF) sw
 rintro ⟨a17, a18⟩ x_0 hF cont_0 brk_0 fin_0
 unfold critical_Shares_L2 at hF
 refine wA rfl ?_; refine W_seq ?_; refine wIf hF rfl (fun _ hF => ?_) fun _ hF => ?_
 · refine W_skip ?_; refine W_seq ?_; refine W_join (fun _ _ h => h) hF (fun v48 => [(3, cM (10,0)), (11, cL 4 t_api_Hop p0), (12, cI (List.length p0 : Int)), (13, cI a18)]) (fun v48 => [((10,0), mapOb (.int .i64) kvI (fun y : Int => (.one (tI y) : MT)) v48)]) ?_ ?_
   · rintro v48 hF
     refine wB rfl ?_; exact cont_0 _ _ _ (oi hF) sw
   intro join hF
   refine W_block ?_; refine wE ?_; obtain ⟨y49, hy49, hF⟩ := bB' hF
   refine rS (T_ixT (tc := t_api_Hop) p0 rfl rfl hy49 ?_); refine QV rfl ?_; refine wC 1 rfl ?_; obtain ⟨r50, hr50, hF⟩ := bB' hF
   refine rS (T_call (critical_length_fun _ _ hr50) ⟨⟨rfl, rfl, rfl, rfl, trivial⟩, trivial⟩ rfl (.inl rfl) ?_); refine QV rfl ?_; refine wA rfl ?_; refine wIf' hF rfl (fun _ hF => ?_) fun _ hF => ?_
   · refine wD 3 rfl ?_; refine rS (T_look (keyI .i64) (vv := (fun y : Int => (.one (tI y) : MT))) a17 y49.fThread 0 (.own _ rfl) rfl rfl ?_)
     refine Q_run SV 2 rfl ?_; refine rS (T_mupd (keyI .i64) (vv := (fun y : Int => (.one (tI y) : MT))) a17 y49.fThread (w64 ((Option.getD (mget y49.fThread a17) 0) + r50)) rfl rfl rfl rfl ?_)
     refine QV rfl ?_; exact join (mput y49.fThread (w64 ((Option.getD (mget y49.fThread a17) 0) + r50)) a17) _ _ hF sw
   refine W_skip ?_; exact join a17 _ _ hF sw
 refine W_exit ?_; refine thenQ_exit ?_; refine thenQ_exit ?_; refine blockQ_hit ?_; exact brk_0 _ _ _ (oi hF) sw
def tracebooklaw48_CriticalCovers_L1 (r46 : (List T46_2_int)) : (Int × Int) → Option ((Int × Int) ⊕ Int) := fun (a57, a58) =>
  (bif (decide (a58 < (List.length r46 : Int))) then ((idx r46 a58).bind fun y67 => some (.inl ((w64 (a57 + y67.a1)), (w64 (a58 + 1))))) else some (.inr a57))
def tracebooklaw48_CriticalCovers_L2 (r3 : ((List api_Hop) × Int)) : (Int × Int) → Option ((Int × Int) ⊕ Int) := fun (a41, a42) =>
  (bif (decide (a42 ≤ 5)) then ((critical_Total r3.1 a42).bind fun r69 => some (.inl ((w64 (a41 + r69)), (w64 (a42 + 1))))) else some (.inr a41))
def tracebooklaw48_CriticalCovers_L3 (r3 : ((List api_Hop) × Int)) : (Int × Int) → Option ((Int × Int) ⊕ (Int ⊕ Bool)) := fun (a23, a24) =>
  (bif (decide (a24 < (List.length r3.1 : Int))) then ((idx r3.1 a24).bind fun y71 => (((bif (!decide (y71.fSpan.fFrom = a23)) then some true else some (decide (y71.fSpan.fTo ≤ a23))) : Option Bool).bind fun v72 => (bif v72 then some (.inr (.inr false)) else some (.inl (y71.fSpan.fTo, (w64 (a24 + 1))))))) else some (.inr (.inl a23)))
def tracebooklaw48_CriticalCovers (p0 : api_Trace) (p1 : Int) (p2 : api_Span) : Option Bool :=
  ((tracebooklaw48_few p0).bind fun r1 => (bif (!r1) then ((tracebooklaw48_awake ).bind fun r2 => some r2) else ((critical_Path p0 p1 p2).bind fun r3 => (bif (!decide (r3.2 = 0)) then (((bif (decide ((List.length r3.1 : Int) = 0)) then ((tracebooklaw48_awake ).bind fun r6 => some r6) else some false) : Option Bool).bind fun v4 => some v4) else ((loop (tracebooklaw48_CriticalCovers_L3 r3) (p2.fFrom, 0)).bind fun | .inl e30 => ((loop (tracebooklaw48_CriticalCovers_L2 r3) (0, 0)).bind fun e45 => ((critical_Shares r3.1).bind fun r46 => ((loop (tracebooklaw48_CriticalCovers_L1 r46) (0, 0)).bind fun e61 => (((bif (decide (e30 = p2.fTo)) then (bif (decide (e45 = (w64 (p2.fTo - p2.fFrom)))) then (bif (decide (e61 = e45)) then ((tracebooklaw48_awake ).bind fun r66 => some r66) else some false) else some false) else some false) : Option Bool).bind fun v62 => some v62)))) | .inr rv => some rv)))))
theorem tracebooklaw48_CriticalCovers_fun (p0 : api_Trace) (p1 : Int) (p2 : api_Span) (r : Bool) (hF : tracebooklaw48_CriticalCovers p0 p1 p2 = some r) : Fun Tryz.prog 5 true [] [.agg (m_api_Trace p0), cI p1, .agg [jI p2.fFrom, jI p2.fTo]] noHeap (cB r) noHeap := by
 refine Fun.of_walk0 Tryz.func5 c5 (by kernel_rfl) (rs := [.tmp 6]) (by kernel_rfl) ?_; unfold v5
 unfold tracebooklaw48_CriticalCovers at hF
 refine wA rfl ?_; refine W_seq ?_; refine wC 1 rfl ?_; obtain ⟨r1, hr1, hF⟩ := bB hF
 refine rS (T_call (tracebooklaw48_few_fun _ _ hr1) ⟨⟨rfl, rfl, rfl, rfl, rfl, rfl, rfl, rfl, rfl, rfl, trivial⟩, trivial⟩ rfl (.inl rfl) ?_); refine QV rfl ?_; refine wIf hF rfl (fun _ hF => ?_) fun _ hF => ?_
 · refine wE ?_; obtain ⟨r2, hr2, hF⟩ := bB hF
   refine rS (T_call (tracebooklaw48_awake_fun _ hr2) trivial rfl (.inl rfl) ?_); refine QV rfl ?_; cases hF
   exact W_ret wR
 refine W_skip ?_; refine wC 3 rfl ?_; obtain ⟨r3, hr3, hF⟩ := bB hF
 refine R_stepX trivial (X_callG [((902,320),(25,1))] rfl (callN _) (critical_Path_fun _ _ _ _ hr3) trivial ⟨.inr ⟨rfl, rfl, rfl, rfl, rfl, rfl, rfl, rfl, rfl, rfl, trivial⟩, .inl rfl, .inr ⟨rfl, rfl, trivial⟩, trivial⟩ rfl rfl rfl ?_)
 refine QV rfl ?_; refine W_seq ?_; refine wA rfl ?_; refine wIf hF rfl (fun _ hF => ?_) fun _ hF => ?_
 · refine W_seq ?_; refine W_join (fun _ _ h => h) hF (fun v4 => [(6, cB v4)]) (fun v4 => []) ?_ ?_
   · rintro v4 hF
     cases hF
     exact W_ret wR
   intro join hF
   refine wD 1 rfl ?_; refine rS (T_len (tc := t_api_Hop) r3.1 (.own _ _ rfl) ?_); refine Q_run SV 2 rfl ?_; cases h5 : (decide ((List.length r3.1 : Int) = 0))
   · have hF := bF' h5 hF; refine QV rfl ?_; exact join false _ _ hF sw
   have hF := bT' h5 hF; obtain ⟨r6, hr6, hF⟩ := bB' hF
   refine R_step SV rfl (T_call (tracebooklaw48_awake_fun _ hr6) trivial rfl (.inl rfl) ?_); refine QV rfl ?_; exact join r6 _ _ hF sw
 refine W_skip ?_; refine wA rfl ?_; refine W_seq ?_; refine wC 1 rfl ?_; refine rS (T_len (tc := t_api_Hop) r3.1 (.own _ _ rfl) ?_); refine QV rfl ?_; refine W_for (fun _ _ h => h) hF (.inl) (fun (a23, a24) => [(5, cP (5,0) 0), (7, cO (25,1)), (9, cI a23), (10, cI 0), (11, cI 0), (38, cO (25,1)), (39, cI (List.length r3.1 : Int)), (40, cI a24)]) (fun (a23, a24) => [((5,0), .box [jI p2.fFrom, jI p2.fTo]), ((25,1), .arr 49 4 (List.map t_api_Hop r3.1))]) (fun e30 => [(5, cP (5,0) 0), (7, cO (25,1)), (9, cI e30), (10, cI 0), (11, cI 0)]) (fun e30 => [((5,0), .box [jI p2.fFrom, jI p2.fTo]), ((25,1), .arr 49 4 (List.map t_api_Hop r3.1))]) sw ?_ ?_
 · rintro e30 hF
   refine W_seq ?_; refine wA rfl ?_; refine W_for (fun _ _ h => h) hF (id) (fun (a41, a42) => [(5, cP (5,0) 0), (7, cO (25,1)), (9, cI e30), (10, cI a41), (11, cI 0), (14, cI a42)]) (fun (a41, a42) => [((5,0), .box [jI p2.fFrom, jI p2.fTo]), ((25,1), .arr 49 4 (List.map t_api_Hop r3.1))]) (fun e45 => [(5, cP (5,0) 0), (7, cO (25,1)), (9, cI e30), (10, cI e45), (11, cI 0)]) (fun e45 => [((5,0), .box [jI p2.fFrom, jI p2.fTo]), ((25,1), .arr 49 4 (List.map t_api_Hop r3.1))]) sw ?_ ?_
   · rintro e45 hF
     refine W_seq ?_; refine wC 1 rfl ?_; obtain ⟨r46, hr46, hF⟩ := bB hF
     refine R_stepX trivial (X_callL [((902,440),(70,1))] rfl (callN _) (critical_Shares_fun _ _ hr46) trivial ⟨.inr ⟨_, rfl⟩, trivial⟩ rfl rfl rfl rfl ⟨(flatArr fun _ => rfl), trivial⟩ ?_)
     refine rS (T_len (tc := t_T46_2_int) r46 (.own _ _ rfl) ?_); refine QV rfl ?_; refine W_for (fun _ _ h => h) hF (id) (fun (a57, a58) => [(5, cP (5,0) 0), (9, cI e30), (10, cI e45), (11, cI a57), (70, cO (70,1)), (71, cI (List.length r46 : Int)), (72, cI a58)]) (fun (a57, a58) => [((5,0), .box [jI p2.fFrom, jI p2.fTo]), ((70,1), .arr 46 2 (List.map t_T46_2_int r46))]) (fun e61 => [(5, cP (5,0) 0), (9, cI e30), (10, cI e45), (11, cI e61)]) (fun e61 => [((5,0), .box [jI p2.fFrom, jI p2.fTo])]) sw ?_ ?_
     · rintro e61 hF
       refine W_seq ?_; refine W_join (fun _ _ h => h) hF (fun v62 => [(6, cB v62)]) (fun v62 => []) ?_ ?_
       · rintro v62 hF
         cases hF
         exact W_ret wR
       intro join hF
       refine wD 5 rfl ?_; cases h63 : (decide (e30 = p2.fTo))
       · have hF := bF' h63 hF; refine QV rfl ?_; exact join false _ _ hF sw
       have hF := bT' h63 hF; refine Q_run SV 9 rfl ?_; cases h64 : (decide (e45 = (w64 (p2.fTo - p2.fFrom))))
       · have hF := bF' h64 hF; refine QV rfl ?_; exact join false _ _ hF sw
       have hF := bT' h64 hF; refine Q_run SV 5 rfl ?_; cases h65 : (decide (e61 = e45))
       · have hF := bF' h65 hF; refine QV rfl ?_; exact join false _ _ hF sw
       have hF := bT' h65 hF; obtain ⟨r66, hr66, hF⟩ := bB' hF
       refine R_step SV rfl (T_call (tracebooklaw48_awake_fun _ hr66) trivial rfl (.inl rfl) ?_); refine QV rfl ?_; exact join r66 _ _ hF sw
     rintro ⟨a57, a58⟩ x_0 hF cont_0 brk_0 fin_0
     unfold tracebooklaw48_CriticalCovers_L1 at hF
     refine wA rfl ?_; refine W_seq ?_; refine wIf hF rfl (fun _ hF => ?_) fun _ hF => ?_
     · refine W_skip ?_; refine W_seq ?_; refine W_block ?_; refine wE ?_; obtain ⟨y67, hy67, hF⟩ := bB hF
       refine rS (T_ixO (tc := t_T46_2_int) r46 rfl rfl rfl hy67 ?_); refine rS (T_ldE (tc := t_T46_2_int) r46 rfl rfl (idx_get hy67).2.1 rfl ?_); refine QV rfl ?_; refine wD 1 rfl ?_; refine rS (T_ixAA (j := 1) (r := cP (16,0) 1) rfl (by decide) rfl ?_)
       refine QV rfl ?_; refine wB rfl ?_; exact cont_0 _ _ _ (oi hF) sw
     refine W_exit ?_; refine thenQ_exit ?_; refine thenQ_exit ?_; refine blockQ_hit ?_; exact brk_0 _ _ _ (oi hF) sw
   rintro ⟨a41, a42⟩ x_0 hF cont_0 brk_0 fin_0
   unfold tracebooklaw48_CriticalCovers_L2 at hF
   refine W_seq ?_; refine wA rfl ?_; refine wIf hF rfl (fun _ hF => ?_) fun _ hF => ?_
   · refine W_skip ?_; refine W_seq ?_; refine W_block ?_; refine wD 3 rfl ?_; obtain ⟨r69, hr69, hF⟩ := bB hF
     refine rS (T_call (critical_Total_fun _ _ _ hr69) ⟨⟨_, rfl⟩, rfl, trivial⟩ rfl (.inl rfl) ?_); refine QV rfl ?_; refine wB rfl ?_; exact cont_0 _ _ _ (oi hF) sw
   refine W_exit ?_; refine thenQ_exit ?_; refine thenQ_exit ?_; refine blockQ_hit ?_; exact brk_0 _ _ _ (oi hF) sw
 rintro ⟨a23, a24⟩ x_0 hF cont_0 brk_0 fin_0
 unfold tracebooklaw48_CriticalCovers_L3 at hF
 refine wA rfl ?_; refine W_seq ?_; refine wIf hF rfl (fun _ hF => ?_) fun _ hF => ?_
 · refine W_skip ?_; refine W_seq ?_; refine W_block ?_; refine wE ?_; obtain ⟨y71, hy71, hF⟩ := bB hF
   refine rS (T_ixO (tc := t_api_Hop) r3.1 rfl rfl rfl hy71 ?_); refine rS (T_ldE (tc := t_api_Hop) r3.1 rfl rfl (idx_get hy71).2.1 rfl ?_); refine QV rfl ?_; refine W_seq ?_; refine W_seq ?_; refine W_join (fun _ _ h => h) hF (fun v72 => [(5, cP (5,0) 0), (7, cO (25,1)), (10, cI 0), (11, cI 0), (13, cP (13,0) 0), (38, cO (25,1)), (39, cI (List.length r3.1 : Int)), (40, cI a24), (55, cB v72)]) (fun v72 => [((5,0), .box [jI p2.fFrom, jI p2.fTo]), ((25,1), .arr 49 4 (List.map t_api_Hop r3.1)), ((13,0), .box (m_api_Hop y71))]) ?_ ?_
   · rintro v72 hF
     refine wIf hF rfl (fun _ hF => ?_) fun _ hF => ?_
     · refine wA rfl ?_; have hF := fin_0 _ (oi hF); cases hF
       exact W_ret wR
     refine W_skip ?_; refine wB rfl ?_; refine wB rfl ?_; exact cont_0 _ _ _ (oi hF) sw
   intro join hF
   refine wD 6 rfl ?_; cases h74 : (!decide (y71.fSpan.fFrom = a23))
   · have hF := bF' h74 hF; refine QV rfl ?_; exact join (decide (y71.fSpan.fTo ≤ a23)) _ _ hF sw
   have hF := bT' h74 hF; refine QV rfl ?_; exact join true _ _ hF sw
 refine W_exit ?_; refine thenQ_exit ?_; refine thenQ_exit ?_; refine blockQ_hit ?_; exact brk_0 _ _ _ (oi hF) sw
end Go.VM
