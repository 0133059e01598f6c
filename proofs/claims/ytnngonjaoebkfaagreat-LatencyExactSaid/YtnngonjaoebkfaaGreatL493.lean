/- What the functions of the law compute, each with its proof. -/
import Derived.Test.YtnngonjaoebkfaaGreatL492
import Derived.Test.YtnngonjaoebkfaaGreatRows
import Derived.KernelRfl
import Derived.Lib.Bytealg
import Derived.Laws.Externs
import Derived.WalkKit
namespace Go.VM
open Go.Proofs Go.Proofs.YtnngonjaoebkfaaGreat
open Go.RowKit
set_option maxRecDepth 100000
set_option maxHeartbeats 4000000
theorem tracebookref49_All_fun (p0 : api_Trace) (r : ((List Int) × Int)) (hF : tracebookref49_All p0 = some r) : Fun Tryz.prog 14 false [] [.agg (m_api_Trace p0)] (heapOf []) (.tup [cO (902,560), cI r.2]) (heapOf [((902,560), .arr 3 1 (List.map t_i64 r.1))]) := by
 refine Fun.of_walkM [] (some []) Tryz.func14 c14 (by kernel_rfl) (rs := [.tmp 2, .tmp 3]) (by kernel_rfl) rfl rfl rfl ?_; unfold v14
 unfold tracebookref49_All at hF
 refine wA rfl ?_; refine wC 1 rfl ?_; obtain ⟨r1, hr1, hF⟩ := bB hF
 refine rS (T_call (tracebookref32_Check_fun _ _ hr1) ⟨⟨rfl, rfl, rfl, rfl, rfl, rfl, rfl, rfl, rfl, rfl, trivial⟩, trivial⟩ rfl (.inl rfl) ?_); refine QV rfl ?_; refine W_seq ?_; refine wA rfl ?_; refine wIf hF rfl (fun _ hF => ?_) fun _ hF => ?_
 · refine wA rfl ?_; cases hF
   exact W_ret ⟨_, _, (S_own 2 (902,560) 3 1 rfl rfl rfl rfl S_refl), _, rfl, rfl, ⟨rfl, ⟨rfl, fun _ => rfl⟩, trivial⟩, (AgM.weak ⟨rfl, trivial⟩)⟩
 refine W_skip ?_; refine wA rfl ?_; refine wC 2 rfl ?_; obtain ⟨r2, hr2, hF⟩ := bB hF
 refine R_stepX trivial (X_callG [((902,1320),(15,1))] rfl (callN _) (tracebookref49_waits_fun _ _ hr2) trivial ⟨.inl rfl, trivial⟩ rfl rfl rfl ?_); refine QV rfl ?_; refine W_seq ?_; refine wA rfl ?_; refine W_for (fun _ _ h => h) hF (id) (fun (a17, a18) => [(5, cO (28,1)), (6, cO (15,1)), (7, cI a18)]) (fun (a17, a18) => [((28,1), .arr 3 1 (List.map t_i64 a17)), ((15,1), .arr 55 7 (List.map t_api_State r2))]) (fun e23 => [(5, cO (28,1))]) (fun e23 => [((28,1), .arr 3 1 (List.map t_i64 e23))]) (S_own 5 (28,1) 3 1 rfl rfl rfl rfl sw) ?_ ?_
 · rintro e23 hF
   refine wA rfl ?_; cases hF
   exact W_ret ⟨_, _, (S_ren (28,1) (902,560) rfl rfl S_refl), _, rfl, rfl, ⟨rfl, ⟨rfl, fun _ => rfl⟩, trivial⟩, (AgM.weak ⟨rfl, trivial⟩)⟩
 rintro ⟨a17, a18⟩ x_0 hF cont_0 brk_0 fin_0
 unfold tracebookref49_All_L1 at hF
 refine W_seq ?_; refine wC 2 rfl ?_; refine rS (T_len (tc := t_api_State) r2 (.own _ _ rfl) ?_); refine QV rfl ?_; refine wIf hF rfl (fun _ hF => ?_) fun _ hF => ?_
 · refine W_skip ?_; refine W_seq ?_; refine W_block ?_; refine wD 3 rfl ?_; obtain ⟨y24, hy24, hF⟩ := bB hF
   refine rS (T_ixO (tc := t_api_State) r2 rfl rfl rfl hy24 ?_); refine rS (T_ldE (tc := t_api_State) r2 rfl rfl (idx_get hy24).2.1 rfl ?_); obtain ⟨r25, hr25, hF⟩ := bB hF
   refine rS (T_call (tracebookref49_length_fun _ _ hr25) ⟨⟨rfl, rfl, rfl, rfl, rfl, rfl, rfl, trivial⟩, trivial⟩ rfl (.inl rfl) ?_); obtain ⟨r26, hr26, hF⟩ := bB hF
   refine R_stepX trivial (X_callL [((902,1440),(28,2))] rfl (callN _) (tracebookref49_insert_fun _ _ _ hr26) trivial ⟨.inr ⟨_, rfl⟩, .inr rfl, trivial⟩ rfl rfl rfl rfl ⟨(flatArr fun _ => rfl), trivial⟩ ?_)
   refine QV rfl ?_; refine wB rfl ?_; exact cont_0 _ _ _ (oi hF) (S_ren (28,2) (28,1) rfl rfl sw)
 refine W_exit ?_; refine thenQ_exit ?_; refine thenQ_exit ?_; refine blockQ_hit ?_; exact brk_0 _ _ _ (oi hF) sw
def tracebookref49_Worst_L1 (r2 : (List api_State)) (a59 : (List api_State)) (a60 : Int) : Int → Option (Int ⊕ Int) := fun a120 =>
  (((bif (decide (0 < a120)) then ((idx a59 (w64 (a120 - 1))).bind fun y138 => ((tracebookref49_length y138).bind fun r139 => ((idx r2 a60).bind fun y140 => ((tracebookref49_length y140).bind fun r141 => some (decide (r139 < r141)))))) else some false) : Option Bool).bind fun v135 => (bif v135 then some (.inl (w64 (a120 - 1))) else some (.inr a120)))
def tracebookref49_Worst_L2 (r2 : (List api_State)) : ((List api_State) × Int) → Option (((List api_State) × Int) ⊕ (List api_State)) := fun (a59, a60) =>
  (bif (decide (a60 < (List.length r2 : Int))) then ((loop (tracebookref49_Worst_L1 r2 a59 a60) (List.length a59 : Int)).bind fun e128 => ((slcPart a59 0 e128).bind fun y129 => (bif room 56 (List.length ([] : List api_State) + List.length y129) then ((idx r2 a60).bind fun y131 => (bif room 56 (List.length ([] ++ y129) + List.length [y131]) then ((slcPart a59 e128 (List.length a59 : Int)).bind fun y133 => (bif room 56 (List.length (([] ++ y129) ++ [y131]) + List.length y133) then some (.inl (((([] ++ y129) ++ [y131]) ++ y133), (w64 (a60 + 1)))) else none)) else none)) else none))) else some (.inr a59))
def tracebookref49_Worst (p0 : api_Trace) (p1 : Int) : Option ((List api_State) × Int) :=
  ((tracebookref32_Check p0).bind fun r1 => (bif (!decide (r1 = 0)) then some ([], r1) else (bif (decide (p1 < 0)) then some ([], 2) else ((tracebookref49_waits p0.fStates).bind fun r2 => ((loop (tracebookref49_Worst_L2 r2) ([], 0)).bind fun e101 => ((slcPart e101 0 (min p1 (List.length e101 : Int))).bind fun y102 => some (y102, 0)))))))
theorem tracebookref49_Worst_fun (p0 : api_Trace) (p1 : Int) (r : ((List api_State) × Int)) (hF : tracebookref49_Worst p0 p1 = some r) : Fun Tryz.prog 16 false [] [.agg (m_api_Trace p0), cI p1] (heapOf []) (.tup [cO (902,640), cI r.2]) (heapOf [((902,640), .arr 55 7 (List.map t_api_State r.1))]) := by
 refine Fun.of_walkM [] (some []) Tryz.func16 c16 (by kernel_rfl) (rs := [.tmp 4, .tmp 5]) (by kernel_rfl) rfl rfl rfl ?_; unfold v16
 unfold tracebookref49_Worst at hF
 refine wA rfl ?_; refine wC 1 rfl ?_; obtain ⟨r1, hr1, hF⟩ := bB hF
 refine rS (T_call (tracebookref32_Check_fun _ _ hr1) ⟨⟨rfl, rfl, rfl, rfl, rfl, rfl, rfl, rfl, rfl, rfl, trivial⟩, trivial⟩ rfl (.inl rfl) ?_); refine QV rfl ?_; refine W_seq ?_; refine wA rfl ?_; refine wIf hF rfl (fun _ hF => ?_) fun _ hF => ?_
 · refine wA rfl ?_; cases hF
   exact W_ret ⟨_, _, (S_own 4 (902,640) 55 7 rfl rfl rfl rfl S_refl), _, rfl, rfl, ⟨rfl, ⟨rfl, fun _ => rfl⟩, trivial⟩, (AgM.weak ⟨rfl, trivial⟩)⟩
 refine W_skip ?_; refine W_seq ?_; refine wA rfl ?_; refine wIf hF rfl (fun _ hF => ?_) fun _ hF => ?_
 · refine wA rfl ?_; cases hF
   exact W_ret ⟨_, _, (S_own 4 (902,640) 55 7 rfl rfl rfl rfl S_refl), _, rfl, rfl, ⟨rfl, ⟨rfl, fun _ => rfl⟩, trivial⟩, (AgM.weak ⟨rfl, trivial⟩)⟩
 refine W_skip ?_; refine wA rfl ?_; refine wC 2 rfl ?_; obtain ⟨r2, hr2, hF⟩ := bB hF
 refine R_stepX trivial (X_callG [((902,1320),(21,1))] rfl (callN _) (tracebookref49_waits_fun _ _ hr2) trivial ⟨.inl rfl, trivial⟩ rfl rfl rfl ?_); refine QV rfl ?_; refine W_seq ?_; refine wA rfl ?_; refine W_for (fun _ _ h => h) hF (id) (fun (a59, a60) => [(1, cI p1), (7, cO (64,1)), (8, cO (21,1)), (9, cI a60)]) (fun (a59, a60) => [((64,1), .arr 55 7 (List.map t_api_State a59)), ((21,1), .arr 55 7 (List.map t_api_State r2))]) (fun e101 => [(1, cI p1), (7, cO (64,1))]) (fun e101 => [((64,1), .arr 55 7 (List.map t_api_State e101))]) (S_own 7 (64,1) 55 7 rfl rfl rfl rfl sw) ?_ ?_
 · rintro e101 hF
   refine wC 3 rfl ?_; refine rS (T_len (tc := t_api_State) e101 (.own _ _ rfl) ?_); refine Q_run SV 1 rfl ?_; obtain ⟨y102, hy102, hF⟩ := bB hF
   refine R_stepX trivial (X_subO (tc := t_api_State) e101 rfl rfl rfl hy102 rfl ?_); refine QV rfl ?_; cases hF
   exact W_ret ⟨_, _, (S_ren (70,0) (902,640) rfl rfl S_refl), _, rfl, rfl, ⟨rfl, ⟨rfl, fun _ => rfl⟩, trivial⟩, (AgM.weak ⟨rfl, trivial⟩)⟩
 rintro ⟨a59, a60⟩ x_0 hF cont_0 brk_0 fin_0
 unfold tracebookref49_Worst_L2 at hF
 refine W_seq ?_; refine wC 2 rfl ?_; refine rS (T_len (tc := t_api_State) r2 (.own _ _ rfl) ?_); refine QV rfl ?_; refine wIf hF rfl (fun _ hF => ?_) fun _ hF => ?_
 · refine W_skip ?_; refine W_seq ?_; refine W_block ?_; refine wC 1 rfl ?_; refine rS (T_len (tc := t_api_State) a59 (.own _ _ rfl) ?_); refine QV rfl ?_; refine W_seq ?_; refine W_for (fun _ _ h => h) hF (id) (fun a120 => [(1, cI p1), (7, cO (64,1)), (8, cO (21,1)), (9, cI a60), (10, cI a120)]) (fun a120 => [((64,1), .arr 55 7 (List.map t_api_State a59)), ((21,1), .arr 55 7 (List.map t_api_State r2))]) (fun e128 => [(1, cI p1), (7, cO (64,1)), (8, cO (21,1)), (9, cI a60), (10, cI e128)]) (fun e128 => [((64,1), .arr 55 7 (List.map t_api_State a59)), ((21,1), .arr 55 7 (List.map t_api_State r2))]) sw ?_ ?_
   · rintro e128 hF
     refine wE ?_; refine rS (T_bsl (tc := t_api_State) [] rfl trivial rfl (fun _ => rfl) rfl ?_)
     refine Q_run SV 2 rfl ?_; obtain ⟨y129, hy129, hF⟩ := bB hF
     refine R_shift trivial (S_frz (64,1) rfl rfl S_refl) (.inl (T_sub (tc := t_api_State) a59 rfl rfl rfl hy129 ?_)); obtain ⟨h130, hF⟩ := roomT hF
     refine rS (T_appO (tc := t_api_State) [] y129 rfl rfl .tree h130 rfl ?_); refine QV rfl ?_; refine wC 3 rfl ?_; obtain ⟨y131, hy131, hF⟩ := bB hF
     refine rS (T_ixO (tc := t_api_State) r2 rfl rfl rfl hy131 ?_); refine rS (T_ldE (tc := t_api_State) r2 rfl rfl (idx_get hy131).2.1 rfl ?_); refine rS (T_bsl (tc := t_api_State) [y131] rfl ⟨rfl, rfl, rfl, rfl, rfl, rfl, rfl, trivial⟩ rfl (fun _ => rfl) rfl ?_)
     obtain ⟨h132, hF⟩ := roomT hF
     refine rS (T_appO (tc := t_api_State) ([] ++ y129) [y131] rfl rfl (.own _ _ rfl) h132 rfl ?_); refine QV rfl ?_; refine wD 3 rfl ?_; obtain ⟨y133, hy133, hF⟩ := bB hF
     refine rS (T_sub (tc := t_api_State) a59 rfl rfl rfl hy133 ?_); obtain ⟨h134, hF⟩ := roomT hF
     refine rS (T_appO (tc := t_api_State) (([] ++ y129) ++ [y131]) y133 rfl rfl .tree h134 rfl ?_); refine QV rfl ?_; refine wB rfl ?_; exact cont_0 _ _ _ (oi hF) (S_ren (64,0) (64,1) rfl rfl sw)
   rintro a120 x_1 hF cont_1 brk_1 fin_1
   unfold tracebookref49_Worst_L1 at hF
   refine W_seq ?_; refine W_seq ?_; refine W_join (fun _ _ h => h) hF (fun v135 => [(1, cI p1), (7, cO (64,1)), (8, cO (21,1)), (9, cI a60), (10, cI a120), (45, cB v135)]) (fun v135 => [((64,1), .arr 55 7 (List.map t_api_State a59)), ((21,1), .arr 55 7 (List.map t_api_State r2))]) ?_ ?_
   · rintro v135 hF
     refine wIf hF rfl (fun _ hF => ?_) fun _ hF => ?_
     · refine W_skip ?_; refine W_block ?_; refine wB rfl ?_; exact cont_1 _ _ _ (oi hF) sw
     refine W_exit ?_; refine thenQ_exit ?_; refine thenQ_exit ?_; refine blockQ_hit ?_; exact brk_1 _ _ _ (oi hF) sw
   intro join hF
   refine W_regD (by decide) (by kernel_rfl) rfl ?_; refine Q_run SP 3 rfl ?_; cases h137 : (decide (0 < a120))
   · have hF := bF' h137 hF; refine QP rfl ?_; exact join false _ _ hF sw
   have hF := bT' h137 hF; refine Q_run SP 3 rfl ?_; obtain ⟨y138, hy138, hF⟩ := bB' hF
   refine R_step SP rfl (T_ixO (tc := t_api_State) a59 rfl rfl rfl hy138 ?_); refine R_step SP rfl (T_ldE (tc := t_api_State) a59 rfl rfl (idx_get hy138).2.1 rfl ?_); obtain ⟨r139, hr139, hF⟩ := bB' hF
   refine R_step SP rfl (T_call (tracebookref49_length_fun _ _ hr139) ⟨⟨rfl, rfl, rfl, rfl, rfl, rfl, rfl, trivial⟩, trivial⟩ rfl (.inl rfl) ?_); refine Q_run SP 2 rfl ?_; obtain ⟨y140, hy140, hF⟩ := bB' hF
   refine R_step SP rfl (T_ixO (tc := t_api_State) r2 rfl rfl rfl hy140 ?_); refine R_step SP rfl (T_ldE (tc := t_api_State) r2 rfl rfl (idx_get hy140).2.1 rfl ?_); obtain ⟨r141, hr141, hF⟩ := bB' hF
   refine R_step SP rfl (T_call (tracebookref49_length_fun _ _ hr141) ⟨⟨rfl, rfl, rfl, rfl, rfl, rfl, rfl, trivial⟩, trivial⟩ rfl (.inl rfl) ?_); refine QP rfl ?_; exact join (decide (r139 < r141)) _ _ hF sw
 refine W_exit ?_; refine thenQ_exit ?_; refine thenQ_exit ?_; refine blockQ_hit ?_; exact brk_0 _ _ _ (oi hF) sw
def tracebookref49_SameStates_L1 (p0 : (List api_State)) (p1 : (List api_State)) : Int → Option (Int ⊕ (Unit ⊕ Bool)) := fun a12 =>
  (bif (decide (a12 < (List.length p0 : Int))) then ((idx p0 a12).bind fun y17 => ((idx p1 a12).bind fun y18 => (bif ((decide (y17.fThread = y18.fThread) && (decide (y17.fState = y18.fState) && (decide (y17.fSpan.fFrom = y18.fSpan.fFrom) && (decide (y17.fSpan.fTo = y18.fSpan.fTo) && (decide (y17.fCpu = y18.fCpu) && (decide (y17.fOn = y18.fOn) && (decide (y17.fBy = y18.fBy) && true))))))) != true) then some (.inr (.inr false)) else some (.inl (w64 (a12 + 1)))))) else some (.inr (.inl ())))
def tracebookref49_SameStates (p0 : (List api_State)) (p1 : (List api_State)) : Option Bool :=
  (bif (!decide ((List.length p0 : Int) = (List.length p1 : Int))) then some false else ((loop (tracebookref49_SameStates_L1 p0 p1) 0).bind fun | .inl _ => some true | .inr rv => some rv))
theorem tracebookref49_SameStates_fun (p0 : (List api_State)) (p1 : (List api_State)) (r : Bool) (hF : tracebookref49_SameStates p0 p1 = some r) : Fun Tryz.prog 18 true [] [cL 7 t_api_State p0, cL 7 t_api_State p1] noHeap (cB r) noHeap := by
 refine Fun.of_walk0 Tryz.func18 c18 (by kernel_rfl) (rs := [.tmp 4]) (by kernel_rfl) ?_; unfold v18
 unfold tracebookref49_SameStates at hF
 refine wA rfl ?_; refine W_seq ?_; refine wC 1 rfl ?_; refine rS (T_len (tc := t_api_State) p0 .tree ?_); refine Q_run SV 1 rfl ?_; refine rS (T_len (tc := t_api_State) p1 .tree ?_); refine QV rfl ?_; refine wIf hF rfl (fun _ hF => ?_) fun _ hF => ?_
 · refine wA rfl ?_; cases hF
   exact W_ret wR
 refine W_skip ?_; refine W_seq ?_; refine wA rfl ?_; refine W_for (fun _ _ h => h) hF (.inl) (fun a12 => [(0, cL 7 t_api_State p0), (1, cL 7 t_api_State p1), (5, cI a12)]) (fun a12 => []) (fun _ => []) (fun _ => []) sw ?_ ?_
 · rintro ⟨⟩ hF
   refine wA rfl ?_; cases hF
   exact W_ret wR
 rintro a12 x_0 hF cont_0 brk_0 fin_0
 unfold tracebookref49_SameStates_L1 at hF
 refine W_seq ?_; refine wC 2 rfl ?_; refine rS (T_len (tc := t_api_State) p0 .tree ?_); refine QV rfl ?_; refine wIf hF rfl (fun _ hF => ?_) fun _ hF => ?_
 · refine W_skip ?_; refine W_seq ?_; refine W_block ?_; refine W_seq ?_; refine W_regD (by decide) (by kernel_rfl) rfl ?_; refine Q_run SP 2 rfl ?_; obtain ⟨y17, hy17, hF⟩ := bB hF
   refine R_step SP trivial (T_ixT (tc := t_api_State) p0 rfl rfl hy17 ?_); refine Q_run SP 3 rfl ?_; obtain ⟨y18, hy18, hF⟩ := bB hF
   refine R_step SP trivial (T_ixT (tc := t_api_State) p1 rfl rfl hy18 ?_); refine Q_run SP 1 rfl ?_; refine R_step SP trivial (T_aeq (b := (decide (y17.fThread = y18.fThread) && (decide (y17.fState = y18.fState) && (decide (y17.fSpan.fFrom = y18.fSpan.fFrom) && (decide (y17.fSpan.fTo = y18.fSpan.fTo) && (decide (y17.fCpu = y18.fCpu) && (decide (y17.fOn = y18.fOn) && (decide (y17.fBy = y18.fBy) && true)))))))) (eqOk_of (n := 7) (sh := [.int .i64, .int .i64, .int .i64, .int .i64, .int .i64, .int .i64, .int .i64]) Tryz.underlying54 (by kernel_rfl) (by kernel_rfl)) rfl rfl rfl rfl ?_)
   refine QP rfl ?_; refine wIf hF rfl (fun _ hF => ?_) fun _ hF => ?_
   · refine wA rfl ?_; have hF := fin_0 _ (oi hF); cases hF
     exact W_ret wR
   refine W_skip ?_; refine wB rfl ?_; exact cont_0 _ _ _ (oi hF) sw
 refine W_exit ?_; refine thenQ_exit ?_; refine thenQ_exit ?_; refine blockQ_hit ?_; exact brk_0 _ _ _ (oi hF) sw
def tracebooklaw49_LatencyExact (p0 : api_Trace) (p1 : Int) (p2 : Int) : Option Bool :=
  ((tracebooklaw49_small p0).bind fun r1 => (bif (!r1) then ((tracebooklaw49_awake ).bind fun r2 => some r2) else ((latency_Of p0 p1).bind fun r3 => ((tracebookref49_Of p0 p1).bind fun r4 => ((latency_All p0).bind fun r5 => ((tracebookref49_All p0).bind fun r6 => ((latency_Worst p0 p2).bind fun r7 => ((tracebookref49_Worst p0 p2).bind fun r8 => ((((tracebookref49_SameInts r3.1 r4.1).bind fun r10 => (bif r10 then (bif (decide (r3.2 = r4.2)) then ((tracebookref49_SameInts r5.1 r6.1).bind fun r13 => (bif r13 then (bif (decide (r5.2 = r6.2)) then ((tracebookref49_SameStates r7.1 r8.1).bind fun r16 => (bif r16 then (bif (decide (r7.2 = r8.2)) then ((tracebooklaw49_awake ).bind fun r19 => some r19) else some false) else some false)) else some false) else some false)) else some false) else some false)) : Option Bool).bind fun v9 => some v9)))))))))
theorem tracebooklaw49_LatencyExact_fun (p0 : api_Trace) (p1 : Int) (p2 : Int) (r : Bool) (hF : tracebooklaw49_LatencyExact p0 p1 p2 = some r) : Fun Tryz.prog 3 true [] [.agg (m_api_Trace p0), cI p1, cI p2] noHeap (cB r) noHeap := by
 refine Fun.of_walk0 Tryz.func3 c3 (by kernel_rfl) (rs := [.tmp 6]) (by kernel_rfl) ?_; unfold v3
 unfold tracebooklaw49_LatencyExact at hF
 refine wA rfl ?_; refine W_seq ?_; refine wC 1 rfl ?_; obtain ⟨r1, hr1, hF⟩ := bB hF
 refine rS (T_call (tracebooklaw49_small_fun _ _ hr1) ⟨⟨rfl, rfl, rfl, rfl, rfl, rfl, rfl, rfl, rfl, rfl, trivial⟩, trivial⟩ rfl (.inl rfl) ?_); refine QV rfl ?_; refine wIf hF rfl (fun _ hF => ?_) fun _ hF => ?_
 · refine wE ?_; obtain ⟨r2, hr2, hF⟩ := bB hF
   refine rS (T_call (tracebooklaw49_awake_fun _ hr2) trivial rfl (.inl rfl) ?_); refine QV rfl ?_; cases hF
   exact W_ret wR
 refine W_skip ?_; refine wC 2 rfl ?_; obtain ⟨r3, hr3, hF⟩ := bB hF
 refine R_stepX trivial (X_callG [((902,440),(26,1))] rfl (callN _) (latency_Of_fun _ _ _ hr3) trivial ⟨.inr ⟨rfl, rfl, rfl, rfl, rfl, rfl, rfl, rfl, rfl, rfl, trivial⟩, .inl rfl, trivial⟩ rfl rfl rfl ?_)
 refine QV rfl ?_; refine wC 2 rfl ?_; obtain ⟨r4, hr4, hF⟩ := bB hF
 refine R_stepX trivial (X_callG [((902,480),(32,1))] rfl (callN _) (tracebookref49_Of_fun _ _ _ hr4) trivial ⟨.inr ⟨rfl, rfl, rfl, rfl, rfl, rfl, rfl, rfl, rfl, rfl, trivial⟩, .inl rfl, trivial⟩ rfl rfl rfl ?_)
 refine QV rfl ?_; refine wC 1 rfl ?_; obtain ⟨r5, hr5, hF⟩ := bB hF
 refine R_stepX trivial (X_callG [((902,520),(37,1))] rfl (callN _) (latency_All_fun _ _ hr5) trivial ⟨.inr ⟨rfl, rfl, rfl, rfl, rfl, rfl, rfl, rfl, rfl, rfl, trivial⟩, trivial⟩ rfl rfl rfl ?_); refine QV rfl ?_
 refine wC 1 rfl ?_; obtain ⟨r6, hr6, hF⟩ := bB hF
 refine R_stepX trivial (X_callG [((902,560),(42,1))] rfl (callN _) (tracebookref49_All_fun _ _ hr6) trivial ⟨.inr ⟨rfl, rfl, rfl, rfl, rfl, rfl, rfl, rfl, rfl, rfl, trivial⟩, trivial⟩ rfl rfl rfl ?_); refine QV rfl ?_
 refine wC 2 rfl ?_; obtain ⟨r7, hr7, hF⟩ := bB hF
 refine R_stepX trivial (X_callG [((902,600),(48,1))] rfl (callN _) (latency_Worst_fun _ _ _ hr7) trivial ⟨.inr ⟨rfl, rfl, rfl, rfl, rfl, rfl, rfl, rfl, rfl, rfl, trivial⟩, .inl rfl, trivial⟩ rfl rfl rfl ?_)
 refine QV rfl ?_; refine wC 2 rfl ?_; obtain ⟨r8, hr8, hF⟩ := bB hF
 refine R_stepX trivial (X_callG [((902,640),(54,1))] rfl (callN _) (tracebookref49_Worst_fun _ _ _ hr8) trivial ⟨.inr ⟨rfl, rfl, rfl, rfl, rfl, rfl, rfl, rfl, rfl, rfl, trivial⟩, .inl rfl, trivial⟩ rfl rfl rfl ?_)
 refine QV rfl ?_; refine W_seq ?_; refine W_join (fun _ _ h => h) hF (fun v9 => [(6, cB v9)]) (fun v9 => []) ?_ ?_
 · rintro v9 hF
   cases hF
   exact W_ret wR
 intro join hF
 refine wD 2 rfl ?_; obtain ⟨r10, hr10, hF⟩ := bB' hF
 refine rS (T_call (tracebookref49_SameInts_fun _ _ _ hr10) ⟨⟨_, rfl⟩, ⟨_, rfl⟩, trivial⟩ rfl (.inl rfl) ?_); refine Q_run SV 1 rfl ?_; cases h11 : r10
 · have hF := bF' h11 hF; refine QV rfl ?_; exact join false _ _ hF sw
 have hF := bT' h11 hF; refine Q_run SV 5 rfl ?_; cases h12 : (decide (r3.2 = r4.2))
 · have hF := bF' h12 hF; refine QV rfl ?_; exact join false _ _ hF sw
 have hF := bT' h12 hF; refine Q_run SV 2 rfl ?_; obtain ⟨r13, hr13, hF⟩ := bB' hF
 refine R_step SV rfl (T_call (tracebookref49_SameInts_fun _ _ _ hr13) ⟨⟨_, rfl⟩, ⟨_, rfl⟩, trivial⟩ rfl (.inl rfl) ?_); refine Q_run SV 2 rfl ?_; cases h14 : r13
 · have hF := bF' h14 hF; refine QV rfl ?_; exact join false _ _ hF sw
 have hF := bT' h14 hF; refine Q_run SV 5 rfl ?_; cases h15 : (decide (r5.2 = r6.2))
 · have hF := bF' h15 hF; refine QV rfl ?_; exact join false _ _ hF sw
 have hF := bT' h15 hF; refine Q_run SV 2 rfl ?_; obtain ⟨r16, hr16, hF⟩ := bB' hF
 refine R_step SV rfl (T_call (tracebookref49_SameStates_fun _ _ _ hr16) ⟨⟨_, rfl⟩, ⟨_, rfl⟩, trivial⟩ rfl (.inl rfl) ?_); refine Q_run SV 2 rfl ?_; cases h17 : r16
 · have hF := bF' h17 hF; refine QV rfl ?_; exact join false _ _ hF sw
 have hF := bT' h17 hF; refine Q_run SV 5 rfl ?_; cases h18 : (decide (r7.2 = r8.2))
 · have hF := bF' h18 hF; refine QV rfl ?_; exact join false _ _ hF sw
 have hF := bT' h18 hF; obtain ⟨r19, hr19, hF⟩ := bB' hF
 refine R_step SV rfl (T_call (tracebooklaw49_awake_fun _ hr19) trivial rfl (.inl rfl) ?_); refine QV rfl ?_; exact join r19 _ _ hF sw
end Go.VM
