/- What the functions of the law compute, each with its proof. -/
import Derived.Test.YtnngonjaoebkfaaGreatL491
import Derived.Test.YtnngonjaoebkfaaGreatRows
import Derived.KernelRfl
import Derived.Lib.Bytealg
import Derived.Laws.Externs
import Derived.WalkKit
namespace Go.VM
open Go.Proofs Go.Proofs.YtnngonjaoebkfaaGreat
open Go.RowKit
set_option maxRecDepth 100000
set_option maxHeartbeats 4000000
theorem latency_waits_fun (p0 : api_Trace) (r : (List api_State)) (hF : latency_waits p0 = some r) : Fun Tryz.prog 29 false [] [.agg (m_api_Trace p0)] (heapOf []) (cO (902,1160)) (heapOf [((902,1160), .arr 55 7 (List.map t_api_State r))]) := by
 refine Fun.of_walkM [] (some []) Tryz.func29 c29 (by kernel_rfl) (rs := [.tmp 2]) (by kernel_rfl) rfl rfl rfl ?_; unfold v29
 unfold latency_waits at hF
 refine wA rfl ?_; refine wA rfl ?_; refine W_seq ?_; refine wC 2 rfl ?_; refine rS (T_len (tc := t_api_State) p0.fStates .tree ?_); refine QV rfl ?_; refine W_for (fun _ _ h => h) hF (id) (fun (a29, a30) => [(1, cP (1,0) 0), (3, cO (50,1)), (7, cL 7 t_api_State p0.fStates), (8, cI (List.length p0.fStates : Int)), (9, cI a30)]) (fun (a29, a30) => [((1,0), .box (m_api_Trace p0)), ((50,1), .arr 55 7 (List.map t_api_State a29))]) (fun e42 => [(3, cO (50,1))]) (fun e42 => [((50,1), .arr 55 7 (List.map t_api_State e42))]) (S_own 3 (50,1) 55 7 rfl rfl rfl rfl sw) ?_ ?_
 · rintro e42 hF
   refine wA rfl ?_; cases hF
   exact W_ret ⟨_, _, (S_ren (50,1) (902,1160) rfl rfl S_refl), _, rfl, rfl, rfl, (AgM.weak ⟨rfl, trivial⟩)⟩
 rintro ⟨a29, a30⟩ x_0 hF cont_0 brk_0 fin_0
 unfold latency_waits_L1 at hF
 refine wA rfl ?_; refine W_seq ?_; refine wIf hF rfl (fun _ hF => ?_) fun _ hF => ?_
 · refine W_skip ?_; refine W_seq ?_; refine W_join (fun _ _ h => h) hF (fun v43 => [(1, cP (1,0) 0), (3, cO (50,1)), (7, cL 7 t_api_State p0.fStates), (8, cI (List.length p0.fStates : Int)), (9, cI a30)]) (fun v43 => [((1,0), .box (m_api_Trace p0)), ((50,1), .arr 55 7 (List.map t_api_State v43))]) ?_ ?_
   · rintro v43 hF
     refine wB rfl ?_; exact cont_0 _ _ _ (oi hF) sw
   intro join hF
   refine W_block ?_; refine wC 1 rfl ?_; obtain ⟨y44, hy44, hF⟩ := bB' hF
   refine rS (T_ixT (tc := t_api_State) p0.fStates rfl rfl hy44 ?_); refine QV rfl ?_; refine W_seq ?_; have hF := bA hF; refine W_join (fun _ _ h => h) hF (fun v45 => [(1, cP (1,0) 0), (3, cO (50,1)), (5, cP (5,0) 0), (7, cL 7 t_api_State p0.fStates), (8, cI (List.length p0.fStates : Int)), (9, cI a30), (46, cB v45)]) (fun v45 => [((1,0), .box (m_api_Trace p0)), ((50,1), .arr 55 7 (List.map t_api_State a29)), ((5,0), .box (m_api_State y44))]) ?_ ?_
   · rintro v45 hF
     refine wIf' hF rfl (fun _ hF => ?_) fun _ hF => ?_
     · refine wD 2 rfl ?_; refine rS (T_bsl (tc := t_api_State) [y44] rfl ⟨rfl, rfl, rfl, rfl, rfl, rfl, rfl, trivial⟩ rfl (fun _ => rfl) rfl ?_)
       obtain ⟨h46, hF⟩ := roomT' hF
       refine rS (T_appO (tc := t_api_State) a29 [y44] rfl rfl (.own _ _ rfl) h46 rfl ?_); refine QV rfl ?_; exact join (a29 ++ [y44]) _ _ hF (S_ren (50,0) (50,1) rfl rfl sw)
     refine W_skip ?_; exact join a29 _ _ hF sw
   intro join hF
   refine W_regD (by decide) (by kernel_rfl) rfl ?_; refine Q_run SP 4 rfl ?_; refine R_step SP trivial (T_len (tc := t_api_State) p0.fStates .tree ?_); refine Q_run SP 2 rfl ?_; cases h48 : (decide ((w64 (a30 + 1)) < (List.length p0.fStates : Int)))
   · have hF := bF' h48 hF; refine QP rfl ?_; exact join false _ _ hF sw
   have hF := bT' h48 hF; refine Q_run SP 5 rfl ?_; cases h49 : (decide (y44.fState = 0))
   · have hF := bF' h49 hF; refine QP rfl ?_; exact join false _ _ hF sw
   have hF := bT' h49 hF; refine Q_run SP 4 rfl ?_; obtain ⟨y50, hy50, hF⟩ := bB' hF
   refine R_step SP rfl (T_ixT (tc := t_api_State) p0.fStates rfl rfl hy50 ?_); refine Q_run SP 5 rfl ?_; cases h51 : (decide (y50.fState = 4))
   · have hF := bF' h51 hF; refine QP rfl ?_; exact join false _ _ hF sw
   have hF := bT' h51 hF; refine Q_run SP 4 rfl ?_; obtain ⟨y52, hy52, hF⟩ := bB' hF
   refine R_step SP rfl (T_ixT (tc := t_api_State) p0.fStates rfl rfl hy52 ?_); refine QP rfl ?_; exact join (decide (y52.fThread = y44.fThread)) _ _ hF sw
 refine W_exit ?_; refine thenQ_exit ?_; refine thenQ_exit ?_; refine blockQ_hit ?_; exact brk_0 _ _ _ (oi hF) sw
def latency_length (p0 : api_State) : Option Int :=
  some (w64 (p0.fSpan.fTo - p0.fSpan.fFrom))
theorem latency_length_fun (p0 : api_State) (r : Int) (hF : latency_length p0 = some r) : Fun Tryz.prog 30 true [] [.agg (m_api_State p0)] noHeap (cI r) noHeap := by
 refine Fun.of_walk0 Tryz.func30 c30 (by kernel_rfl) (rs := [.tmp 2]) (by kernel_rfl) ?_; unfold v30
 unfold latency_length at hF
 refine wA rfl ?_; refine wA rfl ?_; cases hF
 exact W_ret wR
def latency_Of_L1 (p1 : Int) (r3 : (List api_State)) : ((List Int) × Int) → Option (((List Int) × Int) ⊕ (List Int)) := fun (a22, a23) =>
  (bif (decide (a23 < (List.length r3 : Int))) then ((((idx r3 a23).bind fun y32 => (bif (decide (y32.fThread = p1)) then ((latency_length y32).bind fun r33 => (bif room 8 (List.length a22 + List.length [r33]) then some (a22 ++ [r33]) else none)) else some a22)) : Option (List Int)).bind fun v31 => some (.inl (v31, (w64 (a23 + 1))))) else some (.inr a22))
def latency_Of (p0 : api_Trace) (p1 : Int) : Option ((List Int) × Int) :=
  ((trace_Check p0).bind fun r1 => (bif (!decide (r1 = 0)) then some ([], r1) else ((slices_ContainsFunc_api_Thread_api_Thread_k1 p0.fThreads p1).bind fun r2 => (bif (!r2) then some ([], 5) else ((latency_waits p0).bind fun r3 => ((loop (latency_Of_L1 p1 r3) ([], 0)).bind fun e30 => some (e30, 0)))))))
theorem latency_Of_fun (p0 : api_Trace) (p1 : Int) (r : ((List Int) × Int)) (hF : latency_Of p0 p1 = some r) : Fun Tryz.prog 11 false [] [.agg (m_api_Trace p0), cI p1] (heapOf []) (.tup [cO (902,440), cI r.2]) (heapOf [((902,440), .arr 3 1 (List.map t_i64 r.1))]) := by
 refine Fun.of_walkM [] (some []) Tryz.func11 c11 (by kernel_rfl) (rs := [.tmp 4, .tmp 5]) (by kernel_rfl) rfl rfl rfl ?_; unfold v11
 unfold latency_Of at hF
 refine wA rfl ?_; refine W_seq ?_; refine wC 1 rfl ?_; obtain ⟨r1, hr1, hF⟩ := bB hF
 refine rS (T_call (trace_Check_fun _ _ hr1) ⟨⟨rfl, rfl, rfl, rfl, rfl, rfl, rfl, rfl, rfl, rfl, trivial⟩, trivial⟩ rfl (.inl rfl) ?_); refine QV rfl ?_; refine wA rfl ?_; refine wIf hF rfl (fun _ hF => ?_) fun _ hF => ?_
 · refine wA rfl ?_; cases hF
   exact W_ret ⟨_, _, (S_own 4 (902,440) 3 1 rfl rfl rfl rfl S_refl), _, rfl, rfl, ⟨rfl, ⟨rfl, fun _ => rfl⟩, trivial⟩, (AgM.weak ⟨rfl, trivial⟩)⟩
 refine W_skip ?_; refine W_seq ?_; refine wC 3 rfl ?_; obtain ⟨r2, hr2, hF⟩ := bB hF
 refine rS (T_callO [((2080,0),(3,0))] rfl (slices_ContainsFunc_api_Thread_api_Thread_k1_fun _ _ _ hr2) ⟨rfl, trivial⟩ rfl rfl (.inr ⟨.inl rfl, .inl rfl, trivial⟩) ?_); refine QV rfl ?_; refine wIf hF rfl (fun _ hF => ?_) fun _ hF => ?_
 · refine wA rfl ?_; cases hF
   exact W_ret ⟨_, _, (S_own 4 (902,440) 3 1 rfl rfl rfl rfl S_refl), _, rfl, rfl, ⟨rfl, ⟨rfl, fun _ => rfl⟩, trivial⟩, (AgM.weak ⟨rfl, trivial⟩)⟩
 refine W_skip ?_; refine wA rfl ?_; refine W_seq ?_; refine wC 1 rfl ?_; obtain ⟨r3, hr3, hF⟩ := bB hF
 refine R_stepX trivial (X_callG [((902,1160),(21,1))] rfl (callN _) (latency_waits_fun _ _ hr3) trivial ⟨.inr ⟨rfl, rfl, rfl, rfl, rfl, rfl, rfl, rfl, rfl, rfl, trivial⟩, trivial⟩ rfl rfl rfl ?_); refine rS (T_len (tc := t_api_State) r3 (.own _ _ rfl) ?_)
 refine QV rfl ?_; refine W_for (fun _ _ h => h) hF (id) (fun (a22, a23) => [(3, cP (3,0) 0), (7, cO (35,1)), (21, cO (21,1)), (22, cI (List.length r3 : Int)), (23, cI a23)]) (fun (a22, a23) => [((3,0), .box [jI p1]), ((35,1), .arr 3 1 (List.map t_i64 a22)), ((21,1), .arr 55 7 (List.map t_api_State r3))]) (fun e30 => [(7, cO (35,1))]) (fun e30 => [((35,1), .arr 3 1 (List.map t_i64 e30))]) (S_own 7 (35,1) 3 1 rfl rfl rfl rfl sw) ?_ ?_
 · rintro e30 hF
   refine wA rfl ?_; cases hF
   exact W_ret ⟨_, _, (S_ren (35,1) (902,440) rfl rfl S_refl), _, rfl, rfl, ⟨rfl, ⟨rfl, fun _ => rfl⟩, trivial⟩, (AgM.weak ⟨rfl, trivial⟩)⟩
 rintro ⟨a22, a23⟩ x_0 hF cont_0 brk_0 fin_0
 unfold latency_Of_L1 at hF
 refine wA rfl ?_; refine W_seq ?_; refine wIf hF rfl (fun _ hF => ?_) fun _ hF => ?_
 · refine W_skip ?_; refine W_seq ?_; refine W_join (fun _ _ h => h) hF (fun v31 => [(3, cP (3,0) 0), (7, cO (35,1)), (21, cO (21,1)), (22, cI (List.length r3 : Int)), (23, cI a23)]) (fun v31 => [((3,0), .box [jI p1]), ((35,1), .arr 3 1 (List.map t_i64 v31)), ((21,1), .arr 55 7 (List.map t_api_State r3))]) ?_ ?_
   · rintro v31 hF
     refine wB rfl ?_; exact cont_0 _ _ _ (oi hF) sw
   intro join hF
   refine W_block ?_; refine wE ?_; obtain ⟨y32, hy32, hF⟩ := bB' hF
   refine rS (T_ixO (tc := t_api_State) r3 rfl rfl rfl hy32 ?_); refine rS (T_ldE (tc := t_api_State) r3 rfl rfl (idx_get hy32).2.1 rfl ?_); refine QV rfl ?_; refine wA rfl ?_; refine wIf' hF rfl (fun _ hF => ?_) fun _ hF => ?_
   · refine wD 2 rfl ?_; obtain ⟨r33, hr33, hF⟩ := bB' hF
     refine rS (T_call (latency_length_fun _ _ hr33) ⟨⟨rfl, rfl, rfl, rfl, rfl, rfl, rfl, trivial⟩, trivial⟩ rfl (.inl rfl) ?_); refine rS (T_bsl (tc := t_i64) [r33] rfl ⟨rfl, trivial⟩ rfl (fun _ => rfl) rfl ?_)
     obtain ⟨h34, hF⟩ := roomT' hF
     refine rS (T_appO (tc := t_i64) a22 [r33] rfl rfl (.own _ _ rfl) h34 rfl ?_); refine QV rfl ?_; exact join (a22 ++ [r33]) _ _ hF (S_ren (35,0) (35,1) rfl rfl sw)
   refine W_skip ?_; exact join a22 _ _ hF sw
 refine W_exit ?_; refine thenQ_exit ?_; refine thenQ_exit ?_; refine blockQ_hit ?_; exact brk_0 _ _ _ (oi hF) sw
def slices_Sort_int_int_k1 (p0 : (List Int)) : Option (List Int) := bif sortN p0 then some (sortI p0) else none
theorem slices_Sort_int_int_k1_fun (p0 : (List Int)) (r : (List Int)) (hF : slices_Sort_int_int_k1 p0 = some r) : Fun Tryz.prog 35 false [(2400,0)] [cO (2400,0)] (heapOf [((2400,0), .arr 3 1 (List.map t_i64 p0))]) (.tup []) (heapOf [((2400,0), .arr 3 1 (List.map t_i64 r))]) := by
 obtain ⟨h, hF⟩ := roomT hF
 cases hF
 exact sort_fun p0 (of_decide_eq_true h) (2400,0)
def latency_All_L1 (r2 : (List api_State)) : ((List Int) × Int) → Option (((List Int) × Int) ⊕ (List Int)) := fun (a17, a18) =>
  (bif (decide (a18 < (List.length r2 : Int))) then ((idx r2 a18).bind fun y25 => ((latency_length y25).bind fun r26 => (bif room 8 (List.length a17 + List.length [r26]) then some (.inl ((a17 ++ [r26]), (w64 (a18 + 1)))) else none))) else some (.inr a17))
def latency_All (p0 : api_Trace) : Option ((List Int) × Int) :=
  ((trace_Check p0).bind fun r1 => (bif (!decide (r1 = 0)) then some ([], r1) else ((latency_waits p0).bind fun r2 => ((loop (latency_All_L1 r2) ([], 0)).bind fun e23 => ((slices_Sort_int_int_k1 e23).bind fun r24 => some (r24, 0))))))
theorem latency_All_fun (p0 : api_Trace) (r : ((List Int) × Int)) (hF : latency_All p0 = some r) : Fun Tryz.prog 13 false [] [.agg (m_api_Trace p0)] (heapOf []) (.tup [cO (902,520), cI r.2]) (heapOf [((902,520), .arr 3 1 (List.map t_i64 r.1))]) := by
 refine Fun.of_walkM [] (some []) Tryz.func13 c13 (by kernel_rfl) (rs := [.tmp 2, .tmp 3]) (by kernel_rfl) rfl rfl rfl ?_; unfold v13
 unfold latency_All at hF
 refine wA rfl ?_; refine W_seq ?_; refine wC 1 rfl ?_; obtain ⟨r1, hr1, hF⟩ := bB hF
 refine rS (T_call (trace_Check_fun _ _ hr1) ⟨⟨rfl, rfl, rfl, rfl, rfl, rfl, rfl, rfl, rfl, rfl, trivial⟩, trivial⟩ rfl (.inl rfl) ?_); refine QV rfl ?_; refine wA rfl ?_; refine wIf hF rfl (fun _ hF => ?_) fun _ hF => ?_
 · refine wA rfl ?_; cases hF
   exact W_ret ⟨_, _, (S_own 2 (902,520) 3 1 rfl rfl rfl rfl S_refl), _, rfl, rfl, ⟨rfl, ⟨rfl, fun _ => rfl⟩, trivial⟩, (AgM.weak ⟨rfl, trivial⟩)⟩
 refine W_skip ?_; refine wA rfl ?_; refine W_seq ?_; refine wC 1 rfl ?_; obtain ⟨r2, hr2, hF⟩ := bB hF
 refine R_stepX trivial (X_callG [((902,1160),(14,1))] rfl (callN _) (latency_waits_fun _ _ hr2) trivial ⟨.inr ⟨rfl, rfl, rfl, rfl, rfl, rfl, rfl, rfl, rfl, rfl, trivial⟩, trivial⟩ rfl rfl rfl ?_); refine rS (T_len (tc := t_api_State) r2 (.own _ _ rfl) ?_)
 refine QV rfl ?_; refine W_for (fun _ _ h => h) hF (id) (fun (a17, a18) => [(5, cO (24,1)), (14, cO (14,1)), (15, cI (List.length r2 : Int)), (16, cI a18)]) (fun (a17, a18) => [((24,1), .arr 3 1 (List.map t_i64 a17)), ((14,1), .arr 55 7 (List.map t_api_State r2))]) (fun e23 => [(5, cO (24,1))]) (fun e23 => [((24,1), .arr 3 1 (List.map t_i64 e23))]) (S_own 5 (24,1) 3 1 rfl rfl rfl rfl sw) ?_ ?_
 · rintro e23 hF
   refine wC 1 rfl ?_; obtain ⟨r24, hr24, hF⟩ := bB hF
   refine R_stepX trivial (X_callG [((2400,0),(24,1))] rfl (callN _) (slices_Sort_int_int_k1_fun _ _ hr24) ⟨rfl, trivial⟩ ⟨.inl rfl, trivial⟩ rfl rfl rfl ?_); refine QV rfl ?_; refine wA rfl ?_; cases hF
   exact W_ret ⟨_, _, (S_ren (24,1) (902,520) rfl rfl S_refl), _, rfl, rfl, ⟨rfl, ⟨rfl, fun _ => rfl⟩, trivial⟩, (AgM.weak ⟨rfl, trivial⟩)⟩
 rintro ⟨a17, a18⟩ x_0 hF cont_0 brk_0 fin_0
 unfold latency_All_L1 at hF
 refine wA rfl ?_; refine W_seq ?_; refine wIf hF rfl (fun _ hF => ?_) fun _ hF => ?_
 · refine W_skip ?_; refine W_seq ?_; refine W_block ?_; refine wE ?_; obtain ⟨y25, hy25, hF⟩ := bB hF
   refine rS (T_ixO (tc := t_api_State) r2 rfl rfl rfl hy25 ?_); refine rS (T_ldE (tc := t_api_State) r2 rfl rfl (idx_get hy25).2.1 rfl ?_); refine QV rfl ?_; refine wD 2 rfl ?_; obtain ⟨r26, hr26, hF⟩ := bB hF
   refine rS (T_call (latency_length_fun _ _ hr26) ⟨⟨rfl, rfl, rfl, rfl, rfl, rfl, rfl, trivial⟩, trivial⟩ rfl (.inl rfl) ?_); refine rS (T_bsl (tc := t_i64) [r26] rfl ⟨rfl, trivial⟩ rfl (fun _ => rfl) rfl ?_)
   obtain ⟨h27, hF⟩ := roomT hF
   refine rS (T_appO (tc := t_i64) a17 [r26] rfl rfl (.own _ _ rfl) h27 rfl ?_); refine QV rfl ?_; refine wB rfl ?_; exact cont_0 _ _ _ (oi hF) (S_ren (24,0) (24,1) rfl rfl sw)
 refine W_exit ?_; refine thenQ_exit ?_; refine thenQ_exit ?_; refine blockQ_hit ?_; exact brk_0 _ _ _ (oi hF) sw
def slices_Values_int_int (p0 : (List Int)) : Option (List Int) := some p0
theorem slices_Values_int_int_fun (p0 : (List Int)) (r : (List Int)) (hF : slices_Values_int_int p0 = some r) : Fun Tryz.prog 56 false [] [cL 1 t_i64 p0] (heapOf []) (.c (.fn 106 [.ptr (902,2240)])) (heapOf [((902,2240), .box [jL 1 t_i64 r])]) := by
 cases hF
 exact values_fun p0 (902,2240)
def slices_Sorted_int_k1 (p0_0 : (List Int)) : Option (List Int) := bif sortB p0_0 then some (sortI p0_0) else none
theorem slices_Sorted_int_k1_fun (p0_0 : (List Int)) (r : (List Int)) (hF : slices_Sorted_int_k1 p0_0 = some r) : Fun Tryz.prog 55 false [(3200,0)] [.c (.fn 106 [.ptr (3200,0)])] (heapOf [((3200,0), .box [jL 1 t_i64 p0_0])]) (cO (902,2200)) (heapOf [((3200,0), .box [jL 1 t_i64 p0_0]), ((902,2200), .arr 3 1 (List.map t_i64 r))]) := by
 obtain ⟨h, hF⟩ := roomT hF
 cases hF
 exact sorted_fun p0_0 (sortB_spec h).1 (sortB_spec h).2 (3200,0) (902,2200) (by decide)
def math_bits_Mul64 (p0 : Int) (p1 : Int) : Option (Int × Int) :=
  some ((IntKind.wrap .u64 ((IntKind.wrap .u64 ((IntKind.wrap .u64 ((shR .u64 p0 32) * (shR .u64 p1 32))) + (shR .u64 (IntKind.wrap .u64 ((IntKind.wrap .u64 ((shR .u64 p0 32) * (bAnd .u64 p1 4294967295))) + (shR .u64 (IntKind.wrap .u64 ((bAnd .u64 p0 4294967295) * (bAnd .u64 p1 4294967295))) 32))) 32))) + (shR .u64 (IntKind.wrap .u64 ((bAnd .u64 (IntKind.wrap .u64 ((IntKind.wrap .u64 ((shR .u64 p0 32) * (bAnd .u64 p1 4294967295))) + (shR .u64 (IntKind.wrap .u64 ((bAnd .u64 p0 4294967295) * (bAnd .u64 p1 4294967295))) 32))) 4294967295) + (IntKind.wrap .u64 ((bAnd .u64 p0 4294967295) * (shR .u64 p1 32))))) 32))), (IntKind.wrap .u64 (p0 * p1)))
theorem math_bits_Mul64_fun (p0 : Int) (p1 : Int) (r : (Int × Int)) (hF : math_bits_Mul64 p0 p1 = some r) : Fun Tryz.prog 57 true [] [.c (.imm (.sc (.int .u64 p0))), .c (.imm (.sc (.int .u64 p1)))] noHeap (.tup [.c (.imm (.sc (.int .u64 r.1))), .c (.imm (.sc (.int .u64 r.2)))]) noHeap := by
 refine Fun.of_walk0 Tryz.func57 c57 (by kernel_rfl) (rs := [.tmp 4, .tmp 5]) (by kernel_rfl) ?_; unfold v57
 unfold math_bits_Mul64 at hF
 refine wA rfl ?_; refine wA rfl ?_; refine wA rfl ?_; refine wA rfl ?_; refine wA rfl ?_; refine wA rfl ?_; refine wA rfl ?_; refine wA rfl ?_; refine wA rfl ?_; refine wA rfl ?_; refine wA rfl ?_; refine wA rfl ?_
 cases hF
 exact W_ret ⟨_, rfl, rfl, ⟨⟨rfl, fun _ => rfl⟩, ⟨rfl, fun _ => rfl⟩, trivial⟩, noOut _⟩
def math_bits_Len64 (p0 : Int) : Option Int :=
  (((bif (decide (4294967296 ≤ p0)) then some ((shR .u64 p0 32), 32) else some (p0, 0)) : Option (Int × Int)).bind fun (v1, v2) => (((bif (decide (65536 ≤ v1)) then some ((shR .u64 v1 16), (w64 (v2 + 16))) else some (v1, v2)) : Option (Int × Int)).bind fun (v3, v4) => (((bif (decide (256 ≤ v3)) then some ((shR .u64 v3 8), (w64 (v4 + 8))) else some (v3, v4)) : Option (Int × Int)).bind fun (v5, v6) => ((idx (ByteArray.data ⟨#[0, 1, 2, 2, 3, 3, 3, 3, 4, 4, 4, 4, 4, 4, 4, 4, 5, 5, 5, 5, 5, 5, 5, 5, 5, 5, 5, 5, 5, 5, 5, 5, 6, 6, 6, 6, 6, 6, 6, 6, 6, 6, 6, 6, 6, 6, 6, 6, 6, 6, 6, 6, 6, 6, 6, 6, 6, 6, 6, 6, 6, 6, 6, 6, 7, 7, 7, 7, 7, 7, 7, 7, 7, 7, 7, 7, 7, 7, 7, 7, 7, 7, 7, 7, 7, 7, 7, 7, 7, 7, 7, 7, 7, 7, 7, 7, 7, 7, 7, 7, 7, 7, 7, 7, 7, 7, 7, 7, 7, 7, 7, 7, 7, 7, 7, 7, 7, 7, 7, 7, 7, 7, 7, 7, 7, 7, 7, 7, 8, 8, 8, 8, 8, 8, 8, 8, 8, 8, 8, 8, 8, 8, 8, 8, 8, 8, 8, 8, 8, 8, 8, 8, 8, 8, 8, 8, 8, 8, 8, 8, 8, 8, 8, 8, 8, 8, 8, 8, 8, 8, 8, 8, 8, 8, 8, 8, 8, 8, 8, 8, 8, 8, 8, 8, 8, 8, 8, 8, 8, 8, 8, 8, 8, 8, 8, 8, 8, 8, 8, 8, 8, 8, 8, 8, 8, 8, 8, 8, 8, 8, 8, 8, 8, 8, 8, 8, 8, 8, 8, 8, 8, 8, 8, 8, 8, 8, 8, 8, 8, 8, 8, 8, 8, 8, 8, 8, 8, 8, 8, 8, 8, 8, 8, 8, 8, 8, 8, 8, 8, 8, 8, 8, 8, 8, 8, 8]⟩).toList (IntKind.wrap .u8 v5)).bind fun y7 => some (w64 (v6 + (w64 (UInt8.toNat y7 : Int))))))))
theorem math_bits_Len64_fun (p0 : Int) (r : Int) (hF : math_bits_Len64 p0 = some r) : Fun Tryz.prog 60 true [] [.c (.imm (.sc (.int .u64 p0)))] noHeap (cI r) noHeap := by
 refine Fun.of_walk0 Tryz.func60 c60 (by kernel_rfl) (rs := [.tmp 2]) (by kernel_rfl) ?_; unfold v60
 unfold math_bits_Len64 at hF
 refine wA rfl ?_; refine W_seq ?_; refine wA rfl ?_; refine W_join (fun _ _ h => h) hF (fun (v1, v2) => [(0, .c (.imm (.sc (.int .u64 v1)))), (2, cI v2)]) (fun (v1, v2) => []) ?_ ?_
 · rintro ⟨v1, v2⟩ hF
   refine W_seq ?_; refine wA rfl ?_; refine W_join (fun _ _ h => h) hF (fun (v3, v4) => [(0, .c (.imm (.sc (.int .u64 v3)))), (2, cI v4)]) (fun (v3, v4) => []) ?_ ?_
   · rintro ⟨v3, v4⟩ hF
     refine W_seq ?_; refine wA rfl ?_; refine W_join (fun _ _ h => h) hF (fun (v5, v6) => [(0, .c (.imm (.sc (.int .u64 v5)))), (2, cI v6)]) (fun (v5, v6) => []) ?_ ?_
     · rintro ⟨v5, v6⟩ hF
       refine wC 3 rfl ?_; obtain ⟨y7, hy7, hF⟩ := bB hF
       refine rS (T_ixS ⟨#[0, 1, 2, 2, 3, 3, 3, 3, 4, 4, 4, 4, 4, 4, 4, 4, 5, 5, 5, 5, 5, 5, 5, 5, 5, 5, 5, 5, 5, 5, 5, 5, 6, 6, 6, 6, 6, 6, 6, 6, 6, 6, 6, 6, 6, 6, 6, 6, 6, 6, 6, 6, 6, 6, 6, 6, 6, 6, 6, 6, 6, 6, 6, 6, 7, 7, 7, 7, 7, 7, 7, 7, 7, 7, 7, 7, 7, 7, 7, 7, 7, 7, 7, 7, 7, 7, 7, 7, 7, 7, 7, 7, 7, 7, 7, 7, 7, 7, 7, 7, 7, 7, 7, 7, 7, 7, 7, 7, 7, 7, 7, 7, 7, 7, 7, 7, 7, 7, 7, 7, 7, 7, 7, 7, 7, 7, 7, 7, 8, 8, 8, 8, 8, 8, 8, 8, 8, 8, 8, 8, 8, 8, 8, 8, 8, 8, 8, 8, 8, 8, 8, 8, 8, 8, 8, 8, 8, 8, 8, 8, 8, 8, 8, 8, 8, 8, 8, 8, 8, 8, 8, 8, 8, 8, 8, 8, 8, 8, 8, 8, 8, 8, 8, 8, 8, 8, 8, 8, 8, 8, 8, 8, 8, 8, 8, 8, 8, 8, 8, 8, 8, 8, 8, 8, 8, 8, 8, 8, 8, 8, 8, 8, 8, 8, 8, 8, 8, 8, 8, 8, 8, 8, 8, 8, 8, 8, 8, 8, 8, 8, 8, 8, 8, 8, 8, 8, 8, 8, 8, 8, 8, 8, 8, 8, 8, 8, 8, 8, 8, 8, 8, 8, 8, 8, 8, 8]⟩ rfl rfl hy7 ?_)
       refine QV rfl ?_; cases hF
       exact W_ret wR
     intro join hF
     refine wIf' hF rfl (fun _ hF => ?_) fun _ hF => ?_
     · refine wA rfl ?_; refine wB rfl ?_; exact join ((shR .u64 v3 8), (w64 (v4 + 8))) _ _ hF sw
     refine W_skip ?_; exact join (v3, v4) _ _ hF sw
   intro join hF
   refine wIf' hF rfl (fun _ hF => ?_) fun _ hF => ?_
   · refine wA rfl ?_; refine wB rfl ?_; exact join ((shR .u64 v1 16), (w64 (v2 + 16))) _ _ hF sw
   refine W_skip ?_; exact join (v1, v2) _ _ hF sw
 intro join hF
 refine wIf' hF rfl (fun _ hF => ?_) fun _ hF => ?_
 · refine wA rfl ?_; refine wB rfl ?_; exact join ((shR .u64 p0 32), 32) _ _ hF sw
 refine W_skip ?_; exact join (p0, 0) _ _ hF sw
def math_bits_Div64 (p0 : Int) (p1 : Int) (p2 : Int) : Option (Int × Int) :=
  (bif (decide (p2 = 0)) then none else (bif (decide (p2 ≤ p0)) then none else (bif (decide (p0 = 0)) then (bif decide (p2 ≠ 0) then (bif decide (p2 ≠ 0) then some ((IntKind.wrap .u64 (Int.tdiv p1 p2)), (Int.tmod p1 p2)) else none) else none) else none)))
theorem math_bits_Div64_fun (p0 : Int) (p1 : Int) (p2 : Int) (r : (Int × Int)) (hF : math_bits_Div64 p0 p1 p2 = some r) : Fun Tryz.prog 58 true [] [.c (.imm (.sc (.int .u64 p0))), .c (.imm (.sc (.int .u64 p1))), .c (.imm (.sc (.int .u64 p2)))] noHeap (.tup [.c (.imm (.sc (.int .u64 r.1))), .c (.imm (.sc (.int .u64 r.2)))]) noHeap := by
 refine Fun.of_walk0 Tryz.func58 c58 (by kernel_rfl) (rs := [.tmp 6, .tmp 7]) (by kernel_rfl) ?_; unfold v58
 unfold math_bits_Div64 at hF
 refine wA rfl ?_; refine W_seq ?_; refine wA rfl ?_; refine wIf hF rfl (fun _ hF => ?_) fun _ hF => ?_
 · simp at hF
 refine W_skip ?_; refine W_seq ?_; refine wA rfl ?_; refine wIf hF rfl (fun _ hF => ?_) fun _ hF => ?_
 · simp at hF
 refine W_skip ?_; refine W_seq ?_; refine wA rfl ?_; refine wIf hF rfl (fun _ hF => ?_) fun _ hF => ?_
 · refine W_seq ?_; refine W_regD (by decide) (by kernel_rfl) rfl ?_; refine Q_run SP 2 rfl ?_; obtain ⟨h1, hF⟩ := roomT hF
   refine R_step SP trivial (T_bin (quoV .u64 p1 p2 (of_decide_eq_true h1)) ?_); refine Q_run SP 2 rfl ?_; obtain ⟨h2, hF⟩ := roomT hF
   refine R_step SP trivial (T_bin (remV .u64 p1 p2 (of_decide_eq_true h2)) ?_); refine QP rfl ?_; cases hF
   exact W_ret ⟨_, rfl, rfl, ⟨⟨rfl, fun _ => rfl⟩, ⟨rfl, fun _ => rfl⟩, trivial⟩, noOut _⟩
 simp at hF
def num_Quantile (p0 : (List Int)) (p1 : Int) (p2 : Int) : Option (Int × Bool) :=
  (((bif (decide ((List.length p0 : Int) = 0)) then some true else (bif (decide (p2 < 1)) then some true else (bif (decide (1000000000000000 < p2)) then some true else (bif (decide (p1 < 0)) then some true else some (decide (p2 < p1)))))) : Option Bool).bind fun v1 => (bif v1 then some (0, false) else ((slices_Values_int_int p0).bind fun r2 => ((slices_Sorted_int_k1 r2).bind fun r3 => ((math_bits_Mul64 (IntKind.wrap .u64 p1) (IntKind.wrap .u64 (List.length p0 : Int))).bind fun r4 => ((math_bits_Div64 r4.1 r4.2 (IntKind.wrap .u64 p2)).bind fun r5 => (((bif (decide (0 < r5.2)) then some (IntKind.wrap .u64 (r5.1 + 1)) else some r5.1) : Option Int).bind fun v6 => ((idx r3 (IntKind.wrap .u64 ((max v6 1) - 1))).bind fun y7 => some (y7, true)))))))))
theorem num_Quantile_fun (p0 : (List Int)) (p1 : Int) (p2 : Int) (r : (Int × Bool)) (hF : num_Quantile p0 p1 p2 = some r) : Fun Tryz.prog 40 true [] [cL 1 t_i64 p0, cI p1, cI p2] noHeap (.tup [cI r.1, cB r.2]) noHeap := by
 refine Fun.of_walk0 Tryz.func40 c40 (by kernel_rfl) (rs := [.tmp 6, .tmp 7]) (by kernel_rfl) ?_; unfold v40
 unfold num_Quantile at hF
 refine wA rfl ?_; refine W_seq ?_; refine W_seq ?_; refine W_join (fun _ _ h => h) hF (fun v1 => [(0, cL 1 t_i64 p0), (1, cI p1), (2, cI p2), (32, cB v1)]) (fun v1 => []) ?_ ?_
 · rintro v1 hF
   refine wIf hF rfl (fun _ hF => ?_) fun _ hF => ?_
   · refine wA rfl ?_; cases hF
     exact W_ret ⟨_, rfl, rfl, ⟨⟨rfl, fun _ => rfl⟩, ⟨rfl, fun _ => rfl⟩, trivial⟩, noOut _⟩
   refine W_skip ?_; refine wC 1 rfl ?_; obtain ⟨r2, hr2, hF⟩ := bB hF
   refine R_stepX trivial (X_callG [((902,2240),(34,1))] rfl (callN _) (slices_Values_int_int_fun _ _ hr2) trivial ⟨.inl rfl, trivial⟩ rfl rfl rfl ?_); obtain ⟨r3, hr3, hF⟩ := bB hF
   refine R_stepX trivial (X_callG [((3200,0),(34,1)), ((902,2200),(35,1))] rfl (callN _) (slices_Sorted_int_k1_fun _ _ hr3) ⟨rfl, trivial⟩ ⟨.inl rfl, trivial⟩ rfl rfl rfl ?_); refine QV rfl ?_; refine wC 3 rfl ?_
   refine rS (T_len (tc := t_i64) p0 .tree ?_); refine Q_run SV 1 rfl ?_; obtain ⟨r4, hr4, hF⟩ := bB hF
   refine rS (T_call (math_bits_Mul64_fun _ _ _ hr4) ⟨rfl, rfl, trivial⟩ rfl (.inl rfl) ?_); refine QV rfl ?_; refine wC 4 rfl ?_; obtain ⟨r5, hr5, hF⟩ := bB hF
   refine rS (T_call (math_bits_Div64_fun _ _ _ _ hr5) ⟨rfl, rfl, rfl, trivial⟩ rfl (.inl rfl) ?_); refine QV rfl ?_; refine W_seq ?_; refine wA rfl ?_; refine W_join (fun _ _ h => h) hF (fun v6 => [(8, cO (35,1)), (11, .c (.imm (.sc (.int .u64 v6))))]) (fun v6 => [((35,1), .arr 3 1 (List.map t_i64 r3))]) ?_ ?_
   · rintro v6 hF
     refine wC 4 rfl ?_; obtain ⟨y7, hy7, hF⟩ := bB hF
     refine rS (T_ixO (tc := t_i64) r3 rfl rfl rfl hy7 ?_); refine rS (T_ldE (tc := t_i64) r3 rfl rfl (idx_get hy7).2.1 rfl ?_); refine QV rfl ?_; cases hF
     exact W_ret ⟨_, rfl, rfl, ⟨⟨rfl, fun _ => rfl⟩, ⟨rfl, fun _ => rfl⟩, trivial⟩, noOut _⟩
   intro join hF
   refine wIf' hF rfl (fun _ hF => ?_) fun _ hF => ?_
   · refine wB rfl ?_; exact join (IntKind.wrap .u64 (r5.1 + 1)) _ _ hF sw
   refine W_skip ?_; exact join r5.1 _ _ hF sw
 intro join hF
 refine wD 1 rfl ?_; refine rS (T_len (tc := t_i64) p0 .tree ?_); refine Q_run SV 2 rfl ?_; cases h10 : (decide ((List.length p0 : Int) = 0))
 · have hF := bF' h10 hF; refine Q_run SV 4 rfl ?_; cases h11 : (decide (p2 < 1))
   · have hF := bF' h11 hF; refine Q_run SV 4 rfl ?_; cases h12 : (decide (1000000000000000 < p2))
     · have hF := bF' h12 hF; refine Q_run SV 4 rfl ?_; cases h13 : (decide (p1 < 0))
       · have hF := bF' h13 hF; refine QV rfl ?_; exact join (decide (p2 < p1)) _ _ hF sw
       have hF := bT' h13 hF; refine QV rfl ?_; exact join true _ _ hF sw
     have hF := bT' h12 hF; refine QV rfl ?_; exact join true _ _ hF sw
   have hF := bT' h11 hF; refine QV rfl ?_; exact join true _ _ hF sw
 have hF := bT' h10 hF; refine QV rfl ?_; exact join true _ _ hF sw
def latency_Quantile (p0 : api_Trace) (p1 : Int) (p2 : Int) : Option (Int × Int) :=
  ((latency_All p0).bind fun r1 => (bif (!decide (r1.2 = 0)) then some (0, r1.2) else ((num_Quantile r1.1 p1 p2).bind fun r2 => (bif (!r2.2) then some (0, 1) else some (r2.1, 0)))))
theorem latency_Quantile_fun (p0 : api_Trace) (p1 : Int) (p2 : Int) (r : (Int × Int)) (hF : latency_Quantile p0 p1 p2 = some r) : Fun Tryz.prog 19 true [] [.agg (m_api_Trace p0), cI p1, cI p2] noHeap (.tup [cI r.1, cI r.2]) noHeap := by
 refine Fun.of_walk0 Tryz.func19 c19 (by kernel_rfl) (rs := [.tmp 6, .tmp 7]) (by kernel_rfl) ?_; unfold v19
 unfold latency_Quantile at hF
 refine wA rfl ?_; refine wC 1 rfl ?_; obtain ⟨r1, hr1, hF⟩ := bB hF
 refine R_stepX trivial (X_callG [((902,520),(14,1))] rfl (callN _) (latency_All_fun _ _ hr1) trivial ⟨.inr ⟨rfl, rfl, rfl, rfl, rfl, rfl, rfl, rfl, rfl, rfl, trivial⟩, trivial⟩ rfl rfl rfl ?_); refine QV rfl ?_
 refine W_seq ?_; refine wA rfl ?_; refine wIf hF rfl (fun _ hF => ?_) fun _ hF => ?_
 · refine wA rfl ?_; cases hF
   exact W_ret ⟨_, rfl, rfl, ⟨⟨rfl, fun _ => rfl⟩, ⟨rfl, fun _ => rfl⟩, trivial⟩, noOut _⟩
 refine W_skip ?_; refine wC 3 rfl ?_; obtain ⟨r2, hr2, hF⟩ := bB hF
 refine rS (T_call (num_Quantile_fun _ _ _ _ hr2) ⟨⟨_, rfl⟩, rfl, rfl, trivial⟩ rfl (.inl rfl) ?_); refine QV rfl ?_; refine W_seq ?_; refine wA rfl ?_; refine wIf hF rfl (fun _ hF => ?_) fun _ hF => ?_
 · refine wA rfl ?_; cases hF
   exact W_ret ⟨_, rfl, rfl, ⟨⟨rfl, fun _ => rfl⟩, ⟨rfl, fun _ => rfl⟩, trivial⟩, noOut _⟩
 refine W_skip ?_; refine wA rfl ?_; cases hF
 exact W_ret ⟨_, rfl, rfl, ⟨⟨rfl, fun _ => rfl⟩, ⟨rfl, fun _ => rfl⟩, trivial⟩, noOut _⟩
def latency_Worst_1 (p0 : api_State) (p1 : api_State) : Option Int :=
  ((latency_length p1).bind fun r1 => ((latency_length p0).bind fun r2 => ((cmp_Compare_int r1 r2).bind fun r3 => some r3)))
theorem latency_Worst_1_fun (p0 : api_State) (p1 : api_State) (r : Int) (hF : latency_Worst_1 p0 p1 = some r) : Fun Tryz.prog 38 true [] [.agg (m_api_State p0), .agg (m_api_State p1)] noHeap (cI r) noHeap := by
 refine Fun.of_walk0 Tryz.func38 c38 (by kernel_rfl) (rs := [.tmp 4]) (by kernel_rfl) ?_; unfold v38
 unfold latency_Worst_1 at hF
 refine wA rfl ?_; refine W_seq ?_; refine W_regD (by decide) (by kernel_rfl) rfl ?_; refine Q_run SP 1 rfl ?_; obtain ⟨r1, hr1, hF⟩ := bB hF
 refine R_step SP trivial (T_call (latency_length_fun _ _ hr1) ⟨⟨rfl, rfl, rfl, rfl, rfl, rfl, rfl, trivial⟩, trivial⟩ rfl (.inl rfl) ?_); refine Q_run SP 1 rfl ?_; obtain ⟨r2, hr2, hF⟩ := bB hF
 refine R_step SP trivial (T_call (latency_length_fun _ _ hr2) ⟨⟨rfl, rfl, rfl, rfl, rfl, rfl, rfl, trivial⟩, trivial⟩ rfl (.inl rfl) ?_); obtain ⟨r3, hr3, hF⟩ := bB hF
 refine R_step SP trivial (T_call (cmp_Compare_int_fun _ _ _ hr3) ⟨rfl, rfl, trivial⟩ rfl (.inl rfl) ?_); refine QP rfl ?_; cases hF
 exact W_ret wR
def slices_insertionSortCmpFunc_api_State_k1_L1 (p1 : Int) : ((List api_State) × Int) → Option (((List api_State) × Int) ⊕ (List api_State)) := fun (a135, a136) =>
  (((bif (decide (p1 < a136)) then ((idx a135 a136).bind fun y155 => ((idx a135 (w64 (a136 - 1))).bind fun y156 => ((latency_Worst_1 y155 y156).bind fun r157 => some (decide (r157 < 0))))) else some false) : Option Bool).bind fun v148 => (bif v148 then ((idx a135 (w64 (a136 - 1))).bind fun y149 => ((idx a135 a136).bind fun y150 => ((idx a135 a136).bind fun y151 => ((idx (List.set a135 (Int.toNat a136) y149) (w64 (a136 - 1))).bind fun y152 => some (.inl ((List.set (List.set a135 (Int.toNat a136) y149) (Int.toNat (w64 (a136 - 1))) y150), (w64 (a136 - 1)))))))) else some (.inr a135)))
def slices_insertionSortCmpFunc_api_State_k1_L2 (p1 : Int) (p2 : Int) : ((List api_State) × Int) → Option (((List api_State) × Int) ⊕ (List api_State)) := fun (a107, a108) =>
  (bif (decide (a108 < p2)) then ((loop (slices_insertionSortCmpFunc_api_State_k1_L1 p1) (a107, a108)).bind fun e147 => some (.inl (e147, (w64 (a108 + 1))))) else some (.inr a107))
def slices_insertionSortCmpFunc_api_State_k1 (p0 : (List api_State)) (p1 : Int) (p2 : Int) : Option (List api_State) :=
  (loop (slices_insertionSortCmpFunc_api_State_k1_L2 p1 p2) (p0, (w64 (p1 + 1))))
theorem slices_insertionSortCmpFunc_api_State_k1_fun (p0 : (List api_State)) (p1 : Int) (p2 : Int) (r : (List api_State)) (hF : slices_insertionSortCmpFunc_api_State_k1 p0 p1 p2 = some r) : Fun Tryz.prog 103 false [(5120,0)] [cO (5120,0), cI p1, cI p2, .c (.fn 38 [])] (heapOf [((5120,0), .arr 55 7 (List.map t_api_State p0))]) (.tup []) (heapOf [((5120,0), .arr 55 7 (List.map t_api_State r))]) := by
 refine Fun.of_walkM [(5120,0)] (some [(5120,0)]) Tryz.func103 c103 (by kernel_rfl) (rs := []) (by kernel_rfl) rfl rfl rfl ?_; unfold v103
 unfold slices_insertionSortCmpFunc_api_State_k1 at hF
 refine wA rfl ?_; refine W_for0 hF (fun (a107, a108) => [(0, cO (5120,0)), (1, cI p1), (2, cI p2), (3, .c (.fn 38 [])), (8, cI a108)]) (fun (a107, a108) => [((5120,0), .arr 55 7 (List.map t_api_State a107))]) sw ?_
 rintro ⟨a107, a108⟩ x_0 hF cont_0 fin_0
 unfold slices_insertionSortCmpFunc_api_State_k1_L2 at hF
 refine W_seq ?_; refine wA rfl ?_; refine wIf hF rfl (fun _ hF => ?_) fun _ hF => ?_
 · refine W_skip ?_; refine W_seq ?_; refine W_block ?_; refine wA rfl ?_; refine W_for (fun _ _ h => h) hF (id) (fun (a135, a136) => [(0, cO (5120,0)), (1, cI p1), (2, cI p2), (3, .c (.fn 38 [])), (8, cI a108), (9, cI a136)]) (fun (a135, a136) => [((5120,0), .arr 55 7 (List.map t_api_State a135))]) (fun e147 => [(0, cO (5120,0)), (1, cI p1), (2, cI p2), (3, .c (.fn 38 [])), (8, cI a108)]) (fun e147 => [((5120,0), .arr 55 7 (List.map t_api_State e147))]) sw ?_ ?_
   · rintro e147 hF
     refine wB rfl ?_; exact cont_0 _ _ _ (oi hF) sw
   rintro ⟨a135, a136⟩ x_1 hF cont_1 brk_1 fin_1
   unfold slices_insertionSortCmpFunc_api_State_k1_L1 at hF
   refine W_seq ?_; refine W_seq ?_; refine W_join (fun _ _ h => h) hF (fun v148 => [(0, cO (5120,0)), (1, cI p1), (2, cI p2), (3, .c (.fn 38 [])), (8, cI a108), (9, cI a136), (34, cB v148)]) (fun v148 => [((5120,0), .arr 55 7 (List.map t_api_State a135))]) ?_ ?_
   · rintro v148 hF
     refine wIf hF rfl (fun _ hF => ?_) fun _ hF => ?_
     · refine W_skip ?_; refine W_seq ?_; refine W_block ?_; refine W_regD (by decide) (by kernel_rfl) rfl ?_; refine Q_run SP 8 rfl ?_; obtain ⟨y149, hy149, hF⟩ := bB hF
       refine R_step SP trivial (T_ixO (tc := t_api_State) a135 rfl rfl rfl hy149 ?_); refine R_step SP trivial (T_ldE (tc := t_api_State) a135 rfl rfl (idx_get hy149).2.1 rfl ?_); refine Q_run SP 2 rfl ?_; obtain ⟨y150, hy150, hF⟩ := bB hF
       refine R_step SP trivial (T_ixO (tc := t_api_State) a135 rfl rfl rfl hy150 ?_); refine R_step SP trivial (T_ldE (tc := t_api_State) a135 rfl rfl (idx_get hy150).2.1 rfl ?_); obtain ⟨y151, hy151, hF⟩ := bB hF
       refine R_step SP trivial (T_ixO (tc := t_api_State) a135 rfl rfl rfl hy151 ?_); refine R_step SP trivial (T_stE (tc := t_api_State) a135 y149 rfl rfl (idx_get hy151).2.1 rfl rfl rfl rfl rfl ?_); obtain ⟨y152, hy152, hF⟩ := bB hF
       refine R_step SP trivial (T_ixO (tc := t_api_State) (List.set a135 (Int.toNat a136) y149) rfl rfl rfl hy152 ?_); refine R_step SP trivial (T_stE (tc := t_api_State) (List.set a135 (Int.toNat a136) y149) y150 rfl rfl (idx_get hy152).2.1 rfl rfl rfl rfl rfl ?_)
       refine QP rfl ?_; refine wB rfl ?_; exact cont_1 _ _ _ (oi hF) sw
     refine W_exit ?_; refine thenQ_exit ?_; refine thenQ_exit ?_; refine blockQ_hit ?_; exact brk_1 _ _ _ (oi hF) sw
   intro join hF
   refine W_regD (by decide) (by kernel_rfl) rfl ?_; refine Q_run SP 4 rfl ?_; cases h154 : (decide (p1 < a136))
   · have hF := bF' h154 hF; refine QP rfl ?_; exact join false _ _ hF sw
   have hF := bT' h154 hF; refine Q_run SP 3 rfl ?_; obtain ⟨y155, hy155, hF⟩ := bB' hF
   refine R_step SP rfl (T_ixO (tc := t_api_State) a135 rfl rfl rfl hy155 ?_); refine R_step SP rfl (T_ldE (tc := t_api_State) a135 rfl rfl (idx_get hy155).2.1 rfl ?_); refine Q_run SP 3 rfl ?_; obtain ⟨y156, hy156, hF⟩ := bB' hF
   refine R_step SP rfl (T_ixO (tc := t_api_State) a135 rfl rfl rfl hy156 ?_); refine R_step SP rfl (T_ldE (tc := t_api_State) a135 rfl rfl (idx_get hy156).2.1 rfl ?_); obtain ⟨r157, hr157, hF⟩ := bB' hF
   refine R_step SP rfl (T_callC (callW _ rfl fnOk38) (latency_Worst_1_fun _ _ _ hr157) ⟨⟨rfl, rfl, rfl, rfl, rfl, rfl, rfl, trivial⟩, ⟨rfl, rfl, rfl, rfl, rfl, rfl, rfl, trivial⟩, trivial⟩ rfl (.inl rfl) ?_)
   refine QP rfl ?_; exact join (decide (r157 < 0)) _ _ hF sw
 refine W_exit ?_; refine thenQ_exit ?_; refine thenQ_exit ?_; refine blockQ_hit ?_; have hF := fin_0 _ (oi hF); cases hF
 exact ⟨_, _, S_refl, _, rfl, rfl, trivial, (AgM.weak ⟨rfl, trivial⟩)⟩
def slices_swapRangeCmpFunc_api_State_k1_L1 (p1 : Int) (p2 : Int) (p3 : Int) : ((List api_State) × Int) → Option (((List api_State) × Int) ⊕ (List api_State)) := fun (a17, a18) =>
  (bif (decide (a18 < p3)) then ((idx a17 (w64 (p2 + a18))).bind fun y19 => ((idx a17 (w64 (p1 + a18))).bind fun y20 => ((idx a17 (w64 (p1 + a18))).bind fun y21 => ((idx (List.set a17 (Int.toNat (w64 (p1 + a18))) y19) (w64 (p2 + a18))).bind fun y22 => some (.inl ((List.set (List.set a17 (Int.toNat (w64 (p1 + a18))) y19) (Int.toNat (w64 (p2 + a18))) y20), (w64 (a18 + 1)))))))) else some (.inr a17))
def slices_swapRangeCmpFunc_api_State_k1 (p0 : (List api_State)) (p1 : Int) (p2 : Int) (p3 : Int) : Option (List api_State) :=
  (loop (slices_swapRangeCmpFunc_api_State_k1_L1 p1 p2 p3) (p0, 0))
theorem slices_swapRangeCmpFunc_api_State_k1_fun (p0 : (List api_State)) (p1 : Int) (p2 : Int) (p3 : Int) (r : (List api_State)) (hF : slices_swapRangeCmpFunc_api_State_k1 p0 p1 p2 p3 = some r) : Fun Tryz.prog 161 false [(7440,0)] [cO (7440,0), cI p1, cI p2, cI p3, .c (.fn 38 [])] (heapOf [((7440,0), .arr 55 7 (List.map t_api_State p0))]) (.tup []) (heapOf [((7440,0), .arr 55 7 (List.map t_api_State r))]) := by
 refine Fun.of_walkM [(7440,0)] (some [(7440,0)]) Tryz.func161 c161 (by kernel_rfl) (rs := []) (by kernel_rfl) rfl rfl rfl ?_; unfold v161
 unfold slices_swapRangeCmpFunc_api_State_k1 at hF
 refine wA rfl ?_; refine W_for0 hF (fun (a17, a18) => [(0, cO (7440,0)), (1, cI p1), (2, cI p2), (3, cI p3), (10, cI a18)]) (fun (a17, a18) => [((7440,0), .arr 55 7 (List.map t_api_State a17))]) sw ?_
 rintro ⟨a17, a18⟩ x_0 hF cont_0 fin_0
 unfold slices_swapRangeCmpFunc_api_State_k1_L1 at hF
 refine W_seq ?_; refine wA rfl ?_; refine wIf hF rfl (fun _ hF => ?_) fun _ hF => ?_
 · refine W_skip ?_; refine W_seq ?_; refine W_block ?_; refine W_regD (by decide) (by kernel_rfl) rfl ?_; refine Q_run SP 12 rfl ?_; obtain ⟨y19, hy19, hF⟩ := bB hF
   refine R_step SP trivial (T_ixO (tc := t_api_State) a17 rfl rfl rfl hy19 ?_); refine R_step SP trivial (T_ldE (tc := t_api_State) a17 rfl rfl (idx_get hy19).2.1 rfl ?_); refine Q_run SP 4 rfl ?_; obtain ⟨y20, hy20, hF⟩ := bB hF
   refine R_step SP trivial (T_ixO (tc := t_api_State) a17 rfl rfl rfl hy20 ?_); refine R_step SP trivial (T_ldE (tc := t_api_State) a17 rfl rfl (idx_get hy20).2.1 rfl ?_); obtain ⟨y21, hy21, hF⟩ := bB hF
   refine R_step SP trivial (T_ixO (tc := t_api_State) a17 rfl rfl rfl hy21 ?_); refine R_step SP trivial (T_stE (tc := t_api_State) a17 y19 rfl rfl (idx_get hy21).2.1 rfl rfl rfl rfl rfl ?_); obtain ⟨y22, hy22, hF⟩ := bB hF
   refine R_step SP trivial (T_ixO (tc := t_api_State) (List.set a17 (Int.toNat (w64 (p1 + a18))) y19) rfl rfl rfl hy22 ?_); refine R_step SP trivial (T_stE (tc := t_api_State) (List.set a17 (Int.toNat (w64 (p1 + a18))) y19) y20 rfl rfl (idx_get hy22).2.1 rfl rfl rfl rfl rfl ?_)
   refine QP rfl ?_; refine wB rfl ?_; exact cont_0 _ _ _ (oi hF) sw
 refine W_exit ?_; refine thenQ_exit ?_; refine thenQ_exit ?_; refine blockQ_hit ?_; have hF := fin_0 _ (oi hF); cases hF
 exact ⟨_, _, S_refl, _, rfl, rfl, trivial, (AgM.weak ⟨rfl, trivial⟩)⟩
def slices_rotateCmpFunc_api_State_k1_L1 (p2 : Int) : ((List api_State) × Int × Int) → Option (((List api_State) × Int × Int) ⊕ ((List api_State) × Int)) := fun (a18, a19, a20) =>
  (bif (!decide (a19 = a20)) then (bif (decide (a20 < a19)) then ((slices_swapRangeCmpFunc_api_State_k1 a18 (w64 (p2 - a19)) p2 a20).bind fun r28 => some (.inl (r28, (w64 (a19 - a20)), a20))) else ((slices_swapRangeCmpFunc_api_State_k1 a18 (w64 (p2 - a19)) (w64 ((w64 (p2 + a20)) - a19)) a19).bind fun r29 => some (.inl (r29, a19, (w64 (a20 - a19)))))) else some (.inr (a18, a19)))
def slices_rotateCmpFunc_api_State_k1 (p0 : (List api_State)) (p1 : Int) (p2 : Int) (p3 : Int) : Option (List api_State) :=
  ((loop (slices_rotateCmpFunc_api_State_k1_L1 p2) (p0, (w64 (p2 - p1)), (w64 (p3 - p2)))).bind fun (e25, e26) => ((slices_swapRangeCmpFunc_api_State_k1 e25 (w64 (p2 - e26)) p2 e26).bind fun r27 => some r27))
theorem slices_rotateCmpFunc_api_State_k1_fun (p0 : (List api_State)) (p1 : Int) (p2 : Int) (p3 : Int) (r : (List api_State)) (hF : slices_rotateCmpFunc_api_State_k1 p0 p1 p2 p3 = some r) : Fun Tryz.prog 142 false [(6680,0)] [cO (6680,0), cI p1, cI p2, cI p3, .c (.fn 38 [])] (heapOf [((6680,0), .arr 55 7 (List.map t_api_State p0))]) (.tup []) (heapOf [((6680,0), .arr 55 7 (List.map t_api_State r))]) := by
 refine Fun.of_walkM [(6680,0)] (some [(6680,0)]) Tryz.func142 c142 (by kernel_rfl) (rs := []) (by kernel_rfl) rfl rfl rfl ?_; unfold v142
 unfold slices_rotateCmpFunc_api_State_k1 at hF
 refine wA rfl ?_; refine wA rfl ?_; refine W_seq ?_; refine W_for (fun _ _ h => h) hF (id) (fun (a18, a19, a20) => [(0, cO (6680,0)), (2, cI p2), (4, .c (.fn 38 [])), (10, cI a19), (11, cI a20)]) (fun (a18, a19, a20) => [((6680,0), .arr 55 7 (List.map t_api_State a18))]) (fun (e25, e26) => [(0, cO (6680,0)), (2, cI p2), (4, .c (.fn 38 [])), (10, cI e26)]) (fun (e25, e26) => [((6680,0), .arr 55 7 (List.map t_api_State e25))]) sw ?_ ?_
 · rintro ⟨e25, e26⟩ hF
   refine wD 7 rfl ?_; obtain ⟨r27, hr27, hF⟩ := bB hF
   refine R_stepX trivial (X_callG [((7440,0),(6680,0))] rfl (callN _) (slices_swapRangeCmpFunc_api_State_k1_fun _ _ _ _ _ hr27) ⟨rfl, trivial⟩ ⟨.inl rfl, .inl rfl, .inl rfl, .inl rfl, .inl rfl, trivial⟩ rfl rfl rfl ?_)
   refine QV rfl ?_; cases hF
   exact ⟨_, _, S_refl, _, rfl, rfl, trivial, (AgM.weak ⟨rfl, trivial⟩)⟩
 rintro ⟨a18, a19, a20⟩ x_0 hF cont_0 brk_0 fin_0
 unfold slices_rotateCmpFunc_api_State_k1_L1 at hF
 refine W_seq ?_; refine wA rfl ?_; refine wIf hF rfl (fun _ hF => ?_) fun _ hF => ?_
 · refine W_skip ?_; refine W_block ?_; refine wA rfl ?_; refine wIf hF rfl (fun _ hF => ?_) fun _ hF => ?_
   · refine wC 7 rfl ?_; obtain ⟨r28, hr28, hF⟩ := bB hF
     refine R_stepX trivial (X_callG [((7440,0),(6680,0))] rfl (callN _) (slices_swapRangeCmpFunc_api_State_k1_fun _ _ _ _ _ hr28) ⟨rfl, trivial⟩ ⟨.inl rfl, .inl rfl, .inl rfl, .inl rfl, .inl rfl, trivial⟩ rfl rfl rfl ?_)
     refine QV rfl ?_; refine wB rfl ?_; exact cont_0 _ _ _ (oi hF) sw
   refine wC 11 rfl ?_; obtain ⟨r29, hr29, hF⟩ := bB hF
   refine R_stepX trivial (X_callG [((7440,0),(6680,0))] rfl (callN _) (slices_swapRangeCmpFunc_api_State_k1_fun _ _ _ _ _ hr29) ⟨rfl, trivial⟩ ⟨.inl rfl, .inl rfl, .inl rfl, .inl rfl, .inl rfl, trivial⟩ rfl rfl rfl ?_)
   refine QV rfl ?_; refine wB rfl ?_; exact cont_0 _ _ _ (oi hF) sw
 refine W_exit ?_; refine thenQ_exit ?_; refine thenQ_exit ?_; refine blockQ_hit ?_; exact brk_0 _ _ _ (oi hF) sw
def slices_symMergeCmpFunc_api_State_k1_L1 (e24 : Int) : ((List api_State) × Int) → Option (((List api_State) × Int) ⊕ (List api_State)) := fun (a41, a42) =>
  (bif (decide (a42 < (w64 (e24 - 1)))) then ((idx a41 (w64 (a42 + 1))).bind fun y49 => ((idx a41 a42).bind fun y50 => ((idx a41 a42).bind fun y51 => ((idx (List.set a41 (Int.toNat a42) y49) (w64 (a42 + 1))).bind fun y52 => some (.inl ((List.set (List.set a41 (Int.toNat a42) y49) (Int.toNat (w64 (a42 + 1))) y50), (w64 (a42 + 1)))))))) else some (.inr a41))
def slices_symMergeCmpFunc_api_State_k1_L2 (p0 : (List api_State)) (p1 : Int) : (Int × Int) → Option ((Int × Int) ⊕ Int) := fun (a17, a18) =>
  (bif (decide (a17 < a18)) then ((idx p0 (w64 (shR .u64 (IntKind.wrap .u64 (w64 (a17 + a18))) 1))).bind fun y54 => ((idx p0 p1).bind fun y55 => ((latency_Worst_1 y54 y55).bind fun r56 => (bif (decide (r56 < 0)) then some (.inl ((w64 ((w64 (shR .u64 (IntKind.wrap .u64 (w64 (a17 + a18))) 1)) + 1)), a18)) else some (.inl (a17, (w64 (shR .u64 (IntKind.wrap .u64 (w64 (a17 + a18))) 1)))))))) else some (.inr a17))
def slices_symMergeCmpFunc_api_State_k1_L3 (e82 : Int) : ((List api_State) × Int) → Option (((List api_State) × Int) ⊕ (List api_State)) := fun (a99, a100) =>
  (bif (decide (e82 < a100)) then ((idx a99 (w64 (a100 - 1))).bind fun y107 => ((idx a99 a100).bind fun y108 => ((idx a99 a100).bind fun y109 => ((idx (List.set a99 (Int.toNat a100) y107) (w64 (a100 - 1))).bind fun y110 => some (.inl ((List.set (List.set a99 (Int.toNat a100) y107) (Int.toNat (w64 (a100 - 1))) y108), (w64 (a100 - 1)))))))) else some (.inr a99))
def slices_symMergeCmpFunc_api_State_k1_L4 (p0 : (List api_State)) (p2 : Int) : (Int × Int) → Option ((Int × Int) ⊕ Int) := fun (a75, a76) =>
  (bif (decide (a75 < a76)) then ((idx p0 p2).bind fun y112 => ((idx p0 (w64 (shR .u64 (IntKind.wrap .u64 (w64 (a75 + a76))) 1))).bind fun y113 => ((latency_Worst_1 y112 y113).bind fun r114 => (bif (!(decide (r114 < 0))) then some (.inl ((w64 ((w64 (shR .u64 (IntKind.wrap .u64 (w64 (a75 + a76))) 1)) + 1)), a76)) else some (.inl (a75, (w64 (shR .u64 (IntKind.wrap .u64 (w64 (a75 + a76))) 1)))))))) else some (.inr a75))
def slices_symMergeCmpFunc_api_State_k1_L5 (p0 : (List api_State)) (p1 : Int) (p2 : Int) (p3 : Int) : (Int × Int) → Option ((Int × Int) ⊕ Int) := fun (a135, a136) =>
  (bif (decide (a135 < a136)) then ((idx p0 (w64 ((w64 ((w64 ((w64 (shR .u64 (IntKind.wrap .u64 (w64 (p1 + p3))) 1)) + p2)) - 1)) - (w64 (shR .u64 (IntKind.wrap .u64 (w64 (a135 + a136))) 1))))).bind fun y157 => ((idx p0 (w64 (shR .u64 (IntKind.wrap .u64 (w64 (a135 + a136))) 1))).bind fun y158 => ((latency_Worst_1 y157 y158).bind fun r159 => (bif (!(decide (r159 < 0))) then some (.inl ((w64 ((w64 (shR .u64 (IntKind.wrap .u64 (w64 (a135 + a136))) 1)) + 1)), a136)) else some (.inl (a135, (w64 (shR .u64 (IntKind.wrap .u64 (w64 (a135 + a136))) 1)))))))) else some (.inr a135))
def slices_symMergeCmpFunc_api_State_k1_b (rec : ((List api_State) → Int → Int → Int → Option (List api_State))) (p0 : (List api_State)) (p1 : Int) (p2 : Int) (p3 : Int) : Option (List api_State) :=
  (bif (decide ((w64 (p2 - p1)) = 1)) then ((loop (slices_symMergeCmpFunc_api_State_k1_L2 p0 p1) (p2, p3)).bind fun e24 => ((loop (slices_symMergeCmpFunc_api_State_k1_L1 e24) (p0, p1)).bind fun e48 => some e48)) else (bif (decide ((w64 (p3 - p2)) = 1)) then ((loop (slices_symMergeCmpFunc_api_State_k1_L4 p0 p2) (p1, p2)).bind fun e82 => ((loop (slices_symMergeCmpFunc_api_State_k1_L3 e82) (p0, p2)).bind fun e106 => some e106)) else (((bif (decide ((w64 (shR .u64 (IntKind.wrap .u64 (w64 (p1 + p3))) 1)) < p2)) then some ((w64 ((w64 ((w64 (shR .u64 (IntKind.wrap .u64 (w64 (p1 + p3))) 1)) + p2)) - p3)), (w64 (shR .u64 (IntKind.wrap .u64 (w64 (p1 + p3))) 1))) else some (p1, p2)) : Option (Int × Int)).bind fun (v117, v118) => ((loop (slices_symMergeCmpFunc_api_State_k1_L5 p0 p1 p2 p3) (v117, v118)).bind fun e142 => (((bif (decide (e142 < p2)) then some (decide (p2 < (w64 ((w64 ((w64 (shR .u64 (IntKind.wrap .u64 (w64 (p1 + p3))) 1)) + p2)) - e142)))) else some false) : Option Bool).bind fun v143 => (((bif v143 then ((slices_rotateCmpFunc_api_State_k1 p0 e142 p2 (w64 ((w64 ((w64 (shR .u64 (IntKind.wrap .u64 (w64 (p1 + p3))) 1)) + p2)) - e142))).bind fun r154 => some r154) else some p0) : Option (List api_State)).bind fun v144 => (((bif (decide (p1 < e142)) then some (decide (e142 < (w64 (shR .u64 (IntKind.wrap .u64 (w64 (p1 + p3))) 1)))) else some false) : Option Bool).bind fun v145 => (((bif v145 then ((rec v144 p1 e142 (w64 (shR .u64 (IntKind.wrap .u64 (w64 (p1 + p3))) 1))).bind fun r151 => some r151) else some v144) : Option (List api_State)).bind fun v146 => (((bif (decide ((w64 (shR .u64 (IntKind.wrap .u64 (w64 (p1 + p3))) 1)) < (w64 ((w64 ((w64 (shR .u64 (IntKind.wrap .u64 (w64 (p1 + p3))) 1)) + p2)) - e142)))) then some (decide ((w64 ((w64 ((w64 (shR .u64 (IntKind.wrap .u64 (w64 (p1 + p3))) 1)) + p2)) - e142)) < p3)) else some false) : Option Bool).bind fun v147 => (bif v147 then ((rec v146 (w64 (shR .u64 (IntKind.wrap .u64 (w64 (p1 + p3))) 1)) (w64 ((w64 ((w64 (shR .u64 (IntKind.wrap .u64 (w64 (p1 + p3))) 1)) + p2)) - e142)) p3).bind fun r148 => some r148) else some v146))))))))))
def slices_symMergeCmpFunc_api_State_k1_n : Nat → (List api_State) → Int → Int → Int → Option (List api_State)
  | 0 => fun _ _ _ _ => none
  | n + 1 => slices_symMergeCmpFunc_api_State_k1_b (slices_symMergeCmpFunc_api_State_k1_n n)
def slices_symMergeCmpFunc_api_State_k1 (p0 : (List api_State)) (p1 : Int) (p2 : Int) (p3 : Int) : Option (List api_State) := slices_symMergeCmpFunc_api_State_k1_n 9223372036854775808 p0 p1 p2 p3
theorem slices_symMergeCmpFunc_api_State_k1_n_fun : ∀ (n : Nat) (p0 : (List api_State)) (p1 : Int) (p2 : Int) (p3 : Int) (r : (List api_State)), slices_symMergeCmpFunc_api_State_k1_n n p0 p1 p2 p3 = some r → Fun Tryz.prog 104 false [(5160,0)] [cO (5160,0), cI p1, cI p2, cI p3, .c (.fn 38 [])] (heapOf [((5160,0), .arr 55 7 (List.map t_api_State p0))]) (.tup []) (heapOf [((5160,0), .arr 55 7 (List.map t_api_State r))]) := by
 intro n
 induction n
 · intro p0 p1 p2 p3 r hF; simp [slices_symMergeCmpFunc_api_State_k1_n] at hF
 rename_i n ih; intro p0 p1 p2 p3 r hF
 refine Fun.of_walkM [(5160,0)] (some [(5160,0)]) Tryz.func104 c104 (by kernel_rfl) (rs := []) (by kernel_rfl) rfl rfl rfl ?_; unfold v104
 unfold slices_symMergeCmpFunc_api_State_k1_n at hF
 unfold slices_symMergeCmpFunc_api_State_k1_b at hF
 refine W_seq ?_; refine wA rfl ?_; refine wIf hF rfl (fun _ hF => ?_) fun _ hF => ?_
 · refine wA rfl ?_; refine wA rfl ?_; refine W_seq ?_; refine W_for (fun _ _ h => h) hF (id) (fun (a17, a18) => [(0, cO (5160,0)), (1, cI p1), (4, .c (.fn 38 [])), (10, cI a17), (11, cI a18)]) (fun (a17, a18) => [((5160,0), .arr 55 7 (List.map t_api_State p0))]) (fun e24 => [(0, cO (5160,0)), (1, cI p1), (10, cI e24)]) (fun e24 => [((5160,0), .arr 55 7 (List.map t_api_State p0))]) sw ?_ ?_
   · rintro e24 hF
     refine W_seq ?_; refine wA rfl ?_; refine W_for (fun _ _ h => h) hF (id) (fun (a41, a42) => [(0, cO (5160,0)), (10, cI e24), (13, cI a42)]) (fun (a41, a42) => [((5160,0), .arr 55 7 (List.map t_api_State a41))]) (fun e48 => []) (fun e48 => [((5160,0), .arr 55 7 (List.map t_api_State e48))]) sw ?_ ?_
     · rintro e48 hF
       cases hF
       exact W_ret ⟨_, _, S_refl, _, rfl, rfl, trivial, (AgM.weak ⟨rfl, trivial⟩)⟩
     rintro ⟨a41, a42⟩ x_0 hF cont_0 brk_0 fin_0
     unfold slices_symMergeCmpFunc_api_State_k1_L1 at hF
     refine W_seq ?_; refine wA rfl ?_; refine wIf hF rfl (fun _ hF => ?_) fun _ hF => ?_
     · refine W_skip ?_; refine W_seq ?_; refine W_block ?_; refine W_regD (by decide) (by kernel_rfl) rfl ?_; refine Q_run SP 8 rfl ?_; obtain ⟨y49, hy49, hF⟩ := bB hF
       refine R_step SP trivial (T_ixO (tc := t_api_State) a41 rfl rfl rfl hy49 ?_); refine R_step SP trivial (T_ldE (tc := t_api_State) a41 rfl rfl (idx_get hy49).2.1 rfl ?_); refine Q_run SP 2 rfl ?_; obtain ⟨y50, hy50, hF⟩ := bB hF
       refine R_step SP trivial (T_ixO (tc := t_api_State) a41 rfl rfl rfl hy50 ?_); refine R_step SP trivial (T_ldE (tc := t_api_State) a41 rfl rfl (idx_get hy50).2.1 rfl ?_); obtain ⟨y51, hy51, hF⟩ := bB hF
       refine R_step SP trivial (T_ixO (tc := t_api_State) a41 rfl rfl rfl hy51 ?_); refine R_step SP trivial (T_stE (tc := t_api_State) a41 y49 rfl rfl (idx_get hy51).2.1 rfl rfl rfl rfl rfl ?_); obtain ⟨y52, hy52, hF⟩ := bB hF
       refine R_step SP trivial (T_ixO (tc := t_api_State) (List.set a41 (Int.toNat a42) y49) rfl rfl rfl hy52 ?_); refine R_step SP trivial (T_stE (tc := t_api_State) (List.set a41 (Int.toNat a42) y49) y50 rfl rfl (idx_get hy52).2.1 rfl rfl rfl rfl rfl ?_)
       refine QP rfl ?_; refine wB rfl ?_; exact cont_0 _ _ _ (oi hF) sw
     refine W_exit ?_; refine thenQ_exit ?_; refine thenQ_exit ?_; refine blockQ_hit ?_; exact brk_0 _ _ _ (oi hF) sw
   rintro ⟨a17, a18⟩ x_0 hF cont_0 brk_0 fin_0
   unfold slices_symMergeCmpFunc_api_State_k1_L2 at hF
   refine W_seq ?_; refine wA rfl ?_; refine wIf hF rfl (fun _ hF => ?_) fun _ hF => ?_
   · refine W_skip ?_; refine W_block ?_; refine wA rfl ?_; refine W_seq ?_; refine W_regD (by decide) (by kernel_rfl) rfl ?_; refine Q_run SP 3 rfl ?_; obtain ⟨y54, hy54, hF⟩ := bB hF
     refine R_step SP trivial (T_ixO (tc := t_api_State) p0 rfl rfl rfl hy54 ?_); refine R_step SP trivial (T_ldE (tc := t_api_State) p0 rfl rfl (idx_get hy54).2.1 rfl ?_); refine Q_run SP 2 rfl ?_; obtain ⟨y55, hy55, hF⟩ := bB hF
     refine R_step SP trivial (T_ixO (tc := t_api_State) p0 rfl rfl rfl hy55 ?_); refine R_step SP trivial (T_ldE (tc := t_api_State) p0 rfl rfl (idx_get hy55).2.1 rfl ?_); obtain ⟨r56, hr56, hF⟩ := bB hF
     refine R_step SP trivial (T_callC (callW _ rfl fnOk38) (latency_Worst_1_fun _ _ _ hr56) ⟨⟨rfl, rfl, rfl, rfl, rfl, rfl, rfl, trivial⟩, ⟨rfl, rfl, rfl, rfl, rfl, rfl, rfl, trivial⟩, trivial⟩ rfl (.inl rfl) ?_)
     refine QP rfl ?_; refine wIf hF rfl (fun _ hF => ?_) fun _ hF => ?_
     · refine wB rfl ?_; exact cont_0 _ _ _ (oi hF) sw
     refine wB rfl ?_; exact cont_0 _ _ _ (oi hF) sw
   refine W_exit ?_; refine thenQ_exit ?_; refine thenQ_exit ?_; refine blockQ_hit ?_; exact brk_0 _ _ _ (oi hF) sw
 refine W_skip ?_; refine W_seq ?_; refine wA rfl ?_; refine wIf hF rfl (fun _ hF => ?_) fun _ hF => ?_
 · refine wA rfl ?_; refine wA rfl ?_; refine W_seq ?_; refine W_for (fun _ _ h => h) hF (id) (fun (a75, a76) => [(0, cO (5160,0)), (2, cI p2), (4, .c (.fn 38 [])), (14, cI a75), (15, cI a76)]) (fun (a75, a76) => [((5160,0), .arr 55 7 (List.map t_api_State p0))]) (fun e82 => [(0, cO (5160,0)), (2, cI p2), (14, cI e82)]) (fun e82 => [((5160,0), .arr 55 7 (List.map t_api_State p0))]) sw ?_ ?_
   · rintro e82 hF
     refine W_seq ?_; refine wA rfl ?_; refine W_for (fun _ _ h => h) hF (id) (fun (a99, a100) => [(0, cO (5160,0)), (14, cI e82), (17, cI a100)]) (fun (a99, a100) => [((5160,0), .arr 55 7 (List.map t_api_State a99))]) (fun e106 => []) (fun e106 => [((5160,0), .arr 55 7 (List.map t_api_State e106))]) sw ?_ ?_
     · rintro e106 hF
       cases hF
       exact W_ret ⟨_, _, S_refl, _, rfl, rfl, trivial, (AgM.weak ⟨rfl, trivial⟩)⟩
     rintro ⟨a99, a100⟩ x_0 hF cont_0 brk_0 fin_0
     unfold slices_symMergeCmpFunc_api_State_k1_L3 at hF
     refine W_seq ?_; refine wA rfl ?_; refine wIf hF rfl (fun _ hF => ?_) fun _ hF => ?_
     · refine W_skip ?_; refine W_seq ?_; refine W_block ?_; refine W_regD (by decide) (by kernel_rfl) rfl ?_; refine Q_run SP 8 rfl ?_; obtain ⟨y107, hy107, hF⟩ := bB hF
       refine R_step SP trivial (T_ixO (tc := t_api_State) a99 rfl rfl rfl hy107 ?_); refine R_step SP trivial (T_ldE (tc := t_api_State) a99 rfl rfl (idx_get hy107).2.1 rfl ?_); refine Q_run SP 2 rfl ?_; obtain ⟨y108, hy108, hF⟩ := bB hF
       refine R_step SP trivial (T_ixO (tc := t_api_State) a99 rfl rfl rfl hy108 ?_); refine R_step SP trivial (T_ldE (tc := t_api_State) a99 rfl rfl (idx_get hy108).2.1 rfl ?_); obtain ⟨y109, hy109, hF⟩ := bB hF
       refine R_step SP trivial (T_ixO (tc := t_api_State) a99 rfl rfl rfl hy109 ?_); refine R_step SP trivial (T_stE (tc := t_api_State) a99 y107 rfl rfl (idx_get hy109).2.1 rfl rfl rfl rfl rfl ?_); obtain ⟨y110, hy110, hF⟩ := bB hF
       refine R_step SP trivial (T_ixO (tc := t_api_State) (List.set a99 (Int.toNat a100) y107) rfl rfl rfl hy110 ?_); refine R_step SP trivial (T_stE (tc := t_api_State) (List.set a99 (Int.toNat a100) y107) y108 rfl rfl (idx_get hy110).2.1 rfl rfl rfl rfl rfl ?_)
       refine QP rfl ?_; refine wB rfl ?_; exact cont_0 _ _ _ (oi hF) sw
     refine W_exit ?_; refine thenQ_exit ?_; refine thenQ_exit ?_; refine blockQ_hit ?_; exact brk_0 _ _ _ (oi hF) sw
   rintro ⟨a75, a76⟩ x_0 hF cont_0 brk_0 fin_0
   unfold slices_symMergeCmpFunc_api_State_k1_L4 at hF
   refine W_seq ?_; refine wA rfl ?_; refine wIf hF rfl (fun _ hF => ?_) fun _ hF => ?_
   · refine W_skip ?_; refine W_block ?_; refine wA rfl ?_; refine W_seq ?_; refine W_regD (by decide) (by kernel_rfl) rfl ?_; refine Q_run SP 3 rfl ?_; obtain ⟨y112, hy112, hF⟩ := bB hF
     refine R_step SP trivial (T_ixO (tc := t_api_State) p0 rfl rfl rfl hy112 ?_); refine R_step SP trivial (T_ldE (tc := t_api_State) p0 rfl rfl (idx_get hy112).2.1 rfl ?_); refine Q_run SP 2 rfl ?_; obtain ⟨y113, hy113, hF⟩ := bB hF
     refine R_step SP trivial (T_ixO (tc := t_api_State) p0 rfl rfl rfl hy113 ?_); refine R_step SP trivial (T_ldE (tc := t_api_State) p0 rfl rfl (idx_get hy113).2.1 rfl ?_); obtain ⟨r114, hr114, hF⟩ := bB hF
     refine R_step SP trivial (T_callC (callW _ rfl fnOk38) (latency_Worst_1_fun _ _ _ hr114) ⟨⟨rfl, rfl, rfl, rfl, rfl, rfl, rfl, trivial⟩, ⟨rfl, rfl, rfl, rfl, rfl, rfl, rfl, trivial⟩, trivial⟩ rfl (.inl rfl) ?_)
     refine QP rfl ?_; refine wIf hF rfl (fun _ hF => ?_) fun _ hF => ?_
     · refine wB rfl ?_; exact cont_0 _ _ _ (oi hF) sw
     refine wB rfl ?_; exact cont_0 _ _ _ (oi hF) sw
   refine W_exit ?_; refine thenQ_exit ?_; refine thenQ_exit ?_; refine blockQ_hit ?_; exact brk_0 _ _ _ (oi hF) sw
 refine W_skip ?_; refine wA rfl ?_; refine wA rfl ?_; refine wA rfl ?_; refine W_seq ?_; refine wA rfl ?_; refine W_join (fun _ _ h => h) hF (fun (v117, v118) => [(0, cO (5160,0)), (1, cI p1), (2, cI p2), (3, cI p3), (4, .c (.fn 38 [])), (18, cI (w64 (shR .u64 (IntKind.wrap .u64 (w64 (p1 + p3))) 1))), (19, cI (w64 ((w64 (shR .u64 (IntKind.wrap .u64 (w64 (p1 + p3))) 1)) + p2))), (20, cI v117), (21, cI v118)]) (fun (v117, v118) => [((5160,0), .arr 55 7 (List.map t_api_State p0))]) ?_ ?_
 · rintro ⟨v117, v118⟩ hF
   refine wA rfl ?_; refine W_seq ?_; refine W_for (fun _ _ h => h) hF (id) (fun (a135, a136) => [(0, cO (5160,0)), (1, cI p1), (2, cI p2), (3, cI p3), (4, .c (.fn 38 [])), (18, cI (w64 (shR .u64 (IntKind.wrap .u64 (w64 (p1 + p3))) 1))), (19, cI (w64 ((w64 (shR .u64 (IntKind.wrap .u64 (w64 (p1 + p3))) 1)) + p2))), (20, cI a135), (21, cI a136), (22, cI (w64 ((w64 ((w64 (shR .u64 (IntKind.wrap .u64 (w64 (p1 + p3))) 1)) + p2)) - 1)))]) (fun (a135, a136) => [((5160,0), .arr 55 7 (List.map t_api_State p0))]) (fun e142 => [(0, cO (5160,0)), (1, cI p1), (2, cI p2), (3, cI p3), (4, .c (.fn 38 [])), (18, cI (w64 (shR .u64 (IntKind.wrap .u64 (w64 (p1 + p3))) 1))), (19, cI (w64 ((w64 (shR .u64 (IntKind.wrap .u64 (w64 (p1 + p3))) 1)) + p2))), (20, cI e142)]) (fun e142 => [((5160,0), .arr 55 7 (List.map t_api_State p0))]) sw ?_ ?_
   · rintro e142 hF
     refine wA rfl ?_; refine W_seq ?_; refine W_seq ?_; refine W_join (fun _ _ h => h) hF (fun v143 => [(0, cO (5160,0)), (1, cI p1), (2, cI p2), (3, cI p3), (4, .c (.fn 38 [])), (18, cI (w64 (shR .u64 (IntKind.wrap .u64 (w64 (p1 + p3))) 1))), (20, cI e142), (24, cI (w64 ((w64 ((w64 (shR .u64 (IntKind.wrap .u64 (w64 (p1 + p3))) 1)) + p2)) - e142))), (185, cB v143)]) (fun v143 => [((5160,0), .arr 55 7 (List.map t_api_State p0))]) ?_ ?_
     · rintro v143 hF
       refine W_join (fun _ _ h => h) hF (fun v144 => [(0, cO (5160,0)), (1, cI p1), (3, cI p3), (4, .c (.fn 38 [])), (18, cI (w64 (shR .u64 (IntKind.wrap .u64 (w64 (p1 + p3))) 1))), (20, cI e142), (24, cI (w64 ((w64 ((w64 (shR .u64 (IntKind.wrap .u64 (w64 (p1 + p3))) 1)) + p2)) - e142)))]) (fun v144 => [((5160,0), .arr 55 7 (List.map t_api_State v144))]) ?_ ?_
       · rintro v144 hF
         refine W_seq ?_; refine W_seq ?_; refine W_join (fun _ _ h => h) hF (fun v145 => [(0, cO (5160,0)), (1, cI p1), (3, cI p3), (4, .c (.fn 38 [])), (18, cI (w64 (shR .u64 (IntKind.wrap .u64 (w64 (p1 + p3))) 1))), (20, cI e142), (24, cI (w64 ((w64 ((w64 (shR .u64 (IntKind.wrap .u64 (w64 (p1 + p3))) 1)) + p2)) - e142))), (199, cB v145)]) (fun v145 => [((5160,0), .arr 55 7 (List.map t_api_State v144))]) ?_ ?_
         · rintro v145 hF
           refine W_join (fun _ _ h => h) hF (fun v146 => [(0, cO (5160,0)), (3, cI p3), (4, .c (.fn 38 [])), (18, cI (w64 (shR .u64 (IntKind.wrap .u64 (w64 (p1 + p3))) 1))), (24, cI (w64 ((w64 ((w64 (shR .u64 (IntKind.wrap .u64 (w64 (p1 + p3))) 1)) + p2)) - e142)))]) (fun v146 => [((5160,0), .arr 55 7 (List.map t_api_State v146))]) ?_ ?_
           · rintro v146 hF
             refine W_seq ?_; refine W_join (fun _ _ h => h) hF (fun v147 => [(0, cO (5160,0)), (3, cI p3), (4, .c (.fn 38 [])), (18, cI (w64 (shR .u64 (IntKind.wrap .u64 (w64 (p1 + p3))) 1))), (24, cI (w64 ((w64 ((w64 (shR .u64 (IntKind.wrap .u64 (w64 (p1 + p3))) 1)) + p2)) - e142))), (213, cB v147)]) (fun v147 => [((5160,0), .arr 55 7 (List.map t_api_State v146))]) ?_ ?_
             · rintro v147 hF
               refine wIf hF rfl (fun _ hF => ?_) fun _ hF => ?_
               · refine wD 5 rfl ?_; obtain ⟨r148, hr148, hF⟩ := bB hF
                 refine R_stepX trivial (X_callG [] rfl (callN _) (ih _ _ _ _ _ hr148) ⟨rfl, trivial⟩ ⟨.inl rfl, .inl rfl, .inl rfl, .inl rfl, .inl rfl, trivial⟩ rfl rfl rfl ?_); refine QV rfl ?_; cases hF
                 exact ⟨_, _, S_refl, _, rfl, rfl, trivial, (AgM.weak ⟨rfl, trivial⟩)⟩
               refine W_skip ?_; cases hF
               exact ⟨_, _, S_refl, _, rfl, rfl, trivial, (AgM.weak ⟨rfl, trivial⟩)⟩
             intro join hF
             refine wD 4 rfl ?_; cases h150 : (decide ((w64 (shR .u64 (IntKind.wrap .u64 (w64 (p1 + p3))) 1)) < (w64 ((w64 ((w64 (shR .u64 (IntKind.wrap .u64 (w64 (p1 + p3))) 1)) + p2)) - e142))))
             · have hF := bF' h150 hF; refine QV rfl ?_; exact join false _ _ hF sw
             have hF := bT' h150 hF; refine QV rfl ?_; exact join (decide ((w64 ((w64 ((w64 (shR .u64 (IntKind.wrap .u64 (w64 (p1 + p3))) 1)) + p2)) - e142)) < p3)) _ _ hF sw
           intro join hF
           refine wIf' hF rfl (fun _ hF => ?_) fun _ hF => ?_
           · refine wD 5 rfl ?_; obtain ⟨r151, hr151, hF⟩ := bB' hF
             refine R_stepX trivial (X_callG [] rfl (callN _) (ih _ _ _ _ _ hr151) ⟨rfl, trivial⟩ ⟨.inl rfl, .inl rfl, .inl rfl, .inl rfl, .inl rfl, trivial⟩ rfl rfl rfl ?_); refine QV rfl ?_; exact join r151 _ _ hF sw
           refine W_skip ?_; exact join v144 _ _ hF sw
         intro join hF
         refine wD 4 rfl ?_; cases h153 : (decide (p1 < e142))
         · have hF := bF' h153 hF; refine QV rfl ?_; exact join false _ _ hF sw
         have hF := bT' h153 hF; refine QV rfl ?_; exact join (decide (e142 < (w64 (shR .u64 (IntKind.wrap .u64 (w64 (p1 + p3))) 1)))) _ _ hF sw
       intro join hF
       refine wIf' hF rfl (fun _ hF => ?_) fun _ hF => ?_
       · refine wD 5 rfl ?_; obtain ⟨r154, hr154, hF⟩ := bB' hF
         refine R_stepX trivial (X_callG [((6680,0),(5160,0))] rfl (callN _) (slices_rotateCmpFunc_api_State_k1_fun _ _ _ _ _ hr154) ⟨rfl, trivial⟩ ⟨.inl rfl, .inl rfl, .inl rfl, .inl rfl, .inl rfl, trivial⟩ rfl rfl rfl ?_)
         refine QV rfl ?_; exact join r154 _ _ hF sw
       refine W_skip ?_; exact join p0 _ _ hF sw
     intro join hF
     refine wD 4 rfl ?_; cases h156 : (decide (e142 < p2))
     · have hF := bF' h156 hF; refine QV rfl ?_; exact join false _ _ hF sw
     have hF := bT' h156 hF; refine QV rfl ?_; exact join (decide (p2 < (w64 ((w64 ((w64 (shR .u64 (IntKind.wrap .u64 (w64 (p1 + p3))) 1)) + p2)) - e142)))) _ _ hF sw
   rintro ⟨a135, a136⟩ x_0 hF cont_0 brk_0 fin_0
   unfold slices_symMergeCmpFunc_api_State_k1_L5 at hF
   refine W_seq ?_; refine wA rfl ?_; refine wIf hF rfl (fun _ hF => ?_) fun _ hF => ?_
   · refine W_skip ?_; refine W_block ?_; refine wA rfl ?_; refine W_seq ?_; refine W_regD (by decide) (by kernel_rfl) rfl ?_; refine Q_run SP 5 rfl ?_; obtain ⟨y157, hy157, hF⟩ := bB hF
     refine R_step SP trivial (T_ixO (tc := t_api_State) p0 rfl rfl rfl hy157 ?_); refine R_step SP trivial (T_ldE (tc := t_api_State) p0 rfl rfl (idx_get hy157).2.1 rfl ?_); refine Q_run SP 2 rfl ?_; obtain ⟨y158, hy158, hF⟩ := bB hF
     refine R_step SP trivial (T_ixO (tc := t_api_State) p0 rfl rfl rfl hy158 ?_); refine R_step SP trivial (T_ldE (tc := t_api_State) p0 rfl rfl (idx_get hy158).2.1 rfl ?_); obtain ⟨r159, hr159, hF⟩ := bB hF
     refine R_step SP trivial (T_callC (callW _ rfl fnOk38) (latency_Worst_1_fun _ _ _ hr159) ⟨⟨rfl, rfl, rfl, rfl, rfl, rfl, rfl, trivial⟩, ⟨rfl, rfl, rfl, rfl, rfl, rfl, rfl, trivial⟩, trivial⟩ rfl (.inl rfl) ?_)
     refine QP rfl ?_; refine wIf hF rfl (fun _ hF => ?_) fun _ hF => ?_
     · refine wB rfl ?_; exact cont_0 _ _ _ (oi hF) sw
     refine wB rfl ?_; exact cont_0 _ _ _ (oi hF) sw
   refine W_exit ?_; refine thenQ_exit ?_; refine thenQ_exit ?_; refine blockQ_hit ?_; exact brk_0 _ _ _ (oi hF) sw
 intro join hF
 refine wIf' hF rfl (fun _ hF => ?_) fun _ hF => ?_
 · refine wA rfl ?_; refine wB rfl ?_; exact join ((w64 ((w64 ((w64 (shR .u64 (IntKind.wrap .u64 (w64 (p1 + p3))) 1)) + p2)) - p3)), (w64 (shR .u64 (IntKind.wrap .u64 (w64 (p1 + p3))) 1))) _ _ hF sw
 refine wA rfl ?_; refine wB rfl ?_; exact join (p1, p2) _ _ hF sw
theorem slices_symMergeCmpFunc_api_State_k1_fun (p0 : (List api_State)) (p1 : Int) (p2 : Int) (p3 : Int) (r : (List api_State)) (hF : slices_symMergeCmpFunc_api_State_k1 p0 p1 p2 p3 = some r) : Fun Tryz.prog 104 false [(5160,0)] [.c (.slO (5160,0)), .c (.imm (tI p1)), .c (.imm (tI p2)), .c (.imm (tI p3)), .c (.fn 38 [])] (heapOf [((5160,0), .arr 55 7 (List.map t_api_State p0))]) (.tup []) (heapOf [((5160,0), .arr 55 7 (List.map t_api_State r))]) := slices_symMergeCmpFunc_api_State_k1_n_fun _ p0 p1 p2 p3 r hF
def slices_stableCmpFunc_api_State_k1_L1 (p1 : Int) (a81 : Int) : ((List api_State) × Int × Int) → Option (((List api_State) × Int × Int) ⊕ ((List api_State) × Int)) := fun (a95, a96, a97) =>
  (bif (decide (a97 ≤ p1)) then ((slices_symMergeCmpFunc_api_State_k1 a95 a96 (w64 (a96 + a81)) a97).bind fun r105 => some (.inl (r105, a97, (w64 (a97 + (w64 (2 * a81))))))) else some (.inr (a95, a96)))
def slices_stableCmpFunc_api_State_k1_L2 (p1 : Int) : ((List api_State) × Int) → Option (((List api_State) × Int) ⊕ (List api_State)) := fun (a80, a81) =>
  (bif (decide (a81 < p1)) then ((loop (slices_stableCmpFunc_api_State_k1_L1 p1 a81) (a80, 0, (w64 (2 * a81)))).bind fun (e100, e101) => (((bif (decide ((w64 (e101 + a81)) < p1)) then ((slices_symMergeCmpFunc_api_State_k1 e100 e101 (w64 (e101 + a81)) p1).bind fun r103 => some r103) else some e100) : Option (List api_State)).bind fun v102 => some (.inl (v102, (w64 (a81 * 2)))))) else some (.inr a80))
def slices_stableCmpFunc_api_State_k1_L3 (p1 : Int) : ((List api_State) × Int × Int) → Option (((List api_State) × Int × Int) ⊕ ((List api_State) × Int)) := fun (a14, a15, a16) =>
  (bif (decide (a16 ≤ p1)) then ((slices_insertionSortCmpFunc_api_State_k1 a14 a15 a16).bind fun r108 => some (.inl (r108, a16, (w64 (a16 + 20))))) else some (.inr (a14, a15)))
def slices_stableCmpFunc_api_State_k1 (p0 : (List api_State)) (p1 : Int) : Option (List api_State) :=
  ((loop (slices_stableCmpFunc_api_State_k1_L3 p1) (p0, 0, 20)).bind fun (e19, e20) => ((slices_insertionSortCmpFunc_api_State_k1 e19 e20 p1).bind fun r21 => (loop (slices_stableCmpFunc_api_State_k1_L2 p1) (r21, 20))))
theorem slices_stableCmpFunc_api_State_k1_fun (p0 : (List api_State)) (p1 : Int) (r : (List api_State)) (hF : slices_stableCmpFunc_api_State_k1 p0 p1 = some r) : Fun Tryz.prog 53 false [(3120,0)] [cO (3120,0), cI p1, .c (.fn 38 [])] (heapOf [((3120,0), .arr 55 7 (List.map t_api_State p0))]) (.tup []) (heapOf [((3120,0), .arr 55 7 (List.map t_api_State r))]) := by
 refine Fun.of_walkM [(3120,0)] (some [(3120,0)]) Tryz.func53 c53 (by kernel_rfl) (rs := []) (by kernel_rfl) rfl rfl rfl ?_; unfold v53
 unfold slices_stableCmpFunc_api_State_k1 at hF
 refine wA rfl ?_; refine wA rfl ?_; refine W_seq ?_; refine W_for (fun _ _ h => h) hF (id) (fun (a14, a15, a16) => [(0, cO (3120,0)), (1, cI p1), (2, .c (.fn 38 [])), (6, cI 20), (7, cI a15), (8, cI a16)]) (fun (a14, a15, a16) => [((3120,0), .arr 55 7 (List.map t_api_State a14))]) (fun (e19, e20) => [(0, cO (3120,0)), (1, cI p1), (2, .c (.fn 38 [])), (6, cI 20), (7, cI e20)]) (fun (e19, e20) => [((3120,0), .arr 55 7 (List.map t_api_State e19))]) sw ?_ ?_
 · rintro ⟨e19, e20⟩ hF
   refine wC 4 rfl ?_; obtain ⟨r21, hr21, hF⟩ := bB hF
   refine R_stepX trivial (X_callG [((5120,0),(3120,0))] rfl (callN _) (slices_insertionSortCmpFunc_api_State_k1_fun _ _ _ _ hr21) ⟨rfl, trivial⟩ ⟨.inl rfl, .inl rfl, .inl rfl, .inl rfl, trivial⟩ rfl rfl rfl ?_)
   refine QV rfl ?_; refine W_for0 hF (fun (a80, a81) => [(0, cO (3120,0)), (1, cI p1), (2, .c (.fn 38 [])), (6, cI a81)]) (fun (a80, a81) => [((3120,0), .arr 55 7 (List.map t_api_State a80))]) sw ?_
   rintro ⟨a80, a81⟩ x_0 hF cont_0 fin_0
   unfold slices_stableCmpFunc_api_State_k1_L2 at hF
   refine W_seq ?_; refine wA rfl ?_; refine wIf hF rfl (fun _ hF => ?_) fun _ hF => ?_
   · refine W_skip ?_; refine W_block ?_; refine wA rfl ?_; refine W_seq ?_; refine W_for (fun _ _ h => h) hF (id) (fun (a95, a96, a97) => [(0, cO (3120,0)), (1, cI p1), (2, .c (.fn 38 [])), (6, cI a81), (7, cI a96), (8, cI a97)]) (fun (a95, a96, a97) => [((3120,0), .arr 55 7 (List.map t_api_State a95))]) (fun (e100, e101) => [(0, cO (3120,0)), (1, cI p1), (2, .c (.fn 38 [])), (6, cI a81), (7, cI e101)]) (fun (e100, e101) => [((3120,0), .arr 55 7 (List.map t_api_State e100))]) sw ?_ ?_
     · rintro ⟨e100, e101⟩ hF
       refine W_seq ?_; refine wA rfl ?_; refine wA rfl ?_; refine W_join (fun _ _ h => h) hF (fun v102 => [(0, cO (3120,0)), (1, cI p1), (2, .c (.fn 38 [])), (6, cI a81)]) (fun v102 => [((3120,0), .arr 55 7 (List.map t_api_State v102))]) ?_ ?_
       · rintro v102 hF
         refine wB rfl ?_; exact cont_0 _ _ _ (oi hF) sw
       intro join hF
       refine wIf' hF rfl (fun _ hF => ?_) fun _ hF => ?_
       · refine wD 5 rfl ?_; obtain ⟨r103, hr103, hF⟩ := bB' hF
         refine R_stepX trivial (X_callG [((5160,0),(3120,0))] rfl (callN _) (slices_symMergeCmpFunc_api_State_k1_fun _ _ _ _ _ hr103) ⟨rfl, trivial⟩ ⟨.inl rfl, .inl rfl, .inl rfl, .inl rfl, .inl rfl, trivial⟩ rfl rfl rfl ?_)
         refine QV rfl ?_; exact join r103 _ _ hF sw
       refine W_skip ?_; exact join e100 _ _ hF sw
     rintro ⟨a95, a96, a97⟩ x_1 hF cont_1 brk_1 fin_1
     unfold slices_stableCmpFunc_api_State_k1_L1 at hF
     refine W_seq ?_; refine wA rfl ?_; refine wIf hF rfl (fun _ hF => ?_) fun _ hF => ?_
     · refine W_skip ?_; refine W_block ?_; refine wC 7 rfl ?_; obtain ⟨r105, hr105, hF⟩ := bB hF
       refine R_stepX trivial (X_callG [((5160,0),(3120,0))] rfl (callN _) (slices_symMergeCmpFunc_api_State_k1_fun _ _ _ _ _ hr105) ⟨rfl, trivial⟩ ⟨.inl rfl, .inl rfl, .inl rfl, .inl rfl, .inl rfl, trivial⟩ rfl rfl rfl ?_)
       refine QV rfl ?_; refine wA rfl ?_; refine wB rfl ?_; exact cont_1 _ _ _ (oi hF) sw
     refine W_exit ?_; refine thenQ_exit ?_; refine thenQ_exit ?_; refine blockQ_hit ?_; exact brk_1 _ _ _ (oi hF) sw
   refine W_exit ?_; refine thenQ_exit ?_; refine thenQ_exit ?_; refine blockQ_hit ?_; have hF := fin_0 _ (oi hF); cases hF
   exact ⟨_, _, S_refl, _, rfl, rfl, trivial, (AgM.weak ⟨rfl, trivial⟩)⟩
 rintro ⟨a14, a15, a16⟩ x_0 hF cont_0 brk_0 fin_0
 unfold slices_stableCmpFunc_api_State_k1_L3 at hF
 refine W_seq ?_; refine wA rfl ?_; refine wIf hF rfl (fun _ hF => ?_) fun _ hF => ?_
 · refine W_skip ?_; refine W_block ?_; refine wC 4 rfl ?_; obtain ⟨r108, hr108, hF⟩ := bB hF
   refine R_stepX trivial (X_callG [((5120,0),(3120,0))] rfl (callN _) (slices_insertionSortCmpFunc_api_State_k1_fun _ _ _ _ hr108) ⟨rfl, trivial⟩ ⟨.inl rfl, .inl rfl, .inl rfl, .inl rfl, trivial⟩ rfl rfl rfl ?_)
   refine QV rfl ?_; refine wA rfl ?_; refine wB rfl ?_; exact cont_0 _ _ _ (oi hF) sw
 refine W_exit ?_; refine thenQ_exit ?_; refine thenQ_exit ?_; refine blockQ_hit ?_; exact brk_0 _ _ _ (oi hF) sw
def slices_SortStableFunc_api_State_api_State_k1 (p0 : (List api_State)) : Option (List api_State) :=
  ((slices_stableCmpFunc_api_State_k1 p0 (List.length p0 : Int)).bind fun r1 => some r1)
theorem slices_SortStableFunc_api_State_api_State_k1_fun (p0 : (List api_State)) (r : (List api_State)) (hF : slices_SortStableFunc_api_State_api_State_k1 p0 = some r) : Fun Tryz.prog 37 false [(2480,0)] [cO (2480,0), .c (.fn 38 [])] (heapOf [((2480,0), .arr 55 7 (List.map t_api_State p0))]) (.tup []) (heapOf [((2480,0), .arr 55 7 (List.map t_api_State r))]) := by
 refine Fun.of_walkM [(2480,0)] (some [(2480,0)]) Tryz.func37 c37 (by kernel_rfl) (rs := []) (by kernel_rfl) rfl rfl rfl ?_; unfold v37
 unfold slices_SortStableFunc_api_State_api_State_k1 at hF
 refine wD 2 rfl ?_; refine rS (T_len (tc := t_api_State) p0 (.own _ _ rfl) ?_); refine Q_run SV 1 rfl ?_; obtain ⟨r1, hr1, hF⟩ := bB hF
 refine R_stepX trivial (X_callG [((3120,0),(2480,0))] rfl (callN _) (slices_stableCmpFunc_api_State_k1_fun _ _ _ hr1) ⟨rfl, trivial⟩ ⟨.inl rfl, .inl rfl, .inl rfl, trivial⟩ rfl rfl rfl ?_); refine QV rfl ?_
 cases hF
 exact ⟨_, _, S_refl, _, rfl, rfl, trivial, (AgM.weak ⟨rfl, trivial⟩)⟩
def latency_Worst (p0 : api_Trace) (p1 : Int) : Option ((List api_State) × Int) :=
  ((trace_Check p0).bind fun r1 => (bif (!decide (r1 = 0)) then some ([], r1) else (bif (decide (p1 < 0)) then some ([], 2) else ((latency_waits p0).bind fun r2 => ((slices_SortStableFunc_api_State_api_State_k1 r2).bind fun r3 => ((slcPart r3 0 (min p1 (List.length r3 : Int))).bind fun y4 => some (y4, 0)))))))
theorem latency_Worst_fun (p0 : api_Trace) (p1 : Int) (r : ((List api_State) × Int)) (hF : latency_Worst p0 p1 = some r) : Fun Tryz.prog 15 false [] [.agg (m_api_Trace p0), cI p1] (heapOf []) (.tup [cO (902,600), cI r.2]) (heapOf [((902,600), .arr 55 7 (List.map t_api_State r.1))]) := by
 refine Fun.of_walkM [] (some []) Tryz.func15 c15 (by kernel_rfl) (rs := [.tmp 4, .tmp 5]) (by kernel_rfl) rfl rfl rfl ?_; unfold v15
 unfold latency_Worst at hF
 refine wA rfl ?_; refine W_seq ?_; refine wC 1 rfl ?_; obtain ⟨r1, hr1, hF⟩ := bB hF
 refine rS (T_call (trace_Check_fun _ _ hr1) ⟨⟨rfl, rfl, rfl, rfl, rfl, rfl, rfl, rfl, rfl, rfl, trivial⟩, trivial⟩ rfl (.inl rfl) ?_); refine QV rfl ?_; refine wA rfl ?_; refine wIf hF rfl (fun _ hF => ?_) fun _ hF => ?_
 · refine wA rfl ?_; cases hF
   exact W_ret ⟨_, _, (S_own 4 (902,600) 55 7 rfl rfl rfl rfl S_refl), _, rfl, rfl, ⟨rfl, ⟨rfl, fun _ => rfl⟩, trivial⟩, (AgM.weak ⟨rfl, trivial⟩)⟩
 refine W_skip ?_; refine W_seq ?_; refine wA rfl ?_; refine wIf hF rfl (fun _ hF => ?_) fun _ hF => ?_
 · refine wA rfl ?_; cases hF
   exact W_ret ⟨_, _, (S_own 4 (902,600) 55 7 rfl rfl rfl rfl S_refl), _, rfl, rfl, ⟨rfl, ⟨rfl, fun _ => rfl⟩, trivial⟩, (AgM.weak ⟨rfl, trivial⟩)⟩
 refine W_skip ?_; refine wC 1 rfl ?_; obtain ⟨r2, hr2, hF⟩ := bB hF
 refine R_stepX trivial (X_callG [((902,1160),(16,1))] rfl (callN _) (latency_waits_fun _ _ hr2) trivial ⟨.inr ⟨rfl, rfl, rfl, rfl, rfl, rfl, rfl, rfl, rfl, rfl, trivial⟩, trivial⟩ rfl rfl rfl ?_); refine QV rfl ?_
 refine wC 1 rfl ?_; obtain ⟨r3, hr3, hF⟩ := bB hF
 refine R_stepX trivial (X_callG [((2480,0),(16,1))] rfl (callN _) (slices_SortStableFunc_api_State_api_State_k1_fun _ _ hr3) ⟨rfl, trivial⟩ ⟨.inl rfl, .inl rfl, trivial⟩ rfl rfl rfl ?_); refine QV rfl ?_
 refine wC 3 rfl ?_; refine rS (T_len (tc := t_api_State) r3 (.own _ _ rfl) ?_); refine Q_run SV 1 rfl ?_; obtain ⟨y4, hy4, hF⟩ := bB hF
 refine R_stepX trivial (X_subO (tc := t_api_State) r3 rfl rfl rfl hy4 rfl ?_); refine QV rfl ?_; cases hF
 exact W_ret ⟨_, _, (S_ren (24,0) (902,600) rfl rfl S_refl), _, rfl, rfl, ⟨rfl, ⟨rfl, fun _ => rfl⟩, trivial⟩, (AgM.weak ⟨rfl, trivial⟩)⟩
def tracebookref49_SameInts_L1 (p0 : (List Int)) (p1 : (List Int)) : Int → Option (Int ⊕ (Unit ⊕ Bool)) := fun a12 =>
  (bif (decide (a12 < (List.length p0 : Int))) then ((idx p0 a12).bind fun y17 => ((idx p1 a12).bind fun y18 => (bif (!decide (y17 = y18)) then some (.inr (.inr false)) else some (.inl (w64 (a12 + 1)))))) else some (.inr (.inl ())))
def tracebookref49_SameInts (p0 : (List Int)) (p1 : (List Int)) : Option Bool :=
  (bif (!decide ((List.length p0 : Int) = (List.length p1 : Int))) then some false else ((loop (tracebookref49_SameInts_L1 p0 p1) 0).bind fun | .inl _ => some true | .inr rv => some rv))
theorem tracebookref49_SameInts_fun (p0 : (List Int)) (p1 : (List Int)) (r : Bool) (hF : tracebookref49_SameInts p0 p1 = some r) : Fun Tryz.prog 17 true [] [cL 1 t_i64 p0, cL 1 t_i64 p1] noHeap (cB r) noHeap := by
 refine Fun.of_walk0 Tryz.func17 c17 (by kernel_rfl) (rs := [.tmp 4]) (by kernel_rfl) ?_; unfold v17
 unfold tracebookref49_SameInts at hF
 refine wA rfl ?_; refine W_seq ?_; refine wC 1 rfl ?_; refine rS (T_len (tc := t_i64) p0 .tree ?_); refine Q_run SV 1 rfl ?_; refine rS (T_len (tc := t_i64) p1 .tree ?_); refine QV rfl ?_; refine wIf hF rfl (fun _ hF => ?_) fun _ hF => ?_
 · refine wA rfl ?_; cases hF
   exact W_ret wR
 refine W_skip ?_; refine W_seq ?_; refine wA rfl ?_; refine W_for (fun _ _ h => h) hF (.inl) (fun a12 => [(0, cL 1 t_i64 p0), (1, cL 1 t_i64 p1), (5, cI a12)]) (fun a12 => []) (fun _ => []) (fun _ => []) sw ?_ ?_
 · rintro ⟨⟩ hF
   refine wA rfl ?_; cases hF
   exact W_ret wR
 rintro a12 x_0 hF cont_0 brk_0 fin_0
 unfold tracebookref49_SameInts_L1 at hF
 refine W_seq ?_; refine wC 2 rfl ?_; refine rS (T_len (tc := t_i64) p0 .tree ?_); refine QV rfl ?_; refine wIf hF rfl (fun _ hF => ?_) fun _ hF => ?_
 · refine W_skip ?_; refine W_seq ?_; refine W_block ?_; refine W_seq ?_; refine W_regD (by decide) (by kernel_rfl) rfl ?_; refine Q_run SP 2 rfl ?_; obtain ⟨y17, hy17, hF⟩ := bB hF
   refine R_step SP trivial (T_ixT (tc := t_i64) p0 rfl rfl hy17 ?_); refine Q_run SP 3 rfl ?_; obtain ⟨y18, hy18, hF⟩ := bB hF
   refine R_step SP trivial (T_ixT (tc := t_i64) p1 rfl rfl hy18 ?_); refine QP rfl ?_; refine wIf hF rfl (fun _ hF => ?_) fun _ hF => ?_
   · refine wA rfl ?_; have hF := fin_0 _ (oi hF); cases hF
     exact W_ret wR
   refine W_skip ?_; refine wB rfl ?_; exact cont_0 _ _ _ (oi hF) sw
 refine W_exit ?_; refine thenQ_exit ?_; refine thenQ_exit ?_; refine blockQ_hit ?_; exact brk_0 _ _ _ (oi hF) sw
def math_bits_Len (p0 : Int) : Option Int :=
  ((math_bits_Len64 p0).bind fun r1 => some r1)
theorem math_bits_Len_fun (p0 : Int) (r : Int) (hF : math_bits_Len p0 = some r) : Fun Tryz.prog 42 true [] [.c (.imm (.sc (.int .u64 p0)))] noHeap (cI r) noHeap := by
 refine Fun.of_walk0 Tryz.func42 c42 (by kernel_rfl) (rs := [.tmp 2]) (by kernel_rfl) ?_; unfold v42
 unfold math_bits_Len at hF
 refine wA rfl ?_; refine W_seq ?_; refine W_condL (t := false) rfl (fun h => (by cases h)) (fun h => ?_)
 refine W_skip ?_; refine wC 1 rfl ?_; obtain ⟨r1, hr1, hF⟩ := bB hF
 refine rS (T_call (math_bits_Len64_fun _ _ hr1) ⟨rfl, trivial⟩ rfl (.inl rfl) ?_); refine QV rfl ?_; cases hF
 exact W_ret wR
def latency_Histogram_L1 (r72 : Int) : (List Int) → Option ((List Int) ⊕ (List Int)) := fun a80 =>
  (bif (decide ((List.length a80 : Int) ≤ r72)) then (bif room 8 (List.length a80 + List.length [0]) then some (.inl (a80 ++ [0])) else none) else some (.inr a80))
def latency_Histogram_L2 (p0 : (List Int)) : ((List Int) × Int) → Option (((List Int) × Int) ⊕ (List Int)) := fun (a47, a48) =>
  (bif (decide (a48 < (List.length p0 : Int))) then ((((idx p0 a48).bind fun y71 => (bif (decide (y71 < 0)) then some a47 else ((math_bits_Len (IntKind.wrap .u64 y71)).bind fun r72 => ((loop (latency_Histogram_L1 r72) a47).bind fun e83 => ((idx e83 r72).bind fun y84 => ((idx e83 r72).bind fun y85 => some (List.set e83 (Int.toNat r72) (w64 (y84 + 1))))))))) : Option (List Int)).bind fun v70 => some (.inl (v70, (w64 (a48 + 1))))) else some (.inr a47))
def latency_Histogram (p0 : (List Int)) : Option (List Int) :=
  ((loop (latency_Histogram_L2 p0) ([], 0)).bind fun e69 => some e69)
theorem latency_Histogram_fun (p0 : (List Int)) (r : (List Int)) (hF : latency_Histogram p0 = some r) : Fun Tryz.prog 21 false [] [cL 1 t_i64 p0] (heapOf []) (cO (902,840)) (heapOf [((902,840), .arr 3 1 (List.map t_i64 r))]) := by
 refine Fun.of_walkM [] (some []) Tryz.func21 c21 (by kernel_rfl) (rs := [.tmp 2]) (by kernel_rfl) rfl rfl rfl ?_; unfold v21
 unfold latency_Histogram at hF
 refine wA rfl ?_; refine wA rfl ?_; refine W_seq ?_; refine wC 1 rfl ?_; refine rS (T_len (tc := t_i64) p0 .tree ?_); refine QV rfl ?_; refine W_for (fun _ _ h => h) hF (id) (fun (a47, a48) => [(3, cO (24,1)), (7, cL 1 t_i64 p0), (8, cI (List.length p0 : Int)), (9, cI a48)]) (fun (a47, a48) => [((24,1), .arr 3 1 (List.map t_i64 a47))]) (fun e69 => [(3, cO (24,1))]) (fun e69 => [((24,1), .arr 3 1 (List.map t_i64 e69))]) (S_own 3 (24,1) 3 1 rfl rfl rfl rfl sw) ?_ ?_
 · rintro e69 hF
   refine wA rfl ?_; cases hF
   exact W_ret ⟨_, _, (S_ren (24,1) (902,840) rfl rfl S_refl), _, rfl, rfl, rfl, (AgM.weak ⟨rfl, trivial⟩)⟩
 rintro ⟨a47, a48⟩ x_0 hF cont_0 brk_0 fin_0
 unfold latency_Histogram_L2 at hF
 refine wA rfl ?_; refine W_seq ?_; refine wIf hF rfl (fun _ hF => ?_) fun _ hF => ?_
 · refine W_skip ?_; refine W_seq ?_; refine W_join (fun _ _ h => h) hF (fun v70 => [(3, cO (24,1)), (7, cL 1 t_i64 p0), (8, cI (List.length p0 : Int)), (9, cI a48)]) (fun v70 => [((24,1), .arr 3 1 (List.map t_i64 v70))]) ?_ ?_
   · rintro v70 hF
     refine wB rfl ?_; exact cont_0 _ _ _ (oi hF) sw
   intro join hF
   refine W_block ?_; refine wE ?_; obtain ⟨y71, hy71, hF⟩ := bB' hF
   refine rS (T_ixT (tc := t_i64) p0 rfl rfl hy71 ?_); refine QV rfl ?_; refine W_seq ?_; refine wA rfl ?_; refine wIf' hF rfl (fun _ hF => ?_) fun _ hF => ?_
   · refine W_exit ?_; refine thenQ_exit ?_; refine blockQ_hit ?_; exact join a47 _ _ hF sw
   refine W_skip ?_; refine wC 2 rfl ?_; obtain ⟨r72, hr72, hF⟩ := bB' hF
   refine rS (T_call (math_bits_Len_fun _ _ hr72) ⟨rfl, trivial⟩ rfl (.inl rfl) ?_); refine QV rfl ?_; refine W_seq ?_; have hF := bA hF; refine W_for (fun _ _ h => h) hF (id) (fun a80 => [(3, cO (24,1)), (6, cI r72), (7, cL 1 t_i64 p0), (8, cI (List.length p0 : Int)), (9, cI a48)]) (fun a80 => [((24,1), .arr 3 1 (List.map t_i64 a80))]) (fun e83 => [(3, cO (24,1)), (6, cI r72), (7, cL 1 t_i64 p0), (8, cI (List.length p0 : Int)), (9, cI a48)]) (fun e83 => [((24,1), .arr 3 1 (List.map t_i64 e83))]) sw ?_ ?_
   · rintro e83 hF
     refine wD 2 rfl ?_; obtain ⟨y84, hy84, hF⟩ := bB' hF
     refine rS (T_ixO (tc := t_i64) e83 rfl rfl rfl hy84 ?_); refine rS (T_ldE (tc := t_i64) e83 rfl rfl (idx_get hy84).2.1 rfl ?_); refine Q_run SV 1 rfl ?_; obtain ⟨y85, hy85, hF⟩ := bB' hF
     refine rS (T_ixO (tc := t_i64) e83 rfl rfl rfl hy85 ?_); refine rS (T_stE (tc := t_i64) e83 (w64 (y84 + 1)) rfl rfl (idx_get hy85).2.1 rfl rfl rfl rfl rfl ?_); refine QV rfl ?_; exact join (List.set e83 (Int.toNat r72) (w64 (y84 + 1))) _ _ hF sw
   rintro a80 x_1 hF cont_1 brk_1 fin_1
   unfold latency_Histogram_L1 at hF
   refine W_seq ?_; refine wC 1 rfl ?_; refine rS (T_len (tc := t_i64) a80 (.own _ _ rfl) ?_); refine QV rfl ?_; refine wIf hF rfl (fun _ hF => ?_) fun _ hF => ?_
   · refine W_skip ?_; refine W_block ?_; refine wD 1 rfl ?_; refine rS (T_bsl (tc := t_i64) [0] rfl ⟨rfl, trivial⟩ rfl (fun _ => rfl) rfl ?_)
     obtain ⟨h86, hF⟩ := roomT hF
     refine rS (T_appO (tc := t_i64) a80 [0] rfl rfl (.own _ _ rfl) h86 rfl ?_); refine QV rfl ?_; exact cont_1 _ _ _ (oi hF) (S_ren (24,0) (24,1) rfl rfl sw)
   refine W_exit ?_; refine thenQ_exit ?_; refine thenQ_exit ?_; refine blockQ_hit ?_; exact brk_1 _ _ _ (oi hF) sw
 refine W_exit ?_; refine thenQ_exit ?_; refine thenQ_exit ?_; refine blockQ_hit ?_; exact brk_0 _ _ _ (oi hF) sw
def tracebooklaw49_awake  : Option Bool :=
  ((tracebooklaw49_example ).bind fun r1 => ((latency_Of r1 1).bind fun r2 => ((tracebooklaw49_example ).bind fun r3 => ((latency_All r3).bind fun r4 => ((tracebooklaw49_example ).bind fun r5 => ((latency_Quantile r5 1 2).bind fun r6 => ((tracebooklaw49_example ).bind fun r7 => ((latency_Quantile r7 3 2).bind fun r8 => ((tracebooklaw49_example ).bind fun r9 => ((latency_Worst r9 5).bind fun r10 => ((tracebooklaw49_example ).bind fun r11 => ((latency_Of r11 2).bind fun r12 => ((tracebooklaw49_example ).bind fun r13 => ((latency_Worst r13 (-1)).bind fun r14 => ((((tracebookref49_SameInts r2.1 [4]).bind fun r16 => (bif r16 then (bif (decide (r2.2 = 0)) then ((tracebookref49_SameInts r4.1 [4]).bind fun r19 => (bif r19 then (bif (decide (r4.2 = 0)) then (bif (decide (r6.1 = 4)) then (bif (decide (r6.2 = 0)) then (bif (decide (r8.2 = 1)) then (bif (decide ((List.length r10.1 : Int) = 1)) then ((idx r10.1 0).bind fun y26 => (bif (decide (y26.fSpan.fTo = 4)) then (bif (decide (r10.2 = 0)) then (bif (decide (r12.2 = 5)) then (bif (decide (r14.2 = 2)) then ((latency_Histogram [0, 1, 2, 3, 8, (-1)]).bind fun r31 => ((tracebookref49_SameInts r31 [1, 1, 2, 0, 1]).bind fun r32 => some r32)) else some false) else some false) else some false) else some false)) else some false) else some false) else some false) else some false) else some false) else some false)) else some false) else some false)) : Option Bool).bind fun v15 => some v15)))))))))))))))
theorem tracebooklaw49_awake_fun  (r : Bool) (hF : tracebooklaw49_awake  = some r) : Fun Tryz.prog 10 true [] [] noHeap (cB r) noHeap := by
 refine Fun.of_walk0 Tryz.func10 c10 (by kernel_rfl) (rs := [.tmp 0]) (by kernel_rfl) ?_; unfold v10
 unfold tracebooklaw49_awake at hF
 refine wA rfl ?_; refine wE ?_; obtain ⟨r1, hr1, hF⟩ := bB hF
 refine R_stepX trivial (X_callG [((902,1040),(16,1)), ((902,1041),(16,2))] rfl (callN _) (tracebooklaw49_example_fun _ hr1) trivial trivial rfl rfl rfl ?_); obtain ⟨r2, hr2, hF⟩ := bB hF
 refine R_stepX trivial (X_callL [((902,440),(17,1))] rfl (callN _) (latency_Of_fun _ _ _ hr2) trivial ⟨.inr ⟨rfl, rfl, ⟨_, rfl⟩, rfl, ⟨_, rfl⟩, rfl, rfl, rfl, rfl, rfl, trivial⟩, .inr rfl, trivial⟩ rfl rfl rfl rfl ⟨(flatArr fun _ => rfl), trivial⟩ ?_)
 refine QV rfl ?_; refine wE ?_; obtain ⟨r3, hr3, hF⟩ := bB hF
 refine R_stepX trivial (X_callG [((902,1040),(21,1)), ((902,1041),(21,2))] rfl (callN _) (tracebooklaw49_example_fun _ hr3) trivial trivial rfl rfl rfl ?_); obtain ⟨r4, hr4, hF⟩ := bB hF
 refine R_stepX trivial (X_callL [((902,520),(22,1))] rfl (callN _) (latency_All_fun _ _ hr4) trivial ⟨.inr ⟨rfl, rfl, ⟨_, rfl⟩, rfl, ⟨_, rfl⟩, rfl, rfl, rfl, rfl, rfl, trivial⟩, trivial⟩ rfl rfl rfl rfl ⟨(flatArr fun _ => rfl), trivial⟩ ?_)
 refine QV rfl ?_; refine wE ?_; obtain ⟨r5, hr5, hF⟩ := bB hF
 refine R_stepX trivial (X_callG [((902,1040),(26,1)), ((902,1041),(26,2))] rfl (callN _) (tracebooklaw49_example_fun _ hr5) trivial trivial rfl rfl rfl ?_); obtain ⟨r6, hr6, hF⟩ := bB hF
 refine rS (T_call (latency_Quantile_fun _ _ _ _ hr6) ⟨⟨rfl, rfl, ⟨_, rfl⟩, rfl, ⟨_, rfl⟩, rfl, rfl, rfl, rfl, rfl, trivial⟩, rfl, rfl, trivial⟩ rfl (.inl rfl) ?_); refine QV rfl ?_; refine wE ?_; obtain ⟨r7, hr7, hF⟩ := bB hF
 refine R_stepX trivial (X_callG [((902,1040),(31,1)), ((902,1041),(31,2))] rfl (callN _) (tracebooklaw49_example_fun _ hr7) trivial trivial rfl rfl rfl ?_); obtain ⟨r8, hr8, hF⟩ := bB hF
 refine rS (T_call (latency_Quantile_fun _ _ _ _ hr8) ⟨⟨rfl, rfl, ⟨_, rfl⟩, rfl, ⟨_, rfl⟩, rfl, rfl, rfl, rfl, rfl, trivial⟩, rfl, rfl, trivial⟩ rfl (.inl rfl) ?_); refine QV rfl ?_; refine wE ?_; obtain ⟨r9, hr9, hF⟩ := bB hF
 refine R_stepX trivial (X_callG [((902,1040),(36,1)), ((902,1041),(36,2))] rfl (callN _) (tracebooklaw49_example_fun _ hr9) trivial trivial rfl rfl rfl ?_); obtain ⟨r10, hr10, hF⟩ := bB hF
 refine R_stepX trivial (X_callL [((902,600),(37,1))] rfl (callN _) (latency_Worst_fun _ _ _ hr10) trivial ⟨.inr ⟨rfl, rfl, ⟨_, rfl⟩, rfl, ⟨_, rfl⟩, rfl, rfl, rfl, rfl, rfl, trivial⟩, .inr rfl, trivial⟩ rfl rfl rfl rfl ⟨(flatArr fun _ => rfl), trivial⟩ ?_)
 refine QV rfl ?_; refine wE ?_; obtain ⟨r11, hr11, hF⟩ := bB hF
 refine R_stepX trivial (X_callG [((902,1040),(41,1)), ((902,1041),(41,2))] rfl (callN _) (tracebooklaw49_example_fun _ hr11) trivial trivial rfl rfl rfl ?_); obtain ⟨r12, hr12, hF⟩ := bB hF
 refine R_stepX trivial (X_callL [((902,440),(42,1))] rfl (callN _) (latency_Of_fun _ _ _ hr12) trivial ⟨.inr ⟨rfl, rfl, ⟨_, rfl⟩, rfl, ⟨_, rfl⟩, rfl, rfl, rfl, rfl, rfl, trivial⟩, .inr rfl, trivial⟩ rfl rfl rfl rfl ⟨(flatArr fun _ => rfl), trivial⟩ ?_)
 refine QV rfl ?_; refine wE ?_; obtain ⟨r13, hr13, hF⟩ := bB hF
 refine R_stepX trivial (X_callG [((902,1040),(46,1)), ((902,1041),(46,2))] rfl (callN _) (tracebooklaw49_example_fun _ hr13) trivial trivial rfl rfl rfl ?_); obtain ⟨r14, hr14, hF⟩ := bB hF
 refine R_stepX trivial (X_callL [((902,600),(47,1))] rfl (callN _) (latency_Worst_fun _ _ _ hr14) trivial ⟨.inr ⟨rfl, rfl, ⟨_, rfl⟩, rfl, ⟨_, rfl⟩, rfl, rfl, rfl, rfl, rfl, trivial⟩, .inr rfl, trivial⟩ rfl rfl rfl rfl ⟨(flatArr fun _ => rfl), trivial⟩ ?_)
 refine QV rfl ?_; refine W_seq ?_; refine W_join (fun _ _ h => h) hF (fun v15 => [(0, cB v15)]) (fun v15 => []) ?_ ?_
 · rintro v15 hF
   cases hF
   exact W_ret wR
 intro join hF
 refine wD 1 rfl ?_; refine rS (T_bsl (tc := t_i64) [4] rfl ⟨rfl, trivial⟩ rfl (fun _ => rfl) rfl ?_)
 obtain ⟨r16, hr16, hF⟩ := bB' hF
 refine rS (T_call (tracebookref49_SameInts_fun _ _ _ hr16) ⟨⟨_, rfl⟩, ⟨_, rfl⟩, trivial⟩ rfl (.inl rfl) ?_); refine Q_run SV 1 rfl ?_; cases h17 : r16
 · have hF := bF' h17 hF; refine QV rfl ?_; exact join false _ _ hF sw
 have hF := bT' h17 hF; refine Q_run SV 4 rfl ?_; cases h18 : (decide (r2.2 = 0))
 · have hF := bF' h18 hF; refine QV rfl ?_; exact join false _ _ hF sw
 have hF := bT' h18 hF; refine Q_run SV 1 rfl ?_; refine R_step SV rfl (T_bsl (tc := t_i64) [4] rfl ⟨rfl, trivial⟩ rfl (fun _ => rfl) rfl ?_)
 obtain ⟨r19, hr19, hF⟩ := bB' hF
 refine R_step SV rfl (T_call (tracebookref49_SameInts_fun _ _ _ hr19) ⟨⟨_, rfl⟩, ⟨_, rfl⟩, trivial⟩ rfl (.inl rfl) ?_); refine Q_run SV 2 rfl ?_; cases h20 : r19
 · have hF := bF' h20 hF; refine QV rfl ?_; exact join false _ _ hF sw
 have hF := bT' h20 hF; refine Q_run SV 4 rfl ?_; cases h21 : (decide (r4.2 = 0))
 · have hF := bF' h21 hF; refine QV rfl ?_; exact join false _ _ hF sw
 have hF := bT' h21 hF; refine Q_run SV 4 rfl ?_; cases h22 : (decide (r6.1 = 4))
 · have hF := bF' h22 hF; refine QV rfl ?_; exact join false _ _ hF sw
 have hF := bT' h22 hF; refine Q_run SV 4 rfl ?_; cases h23 : (decide (r6.2 = 0))
 · have hF := bF' h23 hF; refine QV rfl ?_; exact join false _ _ hF sw
 have hF := bT' h23 hF; refine Q_run SV 4 rfl ?_; cases h24 : (decide (r8.2 = 1))
 · have hF := bF' h24 hF; refine QV rfl ?_; exact join false _ _ hF sw
 have hF := bT' h24 hF; refine Q_run SV 1 rfl ?_; refine R_step SV rfl (T_len (tc := t_api_State) r10.1 (.own _ _ rfl) ?_); refine Q_run SV 3 rfl ?_; cases h25 : (decide ((List.length r10.1 : Int) = 1))
 · have hF := bF' h25 hF; refine QV rfl ?_; exact join false _ _ hF sw
 have hF := bT' h25 hF; refine Q_run SV 1 rfl ?_; obtain ⟨y26, hy26, hF⟩ := bB' hF
 refine R_step SV rfl (T_ixO (tc := t_api_State) r10.1 rfl rfl rfl hy26 ?_); refine Q_run SV 2 rfl ?_; refine R_step SV rfl (T_ldE (tc := t_api_State) r10.1 rfl rfl (idx_get hy26).2.1 rfl ?_); refine Q_run SV 3 rfl ?_
 cases h27 : (decide (y26.fSpan.fTo = 4))
 · have hF := bF' h27 hF; refine QV rfl ?_; exact join false _ _ hF sw
 have hF := bT' h27 hF; refine Q_run SV 4 rfl ?_; cases h28 : (decide (r10.2 = 0))
 · have hF := bF' h28 hF; refine QV rfl ?_; exact join false _ _ hF sw
 have hF := bT' h28 hF; refine Q_run SV 4 rfl ?_; cases h29 : (decide (r12.2 = 5))
 · have hF := bF' h29 hF; refine QV rfl ?_; exact join false _ _ hF sw
 have hF := bT' h29 hF; refine Q_run SV 4 rfl ?_; cases h30 : (decide (r14.2 = 2))
 · have hF := bF' h30 hF; refine QV rfl ?_; exact join false _ _ hF sw
 have hF := bT' h30 hF; refine R_step SV rfl (T_bsl (tc := t_i64) [0, 1, 2, 3, 8, (-1)] rfl ⟨rfl, rfl, rfl, rfl, rfl, rfl, trivial⟩ rfl (fun _ => rfl) rfl ?_)
 obtain ⟨r31, hr31, hF⟩ := bB' hF
 refine R_stepX rfl (X_callL [((902,840),(105,1))] rfl (callN _) (latency_Histogram_fun _ _ hr31) trivial ⟨.inr ⟨_, rfl⟩, trivial⟩ rfl rfl rfl rfl ⟨(flatArr fun _ => rfl), trivial⟩ ?_)
 refine R_step SV rfl (T_bsl (tc := t_i64) [1, 1, 2, 0, 1] rfl ⟨rfl, rfl, rfl, rfl, rfl, trivial⟩ rfl (fun _ => rfl) rfl ?_)
 obtain ⟨r32, hr32, hF⟩ := bB' hF
 refine R_step SV rfl (T_call (tracebookref49_SameInts_fun _ _ _ hr32) ⟨⟨_, rfl⟩, ⟨_, rfl⟩, trivial⟩ rfl (.inl rfl) ?_); refine QV rfl ?_; exact join r32 _ _ hF sw
def tracebooklaw49_LatencyWorst_L1 (r3 : ((List api_State) × Int)) (r4 : ((List Int) × Int)) : Int → Option (Int ⊕ (Unit ⊕ Bool)) := fun a33 =>
  (bif (decide (a33 < (List.length r3.1 : Int))) then ((((idx r3.1 a33).bind fun y45 => (bif (!decide (y45.fState = 0)) then some true else ((idx r3.1 a33).bind fun y47 => ((idx r3.1 a33).bind fun y48 => ((idx r4.1 (w64 ((w64 ((List.length r4.1 : Int) - 1)) - a33))).bind fun y49 => some (!decide ((w64 (y47.fSpan.fTo - y48.fSpan.fFrom)) = y49))))))) : Option Bool).bind fun v43 => (bif v43 then some (.inr (.inr false)) else some (.inl (w64 (a33 + 1))))) else some (.inr (.inl ())))
def tracebooklaw49_LatencyWorst (p0 : api_Trace) (p1 : Int) : Option Bool :=
  ((tracebooklaw49_small p0).bind fun r1 => (bif (!r1) then ((tracebooklaw49_awake ).bind fun r2 => some r2) else ((latency_Worst p0 p1).bind fun r3 => ((latency_All p0).bind fun r4 => (bif (!decide (r3.2 = 0)) then (((bif (decide ((List.length r3.1 : Int) = 0)) then (bif (decide (r4.2 = r3.2)) then ((tracebooklaw49_awake ).bind fun r12 => some r12) else (bif (decide (r4.2 = 0)) then (bif (decide (p1 < 0)) then (bif (decide (r3.2 = 2)) then ((tracebooklaw49_awake ).bind fun r11 => some r11) else some false) else some false) else some false)) else some false) : Option Bool).bind fun v5 => some v5) else (((bif (!decide (r4.2 = 0)) then some true else some (!decide ((List.length r3.1 : Int) = (min p1 (List.length r4.1 : Int))))) : Option Bool).bind fun v13 => (bif v13 then some false else ((loop (tracebooklaw49_LatencyWorst_L1 r3 r4) 0).bind fun | .inl _ => ((tracebooklaw49_awake ).bind fun r42 => some r42) | .inr rv => some rv))))))))
theorem tracebooklaw49_LatencyWorst_fun (p0 : api_Trace) (p1 : Int) (r : Bool) (hF : tracebooklaw49_LatencyWorst p0 p1 = some r) : Fun Tryz.prog 7 true [] [.agg (m_api_Trace p0), cI p1] noHeap (cB r) noHeap := by
 refine Fun.of_walk0 Tryz.func7 c7 (by kernel_rfl) (rs := [.tmp 4]) (by kernel_rfl) ?_; unfold v7
 unfold tracebooklaw49_LatencyWorst at hF
 refine wA rfl ?_; refine W_seq ?_; refine wC 1 rfl ?_; obtain ⟨r1, hr1, hF⟩ := bB hF
 refine rS (T_call (tracebooklaw49_small_fun _ _ hr1) ⟨⟨rfl, rfl, rfl, rfl, rfl, rfl, rfl, rfl, rfl, rfl, trivial⟩, trivial⟩ rfl (.inl rfl) ?_); refine QV rfl ?_; refine wIf hF rfl (fun _ hF => ?_) fun _ hF => ?_
 · refine wE ?_; obtain ⟨r2, hr2, hF⟩ := bB hF
   refine rS (T_call (tracebooklaw49_awake_fun _ hr2) trivial rfl (.inl rfl) ?_); refine QV rfl ?_; cases hF
   exact W_ret wR
 refine W_skip ?_; refine wC 2 rfl ?_; obtain ⟨r3, hr3, hF⟩ := bB hF
 refine R_stepX trivial (X_callG [((902,600),(17,1))] rfl (callN _) (latency_Worst_fun _ _ _ hr3) trivial ⟨.inr ⟨rfl, rfl, rfl, rfl, rfl, rfl, rfl, rfl, rfl, rfl, trivial⟩, .inl rfl, trivial⟩ rfl rfl rfl ?_)
 refine QV rfl ?_; refine wC 1 rfl ?_; obtain ⟨r4, hr4, hF⟩ := bB hF
 refine R_stepX trivial (X_callG [((902,520),(22,1))] rfl (callN _) (latency_All_fun _ _ hr4) trivial ⟨.inr ⟨rfl, rfl, rfl, rfl, rfl, rfl, rfl, rfl, rfl, rfl, trivial⟩, trivial⟩ rfl rfl rfl ?_); refine QV rfl ?_
 refine W_seq ?_; refine wA rfl ?_; refine wIf hF rfl (fun _ hF => ?_) fun _ hF => ?_
 · refine W_seq ?_; refine W_join (fun _ _ h => h) hF (fun v5 => [(4, cB v5)]) (fun v5 => []) ?_ ?_
   · rintro v5 hF
     cases hF
     exact W_ret wR
   intro join hF
   refine wD 1 rfl ?_; refine rS (T_len (tc := t_api_State) r3.1 (.own _ _ rfl) ?_); refine Q_run SV 2 rfl ?_; cases h6 : (decide ((List.length r3.1 : Int) = 0))
   · have hF := bF' h6 hF; refine QV rfl ?_; exact join false _ _ hF sw
   have hF := bT' h6 hF; refine Q_run SV 4 rfl ?_; cases h7 : (decide (r4.2 = r3.2))
   · have hF := bF' h7 hF; refine Q_run SV 3 rfl ?_; cases h8 : (decide (r4.2 = 0))
     · have hF := bF' h8 hF; refine QV rfl ?_; exact join false _ _ hF sw
     have hF := bT' h8 hF; refine Q_run SV 4 rfl ?_; cases h9 : (decide (p1 < 0))
     · have hF := bF' h9 hF; refine QV rfl ?_; exact join false _ _ hF sw
     have hF := bT' h9 hF; refine Q_run SV 6 rfl ?_; cases h10 : (decide (r3.2 = 2))
     · have hF := bF' h10 hF; refine QV rfl ?_; exact join false _ _ hF sw
     have hF := bT' h10 hF; obtain ⟨r11, hr11, hF⟩ := bB' hF
     refine R_step SV rfl (T_call (tracebooklaw49_awake_fun _ hr11) trivial rfl (.inl rfl) ?_); refine QV rfl ?_; exact join r11 _ _ hF sw
   have hF := bT' h7 hF; refine Q_run SV 13 rfl ?_; obtain ⟨r12, hr12, hF⟩ := bB' hF
   refine R_step SV rfl (T_call (tracebooklaw49_awake_fun _ hr12) trivial rfl (.inl rfl) ?_); refine QV rfl ?_; exact join r12 _ _ hF sw
 refine W_skip ?_; refine W_seq ?_; refine W_seq ?_; refine W_join (fun _ _ h => h) hF (fun v13 => [(5, cO (17,1)), (7, cO (22,1)), (60, cB v13)]) (fun v13 => [((17,1), .arr 55 7 (List.map t_api_State r3.1)), ((22,1), .arr 3 1 (List.map t_i64 r4.1))]) ?_ ?_
 · rintro v13 hF
   refine wIf hF rfl (fun _ hF => ?_) fun _ hF => ?_
   · refine wA rfl ?_; cases hF
     exact W_ret wR
   refine W_skip ?_; refine W_seq ?_; refine wA rfl ?_; refine W_for (fun _ _ h => h) hF (.inl) (fun a33 => [(5, cO (17,1)), (7, cO (22,1)), (9, cI a33)]) (fun a33 => [((17,1), .arr 55 7 (List.map t_api_State r3.1)), ((22,1), .arr 3 1 (List.map t_i64 r4.1))]) (fun _ => []) (fun _ => []) sw ?_ ?_
   · rintro ⟨⟩ hF
     refine wE ?_; obtain ⟨r42, hr42, hF⟩ := bB hF
     refine rS (T_call (tracebooklaw49_awake_fun _ hr42) trivial rfl (.inl rfl) ?_); refine QV rfl ?_; cases hF
     exact W_ret wR
   rintro a33 x_0 hF cont_0 brk_0 fin_0
   unfold tracebooklaw49_LatencyWorst_L1 at hF
   refine W_seq ?_; refine wC 2 rfl ?_; refine rS (T_len (tc := t_api_State) r3.1 (.own _ _ rfl) ?_); refine QV rfl ?_; refine wIf hF rfl (fun _ hF => ?_) fun _ hF => ?_
   · refine W_skip ?_; refine W_seq ?_; refine W_block ?_; refine W_seq ?_; refine W_join (fun _ _ h => h) hF (fun v43 => [(5, cO (17,1)), (7, cO (22,1)), (9, cI a33), (96, cB v43)]) (fun v43 => [((17,1), .arr 55 7 (List.map t_api_State r3.1)), ((22,1), .arr 3 1 (List.map t_i64 r4.1))]) ?_ ?_
     · rintro v43 hF
       refine wIf hF rfl (fun _ hF => ?_) fun _ hF => ?_
       · refine wA rfl ?_; have hF := fin_0 _ (oi hF); cases hF
         exact W_ret wR
       refine W_skip ?_; refine wB rfl ?_; exact cont_0 _ _ _ (oi hF) sw
     intro join hF
     refine W_regD (by decide) (by kernel_rfl) rfl ?_; refine Q_run SP 2 rfl ?_; obtain ⟨y45, hy45, hF⟩ := bB' hF
     refine R_step SP trivial (T_ixO (tc := t_api_State) r3.1 rfl rfl rfl hy45 ?_); refine Q_run SP 1 rfl ?_; refine R_step SP trivial (T_ldE (tc := t_api_State) r3.1 rfl rfl (idx_get hy45).2.1 rfl ?_); refine Q_run SP 2 rfl ?_
     cases h46 : (!decide (y45.fState = 0))
     · have hF := bF' h46 hF; refine Q_run SP 2 rfl ?_; obtain ⟨y47, hy47, hF⟩ := bB' hF
       refine R_step SP rfl (T_ixO (tc := t_api_State) r3.1 rfl rfl rfl hy47 ?_); refine Q_run SP 2 rfl ?_; refine R_step SP rfl (T_ldE (tc := t_api_State) r3.1 rfl rfl (idx_get hy47).2.1 rfl ?_); refine Q_run SP 2 rfl ?_
       obtain ⟨y48, hy48, hF⟩ := bB' hF
       refine R_step SP rfl (T_ixO (tc := t_api_State) r3.1 rfl rfl rfl hy48 ?_); refine Q_run SP 2 rfl ?_; refine R_step SP rfl (T_ldE (tc := t_api_State) r3.1 rfl rfl (idx_get hy48).2.1 rfl ?_); refine Q_run SP 3 rfl ?_
       refine R_step SP rfl (T_len (tc := t_i64) r4.1 (.own _ _ rfl) ?_); refine Q_run SP 3 rfl ?_; obtain ⟨y49, hy49, hF⟩ := bB' hF
       refine R_step SP rfl (T_ixO (tc := t_i64) r4.1 rfl rfl rfl hy49 ?_); refine R_step SP rfl (T_ldE (tc := t_i64) r4.1 rfl rfl (idx_get hy49).2.1 rfl ?_); refine QP rfl ?_; exact join (!decide ((w64 (y47.fSpan.fTo - y48.fSpan.fFrom)) = y49)) _ _ hF sw
     have hF := bT' h46 hF; refine QP rfl ?_; exact join true _ _ hF sw
   refine W_exit ?_; refine thenQ_exit ?_; refine thenQ_exit ?_; refine blockQ_hit ?_; exact brk_0 _ _ _ (oi hF) sw
 intro join hF
 refine wD 3 rfl ?_; cases h52 : (!decide (r4.2 = 0))
 · have hF := bF' h52 hF; refine Q_run SV 1 rfl ?_; refine R_step SV rfl (T_len (tc := t_api_State) r3.1 (.own _ _ rfl) ?_); refine Q_run SV 2 rfl ?_; refine R_step SV rfl (T_len (tc := t_i64) r4.1 (.own _ _ rfl) ?_)
   refine QV rfl ?_; exact join (!decide ((List.length r3.1 : Int) = (min p1 (List.length r4.1 : Int)))) _ _ hF sw
 have hF := bT' h52 hF; refine QV rfl ?_; exact join true _ _ hF sw
end Go.VM
