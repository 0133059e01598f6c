/- What the functions of the law compute, each with its proof. -/
import Derived.Test.YtkemjaomoopdnaaGreatL541
import Derived.Test.YtkemjaomoopdnaaGreatRows
import Derived.KernelRfl
import Derived.Lib.Bytealg
import Derived.Laws.Externs
import Derived.WalkKit
namespace Go.VM
open Go.Proofs Go.Proofs.YtkemjaomoopdnaaGreat
open Go.RowKit
set_option maxRecDepth 100000
set_option maxHeartbeats 4000000
def num_Quantile (p0 : (List Int)) (p1 : Int) (p2 : Int) : Option (Int × Bool) :=
  (((bif (decide ((List.length p0 : Int) = 0)) then some true else (bif (decide (p2 < 1)) then some true else (bif (decide (1000000000000000 < p2)) then some true else (bif (decide (p1 < 0)) then some true else some (decide (p2 < p1)))))) : Option Bool).bind fun v1 => (bif v1 then some (0, false) else ((slices_Values_int_int p0).bind fun r2 => ((slices_Sorted_int_k1 r2).bind fun r3 => ((math_bits_Mul64 (IntKind.wrap .u64 p1) (IntKind.wrap .u64 (List.length p0 : Int))).bind fun r4 => ((math_bits_Div64 r4.1 r4.2 (IntKind.wrap .u64 p2)).bind fun r5 => (((bif (decide (0 < r5.2)) then some (IntKind.wrap .u64 (r5.1 + 1)) else some r5.1) : Option Int).bind fun v6 => ((idx r3 (IntKind.wrap .u64 ((max v6 1) - 1))).bind fun y7 => some (y7, true)))))))))
theorem num_Quantile_fun (p0 : (List Int)) (p1 : Int) (p2 : Int) (r : (Int × Bool)) (hF : num_Quantile p0 p1 p2 = some r) : Fun Tryz.prog 34 true [] [cL 1 t_i64 p0, cI p1, cI p2] noHeap (.tup [cI r.1, cB r.2]) noHeap := by
 refine Fun.of_walk0 Tryz.func34 c34 (by kernel_rfl) (rs := [.tmp 6, .tmp 7]) (by kernel_rfl) ?_; unfold v34
 unfold num_Quantile at hF
 refine wA rfl ?_; refine W_seq ?_; refine W_seq ?_; refine W_join (fun _ _ h => h) hF (fun v1 => [(0, cL 1 t_i64 p0), (1, cI p1), (2, cI p2), (32, cB v1)]) (fun v1 => []) ?_ ?_
 · rintro v1 hF
   refine wIf hF rfl (fun _ hF => ?_) fun _ hF => ?_
   · refine wA rfl ?_; cases hF
     exact W_ret ⟨_, rfl, rfl, ⟨⟨rfl, fun _ => rfl⟩, ⟨rfl, fun _ => rfl⟩, trivial⟩, noOut _⟩
   refine W_skip ?_; refine wC 1 rfl ?_; obtain ⟨r2, hr2, hF⟩ := bB hF
   refine R_stepX trivial (X_callG [((902,3200),(34,1))] rfl (callN _) (slices_Values_int_int_fun _ _ hr2) trivial ⟨.inl rfl, trivial⟩ rfl rfl rfl ?_); obtain ⟨r3, hr3, hF⟩ := bB hF
   refine R_stepX trivial (X_callG [((4160,0),(34,1)), ((902,3160),(35,1))] rfl (callN _) (slices_Sorted_int_k1_fun _ _ hr3) ⟨rfl, trivial⟩ ⟨.inl rfl, trivial⟩ rfl rfl rfl ?_); refine QV rfl ?_; refine wC 3 rfl ?_
   refine rS (T_len (tc := t_i64) p0 .tree ?_); refine Q_run SV 1 rfl ?_; obtain ⟨r4, hr4, hF⟩ := bB hF
   refine rS (T_call (math_bits_Mul64_fun _ _ _ hr4) ⟨rfl, rfl, trivial⟩ rfl (.inl rfl) ?_); refine QV rfl ?_; refine wC 4 rfl ?_; obtain ⟨r5, hr5, hF⟩ := bB hF
   refine rS (T_call (math_bits_Div64_fun _ _ _ _ hr5) ⟨rfl, rfl, rfl, trivial⟩ rfl (.inl rfl) ?_); refine QV rfl ?_; refine W_seq ?_; refine wA rfl ?_; refine W_join (fun _ _ h => h) hF (fun v6 => [(8, cO (35,1)), (11, .c (.imm (.sc (.int .u64 v6))))]) (fun v6 => [((35,1), .arr 3 1 (List.map t_i64 r3))]) ?_ ?_
   · rintro v6 hF
     refine wC 4 rfl ?_; obtain ⟨y7, hy7, hF⟩ := bB hF
     refine rS (T_ixO (tc := t_i64) r3 rfl rfl rfl hy7 ?_); refine rS (T_ldE (tc := t_i64) r3 rfl rfl (idx_get hy7).2.1 rfl ?_); refine QV rfl ?_; cases hF
     exact W_ret ⟨_, rfl, rfl, ⟨⟨rfl, fun _ => rfl⟩, ⟨rfl, fun _ => rfl⟩, trivial⟩, noOut _⟩
   intro join hF
   refine wIf' hF rfl (fun _ hF => ?_) fun _ hF => ?_
   · refine wB rfl ?_; exact join (IntKind.wrap .u64 (r5.1 + 1)) _ _ hF sw
   refine W_skip ?_; exact join r5.1 _ _ hF sw
 intro join hF
 refine wD 1 rfl ?_; refine rS (T_len (tc := t_i64) p0 .tree ?_); refine Q_run SV 2 rfl ?_; cases h10 : (decide ((List.length p0 : Int) = 0))
 · have hF := bF' h10 hF; refine Q_run SV 4 rfl ?_; cases h11 : (decide (p2 < 1))
   · have hF := bF' h11 hF; refine Q_run SV 4 rfl ?_; cases h12 : (decide (1000000000000000 < p2))
     · have hF := bF' h12 hF; refine Q_run SV 4 rfl ?_; cases h13 : (decide (p1 < 0))
       · have hF := bF' h13 hF; refine QV rfl ?_; exact join (decide (p2 < p1)) _ _ hF sw
       have hF := bT' h13 hF; refine QV rfl ?_; exact join true _ _ hF sw
     have hF := bT' h12 hF; refine QV rfl ?_; exact join true _ _ hF sw
   have hF := bT' h11 hF; refine QV rfl ?_; exact join true _ _ hF sw
 have hF := bT' h10 hF; refine QV rfl ?_; exact join true _ _ hF sw
def anomaly_usual_L1 (p0 : api_Trace) (p1 : ByteArray) (r2 : (Int × Bool)) : Int → Option (Int ⊕ (Unit ⊕ (Int × Bool))) := fun a20 =>
  (bif (decide (a20 < (List.length p0.fSlices : Int))) then ((idx p0.fSlices a20).bind fun y28 => (((bif (decide (y28.fName = p1)) then (bif (!y28.fOpen) then ((anomaly_length y28).bind fun r33 => some (decide (r33 = r2.1))) else some false) else some false) : Option Bool).bind fun v29 => (bif v29 then some (.inr (.inr (a20, true))) else some (.inl (w64 (a20 + 1)))))) else some (.inr (.inl ())))
def anomaly_usual (p0 : api_Trace) (p1 : ByteArray) : Option (Int × Bool) :=
  ((anomaly_closed p0 p1).bind fun r1 => ((num_Quantile r1 1 2).bind fun r2 => (bif (!r2.2) then some (0, false) else ((loop (anomaly_usual_L1 p0 p1 r2) 0).bind fun | .inl _ => some (0, false) | .inr rv => some rv))))
theorem anomaly_usual_fun (p0 : api_Trace) (p1 : ByteArray) (r : (Int × Bool)) (hF : anomaly_usual p0 p1 = some r) : Fun Tryz.prog 21 true [] [.agg (m_api_Trace p0), .c (jS p1)] noHeap (.tup [cI r.1, cB r.2]) noHeap := by
 refine Fun.of_walk0 Tryz.func21 c21 (by kernel_rfl) (rs := [.tmp 4, .tmp 5]) (by kernel_rfl) ?_; unfold v21
 unfold anomaly_usual at hF
 refine wA rfl ?_; refine wC 2 rfl ?_; obtain ⟨r1, hr1, hF⟩ := bB hF
 refine R_stepX trivial (X_callG [((902,800),(13,1))] rfl (callN _) (anomaly_closed_fun _ _ _ hr1) trivial ⟨.inr ⟨rfl, rfl, rfl, rfl, rfl, rfl, rfl, rfl, rfl, rfl, trivial⟩, .inl rfl, trivial⟩ rfl rfl rfl ?_)
 obtain ⟨r2, hr2, hF⟩ := bB hF
 refine rS (T_call (num_Quantile_fun _ _ _ _ hr2) ⟨⟨_, rfl⟩, rfl, rfl, trivial⟩ rfl (.inl rfl) ?_); refine QV rfl ?_; refine W_seq ?_; refine wA rfl ?_; refine wIf hF rfl (fun _ hF => ?_) fun _ hF => ?_
 · refine wA rfl ?_; cases hF
   exact W_ret ⟨_, rfl, rfl, ⟨⟨rfl, fun _ => rfl⟩, ⟨rfl, fun _ => rfl⟩, trivial⟩, noOut _⟩
 refine W_skip ?_; refine W_seq ?_; refine wC 2 rfl ?_; refine rS (T_len (tc := t_api_Slice) p0.fSlices .tree ?_); refine QV rfl ?_; refine W_for (fun _ _ h => h) hF (.inl) (fun a20 => [(1, .c (jS p1)), (6, cI r2.1), (20, cL 8 t_api_Slice p0.fSlices), (21, cI (List.length p0.fSlices : Int)), (22, cI a20)]) (fun a20 => []) (fun _ => []) (fun _ => []) sw ?_ ?_
 · rintro ⟨⟩ hF
   refine wA rfl ?_; cases hF
   exact W_ret ⟨_, rfl, rfl, ⟨⟨rfl, fun _ => rfl⟩, ⟨rfl, fun _ => rfl⟩, trivial⟩, noOut _⟩
 rintro a20 x_0 hF cont_0 brk_0 fin_0
 unfold anomaly_usual_L1 at hF
 refine wA rfl ?_; refine W_seq ?_; refine wIf hF rfl (fun _ hF => ?_) fun _ hF => ?_
 · refine W_skip ?_; refine W_seq ?_; refine W_block ?_; refine wC 1 rfl ?_; obtain ⟨y28, hy28, hF⟩ := bB hF
   refine rS (T_ixT (tc := t_api_Slice) p0.fSlices rfl rfl hy28 ?_); refine QV rfl ?_; refine W_seq ?_; refine W_join (fun _ _ h => h) hF (fun v29 => [(1, .c (jS p1)), (6, cI r2.1), (8, cI a20), (20, cL 8 t_api_Slice p0.fSlices), (21, cI (List.length p0.fSlices : Int)), (22, cI a20), (41, cB v29)]) (fun v29 => []) ?_ ?_
   · rintro v29 hF
     refine wIf hF rfl (fun _ hF => ?_) fun _ hF => ?_
     · refine wA rfl ?_; have hF := fin_0 _ (oi hF); cases hF
       exact W_ret ⟨_, rfl, rfl, ⟨⟨rfl, fun _ => rfl⟩, ⟨rfl, fun _ => rfl⟩, trivial⟩, noOut _⟩
     refine W_skip ?_; refine wB rfl ?_; exact cont_0 _ _ _ (oi hF) sw
   intro join hF
   refine wD 5 rfl ?_; cases h31 : (decide (y28.fName = p1))
   · have hF := bF' h31 hF; refine QV rfl ?_; exact join false _ _ hF sw
   have hF := bT' h31 hF; refine Q_run SV 5 rfl ?_; cases h32 : (!y28.fOpen)
   · have hF := bF' h32 hF; refine QV rfl ?_; exact join false _ _ hF sw
   have hF := bT' h32 hF; refine Q_run SV 1 rfl ?_; obtain ⟨r33, hr33, hF⟩ := bB' hF
   refine R_step SV rfl (T_call (anomaly_length_fun _ _ hr33) ⟨⟨rfl, rfl, rfl, rfl, rfl, rfl, rfl, rfl, trivial⟩, trivial⟩ rfl (.inl rfl) ?_); refine QV rfl ?_; exact join (decide (r33 = r2.1)) _ _ hF sw
 refine W_exit ?_; refine thenQ_exit ?_; refine thenQ_exit ?_; refine blockQ_hit ?_; exact brk_0 _ _ _ (oi hF) sw
def state_Total_L1 (p0 : (List api_State)) (p1 : Int) (p2 : Int) (p3 : api_Span) : (Int × Int) → Option ((Int × Int) ⊕ Int) := fun (a20, a21) =>
  (bif (decide (a21 < (List.length p0 : Int))) then ((((idx p0 a21).bind fun y30 => (((bif (decide (y30.fThread = p1)) then some (decide (y30.fState = p2)) else some false) : Option Bool).bind fun v31 => (bif v31 then some (w64 (a20 + (max 0 (w64 ((min y30.fSpan.fTo p3.fTo) - (max y30.fSpan.fFrom p3.fFrom)))))) else some a20))) : Option Int).bind fun v29 => some (.inl (v29, (w64 (a21 + 1))))) else some (.inr a20))
def state_Total (p0 : (List api_State)) (p1 : Int) (p2 : Int) (p3 : api_Span) : Option Int :=
  ((spans_Valid p3).bind fun r1 => (bif (!r1) then some 0 else ((loop (state_Total_L1 p0 p1 p2 p3) (0, 0)).bind fun e28 => some e28)))
theorem state_Total_fun (p0 : (List api_State)) (p1 : Int) (p2 : Int) (p3 : api_Span) (r : Int) (hF : state_Total p0 p1 p2 p3 = some r) : Fun Tryz.prog 42 true [] [cL 7 t_api_State p0, cI p1, cI p2, .agg [jI p3.fFrom, jI p3.fTo]] noHeap (cI r) noHeap := by
 refine Fun.of_walk0 Tryz.func42 c42 (by kernel_rfl) (rs := [.tmp 8]) (by kernel_rfl) ?_; unfold v42
 unfold state_Total at hF
 refine wA rfl ?_; refine W_seq ?_; refine wC 1 rfl ?_; obtain ⟨r1, hr1, hF⟩ := bB hF
 refine rS (T_call (spans_Valid_fun _ _ hr1) ⟨⟨rfl, rfl, trivial⟩, trivial⟩ rfl (.inl rfl) ?_); refine QV rfl ?_; refine wIf hF rfl (fun _ hF => ?_) fun _ hF => ?_
 · refine wA rfl ?_; cases hF
   exact W_ret wR
 refine W_skip ?_; refine wA rfl ?_; refine W_seq ?_; refine wC 1 rfl ?_; refine rS (T_len (tc := t_api_State) p0 .tree ?_); refine QV rfl ?_; refine W_for (fun _ _ h => h) hF (id) (fun (a20, a21) => [(1, cI p1), (2, cI p2), (7, cP (7,0) 0), (9, cI a20), (15, cL 7 t_api_State p0), (16, cI (List.length p0 : Int)), (17, cI a21)]) (fun (a20, a21) => [((7,0), .box [jI p3.fFrom, jI p3.fTo])]) (fun e28 => [(9, cI e28)]) (fun e28 => []) sw ?_ ?_
 · rintro e28 hF
   refine wA rfl ?_; cases hF
   exact W_ret wR
 rintro ⟨a20, a21⟩ x_0 hF cont_0 brk_0 fin_0
 unfold state_Total_L1 at hF
 refine wA rfl ?_; refine W_seq ?_; refine wIf hF rfl (fun _ hF => ?_) fun _ hF => ?_
 · refine W_skip ?_; refine W_seq ?_; refine W_join (fun _ _ h => h) hF (fun v29 => [(1, cI p1), (2, cI p2), (7, cP (7,0) 0), (9, cI v29), (15, cL 7 t_api_State p0), (16, cI (List.length p0 : Int)), (17, cI a21)]) (fun v29 => [((7,0), .box [jI p3.fFrom, jI p3.fTo])]) ?_ ?_
   · rintro v29 hF
     refine wB rfl ?_; exact cont_0 _ _ _ (oi hF) sw
   intro join hF
   refine W_block ?_; refine wE ?_; obtain ⟨y30, hy30, hF⟩ := bB' hF
   refine rS (T_ixT (tc := t_api_State) p0 rfl rfl hy30 ?_); refine QV rfl ?_; refine W_seq ?_; have hF := bA hF; refine W_join (fun _ _ h => h) hF (fun v31 => [(1, cI p1), (2, cI p2), (7, cP (7,0) 0), (9, cI a20), (11, cP (11,0) 0), (15, cL 7 t_api_State p0), (16, cI (List.length p0 : Int)), (17, cI a21), (30, cB v31)]) (fun v31 => [((7,0), .box [jI p3.fFrom, jI p3.fTo]), ((11,0), .box (m_api_State y30))]) ?_ ?_
   · rintro v31 hF
     refine wIf' hF rfl (fun _ hF => ?_) fun _ hF => ?_
     · refine wB rfl ?_; exact join (w64 (a20 + (max 0 (w64 ((min y30.fSpan.fTo p3.fTo) - (max y30.fSpan.fFrom p3.fFrom)))))) _ _ hF sw
     refine W_skip ?_; exact join a20 _ _ hF sw
   intro join hF
   refine wD 5 rfl ?_; cases h33 : (decide (y30.fThread = p1))
   · have hF := bF' h33 hF; refine QV rfl ?_; exact join false _ _ hF sw
   have hF := bT' h33 hF; refine QV rfl ?_; exact join (decide (y30.fState = p2)) _ _ hF sw
 refine W_exit ?_; refine thenQ_exit ?_; refine thenQ_exit ?_; refine blockQ_hit ?_; exact brk_0 _ _ _ (oi hF) sw
def anomaly_times_k2_L1 (p0 : api_Trace) (p1 : api_Slice) : (Int × (List Int) × Int) → Option ((Int × (List Int) × Int) ⊕ (Int × (List Int))) := fun (a18, a19, a20) =>
  (bif (decide (a20 < 6)) then ((state_Total p0.fStates p1.fThread a20 p1.fSpan).bind fun r28 => (bif room 8 (List.length a19 + List.length [r28]) then some (.inl ((w64 (a18 - r28)), (a19 ++ [r28]), (w64 (a20 + 1)))) else none)) else some (.inr (a18, a19)))
def anomaly_times_k2 (p0 : api_Trace) (p1 : api_Slice) : Option (List Int) :=
  ((anomaly_length p1).bind fun r1 => (bif mkB 8 6 then ((loop (anomaly_times_k2_L1 p0 p1) (r1, [], 0)).bind fun (e24, e25) => ((idx e25 5).bind fun y26 => ((idx e25 5).bind fun y27 => some (List.set e25 (Int.toNat 5) (w64 (y26 + e24)))))) else none))
theorem anomaly_times_k2_fun (p0 : api_Trace) (p1 : api_Slice) (r : (List Int)) (hF : anomaly_times_k2 p0 p1 = some r) : Fun Tryz.prog 30 true [] [.agg (m_api_Trace p0), .agg (m_api_Slice p1)] noHeap (cL 1 t_i64 r) noHeap := by
 refine Fun.of_walk0 Tryz.func30 c30 (by kernel_rfl) (rs := [.tmp 4]) (by kernel_rfl) ?_; unfold v30
 unfold anomaly_times_k2 at hF
 refine wA rfl ?_; refine wC 1 rfl ?_; obtain ⟨r1, hr1, hF⟩ := bB hF
 refine rS (T_call (anomaly_length_fun _ _ hr1) ⟨⟨rfl, rfl, rfl, rfl, rfl, rfl, rfl, rfl, trivial⟩, trivial⟩ rfl (.inl rfl) ?_); refine QV rfl ?_; refine wE ?_; obtain ⟨h2, hF⟩ := roomT hF
 refine rS (T_mk0 (tc := t_i64) 0 rfl rfl (mkOk h2) rfl rfl ?_); refine QV rfl ?_; refine W_seq ?_; refine wA rfl ?_; refine W_for (fun _ _ h => h) hF (id) (fun (a18, a19, a20) => [(2, cP (2,0) 0), (3, cP (3,0) 0), (5, cI a18), (6, cO (11,1)), (12, cI a20)]) (fun (a18, a19, a20) => [((2,0), .box (m_api_Trace p0)), ((3,0), .box (m_api_Slice p1)), ((11,1), .arr 3 1 (List.map t_i64 a19))]) (fun (e24, e25) => [(5, cI e24), (6, cO (11,1))]) (fun (e24, e25) => [((11,1), .arr 3 1 (List.map t_i64 e25))]) (S_ren (11,0) (11,1) rfl rfl sw) ?_ ?_
 · rintro ⟨e24, e25⟩ hF
   refine wC 1 rfl ?_; obtain ⟨y26, hy26, hF⟩ := bB hF
   refine rS (T_ixO (tc := t_i64) e25 rfl rfl rfl hy26 ?_); refine rS (T_ldE (tc := t_i64) e25 rfl rfl (idx_get hy26).2.1 rfl ?_); refine Q_run SV 2 rfl ?_; obtain ⟨y27, hy27, hF⟩ := bB hF
   refine rS (T_ixO (tc := t_i64) e25 rfl rfl rfl hy27 ?_); refine rS (T_stE (tc := t_i64) e25 (w64 (y26 + e24)) rfl rfl (idx_get hy27).2.1 rfl rfl rfl rfl rfl ?_); refine QV rfl ?_; refine wA rfl ?_; cases hF
   exact W_ret ⟨_, rfl, rfl, ⟨⟨_, rfl⟩, fun _ _ h => by simp [noHeap] at h, rfl, fun _ => by simp [-List.map_set, t_i64, flatT]⟩, noOut _⟩
 rintro ⟨a18, a19, a20⟩ x_0 hF cont_0 brk_0 fin_0
 unfold anomaly_times_k2_L1 at hF
 refine wA rfl ?_; refine W_seq ?_; refine wIf hF rfl (fun _ hF => ?_) fun _ hF => ?_
 · refine W_skip ?_; refine W_seq ?_; refine W_block ?_; refine wA rfl ?_; refine wC 7 rfl ?_; obtain ⟨r28, hr28, hF⟩ := bB hF
   refine rS (T_call (state_Total_fun _ _ _ _ _ hr28) ⟨rfl, rfl, rfl, ⟨rfl, rfl, trivial⟩, trivial⟩ rfl (.inl rfl) ?_); refine QV rfl ?_; refine wC 2 rfl ?_; refine rS (T_bsl (tc := t_i64) [r28] rfl ⟨rfl, trivial⟩ rfl (fun _ => rfl) rfl ?_)
   obtain ⟨h29, hF⟩ := roomT hF
   refine rS (T_appO (tc := t_i64) a19 [r28] rfl rfl (.own _ _ rfl) h29 rfl ?_); refine QV rfl ?_; refine wB rfl ?_; refine wB rfl ?_; exact cont_0 _ _ _ (oi hF) (S_ren (26,0) (11,1) rfl rfl sw)
 refine W_exit ?_; refine thenQ_exit ?_; refine thenQ_exit ?_; refine blockQ_hit ?_; exact brk_0 _ _ _ (oi hF) sw
def anomaly_causes  : Option (List ByteArray) :=
  some [⟨#[114, 101, 97, 100, 121]⟩, ⟨#[97, 115, 108, 101, 101, 112]⟩, ⟨#[98, 108, 111, 99, 107, 101, 100]⟩, ⟨#[103, 111, 110, 101]⟩, ⟨#[114, 117, 110, 110, 105, 110, 103]⟩, ⟨#[117, 110, 107, 110, 111, 119, 110]⟩]
theorem anomaly_causes_fun  (r : (List ByteArray)) (hF : anomaly_causes  = some r) : Fun Tryz.prog 35 false [] [] (heapOf []) (cO (902,1400)) (heapOf [((902,1400), .arr 9 1 (List.map t_str r))]) := by
 refine Fun.of_walkM [] (some []) Tryz.func35 c35 (by kernel_rfl) (rs := [.tmp 0]) (by kernel_rfl) rfl rfl rfl ?_; unfold v35
 unfold anomaly_causes at hF
 refine wA rfl ?_; refine wE ?_; refine rS (T_bsl (tc := t_str) [⟨#[114, 101, 97, 100, 121]⟩, ⟨#[97, 115, 108, 101, 101, 112]⟩, ⟨#[98, 108, 111, 99, 107, 101, 100]⟩, ⟨#[103, 111, 110, 101]⟩, ⟨#[114, 117, 110, 110, 105, 110, 103]⟩, ⟨#[117, 110, 107, 110, 111, 119, 110]⟩] rfl ⟨rfl, rfl, rfl, rfl, rfl, rfl, trivial⟩ rfl (fun _ => rfl) rfl ?_)
 refine QV rfl ?_; cases hF
 exact W_ret ⟨_, _, (S_ren (1,0) (902,1400) rfl rfl S_refl), _, rfl, rfl, rfl, (AgM.weak ⟨rfl, trivial⟩)⟩
def slices_Reverse_string_string_k1_L1  : ((List ByteArray) × Int × Int) → Option (((List ByteArray) × Int × Int) ⊕ (List ByteArray)) := fun (a20, a21, a22) =>
  (bif (decide (a21 < a22)) then ((idx a20 a22).bind fun y23 => ((idx a20 a21).bind fun y24 => ((idx a20 a21).bind fun y25 => ((idx (List.set a20 (Int.toNat a21) y23) a22).bind fun y26 => some (.inl ((List.set (List.set a20 (Int.toNat a21) y23) (Int.toNat a22) y24), (w64 (a21 + 1)), (w64 (a22 - 1)))))))) else some (.inr a20))
def slices_Reverse_string_string_k1 (p0 : (List ByteArray)) : Option (List ByteArray) :=
  (loop (slices_Reverse_string_string_k1_L1) (p0, 0, (w64 ((List.length p0 : Int) - 1))))
theorem slices_Reverse_string_string_k1_fun (p0 : (List ByteArray)) (r : (List ByteArray)) (hF : slices_Reverse_string_string_k1 p0 = some r) : Fun Tryz.prog 83 false [(4320,0)] [cO (4320,0)] (heapOf [((4320,0), .arr 9 1 (List.map t_str p0))]) (.tup []) (heapOf [((4320,0), .arr 9 1 (List.map t_str r))]) := by
 refine Fun.of_walkM [(4320,0)] (some [(4320,0)]) Tryz.func83 c83 (by kernel_rfl) (rs := []) (by kernel_rfl) rfl rfl rfl ?_; unfold v83
 unfold slices_Reverse_string_string_k1 at hF
 refine wC 1 rfl ?_; refine rS (T_len (tc := t_str) p0 (.own _ _ rfl) ?_); refine QV rfl ?_; refine W_for0 hF (fun (a20, a21, a22) => [(0, cO (4320,0)), (2, cI a21), (3, cI a22)]) (fun (a20, a21, a22) => [((4320,0), .arr 9 1 (List.map t_str a20))]) sw ?_
 rintro ⟨a20, a21, a22⟩ x_0 hF cont_0 fin_0
 unfold slices_Reverse_string_string_k1_L1 at hF
 refine W_seq ?_; refine wA rfl ?_; refine wIf hF rfl (fun _ hF => ?_) fun _ hF => ?_
 · refine W_skip ?_; refine W_seq ?_; refine W_block ?_; refine W_regD (by decide) (by kernel_rfl) rfl ?_; refine Q_run SP 6 rfl ?_; obtain ⟨y23, hy23, hF⟩ := bB hF
   refine R_step SP trivial (T_ixO (tc := t_str) a20 rfl rfl rfl hy23 ?_); refine R_step SP trivial (T_ldE (tc := t_str) a20 rfl rfl (idx_get hy23).2.1 rfl ?_); refine Q_run SP 2 rfl ?_; obtain ⟨y24, hy24, hF⟩ := bB hF
   refine R_step SP trivial (T_ixO (tc := t_str) a20 rfl rfl rfl hy24 ?_); refine R_step SP trivial (T_ldE (tc := t_str) a20 rfl rfl (idx_get hy24).2.1 rfl ?_); obtain ⟨y25, hy25, hF⟩ := bB hF
   refine R_step SP trivial (T_ixO (tc := t_str) a20 rfl rfl rfl hy25 ?_); refine R_step SP trivial (T_stE (tc := t_str) a20 y23 rfl rfl (idx_get hy25).2.1 rfl rfl rfl rfl rfl ?_); obtain ⟨y26, hy26, hF⟩ := bB hF
   refine R_step SP trivial (T_ixO (tc := t_str) (List.set a20 (Int.toNat a21) y23) rfl rfl rfl hy26 ?_); refine R_step SP trivial (T_stE (tc := t_str) (List.set a20 (Int.toNat a21) y23) y24 rfl rfl (idx_get hy26).2.1 rfl rfl rfl rfl rfl ?_)
   refine QP rfl ?_; refine wB rfl ?_; exact cont_0 _ _ _ (oi hF) sw
 refine W_exit ?_; refine thenQ_exit ?_; refine thenQ_exit ?_; refine blockQ_hit ?_; have hF := fin_0 _ (oi hF); cases hF
 exact ⟨_, _, S_refl, _, rfl, rfl, trivial, (AgM.weak ⟨rfl, trivial⟩)⟩
def slice_Path_L1 (p0 : (List api_Slice)) : (Int × (List ByteArray) × Int) → Option ((Int × (List ByteArray) × Int) ⊕ (List ByteArray)) := fun (a25, a26, a27) =>
  (((bif (decide (0 ≤ a25)) then (bif (decide (a25 < (List.length p0 : Int))) then some (decide (a27 ≤ (List.length p0 : Int))) else some false) else some false) : Option Bool).bind fun v37 => (bif v37 then ((idx p0 a25).bind fun y38 => (bif room 16 (List.length a26 + List.length [y38.fName]) then ((idx p0 a25).bind fun y40 => some (.inl (y40.fParent, (a26 ++ [y38.fName]), (w64 (a27 + 1))))) else none)) else some (.inr a26)))
def slice_Path (p0 : (List api_Slice)) (p1 : Int) : Option (List ByteArray) :=
  (((bif (decide (p1 < 0)) then some true else some (decide ((List.length p0 : Int) ≤ p1))) : Option Bool).bind fun v1 => (bif v1 then some [] else ((loop (slice_Path_L1 p0) (p1, [], 0)).bind fun e35 => ((slices_Reverse_string_string_k1 e35).bind fun r36 => some r36))))
theorem slice_Path_fun (p0 : (List api_Slice)) (p1 : Int) (r : (List ByteArray)) (hF : slice_Path p0 p1 = some r) : Fun Tryz.prog 36 false [] [cL 8 t_api_Slice p0, cI p1] (heapOf []) (cO (902,1440)) (heapOf [((902,1440), .arr 9 1 (List.map t_str r))]) := by
 refine Fun.of_walkM [] (some []) Tryz.func36 c36 (by kernel_rfl) (rs := [.tmp 4]) (by kernel_rfl) rfl rfl rfl ?_; unfold v36
 unfold slice_Path at hF
 refine wA rfl ?_; refine W_seq ?_; refine W_seq ?_; refine W_join (fun _ _ h => h) hF (fun v1 => [(0, cL 8 t_api_Slice p0), (1, cI p1), (14, cB v1)]) (fun v1 => []) ?_ ?_
 · rintro v1 hF
   refine wIf hF rfl (fun _ hF => ?_) fun _ hF => ?_
   · refine wA rfl ?_; cases hF
     exact W_ret ⟨_, _, (S_own 4 (902,1440) 9 1 rfl rfl rfl rfl S_refl), _, rfl, rfl, rfl, (AgM.weak ⟨rfl, trivial⟩)⟩
   refine W_skip ?_; refine wA rfl ?_; refine W_seq ?_; refine wA rfl ?_; refine W_for (fun _ _ h => h) hF (id) (fun (a25, a26, a27) => [(0, cL 8 t_api_Slice p0), (1, cI a25), (5, cO (38,1)), (6, cI a27)]) (fun (a25, a26, a27) => [((38,1), .arr 9 1 (List.map t_str a26))]) (fun e35 => [(5, cO (38,1))]) (fun e35 => [((38,1), .arr 9 1 (List.map t_str e35))]) (S_own 5 (38,1) 9 1 rfl rfl rfl rfl sw) ?_ ?_
   · rintro e35 hF
     refine wC 1 rfl ?_; obtain ⟨r36, hr36, hF⟩ := bB hF
     refine R_stepX trivial (X_callG [((4320,0),(38,1))] rfl (callN _) (slices_Reverse_string_string_k1_fun _ _ hr36) ⟨rfl, trivial⟩ ⟨.inl rfl, trivial⟩ rfl rfl rfl ?_); refine QV rfl ?_; refine wA rfl ?_; cases hF
     exact W_ret ⟨_, _, (S_ren (38,1) (902,1440) rfl rfl S_refl), _, rfl, rfl, rfl, (AgM.weak ⟨rfl, trivial⟩)⟩
   rintro ⟨a25, a26, a27⟩ x_0 hF cont_0 brk_0 fin_0
   unfold slice_Path_L1 at hF
   refine W_seq ?_; refine W_seq ?_; refine W_join (fun _ _ h => h) hF (fun v37 => [(0, cL 8 t_api_Slice p0), (1, cI a25), (5, cO (38,1)), (6, cI a27), (28, cB v37)]) (fun v37 => [((38,1), .arr 9 1 (List.map t_str a26))]) ?_ ?_
   · rintro v37 hF
     refine wIf hF rfl (fun _ hF => ?_) fun _ hF => ?_
     · refine W_skip ?_; refine W_seq ?_; refine W_block ?_; refine wC 3 rfl ?_; obtain ⟨y38, hy38, hF⟩ := bB hF
       refine rS (T_ixT (tc := t_api_Slice) p0 rfl rfl hy38 ?_); refine Q_run SV 2 rfl ?_; refine rS (T_bsl (tc := t_str) [y38.fName] rfl ⟨rfl, trivial⟩ rfl (fun _ => rfl) rfl ?_)
       obtain ⟨h39, hF⟩ := roomT hF
       refine rS (T_appO (tc := t_str) a26 [y38.fName] rfl rfl (.own _ _ rfl) h39 rfl ?_); refine QV rfl ?_; refine wD 2 rfl ?_; obtain ⟨y40, hy40, hF⟩ := bB hF
       refine rS (T_ixT (tc := t_api_Slice) p0 rfl rfl hy40 ?_); refine QV rfl ?_; refine wB rfl ?_; exact cont_0 _ _ _ (oi hF) (S_ren (38,0) (38,1) rfl rfl sw)
     refine W_exit ?_; refine thenQ_exit ?_; refine thenQ_exit ?_; refine blockQ_hit ?_; exact brk_0 _ _ _ (oi hF) sw
   intro join hF
   refine wD 3 rfl ?_; cases h42 : (decide (0 ≤ a25))
   · have hF := bF' h42 hF; refine QV rfl ?_; exact join false _ _ hF sw
   have hF := bT' h42 hF; refine Q_run SV 2 rfl ?_; refine R_step SV rfl (T_len (tc := t_api_Slice) p0 .tree ?_); refine Q_run SV 3 rfl ?_; cases h43 : (decide (a25 < (List.length p0 : Int)))
   · have hF := bF' h43 hF; refine QV rfl ?_; exact join false _ _ hF sw
   have hF := bT' h43 hF; refine Q_run SV 2 rfl ?_; refine R_step SV rfl (T_len (tc := t_api_Slice) p0 .tree ?_); refine QV rfl ?_; exact join (decide (a27 ≤ (List.length p0 : Int))) _ _ hF sw
 intro join hF
 refine wD 3 rfl ?_; cases h45 : (decide (p1 < 0))
 · have hF := bF' h45 hF; refine Q_run SV 2 rfl ?_; refine R_step SV rfl (T_len (tc := t_api_Slice) p0 .tree ?_); refine QV rfl ?_; exact join (decide ((List.length p0 : Int) ≤ p1)) _ _ hF sw
 have hF := bT' h45 hF; refine QV rfl ?_; exact join true _ _ hF sw
def anomaly_parts_k2_L1 (p0 : api_Trace) (p1 : Int) (r2 : (List Int)) (r4 : (List Int)) (r5 : (List ByteArray)) : ((List api_Part) × Int) → Option (((List api_Part) × Int) ⊕ (List api_Part)) := fun (a28, a29) =>
  (bif (decide (a29 < (List.length r5 : Int))) then ((((idx r5 a29).bind fun y40 => ((idx r2 a29).bind fun y41 => ((idx r4 a29).bind fun y42 => (bif (!decide ((w64 (y41 - y42)) = 0)) then ((slice_Path p0.fSlices p1).bind fun r43 => (bif room 56 (List.length a28 + List.length [({ fPath := r43, fCause := y40, fValue := ({ fN := (w64 (y41 - y42)), fD := 1 } : api_Frac) } : api_Part)]) then some (a28 ++ [({ fPath := r43, fCause := y40, fValue := ({ fN := (w64 (y41 - y42)), fD := 1 } : api_Frac) } : api_Part)]) else none)) else some a28)))) : Option (List api_Part)).bind fun v39 => some (.inl (v39, (w64 (a29 + 1))))) else some (.inr a28))
def anomaly_parts_k2 (p0 : api_Trace) (p1 : Int) (p2 : Int) : Option (List api_Part) :=
  ((idx p0.fSlices p1).bind fun y1 => ((anomaly_times_k2 p0 y1).bind fun r2 => ((idx p0.fSlices p2).bind fun y3 => ((anomaly_times_k2 p0 y3).bind fun r4 => ((anomaly_causes ).bind fun r5 => ((loop (anomaly_parts_k2_L1 p0 p1 r2 r4 r5) ([], 0)).bind fun e38 => some e38))))))
theorem anomaly_parts_k2_fun (p0 : api_Trace) (p1 : Int) (p2 : Int) (r : (List api_Part)) (hF : anomaly_parts_k2 p0 p1 p2 = some r) : Fun Tryz.prog 23 false [] [.agg (m_api_Trace p0), cI p1, cI p2] noHeap (cL 4 t_api_Part r) noHeap := by
 refine Fun.of_walk0 Tryz.func23 c23 (by kernel_rfl) (rs := [.tmp 6]) (by kernel_rfl) ?_; unfold v23
 unfold anomaly_parts_k2 at hF
 refine wA rfl ?_; refine wA rfl ?_; refine W_seq ?_; refine W_regD (by decide) (by kernel_rfl) rfl ?_; refine Q_run SP 4 rfl ?_; obtain ⟨y1, hy1, hF⟩ := bB hF
 refine R_step SP trivial (T_ixT (tc := t_api_Slice) p0.fSlices rfl rfl hy1 ?_); refine Q_run SP 1 rfl ?_; obtain ⟨r2, hr2, hF⟩ := bB hF
 refine R_step SP trivial (T_call (anomaly_times_k2_fun _ _ _ hr2) ⟨⟨rfl, rfl, rfl, rfl, rfl, rfl, rfl, rfl, rfl, rfl, trivial⟩, ⟨rfl, rfl, rfl, rfl, rfl, rfl, rfl, rfl, trivial⟩, trivial⟩ rfl (.inl rfl) ?_)
 refine Q_run SP 4 rfl ?_; obtain ⟨y3, hy3, hF⟩ := bB hF
 refine R_step SP trivial (T_ixT (tc := t_api_Slice) p0.fSlices rfl rfl hy3 ?_); refine Q_run SP 1 rfl ?_; obtain ⟨r4, hr4, hF⟩ := bB hF
 refine R_step SP trivial (T_call (anomaly_times_k2_fun _ _ _ hr4) ⟨⟨rfl, rfl, rfl, rfl, rfl, rfl, rfl, rfl, rfl, rfl, trivial⟩, ⟨rfl, rfl, rfl, rfl, rfl, rfl, rfl, rfl, trivial⟩, trivial⟩ rfl (.inl rfl) ?_)
 refine QP rfl ?_; refine W_seq ?_; refine wE ?_; obtain ⟨r5, hr5, hF⟩ := bB hF
 refine R_stepX trivial (X_callG [((902,1400),(27,1))] rfl (callN _) (anomaly_causes_fun _ hr5) trivial trivial rfl rfl rfl ?_); refine rS (T_len (tc := t_str) r5 (.own _ _ rfl) ?_); refine QV rfl ?_; refine W_for (fun _ _ h => h) hF (id) (fun (a28, a29) => [(1, cI p1), (3, cP (3,0) 0), (7, cO (55,1)), (8, cL 1 t_i64 r2), (9, cL 1 t_i64 r4), (27, cO (27,1)), (28, cI (List.length r5 : Int)), (29, cI a29)]) (fun (a28, a29) => [((3,0), .box (m_api_Trace p0)), ((55,1), .arr 61 4 (List.map t_api_Part a28)), ((27,1), .arr 9 1 (List.map t_str r5))]) (fun e38 => [(7, cO (55,1))]) (fun e38 => [((55,1), .arr 61 4 (List.map t_api_Part e38))]) (S_own 7 (55,1) 61 4 rfl rfl rfl rfl sw) ?_ ?_
 · rintro e38 hF
   refine wA rfl ?_; cases hF
   exact W_ret ⟨_, rfl, rfl, ⟨⟨_, rfl⟩, fun _ _ h => by simp [noHeap] at h, rfl, fun h => (by cases h)⟩, noOut _⟩
 rintro ⟨a28, a29⟩ x_0 hF cont_0 brk_0 fin_0
 unfold anomaly_parts_k2_L1 at hF
 refine wA rfl ?_; refine W_seq ?_; refine wIf hF rfl (fun _ hF => ?_) fun _ hF => ?_
 · refine W_skip ?_; refine W_seq ?_; refine W_join (fun _ _ h => h) hF (fun v39 => [(1, cI p1), (3, cP (3,0) 0), (7, cO (55,1)), (8, cL 1 t_i64 r2), (9, cL 1 t_i64 r4), (27, cO (27,1)), (28, cI (List.length r5 : Int)), (29, cI a29)]) (fun v39 => [((3,0), .box (m_api_Trace p0)), ((55,1), .arr 61 4 (List.map t_api_Part v39)), ((27,1), .arr 9 1 (List.map t_str r5))]) ?_ ?_
   · rintro v39 hF
     refine wB rfl ?_; exact cont_0 _ _ _ (oi hF) sw
   intro join hF
   refine W_block ?_; refine wC 1 rfl ?_; obtain ⟨y40, hy40, hF⟩ := bB' hF
   refine rS (T_ixO (tc := t_str) r5 rfl rfl rfl hy40 ?_); refine rS (T_ldE (tc := t_str) r5 rfl rfl (idx_get hy40).2.1 rfl ?_); refine QV rfl ?_; refine W_seq ?_; refine W_regD (by decide) (by kernel_rfl) rfl ?_
   refine Q_run SP 2 rfl ?_; obtain ⟨y41, hy41, hF⟩ := bB' hF
   refine R_step SP trivial (T_ixT (tc := t_i64) r2 rfl rfl hy41 ?_); refine Q_run SP 3 rfl ?_; obtain ⟨y42, hy42, hF⟩ := bB' hF
   refine R_step SP trivial (T_ixT (tc := t_i64) r4 rfl rfl hy42 ?_); refine QP rfl ?_; refine wA rfl ?_; refine wIf' hF rfl (fun _ hF => ?_) fun _ hF => ?_
   · refine wD 4 rfl ?_; obtain ⟨r43, hr43, hF⟩ := bB' hF
     refine R_stepX trivial (X_callG [((902,1440),(49,1))] rfl (callN _) (slice_Path_fun _ _ _ hr43) trivial ⟨.inl rfl, .inl rfl, trivial⟩ rfl rfl rfl ?_); refine Q_run SV 4 rfl ?_; refine R_shift trivial (S_frz (49,1) rfl rfl S_refl) (.inl (T_bsl (tc := t_api_Part) [({ fPath := r43, fCause := y40, fValue := ({ fN := (w64 (y41 - y42)), fD := 1 } : api_Frac) } : api_Part)] rfl ⟨rfl, rfl, rfl, rfl, trivial⟩ rfl (fun _ => rfl) rfl ?_))
     obtain ⟨h44, hF⟩ := roomT' hF
     refine rS (T_appO (tc := t_api_Part) a28 [({ fPath := r43, fCause := y40, fValue := ({ fN := (w64 (y41 - y42)), fD := 1 } : api_Frac) } : api_Part)] rfl rfl (.own _ _ rfl) h44 rfl ?_); refine QV rfl ?_
     exact join (a28 ++ [({ fPath := r43, fCause := y40, fValue := ({ fN := (w64 (y41 - y42)), fD := 1 } : api_Frac) } : api_Part)]) _ _ hF (S_ren (55,0) (55,1) rfl rfl sw)
   refine W_skip ?_; exact join a28 _ _ hF sw
 refine W_exit ?_; refine thenQ_exit ?_; refine thenQ_exit ?_; refine blockQ_hit ?_; exact brk_0 _ _ _ (oi hF) sw
def anomaly_Of_L1 (p0 : api_Trace) (p1 : Int) (p2 : Int) : ((List api_Outlier) × Int) → Option (((List api_Outlier) × Int) ⊕ (List api_Outlier)) := fun (a41, a42) =>
  (bif (decide (a42 < (List.length p0.fSlices : Int))) then ((((idx p0.fSlices a42).bind fun y61 => (((bif y61.fOpen then some true else ((anomaly_closed p0 y61.fName).bind fun r74 => some (decide ((List.length r74 : Int) < 3)))) : Option Bool).bind fun v62 => (bif v62 then some a41 else ((anomaly_usual p0 y61.fName).bind fun r63 => (bif (!r63.2) then some a41 else ((idx p0.fSlices r63.1).bind fun y64 => ((anomaly_length y64).bind fun r65 => ((anomaly_length y61).bind fun r66 => (bif (decide ((w64 (p1 * r65)) < (w64 (p2 * r66)))) then ((anomaly_length y61).bind fun r67 => ((anomaly_parts_k2 p0 a42 r63.1).bind fun r68 => (bif room 40 (List.length a41 + List.length [({ fSlice := a42, fExcess := (w64 (r67 - r65)), fParts := r68 } : api_Outlier)]) then some (a41 ++ [({ fSlice := a42, fExcess := (w64 (r67 - r65)), fParts := r68 } : api_Outlier)]) else none))) else some a41))))))))) : Option (List api_Outlier)).bind fun v60 => some (.inl (v60, (w64 (a42 + 1))))) else some (.inr a41))
def anomaly_Of (p0 : api_Trace) (p1 : Int) (p2 : Int) : Option ((List api_Outlier) × Int) :=
  ((trace_Check p0).bind fun r1 => (bif (!decide (r1 = 0)) then some ([], r1) else (((bif (decide (p2 < 1)) then some true else (bif (decide (p1 < p2)) then some true else some (decide (1000 < p1)))) : Option Bool).bind fun v2 => (bif v2 then some ([], 1) else ((loop (anomaly_Of_L1 p0 p1 p2) ([], 0)).bind fun e59 => some (e59, 0))))))
theorem anomaly_Of_fun (p0 : api_Trace) (p1 : Int) (p2 : Int) (r : ((List api_Outlier) × Int)) (hF : anomaly_Of p0 p1 p2 = some r) : Fun Tryz.prog 10 false [] [.agg (m_api_Trace p0), cI p1, cI p2] (heapOf []) (.tup [cO (902,400), cI r.2]) (heapOf [((902,400), .arr 42 3 (List.map t_api_Outlier r.1))]) := by
 refine Fun.of_walkM [] (some []) Tryz.func10 c10 (by kernel_rfl) (rs := [.tmp 6, .tmp 7]) (by kernel_rfl) rfl rfl rfl ?_; unfold v10
 unfold anomaly_Of at hF
 refine wA rfl ?_; refine W_seq ?_; refine wC 1 rfl ?_; obtain ⟨r1, hr1, hF⟩ := bB hF
 refine rS (T_call (trace_Check_fun _ _ hr1) ⟨⟨rfl, rfl, rfl, rfl, rfl, rfl, rfl, rfl, rfl, rfl, trivial⟩, trivial⟩ rfl (.inl rfl) ?_); refine QV rfl ?_; refine wA rfl ?_; refine wIf hF rfl (fun _ hF => ?_) fun _ hF => ?_
 · refine wA rfl ?_; cases hF
   exact W_ret ⟨_, _, (S_own 6 (902,400) 42 3 rfl rfl rfl rfl S_refl), _, rfl, rfl, ⟨rfl, ⟨rfl, fun _ => rfl⟩, trivial⟩, (AgM.weak ⟨rfl, trivial⟩)⟩
 refine W_skip ?_; refine W_seq ?_; refine W_seq ?_; refine W_join (fun _ _ h => h) hF (fun v2 => [(1, cI p1), (2, cI p2), (3, cP (3,0) 0), (30, cB v2)]) (fun v2 => [((3,0), .box (m_api_Trace p0))]) ?_ ?_
 · rintro v2 hF
   refine wIf hF rfl (fun _ hF => ?_) fun _ hF => ?_
   · refine wA rfl ?_; cases hF
     exact W_ret ⟨_, _, (S_own 6 (902,400) 42 3 rfl rfl rfl rfl S_refl), _, rfl, rfl, ⟨rfl, ⟨rfl, fun _ => rfl⟩, trivial⟩, (AgM.weak ⟨rfl, trivial⟩)⟩
   refine W_skip ?_; refine wA rfl ?_; refine W_seq ?_; refine wC 2 rfl ?_; refine rS (T_len (tc := t_api_Slice) p0.fSlices .tree ?_); refine QV rfl ?_; refine W_for (fun _ _ h => h) hF (id) (fun (a41, a42) => [(1, cI p1), (2, cI p2), (3, cP (3,0) 0), (9, cO (84,1)), (32, cL 8 t_api_Slice p0.fSlices), (33, cI (List.length p0.fSlices : Int)), (34, cI a42)]) (fun (a41, a42) => [((3,0), .box (m_api_Trace p0)), ((84,1), .arr 42 3 (List.map t_api_Outlier a41))]) (fun e59 => [(9, cO (84,1))]) (fun e59 => [((84,1), .arr 42 3 (List.map t_api_Outlier e59))]) (S_own 9 (84,1) 42 3 rfl rfl rfl rfl sw) ?_ ?_
   · rintro e59 hF
     refine wA rfl ?_; cases hF
     exact W_ret ⟨_, _, (S_ren (84,1) (902,400) rfl rfl S_refl), _, rfl, rfl, ⟨rfl, ⟨rfl, fun _ => rfl⟩, trivial⟩, (AgM.weak ⟨rfl, trivial⟩)⟩
   rintro ⟨a41, a42⟩ x_0 hF cont_0 brk_0 fin_0
   unfold anomaly_Of_L1 at hF
   refine wA rfl ?_; refine W_seq ?_; refine wIf hF rfl (fun _ hF => ?_) fun _ hF => ?_
   · refine W_skip ?_; refine W_seq ?_; refine W_join (fun _ _ h => h) hF (fun v60 => [(1, cI p1), (2, cI p2), (3, cP (3,0) 0), (9, cO (84,1)), (32, cL 8 t_api_Slice p0.fSlices), (33, cI (List.length p0.fSlices : Int)), (34, cI a42)]) (fun v60 => [((3,0), .box (m_api_Trace p0)), ((84,1), .arr 42 3 (List.map t_api_Outlier v60))]) ?_ ?_
     · rintro v60 hF
       refine wB rfl ?_; exact cont_0 _ _ _ (oi hF) sw
     intro join hF
     refine W_block ?_; refine wC 1 rfl ?_; obtain ⟨y61, hy61, hF⟩ := bB' hF
     refine rS (T_ixT (tc := t_api_Slice) p0.fSlices rfl rfl hy61 ?_); refine QV rfl ?_; refine W_seq ?_; refine W_seq ?_; have hF := bA hF; refine W_join (fun _ _ h => h) hF (fun v62 => [(1, cI p1), (2, cI p2), (3, cP (3,0) 0), (9, cO (84,1)), (10, cI a42), (11, cP (11,0) 0), (32, cL 8 t_api_Slice p0.fSlices), (33, cI (List.length p0.fSlices : Int)), (34, cI a42), (48, cB v62)]) (fun v62 => [((3,0), .box (m_api_Trace p0)), ((84,1), .arr 42 3 (List.map t_api_Outlier a41)), ((11,0), .box [jI y61.fThread, jI y61.fParent, jI y61.fDepth, jS y61.fName, jI y61.fSpan.fFrom, jI y61.fSpan.fTo, jI y61.fSelf, jB y61.fOpen])]) ?_ ?_
     · rintro v62 hF
       refine wIf' hF rfl (fun _ hF => ?_) fun _ hF => ?_
       · refine W_exit ?_; refine thenQ_exit ?_; refine blockQ_hit ?_; exact join a41 _ _ hF sw
       refine W_skip ?_; refine wC 3 rfl ?_; obtain ⟨r63, hr63, hF⟩ := bB' hF
       refine rS (T_call (anomaly_usual_fun _ _ _ hr63) ⟨⟨rfl, rfl, rfl, rfl, rfl, rfl, rfl, rfl, rfl, rfl, trivial⟩, rfl, trivial⟩ rfl (.inl rfl) ?_); refine QV rfl ?_; refine W_seq ?_; refine wA rfl ?_; refine wIf' hF rfl (fun _ hF => ?_) fun _ hF => ?_
       · refine W_exit ?_; refine thenQ_exit ?_; refine blockQ_hit ?_; exact join a41 _ _ hF sw
       refine W_skip ?_; refine wC 3 rfl ?_; obtain ⟨y64, hy64, hF⟩ := bB' hF
       refine rS (T_ixT (tc := t_api_Slice) p0.fSlices rfl rfl hy64 ?_); refine Q_run SV 1 rfl ?_; obtain ⟨r65, hr65, hF⟩ := bB' hF
       refine rS (T_call (anomaly_length_fun _ _ hr65) ⟨⟨rfl, rfl, rfl, rfl, rfl, rfl, rfl, rfl, trivial⟩, trivial⟩ rfl (.inl rfl) ?_); refine QV rfl ?_; refine wC 2 rfl ?_; obtain ⟨r66, hr66, hF⟩ := bB' hF
       refine rS (T_call (anomaly_length_fun _ _ hr66) ⟨⟨rfl, rfl, rfl, rfl, rfl, rfl, rfl, rfl, trivial⟩, trivial⟩ rfl (.inl rfl) ?_); refine QV rfl ?_; refine wIf' hF rfl (fun _ hF => ?_) fun _ hF => ?_
       · refine W_regD (by decide) (by kernel_rfl) rfl ?_; refine Q_run SP 3 rfl ?_; obtain ⟨r67, hr67, hF⟩ := bB' hF
         refine R_step SP trivial (T_call (anomaly_length_fun _ _ hr67) ⟨⟨rfl, rfl, rfl, rfl, rfl, rfl, rfl, rfl, trivial⟩, trivial⟩ rfl (.inl rfl) ?_); refine Q_run SP 5 rfl ?_; obtain ⟨r68, hr68, hF⟩ := bB' hF
         refine R_step SP trivial (T_call (anomaly_parts_k2_fun _ _ _ _ hr68) ⟨⟨rfl, rfl, rfl, rfl, rfl, rfl, rfl, rfl, rfl, rfl, trivial⟩, rfl, rfl, trivial⟩ rfl (.inr (.inr ⟨⟨rfl, rfl, rfl, rfl, rfl, rfl, rfl, rfl, rfl, rfl, trivial⟩, rfl, rfl, trivial⟩)) ?_)
         refine Q_run SP 1 rfl ?_; refine R_step SP trivial (T_bsl (tc := t_api_Outlier) [({ fSlice := a42, fExcess := (w64 (r67 - r65)), fParts := r68 } : api_Outlier)] rfl ⟨rfl, rfl, rfl, trivial⟩ rfl (fun _ => rfl) rfl ?_)
         obtain ⟨h69, hF⟩ := roomT' hF
         refine R_step SP trivial (T_appO (tc := t_api_Outlier) a41 [({ fSlice := a42, fExcess := (w64 (r67 - r65)), fParts := r68 } : api_Outlier)] rfl rfl (.own _ _ rfl) h69 rfl ?_); refine QP rfl ?_; exact join (a41 ++ [({ fSlice := a42, fExcess := (w64 (r67 - r65)), fParts := r68 } : api_Outlier)]) _ _ hF (S_ren (84,0) (84,1) rfl rfl sw)
       refine W_skip ?_; exact join a41 _ _ hF sw
     intro join hF
     refine wD 3 rfl ?_; cases h73 : y61.fOpen
     · have hF := bF' h73 hF; refine Q_run SV 3 rfl ?_; obtain ⟨r74, hr74, hF⟩ := bB' hF
       refine R_stepX rfl (X_callG [((902,800),(45,1))] rfl (callN _) (anomaly_closed_fun _ _ _ hr74) trivial ⟨.inr ⟨rfl, rfl, rfl, rfl, rfl, rfl, rfl, rfl, rfl, rfl, trivial⟩, .inl rfl, trivial⟩ rfl rfl rfl ?_)
       refine R_step SV rfl (T_len (tc := t_i64) r74 (.own _ _ rfl) ?_); refine QV rfl ?_; exact join (decide ((List.length r74 : Int) < 3)) _ _ hF (S_weak (by repeat' first | constructor | (rw [h73]; rfl)) (by repeat' first | constructor | (rw [h73]; rfl)))
     have hF := bT' h73 hF; refine QV rfl ?_; exact join true _ _ hF (S_weak (by repeat' first | constructor | (rw [h73]; rfl)) (by repeat' first | constructor | (rw [h73]; rfl)))
   refine W_exit ?_; refine thenQ_exit ?_; refine thenQ_exit ?_; refine blockQ_hit ?_; exact brk_0 _ _ _ (oi hF) sw
 intro join hF
 refine wD 3 rfl ?_; cases h77 : (decide (p2 < 1))
 · have hF := bF' h77 hF; refine Q_run SV 5 rfl ?_; cases h78 : (decide (p1 < p2))
   · have hF := bF' h78 hF; refine QV rfl ?_; exact join (decide (1000 < p1)) _ _ hF sw
   have hF := bT' h78 hF; refine QV rfl ?_; exact join true _ _ hF sw
 have hF := bT' h77 hF; refine QV rfl ?_; exact join true _ _ hF sw
def anomaly_Usual (p0 : api_Trace) (p1 : ByteArray) : Option (Int × Int) :=
  ((trace_Check p0).bind fun r1 => (bif (!decide (r1 = 0)) then some (0, r1) else ((anomaly_usual p0 p1).bind fun r2 => (bif (!r2.2) then some (0, 5) else some (r2.1, 0)))))
theorem anomaly_Usual_fun (p0 : api_Trace) (p1 : ByteArray) (r : (Int × Int)) (hF : anomaly_Usual p0 p1 = some r) : Fun Tryz.prog 15 true [] [.agg (m_api_Trace p0), .c (jS p1)] noHeap (.tup [cI r.1, cI r.2]) noHeap := by
 refine Fun.of_walk0 Tryz.func15 c15 (by kernel_rfl) (rs := [.tmp 4, .tmp 5]) (by kernel_rfl) ?_; unfold v15
 unfold anomaly_Usual at hF
 refine wA rfl ?_; refine W_seq ?_; refine wC 1 rfl ?_; obtain ⟨r1, hr1, hF⟩ := bB hF
 refine rS (T_call (trace_Check_fun _ _ hr1) ⟨⟨rfl, rfl, rfl, rfl, rfl, rfl, rfl, rfl, rfl, rfl, trivial⟩, trivial⟩ rfl (.inl rfl) ?_); refine QV rfl ?_; refine wA rfl ?_; refine wIf hF rfl (fun _ hF => ?_) fun _ hF => ?_
 · refine wA rfl ?_; cases hF
   exact W_ret ⟨_, rfl, rfl, ⟨⟨rfl, fun _ => rfl⟩, ⟨rfl, fun _ => rfl⟩, trivial⟩, noOut _⟩
 refine W_skip ?_; refine wC 2 rfl ?_; obtain ⟨r2, hr2, hF⟩ := bB hF
 refine rS (T_call (anomaly_usual_fun _ _ _ hr2) ⟨⟨rfl, rfl, rfl, rfl, rfl, rfl, rfl, rfl, rfl, rfl, trivial⟩, rfl, trivial⟩ rfl (.inl rfl) ?_); refine QV rfl ?_; refine W_seq ?_; refine wA rfl ?_; refine wIf hF rfl (fun _ hF => ?_) fun _ hF => ?_
 · refine wA rfl ?_; cases hF
   exact W_ret ⟨_, rfl, rfl, ⟨⟨rfl, fun _ => rfl⟩, ⟨rfl, fun _ => rfl⟩, trivial⟩, noOut _⟩
 refine W_skip ?_; refine wA rfl ?_; cases hF
 exact W_ret ⟨_, rfl, rfl, ⟨⟨rfl, fun _ => rfl⟩, ⟨rfl, fun _ => rfl⟩, trivial⟩, noOut _⟩
def tracebooklaw54_awake  : Option Bool :=
  ((tracebooklaw54_calls 30 [10, 10, 40]).bind fun r1 => ((anomaly_Of r1 2 1).bind fun r2 => ((tracebooklaw54_calls 0 [10, 40]).bind fun r3 => ((anomaly_Of r3 2 1).bind fun r4 => ((tracebooklaw54_calls 0 [1, 2, 3]).bind fun r5 => ((anomaly_Usual r5 ⟨#[102]⟩).bind fun r6 => ((tracebooklaw54_calls 0 [1, 2, 3]).bind fun r7 => ((anomaly_Of r7 1 1).bind fun r8 => (((bif (decide (r2.2 = 0)) then (bif (decide ((List.length r2.1 : Int) = 1)) then ((idx r2.1 0).bind fun y12 => (bif (decide (y12.fSlice = 2)) then ((idx r2.1 0).bind fun y14 => (bif (decide (y14.fExcess = 30)) then ((idx r2.1 0).bind fun y16 => (bif (decide ((List.length y16.fParts : Int) = 1)) then ((idx r2.1 0).bind fun y18 => ((idx y18.fParts 0).bind fun y19 => (bif (decide (y19.fCause = ⟨#[97, 115, 108, 101, 101, 112]⟩)) then ((idx r2.1 0).bind fun y21 => ((idx y21.fParts 0).bind fun y22 => (bif (decide (y22.fValue.fN = 30)) then (bif (decide (r4.2 = 0)) then (bif (decide ((List.length r4.1 : Int) = 0)) then (bif (decide (r6.2 = 0)) then (bif (decide (r6.1 = 1)) then (bif (decide (r8.2 = 0)) then (bif (decide ((List.length r8.1 : Int) = 1)) then ((idx r8.1 0).bind fun y30 => some (decide (y30.fSlice = 2))) else some false) else some false) else some false) else some false) else some false) else some false) else some false))) else some false))) else some false)) else some false)) else some false)) else some false) else some false) : Option Bool).bind fun v9 => some v9)))))))))
theorem tracebooklaw54_awake_fun  (r : Bool) (hF : tracebooklaw54_awake  = some r) : Fun Tryz.prog 9 true [] [] noHeap (cB r) noHeap := by
 refine Fun.of_walk0 Tryz.func9 c9 (by kernel_rfl) (rs := [.tmp 0]) (by kernel_rfl) ?_; unfold v9
 unfold tracebooklaw54_awake at hF
 refine wA rfl ?_; refine wE ?_; refine rS (T_bsl (tc := t_i64) [10, 10, 40] rfl ⟨rfl, rfl, rfl, trivial⟩ rfl (fun _ => rfl) rfl ?_)
 obtain ⟨r1, hr1, hF⟩ := bB hF
 refine R_shift trivial (S_frz (10,0) rfl rfl S_refl) (X_callG [((902,720),(11,1)), ((902,721),(11,2)), ((902,722),(11,3))] rfl (callN _) (tracebooklaw54_calls_fun _ _ _ hr1) trivial ⟨.inl rfl, .inl rfl, trivial⟩ rfl rfl rfl ?_)
 obtain ⟨r2, hr2, hF⟩ := bB hF
 refine R_shift trivial (S_frz (11,1) rfl rfl (S_frz (11,2) rfl rfl (S_frz (11,3) rfl rfl S_refl))) (X_callG [((902,400),(12,1))] rfl (callN _) (anomaly_Of_fun _ _ _ _ hr2) trivial ⟨.inr ⟨rfl, rfl, rfl, rfl, rfl, rfl, rfl, rfl, rfl, rfl, trivial⟩, .inl rfl, .inl rfl, trivial⟩ rfl rfl rfl ?_)
 refine QV rfl ?_; refine wE ?_; refine rS (T_bsl (tc := t_i64) [10, 40] rfl ⟨rfl, rfl, trivial⟩ rfl (fun _ => rfl) rfl ?_)
 obtain ⟨r3, hr3, hF⟩ := bB hF
 refine R_shift trivial (S_frz (16,0) rfl rfl S_refl) (X_callG [((902,720),(17,1)), ((902,721),(17,2)), ((902,722),(17,3))] rfl (callN _) (tracebooklaw54_calls_fun _ _ _ hr3) trivial ⟨.inl rfl, .inl rfl, trivial⟩ rfl rfl rfl ?_)
 obtain ⟨r4, hr4, hF⟩ := bB hF
 refine R_shift trivial (S_frz (17,1) rfl rfl (S_frz (17,2) rfl rfl (S_frz (17,3) rfl rfl S_refl))) (X_callG [((902,400),(18,1))] rfl (callN _) (anomaly_Of_fun _ _ _ _ hr4) trivial ⟨.inr ⟨rfl, rfl, rfl, rfl, rfl, rfl, rfl, rfl, rfl, rfl, trivial⟩, .inl rfl, .inl rfl, trivial⟩ rfl rfl rfl ?_)
 refine QV rfl ?_; refine wE ?_; refine rS (T_bsl (tc := t_i64) [1, 2, 3] rfl ⟨rfl, rfl, rfl, trivial⟩ rfl (fun _ => rfl) rfl ?_)
 obtain ⟨r5, hr5, hF⟩ := bB hF
 refine R_shift trivial (S_frz (22,0) rfl rfl S_refl) (X_callG [((902,720),(23,1)), ((902,721),(23,2)), ((902,722),(23,3))] rfl (callN _) (tracebooklaw54_calls_fun _ _ _ hr5) trivial ⟨.inl rfl, .inl rfl, trivial⟩ rfl rfl rfl ?_)
 obtain ⟨r6, hr6, hF⟩ := bB hF
 refine rS (T_call (anomaly_Usual_fun _ _ _ hr6) ⟨⟨rfl, rfl, ⟨_, rfl⟩, ⟨_, rfl⟩, ⟨_, rfl⟩, rfl, rfl, rfl, rfl, rfl, trivial⟩, rfl, trivial⟩ rfl (.inl rfl) ?_); refine QV rfl ?_; refine wE ?_; refine rS (T_bsl (tc := t_i64) [1, 2, 3] rfl ⟨rfl, rfl, rfl, trivial⟩ rfl (fun _ => rfl) rfl ?_)
 obtain ⟨r7, hr7, hF⟩ := bB hF
 refine R_shift trivial (S_frz (28,0) rfl rfl S_refl) (X_callG [((902,720),(29,1)), ((902,721),(29,2)), ((902,722),(29,3))] rfl (callN _) (tracebooklaw54_calls_fun _ _ _ hr7) trivial ⟨.inl rfl, .inl rfl, trivial⟩ rfl rfl rfl ?_)
 obtain ⟨r8, hr8, hF⟩ := bB hF
 refine R_shift trivial (S_frz (29,1) rfl rfl (S_frz (29,2) rfl rfl (S_frz (29,3) rfl rfl S_refl))) (X_callG [((902,400),(30,1))] rfl (callN _) (anomaly_Of_fun _ _ _ _ hr8) trivial ⟨.inr ⟨rfl, rfl, rfl, rfl, rfl, rfl, rfl, rfl, rfl, rfl, trivial⟩, .inl rfl, .inl rfl, trivial⟩ rfl rfl rfl ?_)
 refine QV rfl ?_; refine W_seq ?_; refine W_join (fun _ _ h => h) hF (fun v9 => [(0, cB v9)]) (fun v9 => []) ?_ ?_
 · rintro v9 hF
   cases hF
   exact W_ret wR
 intro join hF
 refine wD 3 rfl ?_; cases h10 : (decide (r2.2 = 0))
 · have hF := bF' h10 hF; refine QV rfl ?_; exact join false _ _ hF sw
 have hF := bT' h10 hF; refine Q_run SV 1 rfl ?_; refine R_step SV rfl (T_len (tc := t_api_Outlier) r2.1 (.own _ _ rfl) ?_); refine Q_run SV 3 rfl ?_; cases h11 : (decide ((List.length r2.1 : Int) = 1))
 · have hF := bF' h11 hF; refine QV rfl ?_; exact join false _ _ hF sw
 have hF := bT' h11 hF; refine Q_run SV 1 rfl ?_; obtain ⟨y12, hy12, hF⟩ := bB' hF
 refine R_step SV rfl (T_ixO (tc := t_api_Outlier) r2.1 rfl rfl rfl hy12 ?_); refine Q_run SV 1 rfl ?_; refine R_step SV rfl (T_ldE (tc := t_api_Outlier) r2.1 rfl rfl (idx_get hy12).2.1 rfl ?_); refine Q_run SV 3 rfl ?_
 cases h13 : (decide (y12.fSlice = 2))
 · have hF := bF' h13 hF; refine QV rfl ?_; exact join false _ _ hF sw
 have hF := bT' h13 hF; refine Q_run SV 1 rfl ?_; obtain ⟨y14, hy14, hF⟩ := bB' hF
 refine R_step SV rfl (T_ixO (tc := t_api_Outlier) r2.1 rfl rfl rfl hy14 ?_); refine Q_run SV 1 rfl ?_; refine R_step SV rfl (T_ldE (tc := t_api_Outlier) r2.1 rfl rfl (idx_get hy14).2.1 rfl ?_); refine Q_run SV 3 rfl ?_
 cases h15 : (decide (y14.fExcess = 30))
 · have hF := bF' h15 hF; refine QV rfl ?_; exact join false _ _ hF sw
 have hF := bT' h15 hF; refine Q_run SV 1 rfl ?_; obtain ⟨y16, hy16, hF⟩ := bB' hF
 refine R_step SV rfl (T_ixO (tc := t_api_Outlier) r2.1 rfl rfl rfl hy16 ?_); refine Q_run SV 1 rfl ?_; refine R_step SV rfl (T_ldE (tc := t_api_Outlier) r2.1 rfl rfl (idx_get hy16).2.1 rfl ?_); refine R_step SV rfl (T_len (tc := t_api_Part) y16.fParts .tree ?_)
 refine Q_run SV 3 rfl ?_; cases h17 : (decide ((List.length y16.fParts : Int) = 1))
 · have hF := bF' h17 hF; refine QV rfl ?_; exact join false _ _ hF sw
 have hF := bT' h17 hF; refine Q_run SV 1 rfl ?_; obtain ⟨y18, hy18, hF⟩ := bB' hF
 refine R_step SV rfl (T_ixO (tc := t_api_Outlier) r2.1 rfl rfl rfl hy18 ?_); refine Q_run SV 1 rfl ?_; refine R_step SV rfl (T_ldE (tc := t_api_Outlier) r2.1 rfl rfl (idx_get hy18).2.1 rfl ?_); obtain ⟨y19, hy19, hF⟩ := bB' hF
 refine R_step SV rfl (T_ixT (tc := t_api_Part) y18.fParts rfl rfl hy19 ?_); refine Q_run SV 5 rfl ?_; cases h20 : (decide (y19.fCause = ⟨#[97, 115, 108, 101, 101, 112]⟩))
 · have hF := bF' h20 hF; refine QV rfl ?_; exact join false _ _ hF sw
 have hF := bT' h20 hF; refine Q_run SV 1 rfl ?_; obtain ⟨y21, hy21, hF⟩ := bB' hF
 refine R_step SV rfl (T_ixO (tc := t_api_Outlier) r2.1 rfl rfl rfl hy21 ?_); refine Q_run SV 1 rfl ?_; refine R_step SV rfl (T_ldE (tc := t_api_Outlier) r2.1 rfl rfl (idx_get hy21).2.1 rfl ?_); obtain ⟨y22, hy22, hF⟩ := bB' hF
 refine R_step SV rfl (T_ixT (tc := t_api_Part) y21.fParts rfl rfl hy22 ?_); refine Q_run SV 6 rfl ?_; cases h23 : (decide (y22.fValue.fN = 30))
 · have hF := bF' h23 hF; refine QV rfl ?_; exact join false _ _ hF sw
 have hF := bT' h23 hF; refine Q_run SV 4 rfl ?_; cases h24 : (decide (r4.2 = 0))
 · have hF := bF' h24 hF; refine QV rfl ?_; exact join false _ _ hF sw
 have hF := bT' h24 hF; refine Q_run SV 1 rfl ?_; refine R_step SV rfl (T_len (tc := t_api_Outlier) r4.1 (.own _ _ rfl) ?_); refine Q_run SV 3 rfl ?_; cases h25 : (decide ((List.length r4.1 : Int) = 0))
 · have hF := bF' h25 hF; refine QV rfl ?_; exact join false _ _ hF sw
 have hF := bT' h25 hF; refine Q_run SV 4 rfl ?_; cases h26 : (decide (r6.2 = 0))
 · have hF := bF' h26 hF; refine QV rfl ?_; exact join false _ _ hF sw
 have hF := bT' h26 hF; refine Q_run SV 4 rfl ?_; cases h27 : (decide (r6.1 = 1))
 · have hF := bF' h27 hF; refine QV rfl ?_; exact join false _ _ hF sw
 have hF := bT' h27 hF; refine Q_run SV 4 rfl ?_; cases h28 : (decide (r8.2 = 0))
 · have hF := bF' h28 hF; refine QV rfl ?_; exact join false _ _ hF sw
 have hF := bT' h28 hF; refine Q_run SV 1 rfl ?_; refine R_step SV rfl (T_len (tc := t_api_Outlier) r8.1 (.own _ _ rfl) ?_); refine Q_run SV 3 rfl ?_; cases h29 : (decide ((List.length r8.1 : Int) = 1))
 · have hF := bF' h29 hF; refine QV rfl ?_; exact join false _ _ hF sw
 have hF := bT' h29 hF; refine Q_run SV 1 rfl ?_; obtain ⟨y30, hy30, hF⟩ := bB' hF
 refine R_step SV rfl (T_ixO (tc := t_api_Outlier) r8.1 rfl rfl rfl hy30 ?_); refine Q_run SV 1 rfl ?_; refine R_step SV rfl (T_ldE (tc := t_api_Outlier) r8.1 rfl rfl (idx_get hy30).2.1 rfl ?_); refine QV rfl ?_
 exact join (decide (y30.fSlice = 2)) _ _ hF sw
def tracebooklaw54_AnomalyStricter_L1 (r3 : ((List api_Outlier) × Int)) (y88 : api_Outlier) : Int → Option (Int ⊕ Int) := fun a100 =>
  (((bif (decide (a100 < (List.length r3.1 : Int))) then ((idx r3.1 a100).bind fun y110 => some (!decide (y110.fSlice = y88.fSlice))) else some false) : Option Bool).bind fun v107 => (bif v107 then some (.inl (w64 (a100 + 1))) else some (.inr a100)))
def tracebooklaw54_AnomalyStricter_L2 (r3 : ((List api_Outlier) × Int)) (r4 : ((List api_Outlier) × Int)) : (Int × Int) → Option ((Int × Int) ⊕ (Unit ⊕ Bool)) := fun (a61, a62) =>
  (bif (decide (a62 < (List.length r4.1 : Int))) then ((idx r4.1 a62).bind fun y88 => ((loop (tracebooklaw54_AnomalyStricter_L1 r3 y88) a61).bind fun e105 => (bif (decide (e105 = (List.length r3.1 : Int))) then some (.inr (.inr false)) else some (.inl (e105, (w64 (a62 + 1))))))) else some (.inr (.inl ())))
def tracebooklaw54_AnomalyStricter (p0 : api_Trace) (p1 : Int) (p2 : Int) (p3 : Int) (p4 : Int) : Option Bool :=
  ((((tracebooklaw54_few p0).bind fun r115 => (bif (!r115) then some true else (bif (decide (p1 < 1)) then some true else (bif (decide (p2 < 1)) then some true else (bif (decide (p3 < 1)) then some true else (bif (decide (p4 < 1)) then some true else (bif (decide (1000 < p1)) then some true else (bif (decide (1000 < p2)) then some true else (bif (decide (1000 < p3)) then some true else (bif (decide (1000 < p4)) then some true else some (decide ((w64 (p3 * p2)) < (w64 (p1 * p4)))))))))))))) : Option Bool).bind fun v1 => (bif v1 then ((tracebooklaw54_awake ).bind fun r2 => some r2) else ((anomaly_Of p0 p1 p2).bind fun r3 => ((anomaly_Of p0 p3 p4).bind fun r4 => (((bif (!decide (r3.2 = 0)) then some true else some (!decide (r4.2 = 0))) : Option Bool).bind fun v5 => (bif v5 then ((tracebooklaw54_awake ).bind fun r6 => some r6) else ((loop (tracebooklaw54_AnomalyStricter_L2 r3 r4) (0, 0)).bind fun | .inl _ => ((tracebooklaw54_awake ).bind fun r87 => some r87) | .inr rv => some rv)))))))
theorem tracebooklaw54_AnomalyStricter_fun (p0 : api_Trace) (p1 : Int) (p2 : Int) (p3 : Int) (p4 : Int) (r : Bool) (hF : tracebooklaw54_AnomalyStricter p0 p1 p2 p3 p4 = some r) : Fun Tryz.prog 4 true [] [.agg (m_api_Trace p0), cI p1, cI p2, cI p3, cI p4] noHeap (cB r) noHeap := by
 refine Fun.of_walk0 Tryz.func4 c4 (by kernel_rfl) (rs := [.tmp 10]) (by kernel_rfl) ?_; unfold v4
 unfold tracebooklaw54_AnomalyStricter at hF
 refine wA rfl ?_; refine W_seq ?_; refine W_seq ?_; refine W_join (fun _ _ h => h) hF (fun v1 => [(1, cI p1), (2, cI p2), (3, cI p3), (4, cI p4), (5, cP (5,0) 0), (61, cB v1)]) (fun v1 => [((5,0), .box (m_api_Trace p0))]) ?_ ?_
 · rintro v1 hF
   refine wIf hF rfl (fun _ hF => ?_) fun _ hF => ?_
   · refine wE ?_; obtain ⟨r2, hr2, hF⟩ := bB hF
     refine rS (T_call (tracebooklaw54_awake_fun _ hr2) trivial rfl (.inl rfl) ?_); refine QV rfl ?_; cases hF
     exact W_ret wR
   refine W_skip ?_; refine wC 3 rfl ?_; obtain ⟨r3, hr3, hF⟩ := bB hF
   refine R_stepX trivial (X_callG [((902,400),(67,1))] rfl (callN _) (anomaly_Of_fun _ _ _ _ hr3) trivial ⟨.inr ⟨rfl, rfl, rfl, rfl, rfl, rfl, rfl, rfl, rfl, rfl, trivial⟩, .inl rfl, .inl rfl, trivial⟩ rfl rfl rfl ?_)
   refine QV rfl ?_; refine wC 3 rfl ?_; obtain ⟨r4, hr4, hF⟩ := bB hF
   refine R_stepX trivial (X_callG [((902,400),(74,1))] rfl (callN _) (anomaly_Of_fun _ _ _ _ hr4) trivial ⟨.inr ⟨rfl, rfl, rfl, rfl, rfl, rfl, rfl, rfl, rfl, rfl, trivial⟩, .inl rfl, .inl rfl, trivial⟩ rfl rfl rfl ?_)
   refine QV rfl ?_; refine W_seq ?_; refine W_seq ?_; refine W_join (fun _ _ h => h) hF (fun v5 => [(11, cO (67,1)), (13, cO (74,1)), (82, cB v5)]) (fun v5 => [((67,1), .arr 42 3 (List.map t_api_Outlier r3.1)), ((74,1), .arr 42 3 (List.map t_api_Outlier r4.1))]) ?_ ?_
   · rintro v5 hF
     refine wIf hF rfl (fun _ hF => ?_) fun _ hF => ?_
     · refine wE ?_; obtain ⟨r6, hr6, hF⟩ := bB hF
       refine rS (T_call (tracebooklaw54_awake_fun _ hr6) trivial rfl (.inl rfl) ?_); refine QV rfl ?_; cases hF
       exact W_ret wR
     refine W_skip ?_; refine wA rfl ?_; refine W_seq ?_; refine wC 1 rfl ?_; refine rS (T_len (tc := t_api_Outlier) r4.1 (.own _ _ rfl) ?_); refine QV rfl ?_; refine W_for (fun _ _ h => h) hF (.inl) (fun (a61, a62) => [(11, cO (67,1)), (15, cI a61), (84, cO (74,1)), (85, cI (List.length r4.1 : Int)), (86, cI a62)]) (fun (a61, a62) => [((67,1), .arr 42 3 (List.map t_api_Outlier r3.1)), ((74,1), .arr 42 3 (List.map t_api_Outlier r4.1))]) (fun _ => []) (fun _ => []) sw ?_ ?_
     · rintro ⟨⟩ hF
       refine wE ?_; obtain ⟨r87, hr87, hF⟩ := bB hF
       refine rS (T_call (tracebooklaw54_awake_fun _ hr87) trivial rfl (.inl rfl) ?_); refine QV rfl ?_; cases hF
       exact W_ret wR
     rintro ⟨a61, a62⟩ x_0 hF cont_0 brk_0 fin_0
     unfold tracebooklaw54_AnomalyStricter_L2 at hF
     refine wA rfl ?_; refine W_seq ?_; refine wIf hF rfl (fun _ hF => ?_) fun _ hF => ?_
     · refine W_skip ?_; refine W_seq ?_; refine W_block ?_; refine wE ?_; obtain ⟨y88, hy88, hF⟩ := bB hF
       refine rS (T_ixO (tc := t_api_Outlier) r4.1 rfl rfl rfl hy88 ?_); refine rS (T_ldE (tc := t_api_Outlier) r4.1 rfl rfl (idx_get hy88).2.1 rfl ?_); refine QV rfl ?_; refine W_seq ?_; refine W_for (fun _ _ h => h) hF (id) (fun a100 => [(11, cO (67,1)), (15, cI a100), (17, cP (17,0) 0), (84, cO (74,1)), (85, cI (List.length r4.1 : Int)), (86, cI a62)]) (fun a100 => [((67,1), .arr 42 3 (List.map t_api_Outlier r3.1)), ((17,0), .box (m_api_Outlier y88)), ((74,1), .arr 42 3 (List.map t_api_Outlier r4.1))]) (fun e105 => [(11, cO (67,1)), (15, cI e105), (84, cO (74,1)), (85, cI (List.length r4.1 : Int)), (86, cI a62)]) (fun e105 => [((67,1), .arr 42 3 (List.map t_api_Outlier r3.1)), ((74,1), .arr 42 3 (List.map t_api_Outlier r4.1))]) sw ?_ ?_
       · rintro e105 hF
         refine wC 2 rfl ?_; refine rS (T_len (tc := t_api_Outlier) r3.1 (.own _ _ rfl) ?_); refine QV rfl ?_; refine wIf hF rfl (fun _ hF => ?_) fun _ hF => ?_
         · refine wA rfl ?_; have hF := fin_0 _ (oi hF); cases hF
           exact W_ret wR
         refine W_skip ?_; refine wB rfl ?_; exact cont_0 _ _ _ (oi hF) sw
       rintro a100 x_1 hF cont_1 brk_1 fin_1
       unfold tracebooklaw54_AnomalyStricter_L1 at hF
       refine W_seq ?_; refine W_seq ?_; refine W_join (fun _ _ h => h) hF (fun v107 => [(11, cO (67,1)), (15, cI a100), (17, cP (17,0) 0), (84, cO (74,1)), (85, cI (List.length r4.1 : Int)), (86, cI a62), (103, cB v107)]) (fun v107 => [((67,1), .arr 42 3 (List.map t_api_Outlier r3.1)), ((17,0), .box (m_api_Outlier y88)), ((74,1), .arr 42 3 (List.map t_api_Outlier r4.1))]) ?_ ?_
       · rintro v107 hF
         refine wIf hF rfl (fun _ hF => ?_) fun _ hF => ?_
         · refine W_skip ?_; refine W_block ?_; refine wB rfl ?_; exact cont_1 _ _ _ (oi hF) sw
         refine W_exit ?_; refine thenQ_exit ?_; refine thenQ_exit ?_; refine blockQ_hit ?_; exact brk_1 _ _ _ (oi hF) sw
       intro join hF
       refine W_regD (by decide) (by kernel_rfl) rfl ?_; refine Q_run SP 2 rfl ?_; refine R_step SP trivial (T_len (tc := t_api_Outlier) r3.1 (.own _ _ rfl) ?_); refine Q_run SP 2 rfl ?_; cases h109 : (decide (a100 < (List.length r3.1 : Int)))
       · have hF := bF' h109 hF; refine QP rfl ?_; exact join false _ _ hF sw
       have hF := bT' h109 hF; refine Q_run SP 2 rfl ?_; obtain ⟨y110, hy110, hF⟩ := bB' hF
       refine R_step SP rfl (T_ixO (tc := t_api_Outlier) r3.1 rfl rfl rfl hy110 ?_); refine Q_run SP 1 rfl ?_; refine R_step SP rfl (T_ldE (tc := t_api_Outlier) r3.1 rfl rfl (idx_get hy110).2.1 rfl ?_); refine QP rfl ?_
       exact join (!decide (y110.fSlice = y88.fSlice)) _ _ hF sw
     refine W_exit ?_; refine thenQ_exit ?_; refine thenQ_exit ?_; refine blockQ_hit ?_; exact brk_0 _ _ _ (oi hF) sw
   intro join hF
   refine wD 3 rfl ?_; cases h113 : (!decide (r3.2 = 0))
   · have hF := bF' h113 hF; refine QV rfl ?_; exact join (!decide (r4.2 = 0)) _ _ hF sw
   have hF := bT' h113 hF; refine QV rfl ?_; exact join true _ _ hF sw
 intro join hF
 refine wD 1 rfl ?_; obtain ⟨r115, hr115, hF⟩ := bB' hF
 refine rS (T_call (tracebooklaw54_few_fun _ _ hr115) ⟨⟨rfl, rfl, rfl, rfl, rfl, rfl, rfl, rfl, rfl, rfl, trivial⟩, trivial⟩ rfl (.inl rfl) ?_); refine Q_run SV 2 rfl ?_; cases h116 : (!r115)
 · have hF := bF' h116 hF; refine Q_run SV 4 rfl ?_; cases h117 : (decide (p1 < 1))
   · have hF := bF' h117 hF; refine Q_run SV 4 rfl ?_; cases h118 : (decide (p2 < 1))
     · have hF := bF' h118 hF; refine Q_run SV 4 rfl ?_; cases h119 : (decide (p3 < 1))
       · have hF := bF' h119 hF; refine Q_run SV 4 rfl ?_; cases h120 : (decide (p4 < 1))
         · have hF := bF' h120 hF; refine Q_run SV 4 rfl ?_; cases h121 : (decide (1000 < p1))
           · have hF := bF' h121 hF; refine Q_run SV 4 rfl ?_; cases h122 : (decide (1000 < p2))
             · have hF := bF' h122 hF; refine Q_run SV 4 rfl ?_; cases h123 : (decide (1000 < p3))
               · have hF := bF' h123 hF; refine Q_run SV 4 rfl ?_; cases h124 : (decide (1000 < p4))
                 · have hF := bF' h124 hF; refine QV rfl ?_; exact join (decide ((w64 (p3 * p2)) < (w64 (p1 * p4)))) _ _ hF sw
                 have hF := bT' h124 hF; refine QV rfl ?_; exact join true _ _ hF sw
               have hF := bT' h123 hF; refine QV rfl ?_; exact join true _ _ hF sw
             have hF := bT' h122 hF; refine QV rfl ?_; exact join true _ _ hF sw
           have hF := bT' h121 hF; refine QV rfl ?_; exact join true _ _ hF sw
         have hF := bT' h120 hF; refine QV rfl ?_; exact join true _ _ hF sw
       have hF := bT' h119 hF; refine QV rfl ?_; exact join true _ _ hF sw
     have hF := bT' h118 hF; refine QV rfl ?_; exact join true _ _ hF sw
   have hF := bT' h117 hF; refine QV rfl ?_; exact join true _ _ hF sw
 have hF := bT' h116 hF; refine QV rfl ?_; exact join true _ _ hF sw
def tracebooklaw54_AnomalyMost_L1 (p0 : api_Trace) (r3 : ((List api_Outlier) × Int)) (y240 : api_Slice) : (Int × Int) → Option ((Int × Int) ⊕ (Int ⊕ (Int ⊕ (Unit ⊕ Bool)))) := fun (a290, a291) =>
  (bif (decide (a291 < (List.length r3.1 : Int))) then ((idx r3.1 a291).bind fun y302 => (((bif (decide (y302.fSlice < 0)) then some true else some (decide ((List.length p0.fSlices : Int) ≤ y302.fSlice))) : Option Bool).bind fun v303 => (bif v303 then some (.inr (.inr (.inr (.inr false)))) else ((idx p0.fSlices y302.fSlice).bind fun y304 => (((bif (decide (y304.fName = y240.fName)) then some (w64 (a290 + 1)) else some a290) : Option Int).bind fun v305 => some (.inl (v305, (w64 (a291 + 1))))))))) else some (.inr (.inl a290)))
def tracebooklaw54_AnomalyMost_L2 (p0 : api_Trace) (y240 : api_Slice) : (Int × Int) → Option ((Int × Int) ⊕ Int) := fun (a259, a260) =>
  (bif (decide (a260 < (List.length p0.fSlices : Int))) then ((((idx p0.fSlices a260).bind fun y311 => (((bif (decide (y311.fName = y240.fName)) then some (!y311.fOpen) else some false) : Option Bool).bind fun v312 => (bif v312 then some (w64 (a259 + 1)) else some a259))) : Option Int).bind fun v310 => some (.inl (v310, (w64 (a260 + 1))))) else some (.inr a259))
def tracebooklaw54_AnomalyMost_L3 (p0 : api_Trace) (r3 : ((List api_Outlier) × Int)) : Int → Option (Int ⊕ (Unit ⊕ Bool)) := fun a161 =>
  (bif (decide (a161 < (List.length p0.fSlices : Int))) then ((idx p0.fSlices a161).bind fun y240 => ((loop (tracebooklaw54_AnomalyMost_L2 p0 y240) (0, 0)).bind fun e267 => ((loop (tracebooklaw54_AnomalyMost_L1 p0 r3 y240) (0, 0)).bind fun | .inl e300 => (bif (decide (e267 < (w64 (2 * e300)))) then some (.inr (.inr false)) else some (.inl (w64 (a161 + 1)))) | .inr rv => some rv))) else some (.inr (.inl ())))
def tracebooklaw54_AnomalyMost (p0 : api_Trace) (p1 : Int) (p2 : Int) : Option Bool :=
  ((tracebooklaw54_few p0).bind fun r1 => (bif (!r1) then ((tracebooklaw54_awake ).bind fun r2 => some r2) else ((anomaly_Of p0 p1 p2).bind fun r3 => ((loop (tracebooklaw54_AnomalyMost_L3 p0 r3) 0).bind fun | .inl _ => ((tracebooklaw54_awake ).bind fun r239 => some r239) | .inr rv => some rv))))
theorem tracebooklaw54_AnomalyMost_fun (p0 : api_Trace) (p1 : Int) (p2 : Int) (r : Bool) (hF : tracebooklaw54_AnomalyMost p0 p1 p2 = some r) : Fun Tryz.prog 5 true [] [.agg (m_api_Trace p0), cI p1, cI p2] noHeap (cB r) noHeap := by
 refine Fun.of_walk0 Tryz.func5 c5 (by kernel_rfl) (rs := [.tmp 6]) (by kernel_rfl) ?_; unfold v5
 unfold tracebooklaw54_AnomalyMost at hF
 refine wA rfl ?_; refine W_seq ?_; refine wC 1 rfl ?_; obtain ⟨r1, hr1, hF⟩ := bB hF
 refine rS (T_call (tracebooklaw54_few_fun _ _ hr1) ⟨⟨rfl, rfl, rfl, rfl, rfl, rfl, rfl, rfl, rfl, rfl, trivial⟩, trivial⟩ rfl (.inl rfl) ?_); refine QV rfl ?_; refine wIf hF rfl (fun _ hF => ?_) fun _ hF => ?_
 · refine wE ?_; obtain ⟨r2, hr2, hF⟩ := bB hF
   refine rS (T_call (tracebooklaw54_awake_fun _ hr2) trivial rfl (.inl rfl) ?_); refine QV rfl ?_; cases hF
   exact W_ret wR
 refine W_skip ?_; refine wC 3 rfl ?_; obtain ⟨r3, hr3, hF⟩ := bB hF
 refine R_stepX trivial (X_callG [((902,400),(25,1))] rfl (callN _) (anomaly_Of_fun _ _ _ _ hr3) trivial ⟨.inr ⟨rfl, rfl, rfl, rfl, rfl, rfl, rfl, rfl, rfl, rfl, trivial⟩, .inl rfl, .inl rfl, trivial⟩ rfl rfl rfl ?_)
 refine QV rfl ?_; refine W_seq ?_; refine wC 2 rfl ?_; refine rS (T_len (tc := t_api_Slice) p0.fSlices .tree ?_); refine QV rfl ?_; refine W_for (fun _ _ h => h) hF (.inl) (fun a161 => [(3, cP (3,0) 0), (7, cO (25,1)), (29, cL 8 t_api_Slice p0.fSlices), (30, cI (List.length p0.fSlices : Int)), (31, cI a161)]) (fun a161 => [((3,0), .box (m_api_Trace p0)), ((25,1), .arr 42 3 (List.map t_api_Outlier r3.1))]) (fun _ => []) (fun _ => []) sw ?_ ?_
 · rintro ⟨⟩ hF
   refine wE ?_; obtain ⟨r239, hr239, hF⟩ := bB hF
   refine rS (T_call (tracebooklaw54_awake_fun _ hr239) trivial rfl (.inl rfl) ?_); refine QV rfl ?_; cases hF
   exact W_ret wR
 rintro a161 x_0 hF cont_0 brk_0 fin_0
 unfold tracebooklaw54_AnomalyMost_L3 at hF
 refine wA rfl ?_; refine W_seq ?_; refine wIf hF rfl (fun _ hF => ?_) fun _ hF => ?_
 · refine W_skip ?_; refine W_seq ?_; refine W_block ?_; refine wE ?_; obtain ⟨y240, hy240, hF⟩ := bB hF
   refine rS (T_ixT (tc := t_api_Slice) p0.fSlices rfl rfl hy240 ?_); refine QV rfl ?_; refine wA rfl ?_; refine W_seq ?_; refine wC 2 rfl ?_; refine rS (T_len (tc := t_api_Slice) p0.fSlices .tree ?_); refine QV rfl ?_
   refine W_for (fun _ _ h => h) hF (id) (fun (a259, a260) => [(3, cP (3,0) 0), (7, cO (25,1)), (10, cP (10,0) 0), (11, cI a259), (12, cI 0), (29, cL 8 t_api_Slice p0.fSlices), (30, cI (List.length p0.fSlices : Int)), (31, cI a161), (36, cL 8 t_api_Slice p0.fSlices), (37, cI (List.length p0.fSlices : Int)), (38, cI a260)]) (fun (a259, a260) => [((3,0), .box (m_api_Trace p0)), ((25,1), .arr 42 3 (List.map t_api_Outlier r3.1)), ((10,0), .box (m_api_Slice y240))]) (fun e267 => [(3, cP (3,0) 0), (7, cO (25,1)), (10, cP (10,0) 0), (11, cI e267), (12, cI 0), (29, cL 8 t_api_Slice p0.fSlices), (30, cI (List.length p0.fSlices : Int)), (31, cI a161)]) (fun e267 => [((3,0), .box (m_api_Trace p0)), ((25,1), .arr 42 3 (List.map t_api_Outlier r3.1)), ((10,0), .box (m_api_Slice y240))]) sw ?_ ?_
   · rintro e267 hF
     refine W_seq ?_; refine wC 1 rfl ?_; refine rS (T_len (tc := t_api_Outlier) r3.1 (.own _ _ rfl) ?_); refine QV rfl ?_; refine W_for (fun _ _ h => h) hF (.inl) (fun (a290, a291) => [(3, cP (3,0) 0), (7, cO (25,1)), (10, cP (10,0) 0), (11, cI e267), (12, cI a290), (29, cL 8 t_api_Slice p0.fSlices), (30, cI (List.length p0.fSlices : Int)), (31, cI a161), (55, cO (25,1)), (56, cI (List.length r3.1 : Int)), (57, cI a291)]) (fun (a290, a291) => [((3,0), .box (m_api_Trace p0)), ((25,1), .arr 42 3 (List.map t_api_Outlier r3.1)), ((10,0), .box (m_api_Slice y240))]) (fun e300 => [(3, cP (3,0) 0), (7, cO (25,1)), (11, cI e267), (12, cI e300), (29, cL 8 t_api_Slice p0.fSlices), (30, cI (List.length p0.fSlices : Int)), (31, cI a161)]) (fun e300 => [((3,0), .box (m_api_Trace p0)), ((25,1), .arr 42 3 (List.map t_api_Outlier r3.1))]) sw ?_ ?_
     · rintro e300 hF
       refine wA rfl ?_; refine wIf hF rfl (fun _ hF => ?_) fun _ hF => ?_
       · refine wA rfl ?_; have hF := fin_0 _ (oi hF); cases hF
         exact W_ret wR
       refine W_skip ?_; refine wB rfl ?_; exact cont_0 _ _ _ (oi hF) sw
     rintro ⟨a290, a291⟩ x_1 hF cont_1 brk_1 fin_1
     unfold tracebooklaw54_AnomalyMost_L1 at hF
     refine wA rfl ?_; refine W_seq ?_; refine wIf hF rfl (fun _ hF => ?_) fun _ hF => ?_
     · refine W_skip ?_; refine W_seq ?_; refine W_block ?_; refine wE ?_; obtain ⟨y302, hy302, hF⟩ := bB hF
       refine rS (T_ixO (tc := t_api_Outlier) r3.1 rfl rfl rfl hy302 ?_); refine rS (T_ldE (tc := t_api_Outlier) r3.1 rfl rfl (idx_get hy302).2.1 rfl ?_); refine QV rfl ?_; refine W_seq ?_; refine W_seq ?_; refine W_join (fun _ _ h => h) hF (fun v303 => [(3, cP (3,0) 0), (7, cO (25,1)), (10, cP (10,0) 0), (11, cI e267), (12, cI a290), (16, cP (16,0) 0), (29, cL 8 t_api_Slice p0.fSlices), (30, cI (List.length p0.fSlices : Int)), (31, cI a161), (55, cO (25,1)), (56, cI (List.length r3.1 : Int)), (57, cI a291), (71, cB v303)]) (fun v303 => [((3,0), .box (m_api_Trace p0)), ((25,1), .arr 42 3 (List.map t_api_Outlier r3.1)), ((10,0), .box (m_api_Slice y240)), ((16,0), .box (m_api_Outlier y302))]) ?_ ?_
       · rintro v303 hF
         refine wIf hF rfl (fun _ hF => ?_) fun _ hF => ?_
         · refine wA rfl ?_; have hF := fin_1 _ (oi hF); have hF := fin_0 _ (oi hF); cases hF
           exact W_ret wR
         refine W_skip ?_; refine W_seq ?_; refine W_regD (by decide) (by kernel_rfl) rfl ?_; refine Q_run SP 4 rfl ?_; obtain ⟨y304, hy304, hF⟩ := bB hF
         refine R_step SP trivial (T_ixT (tc := t_api_Slice) p0.fSlices rfl rfl hy304 ?_); refine QP rfl ?_; refine W_join (fun _ _ h => h) hF (fun v305 => [(3, cP (3,0) 0), (7, cO (25,1)), (10, cP (10,0) 0), (11, cI e267), (12, cI v305), (29, cL 8 t_api_Slice p0.fSlices), (30, cI (List.length p0.fSlices : Int)), (31, cI a161), (55, cO (25,1)), (56, cI (List.length r3.1 : Int)), (57, cI a291)]) (fun v305 => [((3,0), .box (m_api_Trace p0)), ((25,1), .arr 42 3 (List.map t_api_Outlier r3.1)), ((10,0), .box (m_api_Slice y240))]) ?_ ?_
         · rintro v305 hF
           refine wB rfl ?_; exact cont_1 _ _ _ (oi hF) sw
         intro join hF
         refine wIf' hF rfl (fun _ hF => ?_) fun _ hF => ?_
         · refine wB rfl ?_; exact join (w64 (a290 + 1)) _ _ hF sw
         refine W_skip ?_; exact join a290 _ _ hF sw
       intro join hF
       refine wD 4 rfl ?_; cases h308 : (decide (y302.fSlice < 0))
       · have hF := bF' h308 hF; refine Q_run SV 4 rfl ?_; refine R_step SV rfl (T_len (tc := t_api_Slice) p0.fSlices .tree ?_); refine QV rfl ?_; exact join (decide ((List.length p0.fSlices : Int) ≤ y302.fSlice)) _ _ hF sw
       have hF := bT' h308 hF; refine QV rfl ?_; exact join true _ _ hF sw
     refine W_exit ?_; refine thenQ_exit ?_; refine thenQ_exit ?_; refine blockQ_hit ?_; exact brk_1 _ _ _ (oi hF) sw
   rintro ⟨a259, a260⟩ x_1 hF cont_1 brk_1 fin_1
   unfold tracebooklaw54_AnomalyMost_L2 at hF
   refine wA rfl ?_; refine W_seq ?_; refine wIf hF rfl (fun _ hF => ?_) fun _ hF => ?_
   · refine W_skip ?_; refine W_seq ?_; refine W_join (fun _ _ h => h) hF (fun v310 => [(3, cP (3,0) 0), (7, cO (25,1)), (10, cP (10,0) 0), (11, cI v310), (12, cI 0), (29, cL 8 t_api_Slice p0.fSlices), (30, cI (List.length p0.fSlices : Int)), (31, cI a161), (36, cL 8 t_api_Slice p0.fSlices), (37, cI (List.length p0.fSlices : Int)), (38, cI a260)]) (fun v310 => [((3,0), .box (m_api_Trace p0)), ((25,1), .arr 42 3 (List.map t_api_Outlier r3.1)), ((10,0), .box (m_api_Slice y240))]) ?_ ?_
     · rintro v310 hF
       refine wB rfl ?_; exact cont_1 _ _ _ (oi hF) sw
     intro join hF
     refine W_block ?_; refine wE ?_; obtain ⟨y311, hy311, hF⟩ := bB' hF
     refine rS (T_ixT (tc := t_api_Slice) p0.fSlices rfl rfl hy311 ?_); refine QV rfl ?_; refine W_seq ?_; have hF := bA hF; refine W_join (fun _ _ h => h) hF (fun v312 => [(3, cP (3,0) 0), (7, cO (25,1)), (10, cP (10,0) 0), (11, cI a259), (12, cI 0), (29, cL 8 t_api_Slice p0.fSlices), (30, cI (List.length p0.fSlices : Int)), (31, cI a161), (36, cL 8 t_api_Slice p0.fSlices), (37, cI (List.length p0.fSlices : Int)), (38, cI a260), (51, cB v312)]) (fun v312 => [((3,0), .box (m_api_Trace p0)), ((25,1), .arr 42 3 (List.map t_api_Outlier r3.1)), ((10,0), .box (m_api_Slice y240))]) ?_ ?_
     · rintro v312 hF
       refine wIf' hF rfl (fun _ hF => ?_) fun _ hF => ?_
       · refine wB rfl ?_; exact join (w64 (a259 + 1)) _ _ hF sw
       refine W_skip ?_; exact join a259 _ _ hF sw
     intro join hF
     refine wD 6 rfl ?_; cases h314 : (decide (y311.fName = y240.fName))
     · have hF := bF' h314 hF; refine QV rfl ?_; exact join false _ _ hF sw
     have hF := bT' h314 hF; refine QV rfl ?_; exact join (!y311.fOpen) _ _ hF sw
   refine W_exit ?_; refine thenQ_exit ?_; refine thenQ_exit ?_; refine blockQ_hit ?_; exact brk_1 _ _ _ (oi hF) sw
 refine W_exit ?_; refine thenQ_exit ?_; refine thenQ_exit ?_; refine blockQ_hit ?_; exact brk_0 _ _ _ (oi hF) sw
end Go.VM
