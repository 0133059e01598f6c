/- What the functions of the law compute, each with its proof. -/
import Derived.Test.YtkemjaomoopdnaaGreatL541
import Derived.Test.YtkemjaomoopdnaaGreatRows
import Derived.KernelRfl
import Derived.Lib.Bytealg
import Derived.Laws.Externs
import Derived.WalkKit
namespace Go.VM
open Go.Proofs Go.Proofs.YtkemjaomoopdnaaGreat
open Go.RowKit
set_option maxRecDepth 100000
set_option maxHeartbeats 4000000
def anomaly_closed_L1 (p0 : api_Trace) (p1 : ByteArray) : ((List Int) × Int) → Option (((List Int) × Int) ⊕ (List Int)) := fun (a23, a24) =>
  (bif (decide (a24 < (List.length p0.fSlices : Int))) then ((((idx p0.fSlices a24).bind fun y35 => (((bif (decide (y35.fName = p1)) then some (!y35.fOpen) else some false) : Option Bool).bind fun v36 => (bif v36 then ((anomaly_length y35).bind fun r37 => (bif room 8 (List.length a23 + List.length [r37]) then some (a23 ++ [r37]) else none)) else some a23))) : Option (List Int)).bind fun v34 => some (.inl (v34, (w64 (a24 + 1))))) else some (.inr a23))
def anomaly_closed (p0 : api_Trace) (p1 : ByteArray) : Option (List Int) :=
  ((loop (anomaly_closed_L1 p0 p1) ([], 0)).bind fun e33 => some e33)
theorem anomaly_closed_fun (p0 : api_Trace) (p1 : ByteArray) (r : (List Int)) (hF : anomaly_closed p0 p1 = some r) : Fun Tryz.prog 20 false [] [.agg (m_api_Trace p0), .c (jS p1)] (heapOf []) (cO (902,800)) (heapOf [((902,800), .arr 3 1 (List.map t_i64 r))]) := by
 refine Fun.of_walkM [] (some []) Tryz.func20 c20 (by kernel_rfl) (rs := [.tmp 4]) (by kernel_rfl) rfl rfl rfl ?_; unfold v20
 unfold anomaly_closed at hF
 refine wA rfl ?_; refine wA rfl ?_; refine W_seq ?_; refine wC 2 rfl ?_; refine rS (T_len (tc := t_api_Slice) p0.fSlices .tree ?_); refine QV rfl ?_; refine W_for (fun _ _ h => h) hF (id) (fun (a23, a24) => [(1, .c (jS p1)), (5, cO (28,1)), (9, cL 8 t_api_Slice p0.fSlices), (10, cI (List.length p0.fSlices : Int)), (11, cI a24)]) (fun (a23, a24) => [((28,1), .arr 3 1 (List.map t_i64 a23))]) (fun e33 => [(5, cO (28,1))]) (fun e33 => [((28,1), .arr 3 1 (List.map t_i64 e33))]) (S_own 5 (28,1) 3 1 rfl rfl rfl rfl sw) ?_ ?_
 · rintro e33 hF
   refine wA rfl ?_; cases hF
   exact W_ret ⟨_, _, (S_ren (28,1) (902,800) rfl rfl S_refl), _, rfl, rfl, rfl, (AgM.weak ⟨rfl, trivial⟩)⟩
 rintro ⟨a23, a24⟩ x_0 hF cont_0 brk_0 fin_0
 unfold anomaly_closed_L1 at hF
 refine wA rfl ?_; refine W_seq ?_; refine wIf hF rfl (fun _ hF => ?_) fun _ hF => ?_
 · refine W_skip ?_; refine W_seq ?_; refine W_join (fun _ _ h => h) hF (fun v34 => [(1, .c (jS p1)), (5, cO (28,1)), (9, cL 8 t_api_Slice p0.fSlices), (10, cI (List.length p0.fSlices : Int)), (11, cI a24)]) (fun v34 => [((28,1), .arr 3 1 (List.map t_i64 v34))]) ?_ ?_
   · rintro v34 hF
     refine wB rfl ?_; exact cont_0 _ _ _ (oi hF) sw
   intro join hF
   refine W_block ?_; refine wE ?_; obtain ⟨y35, hy35, hF⟩ := bB' hF
   refine rS (T_ixT (tc := t_api_Slice) p0.fSlices rfl rfl hy35 ?_); refine QV rfl ?_; refine W_seq ?_; have hF := bA hF; refine W_join (fun _ _ h => h) hF (fun v36 => [(1, .c (jS p1)), (5, cO (28,1)), (7, cP (7,0) 0), (9, cL 8 t_api_Slice p0.fSlices), (10, cI (List.length p0.fSlices : Int)), (11, cI a24), (23, cB v36)]) (fun v36 => [((28,1), .arr 3 1 (List.map t_i64 a23)), ((7,0), .box (m_api_Slice y35))]) ?_ ?_
   · rintro v36 hF
     refine wIf' hF rfl (fun _ hF => ?_) fun _ hF => ?_
     · refine wD 2 rfl ?_; obtain ⟨r37, hr37, hF⟩ := bB' hF
       refine rS (T_call (anomaly_length_fun _ _ hr37) ⟨⟨rfl, rfl, rfl, rfl, rfl, rfl, rfl, rfl, trivial⟩, trivial⟩ rfl (.inl rfl) ?_); refine rS (T_bsl (tc := t_i64) [r37] rfl ⟨rfl, trivial⟩ rfl (fun _ => rfl) rfl ?_)
       obtain ⟨h38, hF⟩ := roomT' hF
       refine rS (T_appO (tc := t_i64) a23 [r37] rfl rfl (.own _ _ rfl) h38 rfl ?_); refine QV rfl ?_; exact join (a23 ++ [r37]) _ _ hF (S_ren (28,0) (28,1) rfl rfl sw)
     refine W_skip ?_; exact join a23 _ _ hF sw
   intro join hF
   refine wD 5 rfl ?_; cases h40 : (decide (y35.fName = p1))
   · have hF := bF' h40 hF; refine QV rfl ?_; exact join false _ _ hF sw
   have hF := bT' h40 hF; refine QV rfl ?_; exact join (!y35.fOpen) _ _ hF sw
 refine W_exit ?_; refine thenQ_exit ?_; refine thenQ_exit ?_; refine blockQ_hit ?_; exact brk_0 _ _ _ (oi hF) sw
def slices_Values_int_int (p0 : (List Int)) : Option (List Int) := some p0
theorem slices_Values_int_int_fun (p0 : (List Int)) (r : (List Int)) (hF : slices_Values_int_int p0 = some r) : Fun Tryz.prog 80 false [] [cL 1 t_i64 p0] (heapOf []) (.c (.fn 117 [.ptr (902,3200)])) (heapOf [((902,3200), .box [jL 1 t_i64 r])]) := by
 cases hF
 exact values_fun p0 (902,3200)
def slices_Sorted_int_k1 (p0_0 : (List Int)) : Option (List Int) := bif sortB p0_0 then some (sortI p0_0) else none
theorem slices_Sorted_int_k1_fun (p0_0 : (List Int)) (r : (List Int)) (hF : slices_Sorted_int_k1 p0_0 = some r) : Fun Tryz.prog 79 false [(4160,0)] [.c (.fn 117 [.ptr (4160,0)])] (heapOf [((4160,0), .box [jL 1 t_i64 p0_0])]) (cO (902,3160)) (heapOf [((4160,0), .box [jL 1 t_i64 p0_0]), ((902,3160), .arr 3 1 (List.map t_i64 r))]) := by
 obtain ⟨h, hF⟩ := roomT hF
 cases hF
 exact sorted_fun p0_0 (sortB_spec h).1 (sortB_spec h).2 (4160,0) (902,3160) (by decide)
def math_bits_Mul64 (p0 : Int) (p1 : Int) : Option (Int × Int) :=
  some ((IntKind.wrap .u64 ((IntKind.wrap .u64 ((IntKind.wrap .u64 ((shR .u64 p0 32) * (shR .u64 p1 32))) + (shR .u64 (IntKind.wrap .u64 ((IntKind.wrap .u64 ((shR .u64 p0 32) * (bAnd .u64 p1 4294967295))) + (shR .u64 (IntKind.wrap .u64 ((bAnd .u64 p0 4294967295) * (bAnd .u64 p1 4294967295))) 32))) 32))) + (shR .u64 (IntKind.wrap .u64 ((bAnd .u64 (IntKind.wrap .u64 ((IntKind.wrap .u64 ((shR .u64 p0 32) * (bAnd .u64 p1 4294967295))) + (shR .u64 (IntKind.wrap .u64 ((bAnd .u64 p0 4294967295) * (bAnd .u64 p1 4294967295))) 32))) 4294967295) + (IntKind.wrap .u64 ((bAnd .u64 p0 4294967295) * (shR .u64 p1 32))))) 32))), (IntKind.wrap .u64 (p0 * p1)))
theorem math_bits_Mul64_fun (p0 : Int) (p1 : Int) (r : (Int × Int)) (hF : math_bits_Mul64 p0 p1 = some r) : Fun Tryz.prog 81 true [] [.c (.imm (.sc (.int .u64 p0))), .c (.imm (.sc (.int .u64 p1)))] noHeap (.tup [.c (.imm (.sc (.int .u64 r.1))), .c (.imm (.sc (.int .u64 r.2)))]) noHeap := by
 refine Fun.of_walk0 Tryz.func81 c81 (by kernel_rfl) (rs := [.tmp 4, .tmp 5]) (by kernel_rfl) ?_; unfold v81
 unfold math_bits_Mul64 at hF
 refine wA rfl ?_; refine wA rfl ?_; refine wA rfl ?_; refine wA rfl ?_; refine wA rfl ?_; refine wA rfl ?_; refine wA rfl ?_; refine wA rfl ?_; refine wA rfl ?_; refine wA rfl ?_; refine wA rfl ?_; refine wA rfl ?_
 cases hF
 exact W_ret ⟨_, rfl, rfl, ⟨⟨rfl, fun _ => rfl⟩, ⟨rfl, fun _ => rfl⟩, trivial⟩, noOut _⟩
def math_bits_Len64 (p0 : Int) : Option Int :=
  (((bif (decide (4294967296 ≤ p0)) then some ((shR .u64 p0 32), 32) else some (p0, 0)) : Option (Int × Int)).bind fun (v1, v2) => (((bif (decide (65536 ≤ v1)) then some ((shR .u64 v1 16), (w64 (v2 + 16))) else some (v1, v2)) : Option (Int × Int)).bind fun (v3, v4) => (((bif (decide (256 ≤ v3)) then some ((shR .u64 v3 8), (w64 (v4 + 8))) else some (v3, v4)) : Option (Int × Int)).bind fun (v5, v6) => ((idx (ByteArray.data ⟨#[0, 1, 2, 2, 3, 3, 3, 3, 4, 4, 4, 4, 4, 4, 4, 4, 5, 5, 5, 5, 5, 5, 5, 5, 5, 5, 5, 5, 5, 5, 5, 5, 6, 6, 6, 6, 6, 6, 6, 6, 6, 6, 6, 6, 6, 6, 6, 6, 6, 6, 6, 6, 6, 6, 6, 6, 6, 6, 6, 6, 6, 6, 6, 6, 7, 7, 7, 7, 7, 7, 7, 7, 7, 7, 7, 7, 7, 7, 7, 7, 7, 7, 7, 7, 7, 7, 7, 7, 7, 7, 7, 7, 7, 7, 7, 7, 7, 7, 7, 7, 7, 7, 7, 7, 7, 7, 7, 7, 7, 7, 7, 7, 7, 7, 7, 7, 7, 7, 7, 7, 7, 7, 7, 7, 7, 7, 7, 7, 8, 8, 8, 8, 8, 8, 8, 8, 8, 8, 8, 8, 8, 8, 8, 8, 8, 8, 8, 8, 8, 8, 8, 8, 8, 8, 8, 8, 8, 8, 8, 8, 8, 8, 8, 8, 8, 8, 8, 8, 8, 8, 8, 8, 8, 8, 8, 8, 8, 8, 8, 8, 8, 8, 8, 8, 8, 8, 8, 8, 8, 8, 8, 8, 8, 8, 8, 8, 8, 8, 8, 8, 8, 8, 8, 8, 8, 8, 8, 8, 8, 8, 8, 8, 8, 8, 8, 8, 8, 8, 8, 8, 8, 8, 8, 8, 8, 8, 8, 8, 8, 8, 8, 8, 8, 8, 8, 8, 8, 8, 8, 8, 8, 8, 8, 8, 8, 8, 8, 8, 8, 8, 8, 8, 8, 8, 8, 8]⟩).toList (IntKind.wrap .u8 v5)).bind fun y7 => some (w64 (v6 + (w64 (UInt8.toNat y7 : Int))))))))
theorem math_bits_Len64_fun (p0 : Int) (r : Int) (hF : math_bits_Len64 p0 = some r) : Fun Tryz.prog 137 true [] [.c (.imm (.sc (.int .u64 p0)))] noHeap (cI r) noHeap := by
 refine Fun.of_walk0 Tryz.func137 c137 (by kernel_rfl) (rs := [.tmp 2]) (by kernel_rfl) ?_; unfold v137
 unfold math_bits_Len64 at hF
 refine wA rfl ?_; refine W_seq ?_; refine wA rfl ?_; refine W_join (fun _ _ h => h) hF (fun (v1, v2) => [(0, .c (.imm (.sc (.int .u64 v1)))), (2, cI v2)]) (fun (v1, v2) => []) ?_ ?_
 · rintro ⟨v1, v2⟩ hF
   refine W_seq ?_; refine wA rfl ?_; refine W_join (fun _ _ h => h) hF (fun (v3, v4) => [(0, .c (.imm (.sc (.int .u64 v3)))), (2, cI v4)]) (fun (v3, v4) => []) ?_ ?_
   · rintro ⟨v3, v4⟩ hF
     refine W_seq ?_; refine wA rfl ?_; refine W_join (fun _ _ h => h) hF (fun (v5, v6) => [(0, .c (.imm (.sc (.int .u64 v5)))), (2, cI v6)]) (fun (v5, v6) => []) ?_ ?_
     · rintro ⟨v5, v6⟩ hF
       refine wC 3 rfl ?_; obtain ⟨y7, hy7, hF⟩ := bB hF
       refine rS (T_ixS ⟨#[0, 1, 2, 2, 3, 3, 3, 3, 4, 4, 4, 4, 4, 4, 4, 4, 5, 5, 5, 5, 5, 5, 5, 5, 5, 5, 5, 5, 5, 5, 5, 5, 6, 6, 6, 6, 6, 6, 6, 6, 6, 6, 6, 6, 6, 6, 6, 6, 6, 6, 6, 6, 6, 6, 6, 6, 6, 6, 6, 6, 6, 6, 6, 6, 7, 7, 7, 7, 7, 7, 7, 7, 7, 7, 7, 7, 7, 7, 7, 7, 7, 7, 7, 7, 7, 7, 7, 7, 7, 7, 7, 7, 7, 7, 7, 7, 7, 7, 7, 7, 7, 7, 7, 7, 7, 7, 7, 7, 7, 7, 7, 7, 7, 7, 7, 7, 7, 7, 7, 7, 7, 7, 7, 7, 7, 7, 7, 7, 8, 8, 8, 8, 8, 8, 8, 8, 8, 8, 8, 8, 8, 8, 8, 8, 8, 8, 8, 8, 8, 8, 8, 8, 8, 8, 8, 8, 8, 8, 8, 8, 8, 8, 8, 8, 8, 8, 8, 8, 8, 8, 8, 8, 8, 8, 8, 8, 8, 8, 8, 8, 8, 8, 8, 8, 8, 8, 8, 8, 8, 8, 8, 8, 8, 8, 8, 8, 8, 8, 8, 8, 8, 8, 8, 8, 8, 8, 8, 8, 8, 8, 8, 8, 8, 8, 8, 8, 8, 8, 8, 8, 8, 8, 8, 8, 8, 8, 8, 8, 8, 8, 8, 8, 8, 8, 8, 8, 8, 8, 8, 8, 8, 8, 8, 8, 8, 8, 8, 8, 8, 8, 8, 8, 8, 8, 8, 8]⟩ rfl rfl hy7 ?_)
       refine QV rfl ?_; cases hF
       exact W_ret wR
     intro join hF
     refine wIf' hF rfl (fun _ hF => ?_) fun _ hF => ?_
     · refine wA rfl ?_; refine wB rfl ?_; exact join ((shR .u64 v3 8), (w64 (v4 + 8))) _ _ hF sw
     refine W_skip ?_; exact join (v3, v4) _ _ hF sw
   intro join hF
   refine wIf' hF rfl (fun _ hF => ?_) fun _ hF => ?_
   · refine wA rfl ?_; refine wB rfl ?_; exact join ((shR .u64 v1 16), (w64 (v2 + 16))) _ _ hF sw
   refine W_skip ?_; exact join (v1, v2) _ _ hF sw
 intro join hF
 refine wIf' hF rfl (fun _ hF => ?_) fun _ hF => ?_
 · refine wA rfl ?_; refine wB rfl ?_; exact join ((shR .u64 p0 32), 32) _ _ hF sw
 refine W_skip ?_; exact join (p0, 0) _ _ hF sw
def math_bits_LeadingZeros64 (p0 : Int) : Option Int :=
  ((math_bits_Len64 p0).bind fun r1 => some (w64 (64 - r1)))
theorem math_bits_LeadingZeros64_fun (p0 : Int) (r : Int) (hF : math_bits_LeadingZeros64 p0 = some r) : Fun Tryz.prog 118 true [] [.c (.imm (.sc (.int .u64 p0)))] noHeap (cI r) noHeap := by
 refine Fun.of_walk0 Tryz.func118 c118 (by kernel_rfl) (rs := [.tmp 2]) (by kernel_rfl) ?_; unfold v118
 unfold math_bits_LeadingZeros64 at hF
 refine wA rfl ?_; refine wC 1 rfl ?_; obtain ⟨r1, hr1, hF⟩ := bB hF
 refine rS (T_call (math_bits_Len64_fun _ _ hr1) ⟨rfl, trivial⟩ rfl (.inl rfl) ?_); refine QV rfl ?_; cases hF
 exact W_ret wR
def math_bits_Div64_L1 (p1 : Int) (p2 : Int) (r3 : Int) : (Int × Int) → Option ((Int × Int) ⊕ Int) := fun (a45, a46) =>
  (((bif (decide (4294967296 ≤ a46)) then some true else some (decide ((IntKind.wrap .u64 ((IntKind.wrap .u64 (4294967296 * a45)) + (bAnd .u64 (shL .u64 p1 (IntKind.wrap .u64 r3)) 4294967295))) < (IntKind.wrap .u64 (a46 * (bAnd .u64 (shL .u64 p2 (IntKind.wrap .u64 r3)) 4294967295)))))) : Option Bool).bind fun v53 => (bif v53 then (bif (decide (4294967296 ≤ (IntKind.wrap .u64 (a45 + (shR .u64 (shL .u64 p2 (IntKind.wrap .u64 r3)) 32))))) then some (.inr (IntKind.wrap .u64 (a46 - 1))) else some (.inl ((IntKind.wrap .u64 (a45 + (shR .u64 (shL .u64 p2 (IntKind.wrap .u64 r3)) 32))), (IntKind.wrap .u64 (a46 - 1))))) else some (.inr a46)))
def math_bits_Div64_L2 (p1 : Int) (p2 : Int) (r3 : Int) : (Int × Int) → Option ((Int × Int) ⊕ Int) := fun (a23, a24) =>
  (((bif (decide (4294967296 ≤ a23)) then some true else some (decide ((IntKind.wrap .u64 ((IntKind.wrap .u64 (4294967296 * a24)) + (shR .u64 (shL .u64 p1 (IntKind.wrap .u64 r3)) 32))) < (IntKind.wrap .u64 (a23 * (bAnd .u64 (shL .u64 p2 (IntKind.wrap .u64 r3)) 4294967295)))))) : Option Bool).bind fun v57 => (bif v57 then (bif (decide (4294967296 ≤ (IntKind.wrap .u64 (a24 + (shR .u64 (shL .u64 p2 (IntKind.wrap .u64 r3)) 32))))) then some (.inr (IntKind.wrap .u64 (a23 - 1))) else some (.inl ((IntKind.wrap .u64 (a23 - 1)), (IntKind.wrap .u64 (a24 + (shR .u64 (shL .u64 p2 (IntKind.wrap .u64 r3)) 32)))))) else some (.inr a23)))
def math_bits_Div64 (p0 : Int) (p1 : Int) (p2 : Int) : Option (Int × Int) :=
  (bif (decide (p2 = 0)) then none else (bif (decide (p2 ≤ p0)) then none else (bif (decide (p0 = 0)) then (bif decide (p2 ≠ 0) then (bif decide (p2 ≠ 0) then some ((IntKind.wrap .u64 (Int.tdiv p1 p2)), (Int.tmod p1 p2)) else none) else none) else ((math_bits_LeadingZeros64 p2).bind fun r3 => (bif decide (0 ≤ (IntKind.wrap .u64 r3)) then (bif decide (0 ≤ (IntKind.wrap .u64 r3)) then (bif decide (0 ≤ (IntKind.wrap .u64 (64 - (IntKind.wrap .u64 r3)))) then (bif decide (0 ≤ (IntKind.wrap .u64 r3)) then (bif decide ((shR .u64 (shL .u64 p2 (IntKind.wrap .u64 r3)) 32) ≠ 0) then ((loop (math_bits_Div64_L2 p1 p2 r3) ((IntKind.wrap .u64 (Int.tdiv (bOr .u64 (shL .u64 p0 (IntKind.wrap .u64 r3)) (shR .u64 p1 (IntKind.wrap .u64 (64 - (IntKind.wrap .u64 r3))))) (shR .u64 (shL .u64 p2 (IntKind.wrap .u64 r3)) 32))), (IntKind.wrap .u64 ((bOr .u64 (shL .u64 p0 (IntKind.wrap .u64 r3)) (shR .u64 p1 (IntKind.wrap .u64 (64 - (IntKind.wrap .u64 r3))))) - (IntKind.wrap .u64 ((IntKind.wrap .u64 (Int.tdiv (bOr .u64 (shL .u64 p0 (IntKind.wrap .u64 r3)) (shR .u64 p1 (IntKind.wrap .u64 (64 - (IntKind.wrap .u64 r3))))) (shR .u64 (shL .u64 p2 (IntKind.wrap .u64 r3)) 32))) * (shR .u64 (shL .u64 p2 (IntKind.wrap .u64 r3)) 32))))))).bind fun e29 => (bif decide ((shR .u64 (shL .u64 p2 (IntKind.wrap .u64 r3)) 32) ≠ 0) then ((loop (math_bits_Div64_L1 p1 p2 r3) ((IntKind.wrap .u64 ((IntKind.wrap .u64 ((IntKind.wrap .u64 ((IntKind.wrap .u64 ((bOr .u64 (shL .u64 p0 (IntKind.wrap .u64 r3)) (shR .u64 p1 (IntKind.wrap .u64 (64 - (IntKind.wrap .u64 r3))))) * 4294967296)) + (shR .u64 (shL .u64 p1 (IntKind.wrap .u64 r3)) 32))) - (IntKind.wrap .u64 (e29 * (shL .u64 p2 (IntKind.wrap .u64 r3)))))) - (IntKind.wrap .u64 ((IntKind.wrap .u64 (Int.tdiv (IntKind.wrap .u64 ((IntKind.wrap .u64 ((IntKind.wrap .u64 ((bOr .u64 (shL .u64 p0 (IntKind.wrap .u64 r3)) (shR .u64 p1 (IntKind.wrap .u64 (64 - (IntKind.wrap .u64 r3))))) * 4294967296)) + (shR .u64 (shL .u64 p1 (IntKind.wrap .u64 r3)) 32))) - (IntKind.wrap .u64 (e29 * (shL .u64 p2 (IntKind.wrap .u64 r3)))))) (shR .u64 (shL .u64 p2 (IntKind.wrap .u64 r3)) 32))) * (shR .u64 (shL .u64 p2 (IntKind.wrap .u64 r3)) 32))))), (IntKind.wrap .u64 (Int.tdiv (IntKind.wrap .u64 ((IntKind.wrap .u64 ((IntKind.wrap .u64 ((bOr .u64 (shL .u64 p0 (IntKind.wrap .u64 r3)) (shR .u64 p1 (IntKind.wrap .u64 (64 - (IntKind.wrap .u64 r3))))) * 4294967296)) + (shR .u64 (shL .u64 p1 (IntKind.wrap .u64 r3)) 32))) - (IntKind.wrap .u64 (e29 * (shL .u64 p2 (IntKind.wrap .u64 r3)))))) (shR .u64 (shL .u64 p2 (IntKind.wrap .u64 r3)) 32))))).bind fun e51 => (bif decide (0 ≤ (IntKind.wrap .u64 r3)) then some ((IntKind.wrap .u64 ((IntKind.wrap .u64 (e29 * 4294967296)) + e51)), (shR .u64 (IntKind.wrap .u64 ((IntKind.wrap .u64 ((IntKind.wrap .u64 ((IntKind.wrap .u64 ((IntKind.wrap .u64 ((IntKind.wrap .u64 ((bOr .u64 (shL .u64 p0 (IntKind.wrap .u64 r3)) (shR .u64 p1 (IntKind.wrap .u64 (64 - (IntKind.wrap .u64 r3))))) * 4294967296)) + (shR .u64 (shL .u64 p1 (IntKind.wrap .u64 r3)) 32))) - (IntKind.wrap .u64 (e29 * (shL .u64 p2 (IntKind.wrap .u64 r3)))))) * 4294967296)) + (bAnd .u64 (shL .u64 p1 (IntKind.wrap .u64 r3)) 4294967295))) - (IntKind.wrap .u64 (e51 * (shL .u64 p2 (IntKind.wrap .u64 r3)))))) (IntKind.wrap .u64 r3))) else none)) else none)) else none) else none) else none) else none) else none)))))
theorem math_bits_Div64_fun (p0 : Int) (p1 : Int) (p2 : Int) (r : (Int × Int)) (hF : math_bits_Div64 p0 p1 p2 = some r) : Fun Tryz.prog 82 true [] [.c (.imm (.sc (.int .u64 p0))), .c (.imm (.sc (.int .u64 p1))), .c (.imm (.sc (.int .u64 p2)))] noHeap (.tup [.c (.imm (.sc (.int .u64 r.1))), .c (.imm (.sc (.int .u64 r.2)))]) noHeap := by
 refine Fun.of_walk0 Tryz.func82 c82 (by kernel_rfl) (rs := [.tmp 6, .tmp 7]) (by kernel_rfl) ?_; unfold v82
 unfold math_bits_Div64 at hF
 refine wA rfl ?_; refine W_seq ?_; refine wA rfl ?_; refine wIf hF rfl (fun _ hF => ?_) fun _ hF => ?_
 · simp at hF
 refine W_skip ?_; refine W_seq ?_; refine wA rfl ?_; refine wIf hF rfl (fun _ hF => ?_) fun _ hF => ?_
 · simp at hF
 refine W_skip ?_; refine W_seq ?_; refine wA rfl ?_; refine wIf hF rfl (fun _ hF => ?_) fun _ hF => ?_
 · refine W_seq ?_; refine W_regD (by decide) (by kernel_rfl) rfl ?_; refine Q_run SP 2 rfl ?_; obtain ⟨h1, hF⟩ := roomT hF
   refine R_step SP trivial (T_bin (quoV .u64 p1 p2 (of_decide_eq_true h1)) ?_); refine Q_run SP 2 rfl ?_; obtain ⟨h2, hF⟩ := roomT hF
   refine R_step SP trivial (T_bin (remV .u64 p1 p2 (of_decide_eq_true h2)) ?_); refine QP rfl ?_; cases hF
   exact W_ret ⟨_, rfl, rfl, ⟨⟨rfl, fun _ => rfl⟩, ⟨rfl, fun _ => rfl⟩, trivial⟩, noOut _⟩
 refine W_skip ?_; refine wC 1 rfl ?_; obtain ⟨r3, hr3, hF⟩ := bB hF
 refine rS (T_call (math_bits_LeadingZeros64_fun _ _ hr3) ⟨rfl, trivial⟩ rfl (.inl rfl) ?_); refine QV rfl ?_; refine wC 2 rfl ?_; obtain ⟨h4, hF⟩ := roomT hF
 refine rS (T_bin (shlV .u64 .u64 p2 (IntKind.wrap .u64 r3) (of_decide_eq_true h4)) ?_); refine QV rfl ?_; refine wA rfl ?_; refine wA rfl ?_; refine wC 2 rfl ?_; obtain ⟨h5, hF⟩ := roomT hF
 refine rS (T_bin (shlV .u64 .u64 p0 (IntKind.wrap .u64 r3) (of_decide_eq_true h5)) ?_); refine Q_run SV 3 rfl ?_; obtain ⟨h6, hF⟩ := roomT hF
 refine rS (T_bin (shrV .u64 .u64 p1 (IntKind.wrap .u64 (64 - (IntKind.wrap .u64 r3))) (of_decide_eq_true h6)) ?_); refine QV rfl ?_; refine wC 2 rfl ?_; obtain ⟨h7, hF⟩ := roomT hF
 refine rS (T_bin (shlV .u64 .u64 p1 (IntKind.wrap .u64 r3) (of_decide_eq_true h7)) ?_); refine QV rfl ?_; refine wA rfl ?_; refine wA rfl ?_; refine wC 2 rfl ?_; obtain ⟨h8, hF⟩ := roomT hF
 refine rS (T_bin (quoV .u64 (bOr .u64 (shL .u64 p0 (IntKind.wrap .u64 r3)) (shR .u64 p1 (IntKind.wrap .u64 (64 - (IntKind.wrap .u64 r3))))) (shR .u64 (shL .u64 p2 (IntKind.wrap .u64 r3)) 32) (of_decide_eq_true h8)) ?_)
 refine QV rfl ?_; refine wA rfl ?_; refine W_seq ?_; refine W_for (fun _ _ h => h) hF (id) (fun (a23, a24) => [(2, .c (.imm (.sc (.int .u64 (shL .u64 p2 (IntKind.wrap .u64 r3)))))), (8, .c (.imm (.sc (.int .u64 (IntKind.wrap .u64 r3))))), (9, .c (.imm (.sc (.int .u64 (shR .u64 (shL .u64 p2 (IntKind.wrap .u64 r3)) 32))))), (10, .c (.imm (.sc (.int .u64 (bAnd .u64 (shL .u64 p2 (IntKind.wrap .u64 r3)) 4294967295))))), (11, .c (.imm (.sc (.int .u64 (bOr .u64 (shL .u64 p0 (IntKind.wrap .u64 r3)) (shR .u64 p1 (IntKind.wrap .u64 (64 - (IntKind.wrap .u64 r3))))))))), (13, .c (.imm (.sc (.int .u64 (shR .u64 (shL .u64 p1 (IntKind.wrap .u64 r3)) 32))))), (14, .c (.imm (.sc (.int .u64 (bAnd .u64 (shL .u64 p1 (IntKind.wrap .u64 r3)) 4294967295))))), (15, .c (.imm (.sc (.int .u64 a23)))), (16, .c (.imm (.sc (.int .u64 a24))))]) (fun (a23, a24) => []) (fun e29 => [(2, .c (.imm (.sc (.int .u64 (shL .u64 p2 (IntKind.wrap .u64 r3)))))), (8, .c (.imm (.sc (.int .u64 (IntKind.wrap .u64 r3))))), (9, .c (.imm (.sc (.int .u64 (shR .u64 (shL .u64 p2 (IntKind.wrap .u64 r3)) 32))))), (10, .c (.imm (.sc (.int .u64 (bAnd .u64 (shL .u64 p2 (IntKind.wrap .u64 r3)) 4294967295))))), (11, .c (.imm (.sc (.int .u64 (bOr .u64 (shL .u64 p0 (IntKind.wrap .u64 r3)) (shR .u64 p1 (IntKind.wrap .u64 (64 - (IntKind.wrap .u64 r3))))))))), (13, .c (.imm (.sc (.int .u64 (shR .u64 (shL .u64 p1 (IntKind.wrap .u64 r3)) 32))))), (14, .c (.imm (.sc (.int .u64 (bAnd .u64 (shL .u64 p1 (IntKind.wrap .u64 r3)) 4294967295))))), (15, .c (.imm (.sc (.int .u64 e29))))]) (fun e29 => []) sw ?_ ?_
 · rintro e29 hF
   refine wA rfl ?_; refine wC 2 rfl ?_; obtain ⟨h30, hF⟩ := roomT hF
   refine rS (T_bin (quoV .u64 (IntKind.wrap .u64 ((IntKind.wrap .u64 ((IntKind.wrap .u64 ((bOr .u64 (shL .u64 p0 (IntKind.wrap .u64 r3)) (shR .u64 p1 (IntKind.wrap .u64 (64 - (IntKind.wrap .u64 r3))))) * 4294967296)) + (shR .u64 (shL .u64 p1 (IntKind.wrap .u64 r3)) 32))) - (IntKind.wrap .u64 (e29 * (shL .u64 p2 (IntKind.wrap .u64 r3)))))) (shR .u64 (shL .u64 p2 (IntKind.wrap .u64 r3)) 32) (of_decide_eq_true h30)) ?_)
   refine QV rfl ?_; refine wA rfl ?_; refine W_seq ?_; refine W_for (fun _ _ h => h) hF (id) (fun (a45, a46) => [(2, .c (.imm (.sc (.int .u64 (shL .u64 p2 (IntKind.wrap .u64 r3)))))), (8, .c (.imm (.sc (.int .u64 (IntKind.wrap .u64 r3))))), (9, .c (.imm (.sc (.int .u64 (shR .u64 (shL .u64 p2 (IntKind.wrap .u64 r3)) 32))))), (10, .c (.imm (.sc (.int .u64 (bAnd .u64 (shL .u64 p2 (IntKind.wrap .u64 r3)) 4294967295))))), (14, .c (.imm (.sc (.int .u64 (bAnd .u64 (shL .u64 p1 (IntKind.wrap .u64 r3)) 4294967295))))), (15, .c (.imm (.sc (.int .u64 e29)))), (16, .c (.imm (.sc (.int .u64 a45)))), (17, .c (.imm (.sc (.int .u64 (IntKind.wrap .u64 ((IntKind.wrap .u64 ((IntKind.wrap .u64 ((bOr .u64 (shL .u64 p0 (IntKind.wrap .u64 r3)) (shR .u64 p1 (IntKind.wrap .u64 (64 - (IntKind.wrap .u64 r3))))) * 4294967296)) + (shR .u64 (shL .u64 p1 (IntKind.wrap .u64 r3)) 32))) - (IntKind.wrap .u64 (e29 * (shL .u64 p2 (IntKind.wrap .u64 r3)))))))))), (18, .c (.imm (.sc (.int .u64 a46))))]) (fun (a45, a46) => []) (fun e51 => [(2, .c (.imm (.sc (.int .u64 (shL .u64 p2 (IntKind.wrap .u64 r3)))))), (8, .c (.imm (.sc (.int .u64 (IntKind.wrap .u64 r3))))), (14, .c (.imm (.sc (.int .u64 (bAnd .u64 (shL .u64 p1 (IntKind.wrap .u64 r3)) 4294967295))))), (15, .c (.imm (.sc (.int .u64 e29)))), (17, .c (.imm (.sc (.int .u64 (IntKind.wrap .u64 ((IntKind.wrap .u64 ((IntKind.wrap .u64 ((bOr .u64 (shL .u64 p0 (IntKind.wrap .u64 r3)) (shR .u64 p1 (IntKind.wrap .u64 (64 - (IntKind.wrap .u64 r3))))) * 4294967296)) + (shR .u64 (shL .u64 p1 (IntKind.wrap .u64 r3)) 32))) - (IntKind.wrap .u64 (e29 * (shL .u64 p2 (IntKind.wrap .u64 r3)))))))))), (18, .c (.imm (.sc (.int .u64 e51))))]) (fun e51 => []) sw ?_ ?_
   · rintro e51 hF
     refine wC 13 rfl ?_; obtain ⟨h52, hF⟩ := roomT hF
     refine rS (T_bin (shrV .u64 .u64 (IntKind.wrap .u64 ((IntKind.wrap .u64 ((IntKind.wrap .u64 ((IntKind.wrap .u64 ((IntKind.wrap .u64 ((IntKind.wrap .u64 ((bOr .u64 (shL .u64 p0 (IntKind.wrap .u64 r3)) (shR .u64 p1 (IntKind.wrap .u64 (64 - (IntKind.wrap .u64 r3))))) * 4294967296)) + (shR .u64 (shL .u64 p1 (IntKind.wrap .u64 r3)) 32))) - (IntKind.wrap .u64 (e29 * (shL .u64 p2 (IntKind.wrap .u64 r3)))))) * 4294967296)) + (bAnd .u64 (shL .u64 p1 (IntKind.wrap .u64 r3)) 4294967295))) - (IntKind.wrap .u64 (e51 * (shL .u64 p2 (IntKind.wrap .u64 r3)))))) (IntKind.wrap .u64 r3) (of_decide_eq_true h52)) ?_)
     refine QV rfl ?_; cases hF
     exact W_ret ⟨_, rfl, rfl, ⟨⟨rfl, fun _ => rfl⟩, ⟨rfl, fun _ => rfl⟩, trivial⟩, noOut _⟩
   rintro ⟨a45, a46⟩ x_0 hF cont_0 brk_0 fin_0
   unfold math_bits_Div64_L1 at hF
   refine W_seq ?_; refine W_seq ?_; refine W_join (fun _ _ h => h) hF (fun v53 => [(2, .c (.imm (.sc (.int .u64 (shL .u64 p2 (IntKind.wrap .u64 r3)))))), (8, .c (.imm (.sc (.int .u64 (IntKind.wrap .u64 r3))))), (9, .c (.imm (.sc (.int .u64 (shR .u64 (shL .u64 p2 (IntKind.wrap .u64 r3)) 32))))), (10, .c (.imm (.sc (.int .u64 (bAnd .u64 (shL .u64 p2 (IntKind.wrap .u64 r3)) 4294967295))))), (14, .c (.imm (.sc (.int .u64 (bAnd .u64 (shL .u64 p1 (IntKind.wrap .u64 r3)) 4294967295))))), (15, .c (.imm (.sc (.int .u64 e29)))), (16, .c (.imm (.sc (.int .u64 a45)))), (17, .c (.imm (.sc (.int .u64 (IntKind.wrap .u64 ((IntKind.wrap .u64 ((IntKind.wrap .u64 ((bOr .u64 (shL .u64 p0 (IntKind.wrap .u64 r3)) (shR .u64 p1 (IntKind.wrap .u64 (64 - (IntKind.wrap .u64 r3))))) * 4294967296)) + (shR .u64 (shL .u64 p1 (IntKind.wrap .u64 r3)) 32))) - (IntKind.wrap .u64 (e29 * (shL .u64 p2 (IntKind.wrap .u64 r3)))))))))), (18, .c (.imm (.sc (.int .u64 a46)))), (113, cB v53)]) (fun v53 => []) ?_ ?_
   · rintro v53 hF
     refine wIf hF rfl (fun _ hF => ?_) fun _ hF => ?_
     · refine W_skip ?_; refine W_block ?_; refine wA rfl ?_; refine wA rfl ?_; refine wA rfl ?_; refine wIf hF rfl (fun _ hF => ?_) fun _ hF => ?_
       · refine W_exit ?_; refine blockQ_miss (by decide) ?_; refine thenQ_exit ?_; refine blockQ_hit ?_; exact brk_0 _ _ _ (oi hF) sw
       refine W_skip ?_; exact cont_0 _ _ _ (oi hF) sw
     refine W_exit ?_; refine thenQ_exit ?_; refine thenQ_exit ?_; refine blockQ_hit ?_; exact brk_0 _ _ _ (oi hF) sw
   intro join hF
   refine wD 3 rfl ?_; cases h56 : (decide (4294967296 ≤ a46))
   · have hF := bF' h56 hF; refine QV rfl ?_; exact join (decide ((IntKind.wrap .u64 ((IntKind.wrap .u64 (4294967296 * a45)) + (bAnd .u64 (shL .u64 p1 (IntKind.wrap .u64 r3)) 4294967295))) < (IntKind.wrap .u64 (a46 * (bAnd .u64 (shL .u64 p2 (IntKind.wrap .u64 r3)) 4294967295))))) _ _ hF sw
   have hF := bT' h56 hF; refine QV rfl ?_; exact join true _ _ hF sw
 rintro ⟨a23, a24⟩ x_0 hF cont_0 brk_0 fin_0
 unfold math_bits_Div64_L2 at hF
 refine W_seq ?_; refine W_seq ?_; refine W_join (fun _ _ h => h) hF (fun v57 => [(2, .c (.imm (.sc (.int .u64 (shL .u64 p2 (IntKind.wrap .u64 r3)))))), (8, .c (.imm (.sc (.int .u64 (IntKind.wrap .u64 r3))))), (9, .c (.imm (.sc (.int .u64 (shR .u64 (shL .u64 p2 (IntKind.wrap .u64 r3)) 32))))), (10, .c (.imm (.sc (.int .u64 (bAnd .u64 (shL .u64 p2 (IntKind.wrap .u64 r3)) 4294967295))))), (11, .c (.imm (.sc (.int .u64 (bOr .u64 (shL .u64 p0 (IntKind.wrap .u64 r3)) (shR .u64 p1 (IntKind.wrap .u64 (64 - (IntKind.wrap .u64 r3))))))))), (13, .c (.imm (.sc (.int .u64 (shR .u64 (shL .u64 p1 (IntKind.wrap .u64 r3)) 32))))), (14, .c (.imm (.sc (.int .u64 (bAnd .u64 (shL .u64 p1 (IntKind.wrap .u64 r3)) 4294967295))))), (15, .c (.imm (.sc (.int .u64 a23)))), (16, .c (.imm (.sc (.int .u64 a24)))), (78, cB v57)]) (fun v57 => []) ?_ ?_
 · rintro v57 hF
   refine wIf hF rfl (fun _ hF => ?_) fun _ hF => ?_
   · refine W_skip ?_; refine W_block ?_; refine wA rfl ?_; refine wA rfl ?_; refine wA rfl ?_; refine wIf hF rfl (fun _ hF => ?_) fun _ hF => ?_
     · refine W_exit ?_; refine blockQ_miss (by decide) ?_; refine thenQ_exit ?_; refine blockQ_hit ?_; exact brk_0 _ _ _ (oi hF) sw
     refine W_skip ?_; exact cont_0 _ _ _ (oi hF) sw
   refine W_exit ?_; refine thenQ_exit ?_; refine thenQ_exit ?_; refine blockQ_hit ?_; exact brk_0 _ _ _ (oi hF) sw
 intro join hF
 refine wD 3 rfl ?_; cases h60 : (decide (4294967296 ≤ a23))
 · have hF := bF' h60 hF; refine QV rfl ?_; exact join (decide ((IntKind.wrap .u64 ((IntKind.wrap .u64 (4294967296 * a24)) + (shR .u64 (shL .u64 p1 (IntKind.wrap .u64 r3)) 32))) < (IntKind.wrap .u64 (a23 * (bAnd .u64 (shL .u64 p2 (IntKind.wrap .u64 r3)) 4294967295))))) _ _ hF sw
 have hF := bT' h60 hF; refine QV rfl ?_; exact join true _ _ hF sw
def num_Quantile (p0 : (List Int)) (p1 : Int) (p2 : Int) : Option (Int × Bool) :=
  (((bif (decide ((List.length p0 : Int) = 0)) then some true else (bif (decide (p2 < 1)) then some true else (bif (decide (1000000000000000 < p2)) then some true else (bif (decide (p1 < 0)) then some true else some (decide (p2 < p1)))))) : Option Bool).bind fun v1 => (bif v1 then some (0, false) else ((slices_Values_int_int p0).bind fun r2 => ((slices_Sorted_int_k1 r2).bind fun r3 => ((math_bits_Mul64 (IntKind.wrap .u64 p1) (IntKind.wrap .u64 (List.length p0 : Int))).bind fun r4 => ((math_bits_Div64 r4.1 r4.2 (IntKind.wrap .u64 p2)).bind fun r5 => (((bif (decide (0 < r5.2)) then some (IntKind.wrap .u64 (r5.1 + 1)) else some r5.1) : Option Int).bind fun v6 => ((idx r3 (IntKind.wrap .u64 ((max v6 1) - 1))).bind fun y7 => some (y7, true)))))))))
theorem num_Quantile_fun (p0 : (List Int)) (p1 : Int) (p2 : Int) (r : (Int × Bool)) (hF : num_Quantile p0 p1 p2 = some r) : Fun Tryz.prog 34 true [] [cL 1 t_i64 p0, cI p1, cI p2] noHeap (.tup [cI r.1, cB r.2]) noHeap := by
 refine Fun.of_walk0 Tryz.func34 c34 (by kernel_rfl) (rs := [.tmp 6, .tmp 7]) (by kernel_rfl) ?_; unfold v34
 unfold num_Quantile at hF
 refine wA rfl ?_; refine W_seq ?_; refine W_seq ?_; refine W_join (fun _ _ h => h) hF (fun v1 => [(0, cL 1 t_i64 p0), (1, cI p1), (2, cI p2), (32, cB v1)]) (fun v1 => []) ?_ ?_
 · rintro v1 hF
   refine wIf hF rfl (fun _ hF => ?_) fun _ hF => ?_
   · refine wA rfl ?_; cases hF
     exact W_ret ⟨_, rfl, rfl, ⟨⟨rfl, fun _ => rfl⟩, ⟨rfl, fun _ => rfl⟩, trivial⟩, noOut _⟩
   refine W_skip ?_; refine wC 1 rfl ?_; obtain ⟨r2, hr2, hF⟩ := bB hF
   refine R_stepX trivial (X_callG [((902,3200),(34,1))] rfl (callN _) (slices_Values_int_int_fun _ _ hr2) trivial ⟨.inl rfl, trivial⟩ rfl rfl rfl ?_); obtain ⟨r3, hr3, hF⟩ := bB hF
   refine R_stepX trivial (X_callG [((4160,0),(34,1)), ((902,3160),(35,1))] rfl (callN _) (slices_Sorted_int_k1_fun _ _ hr3) ⟨rfl, trivial⟩ ⟨.inl rfl, trivial⟩ rfl rfl rfl ?_); refine QV rfl ?_; refine wC 3 rfl ?_
   refine rS (T_len (tc := t_i64) p0 .tree ?_); refine Q_run SV 1 rfl ?_; obtain ⟨r4, hr4, hF⟩ := bB hF
   refine rS (T_call (math_bits_Mul64_fun _ _ _ hr4) ⟨rfl, rfl, trivial⟩ rfl (.inl rfl) ?_); refine QV rfl ?_; refine wC 4 rfl ?_; obtain ⟨r5, hr5, hF⟩ := bB hF
   refine rS (T_call (math_bits_Div64_fun _ _ _ _ hr5) ⟨rfl, rfl, rfl, trivial⟩ rfl (.inl rfl) ?_); refine QV rfl ?_; refine W_seq ?_; refine wA rfl ?_; refine W_join (fun _ _ h => h) hF (fun v6 => [(8, cO (35,1)), (11, .c (.imm (.sc (.int .u64 v6))))]) (fun v6 => [((35,1), .arr 3 1 (List.map t_i64 r3))]) ?_ ?_
   · rintro v6 hF
     refine wC 4 rfl ?_; obtain ⟨y7, hy7, hF⟩ := bB hF
     refine rS (T_ixO (tc := t_i64) r3 rfl rfl rfl hy7 ?_); refine rS (T_ldE (tc := t_i64) r3 rfl rfl (idx_get hy7).2.1 rfl ?_); refine QV rfl ?_; cases hF
     exact W_ret ⟨_, rfl, rfl, ⟨⟨rfl, fun _ => rfl⟩, ⟨rfl, fun _ => rfl⟩, trivial⟩, noOut _⟩
   intro join hF
   refine wIf' hF rfl (fun _ hF => ?_) fun _ hF => ?_
   · refine wB rfl ?_; exact join (IntKind.wrap .u64 (r5.1 + 1)) _ _ hF sw
   refine W_skip ?_; exact join r5.1 _ _ hF sw
 intro join hF
 refine wD 1 rfl ?_; refine rS (T_len (tc := t_i64) p0 .tree ?_); refine Q_run SV 2 rfl ?_; cases h10 : (decide ((List.length p0 : Int) = 0))
 · have hF := bF' h10 hF; refine Q_run SV 4 rfl ?_; cases h11 : (decide (p2 < 1))
   · have hF := bF' h11 hF; refine Q_run SV 4 rfl ?_; cases h12 : (decide (1000000000000000 < p2))
     · have hF := bF' h12 hF; refine Q_run SV 4 rfl ?_; cases h13 : (decide (p1 < 0))
       · have hF := bF' h13 hF; refine QV rfl ?_; exact join (decide (p2 < p1)) _ _ hF sw
       have hF := bT' h13 hF; refine QV rfl ?_; exact join true _ _ hF sw
     have hF := bT' h12 hF; refine QV rfl ?_; exact join true _ _ hF sw
   have hF := bT' h11 hF; refine QV rfl ?_; exact join true _ _ hF sw
 have hF := bT' h10 hF; refine QV rfl ?_; exact join true _ _ hF sw
def anomaly_usual_L1 (p0 : api_Trace) (p1 : ByteArray) (r2 : (Int × Bool)) : Int → Option (Int ⊕ (Unit ⊕ (Int × Bool))) := fun a20 =>
  (bif (decide (a20 < (List.length p0.fSlices : Int))) then ((idx p0.fSlices a20).bind fun y28 => (((bif (decide (y28.fName = p1)) then (bif (!y28.fOpen) then ((anomaly_length y28).bind fun r33 => some (decide (r33 = r2.1))) else some false) else some false) : Option Bool).bind fun v29 => (bif v29 then some (.inr (.inr (a20, true))) else some (.inl (w64 (a20 + 1)))))) else some (.inr (.inl ())))
def anomaly_usual (p0 : api_Trace) (p1 : ByteArray) : Option (Int × Bool) :=
  ((anomaly_closed p0 p1).bind fun r1 => ((num_Quantile r1 1 2).bind fun r2 => (bif (!r2.2) then some (0, false) else ((loop (anomaly_usual_L1 p0 p1 r2) 0).bind fun | .inl _ => some (0, false) | .inr rv => some rv))))
theorem anomaly_usual_fun (p0 : api_Trace) (p1 : ByteArray) (r : (Int × Bool)) (hF : anomaly_usual p0 p1 = some r) : Fun Tryz.prog 21 true [] [.agg (m_api_Trace p0), .c (jS p1)] noHeap (.tup [cI r.1, cB r.2]) noHeap := by
 refine Fun.of_walk0 Tryz.func21 c21 (by kernel_rfl) (rs := [.tmp 4, .tmp 5]) (by kernel_rfl) ?_; unfold v21
 unfold anomaly_usual at hF
 refine wA rfl ?_; refine wC 2 rfl ?_; obtain ⟨r1, hr1, hF⟩ := bB hF
 refine R_stepX trivial (X_callG [((902,800),(13,1))] rfl (callN _) (anomaly_closed_fun _ _ _ hr1) trivial ⟨.inr ⟨rfl, rfl, rfl, rfl, rfl, rfl, rfl, rfl, rfl, rfl, trivial⟩, .inl rfl, trivial⟩ rfl rfl rfl ?_)
 obtain ⟨r2, hr2, hF⟩ := bB hF
 refine rS (T_call (num_Quantile_fun _ _ _ _ hr2) ⟨⟨_, rfl⟩, rfl, rfl, trivial⟩ rfl (.inl rfl) ?_); refine QV rfl ?_; refine W_seq ?_; refine wA rfl ?_; refine wIf hF rfl (fun _ hF => ?_) fun _ hF => ?_
 · refine wA rfl ?_; cases hF
   exact W_ret ⟨_, rfl, rfl, ⟨⟨rfl, fun _ => rfl⟩, ⟨rfl, fun _ => rfl⟩, trivial⟩, noOut _⟩
 refine W_skip ?_; refine W_seq ?_; refine wC 2 rfl ?_; refine rS (T_len (tc := t_api_Slice) p0.fSlices .tree ?_); refine QV rfl ?_; refine W_for (fun _ _ h => h) hF (.inl) (fun a20 => [(1, .c (jS p1)), (6, cI r2.1), (20, cL 8 t_api_Slice p0.fSlices), (21, cI (List.length p0.fSlices : Int)), (22, cI a20)]) (fun a20 => []) (fun _ => []) (fun _ => []) sw ?_ ?_
 · rintro ⟨⟩ hF
   refine wA rfl ?_; cases hF
   exact W_ret ⟨_, rfl, rfl, ⟨⟨rfl, fun _ => rfl⟩, ⟨rfl, fun _ => rfl⟩, trivial⟩, noOut _⟩
 rintro a20 x_0 hF cont_0 brk_0 fin_0
 unfold anomaly_usual_L1 at hF
 refine wA rfl ?_; refine W_seq ?_; refine wIf hF rfl (fun _ hF => ?_) fun _ hF => ?_
 · refine W_skip ?_; refine W_seq ?_; refine W_block ?_; refine wC 1 rfl ?_; obtain ⟨y28, hy28, hF⟩ := bB hF
   refine rS (T_ixT (tc := t_api_Slice) p0.fSlices rfl rfl hy28 ?_); refine QV rfl ?_; refine W_seq ?_; refine W_join (fun _ _ h => h) hF (fun v29 => [(1, .c (jS p1)), (6, cI r2.1), (8, cI a20), (20, cL 8 t_api_Slice p0.fSlices), (21, cI (List.length p0.fSlices : Int)), (22, cI a20), (41, cB v29)]) (fun v29 => []) ?_ ?_
   · rintro v29 hF
     refine wIf hF rfl (fun _ hF => ?_) fun _ hF => ?_
     · refine wA rfl ?_; have hF := fin_0 _ (oi hF); cases hF
       exact W_ret ⟨_, rfl, rfl, ⟨⟨rfl, fun _ => rfl⟩, ⟨rfl, fun _ => rfl⟩, trivial⟩, noOut _⟩
     refine W_skip ?_; refine wB rfl ?_; exact cont_0 _ _ _ (oi hF) sw
   intro join hF
   refine wD 5 rfl ?_; cases h31 : (decide (y28.fName = p1))
   · have hF := bF' h31 hF; refine QV rfl ?_; exact join false _ _ hF sw
   have hF := bT' h31 hF; refine Q_run SV 5 rfl ?_; cases h32 : (!y28.fOpen)
   · have hF := bF' h32 hF; refine QV rfl ?_; exact join false _ _ hF sw
   have hF := bT' h32 hF; refine Q_run SV 1 rfl ?_; obtain ⟨r33, hr33, hF⟩ := bB' hF
   refine R_step SV rfl (T_call (anomaly_length_fun _ _ hr33) ⟨⟨rfl, rfl, rfl, rfl, rfl, rfl, rfl, rfl, trivial⟩, trivial⟩ rfl (.inl rfl) ?_); refine QV rfl ?_; exact join (decide (r33 = r2.1)) _ _ hF sw
 refine W_exit ?_; refine thenQ_exit ?_; refine thenQ_exit ?_; refine blockQ_hit ?_; exact brk_0 _ _ _ (oi hF) sw
def state_Total_L1 (p0 : (List api_State)) (p1 : Int) (p2 : Int) (p3 : api_Span) : (Int × Int) → Option ((Int × Int) ⊕ Int) := fun (a20, a21) =>
  (bif (decide (a21 < (List.length p0 : Int))) then ((((idx p0 a21).bind fun y30 => (((bif (decide (y30.fThread = p1)) then some (decide (y30.fState = p2)) else some false) : Option Bool).bind fun v31 => (bif v31 then some (w64 (a20 + (max 0 (w64 ((min y30.fSpan.fTo p3.fTo) - (max y30.fSpan.fFrom p3.fFrom)))))) else some a20))) : Option Int).bind fun v29 => some (.inl (v29, (w64 (a21 + 1))))) else some (.inr a20))
def state_Total (p0 : (List api_State)) (p1 : Int) (p2 : Int) (p3 : api_Span) : Option Int :=
  ((spans_Valid p3).bind fun r1 => (bif (!r1) then some 0 else ((loop (state_Total_L1 p0 p1 p2 p3) (0, 0)).bind fun e28 => some e28)))
theorem state_Total_fun (p0 : (List api_State)) (p1 : Int) (p2 : Int) (p3 : api_Span) (r : Int) (hF : state_Total p0 p1 p2 p3 = some r) : Fun Tryz.prog 42 true [] [cL 7 t_api_State p0, cI p1, cI p2, .agg [jI p3.fFrom, jI p3.fTo]] noHeap (cI r) noHeap := by
 refine Fun.of_walk0 Tryz.func42 c42 (by kernel_rfl) (rs := [.tmp 8]) (by kernel_rfl) ?_; unfold v42
 unfold state_Total at hF
 refine wA rfl ?_; refine W_seq ?_; refine wC 1 rfl ?_; obtain ⟨r1, hr1, hF⟩ := bB hF
 refine rS (T_call (spans_Valid_fun _ _ hr1) ⟨⟨rfl, rfl, trivial⟩, trivial⟩ rfl (.inl rfl) ?_); refine QV rfl ?_; refine wIf hF rfl (fun _ hF => ?_) fun _ hF => ?_
 · refine wA rfl ?_; cases hF
   exact W_ret wR
 refine W_skip ?_; refine wA rfl ?_; refine W_seq ?_; refine wC 1 rfl ?_; refine rS (T_len (tc := t_api_State) p0 .tree ?_); refine QV rfl ?_; refine W_for (fun _ _ h => h) hF (id) (fun (a20, a21) => [(1, cI p1), (2, cI p2), (7, cP (7,0) 0), (9, cI a20), (15, cL 7 t_api_State p0), (16, cI (List.length p0 : Int)), (17, cI a21)]) (fun (a20, a21) => [((7,0), .box [jI p3.fFrom, jI p3.fTo])]) (fun e28 => [(9, cI e28)]) (fun e28 => []) sw ?_ ?_
 · rintro e28 hF
   refine wA rfl ?_; cases hF
   exact W_ret wR
 rintro ⟨a20, a21⟩ x_0 hF cont_0 brk_0 fin_0
 unfold state_Total_L1 at hF
 refine wA rfl ?_; refine W_seq ?_; refine wIf hF rfl (fun _ hF => ?_) fun _ hF => ?_
 · refine W_skip ?_; refine W_seq ?_; refine W_join (fun _ _ h => h) hF (fun v29 => [(1, cI p1), (2, cI p2), (7, cP (7,0) 0), (9, cI v29), (15, cL 7 t_api_State p0), (16, cI (List.length p0 : Int)), (17, cI a21)]) (fun v29 => [((7,0), .box [jI p3.fFrom, jI p3.fTo])]) ?_ ?_
   · rintro v29 hF
     refine wB rfl ?_; exact cont_0 _ _ _ (oi hF) sw
   intro join hF
   refine W_block ?_; refine wE ?_; obtain ⟨y30, hy30, hF⟩ := bB' hF
   refine rS (T_ixT (tc := t_api_State) p0 rfl rfl hy30 ?_); refine QV rfl ?_; refine W_seq ?_; have hF := bA hF; refine W_join (fun _ _ h => h) hF (fun v31 => [(1, cI p1), (2, cI p2), (7, cP (7,0) 0), (9, cI a20), (11, cP (11,0) 0), (15, cL 7 t_api_State p0), (16, cI (List.length p0 : Int)), (17, cI a21), (30, cB v31)]) (fun v31 => [((7,0), .box [jI p3.fFrom, jI p3.fTo]), ((11,0), .box (m_api_State y30))]) ?_ ?_
   · rintro v31 hF
     refine wIf' hF rfl (fun _ hF => ?_) fun _ hF => ?_
     · refine wB rfl ?_; exact join (w64 (a20 + (max 0 (w64 ((min y30.fSpan.fTo p3.fTo) - (max y30.fSpan.fFrom p3.fFrom)))))) _ _ hF sw
     refine W_skip ?_; exact join a20 _ _ hF sw
   intro join hF
   refine wD 5 rfl ?_; cases h33 : (decide (y30.fThread = p1))
   · have hF := bF' h33 hF; refine QV rfl ?_; exact join false _ _ hF sw
   have hF := bT' h33 hF; refine QV rfl ?_; exact join (decide (y30.fState = p2)) _ _ hF sw
 refine W_exit ?_; refine thenQ_exit ?_; refine thenQ_exit ?_; refine blockQ_hit ?_; exact brk_0 _ _ _ (oi hF) sw
def anomaly_times_k2_L1 (p0 : api_Trace) (p1 : api_Slice) : (Int × (List Int) × Int) → Option ((Int × (List Int) × Int) ⊕ (Int × (List Int))) := fun (a18, a19, a20) =>
  (bif (decide (a20 < 6)) then ((state_Total p0.fStates p1.fThread a20 p1.fSpan).bind fun r28 => (bif room 8 (List.length a19 + List.length [r28]) then some (.inl ((w64 (a18 - r28)), (a19 ++ [r28]), (w64 (a20 + 1)))) else none)) else some (.inr (a18, a19)))
def anomaly_times_k2 (p0 : api_Trace) (p1 : api_Slice) : Option (List Int) :=
  ((anomaly_length p1).bind fun r1 => (bif mkB 8 6 then ((loop (anomaly_times_k2_L1 p0 p1) (r1, [], 0)).bind fun (e24, e25) => ((idx e25 5).bind fun y26 => ((idx e25 5).bind fun y27 => some (List.set e25 (Int.toNat 5) (w64 (y26 + e24)))))) else none))
theorem anomaly_times_k2_fun (p0 : api_Trace) (p1 : api_Slice) (r : (List Int)) (hF : anomaly_times_k2 p0 p1 = some r) : Fun Tryz.prog 30 true [] [.agg (m_api_Trace p0), .agg (m_api_Slice p1)] noHeap (cL 1 t_i64 r) noHeap := by
 refine Fun.of_walk0 Tryz.func30 c30 (by kernel_rfl) (rs := [.tmp 4]) (by kernel_rfl) ?_; unfold v30
 unfold anomaly_times_k2 at hF
 refine wA rfl ?_; refine wC 1 rfl ?_; obtain ⟨r1, hr1, hF⟩ := bB hF
 refine rS (T_call (anomaly_length_fun _ _ hr1) ⟨⟨rfl, rfl, rfl, rfl, rfl, rfl, rfl, rfl, trivial⟩, trivial⟩ rfl (.inl rfl) ?_); refine QV rfl ?_; refine wE ?_; obtain ⟨h2, hF⟩ := roomT hF
 refine rS (T_mk0 (tc := t_i64) 0 rfl rfl (mkOk h2) rfl rfl ?_); refine QV rfl ?_; refine W_seq ?_; refine wA rfl ?_; refine W_for (fun _ _ h => h) hF (id) (fun (a18, a19, a20) => [(2, cP (2,0) 0), (3, cP (3,0) 0), (5, cI a18), (6, cO (11,1)), (12, cI a20)]) (fun (a18, a19, a20) => [((2,0), .box (m_api_Trace p0)), ((3,0), .box (m_api_Slice p1)), ((11,1), .arr 3 1 (List.map t_i64 a19))]) (fun (e24, e25) => [(5, cI e24), (6, cO (11,1))]) (fun (e24, e25) => [((11,1), .arr 3 1 (List.map t_i64 e25))]) (S_ren (11,0) (11,1) rfl rfl sw) ?_ ?_
 · rintro ⟨e24, e25⟩ hF
   refine wC 1 rfl ?_; obtain ⟨y26, hy26, hF⟩ := bB hF
   refine rS (T_ixO (tc := t_i64) e25 rfl rfl rfl hy26 ?_); refine rS (T_ldE (tc := t_i64) e25 rfl rfl (idx_get hy26).2.1 rfl ?_); refine Q_run SV 2 rfl ?_; obtain ⟨y27, hy27, hF⟩ := bB hF
   refine rS (T_ixO (tc := t_i64) e25 rfl rfl rfl hy27 ?_); refine rS (T_stE (tc := t_i64) e25 (w64 (y26 + e24)) rfl rfl (idx_get hy27).2.1 rfl rfl rfl rfl rfl ?_); refine QV rfl ?_; refine wA rfl ?_; cases hF
   exact W_ret ⟨_, rfl, rfl, ⟨⟨_, rfl⟩, fun _ _ h => by simp [noHeap] at h, rfl, fun _ => by simp [-List.map_set, t_i64, flatT]⟩, noOut _⟩
 rintro ⟨a18, a19, a20⟩ x_0 hF cont_0 brk_0 fin_0
 unfold anomaly_times_k2_L1 at hF
 refine wA rfl ?_; refine W_seq ?_; refine wIf hF rfl (fun _ hF => ?_) fun _ hF => ?_
 · refine W_skip ?_; refine W_seq ?_; refine W_block ?_; refine wA rfl ?_; refine wC 7 rfl ?_; obtain ⟨r28, hr28, hF⟩ := bB hF
   refine rS (T_call (state_Total_fun _ _ _ _ _ hr28) ⟨rfl, rfl, rfl, ⟨rfl, rfl, trivial⟩, trivial⟩ rfl (.inl rfl) ?_); refine QV rfl ?_; refine wC 2 rfl ?_; refine rS (T_bsl (tc := t_i64) [r28] rfl ⟨rfl, trivial⟩ rfl (fun _ => rfl) rfl ?_)
   obtain ⟨h29, hF⟩ := roomT hF
   refine rS (T_appO (tc := t_i64) a19 [r28] rfl rfl (.own _ _ rfl) h29 rfl ?_); refine QV rfl ?_; refine wB rfl ?_; refine wB rfl ?_; exact cont_0 _ _ _ (oi hF) (S_ren (26,0) (11,1) rfl rfl sw)
 refine W_exit ?_; refine thenQ_exit ?_; refine thenQ_exit ?_; refine blockQ_hit ?_; exact brk_0 _ _ _ (oi hF) sw
def anomaly_causes  : Option (List ByteArray) :=
  some [⟨#[114, 101, 97, 100, 121]⟩, ⟨#[97, 115, 108, 101, 101, 112]⟩, ⟨#[98, 108, 111, 99, 107, 101, 100]⟩, ⟨#[103, 111, 110, 101]⟩, ⟨#[114, 117, 110, 110, 105, 110, 103]⟩, ⟨#[117, 110, 107, 110, 111, 119, 110]⟩]
theorem anomaly_causes_fun  (r : (List ByteArray)) (hF : anomaly_causes  = some r) : Fun Tryz.prog 35 false [] [] (heapOf []) (cO (902,1400)) (heapOf [((902,1400), .arr 9 1 (List.map t_str r))]) := by
 refine Fun.of_walkM [] (some []) Tryz.func35 c35 (by kernel_rfl) (rs := [.tmp 0]) (by kernel_rfl) rfl rfl rfl ?_; unfold v35
 unfold anomaly_causes at hF
 refine wA rfl ?_; refine wE ?_; refine rS (T_bsl (tc := t_str) [⟨#[114, 101, 97, 100, 121]⟩, ⟨#[97, 115, 108, 101, 101, 112]⟩, ⟨#[98, 108, 111, 99, 107, 101, 100]⟩, ⟨#[103, 111, 110, 101]⟩, ⟨#[114, 117, 110, 110, 105, 110, 103]⟩, ⟨#[117, 110, 107, 110, 111, 119, 110]⟩] rfl ⟨rfl, rfl, rfl, rfl, rfl, rfl, trivial⟩ rfl (fun _ => rfl) rfl ?_)
 refine QV rfl ?_; cases hF
 exact W_ret ⟨_, _, (S_ren (1,0) (902,1400) rfl rfl S_refl), _, rfl, rfl, rfl, (AgM.weak ⟨rfl, trivial⟩)⟩
def slices_Reverse_string_string_k1_L1  : ((List ByteArray) × Int × Int) → Option (((List ByteArray) × Int × Int) ⊕ (List ByteArray)) := fun (a20, a21, a22) =>
  (bif (decide (a21 < a22)) then ((idx a20 a22).bind fun y23 => ((idx a20 a21).bind fun y24 => ((idx a20 a21).bind fun y25 => ((idx (List.set a20 (Int.toNat a21) y23) a22).bind fun y26 => some (.inl ((List.set (List.set a20 (Int.toNat a21) y23) (Int.toNat a22) y24), (w64 (a21 + 1)), (w64 (a22 - 1)))))))) else some (.inr a20))
def slices_Reverse_string_string_k1 (p0 : (List ByteArray)) : Option (List ByteArray) :=
  (loop (slices_Reverse_string_string_k1_L1) (p0, 0, (w64 ((List.length p0 : Int) - 1))))
theorem slices_Reverse_string_string_k1_fun (p0 : (List ByteArray)) (r : (List ByteArray)) (hF : slices_Reverse_string_string_k1 p0 = some r) : Fun Tryz.prog 83 false [(4320,0)] [cO (4320,0)] (heapOf [((4320,0), .arr 9 1 (List.map t_str p0))]) (.tup []) (heapOf [((4320,0), .arr 9 1 (List.map t_str r))]) := by
 refine Fun.of_walkM [(4320,0)] (some [(4320,0)]) Tryz.func83 c83 (by kernel_rfl) (rs := []) (by kernel_rfl) rfl rfl rfl ?_; unfold v83
 unfold slices_Reverse_string_string_k1 at hF
 refine wC 1 rfl ?_; refine rS (T_len (tc := t_str) p0 (.own _ _ rfl) ?_); refine QV rfl ?_; refine W_for0 hF (fun (a20, a21, a22) => [(0, cO (4320,0)), (2, cI a21), (3, cI a22)]) (fun (a20, a21, a22) => [((4320,0), .arr 9 1 (List.map t_str a20))]) sw ?_
 rintro ⟨a20, a21, a22⟩ x_0 hF cont_0 fin_0
 unfold slices_Reverse_string_string_k1_L1 at hF
 refine W_seq ?_; refine wA rfl ?_; refine wIf hF rfl (fun _ hF => ?_) fun _ hF => ?_
 · refine W_skip ?_; refine W_seq ?_; refine W_block ?_; refine W_regD (by decide) (by kernel_rfl) rfl ?_; refine Q_run SP 6 rfl ?_; obtain ⟨y23, hy23, hF⟩ := bB hF
   refine R_step SP trivial (T_ixO (tc := t_str) a20 rfl rfl rfl hy23 ?_); refine R_step SP trivial (T_ldE (tc := t_str) a20 rfl rfl (idx_get hy23).2.1 rfl ?_); refine Q_run SP 2 rfl ?_; obtain ⟨y24, hy24, hF⟩ := bB hF
   refine R_step SP trivial (T_ixO (tc := t_str) a20 rfl rfl rfl hy24 ?_); refine R_step SP trivial (T_ldE (tc := t_str) a20 rfl rfl (idx_get hy24).2.1 rfl ?_); obtain ⟨y25, hy25, hF⟩ := bB hF
   refine R_step SP trivial (T_ixO (tc := t_str) a20 rfl rfl rfl hy25 ?_); refine R_step SP trivial (T_stE (tc := t_str) a20 y23 rfl rfl (idx_get hy25).2.1 rfl rfl rfl rfl rfl ?_); obtain ⟨y26, hy26, hF⟩ := bB hF
   refine R_step SP trivial (T_ixO (tc := t_str) (List.set a20 (Int.toNat a21) y23) rfl rfl rfl hy26 ?_); refine R_step SP trivial (T_stE (tc := t_str) (List.set a20 (Int.toNat a21) y23) y24 rfl rfl (idx_get hy26).2.1 rfl rfl rfl rfl rfl ?_)
   refine QP rfl ?_; refine wB rfl ?_; exact cont_0 _ _ _ (oi hF) sw
 refine W_exit ?_; refine thenQ_exit ?_; refine thenQ_exit ?_; refine blockQ_hit ?_; have hF := fin_0 _ (oi hF); cases hF
 exact ⟨_, _, S_refl, _, rfl, rfl, trivial, (AgM.weak ⟨rfl, trivial⟩)⟩
def slice_Path_L1 (p0 : (List api_Slice)) : (Int × (List ByteArray) × Int) → Option ((Int × (List ByteArray) × Int) ⊕ (List ByteArray)) := fun (a25, a26, a27) =>
  (((bif (decide (0 ≤ a25)) then (bif (decide (a25 < (List.length p0 : Int))) then some (decide (a27 ≤ (List.length p0 : Int))) else some false) else some false) : Option Bool).bind fun v37 => (bif v37 then ((idx p0 a25).bind fun y38 => (bif room 16 (List.length a26 + List.length [y38.fName]) then ((idx p0 a25).bind fun y40 => some (.inl (y40.fParent, (a26 ++ [y38.fName]), (w64 (a27 + 1))))) else none)) else some (.inr a26)))
def slice_Path (p0 : (List api_Slice)) (p1 : Int) : Option (List ByteArray) :=
  (((bif (decide (p1 < 0)) then some true else some (decide ((List.length p0 : Int) ≤ p1))) : Option Bool).bind fun v1 => (bif v1 then some [] else ((loop (slice_Path_L1 p0) (p1, [], 0)).bind fun e35 => ((slices_Reverse_string_string_k1 e35).bind fun r36 => some r36))))
theorem slice_Path_fun (p0 : (List api_Slice)) (p1 : Int) (r : (List ByteArray)) (hF : slice_Path p0 p1 = some r) : Fun Tryz.prog 36 false [] [cL 8 t_api_Slice p0, cI p1] (heapOf []) (cO (902,1440)) (heapOf [((902,1440), .arr 9 1 (List.map t_str r))]) := by
 refine Fun.of_walkM [] (some []) Tryz.func36 c36 (by kernel_rfl) (rs := [.tmp 4]) (by kernel_rfl) rfl rfl rfl ?_; unfold v36
 unfold slice_Path at hF
 refine wA rfl ?_; refine W_seq ?_; refine W_seq ?_; refine W_join (fun _ _ h => h) hF (fun v1 => [(0, cL 8 t_api_Slice p0), (1, cI p1), (14, cB v1)]) (fun v1 => []) ?_ ?_
 · rintro v1 hF
   refine wIf hF rfl (fun _ hF => ?_) fun _ hF => ?_
   · refine wA rfl ?_; cases hF
     exact W_ret ⟨_, _, (S_own 4 (902,1440) 9 1 rfl rfl rfl rfl S_refl), _, rfl, rfl, rfl, (AgM.weak ⟨rfl, trivial⟩)⟩
   refine W_skip ?_; refine wA rfl ?_; refine W_seq ?_; refine wA rfl ?_; refine W_for (fun _ _ h => h) hF (id) (fun (a25, a26, a27) => [(0, cL 8 t_api_Slice p0), (1, cI a25), (5, cO (38,1)), (6, cI a27)]) (fun (a25, a26, a27) => [((38,1), .arr 9 1 (List.map t_str a26))]) (fun e35 => [(5, cO (38,1))]) (fun e35 => [((38,1), .arr 9 1 (List.map t_str e35))]) (S_own 5 (38,1) 9 1 rfl rfl rfl rfl sw) ?_ ?_
   · rintro e35 hF
     refine wC 1 rfl ?_; obtain ⟨r36, hr36, hF⟩ := bB hF
     refine R_stepX trivial (X_callG [((4320,0),(38,1))] rfl (callN _) (slices_Reverse_string_string_k1_fun _ _ hr36) ⟨rfl, trivial⟩ ⟨.inl rfl, trivial⟩ rfl rfl rfl ?_); refine QV rfl ?_; refine wA rfl ?_; cases hF
     exact W_ret ⟨_, _, (S_ren (38,1) (902,1440) rfl rfl S_refl), _, rfl, rfl, rfl, (AgM.weak ⟨rfl, trivial⟩)⟩
   rintro ⟨a25, a26, a27⟩ x_0 hF cont_0 brk_0 fin_0
   unfold slice_Path_L1 at hF
   refine W_seq ?_; refine W_seq ?_; refine W_join (fun _ _ h => h) hF (fun v37 => [(0, cL 8 t_api_Slice p0), (1, cI a25), (5, cO (38,1)), (6, cI a27), (28, cB v37)]) (fun v37 => [((38,1), .arr 9 1 (List.map t_str a26))]) ?_ ?_
   · rintro v37 hF
     refine wIf hF rfl (fun _ hF => ?_) fun _ hF => ?_
     · refine W_skip ?_; refine W_seq ?_; refine W_block ?_; refine wC 3 rfl ?_; obtain ⟨y38, hy38, hF⟩ := bB hF
       refine rS (T_ixT (tc := t_api_Slice) p0 rfl rfl hy38 ?_); refine Q_run SV 2 rfl ?_; refine rS (T_bsl (tc := t_str) [y38.fName] rfl ⟨rfl, trivial⟩ rfl (fun _ => rfl) rfl ?_)
       obtain ⟨h39, hF⟩ := roomT hF
       refine rS (T_appO (tc := t_str) a26 [y38.fName] rfl rfl (.own _ _ rfl) h39 rfl ?_); refine QV rfl ?_; refine wD 2 rfl ?_; obtain ⟨y40, hy40, hF⟩ := bB hF
       refine rS (T_ixT (tc := t_api_Slice) p0 rfl rfl hy40 ?_); refine QV rfl ?_; refine wB rfl ?_; exact cont_0 _ _ _ (oi hF) (S_ren (38,0) (38,1) rfl rfl sw)
     refine W_exit ?_; refine thenQ_exit ?_; refine thenQ_exit ?_; refine blockQ_hit ?_; exact brk_0 _ _ _ (oi hF) sw
   intro join hF
   refine wD 3 rfl ?_; cases h42 : (decide (0 ≤ a25))
   · have hF := bF' h42 hF; refine QV rfl ?_; exact join false _ _ hF sw
   have hF := bT' h42 hF; refine Q_run SV 2 rfl ?_; refine R_step SV rfl (T_len (tc := t_api_Slice) p0 .tree ?_); refine Q_run SV 3 rfl ?_; cases h43 : (decide (a25 < (List.length p0 : Int)))
   · have hF := bF' h43 hF; refine QV rfl ?_; exact join false _ _ hF sw
   have hF := bT' h43 hF; refine Q_run SV 2 rfl ?_; refine R_step SV rfl (T_len (tc := t_api_Slice) p0 .tree ?_); refine QV rfl ?_; exact join (decide (a27 ≤ (List.length p0 : Int))) _ _ hF sw
 intro join hF
 refine wD 3 rfl ?_; cases h45 : (decide (p1 < 0))
 · have hF := bF' h45 hF; refine Q_run SV 2 rfl ?_; refine R_step SV rfl (T_len (tc := t_api_Slice) p0 .tree ?_); refine QV rfl ?_; exact join (decide ((List.length p0 : Int) ≤ p1)) _ _ hF sw
 have hF := bT' h45 hF; refine QV rfl ?_; exact join true _ _ hF sw
def anomaly_parts_k2_L1 (p0 : api_Trace) (p1 : Int) (r2 : (List Int)) (r4 : (List Int)) (r5 : (List ByteArray)) : ((List api_Part) × Int) → Option (((List api_Part) × Int) ⊕ (List api_Part)) := fun (a28, a29) =>
  (bif (decide (a29 < (List.length r5 : Int))) then ((((idx r5 a29).bind fun y40 => ((idx r2 a29).bind fun y41 => ((idx r4 a29).bind fun y42 => (bif (!decide ((w64 (y41 - y42)) = 0)) then ((slice_Path p0.fSlices p1).bind fun r43 => (bif room 56 (List.length a28 + List.length [({ fPath := r43, fCause := y40, fValue := ({ fN := (w64 (y41 - y42)), fD := 1 } : api_Frac) } : api_Part)]) then some (a28 ++ [({ fPath := r43, fCause := y40, fValue := ({ fN := (w64 (y41 - y42)), fD := 1 } : api_Frac) } : api_Part)]) else none)) else some a28)))) : Option (List api_Part)).bind fun v39 => some (.inl (v39, (w64 (a29 + 1))))) else some (.inr a28))
def anomaly_parts_k2 (p0 : api_Trace) (p1 : Int) (p2 : Int) : Option (List api_Part) :=
  ((idx p0.fSlices p1).bind fun y1 => ((anomaly_times_k2 p0 y1).bind fun r2 => ((idx p0.fSlices p2).bind fun y3 => ((anomaly_times_k2 p0 y3).bind fun r4 => ((anomaly_causes ).bind fun r5 => ((loop (anomaly_parts_k2_L1 p0 p1 r2 r4 r5) ([], 0)).bind fun e38 => some e38))))))
theorem anomaly_parts_k2_fun (p0 : api_Trace) (p1 : Int) (p2 : Int) (r : (List api_Part)) (hF : anomaly_parts_k2 p0 p1 p2 = some r) : Fun Tryz.prog 23 false [] [.agg (m_api_Trace p0), cI p1, cI p2] noHeap (cL 4 t_api_Part r) noHeap := by
 refine Fun.of_walk0 Tryz.func23 c23 (by kernel_rfl) (rs := [.tmp 6]) (by kernel_rfl) ?_; unfold v23
 unfold anomaly_parts_k2 at hF
 refine wA rfl ?_; refine wA rfl ?_; refine W_seq ?_; refine W_regD (by decide) (by kernel_rfl) rfl ?_; refine Q_run SP 4 rfl ?_; obtain ⟨y1, hy1, hF⟩ := bB hF
 refine R_step SP trivial (T_ixT (tc := t_api_Slice) p0.fSlices rfl rfl hy1 ?_); refine Q_run SP 1 rfl ?_; obtain ⟨r2, hr2, hF⟩ := bB hF
 refine R_step SP trivial (T_call (anomaly_times_k2_fun _ _ _ hr2) ⟨⟨rfl, rfl, rfl, rfl, rfl, rfl, rfl, rfl, rfl, rfl, trivial⟩, ⟨rfl, rfl, rfl, rfl, rfl, rfl, rfl, rfl, trivial⟩, trivial⟩ rfl (.inl rfl) ?_)
 refine Q_run SP 4 rfl ?_; obtain ⟨y3, hy3, hF⟩ := bB hF
 refine R_step SP trivial (T_ixT (tc := t_api_Slice) p0.fSlices rfl rfl hy3 ?_); refine Q_run SP 1 rfl ?_; obtain ⟨r4, hr4, hF⟩ := bB hF
 refine R_step SP trivial (T_call (anomaly_times_k2_fun _ _ _ hr4) ⟨⟨rfl, rfl, rfl, rfl, rfl, rfl, rfl, rfl, rfl, rfl, trivial⟩, ⟨rfl, rfl, rfl, rfl, rfl, rfl, rfl, rfl, trivial⟩, trivial⟩ rfl (.inl rfl) ?_)
 refine QP rfl ?_; refine W_seq ?_; refine wE ?_; obtain ⟨r5, hr5, hF⟩ := bB hF
 refine R_stepX trivial (X_callG [((902,1400),(27,1))] rfl (callN _) (anomaly_causes_fun _ hr5) trivial trivial rfl rfl rfl ?_); refine rS (T_len (tc := t_str) r5 (.own _ _ rfl) ?_); refine QV rfl ?_; refine W_for (fun _ _ h => h) hF (id) (fun (a28, a29) => [(1, cI p1), (3, cP (3,0) 0), (7, cO (55,1)), (8, cL 1 t_i64 r2), (9, cL 1 t_i64 r4), (27, cO (27,1)), (28, cI (List.length r5 : Int)), (29, cI a29)]) (fun (a28, a29) => [((3,0), .box (m_api_Trace p0)), ((55,1), .arr 61 4 (List.map t_api_Part a28)), ((27,1), .arr 9 1 (List.map t_str r5))]) (fun e38 => [(7, cO (55,1))]) (fun e38 => [((55,1), .arr 61 4 (List.map t_api_Part e38))]) (S_own 7 (55,1) 61 4 rfl rfl rfl rfl sw) ?_ ?_
 · rintro e38 hF
   refine wA rfl ?_; cases hF
   exact W_ret ⟨_, rfl, rfl, ⟨⟨_, rfl⟩, fun _ _ h => by simp [noHeap] at h, rfl, fun h => (by cases h)⟩, noOut _⟩
 rintro ⟨a28, a29⟩ x_0 hF cont_0 brk_0 fin_0
 unfold anomaly_parts_k2_L1 at hF
 refine wA rfl ?_; refine W_seq ?_; refine wIf hF rfl (fun _ hF => ?_) fun _ hF => ?_
 · refine W_skip ?_; refine W_seq ?_; refine W_join (fun _ _ h => h) hF (fun v39 => [(1, cI p1), (3, cP (3,0) 0), (7, cO (55,1)), (8, cL 1 t_i64 r2), (9, cL 1 t_i64 r4), (27, cO (27,1)), (28, cI (List.length r5 : Int)), (29, cI a29)]) (fun v39 => [((3,0), .box (m_api_Trace p0)), ((55,1), .arr 61 4 (List.map t_api_Part v39)), ((27,1), .arr 9 1 (List.map t_str r5))]) ?_ ?_
   · rintro v39 hF
     refine wB rfl ?_; exact cont_0 _ _ _ (oi hF) sw
   intro join hF
   refine W_block ?_; refine wC 1 rfl ?_; obtain ⟨y40, hy40, hF⟩ := bB' hF
   refine rS (T_ixO (tc := t_str) r5 rfl rfl rfl hy40 ?_); refine rS (T_ldE (tc := t_str) r5 rfl rfl (idx_get hy40).2.1 rfl ?_); refine QV rfl ?_; refine W_seq ?_; refine W_regD (by decide) (by kernel_rfl) rfl ?_
   refine Q_run SP 2 rfl ?_; obtain ⟨y41, hy41, hF⟩ := bB' hF
   refine R_step SP trivial (T_ixT (tc := t_i64) r2 rfl rfl hy41 ?_); refine Q_run SP 3 rfl ?_; obtain ⟨y42, hy42, hF⟩ := bB' hF
   refine R_step SP trivial (T_ixT (tc := t_i64) r4 rfl rfl hy42 ?_); refine QP rfl ?_; refine wA rfl ?_; refine wIf' hF rfl (fun _ hF => ?_) fun _ hF => ?_
   · refine wD 4 rfl ?_; obtain ⟨r43, hr43, hF⟩ := bB' hF
     refine R_stepX trivial (X_callG [((902,1440),(49,1))] rfl (callN _) (slice_Path_fun _ _ _ hr43) trivial ⟨.inl rfl, .inl rfl, trivial⟩ rfl rfl rfl ?_); refine Q_run SV 4 rfl ?_; refine R_shift trivial (S_frz (49,1) rfl rfl S_refl) (.inl (T_bsl (tc := t_api_Part) [({ fPath := r43, fCause := y40, fValue := ({ fN := (w64 (y41 - y42)), fD := 1 } : api_Frac) } : api_Part)] rfl ⟨rfl, rfl, rfl, rfl, trivial⟩ rfl (fun _ => rfl) rfl ?_))
     obtain ⟨h44, hF⟩ := roomT' hF
     refine rS (T_appO (tc := t_api_Part) a28 [({ fPath := r43, fCause := y40, fValue := ({ fN := (w64 (y41 - y42)), fD := 1 } : api_Frac) } : api_Part)] rfl rfl (.own _ _ rfl) h44 rfl ?_); refine QV rfl ?_
     exact join (a28 ++ [({ fPath := r43, fCause := y40, fValue := ({ fN := (w64 (y41 - y42)), fD := 1 } : api_Frac) } : api_Part)]) _ _ hF (S_ren (55,0) (55,1) rfl rfl sw)
   refine W_skip ?_; exact join a28 _ _ hF sw
 refine W_exit ?_; refine thenQ_exit ?_; refine thenQ_exit ?_; refine blockQ_hit ?_; exact brk_0 _ _ _ (oi hF) sw
def anomaly_Of_L1 (p0 : api_Trace) (p1 : Int) (p2 : Int) : ((List api_Outlier) × Int) → Option (((List api_Outlier) × Int) ⊕ (List api_Outlier)) := fun (a41, a42) =>
  (bif (decide (a42 < (List.length p0.fSlices : Int))) then ((((idx p0.fSlices a42).bind fun y61 => (((bif y61.fOpen then some true else ((anomaly_closed p0 y61.fName).bind fun r74 => some (decide ((List.length r74 : Int) < 3)))) : Option Bool).bind fun v62 => (bif v62 then some a41 else ((anomaly_usual p0 y61.fName).bind fun r63 => (bif (!r63.2) then some a41 else ((idx p0.fSlices r63.1).bind fun y64 => ((anomaly_length y64).bind fun r65 => ((anomaly_length y61).bind fun r66 => (bif (decide ((w64 (p1 * r65)) < (w64 (p2 * r66)))) then ((anomaly_length y61).bind fun r67 => ((anomaly_parts_k2 p0 a42 r63.1).bind fun r68 => (bif room 40 (List.length a41 + List.length [({ fSlice := a42, fExcess := (w64 (r67 - r65)), fParts := r68 } : api_Outlier)]) then some (a41 ++ [({ fSlice := a42, fExcess := (w64 (r67 - r65)), fParts := r68 } : api_Outlier)]) else none))) else some a41))))))))) : Option (List api_Outlier)).bind fun v60 => some (.inl (v60, (w64 (a42 + 1))))) else some (.inr a41))
def anomaly_Of (p0 : api_Trace) (p1 : Int) (p2 : Int) : Option ((List api_Outlier) × Int) :=
  ((trace_Check p0).bind fun r1 => (bif (!decide (r1 = 0)) then some ([], r1) else (((bif (decide (p2 < 1)) then some true else (bif (decide (p1 < p2)) then some true else some (decide (1000 < p1)))) : Option Bool).bind fun v2 => (bif v2 then some ([], 1) else ((loop (anomaly_Of_L1 p0 p1 p2) ([], 0)).bind fun e59 => some (e59, 0))))))
theorem anomaly_Of_fun (p0 : api_Trace) (p1 : Int) (p2 : Int) (r : ((List api_Outlier) × Int)) (hF : anomaly_Of p0 p1 p2 = some r) : Fun Tryz.prog 10 false [] [.agg (m_api_Trace p0), cI p1, cI p2] (heapOf []) (.tup [cO (902,400), cI r.2]) (heapOf [((902,400), .arr 42 3 (List.map t_api_Outlier r.1))]) := by
 refine Fun.of_walkM [] (some []) Tryz.func10 c10 (by kernel_rfl) (rs := [.tmp 6, .tmp 7]) (by kernel_rfl) rfl rfl rfl ?_; unfold v10
 unfold anomaly_Of at hF
 refine wA rfl ?_; refine W_seq ?_; refine wC 1 rfl ?_; obtain ⟨r1, hr1, hF⟩ := bB hF
 refine rS (T_call (trace_Check_fun _ _ hr1) ⟨⟨rfl, rfl, rfl, rfl, rfl, rfl, rfl, rfl, rfl, rfl, trivial⟩, trivial⟩ rfl (.inl rfl) ?_); refine QV rfl ?_; refine wA rfl ?_; refine wIf hF rfl (fun _ hF => ?_) fun _ hF => ?_
 · refine wA rfl ?_; cases hF
   exact W_ret ⟨_, _, (S_own 6 (902,400) 42 3 rfl rfl rfl rfl S_refl), _, rfl, rfl, ⟨rfl, ⟨rfl, fun _ => rfl⟩, trivial⟩, (AgM.weak ⟨rfl, trivial⟩)⟩
 refine W_skip ?_; refine W_seq ?_; refine W_seq ?_; refine W_join (fun _ _ h => h) hF (fun v2 => [(1, cI p1), (2, cI p2), (3, cP (3,0) 0), (30, cB v2)]) (fun v2 => [((3,0), .box (m_api_Trace p0))]) ?_ ?_
 · rintro v2 hF
   refine wIf hF rfl (fun _ hF => ?_) fun _ hF => ?_
   · refine wA rfl ?_; cases hF
     exact W_ret ⟨_, _, (S_own 6 (902,400) 42 3 rfl rfl rfl rfl S_refl), _, rfl, rfl, ⟨rfl, ⟨rfl, fun _ => rfl⟩, trivial⟩, (AgM.weak ⟨rfl, trivial⟩)⟩
   refine W_skip ?_; refine wA rfl ?_; refine W_seq ?_; refine wC 2 rfl ?_; refine rS (T_len (tc := t_api_Slice) p0.fSlices .tree ?_); refine QV rfl ?_; refine W_for (fun _ _ h => h) hF (id) (fun (a41, a42) => [(1, cI p1), (2, cI p2), (3, cP (3,0) 0), (9, cO (84,1)), (32, cL 8 t_api_Slice p0.fSlices), (33, cI (List.length p0.fSlices : Int)), (34, cI a42)]) (fun (a41, a42) => [((3,0), .box (m_api_Trace p0)), ((84,1), .arr 42 3 (List.map t_api_Outlier a41))]) (fun e59 => [(9, cO (84,1))]) (fun e59 => [((84,1), .arr 42 3 (List.map t_api_Outlier e59))]) (S_own 9 (84,1) 42 3 rfl rfl rfl rfl sw) ?_ ?_
   · rintro e59 hF
     refine wA rfl ?_; cases hF
     exact W_ret ⟨_, _, (S_ren (84,1) (902,400) rfl rfl S_refl), _, rfl, rfl, ⟨rfl, ⟨rfl, fun _ => rfl⟩, trivial⟩, (AgM.weak ⟨rfl, trivial⟩)⟩
   rintro ⟨a41, a42⟩ x_0 hF cont_0 brk_0 fin_0
   unfold anomaly_Of_L1 at hF
   refine wA rfl ?_; refine W_seq ?_; refine wIf hF rfl (fun _ hF => ?_) fun _ hF => ?_
   · refine W_skip ?_; refine W_seq ?_; refine W_join (fun _ _ h => h) hF (fun v60 => [(1, cI p1), (2, cI p2), (3, cP (3,0) 0), (9, cO (84,1)), (32, cL 8 t_api_Slice p0.fSlices), (33, cI (List.length p0.fSlices : Int)), (34, cI a42)]) (fun v60 => [((3,0), .box (m_api_Trace p0)), ((84,1), .arr 42 3 (List.map t_api_Outlier v60))]) ?_ ?_
     · rintro v60 hF
       refine wB rfl ?_; exact cont_0 _ _ _ (oi hF) sw
     intro join hF
     refine W_block ?_; refine wC 1 rfl ?_; obtain ⟨y61, hy61, hF⟩ := bB' hF
     refine rS (T_ixT (tc := t_api_Slice) p0.fSlices rfl rfl hy61 ?_); refine QV rfl ?_; refine W_seq ?_; refine W_seq ?_; have hF := bA hF; refine W_join (fun _ _ h => h) hF (fun v62 => [(1, cI p1), (2, cI p2), (3, cP (3,0) 0), (9, cO (84,1)), (10, cI a42), (11, cP (11,0) 0), (32, cL 8 t_api_Slice p0.fSlices), (33, cI (List.length p0.fSlices : Int)), (34, cI a42), (48, cB v62)]) (fun v62 => [((3,0), .box (m_api_Trace p0)), ((84,1), .arr 42 3 (List.map t_api_Outlier a41)), ((11,0), .box [jI y61.fThread, jI y61.fParent, jI y61.fDepth, jS y61.fName, jI y61.fSpan.fFrom, jI y61.fSpan.fTo, jI y61.fSelf, jB y61.fOpen])]) ?_ ?_
     · rintro v62 hF
       refine wIf' hF rfl (fun _ hF => ?_) fun _ hF => ?_
       · refine W_exit ?_; refine thenQ_exit ?_; refine blockQ_hit ?_; exact join a41 _ _ hF sw
       refine W_skip ?_; refine wC 3 rfl ?_; obtain ⟨r63, hr63, hF⟩ := bB' hF
       refine rS (T_call (anomaly_usual_fun _ _ _ hr63) ⟨⟨rfl, rfl, rfl, rfl, rfl, rfl, rfl, rfl, rfl, rfl, trivial⟩, rfl, trivial⟩ rfl (.inl rfl) ?_); refine QV rfl ?_; refine W_seq ?_; refine wA rfl ?_; refine wIf' hF rfl (fun _ hF => ?_) fun _ hF => ?_
       · refine W_exit ?_; refine thenQ_exit ?_; refine blockQ_hit ?_; exact join a41 _ _ hF sw
       refine W_skip ?_; refine wC 3 rfl ?_; obtain ⟨y64, hy64, hF⟩ := bB' hF
       refine rS (T_ixT (tc := t_api_Slice) p0.fSlices rfl rfl hy64 ?_); refine Q_run SV 1 rfl ?_; obtain ⟨r65, hr65, hF⟩ := bB' hF
       refine rS (T_call (anomaly_length_fun _ _ hr65) ⟨⟨rfl, rfl, rfl, rfl, rfl, rfl, rfl, rfl, trivial⟩, trivial⟩ rfl (.inl rfl) ?_); refine QV rfl ?_; refine wC 2 rfl ?_; obtain ⟨r66, hr66, hF⟩ := bB' hF
       refine rS (T_call (anomaly_length_fun _ _ hr66) ⟨⟨rfl, rfl, rfl, rfl, rfl, rfl, rfl, rfl, trivial⟩, trivial⟩ rfl (.inl rfl) ?_); refine QV rfl ?_; refine wIf' hF rfl (fun _ hF => ?_) fun _ hF => ?_
       · refine W_regD (by decide) (by kernel_rfl) rfl ?_; refine Q_run SP 3 rfl ?_; obtain ⟨r67, hr67, hF⟩ := bB' hF
         refine R_step SP trivial (T_call (anomaly_length_fun _ _ hr67) ⟨⟨rfl, rfl, rfl, rfl, rfl, rfl, rfl, rfl, trivial⟩, trivial⟩ rfl (.inl rfl) ?_); refine Q_run SP 5 rfl ?_; obtain ⟨r68, hr68, hF⟩ := bB' hF
         refine R_step SP trivial (T_call (anomaly_parts_k2_fun _ _ _ _ hr68) ⟨⟨rfl, rfl, rfl, rfl, rfl, rfl, rfl, rfl, rfl, rfl, trivial⟩, rfl, rfl, trivial⟩ rfl (.inr (.inr ⟨⟨rfl, rfl, rfl, rfl, rfl, rfl, rfl, rfl, rfl, rfl, trivial⟩, rfl, rfl, trivial⟩)) ?_)
         refine Q_run SP 1 rfl ?_; refine R_step SP trivial (T_bsl (tc := t_api_Outlier) [({ fSlice := a42, fExcess := (w64 (r67 - r65)), fParts := r68 } : api_Outlier)] rfl ⟨rfl, rfl, rfl, trivial⟩ rfl (fun _ => rfl) rfl ?_)
         obtain ⟨h69, hF⟩ := roomT' hF
         refine R_step SP trivial (T_appO (tc := t_api_Outlier) a41 [({ fSlice := a42, fExcess := (w64 (r67 - r65)), fParts := r68 } : api_Outlier)] rfl rfl (.own _ _ rfl) h69 rfl ?_); refine QP rfl ?_; exact join (a41 ++ [({ fSlice := a42, fExcess := (w64 (r67 - r65)), fParts := r68 } : api_Outlier)]) _ _ hF (S_ren (84,0) (84,1) rfl rfl sw)
       refine W_skip ?_; exact join a41 _ _ hF sw
     intro join hF
     refine wD 3 rfl ?_; cases h73 : y61.fOpen
     · have hF := bF' h73 hF; refine Q_run SV 3 rfl ?_; obtain ⟨r74, hr74, hF⟩ := bB' hF
       refine R_stepX rfl (X_callG [((902,800),(45,1))] rfl (callN _) (anomaly_closed_fun _ _ _ hr74) trivial ⟨.inr ⟨rfl, rfl, rfl, rfl, rfl, rfl, rfl, rfl, rfl, rfl, trivial⟩, .inl rfl, trivial⟩ rfl rfl rfl ?_)
       refine R_step SV rfl (T_len (tc := t_i64) r74 (.own _ _ rfl) ?_); refine QV rfl ?_; exact join (decide ((List.length r74 : Int) < 3)) _ _ hF (S_weak (by repeat' first | constructor | (rw [h73]; rfl)) (by repeat' first | constructor | (rw [h73]; rfl)))
     have hF := bT' h73 hF; refine QV rfl ?_; exact join true _ _ hF (S_weak (by repeat' first | constructor | (rw [h73]; rfl)) (by repeat' first | constructor | (rw [h73]; rfl)))
   refine W_exit ?_; refine thenQ_exit ?_; refine thenQ_exit ?_; refine blockQ_hit ?_; exact brk_0 _ _ _ (oi hF) sw
 intro join hF
 refine wD 3 rfl ?_; cases h77 : (decide (p2 < 1))
 · have hF := bF' h77 hF; refine Q_run SV 5 rfl ?_; cases h78 : (decide (p1 < p2))
   · have hF := bF' h78 hF; refine QV rfl ?_; exact join (decide (1000 < p1)) _ _ hF sw
   have hF := bT' h78 hF; refine QV rfl ?_; exact join true _ _ hF sw
 have hF := bT' h77 hF; refine QV rfl ?_; exact join true _ _ hF sw
def anomaly_Usual (p0 : api_Trace) (p1 : ByteArray) : Option (Int × Int) :=
  ((trace_Check p0).bind fun r1 => (bif (!decide (r1 = 0)) then some (0, r1) else ((anomaly_usual p0 p1).bind fun r2 => (bif (!r2.2) then some (0, 5) else some (r2.1, 0)))))
theorem anomaly_Usual_fun (p0 : api_Trace) (p1 : ByteArray) (r : (Int × Int)) (hF : anomaly_Usual p0 p1 = some r) : Fun Tryz.prog 15 true [] [.agg (m_api_Trace p0), .c (jS p1)] noHeap (.tup [cI r.1, cI r.2]) noHeap := by
 refine Fun.of_walk0 Tryz.func15 c15 (by kernel_rfl) (rs := [.tmp 4, .tmp 5]) (by kernel_rfl) ?_; unfold v15
 unfold anomaly_Usual at hF
 refine wA rfl ?_; refine W_seq ?_; refine wC 1 rfl ?_; obtain ⟨r1, hr1, hF⟩ := bB hF
 refine rS (T_call (trace_Check_fun _ _ hr1) ⟨⟨rfl, rfl, rfl, rfl, rfl, rfl, rfl, rfl, rfl, rfl, trivial⟩, trivial⟩ rfl (.inl rfl) ?_); refine QV rfl ?_; refine wA rfl ?_; refine wIf hF rfl (fun _ hF => ?_) fun _ hF => ?_
 · refine wA rfl ?_; cases hF
   exact W_ret ⟨_, rfl, rfl, ⟨⟨rfl, fun _ => rfl⟩, ⟨rfl, fun _ => rfl⟩, trivial⟩, noOut _⟩
 refine W_skip ?_; refine wC 2 rfl ?_; obtain ⟨r2, hr2, hF⟩ := bB hF
 refine rS (T_call (anomaly_usual_fun _ _ _ hr2) ⟨⟨rfl, rfl, rfl, rfl, rfl, rfl, rfl, rfl, rfl, rfl, trivial⟩, rfl, trivial⟩ rfl (.inl rfl) ?_); refine QV rfl ?_; refine W_seq ?_; refine wA rfl ?_; refine wIf hF rfl (fun _ hF => ?_) fun _ hF => ?_
 · refine wA rfl ?_; cases hF
   exact W_ret ⟨_, rfl, rfl, ⟨⟨rfl, fun _ => rfl⟩, ⟨rfl, fun _ => rfl⟩, trivial⟩, noOut _⟩
 refine W_skip ?_; refine wA rfl ?_; cases hF
 exact W_ret ⟨_, rfl, rfl, ⟨⟨rfl, fun _ => rfl⟩, ⟨rfl, fun _ => rfl⟩, trivial⟩, noOut _⟩
def tracebooklaw54_awake  : Option Bool :=
  ((tracebooklaw54_calls 30 [10, 10, 40]).bind fun r1 => ((anomaly_Of r1 2 1).bind fun r2 => ((tracebooklaw54_calls 0 [10, 40]).bind fun r3 => ((anomaly_Of r3 2 1).bind fun r4 => ((tracebooklaw54_calls 0 [1, 2, 3]).bind fun r5 => ((anomaly_Usual r5 ⟨#[102]⟩).bind fun r6 => ((tracebooklaw54_calls 0 [1, 2, 3]).bind fun r7 => ((anomaly_Of r7 1 1).bind fun r8 => (((bif (decide (r2.2 = 0)) then (bif (decide ((List.length r2.1 : Int) = 1)) then ((idx r2.1 0).bind fun y12 => (bif (decide (y12.fSlice = 2)) then ((idx r2.1 0).bind fun y14 => (bif (decide (y14.fExcess = 30)) then ((idx r2.1 0).bind fun y16 => (bif (decide ((List.length y16.fParts : Int) = 1)) then ((idx r2.1 0).bind fun y18 => ((idx y18.fParts 0).bind fun y19 => (bif (decide (y19.fCause = ⟨#[97, 115, 108, 101, 101, 112]⟩)) then ((idx r2.1 0).bind fun y21 => ((idx y21.fParts 0).bind fun y22 => (bif (decide (y22.fValue.fN = 30)) then (bif (decide (r4.2 = 0)) then (bif (decide ((List.length r4.1 : Int) = 0)) then (bif (decide (r6.2 = 0)) then (bif (decide (r6.1 = 1)) then (bif (decide (r8.2 = 0)) then (bif (decide ((List.length r8.1 : Int) = 1)) then ((idx r8.1 0).bind fun y30 => some (decide (y30.fSlice = 2))) else some false) else some false) else some false) else some false) else some false) else some false) else some false))) else some false))) else some false)) else some false)) else some false)) else some false) else some false) : Option Bool).bind fun v9 => some v9)))))))))
theorem tracebooklaw54_awake_fun  (r : Bool) (hF : tracebooklaw54_awake  = some r) : Fun Tryz.prog 9 true [] [] noHeap (cB r) noHeap := by
 refine Fun.of_walk0 Tryz.func9 c9 (by kernel_rfl) (rs := [.tmp 0]) (by kernel_rfl) ?_; unfold v9
 unfold tracebooklaw54_awake at hF
 refine wA rfl ?_; refine wE ?_; refine rS (T_bsl (tc := t_i64) [10, 10, 40] rfl ⟨rfl, rfl, rfl, trivial⟩ rfl (fun _ => rfl) rfl ?_)
 obtain ⟨r1, hr1, hF⟩ := bB hF
 refine R_shift trivial (S_frz (10,0) rfl rfl S_refl) (X_callG [((902,720),(11,1)), ((902,721),(11,2)), ((902,722),(11,3))] rfl (callN _) (tracebooklaw54_calls_fun _ _ _ hr1) trivial ⟨.inl rfl, .inl rfl, trivial⟩ rfl rfl rfl ?_)
 obtain ⟨r2, hr2, hF⟩ := bB hF
 refine R_shift trivial (S_frz (11,1) rfl rfl (S_frz (11,2) rfl rfl (S_frz (11,3) rfl rfl S_refl))) (X_callG [((902,400),(12,1))] rfl (callN _) (anomaly_Of_fun _ _ _ _ hr2) trivial ⟨.inr ⟨rfl, rfl, rfl, rfl, rfl, rfl, rfl, rfl, rfl, rfl, trivial⟩, .inl rfl, .inl rfl, trivial⟩ rfl rfl rfl ?_)
 refine QV rfl ?_; refine wE ?_; refine rS (T_bsl (tc := t_i64) [10, 40] rfl ⟨rfl, rfl, trivial⟩ rfl (fun _ => rfl) rfl ?_)
 obtain ⟨r3, hr3, hF⟩ := bB hF
 refine R_shift trivial (S_frz (16,0) rfl rfl S_refl) (X_callG [((902,720),(17,1)), ((902,721),(17,2)), ((902,722),(17,3))] rfl (callN _) (tracebooklaw54_calls_fun _ _ _ hr3) trivial ⟨.inl rfl, .inl rfl, trivial⟩ rfl rfl rfl ?_)
 obtain ⟨r4, hr4, hF⟩ := bB hF
 refine R_shift trivial (S_frz (17,1) rfl rfl (S_frz (17,2) rfl rfl (S_frz (17,3) rfl rfl S_refl))) (X_callG [((902,400),(18,1))] rfl (callN _) (anomaly_Of_fun _ _ _ _ hr4) trivial ⟨.inr ⟨rfl, rfl, rfl, rfl, rfl, rfl, rfl, rfl, rfl, rfl, trivial⟩, .inl rfl, .inl rfl, trivial⟩ rfl rfl rfl ?_)
 refine QV rfl ?_; refine wE ?_; refine rS (T_bsl (tc := t_i64) [1, 2, 3] rfl ⟨rfl, rfl, rfl, trivial⟩ rfl (fun _ => rfl) rfl ?_)
 obtain ⟨r5, hr5, hF⟩ := bB hF
 refine R_shift trivial (S_frz (22,0) rfl rfl S_refl) (X_callG [((902,720),(23,1)), ((902,721),(23,2)), ((902,722),(23,3))] rfl (callN _) (tracebooklaw54_calls_fun _ _ _ hr5) trivial ⟨.inl rfl, .inl rfl, trivial⟩ rfl rfl rfl ?_)
 obtain ⟨r6, hr6, hF⟩ := bB hF
 refine rS (T_call (anomaly_Usual_fun _ _ _ hr6) ⟨⟨rfl, rfl, ⟨_, rfl⟩, ⟨_, rfl⟩, ⟨_, rfl⟩, rfl, rfl, rfl, rfl, rfl, trivial⟩, rfl, trivial⟩ rfl (.inl rfl) ?_); refine QV rfl ?_; refine wE ?_; refine rS (T_bsl (tc := t_i64) [1, 2, 3] rfl ⟨rfl, rfl, rfl, trivial⟩ rfl (fun _ => rfl) rfl ?_)
 obtain ⟨r7, hr7, hF⟩ := bB hF
 refine R_shift trivial (S_frz (28,0) rfl rfl S_refl) (X_callG [((902,720),(29,1)), ((902,721),(29,2)), ((902,722),(29,3))] rfl (callN _) (tracebooklaw54_calls_fun _ _ _ hr7) trivial ⟨.inl rfl, .inl rfl, trivial⟩ rfl rfl rfl ?_)
 obtain ⟨r8, hr8, hF⟩ := bB hF
 refine R_shift trivial (S_frz (29,1) rfl rfl (S_frz (29,2) rfl rfl (S_frz (29,3) rfl rfl S_refl))) (X_callG [((902,400),(30,1))] rfl (callN _) (anomaly_Of_fun _ _ _ _ hr8) trivial ⟨.inr ⟨rfl, rfl, rfl, rfl, rfl, rfl, rfl, rfl, rfl, rfl, trivial⟩, .inl rfl, .inl rfl, trivial⟩ rfl rfl rfl ?_)
 refine QV rfl ?_; refine W_seq ?_; refine W_join (fun _ _ h => h) hF (fun v9 => [(0, cB v9)]) (fun v9 => []) ?_ ?_
 · rintro v9 hF
   cases hF
   exact W_ret wR
 intro join hF
 refine wD 3 rfl ?_; cases h10 : (decide (r2.2 = 0))
 · have hF := bF' h10 hF; refine QV rfl ?_; exact join false _ _ hF sw
 have hF := bT' h10 hF; refine Q_run SV 1 rfl ?_; refine R_step SV rfl (T_len (tc := t_api_Outlier) r2.1 (.own _ _ rfl) ?_); refine Q_run SV 3 rfl ?_; cases h11 : (decide ((List.length r2.1 : Int) = 1))
 · have hF := bF' h11 hF; refine QV rfl ?_; exact join false _ _ hF sw
 have hF := bT' h11 hF; refine Q_run SV 1 rfl ?_; obtain ⟨y12, hy12, hF⟩ := bB' hF
 refine R_step SV rfl (T_ixO (tc := t_api_Outlier) r2.1 rfl rfl rfl hy12 ?_); refine Q_run SV 1 rfl ?_; refine R_step SV rfl (T_ldE (tc := t_api_Outlier) r2.1 rfl rfl (idx_get hy12).2.1 rfl ?_); refine Q_run SV 3 rfl ?_
 cases h13 : (decide (y12.fSlice = 2))
 · have hF := bF' h13 hF; refine QV rfl ?_; exact join false _ _ hF sw
 have hF := bT' h13 hF; refine Q_run SV 1 rfl ?_; obtain ⟨y14, hy14, hF⟩ := bB' hF
 refine R_step SV rfl (T_ixO (tc := t_api_Outlier) r2.1 rfl rfl rfl hy14 ?_); refine Q_run SV 1 rfl ?_; refine R_step SV rfl (T_ldE (tc := t_api_Outlier) r2.1 rfl rfl (idx_get hy14).2.1 rfl ?_); refine Q_run SV 3 rfl ?_
 cases h15 : (decide (y14.fExcess = 30))
 · have hF := bF' h15 hF; refine QV rfl ?_; exact join false _ _ hF sw
 have hF := bT' h15 hF; refine Q_run SV 1 rfl ?_; obtain ⟨y16, hy16, hF⟩ := bB' hF
 refine R_step SV rfl (T_ixO (tc := t_api_Outlier) r2.1 rfl rfl rfl hy16 ?_); refine Q_run SV 1 rfl ?_; refine R_step SV rfl (T_ldE (tc := t_api_Outlier) r2.1 rfl rfl (idx_get hy16).2.1 rfl ?_); refine R_step SV rfl (T_len (tc := t_api_Part) y16.fParts .tree ?_)
 refine Q_run SV 3 rfl ?_; cases h17 : (decide ((List.length y16.fParts : Int) = 1))
 · have hF := bF' h17 hF; refine QV rfl ?_; exact join false _ _ hF sw
 have hF := bT' h17 hF; refine Q_run SV 1 rfl ?_; obtain ⟨y18, hy18, hF⟩ := bB' hF
 refine R_step SV rfl (T_ixO (tc := t_api_Outlier) r2.1 rfl rfl rfl hy18 ?_); refine Q_run SV 1 rfl ?_; refine R_step SV rfl (T_ldE (tc := t_api_Outlier) r2.1 rfl rfl (idx_get hy18).2.1 rfl ?_); obtain ⟨y19, hy19, hF⟩ := bB' hF
 refine R_step SV rfl (T_ixT (tc := t_api_Part) y18.fParts rfl rfl hy19 ?_); refine Q_run SV 5 rfl ?_; cases h20 : (decide (y19.fCause = ⟨#[97, 115, 108, 101, 101, 112]⟩))
 · have hF := bF' h20 hF; refine QV rfl ?_; exact join false _ _ hF sw
 have hF := bT' h20 hF; refine Q_run SV 1 rfl ?_; obtain ⟨y21, hy21, hF⟩ := bB' hF
 refine R_step SV rfl (T_ixO (tc := t_api_Outlier) r2.1 rfl rfl rfl hy21 ?_); refine Q_run SV 1 rfl ?_; refine R_step SV rfl (T_ldE (tc := t_api_Outlier) r2.1 rfl rfl (idx_get hy21).2.1 rfl ?_); obtain ⟨y22, hy22, hF⟩ := bB' hF
 refine R_step SV rfl (T_ixT (tc := t_api_Part) y21.fParts rfl rfl hy22 ?_); refine Q_run SV 6 rfl ?_; cases h23 : (decide (y22.fValue.fN = 30))
 · have hF := bF' h23 hF; refine QV rfl ?_; exact join false _ _ hF sw
 have hF := bT' h23 hF; refine Q_run SV 4 rfl ?_; cases h24 : (decide (r4.2 = 0))
 · have hF := bF' h24 hF; refine QV rfl ?_; exact join false _ _ hF sw
 have hF := bT' h24 hF; refine Q_run SV 1 rfl ?_; refine R_step SV rfl (T_len (tc := t_api_Outlier) r4.1 (.own _ _ rfl) ?_); refine Q_run SV 3 rfl ?_; cases h25 : (decide ((List.length r4.1 : Int) = 0))
 · have hF := bF' h25 hF; refine QV rfl ?_; exact join false _ _ hF sw
 have hF := bT' h25 hF; refine Q_run SV 4 rfl ?_; cases h26 : (decide (r6.2 = 0))
 · have hF := bF' h26 hF; refine QV rfl ?_; exact join false _ _ hF sw
 have hF := bT' h26 hF; refine Q_run SV 4 rfl ?_; cases h27 : (decide (r6.1 = 1))
 · have hF := bF' h27 hF; refine QV rfl ?_; exact join false _ _ hF sw
 have hF := bT' h27 hF; refine Q_run SV 4 rfl ?_; cases h28 : (decide (r8.2 = 0))
 · have hF := bF' h28 hF; refine QV rfl ?_; exact join false _ _ hF sw
 have hF := bT' h28 hF; refine Q_run SV 1 rfl ?_; refine R_step SV rfl (T_len (tc := t_api_Outlier) r8.1 (.own _ _ rfl) ?_); refine Q_run SV 3 rfl ?_; cases h29 : (decide ((List.length r8.1 : Int) = 1))
 · have hF := bF' h29 hF; refine QV rfl ?_; exact join false _ _ hF sw
 have hF := bT' h29 hF; refine Q_run SV 1 rfl ?_; obtain ⟨y30, hy30, hF⟩ := bB' hF
 refine R_step SV rfl (T_ixO (tc := t_api_Outlier) r8.1 rfl rfl rfl hy30 ?_); refine Q_run SV 1 rfl ?_; refine R_step SV rfl (T_ldE (tc := t_api_Outlier) r8.1 rfl rfl (idx_get hy30).2.1 rfl ?_); refine QV rfl ?_
 exact join (decide (y30.fSlice = 2)) _ _ hF sw
def tracebookref02_Size (p0 : Int) : Option Int :=
  (bif (decide (p0 < 0)) then some (IntKind.wrap .u64 ((IntKind.wrap .u64 (w64 (0 - (w64 (p0 + 1))))) + 1)) else some (IntKind.wrap .u64 p0))
theorem tracebookref02_Size_fun (p0 : Int) (r : Int) (hF : tracebookref02_Size p0 = some r) : Fun Tryz.prog 47 true [] [cI p0] noHeap (.c (.imm (.sc (.int .u64 r)))) noHeap := by
 refine Fun.of_walk0 Tryz.func47 c47 (by kernel_rfl) (rs := [.tmp 2]) (by kernel_rfl) ?_; unfold v47
 unfold tracebookref02_Size at hF
 refine wA rfl ?_; refine W_seq ?_; refine wA rfl ?_; refine wIf hF rfl (fun _ hF => ?_) fun _ hF => ?_
 · refine wA rfl ?_; cases hF
   exact W_ret wR
 refine W_skip ?_; refine wA rfl ?_; cases hF
 exact W_ret wR
def tracebookref02_plus (p0 : tracebookref02_Wide) (p1 : tracebookref02_Wide) : Option tracebookref02_Wide :=
  (((bif (decide ((IntKind.wrap .u64 (p0.fLo + p1.fLo)) < p0.fLo)) then some (IntKind.wrap .u64 ((IntKind.wrap .u64 (p0.fHi + p1.fHi)) + 1)) else some (IntKind.wrap .u64 (p0.fHi + p1.fHi))) : Option Int).bind fun v1 => some ({ fHi := v1, fLo := (IntKind.wrap .u64 (p0.fLo + p1.fLo)) } : tracebookref02_Wide))
theorem tracebookref02_plus_fun (p0 : tracebookref02_Wide) (p1 : tracebookref02_Wide) (r : tracebookref02_Wide) (hF : tracebookref02_plus p0 p1 = some r) : Fun Tryz.prog 91 true [] [.agg [.imm (.sc (.int .u64 p0.fHi)), .imm (.sc (.int .u64 p0.fLo))], .agg [.imm (.sc (.int .u64 p1.fHi)), .imm (.sc (.int .u64 p1.fLo))]] noHeap (.agg [.imm (.sc (.int .u64 r.fHi)), .imm (.sc (.int .u64 r.fLo))]) noHeap := by
 refine Fun.of_walk0 Tryz.func91 c91 (by kernel_rfl) (rs := [.cell 4 2 true]) (by kernel_rfl) ?_; unfold v91
 unfold tracebookref02_plus at hF
 refine wA rfl ?_; refine wA rfl ?_; refine W_seq ?_; refine wA rfl ?_; refine W_join (fun _ _ h => h) hF (fun v1 => [(4, cP (4,0) 0), (5, cP (5,0) 0)]) (fun v1 => [((4,0), .box [.imm (.sc (.int .u64 0)), .imm (.sc (.int .u64 0))]), ((5,0), .box [.imm (.sc (.int .u64 v1)), .imm (.sc (.int .u64 (IntKind.wrap .u64 (p0.fLo + p1.fLo))))])]) ?_ ?_
 · rintro v1 hF
   refine wA rfl ?_; cases hF
   exact W_ret ⟨_, rfl, rfl, ⟨⟨rfl, fun _ => rfl⟩, ⟨rfl, fun _ => rfl⟩, trivial⟩, noOut _⟩
 intro join hF
 refine wIf' hF rfl (fun _ hF => ?_) fun _ hF => ?_
 · refine wB rfl ?_; exact join (IntKind.wrap .u64 ((IntKind.wrap .u64 (p0.fHi + p1.fHi)) + 1)) _ _ hF sw
 refine W_skip ?_; exact join (IntKind.wrap .u64 (p0.fHi + p1.fHi)) _ _ hF sw
def tracebookref02_bit (p0 : tracebookref02_Wide) (p1 : Int) : Option Int :=
  (bif (decide (64 ≤ p1)) then (bif decide (0 ≤ (IntKind.wrap .u64 (w64 (p1 - 64)))) then some (Int.tmod (shR .u64 p0.fHi (IntKind.wrap .u64 (w64 (p1 - 64)))) 2) else none) else (bif decide (0 ≤ (IntKind.wrap .u64 p1)) then some (Int.tmod (shR .u64 p0.fLo (IntKind.wrap .u64 p1)) 2) else none))
theorem tracebookref02_bit_fun (p0 : tracebookref02_Wide) (p1 : Int) (r : Int) (hF : tracebookref02_bit p0 p1 = some r) : Fun Tryz.prog 127 true [] [.agg [.imm (.sc (.int .u64 p0.fHi)), .imm (.sc (.int .u64 p0.fLo))], cI p1] noHeap (.c (.imm (.sc (.int .u64 r)))) noHeap := by
 refine Fun.of_walk0 Tryz.func127 c127 (by kernel_rfl) (rs := [.tmp 4]) (by kernel_rfl) ?_; unfold v127
 unfold tracebookref02_bit at hF
 refine wA rfl ?_; refine W_seq ?_; refine wA rfl ?_; refine wIf hF rfl (fun _ hF => ?_) fun _ hF => ?_
 · refine wC 5 rfl ?_; obtain ⟨h1, hF⟩ := roomT hF
   refine rS (T_bin (shrV .u64 .u64 p0.fHi (IntKind.wrap .u64 (w64 (p1 - 64))) (of_decide_eq_true h1)) ?_); refine QV rfl ?_; cases hF
   exact W_ret wR
 refine W_skip ?_; refine wC 4 rfl ?_; obtain ⟨h2, hF⟩ := roomT hF
 refine rS (T_bin (shrV .u64 .u64 p0.fLo (IntKind.wrap .u64 p1) (of_decide_eq_true h2)) ?_); refine QV rfl ?_; cases hF
 exact W_ret wR
def tracebookref02_less (p0 : tracebookref02_Wide) (p1 : tracebookref02_Wide) : Option Bool :=
  (((bif (decide (p0.fHi < p1.fHi)) then some true else (bif (decide (p0.fHi = p1.fHi)) then some (decide (p0.fLo < p1.fLo)) else some false)) : Option Bool).bind fun v1 => some v1)
theorem tracebookref02_less_fun (p0 : tracebookref02_Wide) (p1 : tracebookref02_Wide) (r : Bool) (hF : tracebookref02_less p0 p1 = some r) : Fun Tryz.prog 92 true [] [.agg [.imm (.sc (.int .u64 p0.fHi)), .imm (.sc (.int .u64 p0.fLo))], .agg [.imm (.sc (.int .u64 p1.fHi)), .imm (.sc (.int .u64 p1.fLo))]] noHeap (cB r) noHeap := by
 refine Fun.of_walk0 Tryz.func92 c92 (by kernel_rfl) (rs := [.tmp 4]) (by kernel_rfl) ?_; unfold v92
 unfold tracebookref02_less at hF
 refine wA rfl ?_; refine W_seq ?_; refine W_join (fun _ _ h => h) hF (fun v1 => [(4, cB v1)]) (fun v1 => []) ?_ ?_
 · rintro v1 hF
   cases hF
   exact W_ret wR
 intro join hF
 refine wD 6 rfl ?_; cases h2 : (decide (p0.fHi < p1.fHi))
 · have hF := bF' h2 hF; refine Q_run SV 6 rfl ?_; cases h3 : (decide (p0.fHi = p1.fHi))
   · have hF := bF' h3 hF; refine QV rfl ?_; exact join false _ _ hF sw
   have hF := bT' h3 hF; refine QV rfl ?_; exact join (decide (p0.fLo < p1.fLo)) _ _ hF sw
 have hF := bT' h2 hF; refine QV rfl ?_; exact join true _ _ hF sw
def tracebookref02_minus (p0 : tracebookref02_Wide) (p1 : tracebookref02_Wide) : Option tracebookref02_Wide :=
  (((bif (decide (p0.fLo < p1.fLo)) then some (IntKind.wrap .u64 ((IntKind.wrap .u64 (p0.fHi - p1.fHi)) - 1)) else some (IntKind.wrap .u64 (p0.fHi - p1.fHi))) : Option Int).bind fun v1 => some ({ fHi := v1, fLo := (IntKind.wrap .u64 (p0.fLo - p1.fLo)) } : tracebookref02_Wide))
theorem tracebookref02_minus_fun (p0 : tracebookref02_Wide) (p1 : tracebookref02_Wide) (r : tracebookref02_Wide) (hF : tracebookref02_minus p0 p1 = some r) : Fun Tryz.prog 93 true [] [.agg [.imm (.sc (.int .u64 p0.fHi)), .imm (.sc (.int .u64 p0.fLo))], .agg [.imm (.sc (.int .u64 p1.fHi)), .imm (.sc (.int .u64 p1.fLo))]] noHeap (.agg [.imm (.sc (.int .u64 r.fHi)), .imm (.sc (.int .u64 r.fLo))]) noHeap := by
 refine Fun.of_walk0 Tryz.func93 c93 (by kernel_rfl) (rs := [.cell 4 2 true]) (by kernel_rfl) ?_; unfold v93
 unfold tracebookref02_minus at hF
 refine wA rfl ?_; refine wA rfl ?_; refine W_seq ?_; refine wA rfl ?_; refine W_join (fun _ _ h => h) hF (fun v1 => [(4, cP (4,0) 0), (5, cP (5,0) 0)]) (fun v1 => [((4,0), .box [.imm (.sc (.int .u64 0)), .imm (.sc (.int .u64 0))]), ((5,0), .box [.imm (.sc (.int .u64 v1)), .imm (.sc (.int .u64 (IntKind.wrap .u64 (p0.fLo - p1.fLo))))])]) ?_ ?_
 · rintro v1 hF
   refine wA rfl ?_; cases hF
   exact W_ret ⟨_, rfl, rfl, ⟨⟨rfl, fun _ => rfl⟩, ⟨rfl, fun _ => rfl⟩, trivial⟩, noOut _⟩
 intro join hF
 refine wIf' hF rfl (fun _ hF => ?_) fun _ hF => ?_
 · refine wB rfl ?_; exact join (IntKind.wrap .u64 ((IntKind.wrap .u64 (p0.fHi - p1.fHi)) - 1)) _ _ hF sw
 refine W_skip ?_; exact join (IntKind.wrap .u64 (p0.fHi - p1.fHi)) _ _ hF sw
def tracebookref02_divide_L1 (p0 : tracebookref02_Wide) (p1 : tracebookref02_Wide) : (Int × Int × Int × Int × Int) → Option ((Int × Int × Int × Int × Int) ⊕ (Int × Int × Int × Int)) := fun (a40, a41, a42, a43, a44) =>
  (bif (decide (0 ≤ a44)) then ((((tracebookref02_plus ({ fHi := a40, fLo := a41 } : tracebookref02_Wide) ({ fHi := a40, fLo := a41 } : tracebookref02_Wide)).bind fun r65 => ((tracebookref02_plus ({ fHi := a42, fLo := a43 } : tracebookref02_Wide) ({ fHi := a42, fLo := a43 } : tracebookref02_Wide)).bind fun r66 => ((tracebookref02_bit p0 a44).bind fun r67 => ((tracebookref02_plus r66 ({ fHi := 0, fLo := r67 } : tracebookref02_Wide)).bind fun r68 => ((tracebookref02_less r68 p1).bind fun r69 => (bif (!r69) then ((tracebookref02_minus r68 p1).bind fun r70 => some (r65.fHi, (IntKind.wrap .u64 (r65.fLo + 1)), r70.fHi, r70.fLo)) else some (r65.fHi, r65.fLo, r68.fHi, r68.fLo))))))) : Option (Int × Int × Int × Int)).bind fun (v61, v62, v63, v64) => some (.inl (v61, v62, v63, v64, (w64 (a44 - 1))))) else some (.inr (a40, a41, a42, a43)))
def tracebookref02_divide (p0 : tracebookref02_Wide) (p1 : tracebookref02_Wide) : Option (tracebookref02_Wide × tracebookref02_Wide) :=
  ((loop (tracebookref02_divide_L1 p0 p1) (0, 0, 0, 0, 127)).bind fun (e57, e58, e59, e60) => some (({ fHi := e57, fLo := e58 } : tracebookref02_Wide), ({ fHi := e59, fLo := e60 } : tracebookref02_Wide)))
theorem tracebookref02_divide_fun (p0 : tracebookref02_Wide) (p1 : tracebookref02_Wide) (r : (tracebookref02_Wide × tracebookref02_Wide)) (hF : tracebookref02_divide p0 p1 = some r) : Fun Tryz.prog 94 true [] [.agg [.imm (.sc (.int .u64 p0.fHi)), .imm (.sc (.int .u64 p0.fLo))], .agg [.imm (.sc (.int .u64 p1.fHi)), .imm (.sc (.int .u64 p1.fLo))]] noHeap (.tup [.agg [.imm (.sc (.int .u64 r.1.fHi)), .imm (.sc (.int .u64 r.1.fLo))], .agg [.imm (.sc (.int .u64 r.2.fHi)), .imm (.sc (.int .u64 r.2.fLo))]]) noHeap := by
 refine Fun.of_walk0 Tryz.func94 c94 (by kernel_rfl) (rs := [.cell 4 2 true, .cell 5 2 true]) (by kernel_rfl) ?_; unfold v94
 unfold tracebookref02_divide at hF
 refine wA rfl ?_; refine wA rfl ?_; refine W_seq ?_; refine wA rfl ?_; refine W_for (fun _ _ h => h) hF (id) (fun (a40, a41, a42, a43, a44) => [(2, cP (2,0) 0), (3, cP (3,0) 0), (4, cP (4,0) 0), (5, cP (5,0) 0), (6, cP (6,0) 0), (7, cP (7,0) 0), (8, cI a44)]) (fun (a40, a41, a42, a43, a44) => [((2,0), .box [.imm (.sc (.int .u64 p0.fHi)), .imm (.sc (.int .u64 p0.fLo))]), ((3,0), .box [.imm (.sc (.int .u64 p1.fHi)), .imm (.sc (.int .u64 p1.fLo))]), ((4,0), .box [.imm (.sc (.int .u64 0)), .imm (.sc (.int .u64 0))]), ((5,0), .box [.imm (.sc (.int .u64 0)), .imm (.sc (.int .u64 0))]), ((6,0), .box [.imm (.sc (.int .u64 a40)), .imm (.sc (.int .u64 a41))]), ((7,0), .box [.imm (.sc (.int .u64 a42)), .imm (.sc (.int .u64 a43))])]) (fun (e57, e58, e59, e60) => [(4, cP (4,0) 0), (5, cP (5,0) 0), (6, cP (6,0) 0), (7, cP (7,0) 0)]) (fun (e57, e58, e59, e60) => [((4,0), .box [.imm (.sc (.int .u64 0)), .imm (.sc (.int .u64 0))]), ((5,0), .box [.imm (.sc (.int .u64 0)), .imm (.sc (.int .u64 0))]), ((6,0), .box [.imm (.sc (.int .u64 e57)), .imm (.sc (.int .u64 e58))]), ((7,0), .box [.imm (.sc (.int .u64 e59)), .imm (.sc (.int .u64 e60))])]) sw ?_ ?_
 · rintro ⟨e57, e58, e59, e60⟩ hF
   refine W_seq ?_; refine W_regZ [none, (some ([(7,0)], [])), (some ([], [(4,0)])), none] (by decide) rfl (by kernel_rfl) rfl ?_; refine Z_run 1 rfl rfl ?_; refine Z_step trivial rfl (opF_sound rfl ?_); refine Z_step trivial rfl (opF_sound rfl ?_)
   refine ZE rfl rfl ?_; cases hF
   exact W_ret ⟨_, rfl, rfl, ⟨⟨⟨rfl, fun _ => rfl⟩, ⟨rfl, fun _ => rfl⟩, trivial⟩, ⟨⟨rfl, fun _ => rfl⟩, ⟨rfl, fun _ => rfl⟩, trivial⟩, trivial⟩, noOut _⟩
 rintro ⟨a40, a41, a42, a43, a44⟩ x_0 hF cont_0 brk_0 fin_0
 unfold tracebookref02_divide_L1 at hF
 refine W_seq ?_; refine wA rfl ?_; refine wIf hF rfl (fun _ hF => ?_) fun _ hF => ?_
 · refine W_skip ?_; refine W_seq ?_; refine W_join (fun _ _ h => h) hF (fun (v61, v62, v63, v64) => [(2, cP (2,0) 0), (3, cP (3,0) 0), (4, cP (4,0) 0), (5, cP (5,0) 0), (6, cP (6,0) 0), (7, cP (7,0) 0), (8, cI a44)]) (fun (v61, v62, v63, v64) => [((2,0), .box [.imm (.sc (.int .u64 p0.fHi)), .imm (.sc (.int .u64 p0.fLo))]), ((3,0), .box [.imm (.sc (.int .u64 p1.fHi)), .imm (.sc (.int .u64 p1.fLo))]), ((4,0), .box [.imm (.sc (.int .u64 0)), .imm (.sc (.int .u64 0))]), ((5,0), .box [.imm (.sc (.int .u64 0)), .imm (.sc (.int .u64 0))]), ((6,0), .box [.imm (.sc (.int .u64 v61)), .imm (.sc (.int .u64 v62))]), ((7,0), .box [.imm (.sc (.int .u64 v63)), .imm (.sc (.int .u64 v64))])]) ?_ ?_
   · rintro ⟨v61, v62, v63, v64⟩ hF
     refine wB rfl ?_; exact cont_0 _ _ _ (oi hF) sw
   intro join hF
   refine W_block ?_; refine wC 2 rfl ?_; obtain ⟨r65, hr65, hF⟩ := bB' hF
   refine rS (T_call (tracebookref02_plus_fun _ _ _ hr65) ⟨⟨rfl, rfl, trivial⟩, ⟨rfl, rfl, trivial⟩, trivial⟩ rfl (.inl rfl) ?_); refine QV rfl ?_; refine W_seq ?_; refine W_regD (by decide) (by kernel_rfl) rfl ?_
   refine Q_run SP 2 rfl ?_; obtain ⟨r66, hr66, hF⟩ := bB' hF
   refine R_step SP trivial (T_call (tracebookref02_plus_fun _ _ _ hr66) ⟨⟨rfl, rfl, trivial⟩, ⟨rfl, rfl, trivial⟩, trivial⟩ rfl (.inl rfl) ?_); refine Q_run SP 2 rfl ?_; obtain ⟨r67, hr67, hF⟩ := bB' hF
   refine R_step SP trivial (T_call (tracebookref02_bit_fun _ _ _ hr67) ⟨⟨rfl, rfl, trivial⟩, rfl, trivial⟩ rfl (.inl rfl) ?_); refine Q_run SP 1 rfl ?_; obtain ⟨r68, hr68, hF⟩ := bB' hF
   refine R_step SP trivial (T_call (tracebookref02_plus_fun _ _ _ hr68) ⟨⟨rfl, rfl, trivial⟩, ⟨rfl, rfl, trivial⟩, trivial⟩ rfl (.inl rfl) ?_); refine QP rfl ?_; refine wC 2 rfl ?_; obtain ⟨r69, hr69, hF⟩ := bB' hF
   refine rS (T_call (tracebookref02_less_fun _ _ _ hr69) ⟨⟨rfl, rfl, trivial⟩, ⟨rfl, rfl, trivial⟩, trivial⟩ rfl (.inl rfl) ?_); refine QV rfl ?_; refine wIf' hF rfl (fun _ hF => ?_) fun _ hF => ?_
   · refine wC 2 rfl ?_; obtain ⟨r70, hr70, hF⟩ := bB' hF
     refine rS (T_call (tracebookref02_minus_fun _ _ _ hr70) ⟨⟨rfl, rfl, trivial⟩, ⟨rfl, rfl, trivial⟩, trivial⟩ rfl (.inl rfl) ?_); refine QV rfl ?_; refine wB rfl ?_; exact join (r65.fHi, (IntKind.wrap .u64 (r65.fLo + 1)), r70.fHi, r70.fLo) _ _ hF sw
   refine W_skip ?_; exact join (r65.fHi, r65.fLo, r68.fHi, r68.fLo) _ _ hF sw
 refine W_exit ?_; refine thenQ_exit ?_; refine thenQ_exit ?_; refine blockQ_hit ?_; exact brk_0 _ _ _ (oi hF) sw
def tracebookref02_gcd_L1  : (Int × Int × Int × Int) → Option ((Int × Int × Int × Int) ⊕ (Int × Int)) := fun (a17, a18, a19, a20) =>
  (bif ((decide (a19 = 0) && (decide (a20 = 0) && true)) != true) then ((tracebookref02_divide ({ fHi := a17, fLo := a18 } : tracebookref02_Wide) ({ fHi := a19, fLo := a20 } : tracebookref02_Wide)).bind fun r25 => some (.inl (a19, a20, r25.2.fHi, r25.2.fLo))) else some (.inr (a17, a18)))
def tracebookref02_gcd (p0 : tracebookref02_Wide) (p1 : tracebookref02_Wide) : Option tracebookref02_Wide :=
  ((loop (tracebookref02_gcd_L1) (p0.fHi, p0.fLo, p1.fHi, p1.fLo)).bind fun (e23, e24) => some ({ fHi := e23, fLo := e24 } : tracebookref02_Wide))
theorem tracebookref02_gcd_fun (p0 : tracebookref02_Wide) (p1 : tracebookref02_Wide) (r : tracebookref02_Wide) (hF : tracebookref02_gcd p0 p1 = some r) : Fun Tryz.prog 89 true [] [.agg [.imm (.sc (.int .u64 p0.fHi)), .imm (.sc (.int .u64 p0.fLo))], .agg [.imm (.sc (.int .u64 p1.fHi)), .imm (.sc (.int .u64 p1.fLo))]] noHeap (.agg [.imm (.sc (.int .u64 r.fHi)), .imm (.sc (.int .u64 r.fLo))]) noHeap := by
 refine Fun.of_walk0 Tryz.func89 c89 (by kernel_rfl) (rs := [.cell 4 2 true]) (by kernel_rfl) ?_; unfold v89
 unfold tracebookref02_gcd at hF
 refine wA rfl ?_; refine W_seq ?_; refine W_for (fun _ _ h => h) hF (id) (fun (a17, a18, a19, a20) => [(2, cP (2,0) 0), (3, cP (3,0) 0), (4, cP (4,0) 0)]) (fun (a17, a18, a19, a20) => [((2,0), .box [.imm (.sc (.int .u64 a17)), .imm (.sc (.int .u64 a18))]), ((3,0), .box [.imm (.sc (.int .u64 a19)), .imm (.sc (.int .u64 a20))]), ((4,0), .box [.imm (.sc (.int .u64 0)), .imm (.sc (.int .u64 0))])]) (fun (e23, e24) => [(2, cP (2,0) 0), (4, cP (4,0) 0)]) (fun (e23, e24) => [((2,0), .box [.imm (.sc (.int .u64 e23)), .imm (.sc (.int .u64 e24))]), ((4,0), .box [.imm (.sc (.int .u64 0)), .imm (.sc (.int .u64 0))])]) sw ?_ ?_
 · rintro ⟨e23, e24⟩ hF
   refine wA rfl ?_; cases hF
   exact W_ret ⟨_, rfl, rfl, ⟨⟨rfl, fun _ => rfl⟩, ⟨rfl, fun _ => rfl⟩, trivial⟩, noOut _⟩
 rintro ⟨a17, a18, a19, a20⟩ x_0 hF cont_0 brk_0 fin_0
 unfold tracebookref02_gcd_L1 at hF
 refine W_seq ?_; refine wC 2 rfl ?_; refine rS (T_aeq (b := (decide (a19 = 0) && (decide (a20 = 0) && true))) (eqOk_of (n := 2) (sh := [.int .u64, .int .u64]) Tryz.underlying96 (by kernel_rfl) (by kernel_rfl)) rfl rfl rfl rfl ?_)
 refine QV rfl ?_; refine wIf hF rfl (fun _ hF => ?_) fun _ hF => ?_
 · refine W_skip ?_; refine W_block ?_; refine wC 2 rfl ?_; obtain ⟨r25, hr25, hF⟩ := bB hF
   refine rS (T_call (tracebookref02_divide_fun _ _ _ hr25) ⟨⟨rfl, rfl, trivial⟩, ⟨rfl, rfl, trivial⟩, trivial⟩ rfl (.inl rfl) ?_); refine QV rfl ?_; refine wA rfl ?_; refine wB rfl ?_; exact cont_0 _ _ _ (oi hF) sw
 refine W_exit ?_; refine thenQ_exit ?_; refine thenQ_exit ?_; refine blockQ_hit ?_; exact brk_0 _ _ _ (oi hF) sw
def tracebookref02_Valid (p0 : api_Frac) : Option Bool :=
  (((bif (decide (p0.fD < 1)) then some true else (bif (decide (1000000000000000 < p0.fD)) then some true else (bif (decide (p0.fN < (-4611686018427387904))) then some true else some (decide (4611686018427387904 < p0.fN))))) : Option Bool).bind fun v1 => (bif v1 then some false else ((tracebookref02_Size p0.fN).bind fun r2 => ((tracebookref02_Size p0.fD).bind fun r3 => ((tracebookref02_gcd ({ fHi := 0, fLo := r2 } : tracebookref02_Wide) ({ fHi := 0, fLo := r3 } : tracebookref02_Wide)).bind fun r4 => some ((decide (r4.fHi = 0) && (decide (r4.fLo = 1) && true)) != false))))))
theorem tracebookref02_Valid_fun (p0 : api_Frac) (r : Bool) (hF : tracebookref02_Valid p0 = some r) : Fun Tryz.prog 88 true [] [.agg [jI p0.fN, jI p0.fD]] noHeap (cB r) noHeap := by
 refine Fun.of_walk0 Tryz.func88 c88 (by kernel_rfl) (rs := [.tmp 2]) (by kernel_rfl) ?_; unfold v88
 unfold tracebookref02_Valid at hF
 refine wA rfl ?_; refine W_seq ?_; refine W_seq ?_; refine W_join (fun _ _ h => h) hF (fun v1 => [(1, cP (1,0) 0), (20, cB v1)]) (fun v1 => [((1,0), .box [jI p0.fN, jI p0.fD])]) ?_ ?_
 · rintro v1 hF
   refine wIf hF rfl (fun _ hF => ?_) fun _ hF => ?_
   · refine wA rfl ?_; cases hF
     exact W_ret wR
   refine W_skip ?_; refine W_seq ?_; refine W_regD (by decide) (by kernel_rfl) rfl ?_; refine Q_run SP 2 rfl ?_; obtain ⟨r2, hr2, hF⟩ := bB hF
   refine R_step SP trivial (T_call (tracebookref02_Size_fun _ _ hr2) ⟨rfl, trivial⟩ rfl (.inl rfl) ?_); refine Q_run SP 3 rfl ?_; obtain ⟨r3, hr3, hF⟩ := bB hF
   refine R_step SP trivial (T_call (tracebookref02_Size_fun _ _ hr3) ⟨rfl, trivial⟩ rfl (.inl rfl) ?_); refine Q_run SP 1 rfl ?_; obtain ⟨r4, hr4, hF⟩ := bB hF
   refine R_step SP trivial (T_call (tracebookref02_gcd_fun _ _ _ hr4) ⟨⟨rfl, rfl, trivial⟩, ⟨rfl, rfl, trivial⟩, trivial⟩ rfl (.inl rfl) ?_); refine Q_run SP 1 rfl ?_; refine R_step SP trivial (T_aeq (b := (decide (r4.fHi = 0) && (decide (r4.fLo = 1) && true))) (eqOk_of (n := 2) (sh := [.int .u64, .int .u64]) Tryz.underlying96 (by kernel_rfl) (by kernel_rfl)) rfl rfl rfl rfl ?_)
   refine QP rfl ?_; cases hF
   exact W_ret wR
 intro join hF
 refine wD 4 rfl ?_; cases h6 : (decide (p0.fD < 1))
 · have hF := bF' h6 hF; refine Q_run SV 5 rfl ?_; cases h7 : (decide (1000000000000000 < p0.fD))
   · have hF := bF' h7 hF; refine Q_run SV 5 rfl ?_; cases h8 : (decide (p0.fN < (-4611686018427387904)))
     · have hF := bF' h8 hF; refine QV rfl ?_; exact join (decide (4611686018427387904 < p0.fN)) _ _ hF sw
     have hF := bT' h8 hF; refine QV rfl ?_; exact join true _ _ hF sw
   have hF := bT' h7 hF; refine QV rfl ?_; exact join true _ _ hF sw
 have hF := bT' h6 hF; refine QV rfl ?_; exact join true _ _ hF sw
def tracebookref02_Times_L1 (p0 : Int) (p1 : Int) : (Int × Int × Int) → Option ((Int × Int × Int) ⊕ (Int × Int)) := fun (a24, a25, a26) =>
  (bif (decide (0 ≤ a26)) then ((((tracebookref02_plus ({ fHi := a24, fLo := a25 } : tracebookref02_Wide) ({ fHi := a24, fLo := a25 } : tracebookref02_Wide)).bind fun r38 => ((tracebookref02_bit ({ fHi := 0, fLo := p1 } : tracebookref02_Wide) a26).bind fun r39 => (bif (decide (r39 = 1)) then ((tracebookref02_plus r38 ({ fHi := 0, fLo := p0 } : tracebookref02_Wide)).bind fun r40 => some (r40.fHi, r40.fLo)) else some (r38.fHi, r38.fLo)))) : Option (Int × Int)).bind fun (v36, v37) => some (.inl (v36, v37, (w64 (a26 - 1))))) else some (.inr (a24, a25)))
def tracebookref02_Times (p0 : Int) (p1 : Int) : Option tracebookref02_Wide :=
  ((loop (tracebookref02_Times_L1 p0 p1) (0, 0, 63)).bind fun (e34, e35) => some ({ fHi := e34, fLo := e35 } : tracebookref02_Wide))
theorem tracebookref02_Times_fun (p0 : Int) (p1 : Int) (r : tracebookref02_Wide) (hF : tracebookref02_Times p0 p1 = some r) : Fun Tryz.prog 90 true [] [.c (.imm (.sc (.int .u64 p0))), .c (.imm (.sc (.int .u64 p1)))] noHeap (.agg [.imm (.sc (.int .u64 r.fHi)), .imm (.sc (.int .u64 r.fLo))]) noHeap := by
 refine Fun.of_walk0 Tryz.func90 c90 (by kernel_rfl) (rs := [.cell 4 2 true]) (by kernel_rfl) ?_; unfold v90
 unfold tracebookref02_Times at hF
 refine wA rfl ?_; refine wA rfl ?_; refine W_seq ?_; refine wA rfl ?_; refine W_for (fun _ _ h => h) hF (id) (fun (a24, a25, a26) => [(0, .c (.imm (.sc (.int .u64 p0)))), (1, .c (.imm (.sc (.int .u64 p1)))), (4, cP (4,0) 0), (5, cP (5,0) 0), (6, cI a26)]) (fun (a24, a25, a26) => [((4,0), .box [.imm (.sc (.int .u64 0)), .imm (.sc (.int .u64 0))]), ((5,0), .box [.imm (.sc (.int .u64 a24)), .imm (.sc (.int .u64 a25))])]) (fun (e34, e35) => [(4, cP (4,0) 0), (5, cP (5,0) 0)]) (fun (e34, e35) => [((4,0), .box [.imm (.sc (.int .u64 0)), .imm (.sc (.int .u64 0))]), ((5,0), .box [.imm (.sc (.int .u64 e34)), .imm (.sc (.int .u64 e35))])]) sw ?_ ?_
 · rintro ⟨e34, e35⟩ hF
   refine wA rfl ?_; cases hF
   exact W_ret ⟨_, rfl, rfl, ⟨⟨rfl, fun _ => rfl⟩, ⟨rfl, fun _ => rfl⟩, trivial⟩, noOut _⟩
 rintro ⟨a24, a25, a26⟩ x_0 hF cont_0 brk_0 fin_0
 unfold tracebookref02_Times_L1 at hF
 refine W_seq ?_; refine wA rfl ?_; refine wIf hF rfl (fun _ hF => ?_) fun _ hF => ?_
 · refine W_skip ?_; refine W_seq ?_; refine W_join (fun _ _ h => h) hF (fun (v36, v37) => [(0, .c (.imm (.sc (.int .u64 p0)))), (1, .c (.imm (.sc (.int .u64 p1)))), (4, cP (4,0) 0), (5, cP (5,0) 0), (6, cI a26)]) (fun (v36, v37) => [((4,0), .box [.imm (.sc (.int .u64 0)), .imm (.sc (.int .u64 0))]), ((5,0), .box [.imm (.sc (.int .u64 v36)), .imm (.sc (.int .u64 v37))])]) ?_ ?_
   · rintro ⟨v36, v37⟩ hF
     refine wB rfl ?_; exact cont_0 _ _ _ (oi hF) sw
   intro join hF
   refine W_block ?_; refine wC 2 rfl ?_; obtain ⟨r38, hr38, hF⟩ := bB' hF
   refine rS (T_call (tracebookref02_plus_fun _ _ _ hr38) ⟨⟨rfl, rfl, trivial⟩, ⟨rfl, rfl, trivial⟩, trivial⟩ rfl (.inl rfl) ?_); refine QV rfl ?_; refine wC 3 rfl ?_; obtain ⟨r39, hr39, hF⟩ := bB' hF
   refine rS (T_call (tracebookref02_bit_fun _ _ _ hr39) ⟨⟨rfl, rfl, trivial⟩, rfl, trivial⟩ rfl (.inl rfl) ?_); refine QV rfl ?_; refine wIf' hF rfl (fun _ hF => ?_) fun _ hF => ?_
   · refine wD 3 rfl ?_; obtain ⟨r40, hr40, hF⟩ := bB' hF
     refine rS (T_call (tracebookref02_plus_fun _ _ _ hr40) ⟨⟨rfl, rfl, trivial⟩, ⟨rfl, rfl, trivial⟩, trivial⟩ rfl (.inl rfl) ?_); refine QV rfl ?_; exact join (r40.fHi, r40.fLo) _ _ hF sw
   refine W_skip ?_; exact join (r38.fHi, r38.fLo) _ _ hF sw
 refine W_exit ?_; refine thenQ_exit ?_; refine thenQ_exit ?_; refine blockQ_hit ?_; exact brk_0 _ _ _ (oi hF) sw
def tracebookref02_common_L1 (p0 : (List api_Frac)) : (Int × Int) → Option ((Int × Int) ⊕ (Int ⊕ (Int × Bool))) := fun (a39, a40) =>
  (bif (decide (a40 < (List.length p0 : Int))) then ((idx p0 a40).bind fun y58 => ((tracebookref02_Valid y58).bind fun r59 => (bif (!r59) then some (.inr (.inr (0, false))) else ((tracebookref02_Size a39).bind fun r60 => ((idx p0 a40).bind fun y61 => ((tracebookref02_Size y61.fD).bind fun r62 => ((tracebookref02_gcd ({ fHi := 0, fLo := r60 } : tracebookref02_Wide) ({ fHi := 0, fLo := r62 } : tracebookref02_Wide)).bind fun r63 => ((tracebookref02_Size a39).bind fun r64 => (bif decide (r63.fLo ≠ 0) then ((idx p0 a40).bind fun y66 => ((tracebookref02_Size y66.fD).bind fun r67 => ((tracebookref02_Times (IntKind.wrap .u64 (Int.tdiv r64 r63.fLo)) r67).bind fun r68 => (((bif (!decide (r68.fHi = 0)) then some true else some (decide (1000000000000000 < r68.fLo))) : Option Bool).bind fun v69 => (bif v69 then some (.inr (.inr (0, false))) else some (.inl ((w64 r68.fLo), (w64 (a40 + 1))))))))) else none))))))))) else some (.inr (.inl a39)))
def tracebookref02_common (p0 : (List api_Frac)) : Option (Int × Bool) :=
  ((loop (tracebookref02_common_L1 p0) (1, 0)).bind fun | .inl e57 => some (e57, true) | .inr rv => some rv)
theorem tracebookref02_common_fun (p0 : (List api_Frac)) (r : (Int × Bool)) (hF : tracebookref02_common p0 = some r) : Fun Tryz.prog 43 true [] [cL 2 t_api_Frac p0] noHeap (.tup [cI r.1, cB r.2]) noHeap := by
 refine Fun.of_walk0 Tryz.func43 c43 (by kernel_rfl) (rs := [.tmp 2, .tmp 3]) (by kernel_rfl) ?_; unfold v43
 unfold tracebookref02_common at hF
 refine wA rfl ?_; refine wA rfl ?_; refine W_seq ?_; refine wA rfl ?_; refine W_for (fun _ _ h => h) hF (.inl) (fun (a39, a40) => [(0, cL 2 t_api_Frac p0), (4, cI a39), (5, cI a40)]) (fun (a39, a40) => []) (fun e57 => [(4, cI e57)]) (fun e57 => []) sw ?_ ?_
 · rintro e57 hF
   refine wA rfl ?_; cases hF
   exact W_ret ⟨_, rfl, rfl, ⟨⟨rfl, fun _ => rfl⟩, ⟨rfl, fun _ => rfl⟩, trivial⟩, noOut _⟩
 rintro ⟨a39, a40⟩ x_0 hF cont_0 brk_0 fin_0
 unfold tracebookref02_common_L1 at hF
 refine W_seq ?_; refine wC 2 rfl ?_; refine rS (T_len (tc := t_api_Frac) p0 .tree ?_); refine QV rfl ?_; refine wIf hF rfl (fun _ hF => ?_) fun _ hF => ?_
 · refine W_skip ?_; refine W_seq ?_; refine W_block ?_; refine W_seq ?_; refine wC 2 rfl ?_; obtain ⟨y58, hy58, hF⟩ := bB hF
   refine rS (T_ixT (tc := t_api_Frac) p0 rfl rfl hy58 ?_); refine Q_run SV 1 rfl ?_; obtain ⟨r59, hr59, hF⟩ := bB hF
   refine rS (T_call (tracebookref02_Valid_fun _ _ hr59) ⟨⟨rfl, rfl, trivial⟩, trivial⟩ rfl (.inl rfl) ?_); refine QV rfl ?_; refine wIf hF rfl (fun _ hF => ?_) fun _ hF => ?_
   · refine wA rfl ?_; have hF := fin_0 _ (oi hF); cases hF
     exact W_ret ⟨_, rfl, rfl, ⟨⟨rfl, fun _ => rfl⟩, ⟨rfl, fun _ => rfl⟩, trivial⟩, noOut _⟩
   refine W_skip ?_; refine W_seq ?_; refine W_regD (by decide) (by kernel_rfl) rfl ?_; refine Q_run SP 1 rfl ?_; obtain ⟨r60, hr60, hF⟩ := bB hF
   refine R_step SP trivial (T_call (tracebookref02_Size_fun _ _ hr60) ⟨rfl, trivial⟩ rfl (.inl rfl) ?_); refine Q_run SP 3 rfl ?_; obtain ⟨y61, hy61, hF⟩ := bB hF
   refine R_step SP trivial (T_ixT (tc := t_api_Frac) p0 rfl rfl hy61 ?_); refine Q_run SP 2 rfl ?_; obtain ⟨r62, hr62, hF⟩ := bB hF
   refine R_step SP trivial (T_call (tracebookref02_Size_fun _ _ hr62) ⟨rfl, trivial⟩ rfl (.inl rfl) ?_); refine Q_run SP 1 rfl ?_; obtain ⟨r63, hr63, hF⟩ := bB hF
   refine R_step SP trivial (T_call (tracebookref02_gcd_fun _ _ _ hr63) ⟨⟨rfl, rfl, trivial⟩, ⟨rfl, rfl, trivial⟩, trivial⟩ rfl (.inl rfl) ?_); refine QP rfl ?_; refine W_seq ?_; refine W_regD (by decide) (by kernel_rfl) rfl ?_
   refine Q_run SP 1 rfl ?_; obtain ⟨r64, hr64, hF⟩ := bB hF
   refine R_step SP trivial (T_call (tracebookref02_Size_fun _ _ hr64) ⟨rfl, trivial⟩ rfl (.inl rfl) ?_); refine Q_run SP 2 rfl ?_; obtain ⟨h65, hF⟩ := roomT hF
   refine R_step SP trivial (T_bin (quoV .u64 r64 r63.fLo (of_decide_eq_true h65)) ?_); refine Q_run SP 2 rfl ?_; obtain ⟨y66, hy66, hF⟩ := bB hF
   refine R_step SP trivial (T_ixT (tc := t_api_Frac) p0 rfl rfl hy66 ?_); refine Q_run SP 2 rfl ?_; obtain ⟨r67, hr67, hF⟩ := bB hF
   refine R_step SP trivial (T_call (tracebookref02_Size_fun _ _ hr67) ⟨rfl, trivial⟩ rfl (.inl rfl) ?_); obtain ⟨r68, hr68, hF⟩ := bB hF
   refine R_step SP trivial (T_call (tracebookref02_Times_fun _ _ _ hr68) ⟨rfl, rfl, trivial⟩ rfl (.inl rfl) ?_); refine QP rfl ?_; refine W_seq ?_; refine W_seq ?_; refine W_join (fun _ _ h => h) hF (fun v69 => [(0, cL 2 t_api_Frac p0), (5, cI a40), (7, cP (7,0) 0), (50, cB v69)]) (fun v69 => [((7,0), .box [.imm (.sc (.int .u64 r68.fHi)), .imm (.sc (.int .u64 r68.fLo))])]) ?_ ?_
   · rintro v69 hF
     refine wIf hF rfl (fun _ hF => ?_) fun _ hF => ?_
     · refine wA rfl ?_; have hF := fin_0 _ (oi hF); cases hF
       exact W_ret ⟨_, rfl, rfl, ⟨⟨rfl, fun _ => rfl⟩, ⟨rfl, fun _ => rfl⟩, trivial⟩, noOut _⟩
     refine W_skip ?_; refine wB rfl ?_; refine wB rfl ?_; exact cont_0 _ _ _ (oi hF) sw
   intro join hF
   refine wD 4 rfl ?_; cases h71 : (!decide (r68.fHi = 0))
   · have hF := bF' h71 hF; refine QV rfl ?_; exact join (decide (1000000000000000 < r68.fLo)) _ _ hF sw
   have hF := bT' h71 hF; refine QV rfl ?_; exact join true _ _ hF sw
 refine W_exit ?_; refine thenQ_exit ?_; refine thenQ_exit ?_; refine blockQ_hit ?_; exact brk_0 _ _ _ (oi hF) sw
def tracebookref02_scaled (p0 : Int) (p1 : Int) : Option tracebookref02_Signed :=
  ((tracebookref02_Size p0).bind fun r1 => ((tracebookref02_Size p1).bind fun r2 => ((tracebookref02_Times r1 r2).bind fun r3 => some ({ fMinus := (decide (p0 < 0)), fAbs := r3 } : tracebookref02_Signed))))
theorem tracebookref02_scaled_fun (p0 : Int) (p1 : Int) (r : tracebookref02_Signed) (hF : tracebookref02_scaled p0 p1 = some r) : Fun Tryz.prog 45 true [] [cI p0, cI p1] noHeap (.agg [jB r.fMinus, .imm (.sc (.int .u64 r.fAbs.fHi)), .imm (.sc (.int .u64 r.fAbs.fLo))]) noHeap := by
 refine Fun.of_walk0 Tryz.func45 c45 (by kernel_rfl) (rs := [.cell 4 3 true]) (by kernel_rfl) ?_; unfold v45
 unfold tracebookref02_scaled at hF
 refine wA rfl ?_; refine wC 3 rfl ?_; obtain ⟨r1, hr1, hF⟩ := bB hF
 refine rS (T_call (tracebookref02_Size_fun _ _ hr1) ⟨rfl, trivial⟩ rfl (.inl rfl) ?_); refine Q_run SV 1 rfl ?_; obtain ⟨r2, hr2, hF⟩ := bB hF
 refine rS (T_call (tracebookref02_Size_fun _ _ hr2) ⟨rfl, trivial⟩ rfl (.inl rfl) ?_); obtain ⟨r3, hr3, hF⟩ := bB hF
 refine rS (T_call (tracebookref02_Times_fun _ _ _ hr3) ⟨rfl, rfl, trivial⟩ rfl (.inl rfl) ?_); refine QV rfl ?_; cases hF
 exact W_ret ⟨_, rfl, rfl, ⟨⟨rfl, fun _ => rfl⟩, ⟨rfl, fun _ => rfl⟩, ⟨rfl, fun _ => rfl⟩, trivial⟩, noOut _⟩
def tracebookref02_sum (p0 : tracebookref02_Signed) (p1 : tracebookref02_Signed) : Option tracebookref02_Signed :=
  (bif (decide (p0.fMinus = p1.fMinus) != false) then ((tracebookref02_plus p0.fAbs p1.fAbs).bind fun r1 => some ({ fMinus := p0.fMinus, fAbs := r1 } : tracebookref02_Signed)) else ((tracebookref02_less p0.fAbs p1.fAbs).bind fun r2 => (bif r2 then ((tracebookref02_minus p1.fAbs p0.fAbs).bind fun r3 => some ({ fMinus := p1.fMinus, fAbs := r3 } : tracebookref02_Signed)) else ((tracebookref02_minus p0.fAbs p1.fAbs).bind fun r4 => some ({ fMinus := p0.fMinus, fAbs := r4 } : tracebookref02_Signed)))))
theorem tracebookref02_sum_fun (p0 : tracebookref02_Signed) (p1 : tracebookref02_Signed) (r : tracebookref02_Signed) (hF : tracebookref02_sum p0 p1 = some r) : Fun Tryz.prog 44 true [] [.agg [jB p0.fMinus, .imm (.sc (.int .u64 p0.fAbs.fHi)), .imm (.sc (.int .u64 p0.fAbs.fLo))], .agg [jB p1.fMinus, .imm (.sc (.int .u64 p1.fAbs.fHi)), .imm (.sc (.int .u64 p1.fAbs.fLo))]] noHeap (.agg [jB r.fMinus, .imm (.sc (.int .u64 r.fAbs.fHi)), .imm (.sc (.int .u64 r.fAbs.fLo))]) noHeap := by
 refine Fun.of_walk0 Tryz.func44 c44 (by kernel_rfl) (rs := [.cell 4 3 true]) (by kernel_rfl) ?_; unfold v44
 unfold tracebookref02_sum at hF
 refine wA rfl ?_; refine W_seq ?_; refine W_block ?_; refine wA rfl ?_; refine wIf hF rfl (fun _ hF => ?_) fun _ hF => ?_
 · refine W_seq ?_; refine W_regD (by decide) (by kernel_rfl) rfl ?_; refine Q_run SP 6 rfl ?_; obtain ⟨r1, hr1, hF⟩ := bB hF
   refine R_step SP trivial (T_call (tracebookref02_plus_fun _ _ _ hr1) ⟨⟨rfl, rfl, trivial⟩, ⟨rfl, rfl, trivial⟩, trivial⟩ rfl (.inl rfl) ?_); refine QP rfl ?_; cases hF
   exact W_ret ⟨_, rfl, rfl, ⟨⟨rfl, fun _ => rfl⟩, ⟨rfl, fun _ => rfl⟩, ⟨rfl, fun _ => rfl⟩, trivial⟩, noOut _⟩
 refine wC 4 rfl ?_; obtain ⟨r2, hr2, hF⟩ := bB hF
 refine rS (T_call (tracebookref02_less_fun _ _ _ hr2) ⟨⟨rfl, rfl, trivial⟩, ⟨rfl, rfl, trivial⟩, trivial⟩ rfl (.inl rfl) ?_); refine QV rfl ?_; refine wIf hF rfl (fun _ hF => ?_) fun _ hF => ?_
 · refine W_seq ?_; refine W_regD (by decide) (by kernel_rfl) rfl ?_; refine Q_run SP 6 rfl ?_; obtain ⟨r3, hr3, hF⟩ := bB hF
   refine R_step SP trivial (T_call (tracebookref02_minus_fun _ _ _ hr3) ⟨⟨rfl, rfl, trivial⟩, ⟨rfl, rfl, trivial⟩, trivial⟩ rfl (.inl rfl) ?_); refine QP rfl ?_; cases hF
   exact W_ret ⟨_, rfl, rfl, ⟨⟨rfl, fun _ => rfl⟩, ⟨rfl, fun _ => rfl⟩, ⟨rfl, fun _ => rfl⟩, trivial⟩, noOut _⟩
 refine W_skip ?_; refine W_seq ?_; refine W_regD (by decide) (by kernel_rfl) rfl ?_; refine Q_run SP 6 rfl ?_; obtain ⟨r4, hr4, hF⟩ := bB hF
 refine R_step SP trivial (T_call (tracebookref02_minus_fun _ _ _ hr4) ⟨⟨rfl, rfl, trivial⟩, ⟨rfl, rfl, trivial⟩, trivial⟩ rfl (.inl rfl) ?_); refine QP rfl ?_; cases hF
 exact W_ret ⟨_, rfl, rfl, ⟨⟨rfl, fun _ => rfl⟩, ⟨rfl, fun _ => rfl⟩, ⟨rfl, fun _ => rfl⟩, trivial⟩, noOut _⟩
def tracebookref02_made (p0 : tracebookref02_Signed) (p1 : tracebookref02_Wide) : Option (api_Frac × Bool) :=
  ((tracebookref02_gcd p0.fAbs p1).bind fun r1 => ((tracebookref02_divide p0.fAbs r1).bind fun r2 => ((tracebookref02_divide p1 r1).bind fun r3 => (((bif (!decide (r2.1.fHi = 0)) then some true else (bif (decide (4611686018427387904 < r2.1.fLo)) then some true else (bif (!decide (r3.1.fHi = 0)) then some true else some (decide (1000000000000000 < r3.1.fLo))))) : Option Bool).bind fun v4 => (bif v4 then some (({ fN := 0, fD := 0 } : api_Frac), false) else (bif p0.fMinus then some (({ fN := (w64 (0 - (w64 r2.1.fLo))), fD := (w64 r3.1.fLo) } : api_Frac), true) else some (({ fN := (w64 r2.1.fLo), fD := (w64 r3.1.fLo) } : api_Frac), true)))))))
theorem tracebookref02_made_fun (p0 : tracebookref02_Signed) (p1 : tracebookref02_Wide) (r : (api_Frac × Bool)) (hF : tracebookref02_made p0 p1 = some r) : Fun Tryz.prog 46 true [] [.agg [jB p0.fMinus, .imm (.sc (.int .u64 p0.fAbs.fHi)), .imm (.sc (.int .u64 p0.fAbs.fLo))], .agg [.imm (.sc (.int .u64 p1.fHi)), .imm (.sc (.int .u64 p1.fLo))]] noHeap (.tup [.agg [jI r.1.fN, jI r.1.fD], cB r.2]) noHeap := by
 refine Fun.of_walk0 Tryz.func46 c46 (by kernel_rfl) (rs := [.cell 4 2 true, .tmp 5]) (by kernel_rfl) ?_; unfold v46
 unfold tracebookref02_made at hF
 refine wA rfl ?_; refine wC 3 rfl ?_; obtain ⟨r1, hr1, hF⟩ := bB hF
 refine rS (T_call (tracebookref02_gcd_fun _ _ _ hr1) ⟨⟨rfl, rfl, trivial⟩, ⟨rfl, rfl, trivial⟩, trivial⟩ rfl (.inl rfl) ?_); refine QV rfl ?_; refine wC 3 rfl ?_; obtain ⟨r2, hr2, hF⟩ := bB hF
 refine rS (T_call (tracebookref02_divide_fun _ _ _ hr2) ⟨⟨rfl, rfl, trivial⟩, ⟨rfl, rfl, trivial⟩, trivial⟩ rfl (.inl rfl) ?_); refine QV rfl ?_; refine wC 2 rfl ?_; obtain ⟨r3, hr3, hF⟩ := bB hF
 refine rS (T_call (tracebookref02_divide_fun _ _ _ hr3) ⟨⟨rfl, rfl, trivial⟩, ⟨rfl, rfl, trivial⟩, trivial⟩ rfl (.inl rfl) ?_); refine QV rfl ?_; refine W_seq ?_; refine W_seq ?_; refine W_join (fun _ _ h => h) hF (fun v4 => [(2, cP (2,0) 0), (4, cP (4,0) 0), (7, cP (7,0) 0), (9, cP (9,0) 0), (45, cB v4)]) (fun v4 => [((2,0), .box [jB p0.fMinus, .imm (.sc (.int .u64 p0.fAbs.fHi)), .imm (.sc (.int .u64 p0.fAbs.fLo))]), ((4,0), .box [jI 0, jI 0]), ((7,0), .box [.imm (.sc (.int .u64 r2.1.fHi)), .imm (.sc (.int .u64 r2.1.fLo))]), ((9,0), .box [.imm (.sc (.int .u64 r3.1.fHi)), .imm (.sc (.int .u64 r3.1.fLo))])]) ?_ ?_
 · rintro v4 hF
   refine wIf hF rfl (fun _ hF => ?_) fun _ hF => ?_
   · refine wA rfl ?_; cases hF
     exact W_ret ⟨_, rfl, rfl, ⟨⟨⟨rfl, fun _ => rfl⟩, ⟨rfl, fun _ => rfl⟩, trivial⟩, ⟨rfl, fun _ => rfl⟩, trivial⟩, noOut _⟩
   refine W_skip ?_; refine W_seq ?_; refine wA rfl ?_; refine wIf hF rfl (fun _ hF => ?_) fun _ hF => ?_
   · refine wA rfl ?_; cases hF
     exact W_ret ⟨_, rfl, rfl, ⟨⟨⟨rfl, fun _ => rfl⟩, ⟨rfl, fun _ => rfl⟩, trivial⟩, ⟨rfl, fun _ => rfl⟩, trivial⟩, noOut _⟩
   refine W_skip ?_; refine wA rfl ?_; cases hF
   exact W_ret ⟨_, rfl, rfl, ⟨⟨⟨rfl, fun _ => rfl⟩, ⟨rfl, fun _ => rfl⟩, trivial⟩, ⟨rfl, fun _ => rfl⟩, trivial⟩, noOut _⟩
 intro join hF
 refine wD 4 rfl ?_; cases h7 : (!decide (r2.1.fHi = 0))
 · have hF := bF' h7 hF; refine Q_run SV 5 rfl ?_; cases h8 : (decide (4611686018427387904 < r2.1.fLo))
   · have hF := bF' h8 hF; refine Q_run SV 5 rfl ?_; cases h9 : (!decide (r3.1.fHi = 0))
     · have hF := bF' h9 hF; refine QV rfl ?_; exact join (decide (1000000000000000 < r3.1.fLo)) _ _ hF sw
     have hF := bT' h9 hF; refine QV rfl ?_; exact join true _ _ hF sw
   have hF := bT' h8 hF; refine QV rfl ?_; exact join true _ _ hF sw
 have hF := bT' h7 hF; refine QV rfl ?_; exact join true _ _ hF sw
def tracebookref02_Sum_L1 (p0 : (List api_Frac)) (r1 : (Int × Bool)) : (Bool × Int × Int × Int) → Option ((Bool × Int × Int × Int) ⊕ (Bool × Int × Int)) := fun (a26, a27, a28, a29) =>
  (bif (decide (a29 < (List.length p0 : Int))) then ((idx p0 a29).bind fun y41 => ((idx p0 a29).bind fun y42 => (bif decide (y42.fD ≠ 0) then ((tracebookref02_scaled y41.fN (w64 (Int.tdiv r1.1 y42.fD))).bind fun r44 => ((tracebookref02_sum ({ fMinus := a26, fAbs := ({ fHi := a27, fLo := a28 } : tracebookref02_Wide) } : tracebookref02_Signed) r44).bind fun r45 => some (.inl (r45.fMinus, r45.fAbs.fHi, r45.fAbs.fLo, (w64 (a29 + 1)))))) else none))) else some (.inr (a26, a27, a28)))
def tracebookref02_Sum (p0 : (List api_Frac)) : Option (api_Frac × Bool) :=
  (bif (decide (20000 < (List.length p0 : Int))) then some (({ fN := 0, fD := 0 } : api_Frac), false) else ((tracebookref02_common p0).bind fun r1 => (bif (!r1.2) then some (({ fN := 0, fD := 0 } : api_Frac), false) else ((loop (tracebookref02_Sum_L1 p0 r1) (false, 0, 0, 0)).bind fun (e36, e37, e38) => ((tracebookref02_Size r1.1).bind fun r39 => ((tracebookref02_made ({ fMinus := e36, fAbs := ({ fHi := e37, fLo := e38 } : tracebookref02_Wide) } : tracebookref02_Signed) ({ fHi := 0, fLo := r39 } : tracebookref02_Wide)).bind fun r40 => some (r40.1, r40.2)))))))
theorem tracebookref02_Sum_fun (p0 : (List api_Frac)) (r : (api_Frac × Bool)) (hF : tracebookref02_Sum p0 = some r) : Fun Tryz.prog 31 true [] [cL 2 t_api_Frac p0] noHeap (.tup [.agg [jI r.1.fN, jI r.1.fD], cB r.2]) noHeap := by
 refine Fun.of_walk0 Tryz.func31 c31 (by kernel_rfl) (rs := [.cell 2 2 true, .tmp 3]) (by kernel_rfl) ?_; unfold v31
 unfold tracebookref02_Sum at hF
 refine wA rfl ?_; refine W_seq ?_; refine wC 1 rfl ?_; refine rS (T_len (tc := t_api_Frac) p0 .tree ?_); refine QV rfl ?_; refine wIf hF rfl (fun _ hF => ?_) fun _ hF => ?_
 · refine wA rfl ?_; cases hF
   exact W_ret ⟨_, rfl, rfl, ⟨⟨⟨rfl, fun _ => rfl⟩, ⟨rfl, fun _ => rfl⟩, trivial⟩, ⟨rfl, fun _ => rfl⟩, trivial⟩, noOut _⟩
 refine W_skip ?_; refine wC 1 rfl ?_; obtain ⟨r1, hr1, hF⟩ := bB hF
 refine rS (T_call (tracebookref02_common_fun _ _ hr1) ⟨rfl, trivial⟩ rfl (.inl rfl) ?_); refine QV rfl ?_; refine W_seq ?_; refine wA rfl ?_; refine wIf hF rfl (fun _ hF => ?_) fun _ hF => ?_
 · refine wA rfl ?_; cases hF
   exact W_ret ⟨_, rfl, rfl, ⟨⟨⟨rfl, fun _ => rfl⟩, ⟨rfl, fun _ => rfl⟩, trivial⟩, ⟨rfl, fun _ => rfl⟩, trivial⟩, noOut _⟩
 refine W_skip ?_; refine wA rfl ?_; refine W_seq ?_; refine wA rfl ?_; refine W_for (fun _ _ h => h) hF (id) (fun (a26, a27, a28, a29) => [(0, cL 2 t_api_Frac p0), (2, cP (2,0) 0), (4, cI r1.1), (6, cP (6,0) 0), (7, cI a29)]) (fun (a26, a27, a28, a29) => [((2,0), .box [jI 0, jI 0]), ((6,0), .box [jB a26, .imm (.sc (.int .u64 a27)), .imm (.sc (.int .u64 a28))])]) (fun (e36, e37, e38) => [(2, cP (2,0) 0), (4, cI r1.1), (6, cP (6,0) 0)]) (fun (e36, e37, e38) => [((2,0), .box [jI 0, jI 0]), ((6,0), .box [jB e36, .imm (.sc (.int .u64 e37)), .imm (.sc (.int .u64 e38))])]) sw ?_ ?_
 · rintro ⟨e36, e37, e38⟩ hF
   refine W_seq ?_; refine W_regD (by decide) (by kernel_rfl) rfl ?_; refine Q_run SP 2 rfl ?_; obtain ⟨r39, hr39, hF⟩ := bB hF
   refine R_step SP trivial (T_call (tracebookref02_Size_fun _ _ hr39) ⟨rfl, trivial⟩ rfl (.inl rfl) ?_); refine Q_run SP 1 rfl ?_; obtain ⟨r40, hr40, hF⟩ := bB hF
   refine R_step SP trivial (T_call (tracebookref02_made_fun _ _ _ hr40) ⟨⟨rfl, rfl, rfl, trivial⟩, ⟨rfl, rfl, trivial⟩, trivial⟩ rfl (.inl rfl) ?_); refine QP rfl ?_; cases hF
   exact W_ret ⟨_, rfl, rfl, ⟨⟨⟨rfl, fun _ => rfl⟩, ⟨rfl, fun _ => rfl⟩, trivial⟩, ⟨rfl, fun _ => rfl⟩, trivial⟩, noOut _⟩
 rintro ⟨a26, a27, a28, a29⟩ x_0 hF cont_0 brk_0 fin_0
 unfold tracebookref02_Sum_L1 at hF
 refine W_seq ?_; refine wC 2 rfl ?_; refine rS (T_len (tc := t_api_Frac) p0 .tree ?_); refine QV rfl ?_; refine wIf hF rfl (fun _ hF => ?_) fun _ hF => ?_
 · refine W_skip ?_; refine W_seq ?_; refine W_block ?_; refine W_regD (by decide) (by kernel_rfl) rfl ?_; refine Q_run SP 3 rfl ?_; obtain ⟨y41, hy41, hF⟩ := bB hF
   refine R_step SP trivial (T_ixT (tc := t_api_Frac) p0 rfl rfl hy41 ?_); refine Q_run SP 5 rfl ?_; obtain ⟨y42, hy42, hF⟩ := bB hF
   refine R_step SP trivial (T_ixT (tc := t_api_Frac) p0 rfl rfl hy42 ?_); refine Q_run SP 2 rfl ?_; obtain ⟨h43, hF⟩ := roomT hF
   refine R_step SP trivial (T_bin (quoV .i64 r1.1 y42.fD (of_decide_eq_true h43)) ?_); obtain ⟨r44, hr44, hF⟩ := bB hF
   refine R_step SP trivial (T_call (tracebookref02_scaled_fun _ _ _ hr44) ⟨rfl, rfl, trivial⟩ rfl (.inl rfl) ?_); obtain ⟨r45, hr45, hF⟩ := bB hF
   refine R_step SP trivial (T_call (tracebookref02_sum_fun _ _ _ hr45) ⟨⟨rfl, rfl, rfl, trivial⟩, ⟨rfl, rfl, rfl, trivial⟩, trivial⟩ rfl (.inl rfl) ?_); refine QP rfl ?_; refine wB rfl ?_; exact cont_0 _ _ _ (oi hF) sw
 refine W_exit ?_; refine thenQ_exit ?_; refine thenQ_exit ?_; refine blockQ_hit ?_; exact brk_0 _ _ _ (oi hF) sw
def tracebookref53_Sum_L1 (p0 : (List api_Part)) : ((List api_Frac) × Int) → Option (((List api_Frac) × Int) ⊕ (List api_Frac)) := fun (a13, a14) =>
  (bif (decide (a14 < (List.length p0 : Int))) then ((idx p0 a14).bind fun y20 => (bif room 16 (List.length a13 + List.length [y20.fValue]) then some (.inl ((a13 ++ [y20.fValue]), (w64 (a14 + 1)))) else none)) else some (.inr a13))
def tracebookref53_Sum (p0 : (List api_Part)) : Option (api_Frac × Bool) :=
  ((loop (tracebookref53_Sum_L1 p0) ([], 0)).bind fun e18 => ((tracebookref02_Sum e18).bind fun r19 => some (r19.1, r19.2)))
theorem tracebookref53_Sum_fun (p0 : (List api_Part)) (r : (api_Frac × Bool)) (hF : tracebookref53_Sum p0 = some r) : Fun Tryz.prog 17 true [] [cL 4 t_api_Part p0] noHeap (.tup [.agg [jI r.1.fN, jI r.1.fD], cB r.2]) noHeap := by
 refine Fun.of_walk0 Tryz.func17 c17 (by kernel_rfl) (rs := [.cell 2 2 true, .tmp 3]) (by kernel_rfl) ?_; unfold v17
 unfold tracebookref53_Sum at hF
 refine wA rfl ?_; refine wA rfl ?_; refine W_seq ?_; refine wA rfl ?_; refine W_for (fun _ _ h => h) hF (id) (fun (a13, a14) => [(0, cL 4 t_api_Part p0), (2, cP (2,0) 0), (4, cO (19,1)), (5, cI a14)]) (fun (a13, a14) => [((2,0), .box [jI 0, jI 0]), ((19,1), .arr 55 2 (List.map t_api_Frac a13))]) (fun e18 => [(2, cP (2,0) 0), (4, cO (19,1))]) (fun e18 => [((2,0), .box [jI 0, jI 0]), ((19,1), .arr 55 2 (List.map t_api_Frac e18))]) (S_own 4 (19,1) 55 2 rfl rfl rfl rfl sw) ?_ ?_
 · rintro e18 hF
   refine wC 1 rfl ?_; obtain ⟨r19, hr19, hF⟩ := bB hF
   refine rS (T_call (tracebookref02_Sum_fun _ _ hr19) ⟨⟨_, rfl⟩, trivial⟩ rfl (.inl rfl) ?_); refine QV rfl ?_; cases hF
   exact W_ret ⟨_, rfl, rfl, ⟨⟨⟨rfl, fun _ => rfl⟩, ⟨rfl, fun _ => rfl⟩, trivial⟩, ⟨rfl, fun _ => rfl⟩, trivial⟩, noOut _⟩
 rintro ⟨a13, a14⟩ x_0 hF cont_0 brk_0 fin_0
 unfold tracebookref53_Sum_L1 at hF
 refine W_seq ?_; refine wC 2 rfl ?_; refine rS (T_len (tc := t_api_Part) p0 .tree ?_); refine QV rfl ?_; refine wIf hF rfl (fun _ hF => ?_) fun _ hF => ?_
 · refine W_skip ?_; refine W_seq ?_; refine W_block ?_; refine wD 3 rfl ?_; obtain ⟨y20, hy20, hF⟩ := bB hF
   refine rS (T_ixT (tc := t_api_Part) p0 rfl rfl hy20 ?_); refine Q_run SV 2 rfl ?_; refine rS (T_bsl (tc := t_api_Frac) [y20.fValue] rfl ⟨rfl, rfl, trivial⟩ rfl (fun _ => rfl) rfl ?_)
   obtain ⟨h21, hF⟩ := roomT hF
   refine rS (T_appO (tc := t_api_Frac) a13 [y20.fValue] rfl rfl (.own _ _ rfl) h21 rfl ?_); refine QV rfl ?_; refine wB rfl ?_; exact cont_0 _ _ _ (oi hF) (S_ren (19,0) (19,1) rfl rfl sw)
 refine W_exit ?_; refine thenQ_exit ?_; refine thenQ_exit ?_; refine blockQ_hit ?_; exact brk_0 _ _ _ (oi hF) sw
def anomaly_Times (p0 : api_Trace) (p1 : Int) : Option ((List Int) × Int) :=
  ((trace_Check p0).bind fun r1 => (bif (!decide (r1 = 0)) then some ([], r1) else (((bif (decide (p1 < 0)) then some true else some (decide ((List.length p0.fSlices : Int) ≤ p1))) : Option Bool).bind fun v2 => (bif v2 then some ([], 5) else ((idx p0.fSlices p1).bind fun y3 => ((anomaly_times_k2 p0 y3).bind fun r4 => some (r4, 0)))))))
theorem anomaly_Times_fun (p0 : api_Trace) (p1 : Int) (r : ((List Int) × Int)) (hF : anomaly_Times p0 p1 = some r) : Fun Tryz.prog 13 false [] [.agg (m_api_Trace p0), cI p1] noHeap (.tup [cL 1 t_i64 r.1, cI r.2]) noHeap := by
 refine Fun.of_walk0 Tryz.func13 c13 (by kernel_rfl) (rs := [.tmp 4, .tmp 5]) (by kernel_rfl) ?_; unfold v13
 unfold anomaly_Times at hF
 refine wA rfl ?_; refine W_seq ?_; refine wC 1 rfl ?_; obtain ⟨r1, hr1, hF⟩ := bB hF
 refine rS (T_call (trace_Check_fun _ _ hr1) ⟨⟨rfl, rfl, rfl, rfl, rfl, rfl, rfl, rfl, rfl, rfl, trivial⟩, trivial⟩ rfl (.inl rfl) ?_); refine QV rfl ?_; refine wA rfl ?_; refine wIf hF rfl (fun _ hF => ?_) fun _ hF => ?_
 · refine wA rfl ?_; cases hF
   exact W_ret ⟨_, rfl, rfl, ⟨rfl, ⟨rfl, fun _ => rfl⟩, trivial⟩, noOut _⟩
 refine W_skip ?_; refine W_seq ?_; refine W_seq ?_; refine W_join (fun _ _ h => h) hF (fun v2 => [(1, cI p1), (2, cP (2,0) 0), (20, cB v2)]) (fun v2 => [((2,0), .box (m_api_Trace p0))]) ?_ ?_
 · rintro v2 hF
   refine wIf hF rfl (fun _ hF => ?_) fun _ hF => ?_
   · refine wA rfl ?_; cases hF
     exact W_ret ⟨_, rfl, rfl, ⟨rfl, ⟨rfl, fun _ => rfl⟩, trivial⟩, noOut _⟩
   refine W_skip ?_; refine W_seq ?_; refine W_regD (by decide) (by kernel_rfl) rfl ?_; refine Q_run SP 4 rfl ?_; obtain ⟨y3, hy3, hF⟩ := bB hF
   refine R_step SP trivial (T_ixT (tc := t_api_Slice) p0.fSlices rfl rfl hy3 ?_); refine Q_run SP 1 rfl ?_; obtain ⟨r4, hr4, hF⟩ := bB hF
   refine R_step SP trivial (T_call (anomaly_times_k2_fun _ _ _ hr4) ⟨⟨rfl, rfl, rfl, rfl, rfl, rfl, rfl, rfl, rfl, rfl, trivial⟩, ⟨rfl, rfl, rfl, rfl, rfl, rfl, rfl, rfl, trivial⟩, trivial⟩ rfl (.inl rfl) ?_)
   refine QP rfl ?_; cases hF
   exact W_ret ⟨_, rfl, rfl, ⟨⟨rfl, fun h => (by cases h)⟩, ⟨rfl, fun _ => rfl⟩, trivial⟩, noOut _⟩
 intro join hF
 refine wD 3 rfl ?_; cases h6 : (decide (p1 < 0))
 · have hF := bF' h6 hF; refine Q_run SV 3 rfl ?_; refine R_step SV rfl (T_len (tc := t_api_Slice) p0.fSlices .tree ?_); refine QV rfl ?_; exact join (decide ((List.length p0.fSlices : Int) ≤ p1)) _ _ hF sw
 have hF := bT' h6 hF; refine QV rfl ?_; exact join true _ _ hF sw
def tracebooklaw54_AnomalyExact_L1 (r116 : ((List Int) × Int)) : (Int × Int) → Option ((Int × Int) ⊕ Int) := fun (a127, a128) =>
  (bif (decide (a128 < (List.length r116.1 : Int))) then ((idx r116.1 a128).bind fun y136 => some (.inl ((w64 (a127 + y136)), (w64 (a128 + 1))))) else some (.inr a127))
def tracebooklaw54_AnomalyExact_L2 (p0 : api_Trace) : Int → Option (Int ⊕ (Unit ⊕ Bool)) := fun a89 =>
  (bif (decide (a89 < (List.length p0.fSlices : Int))) then ((idx p0.fSlices a89).bind fun y115 => ((anomaly_Times p0 a89).bind fun r116 => ((loop (tracebooklaw54_AnomalyExact_L1 r116) (0, 0)).bind fun e131 => (((bif (!decide (r116.2 = 0)) then some true else (bif (!decide ((List.length r116.1 : Int) = 6)) then some true else some (!decide (e131 = (w64 (y115.fSpan.fTo - y115.fSpan.fFrom)))))) : Option Bool).bind fun v132 => (bif v132 then some (.inr (.inr false)) else some (.inl (w64 (a89 + 1)))))))) else some (.inr (.inl ())))
def tracebooklaw54_AnomalyExact_L3 (p0 : api_Trace) (r3 : ((List api_Outlier) × Int)) : Int → Option (Int ⊕ (Unit ⊕ Bool)) := fun a28 =>
  (bif (decide (a28 < (List.length r3.1 : Int))) then ((idx r3.1 a28).bind fun y139 => ((tracebookref53_Sum y139.fParts).bind fun r140 => (((bif (!r140.2) then some true else (bif (decide (y139.fExcess ≤ 0)) then some true else (bif ((decide (r140.1.fN = y139.fExcess) && (decide (r140.1.fD = 1) && true)) != true) then some true else (bif (decide (y139.fSlice < 0)) then some true else some (decide ((List.length p0.fSlices : Int) ≤ y139.fSlice)))))) : Option Bool).bind fun v141 => (bif v141 then some (.inr (.inr false)) else some (.inl (w64 (a28 + 1))))))) else some (.inr (.inl ())))
def tracebooklaw54_AnomalyExact (p0 : api_Trace) (p1 : Int) (p2 : Int) : Option Bool :=
  ((tracebooklaw54_few p0).bind fun r1 => (bif (!r1) then ((tracebooklaw54_awake ).bind fun r2 => some r2) else ((anomaly_Of p0 p1 p2).bind fun r3 => (bif (!decide (r3.2 = 0)) then (((bif (decide ((List.length r3.1 : Int) = 0)) then ((tracebooklaw54_awake ).bind fun r6 => some r6) else some false) : Option Bool).bind fun v4 => some v4) else ((loop (tracebooklaw54_AnomalyExact_L3 p0 r3) 0).bind fun | .inl _ => ((loop (tracebooklaw54_AnomalyExact_L2 p0) 0).bind fun | .inl _ => ((tracebooklaw54_awake ).bind fun r114 => some r114) | .inr rv => some rv) | .inr rv => some rv)))))
theorem tracebooklaw54_AnomalyExact_fun (p0 : api_Trace) (p1 : Int) (p2 : Int) (r : Bool) (hF : tracebooklaw54_AnomalyExact p0 p1 p2 = some r) : Fun Tryz.prog 7 true [] [.agg (m_api_Trace p0), cI p1, cI p2] noHeap (cB r) noHeap := by
 refine Fun.of_walk0 Tryz.func7 c7 (by kernel_rfl) (rs := [.tmp 6]) (by kernel_rfl) ?_; unfold v7
 unfold tracebooklaw54_AnomalyExact at hF
 refine wA rfl ?_; refine W_seq ?_; refine wC 1 rfl ?_; obtain ⟨r1, hr1, hF⟩ := bB hF
 refine rS (T_call (tracebooklaw54_few_fun _ _ hr1) ⟨⟨rfl, rfl, rfl, rfl, rfl, rfl, rfl, rfl, rfl, rfl, trivial⟩, trivial⟩ rfl (.inl rfl) ?_); refine QV rfl ?_; refine wIf hF rfl (fun _ hF => ?_) fun _ hF => ?_
 · refine wE ?_; obtain ⟨r2, hr2, hF⟩ := bB hF
   refine rS (T_call (tracebooklaw54_awake_fun _ hr2) trivial rfl (.inl rfl) ?_); refine QV rfl ?_; cases hF
   exact W_ret wR
 refine W_skip ?_; refine wC 3 rfl ?_; obtain ⟨r3, hr3, hF⟩ := bB hF
 refine R_stepX trivial (X_callG [((902,400),(28,1))] rfl (callN _) (anomaly_Of_fun _ _ _ _ hr3) trivial ⟨.inr ⟨rfl, rfl, rfl, rfl, rfl, rfl, rfl, rfl, rfl, rfl, trivial⟩, .inl rfl, .inl rfl, trivial⟩ rfl rfl rfl ?_)
 refine QV rfl ?_; refine W_seq ?_; refine wA rfl ?_; refine wIf hF rfl (fun _ hF => ?_) fun _ hF => ?_
 · refine W_seq ?_; refine W_join (fun _ _ h => h) hF (fun v4 => [(6, cB v4)]) (fun v4 => []) ?_ ?_
   · rintro v4 hF
     cases hF
     exact W_ret wR
   intro join hF
   refine wD 1 rfl ?_; refine rS (T_len (tc := t_api_Outlier) r3.1 (.own _ _ rfl) ?_); refine Q_run SV 2 rfl ?_; cases h5 : (decide ((List.length r3.1 : Int) = 0))
   · have hF := bF' h5 hF; refine QV rfl ?_; exact join false _ _ hF sw
   have hF := bT' h5 hF; obtain ⟨r6, hr6, hF⟩ := bB' hF
   refine R_step SV rfl (T_call (tracebooklaw54_awake_fun _ hr6) trivial rfl (.inl rfl) ?_); refine QV rfl ?_; exact join r6 _ _ hF sw
 refine W_skip ?_; refine W_seq ?_; refine wC 1 rfl ?_; refine rS (T_len (tc := t_api_Outlier) r3.1 (.own _ _ rfl) ?_); refine QV rfl ?_; refine W_for (fun _ _ h => h) hF (.inl) (fun a28 => [(3, cP (3,0) 0), (39, cO (28,1)), (40, cI (List.length r3.1 : Int)), (41, cI a28)]) (fun a28 => [((3,0), .box (m_api_Trace p0)), ((28,1), .arr 42 3 (List.map t_api_Outlier r3.1))]) (fun _ => [(3, cP (3,0) 0)]) (fun _ => [((3,0), .box (m_api_Trace p0))]) sw ?_ ?_
 · rintro ⟨⟩ hF
   refine W_seq ?_; refine wC 2 rfl ?_; refine rS (T_len (tc := t_api_Slice) p0.fSlices .tree ?_); refine QV rfl ?_; refine W_for (fun _ _ h => h) hF (.inl) (fun a89 => [(3, cP (3,0) 0), (80, cL 8 t_api_Slice p0.fSlices), (81, cI (List.length p0.fSlices : Int)), (82, cI a89)]) (fun a89 => [((3,0), .box (m_api_Trace p0))]) (fun _ => []) (fun _ => []) sw ?_ ?_
   · rintro ⟨⟩ hF
     refine wE ?_; obtain ⟨r114, hr114, hF⟩ := bB hF
     refine rS (T_call (tracebooklaw54_awake_fun _ hr114) trivial rfl (.inl rfl) ?_); refine QV rfl ?_; cases hF
     exact W_ret wR
   rintro a89 x_0 hF cont_0 brk_0 fin_0
   unfold tracebooklaw54_AnomalyExact_L2 at hF
   refine wA rfl ?_; refine W_seq ?_; refine wIf hF rfl (fun _ hF => ?_) fun _ hF => ?_
   · refine W_skip ?_; refine W_seq ?_; refine W_block ?_; refine wC 1 rfl ?_; obtain ⟨y115, hy115, hF⟩ := bB hF
     refine rS (T_ixT (tc := t_api_Slice) p0.fSlices rfl rfl hy115 ?_); refine QV rfl ?_; refine wC 2 rfl ?_; obtain ⟨r116, hr116, hF⟩ := bB hF
     refine rS (T_call (anomaly_Times_fun _ _ _ hr116) ⟨⟨rfl, rfl, rfl, rfl, rfl, rfl, rfl, rfl, rfl, rfl, trivial⟩, rfl, trivial⟩ rfl (.inr (.inr ⟨⟨rfl, rfl, rfl, rfl, rfl, rfl, rfl, rfl, rfl, rfl, trivial⟩, rfl, trivial⟩)) ?_)
     refine QV rfl ?_; refine wA rfl ?_; refine W_seq ?_; refine wC 1 rfl ?_; refine rS (T_len (tc := t_i64) r116.1 .tree ?_); refine QV rfl ?_; refine W_for (fun _ _ h => h) hF (id) (fun (a127, a128) => [(3, cP (3,0) 0), (14, cP (14,0) 0), (15, cL 1 t_i64 r116.1), (16, cI r116.2), (17, cI a127), (80, cL 8 t_api_Slice p0.fSlices), (81, cI (List.length p0.fSlices : Int)), (82, cI a89), (93, cL 1 t_i64 r116.1), (94, cI (List.length r116.1 : Int)), (95, cI a128)]) (fun (a127, a128) => [((3,0), .box (m_api_Trace p0)), ((14,0), .box (m_api_Slice y115))]) (fun e131 => [(3, cP (3,0) 0), (14, cP (14,0) 0), (15, cL 1 t_i64 r116.1), (16, cI r116.2), (17, cI e131), (80, cL 8 t_api_Slice p0.fSlices), (81, cI (List.length p0.fSlices : Int)), (82, cI a89)]) (fun e131 => [((3,0), .box (m_api_Trace p0)), ((14,0), .box (m_api_Slice y115))]) sw ?_ ?_
     · rintro e131 hF
       refine W_seq ?_; refine W_join (fun _ _ h => h) hF (fun v132 => [(3, cP (3,0) 0), (80, cL 8 t_api_Slice p0.fSlices), (81, cI (List.length p0.fSlices : Int)), (82, cI a89), (120, cB v132)]) (fun v132 => [((3,0), .box (m_api_Trace p0))]) ?_ ?_
       · rintro v132 hF
         refine wIf hF rfl (fun _ hF => ?_) fun _ hF => ?_
         · refine wA rfl ?_; have hF := fin_0 _ (oi hF); cases hF
           exact W_ret wR
         refine W_skip ?_; refine wB rfl ?_; exact cont_0 _ _ _ (oi hF) sw
       intro join hF
       refine wD 3 rfl ?_; cases h134 : (!decide (r116.2 = 0))
       · have hF := bF' h134 hF; refine Q_run SV 1 rfl ?_; refine R_step SV rfl (T_len (tc := t_i64) r116.1 .tree ?_); refine Q_run SV 3 rfl ?_; cases h135 : (!decide ((List.length r116.1 : Int) = 6))
         · have hF := bF' h135 hF; refine QV rfl ?_; exact join (!decide (e131 = (w64 (y115.fSpan.fTo - y115.fSpan.fFrom)))) _ _ hF sw
         have hF := bT' h135 hF; refine QV rfl ?_; exact join true _ _ hF sw
       have hF := bT' h134 hF; refine QV rfl ?_; exact join true _ _ hF sw
     rintro ⟨a127, a128⟩ x_1 hF cont_1 brk_1 fin_1
     unfold tracebooklaw54_AnomalyExact_L1 at hF
     refine wA rfl ?_; refine W_seq ?_; refine wIf hF rfl (fun _ hF => ?_) fun _ hF => ?_
     · refine W_skip ?_; refine W_seq ?_; refine W_block ?_; refine wE ?_; obtain ⟨y136, hy136, hF⟩ := bB hF
       refine rS (T_ixT (tc := t_i64) r116.1 rfl rfl hy136 ?_); refine QV rfl ?_; refine wB rfl ?_; refine wB rfl ?_; exact cont_1 _ _ _ (oi hF) sw
     refine W_exit ?_; refine thenQ_exit ?_; refine thenQ_exit ?_; refine blockQ_hit ?_; exact brk_1 _ _ _ (oi hF) sw
   refine W_exit ?_; refine thenQ_exit ?_; refine thenQ_exit ?_; refine blockQ_hit ?_; exact brk_0 _ _ _ (oi hF) sw
 rintro a28 x_0 hF cont_0 brk_0 fin_0
 unfold tracebooklaw54_AnomalyExact_L3 at hF
 refine wA rfl ?_; refine W_seq ?_; refine wIf hF rfl (fun _ hF => ?_) fun _ hF => ?_
 · refine W_skip ?_; refine W_seq ?_; refine W_block ?_; refine wE ?_; obtain ⟨y139, hy139, hF⟩ := bB hF
   refine rS (T_ixO (tc := t_api_Outlier) r3.1 rfl rfl rfl hy139 ?_); refine rS (T_ldE (tc := t_api_Outlier) r3.1 rfl rfl (idx_get hy139).2.1 rfl ?_); refine QV rfl ?_; refine wC 2 rfl ?_; obtain ⟨r140, hr140, hF⟩ := bB hF
   refine rS (T_call (tracebookref53_Sum_fun _ _ hr140) ⟨rfl, trivial⟩ rfl (.inl rfl) ?_); refine QV rfl ?_; refine W_seq ?_; refine W_join (fun _ _ h => h) hF (fun v141 => [(3, cP (3,0) 0), (39, cO (28,1)), (40, cI (List.length r3.1 : Int)), (41, cI a28), (77, cB v141)]) (fun v141 => [((3,0), .box (m_api_Trace p0)), ((28,1), .arr 42 3 (List.map t_api_Outlier r3.1))]) ?_ ?_
   · rintro v141 hF
     refine wIf hF rfl (fun _ hF => ?_) fun _ hF => ?_
     · refine wA rfl ?_; have hF := fin_0 _ (oi hF); cases hF
       exact W_ret wR
     refine W_skip ?_; refine wB rfl ?_; exact cont_0 _ _ _ (oi hF) sw
   intro join hF
   refine wD 3 rfl ?_; cases h143 : (!r140.2)
   · have hF := bF' h143 hF; refine Q_run SV 5 rfl ?_; cases h144 : (decide (y139.fExcess ≤ 0))
     · have hF := bF' h144 hF; refine Q_run SV 4 rfl ?_; refine R_step SV rfl (T_aeq (b := (decide (r140.1.fN = y139.fExcess) && (decide (r140.1.fD = 1) && true))) (eqOk_of (n := 2) (sh := [.int .i64, .int .i64]) Tryz.underlying54 (by kernel_rfl) (by kernel_rfl)) rfl rfl rfl rfl ?_)
       refine Q_run SV 2 rfl ?_; cases h145 : ((decide (r140.1.fN = y139.fExcess) && (decide (r140.1.fD = 1) && true)) != true)
       · have hF := bF' h145 hF; refine Q_run SV 5 rfl ?_; cases h146 : (decide (y139.fSlice < 0))
         · have hF := bF' h146 hF; refine Q_run SV 4 rfl ?_; refine R_step SV rfl (T_len (tc := t_api_Slice) p0.fSlices .tree ?_); refine QV rfl ?_; exact join (decide ((List.length p0.fSlices : Int) ≤ y139.fSlice)) _ _ hF sw
         have hF := bT' h146 hF; refine QV rfl ?_; exact join true _ _ hF sw
       have hF := bT' h145 hF; refine QV rfl ?_; exact join true _ _ hF sw
     have hF := bT' h144 hF; refine QV rfl ?_; exact join true _ _ hF sw
   have hF := bT' h143 hF; refine QV rfl ?_; exact join true _ _ hF sw
 refine W_exit ?_; refine thenQ_exit ?_; refine thenQ_exit ?_; refine blockQ_hit ?_; exact brk_0 _ _ _ (oi hF) sw
end Go.VM
