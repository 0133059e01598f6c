/- What the functions of the law compute, each with its proof. -/
import Derived.Test.YtdpnoiebfagmfaaL481
import Derived.Test.YtdpnoiebfagmfaaRows
import Derived.KernelRfl
import Derived.Lib.Bytealg
import Derived.Laws.Externs
import Derived.WalkKit
namespace Go.VM
open Go.Proofs Go.Proofs.Ytdpnoiebfagmfaa
open Go.RowKit
set_option maxRecDepth 100000 in
set_option maxHeartbeats 4000000 in
theorem state_Check_fun (p0 : (List api_Thread)) (p1 : (List api_State)) (r : Int) (hF : state_Check p0 p1 = some r) : Fun Try.prog 31 true [] [.c (.imm (.sl 3 (List.map t_api_Thread p0))), .c (.imm (.sl 7 (List.map t_api_State p1)))] noHeap (.c (.imm (tI r))) noHeap := by
  refine Fun.of_walk0 Try.func31 c31 (by kernel_rfl) (rs := [.tmp 4]) (by kernel_rfl) ?_
  unfold v31
  unfold state_Check at hF
  refine W_seq ?_
  refine W_regV (by decide) ?_
  refine QV rfl ?_
  refine W_seq ?_
  refine W_regV (by decide) ?_
  refine Q_run SV 1 rfl ?_
  obtain ⟨r1, hr1, hF⟩ := bB hF
  refine R_stepX trivial (X_callG [((902,2560),(15,1))] rfl (callN _) (state_distinct_fun _ _ hr1) trivial ⟨.inl rfl, trivial⟩ rfl rfl rfl ?_)
  refine QV rfl ?_
  refine W_seq ?_
  refine W_regV (by decide) ?_
  refine QV rfl ?_
  refine W_seq ?_
  refine W_seq ?_
  refine W_regV (by decide) ?_
  refine Q_run SV 1 rfl ?_
  refine R_step SV trivial (T_len (tc := t_api_State) p1 .tree ?_)
  refine QV rfl ?_
  refine W_for (fun _ _ h => h) hF (.inl) (fun (a46, a47) => [(1, .c (.imm (.sl 7 (List.map t_api_State p1)))), (5, .c (.slO (15,1))), (6, .c (.imm (tI a46))), (16, .c (.imm (.sl 7 (List.map t_api_State p1)))), (17, .c (.imm (tI (List.length p1 : Int)))), (18, .c (.imm (tI a47)))]) (fun (a46, a47) => [((15,1), .arr 3 1 (List.map t_i64 r1))]) (fun e67 => [(1, .c (.imm (.sl 7 (List.map t_api_State p1)))), (5, .c (.slO (15,1))), (6, .c (.imm (tI e67)))]) (fun e67 => [((15,1), .arr 3 1 (List.map t_i64 r1))]) (S_weak ⟨rfl, rfl, rfl, rfl, rfl, rfl, trivial⟩ ⟨rfl, trivial⟩) ?_ ?_
  · rintro e67 hF
    refine W_seq ?_
    refine W_seq ?_
    refine W_regV (by decide) ?_
    refine Q_run SV 1 rfl ?_
    refine R_step SV trivial (T_len (tc := t_api_State) p1 .tree ?_)
    refine QV rfl ?_
    refine W_condL (t := (decide ((List.length p1 : Int) = 0))) rfl (fun h106 => ?_) (fun h106 => ?_)
    · have hF := bT h106 hF
      refine W_seq ?_
      refine W_regV (by decide) ?_
      refine QV rfl ?_
      refine W_ret ?_
      cases hF
      exact ⟨_, rfl, rfl, ⟨rfl, fun _ => rfl⟩, noOut _⟩
    · have hF := bF h106 hF
      refine W_skip ?_
      refine W_seq ?_
      refine W_regV (by decide) ?_
      refine Q_run SV 2 rfl ?_
      refine R_step SV trivial (T_len (tc := t_api_State) p1 .tree ?_)
      refine Q_run SV 1 rfl ?_
      obtain ⟨y68, hy68, hF⟩ := bB hF
      refine R_step SV trivial (T_ixT (tc := t_api_State) p1 rfl rfl hy68 ?_)
      refine QV rfl ?_
      refine W_seq ?_
      refine W_seq ?_
      refine W_regV (by decide) ?_
      refine Q_run SV 1 rfl ?_
      refine R_step SV trivial (T_len (tc := t_api_State) p1 .tree ?_)
      refine QV rfl ?_
      refine W_for (fun _ _ h => h) hF (.inl) (fun a88 => [(1, .c (.imm (.sl 7 (List.map t_api_State p1)))), (5, .c (.slO (15,1))), (6, .c (.imm (tI e67))), (10, .c (.imm (tI y68.fSpan.fTo))), (94, .c (.imm (.sl 7 (List.map t_api_State p1)))), (95, .c (.imm (tI (List.length p1 : Int)))), (96, .c (.imm (tI a88)))]) (fun a88 => [((15,1), .arr 3 1 (List.map t_i64 r1))]) (fun _ => [(5, .c (.slO (15,1))), (6, .c (.imm (tI e67)))]) (fun _ => [((15,1), .arr 3 1 (List.map t_i64 r1))]) (S_weak ⟨rfl, rfl, rfl, rfl, rfl, rfl, rfl, trivial⟩ ⟨rfl, trivial⟩) ?_ ?_
      · rintro ⟨⟩ hF
        refine W_seq ?_
        refine W_seq ?_
        refine W_regV (by decide) ?_
        refine Q_run SV 3 rfl ?_
        refine R_step SV trivial (T_len (tc := t_i64) r1 (.own _ _ rfl) ?_)
        refine QV rfl ?_
        refine W_condL (t := (!decide ((w64 (e67 + 1)) = (List.length r1 : Int)))) rfl (fun h97 => ?_) (fun h97 => ?_)
        · have hF := bT h97 hF
          refine W_seq ?_
          refine W_regV (by decide) ?_
          refine QV rfl ?_
          refine W_ret ?_
          cases hF
          exact ⟨_, rfl, rfl, ⟨rfl, fun _ => rfl⟩, noOut _⟩
        · have hF := bF h97 hF
          refine W_skip ?_
          refine W_seq ?_
          refine W_regV (by decide) ?_
          refine QV rfl ?_
          refine W_ret ?_
          cases hF
          exact ⟨_, rfl, rfl, ⟨rfl, fun _ => rfl⟩, noOut _⟩
      · rintro a88 x_0 hF cont_0 brk_0 fin_0
        unfold state_Check_L1 at hF
        refine W_seq ?_
        refine W_regV (by decide) ?_
        refine QV rfl ?_
        refine W_seq ?_
        refine W_condL (t := (decide (a88 < (List.length p1 : Int)))) rfl (fun h105 => ?_) (fun h105 => ?_)
        · have hF := bT h105 hF
          refine W_skip ?_
          refine W_seq ?_
          refine W_block ?_
          refine W_seq ?_
          refine W_regV (by decide) ?_
          refine Q_run SV 1 rfl ?_
          obtain ⟨y98, hy98, hF⟩ := bB hF
          refine R_step SV trivial (T_ixT (tc := t_api_State) p1 rfl rfl hy98 ?_)
          refine QV rfl ?_
          refine W_seq ?_
          refine W_join (fun _ _ h => h) hF (fun v99 => [(1, .c (.imm (.sl 7 (List.map t_api_State p1)))), (5, .c (.slO (15,1))), (6, .c (.imm (tI e67))), (10, .c (.imm (tI y68.fSpan.fTo))), (12, .c (.ptrO (12,0) 0)), (13, .c (.imm (.sc (.bool v99)))), (94, .c (.imm (.sl 7 (List.map t_api_State p1)))), (95, .c (.imm (tI (List.length p1 : Int)))), (96, .c (.imm (tI a88)))]) (fun v99 => [((15,1), .arr 3 1 (List.map t_i64 r1)), ((12,0), .box [.imm (tI y98.fThread), .imm (tI y98.fState), .imm (tI y98.fSpan.fFrom), .imm (tI y98.fSpan.fTo), .imm (tI y98.fCpu), .imm (tI y98.fOn), .imm (tI y98.fBy)])]) ?_ ?_
          · rintro v99 hF
            refine W_seq ?_
            refine W_join (fun _ _ h => h) hF (fun v100 => [(1, .c (.imm (.sl 7 (List.map t_api_State p1)))), (5, .c (.slO (15,1))), (6, .c (.imm (tI e67))), (10, .c (.imm (tI y68.fSpan.fTo))), (94, .c (.imm (.sl 7 (List.map t_api_State p1)))), (95, .c (.imm (tI (List.length p1 : Int)))), (96, .c (.imm (tI a88))), (124, .c (.imm (.sc (.bool v100))))]) (fun v100 => [((15,1), .arr 3 1 (List.map t_i64 r1))]) ?_ ?_
            · rintro v100 hF
              refine W_condL (t := v100) rfl (fun h101 => ?_) (fun h101 => ?_)
              · have hF := bT h101 hF
                refine W_seq ?_
                refine W_regV (by decide) ?_
                refine QV rfl ?_
                have hF := fin_0 _ (Option.some.inj hF).symm
                refine W_ret ?_
                cases hF
                exact ⟨_, rfl, rfl, ⟨rfl, fun _ => rfl⟩, noOut _⟩
              · have hF := bF h101 hF
                refine W_skip ?_
                refine W_regV (by decide) ?_
                refine QV rfl ?_
                exact cont_0 _ _ _ (Option.some.inj hF).symm (S_weak ⟨rfl, rfl, rfl, rfl, rfl, rfl, rfl, trivial⟩ ⟨rfl, trivial⟩)
            · intro join hF
              refine W_regV (by decide) ?_
              refine Q_run SV 2 rfl ?_
              cases h102 : v99
              · have hF := bF' h102 hF
                refine QV rfl ?_
                exact join false _ _ hF (S_weak ⟨rfl, rfl, rfl, rfl, rfl, rfl, rfl, rfl, trivial⟩ ⟨rfl, trivial⟩)
              · have hF := bT' h102 hF
                refine QV rfl ?_
                exact join (!decide (y98.fSpan.fTo = y68.fSpan.fTo)) _ _ hF (S_weak ⟨rfl, rfl, rfl, rfl, rfl, rfl, rfl, rfl, trivial⟩ ⟨rfl, trivial⟩)
          · intro join hF
            refine W_regD (by decide) (by kernel_rfl) rfl ?_
            refine Q_run SP 3 rfl ?_
            refine R_step SP trivial (T_len (tc := t_api_State) p1 .tree ?_)
            refine Q_run SP 2 rfl ?_
            cases h103 : (decide ((w64 (a88 + 1)) = (List.length p1 : Int)))
            · have hF := bF' h103 hF
              refine Q_run SP 3 rfl ?_
              obtain ⟨y104, hy104, hF⟩ := bB' hF
              refine R_step SP rfl (T_ixT (tc := t_api_State) p1 rfl rfl hy104 ?_)
              refine QP rfl ?_
              exact join (!decide (y104.fThread = y98.fThread)) _ _ hF (S_weak ⟨rfl, rfl, rfl, rfl, rfl, rfl, rfl, rfl, rfl, trivial⟩ ⟨rfl, rfl, trivial⟩)
            · have hF := bT' h103 hF
              refine QP rfl ?_
              exact join true _ _ hF (S_weak ⟨rfl, rfl, rfl, rfl, rfl, rfl, rfl, rfl, rfl, trivial⟩ ⟨rfl, rfl, trivial⟩)
        · have hF := bF h105 hF
          refine W_exit ?_
          refine thenQ_exit ?_
          refine thenQ_exit ?_
          refine blockQ_hit ?_
          exact brk_0 _ _ _ (Option.some.inj hF).symm (S_weak ⟨rfl, rfl, trivial⟩ ⟨rfl, trivial⟩)
  · rintro ⟨a46, a47⟩ x_0 hF cont_0 brk_0 fin_0
    unfold state_Check_L2 at hF
    refine W_seq ?_
    refine W_regV (by decide) ?_
    refine QV rfl ?_
    refine W_seq ?_
    refine W_condL (t := (decide (a47 < (List.length p1 : Int)))) rfl (fun h125 => ?_) (fun h125 => ?_)
    · have hF := bT h125 hF
      refine W_skip ?_
      refine W_seq ?_
      refine W_block ?_
      refine W_seq ?_
      refine W_regV (by decide) ?_
      refine Q_run SV 1 rfl ?_
      obtain ⟨y107, hy107, hF⟩ := bB hF
      refine R_step SV trivial (T_ixT (tc := t_api_State) p1 rfl rfl hy107 ?_)
      refine QV rfl ?_
      refine W_seq ?_
      refine W_regV (by decide) ?_
      refine Q_run SV 3 rfl ?_
      obtain ⟨r108, hr108, hF⟩ := bB hF
      refine R_step SV trivial (T_call (slices_Index_int_int_fun _ _ _ hr108) ⟨⟨_, rfl⟩, rfl, trivial⟩ rfl (.inl rfl) ?_)
      refine QV rfl ?_
      refine W_seq ?_
      refine W_block ?_
      refine W_seq ?_
      refine W_regV (by decide) ?_
      refine QV rfl ?_
      refine W_condL (t := (decide (r108 < 0))) rfl (fun h124 => ?_) (fun h124 => ?_)
      · have hF := bT h124 hF
        refine W_seq ?_
        refine W_regV (by decide) ?_
        refine QV rfl ?_
        have hF := fin_0 _ (Option.some.inj hF).symm
        refine W_ret ?_
        cases hF
        exact ⟨_, rfl, rfl, ⟨rfl, fun _ => rfl⟩, noOut _⟩
      · have hF := bF h124 hF
        refine W_seq ?_
        refine W_regV (by decide) ?_
        refine Q_run SV 2 rfl ?_
        obtain ⟨r109, hr109, hF⟩ := bB hF
        refine R_step SV trivial (T_call (spans_Valid_fun _ _ hr109) ⟨⟨rfl, rfl, trivial⟩, trivial⟩ rfl (.inl rfl) ?_)
        refine QV rfl ?_
        refine W_condL (t := (!r109)) rfl (fun h123 => ?_) (fun h123 => ?_)
        · have hF := bT h123 hF
          refine W_seq ?_
          refine W_regV (by decide) ?_
          refine QV rfl ?_
          have hF := fin_0 _ (Option.some.inj hF).symm
          refine W_ret ?_
          cases hF
          exact ⟨_, rfl, rfl, ⟨rfl, fun _ => rfl⟩, noOut _⟩
        · have hF := bF h123 hF
          refine W_seq ?_
          refine W_regV (by decide) ?_
          refine Q_run SV 1 rfl ?_
          obtain ⟨r110, hr110, hF⟩ := bB hF
          refine R_step SV trivial (T_call (state_fields_fun _ _ hr110) ⟨⟨rfl, rfl, rfl, rfl, rfl, rfl, rfl, trivial⟩, trivial⟩ rfl (.inl rfl) ?_)
          refine QV rfl ?_
          refine W_condL (t := (!r110)) rfl (fun h122 => ?_) (fun h122 => ?_)
          · have hF := bT h122 hF
            refine W_seq ?_
            refine W_regV (by decide) ?_
            refine QV rfl ?_
            have hF := fin_0 _ (Option.some.inj hF).symm
            refine W_ret ?_
            cases hF
            exact ⟨_, rfl, rfl, ⟨rfl, fun _ => rfl⟩, noOut _⟩
          · have hF := bF h122 hF
            refine W_seq ?_
            refine W_join (fun _ _ h => h) hF (fun v111 => [(1, .c (.imm (.sl 7 (List.map t_api_State p1)))), (5, .c (.slO (15,1))), (6, .c (.imm (tI a46))), (8, .c (.ptrO (8,0) 0)), (9, .c (.imm (tI r108))), (16, .c (.imm (.sl 7 (List.map t_api_State p1)))), (17, .c (.imm (tI (List.length p1 : Int)))), (18, .c (.imm (tI a47))), (39, .c (.imm (.sc (.bool v111))))]) (fun v111 => [((15,1), .arr 3 1 (List.map t_i64 r1)), ((8,0), .box [.imm (tI y107.fThread), .imm (tI y107.fState), .imm (tI y107.fSpan.fFrom), .imm (tI y107.fSpan.fTo), .imm (tI y107.fCpu), .imm (tI y107.fOn), .imm (tI y107.fBy)])]) ?_ ?_
            · rintro v111 hF
              refine W_condL (t := v111) rfl (fun h116 => ?_) (fun h116 => ?_)
              · have hF := bT h116 hF
                refine W_seq ?_
                refine W_regV (by decide) ?_
                refine QV rfl ?_
                have hF := fin_0 _ (Option.some.inj hF).symm
                refine W_ret ?_
                cases hF
                exact ⟨_, rfl, rfl, ⟨rfl, fun _ => rfl⟩, noOut _⟩
              · have hF := bF h116 hF
                refine W_seq ?_
                refine W_join (fun _ _ h => h) hF (fun v112 => [(1, .c (.imm (.sl 7 (List.map t_api_State p1)))), (5, .c (.slO (15,1))), (9, .c (.imm (tI r108))), (16, .c (.imm (.sl 7 (List.map t_api_State p1)))), (17, .c (.imm (tI (List.length p1 : Int)))), (18, .c (.imm (tI a47))), (65, .c (.imm (.sc (.bool v112))))]) (fun v112 => [((15,1), .arr 3 1 (List.map t_i64 r1))]) ?_ ?_
                · rintro v112 hF
                  refine W_condL (t := v112) rfl (fun h113 => ?_) (fun h113 => ?_)
                  · have hF := bT h113 hF
                    refine W_seq ?_
                    refine W_regV (by decide) ?_
                    refine QV rfl ?_
                    have hF := fin_0 _ (Option.some.inj hF).symm
                    refine W_ret ?_
                    cases hF
                    exact ⟨_, rfl, rfl, ⟨rfl, fun _ => rfl⟩, noOut _⟩
                  · have hF := bF h113 hF
                    refine W_skip ?_
                    refine W_regV (by decide) ?_
                    refine QV rfl ?_
                    refine W_regV (by decide) ?_
                    refine QV rfl ?_
                    exact cont_0 _ _ _ (Option.some.inj hF).symm (S_weak ⟨rfl, rfl, rfl, rfl, rfl, rfl, trivial⟩ ⟨rfl, trivial⟩)
                · intro join hF
                  refine W_regV (by decide) ?_
                  refine Q_run SV 4 rfl ?_
                  cases h114 : (!decide (r108 = a46))
                  · have hF := bF' h114 hF
                    refine QV rfl ?_
                    exact join false _ _ hF (S_weak ⟨rfl, rfl, rfl, rfl, rfl, rfl, rfl, trivial⟩ ⟨rfl, trivial⟩)
                  · have hF := bT' h114 hF
                    refine Q_run SV 5 rfl ?_
                    cases h115 : (!decide (r108 = (w64 (a46 + 1))))
                    · have hF := bF' h115 hF
                      refine QV rfl ?_
                      exact join (!decide (y107.fSpan.fFrom = 0)) _ _ hF (S_weak ⟨rfl, rfl, rfl, rfl, rfl, rfl, rfl, trivial⟩ ⟨rfl, trivial⟩)
                    · have hF := bT' h115 hF
                      refine QV rfl ?_
                      exact join true _ _ hF (S_weak ⟨rfl, rfl, rfl, rfl, rfl, rfl, rfl, trivial⟩ ⟨rfl, trivial⟩)
            · intro join hF
              refine W_regD (by decide) (by kernel_rfl) rfl ?_
              refine Q_run SP 4 rfl ?_
              cases h117 : (decide (r108 = a46))
              · have hF := bF' h117 hF
                refine QP rfl ?_
                exact join false _ _ hF (S_weak ⟨rfl, rfl, rfl, rfl, rfl, rfl, rfl, rfl, rfl, trivial⟩ ⟨rfl, rfl, trivial⟩)
              · have hF := bT' h117 hF
                refine Q_run SP 6 rfl ?_
                obtain ⟨y118, hy118, hF⟩ := bB' hF
                refine R_step SP rfl (T_ixT (tc := t_api_State) p1 rfl rfl hy118 ?_)
                refine Q_run SP 5 rfl ?_
                cases h119 : (!decide (y107.fSpan.fFrom = y118.fSpan.fTo))
                · have hF := bF' h119 hF
                  refine Q_run SP 4 rfl ?_
                  obtain ⟨y120, hy120, hF⟩ := bB' hF
                  refine R_step SP rfl (T_ixT (tc := t_api_State) p1 rfl rfl hy120 ?_)
                  refine Q_run SP 1 rfl ?_
                  obtain ⟨r121, hr121, hF⟩ := bB' hF
                  refine R_step SP rfl (T_call (state_same_fun _ _ _ hr121) ⟨⟨rfl, rfl, rfl, rfl, rfl, rfl, rfl, trivial⟩, ⟨rfl, rfl, rfl, rfl, rfl, rfl, rfl, trivial⟩, trivial⟩ rfl (.inl rfl) ?_)
                  refine QP rfl ?_
                  exact join r121 _ _ hF (S_weak ⟨rfl, rfl, rfl, rfl, rfl, rfl, rfl, rfl, rfl, trivial⟩ ⟨rfl, rfl, trivial⟩)
                · have hF := bT' h119 hF
                  refine QP rfl ?_
                  exact join true _ _ hF (S_weak ⟨rfl, rfl, rfl, rfl, rfl, rfl, rfl, rfl, rfl, trivial⟩ ⟨rfl, rfl, trivial⟩)
    · have hF := bF h125 hF
      refine W_exit ?_
      refine thenQ_exit ?_
      refine thenQ_exit ?_
      refine blockQ_hit ?_
      exact brk_0 _ _ _ (Option.some.inj hF).symm (S_weak ⟨rfl, rfl, rfl, trivial⟩ ⟨rfl, trivial⟩)
def flow_bad (p0 : Int) (p1 : Int) : Option Bool :=
  (((bif (decide (p0 < 0)) then some true else some (decide (p1 < p0))) : Option Bool).bind fun v1 => some v1)
set_option maxRecDepth 100000 in
set_option maxHeartbeats 4000000 in
theorem flow_bad_fun (p0 : Int) (p1 : Int) (r : Bool) (hF : flow_bad p0 p1 = some r) : Fun Try.prog 68 true [] [.c (.imm (tI p0)), .c (.imm (tI p1))] noHeap (.c (.imm (.sc (.bool r)))) noHeap := by
  refine Fun.of_walk0 Try.func68 c68 (by kernel_rfl) (rs := [.tmp 4]) (by kernel_rfl) ?_
  unfold v68
  unfold flow_bad at hF
  refine W_seq ?_
  refine W_regV (by decide) ?_
  refine QV rfl ?_
  refine W_seq ?_
  refine W_join (fun _ _ h => h) hF (fun v1 => [(4, .c (.imm (.sc (.bool v1))))]) (fun v1 => []) ?_ ?_
  · rintro v1 hF
    refine W_ret ?_
    cases hF
    exact ⟨_, rfl, rfl, ⟨rfl, fun _ => rfl⟩, noOut _⟩
  · intro join hF
    refine W_regV (by decide) ?_
    refine Q_run SV 3 rfl ?_
    cases h2 : (decide (p0 < 0))
    · have hF := bF' h2 hF
      refine QV rfl ?_
      exact join (decide (p1 < p0)) _ _ hF (S_weak ⟨rfl, trivial⟩ trivial)
    · have hF := bT' h2 hF
      refine QV rfl ?_
      exact join true _ _ hF (S_weak ⟨rfl, trivial⟩ trivial)
def flow_Check_L1 (p0 : (List api_Flow)) : Int → Option (Int ⊕ (Unit ⊕ Int)) := fun a48 =>
  (bif (decide (a48 < (List.length p0 : Int))) then ((idx p0 a48).bind fun y71 => ((flow_bad y71.fId 1000000000000000).bind fun r72 => (((bif r72 then some r72 else ((flow_bad y71.fFrom.fThread 1000000000000000).bind fun r80 => (bif r80 then some r80 else ((flow_bad y71.fFrom.fSerial 1000000000000000).bind fun r81 => (bif r81 then some r81 else ((flow_bad y71.fTo.fThread 1000000000000000).bind fun r82 => (bif r82 then some r82 else ((flow_bad y71.fTo.fSerial 1000000000000000).bind fun r83 => (bif r83 then some r83 else ((flow_bad y71.fSend 1000000000000).bind fun r84 => (bif r84 then some r84 else ((flow_bad y71.fRecv 1000000000000).bind fun r85 => some r85)))))))))))) : Option Bool).bind fun v73 => (bif v73 then some (.inr (.inr 2)) else (((bif (decide (y71.fRecv < y71.fSend)) then some (decide (y71.fRecv < y71.fSend)) else (bif (decide (0 < a48)) then ((idx p0 (w64 (a48 - 1))).bind fun y77 => some (decide (y71.fRecv < y77.fRecv))) else some false)) : Option Bool).bind fun v74 => (bif v74 then some (.inr (.inr 11)) else some (.inl (w64 (a48 + 1))))))))) else some (.inr (.inl ())))
def flow_Check (p0 : (List api_Flow)) : Option Int :=
  ((loop (flow_Check_L1 p0) 0).bind fun | .inl _ => some 0 | .inr rv => some rv)
set_option maxRecDepth 100000 in
set_option maxHeartbeats 4000000 in
theorem flow_Check_fun (p0 : (List api_Flow)) (r : Int) (hF : flow_Check p0 = some r) : Fun Try.prog 33 true [] [.c (.imm (.sl 7 (List.map t_api_Flow p0)))] noHeap (.c (.imm (tI r))) noHeap := by
  refine Fun.of_walk0 Try.func33 c33 (by kernel_rfl) (rs := [.tmp 2]) (by kernel_rfl) ?_
  unfold v33
  unfold flow_Check at hF
  refine W_seq ?_
  refine W_regV (by decide) ?_
  refine QV rfl ?_
  refine W_seq ?_
  refine W_seq ?_
  refine W_regV (by decide) ?_
  refine Q_run SV 1 rfl ?_
  refine R_step SV trivial (T_len (tc := t_api_Flow) p0 .tree ?_)
  refine QV rfl ?_
  refine W_for (fun _ _ h => h) hF (.inl) (fun a48 => [(0, .c (.imm (.sl 7 (List.map t_api_Flow p0)))), (5, .c (.imm (.sl 7 (List.map t_api_Flow p0)))), (6, .c (.imm (tI (List.length p0 : Int)))), (7, .c (.imm (tI a48)))]) (fun a48 => []) (fun _ => []) (fun _ => []) (S_weak ⟨rfl, rfl, rfl, rfl, trivial⟩ trivial) ?_ ?_
  · rintro ⟨⟩ hF
    refine W_seq ?_
    refine W_regV (by decide) ?_
    refine QV rfl ?_
    refine W_ret ?_
    cases hF
    exact ⟨_, rfl, rfl, ⟨rfl, fun _ => rfl⟩, noOut _⟩
  · rintro a48 x_0 hF cont_0 brk_0 fin_0
    unfold flow_Check_L1 at hF
    refine W_seq ?_
    refine W_regV (by decide) ?_
    refine QV rfl ?_
    refine W_seq ?_
    refine W_condL (t := (decide (a48 < (List.length p0 : Int)))) rfl (fun h92 => ?_) (fun h92 => ?_)
    · have hF := bT h92 hF
      refine W_skip ?_
      refine W_seq ?_
      refine W_block ?_
      refine W_seq ?_
      refine W_regV (by decide) ?_
      refine Q_run SV 1 rfl ?_
      obtain ⟨y71, hy71, hF⟩ := bB hF
      refine R_step SV trivial (T_ixT (tc := t_api_Flow) p0 rfl rfl hy71 ?_)
      refine QV rfl ?_
      refine W_block ?_
      refine W_seq ?_
      refine W_seq ?_
      refine W_regV (by decide) ?_
      refine Q_run SV 2 rfl ?_
      obtain ⟨r72, hr72, hF⟩ := bB hF
      refine R_step SV trivial (T_call (flow_bad_fun _ _ _ hr72) ⟨rfl, rfl, trivial⟩ rfl (.inl rfl) ?_)
      refine QV rfl ?_
      refine W_join (fun _ _ h => h) hF (fun v73 => [(0, .c (.imm (.sl 7 (List.map t_api_Flow p0)))), (3, .c (.imm (tI a48))), (4, .c (.ptrO (4,0) 0)), (5, .c (.imm (.sl 7 (List.map t_api_Flow p0)))), (6, .c (.imm (tI (List.length p0 : Int)))), (7, .c (.imm (tI a48))), (12, .c (.imm (.sc (.bool v73))))]) (fun v73 => [((4,0), .box [.imm (tI y71.fId), .imm (tI y71.fFrom.fThread), .imm (tI y71.fFrom.fSerial), .imm (tI y71.fTo.fThread), .imm (tI y71.fTo.fSerial), .imm (tI y71.fSend), .imm (tI y71.fRecv)])]) ?_ ?_
      · rintro v73 hF
        refine W_condL (t := v73) rfl (fun h79 => ?_) (fun h79 => ?_)
        · have hF := bT h79 hF
          refine W_seq ?_
          refine W_regV (by decide) ?_
          refine QV rfl ?_
          have hF := fin_0 _ (Option.some.inj hF).symm
          refine W_ret ?_
          cases hF
          exact ⟨_, rfl, rfl, ⟨rfl, fun _ => rfl⟩, noOut _⟩
        · have hF := bF h79 hF
          refine W_seq ?_
          refine W_seq ?_
          refine W_regV (by decide) ?_
          refine QV rfl ?_
          refine W_join (fun _ _ h => h) hF (fun v74 => [(0, .c (.imm (.sl 7 (List.map t_api_Flow p0)))), (5, .c (.imm (.sl 7 (List.map t_api_Flow p0)))), (6, .c (.imm (tI (List.length p0 : Int)))), (7, .c (.imm (tI a48))), (38, .c (.imm (.sc (.bool v74))))]) (fun v74 => []) ?_ ?_
          · rintro v74 hF
            refine W_condL (t := v74) rfl (fun h75 => ?_) (fun h75 => ?_)
            · have hF := bT h75 hF
              refine W_seq ?_
              refine W_regV (by decide) ?_
              refine QV rfl ?_
              have hF := fin_0 _ (Option.some.inj hF).symm
              refine W_ret ?_
              cases hF
              exact ⟨_, rfl, rfl, ⟨rfl, fun _ => rfl⟩, noOut _⟩
            · have hF := bF h75 hF
              refine W_skip ?_
              refine W_regV (by decide) ?_
              refine QV rfl ?_
              exact cont_0 _ _ _ (Option.some.inj hF).symm (S_weak ⟨rfl, rfl, rfl, rfl, trivial⟩ trivial)
          · intro join hF
            refine W_condL (t := (decide (y71.fRecv < y71.fSend))) rfl (fun h78 => ?_) (fun h78 => ?_)
            · have hF := bT' h78 hF
              refine W_skip ?_
              exact join (decide (y71.fRecv < y71.fSend)) _ _ hF (S_weak ⟨rfl, rfl, rfl, rfl, rfl, trivial⟩ trivial)
            · have hF := bF' h78 hF
              refine W_regD (by decide) (by kernel_rfl) rfl ?_
              refine Q_run SP 3 rfl ?_
              cases h76 : (decide (0 < a48))
              · have hF := bF' h76 hF
                refine QP rfl ?_
                exact join false _ _ hF (S_weak ⟨rfl, rfl, rfl, rfl, rfl, trivial⟩ trivial)
              · have hF := bT' h76 hF
                refine Q_run SP 5 rfl ?_
                obtain ⟨y77, hy77, hF⟩ := bB' hF
                refine R_step SP rfl (T_ixT (tc := t_api_Flow) p0 rfl rfl hy77 ?_)
                refine QP rfl ?_
                exact join (decide (y71.fRecv < y77.fRecv)) _ _ hF (S_weak ⟨rfl, rfl, rfl, rfl, rfl, trivial⟩ trivial)
      · intro join hF
        refine W_condL (t := r72) rfl (fun h91 => ?_) (fun h91 => ?_)
        · have hF := bT' h91 hF
          refine W_skip ?_
          exact join r72 _ _ hF (S_weak ⟨rfl, rfl, rfl, rfl, rfl, rfl, rfl, trivial⟩ ⟨rfl, trivial⟩)
        · have hF := bF' h91 hF
          refine W_seq ?_
          refine W_regV (by decide) ?_
          refine Q_run SV 3 rfl ?_
          obtain ⟨r80, hr80, hF⟩ := bB' hF
          refine R_step SV trivial (T_call (flow_bad_fun _ _ _ hr80) ⟨rfl, rfl, trivial⟩ rfl (.inl rfl) ?_)
          refine QV rfl ?_
          refine W_condL (t := r80) rfl (fun h90 => ?_) (fun h90 => ?_)
          · have hF := bT' h90 hF
            refine W_skip ?_
            exact join r80 _ _ hF (S_weak ⟨rfl, rfl, rfl, rfl, rfl, rfl, rfl, trivial⟩ ⟨rfl, trivial⟩)
          · have hF := bF' h90 hF
            refine W_seq ?_
            refine W_regV (by decide) ?_
            refine Q_run SV 3 rfl ?_
            obtain ⟨r81, hr81, hF⟩ := bB' hF
            refine R_step SV trivial (T_call (flow_bad_fun _ _ _ hr81) ⟨rfl, rfl, trivial⟩ rfl (.inl rfl) ?_)
            refine QV rfl ?_
            refine W_condL (t := r81) rfl (fun h89 => ?_) (fun h89 => ?_)
            · have hF := bT' h89 hF
              refine W_skip ?_
              exact join r81 _ _ hF (S_weak ⟨rfl, rfl, rfl, rfl, rfl, rfl, rfl, trivial⟩ ⟨rfl, trivial⟩)
            · have hF := bF' h89 hF
              refine W_seq ?_
              refine W_regV (by decide) ?_
              refine Q_run SV 3 rfl ?_
              obtain ⟨r82, hr82, hF⟩ := bB' hF
              refine R_step SV trivial (T_call (flow_bad_fun _ _ _ hr82) ⟨rfl, rfl, trivial⟩ rfl (.inl rfl) ?_)
              refine QV rfl ?_
              refine W_condL (t := r82) rfl (fun h88 => ?_) (fun h88 => ?_)
              · have hF := bT' h88 hF
                refine W_skip ?_
                exact join r82 _ _ hF (S_weak ⟨rfl, rfl, rfl, rfl, rfl, rfl, rfl, trivial⟩ ⟨rfl, trivial⟩)
              · have hF := bF' h88 hF
                refine W_seq ?_
                refine W_regV (by decide) ?_
                refine Q_run SV 3 rfl ?_
                obtain ⟨r83, hr83, hF⟩ := bB' hF
                refine R_step SV trivial (T_call (flow_bad_fun _ _ _ hr83) ⟨rfl, rfl, trivial⟩ rfl (.inl rfl) ?_)
                refine QV rfl ?_
                refine W_condL (t := r83) rfl (fun h87 => ?_) (fun h87 => ?_)
                · have hF := bT' h87 hF
                  refine W_skip ?_
                  exact join r83 _ _ hF (S_weak ⟨rfl, rfl, rfl, rfl, rfl, rfl, rfl, trivial⟩ ⟨rfl, trivial⟩)
                · have hF := bF' h87 hF
                  refine W_seq ?_
                  refine W_regV (by decide) ?_
                  refine Q_run SV 2 rfl ?_
                  obtain ⟨r84, hr84, hF⟩ := bB' hF
                  refine R_step SV trivial (T_call (flow_bad_fun _ _ _ hr84) ⟨rfl, rfl, trivial⟩ rfl (.inl rfl) ?_)
                  refine QV rfl ?_
                  refine W_condL (t := r84) rfl (fun h86 => ?_) (fun h86 => ?_)
                  · have hF := bT' h86 hF
                    refine W_skip ?_
                    exact join r84 _ _ hF (S_weak ⟨rfl, rfl, rfl, rfl, rfl, rfl, rfl, trivial⟩ ⟨rfl, trivial⟩)
                  · have hF := bF' h86 hF
                    refine W_regV (by decide) ?_
                    refine Q_run SV 2 rfl ?_
                    obtain ⟨r85, hr85, hF⟩ := bB' hF
                    refine R_step SV trivial (T_call (flow_bad_fun _ _ _ hr85) ⟨rfl, rfl, trivial⟩ rfl (.inl rfl) ?_)
                    refine QV rfl ?_
                    exact join r85 _ _ hF (S_weak ⟨rfl, rfl, rfl, rfl, rfl, rfl, rfl, trivial⟩ ⟨rfl, trivial⟩)
    · have hF := bF h92 hF
      refine W_exit ?_
      refine thenQ_exit ?_
      refine thenQ_exit ?_
      refine blockQ_hit ?_
      exact brk_0 _ _ _ (Option.some.inj hF).symm (S_weak trivial trivial)
def trace_tables_2 (p0 : api_Flow) : Option Int :=
  some p0.fFrom.fThread
set_option maxRecDepth 100000 in
set_option maxHeartbeats 4000000 in
theorem trace_tables_2_fun (p0 : api_Flow) (r : Int) (hF : trace_tables_2 p0 = some r) : Fun Try.prog 34 true [] [.agg [.imm (tI p0.fId), .imm (tI p0.fFrom.fThread), .imm (tI p0.fFrom.fSerial), .imm (tI p0.fTo.fThread), .imm (tI p0.fTo.fSerial), .imm (tI p0.fSend), .imm (tI p0.fRecv)]] noHeap (.c (.imm (tI r))) noHeap := by
  refine Fun.of_walk0 Try.func34 c34 (by kernel_rfl) (rs := [.tmp 2]) (by kernel_rfl) ?_
  unfold v34
  unfold trace_tables_2 at hF
  refine W_seq ?_
  refine W_regV (by decide) ?_
  refine QV rfl ?_
  refine W_seq ?_
  refine W_regV (by decide) ?_
  refine QV rfl ?_
  refine W_ret ?_
  cases hF
  exact ⟨_, rfl, rfl, ⟨rfl, fun _ => rfl⟩, noOut _⟩
def trace_known_api_Flow_k1_L1 (p1 : (List (Int × ByteArray))) (p2 : (List api_Flow)) : Int → Option (Int ⊕ (Unit ⊕ Int)) := fun a12 =>
  (bif (decide (a12 < (List.length p2 : Int))) then ((idx p2 a12).bind fun y17 => ((trace_tables_2 y17).bind fun r18 => (bif (!(Option.isSome (mget r18 p1))) then some (.inr (.inr 5)) else some (.inl (w64 (a12 + 1)))))) else some (.inr (.inl ())))
def trace_known_api_Flow_k1 (p0 : Int) (p1 : (List (Int × ByteArray))) (p2 : (List api_Flow)) : Option Int :=
  (bif (!decide (p0 = 0)) then some p0 else ((loop (trace_known_api_Flow_k1_L1 p1 p2) 0).bind fun | .inl _ => some 0 | .inr rv => some rv))
set_option maxRecDepth 100000 in
set_option maxHeartbeats 4000000 in
theorem trace_known_api_Flow_k1_fun (p0 : Int) (p1 : (List (Int × ByteArray))) (p2 : (List api_Flow)) (r : Int) (hF : trace_known_api_Flow_k1 p0 p1 p2 = some r) : Fun Try.prog 32 false [(2280,0)] [.c (.imm (tI p0)), .c (.mapO (2280,0)), .c (.imm (.sl 7 (List.map t_api_Flow p2))), .c (.fn 34 [])] (heapOf [((2280,0), mapOb (.int .i64) (fun n : Int => .int .i64 n) (fun y : ByteArray => (.one (.sc (.string y)) : MT)) p1)]) (.c (.imm (tI r))) (heapOf [((2280,0), mapOb (.int .i64) (fun n : Int => .int .i64 n) (fun y : ByteArray => (.one (.sc (.string y)) : MT)) p1)]) := by
  refine Fun.of_walkM [(2280,0)] (some [(2280,0)]) Try.func32 c32 (by kernel_rfl) (rs := [.tmp 8]) (by kernel_rfl) rfl rfl rfl ?_
  unfold v32
  unfold trace_known_api_Flow_k1 at hF
  refine W_seq ?_
  refine W_regV (by decide) ?_
  refine QV rfl ?_
  refine W_seq ?_
  refine W_seq ?_
  refine W_regV (by decide) ?_
  refine QV rfl ?_
  refine W_condL (t := (!decide (p0 = 0))) rfl (fun h21 => ?_) (fun h21 => ?_)
  · have hF := bT h21 hF
    refine W_seq ?_
    refine W_regV (by decide) ?_
    refine QV rfl ?_
    refine W_ret ?_
    cases hF
    exact ⟨_, _, S_refl, _, rfl, rfl, ⟨rfl, fun _ => rfl⟩, (AgM.weak ⟨rfl, trivial⟩)⟩
  · have hF := bF h21 hF
    refine W_skip ?_
    refine W_seq ?_
    refine W_seq ?_
    refine W_regV (by decide) ?_
    refine Q_run SV 1 rfl ?_
    refine R_step SV trivial (T_len (tc := t_api_Flow) p2 .tree ?_)
    refine QV rfl ?_
    refine W_for (fun _ _ h => h) hF (.inl) (fun a12 => [(1, .c (.mapO (2280,0))), (3, .c (.fn 34 [])), (16, .c (.imm (.sl 7 (List.map t_api_Flow p2)))), (17, .c (.imm (tI (List.length p2 : Int)))), (18, .c (.imm (tI a12)))]) (fun a12 => [((2280,0), mapOb (.int .i64) (fun n : Int => .int .i64 n) (fun y : ByteArray => (.one (.sc (.string y)) : MT)) p1)]) (fun _ => []) (fun _ => [((2280,0), mapOb (.int .i64) (fun n : Int => .int .i64 n) (fun y : ByteArray => (.one (.sc (.string y)) : MT)) p1)]) (S_weak ⟨rfl, rfl, rfl, rfl, rfl, trivial⟩ ⟨rfl, trivial⟩) ?_ ?_
    · rintro ⟨⟩ hF
      refine W_seq ?_
      refine W_regV (by decide) ?_
      refine QV rfl ?_
      refine W_ret ?_
      cases hF
      exact ⟨_, _, S_refl, _, rfl, rfl, ⟨rfl, fun _ => rfl⟩, (AgM.weak ⟨rfl, trivial⟩)⟩
    · rintro a12 x_0 hF cont_0 brk_0 fin_0
      unfold trace_known_api_Flow_k1_L1 at hF
      refine W_seq ?_
      refine W_regV (by decide) ?_
      refine QV rfl ?_
      refine W_seq ?_
      refine W_condL (t := (decide (a12 < (List.length p2 : Int)))) rfl (fun h20 => ?_) (fun h20 => ?_)
      · have hF := bT h20 hF
        refine W_skip ?_
        refine W_seq ?_
        refine W_block ?_
        refine W_seq ?_
        refine W_regV (by decide) ?_
        obtain ⟨y17, hy17, hF⟩ := bB hF
        refine R_step SV trivial (T_ixT (tc := t_api_Flow) p2 rfl rfl hy17 ?_)
        refine QV rfl ?_
        refine W_seq ?_
        refine W_regV (by decide) ?_
        refine Q_run SV 3 rfl ?_
        obtain ⟨r18, hr18, hF⟩ := bB hF
        refine R_stepX trivial (X_call (callW _ rfl fnOk34) (trace_tables_2_fun _ _ hr18) ⟨⟨rfl, rfl, rfl, rfl, rfl, rfl, rfl, trivial⟩, trivial⟩ rfl (.inl rfl) ?_)
        refine R_step SV trivial (T_lookOk (keyI .i64) (vv := (fun y : ByteArray => (.one (.sc (.string y)) : MT))) p1 r18 ⟨#[]⟩ (.own _ rfl) rfl rfl ?_)
        refine QV rfl ?_
        refine W_seq ?_
        refine W_regV (by decide) ?_
        refine QV rfl ?_
        refine W_condL (t := (!(Option.isSome (mget r18 p1)))) rfl (fun h19 => ?_) (fun h19 => ?_)
        · have hF := bT h19 hF
          refine W_seq ?_
          refine W_regV (by decide) ?_
          refine QV rfl ?_
          have hF := fin_0 _ (Option.some.inj hF).symm
          refine W_ret ?_
          cases hF
          exact ⟨_, _, S_refl, _, rfl, rfl, ⟨rfl, fun _ => rfl⟩, (AgM.weak ⟨rfl, trivial⟩)⟩
        · have hF := bF h19 hF
          refine W_skip ?_
          refine W_regV (by decide) ?_
          refine QV rfl ?_
          exact cont_0 _ _ _ (Option.some.inj hF).symm (S_weak ⟨rfl, rfl, rfl, rfl, rfl, trivial⟩ ⟨rfl, trivial⟩)
      · have hF := bF h20 hF
        refine W_exit ?_
        refine thenQ_exit ?_
        refine thenQ_exit ?_
        refine blockQ_hit ?_
        exact brk_0 _ _ _ (Option.some.inj hF).symm (S_weak trivial ⟨rfl, trivial⟩)
def trace_tables_3 (p0 : api_Flow) : Option Int :=
  some p0.fTo.fThread
set_option maxRecDepth 100000 in
set_option maxHeartbeats 4000000 in
theorem trace_tables_3_fun (p0 : api_Flow) (r : Int) (hF : trace_tables_3 p0 = some r) : Fun Try.prog 35 true [] [.agg [.imm (tI p0.fId), .imm (tI p0.fFrom.fThread), .imm (tI p0.fFrom.fSerial), .imm (tI p0.fTo.fThread), .imm (tI p0.fTo.fSerial), .imm (tI p0.fSend), .imm (tI p0.fRecv)]] noHeap (.c (.imm (tI r))) noHeap := by
  refine Fun.of_walk0 Try.func35 c35 (by kernel_rfl) (rs := [.tmp 2]) (by kernel_rfl) ?_
  unfold v35
  unfold trace_tables_3 at hF
  refine W_seq ?_
  refine W_regV (by decide) ?_
  refine QV rfl ?_
  refine W_seq ?_
  refine W_regV (by decide) ?_
  refine QV rfl ?_
  refine W_ret ?_
  cases hF
  exact ⟨_, rfl, rfl, ⟨rfl, fun _ => rfl⟩, noOut _⟩
def trace_known_api_Flow_k2_L1 (p1 : (List (Int × ByteArray))) (p2 : (List api_Flow)) : Int → Option (Int ⊕ (Unit ⊕ Int)) := fun a12 =>
  (bif (decide (a12 < (List.length p2 : Int))) then ((idx p2 a12).bind fun y17 => ((trace_tables_3 y17).bind fun r18 => (bif (!(Option.isSome (mget r18 p1))) then some (.inr (.inr 5)) else some (.inl (w64 (a12 + 1)))))) else some (.inr (.inl ())))
def trace_known_api_Flow_k2 (p0 : Int) (p1 : (List (Int × ByteArray))) (p2 : (List api_Flow)) : Option Int :=
  (bif (!decide (p0 = 0)) then some p0 else ((loop (trace_known_api_Flow_k2_L1 p1 p2) 0).bind fun | .inl _ => some 0 | .inr rv => some rv))
set_option maxRecDepth 100000 in
set_option maxHeartbeats 4000000 in
theorem trace_known_api_Flow_k2_fun (p0 : Int) (p1 : (List (Int × ByteArray))) (p2 : (List api_Flow)) (r : Int) (hF : trace_known_api_Flow_k2 p0 p1 p2 = some r) : Fun Try.prog 32 false [(2280,0)] [.c (.imm (tI p0)), .c (.mapO (2280,0)), .c (.imm (.sl 7 (List.map t_api_Flow p2))), .c (.fn 35 [])] (heapOf [((2280,0), mapOb (.int .i64) (fun n : Int => .int .i64 n) (fun y : ByteArray => (.one (.sc (.string y)) : MT)) p1)]) (.c (.imm (tI r))) (heapOf [((2280,0), mapOb (.int .i64) (fun n : Int => .int .i64 n) (fun y : ByteArray => (.one (.sc (.string y)) : MT)) p1)]) := by
  refine Fun.of_walkM [(2280,0)] (some [(2280,0)]) Try.func32 c32 (by kernel_rfl) (rs := [.tmp 8]) (by kernel_rfl) rfl rfl rfl ?_
  unfold v32
  unfold trace_known_api_Flow_k2 at hF
  refine W_seq ?_
  refine W_regV (by decide) ?_
  refine QV rfl ?_
  refine W_seq ?_
  refine W_seq ?_
  refine W_regV (by decide) ?_
  refine QV rfl ?_
  refine W_condL (t := (!decide (p0 = 0))) rfl (fun h21 => ?_) (fun h21 => ?_)
  · have hF := bT h21 hF
    refine W_seq ?_
    refine W_regV (by decide) ?_
    refine QV rfl ?_
    refine W_ret ?_
    cases hF
    exact ⟨_, _, S_refl, _, rfl, rfl, ⟨rfl, fun _ => rfl⟩, (AgM.weak ⟨rfl, trivial⟩)⟩
  · have hF := bF h21 hF
    refine W_skip ?_
    refine W_seq ?_
    refine W_seq ?_
    refine W_regV (by decide) ?_
    refine Q_run SV 1 rfl ?_
    refine R_step SV trivial (T_len (tc := t_api_Flow) p2 .tree ?_)
    refine QV rfl ?_
    refine W_for (fun _ _ h => h) hF (.inl) (fun a12 => [(1, .c (.mapO (2280,0))), (3, .c (.fn 35 [])), (16, .c (.imm (.sl 7 (List.map t_api_Flow p2)))), (17, .c (.imm (tI (List.length p2 : Int)))), (18, .c (.imm (tI a12)))]) (fun a12 => [((2280,0), mapOb (.int .i64) (fun n : Int => .int .i64 n) (fun y : ByteArray => (.one (.sc (.string y)) : MT)) p1)]) (fun _ => []) (fun _ => [((2280,0), mapOb (.int .i64) (fun n : Int => .int .i64 n) (fun y : ByteArray => (.one (.sc (.string y)) : MT)) p1)]) (S_weak ⟨rfl, rfl, rfl, rfl, rfl, trivial⟩ ⟨rfl, trivial⟩) ?_ ?_
    · rintro ⟨⟩ hF
      refine W_seq ?_
      refine W_regV (by decide) ?_
      refine QV rfl ?_
      refine W_ret ?_
      cases hF
      exact ⟨_, _, S_refl, _, rfl, rfl, ⟨rfl, fun _ => rfl⟩, (AgM.weak ⟨rfl, trivial⟩)⟩
    · rintro a12 x_0 hF cont_0 brk_0 fin_0
      unfold trace_known_api_Flow_k2_L1 at hF
      refine W_seq ?_
      refine W_regV (by decide) ?_
      refine QV rfl ?_
      refine W_seq ?_
      refine W_condL (t := (decide (a12 < (List.length p2 : Int)))) rfl (fun h20 => ?_) (fun h20 => ?_)
      · have hF := bT h20 hF
        refine W_skip ?_
        refine W_seq ?_
        refine W_block ?_
        refine W_seq ?_
        refine W_regV (by decide) ?_
        obtain ⟨y17, hy17, hF⟩ := bB hF
        refine R_step SV trivial (T_ixT (tc := t_api_Flow) p2 rfl rfl hy17 ?_)
        refine QV rfl ?_
        refine W_seq ?_
        refine W_regV (by decide) ?_
        refine Q_run SV 3 rfl ?_
        obtain ⟨r18, hr18, hF⟩ := bB hF
        refine R_stepX trivial (X_call (callW _ rfl fnOk35) (trace_tables_3_fun _ _ hr18) ⟨⟨rfl, rfl, rfl, rfl, rfl, rfl, rfl, trivial⟩, trivial⟩ rfl (.inl rfl) ?_)
        refine R_step SV trivial (T_lookOk (keyI .i64) (vv := (fun y : ByteArray => (.one (.sc (.string y)) : MT))) p1 r18 ⟨#[]⟩ (.own _ rfl) rfl rfl ?_)
        refine QV rfl ?_
        refine W_seq ?_
        refine W_regV (by decide) ?_
        refine QV rfl ?_
        refine W_condL (t := (!(Option.isSome (mget r18 p1)))) rfl (fun h19 => ?_) (fun h19 => ?_)
        · have hF := bT h19 hF
          refine W_seq ?_
          refine W_regV (by decide) ?_
          refine QV rfl ?_
          have hF := fin_0 _ (Option.some.inj hF).symm
          refine W_ret ?_
          cases hF
          exact ⟨_, _, S_refl, _, rfl, rfl, ⟨rfl, fun _ => rfl⟩, (AgM.weak ⟨rfl, trivial⟩)⟩
        · have hF := bF h19 hF
          refine W_skip ?_
          refine W_regV (by decide) ?_
          refine QV rfl ?_
          exact cont_0 _ _ _ (Option.some.inj hF).symm (S_weak ⟨rfl, rfl, rfl, rfl, rfl, trivial⟩ ⟨rfl, trivial⟩)
      · have hF := bF h20 hF
        refine W_exit ?_
        refine thenQ_exit ?_
        refine thenQ_exit ?_
        refine blockQ_hit ?_
        exact brk_0 _ _ _ (Option.some.inj hF).symm (S_weak trivial ⟨rfl, trivial⟩)
def sample_good (p0 : api_Sample) : Option Bool :=
  (((bif (decide (0 ≤ p0.fThread)) then (bif (decide (p0.fThread ≤ 1000000000000000)) then (bif (decide (0 ≤ p0.fAt)) then (bif (decide (p0.fAt ≤ 1000000000000)) then (bif (decide (1 ≤ p0.fWeight)) then some (decide (p0.fWeight ≤ 1000000000000)) else some false) else some false) else some false) else some false) else some false) : Option Bool).bind fun v1 => some v1)
set_option maxRecDepth 100000 in
set_option maxHeartbeats 4000000 in
theorem sample_good_fun (p0 : api_Sample) (r : Bool) (hF : sample_good p0 = some r) : Fun Try.prog 69 true [] [.agg [.imm (tI p0.fThread), .imm (tI p0.fAt), .imm (tI p0.fWeight), .imm (.sl 1 (List.map t_str p0.fStack))]] noHeap (.c (.imm (.sc (.bool r)))) noHeap := by
  refine Fun.of_walk0 Try.func69 c69 (by kernel_rfl) (rs := [.tmp 2]) (by kernel_rfl) ?_
  unfold v69
  unfold sample_good at hF
  refine W_seq ?_
  refine W_regV (by decide) ?_
  refine QV rfl ?_
  refine W_seq ?_
  refine W_join (fun _ _ h => h) hF (fun v1 => [(2, .c (.imm (.sc (.bool v1))))]) (fun v1 => []) ?_ ?_
  · rintro v1 hF
    refine W_ret ?_
    cases hF
    exact ⟨_, rfl, rfl, ⟨rfl, fun _ => rfl⟩, noOut _⟩
  · intro join hF
    refine W_regV (by decide) ?_
    refine Q_run SV 4 rfl ?_
    cases h2 : (decide (0 ≤ p0.fThread))
    · have hF := bF' h2 hF
      refine QV rfl ?_
      exact join false _ _ hF (S_weak ⟨rfl, trivial⟩ trivial)
    · have hF := bT' h2 hF
      refine Q_run SV 5 rfl ?_
      cases h3 : (decide (p0.fThread ≤ 1000000000000000))
      · have hF := bF' h3 hF
        refine QV rfl ?_
        exact join false _ _ hF (S_weak ⟨rfl, trivial⟩ trivial)
      · have hF := bT' h3 hF
        refine Q_run SV 5 rfl ?_
        cases h4 : (decide (0 ≤ p0.fAt))
        · have hF := bF' h4 hF
          refine QV rfl ?_
          exact join false _ _ hF (S_weak ⟨rfl, trivial⟩ trivial)
        · have hF := bT' h4 hF
          refine Q_run SV 5 rfl ?_
          cases h5 : (decide (p0.fAt ≤ 1000000000000))
          · have hF := bF' h5 hF
            refine QV rfl ?_
            exact join false _ _ hF (S_weak ⟨rfl, trivial⟩ trivial)
          · have hF := bT' h5 hF
            refine Q_run SV 5 rfl ?_
            cases h6 : (decide (1 ≤ p0.fWeight))
            · have hF := bF' h6 hF
              refine QV rfl ?_
              exact join false _ _ hF (S_weak ⟨rfl, trivial⟩ trivial)
            · have hF := bT' h6 hF
              refine QV rfl ?_
              exact join (decide (p0.fWeight ≤ 1000000000000)) _ _ hF (S_weak ⟨rfl, trivial⟩ trivial)
def intern_Frames_L1 (p0 : (List ByteArray)) : Int → Option (Int ⊕ (Unit ⊕ Int)) := fun a12 =>
  (bif (decide (a12 < (List.length p0 : Int))) then ((idx p0 a12).bind fun y17 => ((intern_Name y17).bind fun r18 => (bif (!decide (r18 = 0)) then some (.inr (.inr r18)) else some (.inl (w64 (a12 + 1)))))) else some (.inr (.inl ())))
def intern_Frames (p0 : (List ByteArray)) : Option Int :=
  (bif (decide (32 < (List.length p0 : Int))) then some 7 else ((loop (intern_Frames_L1 p0) 0).bind fun | .inl _ => some 0 | .inr rv => some rv))
set_option maxRecDepth 100000 in
set_option maxHeartbeats 4000000 in
theorem intern_Frames_fun (p0 : (List ByteArray)) (r : Int) (hF : intern_Frames p0 = some r) : Fun Try.prog 70 true [] [.c (.imm (.sl 1 (List.map t_str p0)))] noHeap (.c (.imm (tI r))) noHeap := by
  refine Fun.of_walk0 Try.func70 c70 (by kernel_rfl) (rs := [.tmp 2]) (by kernel_rfl) ?_
  unfold v70
  unfold intern_Frames at hF
  refine W_seq ?_
  refine W_regV (by decide) ?_
  refine QV rfl ?_
  refine W_seq ?_
  refine W_seq ?_
  refine W_regV (by decide) ?_
  refine Q_run SV 1 rfl ?_
  refine R_step SV trivial (T_len (tc := t_str) p0 .tree ?_)
  refine QV rfl ?_
  refine W_condL (t := (decide (32 < (List.length p0 : Int)))) rfl (fun h21 => ?_) (fun h21 => ?_)
  · have hF := bT h21 hF
    refine W_seq ?_
    refine W_regV (by decide) ?_
    refine QV rfl ?_
    refine W_ret ?_
    cases hF
    exact ⟨_, rfl, rfl, ⟨rfl, fun _ => rfl⟩, noOut _⟩
  · have hF := bF h21 hF
    refine W_skip ?_
    refine W_seq ?_
    refine W_seq ?_
    refine W_regV (by decide) ?_
    refine Q_run SV 1 rfl ?_
    refine R_step SV trivial (T_len (tc := t_str) p0 .tree ?_)
    refine QV rfl ?_
    refine W_for (fun _ _ h => h) hF (.inl) (fun a12 => [(9, .c (.imm (.sl 1 (List.map t_str p0)))), (10, .c (.imm (tI (List.length p0 : Int)))), (11, .c (.imm (tI a12)))]) (fun a12 => []) (fun _ => []) (fun _ => []) (S_weak ⟨rfl, rfl, rfl, trivial⟩ trivial) ?_ ?_
    · rintro ⟨⟩ hF
      refine W_seq ?_
      refine W_regV (by decide) ?_
      refine QV rfl ?_
      refine W_ret ?_
      cases hF
      exact ⟨_, rfl, rfl, ⟨rfl, fun _ => rfl⟩, noOut _⟩
    · rintro a12 x_0 hF cont_0 brk_0 fin_0
      unfold intern_Frames_L1 at hF
      refine W_seq ?_
      refine W_regV (by decide) ?_
      refine QV rfl ?_
      refine W_seq ?_
      refine W_condL (t := (decide (a12 < (List.length p0 : Int)))) rfl (fun h20 => ?_) (fun h20 => ?_)
      · have hF := bT h20 hF
        refine W_skip ?_
        refine W_seq ?_
        refine W_block ?_
        refine W_seq ?_
        refine W_regV (by decide) ?_
        obtain ⟨y17, hy17, hF⟩ := bB hF
        refine R_step SV trivial (T_ixT (tc := t_str) p0 rfl rfl hy17 ?_)
        refine QV rfl ?_
        refine W_seq ?_
        refine W_regV (by decide) ?_
        refine Q_run SV 1 rfl ?_
        obtain ⟨r18, hr18, hF⟩ := bB hF
        refine R_step SV trivial (T_call (intern_Name_fun _ _ hr18) ⟨rfl, trivial⟩ rfl (.inl rfl) ?_)
        refine QV rfl ?_
        refine W_seq ?_
        refine W_regV (by decide) ?_
        refine QV rfl ?_
        refine W_condL (t := (!decide (r18 = 0))) rfl (fun h19 => ?_) (fun h19 => ?_)
        · have hF := bT h19 hF
          refine W_seq ?_
          refine W_regV (by decide) ?_
          refine QV rfl ?_
          have hF := fin_0 _ (Option.some.inj hF).symm
          refine W_ret ?_
          cases hF
          exact ⟨_, rfl, rfl, ⟨rfl, fun _ => rfl⟩, noOut _⟩
        · have hF := bF h19 hF
          refine W_skip ?_
          refine W_regV (by decide) ?_
          refine QV rfl ?_
          exact cont_0 _ _ _ (Option.some.inj hF).symm (S_weak ⟨rfl, rfl, rfl, trivial⟩ trivial)
      · have hF := bF h20 hF
        refine W_exit ?_
        refine thenQ_exit ?_
        refine thenQ_exit ?_
        refine blockQ_hit ?_
        exact brk_0 _ _ _ (Option.some.inj hF).symm (S_weak trivial trivial)
def sample_Check_L1 (p0 : (List api_Sample)) : Int → Option (Int ⊕ (Unit ⊕ Int)) := fun a24 =>
  (bif (decide (a24 < (List.length p0 : Int))) then ((idx p0 a24).bind fun y35 => ((sample_good y35).bind fun r36 => (bif (!r36) then some (.inr (.inr 2)) else ((intern_Frames y35.fStack).bind fun r37 => (bif (!decide (r37 = 0)) then some (.inr (.inr r37)) else (((bif (decide (0 < a24)) then ((idx p0 (w64 (a24 - 1))).bind fun y41 => some (decide (y35.fAt < y41.fAt))) else some false) : Option Bool).bind fun v38 => (bif v38 then some (.inr (.inr 11)) else some (.inl (w64 (a24 + 1)))))))))) else some (.inr (.inl ())))
def sample_Check (p0 : (List api_Sample)) : Option Int :=
  ((loop (sample_Check_L1 p0) 0).bind fun | .inl _ => some 0 | .inr rv => some rv)
set_option maxRecDepth 100000 in
set_option maxHeartbeats 4000000 in
theorem sample_Check_fun (p0 : (List api_Sample)) (r : Int) (hF : sample_Check p0 = some r) : Fun Try.prog 37 true [] [.c (.imm (.sl 4 (List.map t_api_Sample p0)))] noHeap (.c (.imm (tI r))) noHeap := by
  refine Fun.of_walk0 Try.func37 c37 (by kernel_rfl) (rs := [.tmp 2]) (by kernel_rfl) ?_
  unfold v37
  unfold sample_Check at hF
  refine W_seq ?_
  refine W_regV (by decide) ?_
  refine QV rfl ?_
  refine W_seq ?_
  refine W_seq ?_
  refine W_regV (by decide) ?_
  refine Q_run SV 1 rfl ?_
  refine R_step SV trivial (T_len (tc := t_api_Sample) p0 .tree ?_)
  refine QV rfl ?_
  refine W_for (fun _ _ h => h) hF (.inl) (fun a24 => [(0, .c (.imm (.sl 4 (List.map t_api_Sample p0)))), (6, .c (.imm (.sl 4 (List.map t_api_Sample p0)))), (7, .c (.imm (tI (List.length p0 : Int)))), (8, .c (.imm (tI a24)))]) (fun a24 => []) (fun _ => []) (fun _ => []) (S_weak ⟨rfl, rfl, rfl, rfl, trivial⟩ trivial) ?_ ?_
  · rintro ⟨⟩ hF
    refine W_seq ?_
    refine W_regV (by decide) ?_
    refine QV rfl ?_
    refine W_ret ?_
    cases hF
    exact ⟨_, rfl, rfl, ⟨rfl, fun _ => rfl⟩, noOut _⟩
  · rintro a24 x_0 hF cont_0 brk_0 fin_0
    unfold sample_Check_L1 at hF
    refine W_seq ?_
    refine W_regV (by decide) ?_
    refine QV rfl ?_
    refine W_seq ?_
    refine W_condL (t := (decide (a24 < (List.length p0 : Int)))) rfl (fun h44 => ?_) (fun h44 => ?_)
    · have hF := bT h44 hF
      refine W_skip ?_
      refine W_seq ?_
      refine W_block ?_
      refine W_seq ?_
      refine W_regV (by decide) ?_
      refine Q_run SV 1 rfl ?_
      obtain ⟨y35, hy35, hF⟩ := bB hF
      refine R_step SV trivial (T_ixT (tc := t_api_Sample) p0 rfl rfl hy35 ?_)
      refine QV rfl ?_
      refine W_seq ?_
      refine W_seq ?_
      refine W_regV (by decide) ?_
      refine Q_run SV 1 rfl ?_
      obtain ⟨r36, hr36, hF⟩ := bB hF
      refine R_step SV trivial (T_call (sample_good_fun _ _ hr36) ⟨⟨rfl, rfl, rfl, rfl, trivial⟩, trivial⟩ rfl (.inl rfl) ?_)
      refine QV rfl ?_
      refine W_condL (t := (!r36)) rfl (fun h43 => ?_) (fun h43 => ?_)
      · have hF := bT h43 hF
        refine W_seq ?_
        refine W_regV (by decide) ?_
        refine QV rfl ?_
        have hF := fin_0 _ (Option.some.inj hF).symm
        refine W_ret ?_
        cases hF
        exact ⟨_, rfl, rfl, ⟨rfl, fun _ => rfl⟩, noOut _⟩
      · have hF := bF h43 hF
        refine W_skip ?_
        refine W_seq ?_
        refine W_seq ?_
        refine W_regV (by decide) ?_
        refine Q_run SV 2 rfl ?_
        obtain ⟨r37, hr37, hF⟩ := bB hF
        refine R_step SV trivial (T_call (intern_Frames_fun _ _ hr37) ⟨rfl, trivial⟩ rfl (.inl rfl) ?_)
        refine QV rfl ?_
        refine W_seq ?_
        refine W_regV (by decide) ?_
        refine QV rfl ?_
        refine W_condL (t := (!decide (r37 = 0))) rfl (fun h42 => ?_) (fun h42 => ?_)
        · have hF := bT h42 hF
          refine W_seq ?_
          refine W_regV (by decide) ?_
          refine QV rfl ?_
          have hF := fin_0 _ (Option.some.inj hF).symm
          refine W_ret ?_
          cases hF
          exact ⟨_, rfl, rfl, ⟨rfl, fun _ => rfl⟩, noOut _⟩
        · have hF := bF h42 hF
          refine W_skip ?_
          refine W_seq ?_
          refine W_join (fun _ _ h => h) hF (fun v38 => [(0, .c (.imm (.sl 4 (List.map t_api_Sample p0)))), (6, .c (.imm (.sl 4 (List.map t_api_Sample p0)))), (7, .c (.imm (tI (List.length p0 : Int)))), (8, .c (.imm (tI a24))), (34, .c (.imm (.sc (.bool v38))))]) (fun v38 => []) ?_ ?_
          · rintro v38 hF
            refine W_condL (t := v38) rfl (fun h39 => ?_) (fun h39 => ?_)
            · have hF := bT h39 hF
              refine W_seq ?_
              refine W_regV (by decide) ?_
              refine QV rfl ?_
              have hF := fin_0 _ (Option.some.inj hF).symm
              refine W_ret ?_
              cases hF
              exact ⟨_, rfl, rfl, ⟨rfl, fun _ => rfl⟩, noOut _⟩
            · have hF := bF h39 hF
              refine W_skip ?_
              refine W_regV (by decide) ?_
              refine QV rfl ?_
              exact cont_0 _ _ _ (Option.some.inj hF).symm (S_weak ⟨rfl, rfl, rfl, rfl, trivial⟩ trivial)
          · intro join hF
            refine W_regD (by decide) (by kernel_rfl) rfl ?_
            refine Q_run SP 3 rfl ?_
            cases h40 : (decide (0 < a24))
            · have hF := bF' h40 hF
              refine QP rfl ?_
              exact join false _ _ hF (S_weak ⟨rfl, rfl, rfl, rfl, rfl, trivial⟩ trivial)
            · have hF := bT' h40 hF
              refine Q_run SP 5 rfl ?_
              obtain ⟨y41, hy41, hF⟩ := bB' hF
              refine R_step SP rfl (T_ixT (tc := t_api_Sample) p0 rfl rfl hy41 ?_)
              refine QP rfl ?_
              exact join (decide (y35.fAt < y41.fAt)) _ _ hF (S_weak ⟨rfl, rfl, rfl, rfl, rfl, trivial⟩ trivial)
    · have hF := bF h44 hF
      refine W_exit ?_
      refine thenQ_exit ?_
      refine thenQ_exit ?_
      refine blockQ_hit ?_
      exact brk_0 _ _ _ (Option.some.inj hF).symm (S_weak trivial trivial)
def trace_tables_4 (p0 : api_Sample) : Option Int :=
  some p0.fThread
set_option maxRecDepth 100000 in
set_option maxHeartbeats 4000000 in
theorem trace_tables_4_fun (p0 : api_Sample) (r : Int) (hF : trace_tables_4 p0 = some r) : Fun Try.prog 38 true [] [.agg [.imm (tI p0.fThread), .imm (tI p0.fAt), .imm (tI p0.fWeight), .imm (.sl 1 (List.map t_str p0.fStack))]] noHeap (.c (.imm (tI r))) noHeap := by
  refine Fun.of_walk0 Try.func38 c38 (by kernel_rfl) (rs := [.tmp 2]) (by kernel_rfl) ?_
  unfold v38
  unfold trace_tables_4 at hF
  refine W_seq ?_
  refine W_regV (by decide) ?_
  refine QV rfl ?_
  refine W_seq ?_
  refine W_regV (by decide) ?_
  refine QV rfl ?_
  refine W_ret ?_
  cases hF
  exact ⟨_, rfl, rfl, ⟨rfl, fun _ => rfl⟩, noOut _⟩
def trace_known_api_Sample_k1_L1 (p1 : (List (Int × ByteArray))) (p2 : (List api_Sample)) : Int → Option (Int ⊕ (Unit ⊕ Int)) := fun a12 =>
  (bif (decide (a12 < (List.length p2 : Int))) then ((idx p2 a12).bind fun y17 => ((trace_tables_4 y17).bind fun r18 => (bif (!(Option.isSome (mget r18 p1))) then some (.inr (.inr 5)) else some (.inl (w64 (a12 + 1)))))) else some (.inr (.inl ())))
def trace_known_api_Sample_k1 (p0 : Int) (p1 : (List (Int × ByteArray))) (p2 : (List api_Sample)) : Option Int :=
  (bif (!decide (p0 = 0)) then some p0 else ((loop (trace_known_api_Sample_k1_L1 p1 p2) 0).bind fun | .inl _ => some 0 | .inr rv => some rv))
set_option maxRecDepth 100000 in
set_option maxHeartbeats 4000000 in
theorem trace_known_api_Sample_k1_fun (p0 : Int) (p1 : (List (Int × ByteArray))) (p2 : (List api_Sample)) (r : Int) (hF : trace_known_api_Sample_k1 p0 p1 p2 = some r) : Fun Try.prog 36 false [(2440,0)] [.c (.imm (tI p0)), .c (.mapO (2440,0)), .c (.imm (.sl 4 (List.map t_api_Sample p2))), .c (.fn 38 [])] (heapOf [((2440,0), mapOb (.int .i64) (fun n : Int => .int .i64 n) (fun y : ByteArray => (.one (.sc (.string y)) : MT)) p1)]) (.c (.imm (tI r))) (heapOf [((2440,0), mapOb (.int .i64) (fun n : Int => .int .i64 n) (fun y : ByteArray => (.one (.sc (.string y)) : MT)) p1)]) := by
  refine Fun.of_walkM [(2440,0)] (some [(2440,0)]) Try.func36 c36 (by kernel_rfl) (rs := [.tmp 8]) (by kernel_rfl) rfl rfl rfl ?_
  unfold v36
  unfold trace_known_api_Sample_k1 at hF
  refine W_seq ?_
  refine W_regV (by decide) ?_
  refine QV rfl ?_
  refine W_seq ?_
  refine W_seq ?_
  refine W_regV (by decide) ?_
  refine QV rfl ?_
  refine W_condL (t := (!decide (p0 = 0))) rfl (fun h21 => ?_) (fun h21 => ?_)
  · have hF := bT h21 hF
    refine W_seq ?_
    refine W_regV (by decide) ?_
    refine QV rfl ?_
    refine W_ret ?_
    cases hF
    exact ⟨_, _, S_refl, _, rfl, rfl, ⟨rfl, fun _ => rfl⟩, (AgM.weak ⟨rfl, trivial⟩)⟩
  · have hF := bF h21 hF
    refine W_skip ?_
    refine W_seq ?_
    refine W_seq ?_
    refine W_regV (by decide) ?_
    refine Q_run SV 1 rfl ?_
    refine R_step SV trivial (T_len (tc := t_api_Sample) p2 .tree ?_)
    refine QV rfl ?_
    refine W_for (fun _ _ h => h) hF (.inl) (fun a12 => [(1, .c (.mapO (2440,0))), (3, .c (.fn 38 [])), (16, .c (.imm (.sl 4 (List.map t_api_Sample p2)))), (17, .c (.imm (tI (List.length p2 : Int)))), (18, .c (.imm (tI a12)))]) (fun a12 => [((2440,0), mapOb (.int .i64) (fun n : Int => .int .i64 n) (fun y : ByteArray => (.one (.sc (.string y)) : MT)) p1)]) (fun _ => []) (fun _ => [((2440,0), mapOb (.int .i64) (fun n : Int => .int .i64 n) (fun y : ByteArray => (.one (.sc (.string y)) : MT)) p1)]) (S_weak ⟨rfl, rfl, rfl, rfl, rfl, trivial⟩ ⟨rfl, trivial⟩) ?_ ?_
    · rintro ⟨⟩ hF
      refine W_seq ?_
      refine W_regV (by decide) ?_
      refine QV rfl ?_
      refine W_ret ?_
      cases hF
      exact ⟨_, _, S_refl, _, rfl, rfl, ⟨rfl, fun _ => rfl⟩, (AgM.weak ⟨rfl, trivial⟩)⟩
    · rintro a12 x_0 hF cont_0 brk_0 fin_0
      unfold trace_known_api_Sample_k1_L1 at hF
      refine W_seq ?_
      refine W_regV (by decide) ?_
      refine QV rfl ?_
      refine W_seq ?_
      refine W_condL (t := (decide (a12 < (List.length p2 : Int)))) rfl (fun h20 => ?_) (fun h20 => ?_)
      · have hF := bT h20 hF
        refine W_skip ?_
        refine W_seq ?_
        refine W_block ?_
        refine W_seq ?_
        refine W_regV (by decide) ?_
        obtain ⟨y17, hy17, hF⟩ := bB hF
        refine R_step SV trivial (T_ixT (tc := t_api_Sample) p2 rfl rfl hy17 ?_)
        refine QV rfl ?_
        refine W_seq ?_
        refine W_regV (by decide) ?_
        refine Q_run SV 3 rfl ?_
        obtain ⟨r18, hr18, hF⟩ := bB hF
        refine R_stepX trivial (X_call (callW _ rfl fnOk38) (trace_tables_4_fun _ _ hr18) ⟨⟨rfl, rfl, rfl, rfl, trivial⟩, trivial⟩ rfl (.inl rfl) ?_)
        refine R_step SV trivial (T_lookOk (keyI .i64) (vv := (fun y : ByteArray => (.one (.sc (.string y)) : MT))) p1 r18 ⟨#[]⟩ (.own _ rfl) rfl rfl ?_)
        refine QV rfl ?_
        refine W_seq ?_
        refine W_regV (by decide) ?_
        refine QV rfl ?_
        refine W_condL (t := (!(Option.isSome (mget r18 p1)))) rfl (fun h19 => ?_) (fun h19 => ?_)
        · have hF := bT h19 hF
          refine W_seq ?_
          refine W_regV (by decide) ?_
          refine QV rfl ?_
          have hF := fin_0 _ (Option.some.inj hF).symm
          refine W_ret ?_
          cases hF
          exact ⟨_, _, S_refl, _, rfl, rfl, ⟨rfl, fun _ => rfl⟩, (AgM.weak ⟨rfl, trivial⟩)⟩
        · have hF := bF h19 hF
          refine W_skip ?_
          refine W_regV (by decide) ?_
          refine QV rfl ?_
          exact cont_0 _ _ _ (Option.some.inj hF).symm (S_weak ⟨rfl, rfl, rfl, rfl, rfl, trivial⟩ ⟨rfl, trivial⟩)
      · have hF := bF h20 hF
        refine W_exit ?_
        refine thenQ_exit ?_
        refine thenQ_exit ?_
        refine blockQ_hit ?_
        exact brk_0 _ _ _ (Option.some.inj hF).symm (S_weak trivial ⟨rfl, trivial⟩)
def num_In (p0 : Int) : Option Bool :=
  (((bif (decide ((-1000000000000000) ≤ p0)) then some (decide (p0 ≤ 1000000000000000)) else some false) : Option Bool).bind fun v1 => some v1)
set_option maxRecDepth 100000 in
set_option maxHeartbeats 4000000 in
theorem num_In_fun (p0 : Int) (r : Bool) (hF : num_In p0 = some r) : Fun Try.prog 71 true [] [.c (.imm (tI p0))] noHeap (.c (.imm (.sc (.bool r)))) noHeap := by
  refine Fun.of_walk0 Try.func71 c71 (by kernel_rfl) (rs := [.tmp 2]) (by kernel_rfl) ?_
  unfold v71
  unfold num_In at hF
  refine W_seq ?_
  refine W_regV (by decide) ?_
  refine QV rfl ?_
  refine W_seq ?_
  refine W_join (fun _ _ h => h) hF (fun v1 => [(2, .c (.imm (.sc (.bool v1))))]) (fun v1 => []) ?_ ?_
  · rintro v1 hF
    refine W_ret ?_
    cases hF
    exact ⟨_, rfl, rfl, ⟨rfl, fun _ => rfl⟩, noOut _⟩
  · intro join hF
    refine W_regV (by decide) ?_
    refine Q_run SV 3 rfl ?_
    cases h2 : (decide ((-1000000000000000) ≤ p0))
    · have hF := bF' h2 hF
      refine QV rfl ?_
      exact join false _ _ hF (S_weak ⟨rfl, trivial⟩ trivial)
    · have hF := bT' h2 hF
      refine QV rfl ?_
      exact join (decide (p0 ≤ 1000000000000000)) _ _ hF (S_weak ⟨rfl, trivial⟩ trivial)
def cmp_isNaN_string (p0 : ByteArray) : Option Bool :=
  some (!decide (p0 = p0))
set_option maxRecDepth 100000 in
set_option maxHeartbeats 4000000 in
theorem cmp_isNaN_string_fun (p0 : ByteArray) (r : Bool) (hF : cmp_isNaN_string p0 = some r) : Fun Try.prog 87 true [] [.c (.imm (.sc (.string p0)))] noHeap (.c (.imm (.sc (.bool r)))) noHeap := by
  refine Fun.of_walk0 Try.func87 c87 (by kernel_rfl) (rs := [.tmp 2]) (by kernel_rfl) ?_
  unfold v87
  unfold cmp_isNaN_string at hF
  refine W_seq ?_
  refine W_regV (by decide) ?_
  refine QV rfl ?_
  refine W_seq ?_
  refine W_regV (by decide) ?_
  refine QV rfl ?_
  refine W_ret ?_
  cases hF
  exact ⟨_, rfl, rfl, ⟨rfl, fun _ => rfl⟩, noOut _⟩
def cmp_Compare_string (p0 : ByteArray) (p1 : ByteArray) : Option Int :=
  ((cmp_isNaN_string p0).bind fun r1 => ((cmp_isNaN_string p1).bind fun r2 => (bif r1 then (bif r2 then some 0 else some (-1)) else (bif r2 then some 1 else (bif (sLt p0 p1) then some (-1) else (bif (!(sLt p0 p1 || decide (p0 = p1))) then some 1 else some 0))))))
set_option maxRecDepth 100000 in
set_option maxHeartbeats 4000000 in
theorem cmp_Compare_string_fun (p0 : ByteArray) (p1 : ByteArray) (r : Int) (hF : cmp_Compare_string p0 p1 = some r) : Fun Try.prog 84 true [] [.c (.imm (.sc (.string p0))), .c (.imm (.sc (.string p1)))] noHeap (.c (.imm (tI r))) noHeap := by
  refine Fun.of_walk0 Try.func84 c84 (by kernel_rfl) (rs := [.tmp 4]) (by kernel_rfl) ?_
  unfold v84
  unfold cmp_Compare_string at hF
  refine W_seq ?_
  refine W_regV (by decide) ?_
  refine QV rfl ?_
  refine W_seq ?_
  refine W_regV (by decide) ?_
  refine Q_run SV 1 rfl ?_
  obtain ⟨r1, hr1, hF⟩ := bB hF
  refine R_step SV trivial (T_call (cmp_isNaN_string_fun _ _ hr1) ⟨rfl, trivial⟩ rfl (.inl rfl) ?_)
  refine QV rfl ?_
  refine W_seq ?_
  refine W_regV (by decide) ?_
  refine Q_run SV 1 rfl ?_
  obtain ⟨r2, hr2, hF⟩ := bB hF
  refine R_step SV trivial (T_call (cmp_isNaN_string_fun _ _ hr2) ⟨rfl, trivial⟩ rfl (.inl rfl) ?_)
  refine QV rfl ?_
  refine W_seq ?_
  refine W_seq ?_
  refine W_regV (by decide) ?_
  refine QV rfl ?_
  refine W_condL (t := r1) rfl (fun h7 => ?_) (fun h7 => ?_)
  · have hF := bT h7 hF
    refine W_seq ?_
    refine W_seq ?_
    refine W_regV (by decide) ?_
    refine QV rfl ?_
    refine W_condL (t := r2) rfl (fun h3 => ?_) (fun h3 => ?_)
    · have hF := bT h3 hF
      refine W_seq ?_
      refine W_regV (by decide) ?_
      refine QV rfl ?_
      refine W_ret ?_
      cases hF
      exact ⟨_, rfl, rfl, ⟨rfl, fun _ => rfl⟩, noOut _⟩
    · have hF := bF h3 hF
      refine W_skip ?_
      refine W_seq ?_
      refine W_regV (by decide) ?_
      refine QV rfl ?_
      refine W_ret ?_
      cases hF
      exact ⟨_, rfl, rfl, ⟨rfl, fun _ => rfl⟩, noOut _⟩
  · have hF := bF h7 hF
    refine W_skip ?_
    refine W_seq ?_
    refine W_seq ?_
    refine W_regV (by decide) ?_
    refine QV rfl ?_
    refine W_condL (t := r2) rfl (fun h6 => ?_) (fun h6 => ?_)
    · have hF := bT h6 hF
      refine W_seq ?_
      refine W_regV (by decide) ?_
      refine QV rfl ?_
      refine W_ret ?_
      cases hF
      exact ⟨_, rfl, rfl, ⟨rfl, fun _ => rfl⟩, noOut _⟩
    · have hF := bF h6 hF
      refine W_skip ?_
      refine W_seq ?_
      refine W_seq ?_
      refine W_regV (by decide) ?_
      refine QV rfl ?_
      refine W_condL (t := (sLt p0 p1)) rfl (fun h5 => ?_) (fun h5 => ?_)
      · have hF := bT h5 hF
        refine W_seq ?_
        refine W_regV (by decide) ?_
        refine QV rfl ?_
        refine W_ret ?_
        cases hF
        exact ⟨_, rfl, rfl, ⟨rfl, fun _ => rfl⟩, noOut _⟩
      · have hF := bF h5 hF
        refine W_skip ?_
        refine W_seq ?_
        refine W_seq ?_
        refine W_regV (by decide) ?_
        refine QV rfl ?_
        refine W_condL (t := (!(sLt p0 p1 || decide (p0 = p1)))) rfl (fun h4 => ?_) (fun h4 => ?_)
        · have hF := bT h4 hF
          refine W_seq ?_
          refine W_regV (by decide) ?_
          refine QV rfl ?_
          refine W_ret ?_
          cases hF
          exact ⟨_, rfl, rfl, ⟨rfl, fun _ => rfl⟩, noOut _⟩
        · have hF := bF h4 hF
          refine W_skip ?_
          refine W_seq ?_
          refine W_regV (by decide) ?_
          refine QV rfl ?_
          refine W_ret ?_
          cases hF
          exact ⟨_, rfl, rfl, ⟨rfl, fun _ => rfl⟩, noOut _⟩
def counter_order (p0 : api_Step) (p1 : api_Step) : Option Int :=
  ((cmp_Compare_string p0.fName p1.fName).bind fun r1 => ((cmp_Compare_int p0.fAt p1.fAt).bind fun r2 => ((cmp_Or_int [r1, r2]).bind fun r3 => some r3)))
set_option maxRecDepth 100000 in
set_option maxHeartbeats 4000000 in
theorem counter_order_fun (p0 : api_Step) (p1 : api_Step) (r : Int) (hF : counter_order p0 p1 = some r) : Fun Try.prog 72 true [] [.agg [.imm (.sc (.string p0.fName)), .imm (tI p0.fAt), .imm (tI p0.fValue)], .agg [.imm (.sc (.string p1.fName)), .imm (tI p1.fAt), .imm (tI p1.fValue)]] noHeap (.c (.imm (tI r))) noHeap := by
  refine Fun.of_walk0 Try.func72 c72 (by kernel_rfl) (rs := [.tmp 4]) (by kernel_rfl) ?_
  unfold v72
  unfold counter_order at hF
  refine W_seq ?_
  refine W_regV (by decide) ?_
  refine QV rfl ?_
  refine W_seq ?_
  refine W_regD (by decide) (by kernel_rfl) rfl ?_
  refine Q_run SP 4 rfl ?_
  obtain ⟨r1, hr1, hF⟩ := bB hF
  refine R_step SP trivial (T_call (cmp_Compare_string_fun _ _ _ hr1) ⟨rfl, rfl, trivial⟩ rfl (.inl rfl) ?_)
  refine Q_run SP 4 rfl ?_
  obtain ⟨r2, hr2, hF⟩ := bB hF
  refine R_step SP trivial (T_call (cmp_Compare_int_fun _ _ _ hr2) ⟨rfl, rfl, trivial⟩ rfl (.inl rfl) ?_)
  refine R_step SP trivial (T_bsl (tc := t_i64) [r1, r2] rfl ⟨rfl, rfl, trivial⟩ rfl (fun _ => rfl) rfl ?_)
  obtain ⟨r3, hr3, hF⟩ := bB hF
  refine R_step SP trivial (T_call (cmp_Or_int_fun _ _ hr3) ⟨⟨_, rfl⟩, trivial⟩ rfl (.inl rfl) ?_)
  refine QP rfl ?_
  refine W_ret ?_
  cases hF
  exact ⟨_, rfl, rfl, ⟨rfl, fun _ => rfl⟩, noOut _⟩
def counter_Check_L1 (p0 : (List api_Step)) : Int → Option (Int ⊕ (Unit ⊕ Int)) := fun a40 =>
  (bif (decide (a40 < (List.length p0 : Int))) then ((idx p0 a40).bind fun y59 => ((intern_Name y59.fName).bind fun r60 => (bif (!decide (r60 = 0)) then some (.inr (.inr r60)) else (((bif (decide (y59.fAt < 0)) then some true else (bif (decide (1000000000000 < y59.fAt)) then some true else ((num_In y59.fValue).bind fun r74 => some (!r74)))) : Option Bool).bind fun v61 => (bif v61 then some (.inr (.inr 2)) else (((bif (decide (0 < a40)) then ((idx p0 (w64 (a40 - 1))).bind fun y65 => ((counter_order y65 y59).bind fun r66 => (bif (decide (0 ≤ r66)) then some true else ((idx p0 (w64 (a40 - 1))).bind fun y68 => (bif (decide (y68.fName = y59.fName)) then ((idx p0 (w64 (a40 - 1))).bind fun y70 => some (decide (y70.fValue = y59.fValue))) else some false))))) else some false) : Option Bool).bind fun v62 => (bif v62 then some (.inr (.inr 11)) else some (.inl (w64 (a40 + 1)))))))))) else some (.inr (.inl ())))
def counter_Check (p0 : (List api_Step)) : Option Int :=
  ((loop (counter_Check_L1 p0) 0).bind fun | .inl _ => some 0 | .inr rv => some rv)
set_option maxRecDepth 100000 in
set_option maxHeartbeats 4000000 in
theorem counter_Check_fun (p0 : (List api_Step)) (r : Int) (hF : counter_Check p0 = some r) : Fun Try.prog 39 true [] [.c (.imm (.sl 3 (List.map t_api_Step p0)))] noHeap (.c (.imm (tI r))) noHeap := by
  refine Fun.of_walk0 Try.func39 c39 (by kernel_rfl) (rs := [.tmp 2]) (by kernel_rfl) ?_
  unfold v39
  unfold counter_Check at hF
  refine W_seq ?_
  refine W_regV (by decide) ?_
  refine QV rfl ?_
  refine W_seq ?_
  refine W_seq ?_
  refine W_regV (by decide) ?_
  refine Q_run SV 1 rfl ?_
  refine R_step SV trivial (T_len (tc := t_api_Step) p0 .tree ?_)
  refine QV rfl ?_
  refine W_for (fun _ _ h => h) hF (.inl) (fun a40 => [(0, .c (.imm (.sl 3 (List.map t_api_Step p0)))), (6, .c (.imm (.sl 3 (List.map t_api_Step p0)))), (7, .c (.imm (tI (List.length p0 : Int)))), (8, .c (.imm (tI a40)))]) (fun a40 => []) (fun _ => []) (fun _ => []) (S_weak ⟨rfl, rfl, rfl, rfl, trivial⟩ trivial) ?_ ?_
  · rintro ⟨⟩ hF
    refine W_seq ?_
    refine W_regV (by decide) ?_
    refine QV rfl ?_
    refine W_ret ?_
    cases hF
    exact ⟨_, rfl, rfl, ⟨rfl, fun _ => rfl⟩, noOut _⟩
  · rintro a40 x_0 hF cont_0 brk_0 fin_0
    unfold counter_Check_L1 at hF
    refine W_seq ?_
    refine W_regV (by decide) ?_
    refine QV rfl ?_
    refine W_seq ?_
    refine W_condL (t := (decide (a40 < (List.length p0 : Int)))) rfl (fun h76 => ?_) (fun h76 => ?_)
    · have hF := bT h76 hF
      refine W_skip ?_
      refine W_seq ?_
      refine W_block ?_
      refine W_seq ?_
      refine W_regV (by decide) ?_
      refine Q_run SV 1 rfl ?_
      obtain ⟨y59, hy59, hF⟩ := bB hF
      refine R_step SV trivial (T_ixT (tc := t_api_Step) p0 rfl rfl hy59 ?_)
      refine QV rfl ?_
      refine W_seq ?_
      refine W_seq ?_
      refine W_regV (by decide) ?_
      refine Q_run SV 2 rfl ?_
      obtain ⟨r60, hr60, hF⟩ := bB hF
      refine R_step SV trivial (T_call (intern_Name_fun _ _ hr60) ⟨rfl, trivial⟩ rfl (.inl rfl) ?_)
      refine QV rfl ?_
      refine W_seq ?_
      refine W_regV (by decide) ?_
      refine QV rfl ?_
      refine W_condL (t := (!decide (r60 = 0))) rfl (fun h75 => ?_) (fun h75 => ?_)
      · have hF := bT h75 hF
        refine W_seq ?_
        refine W_regV (by decide) ?_
        refine QV rfl ?_
        have hF := fin_0 _ (Option.some.inj hF).symm
        refine W_ret ?_
        cases hF
        exact ⟨_, rfl, rfl, ⟨rfl, fun _ => rfl⟩, noOut _⟩
      · have hF := bF h75 hF
        refine W_skip ?_
        refine W_seq ?_
        refine W_seq ?_
        refine W_join (fun _ _ h => h) hF (fun v61 => [(0, .c (.imm (.sl 3 (List.map t_api_Step p0)))), (3, .c (.imm (tI a40))), (4, .c (.ptrO (4,0) 0)), (6, .c (.imm (.sl 3 (List.map t_api_Step p0)))), (7, .c (.imm (tI (List.length p0 : Int)))), (8, .c (.imm (tI a40))), (32, .c (.imm (.sc (.bool v61))))]) (fun v61 => [((4,0), .box [.imm (.sc (.string y59.fName)), .imm (tI y59.fAt), .imm (tI y59.fValue)])]) ?_ ?_
        · rintro v61 hF
          refine W_condL (t := v61) rfl (fun h71 => ?_) (fun h71 => ?_)
          · have hF := bT h71 hF
            refine W_seq ?_
            refine W_regV (by decide) ?_
            refine QV rfl ?_
            have hF := fin_0 _ (Option.some.inj hF).symm
            refine W_ret ?_
            cases hF
            exact ⟨_, rfl, rfl, ⟨rfl, fun _ => rfl⟩, noOut _⟩
          · have hF := bF h71 hF
            refine W_skip ?_
            refine W_seq ?_
            refine W_join (fun _ _ h => h) hF (fun v62 => [(0, .c (.imm (.sl 3 (List.map t_api_Step p0)))), (6, .c (.imm (.sl 3 (List.map t_api_Step p0)))), (7, .c (.imm (tI (List.length p0 : Int)))), (8, .c (.imm (tI a40))), (66, .c (.imm (.sc (.bool v62))))]) (fun v62 => []) ?_ ?_
            · rintro v62 hF
              refine W_condL (t := v62) rfl (fun h63 => ?_) (fun h63 => ?_)
              · have hF := bT h63 hF
                refine W_seq ?_
                refine W_regV (by decide) ?_
                refine QV rfl ?_
                have hF := fin_0 _ (Option.some.inj hF).symm
                refine W_ret ?_
                cases hF
                exact ⟨_, rfl, rfl, ⟨rfl, fun _ => rfl⟩, noOut _⟩
              · have hF := bF h63 hF
                refine W_skip ?_
                refine W_regV (by decide) ?_
                refine QV rfl ?_
                exact cont_0 _ _ _ (Option.some.inj hF).symm (S_weak ⟨rfl, rfl, rfl, rfl, trivial⟩ trivial)
            · intro join hF
              refine W_regD (by decide) (by kernel_rfl) rfl ?_
              refine Q_run SP 3 rfl ?_
              cases h64 : (decide (0 < a40))
              · have hF := bF' h64 hF
                refine QP rfl ?_
                exact join false _ _ hF (S_weak ⟨rfl, rfl, rfl, rfl, rfl, trivial⟩ trivial)
              · have hF := bT' h64 hF
                refine Q_run SP 3 rfl ?_
                obtain ⟨y65, hy65, hF⟩ := bB' hF
                refine R_step SP rfl (T_ixT (tc := t_api_Step) p0 rfl rfl hy65 ?_)
                refine Q_run SP 2 rfl ?_
                obtain ⟨r66, hr66, hF⟩ := bB' hF
                refine R_step SP rfl (T_call (counter_order_fun _ _ _ hr66) ⟨⟨rfl, rfl, rfl, trivial⟩, ⟨rfl, rfl, rfl, trivial⟩, trivial⟩ rfl (.inl rfl) ?_)
                refine Q_run SP 2 rfl ?_
                cases h67 : (decide (0 ≤ r66))
                · have hF := bF' h67 hF
                  refine Q_run SP 3 rfl ?_
                  obtain ⟨y68, hy68, hF⟩ := bB' hF
                  refine R_step SP rfl (T_ixT (tc := t_api_Step) p0 rfl rfl hy68 ?_)
                  refine Q_run SP 6 rfl ?_
                  cases h69 : (decide (y68.fName = y59.fName))
                  · have hF := bF' h69 hF
                    refine QP rfl ?_
                    exact join false _ _ hF (S_weak ⟨rfl, rfl, rfl, rfl, rfl, trivial⟩ trivial)
                  · have hF := bT' h69 hF
                    refine Q_run SP 3 rfl ?_
                    obtain ⟨y70, hy70, hF⟩ := bB' hF
                    refine R_step SP rfl (T_ixT (tc := t_api_Step) p0 rfl rfl hy70 ?_)
                    refine QP rfl ?_
                    exact join (decide (y70.fValue = y59.fValue)) _ _ hF (S_weak ⟨rfl, rfl, rfl, rfl, rfl, trivial⟩ trivial)
                · have hF := bT' h67 hF
                  refine QP rfl ?_
                  exact join true _ _ hF (S_weak ⟨rfl, rfl, rfl, rfl, rfl, trivial⟩ trivial)
        · intro join hF
          refine W_regV (by decide) ?_
          refine Q_run SV 4 rfl ?_
          cases h72 : (decide (y59.fAt < 0))
          · have hF := bF' h72 hF
            refine Q_run SV 5 rfl ?_
            cases h73 : (decide (1000000000000 < y59.fAt))
            · have hF := bF' h73 hF
              refine Q_run SV 2 rfl ?_
              obtain ⟨r74, hr74, hF⟩ := bB' hF
              refine R_step SV rfl (T_call (num_In_fun _ _ hr74) ⟨rfl, trivial⟩ rfl (.inl rfl) ?_)
              refine QV rfl ?_
              exact join (!r74) _ _ hF (S_weak ⟨rfl, rfl, rfl, rfl, rfl, rfl, rfl, trivial⟩ ⟨rfl, trivial⟩)
            · have hF := bT' h73 hF
              refine QV rfl ?_
              exact join true _ _ hF (S_weak ⟨rfl, rfl, rfl, rfl, rfl, rfl, rfl, trivial⟩ ⟨rfl, trivial⟩)
          · have hF := bT' h72 hF
            refine QV rfl ?_
            exact join true _ _ hF (S_weak ⟨rfl, rfl, rfl, rfl, rfl, rfl, rfl, trivial⟩ ⟨rfl, trivial⟩)
    · have hF := bF h76 hF
      refine W_exit ?_
      refine thenQ_exit ?_
      refine thenQ_exit ?_
      refine blockQ_hit ?_
      exact brk_0 _ _ _ (Option.some.inj hF).symm (S_weak trivial trivial)
def memory_Check_L1 (y143 : api_Block) (y147 : (List api_Block)) : Int → Option (Int ⊕ (Unit ⊕ (Int ⊕ (Unit ⊕ Int)))) := fun a163 =>
  (bif (decide (a163 < (List.length y147 : Int))) then ((idx y147 a163).bind fun y170 => (((bif (decide (y170.fId = y143.fId)) then (bif (decide (y170.fSpan.fFrom < y143.fSpan.fTo)) then some (decide (y143.fSpan.fFrom < y170.fSpan.fTo)) else some false) else some false) : Option Bool).bind fun v171 => (bif v171 then some (.inr (.inr (.inr (.inr 4)))) else some (.inl (w64 (a163 + 1)))))) else some (.inr (.inl ())))
def memory_Check_L2 (p0 : (List api_Block)) : Int → Option (Int ⊕ (Unit ⊕ Int)) := fun a96 =>
  (bif (decide (a96 < (List.length p0 : Int))) then ((idx p0 a96).bind fun y143 => (((bif (decide (y143.fId < 0)) then some true else (bif (decide (1000000000000000 < y143.fId)) then some true else (bif (decide (y143.fThread < 0)) then some true else (bif (decide (1000000000000000 < y143.fThread)) then some true else (bif (decide (y143.fSize < 1)) then some true else (bif (decide (1000000000000 < y143.fSize)) then some true else ((spans_Valid y143.fSpan).bind fun r187 => some (!r187)))))))) : Option Bool).bind fun v144 => (bif v144 then some (.inr (.inr 2)) else ((intern_Frames y143.fStack).bind fun r145 => (bif (!decide (r145 = 0)) then some (.inr (.inr r145)) else (((bif (decide (0 < a96)) then ((idx p0 (w64 (a96 - 1))).bind fun y178 => some (decide (y143.fSpan.fFrom < y178.fSpan.fFrom))) else some false) : Option Bool).bind fun v146 => (bif v146 then some (.inr (.inr 11)) else ((slcPart p0 0 a96).bind fun y147 => ((loop (memory_Check_L1 y143 y147) 0).bind fun | .inl _ => some (.inl (w64 (a96 + 1))) | .inr rv => some rv))))))))) else some (.inr (.inl ())))
def memory_Check (p0 : (List api_Block)) : Option Int :=
  ((loop (memory_Check_L2 p0) 0).bind fun | .inl _ => some 0 | .inr rv => some rv)
set_option maxRecDepth 100000 in
set_option maxHeartbeats 4000000 in
theorem memory_Check_fun (p0 : (List api_Block)) (r : Int) (hF : memory_Check p0 = some r) : Fun Try.prog 41 true [] [.c (.imm (.sl 7 (List.map t_api_Block p0)))] noHeap (.c (.imm (tI r))) noHeap := by
  refine Fun.of_walk0 Try.func41 c41 (by kernel_rfl) (rs := [.tmp 2]) (by kernel_rfl) ?_
  unfold v41
  unfold memory_Check at hF
  refine W_seq ?_
  refine W_regV (by decide) ?_
  refine QV rfl ?_
  refine W_seq ?_
  refine W_seq ?_
  refine W_regV (by decide) ?_
  refine Q_run SV 1 rfl ?_
  refine R_step SV trivial (T_len (tc := t_api_Block) p0 .tree ?_)
  refine QV rfl ?_
  refine W_for (fun _ _ h => h) hF (.inl) (fun a96 => [(0, .c (.imm (.sl 7 (List.map t_api_Block p0)))), (8, .c (.imm (.sl 7 (List.map t_api_Block p0)))), (9, .c (.imm (tI (List.length p0 : Int)))), (10, .c (.imm (tI a96)))]) (fun a96 => []) (fun _ => []) (fun _ => []) (S_weak ⟨rfl, rfl, rfl, rfl, trivial⟩ trivial) ?_ ?_
  · rintro ⟨⟩ hF
    refine W_seq ?_
    refine W_regV (by decide) ?_
    refine QV rfl ?_
    refine W_ret ?_
    cases hF
    exact ⟨_, rfl, rfl, ⟨rfl, fun _ => rfl⟩, noOut _⟩
  · rintro a96 x_0 hF cont_0 brk_0 fin_0
    unfold memory_Check_L2 at hF
    refine W_seq ?_
    refine W_regV (by decide) ?_
    refine QV rfl ?_
    refine W_seq ?_
    refine W_condL (t := (decide (a96 < (List.length p0 : Int)))) rfl (fun h188 => ?_) (fun h188 => ?_)
    · have hF := bT h188 hF
      refine W_skip ?_
      refine W_seq ?_
      refine W_block ?_
      refine W_seq ?_
      refine W_regV (by decide) ?_
      refine Q_run SV 1 rfl ?_
      obtain ⟨y143, hy143, hF⟩ := bB hF
      refine R_step SV trivial (T_ixT (tc := t_api_Block) p0 rfl rfl hy143 ?_)
      refine QV rfl ?_
      refine W_seq ?_
      refine W_seq ?_
      refine W_join (fun _ _ h => h) hF (fun v144 => [(0, .c (.imm (.sl 7 (List.map t_api_Block p0)))), (3, .c (.imm (tI a96))), (4, .c (.ptrO (4,0) 0)), (8, .c (.imm (.sl 7 (List.map t_api_Block p0)))), (9, .c (.imm (tI (List.length p0 : Int)))), (10, .c (.imm (tI a96))), (48, .c (.imm (.sc (.bool v144))))]) (fun v144 => [((4,0), .box [.imm (tI y143.fId), .imm (tI y143.fThread), .imm (tI y143.fSize), .imm (tI y143.fSpan.fFrom), .imm (tI y143.fSpan.fTo), .imm (.sl 1 (List.map t_str y143.fStack)), .imm (.sc (.bool y143.fLive))])]) ?_ ?_
      · rintro v144 hF
        refine W_condL (t := v144) rfl (fun h180 => ?_) (fun h180 => ?_)
        · have hF := bT h180 hF
          refine W_seq ?_
          refine W_regV (by decide) ?_
          refine QV rfl ?_
          have hF := fin_0 _ (Option.some.inj hF).symm
          refine W_ret ?_
          cases hF
          exact ⟨_, rfl, rfl, ⟨rfl, fun _ => rfl⟩, noOut _⟩
        · have hF := bF h180 hF
          refine W_skip ?_
          refine W_seq ?_
          refine W_seq ?_
          refine W_regV (by decide) ?_
          refine Q_run SV 2 rfl ?_
          obtain ⟨r145, hr145, hF⟩ := bB hF
          refine R_step SV trivial (T_call (intern_Frames_fun _ _ hr145) ⟨rfl, trivial⟩ rfl (.inl rfl) ?_)
          refine QV rfl ?_
          refine W_seq ?_
          refine W_regV (by decide) ?_
          refine QV rfl ?_
          refine W_condL (t := (!decide (r145 = 0))) rfl (fun h179 => ?_) (fun h179 => ?_)
          · have hF := bT h179 hF
            refine W_seq ?_
            refine W_regV (by decide) ?_
            refine QV rfl ?_
            have hF := fin_0 _ (Option.some.inj hF).symm
            refine W_ret ?_
            cases hF
            exact ⟨_, rfl, rfl, ⟨rfl, fun _ => rfl⟩, noOut _⟩
          · have hF := bF h179 hF
            refine W_skip ?_
            refine W_seq ?_
            refine W_seq ?_
            refine W_join (fun _ _ h => h) hF (fun v146 => [(0, .c (.imm (.sl 7 (List.map t_api_Block p0)))), (3, .c (.imm (tI a96))), (4, .c (.ptrO (4,0) 0)), (8, .c (.imm (.sl 7 (List.map t_api_Block p0)))), (9, .c (.imm (tI (List.length p0 : Int)))), (10, .c (.imm (tI a96))), (69, .c (.imm (.sc (.bool v146))))]) (fun v146 => [((4,0), .box [.imm (tI y143.fId), .imm (tI y143.fThread), .imm (tI y143.fSize), .imm (tI y143.fSpan.fFrom), .imm (tI y143.fSpan.fTo), .imm (.sl 1 (List.map t_str y143.fStack)), .imm (.sc (.bool y143.fLive))])]) ?_ ?_
            · rintro v146 hF
              refine W_condL (t := v146) rfl (fun h176 => ?_) (fun h176 => ?_)
              · have hF := bT h176 hF
                refine W_seq ?_
                refine W_regV (by decide) ?_
                refine QV rfl ?_
                have hF := fin_0 _ (Option.some.inj hF).symm
                refine W_ret ?_
                cases hF
                exact ⟨_, rfl, rfl, ⟨rfl, fun _ => rfl⟩, noOut _⟩
              · have hF := bF h176 hF
                refine W_skip ?_
                refine W_seq ?_
                refine W_regV (by decide) ?_
                refine Q_run SV 2 rfl ?_
                obtain ⟨y147, hy147, hF⟩ := bB hF
                refine R_step SV trivial (T_sub (tc := t_api_Block) p0 rfl rfl rfl hy147 ?_)
                refine R_step SV trivial (T_len (tc := t_api_Block) y147 .tree ?_)
                refine QV rfl ?_
                refine W_for (fun _ _ h => h) hF (.inl) (fun a163 => [(0, .c (.imm (.sl 7 (List.map t_api_Block p0)))), (4, .c (.ptrO (4,0) 0)), (8, .c (.imm (.sl 7 (List.map t_api_Block p0)))), (9, .c (.imm (tI (List.length p0 : Int)))), (10, .c (.imm (tI a96))), (72, .c (.imm (.sl 7 (List.map t_api_Block y147)))), (73, .c (.imm (tI (List.length y147 : Int)))), (74, .c (.imm (tI a163)))]) (fun a163 => [((4,0), .box [.imm (tI y143.fId), .imm (tI y143.fThread), .imm (tI y143.fSize), .imm (tI y143.fSpan.fFrom), .imm (tI y143.fSpan.fTo), .imm (.sl 1 (List.map t_str y143.fStack)), .imm (.sc (.bool y143.fLive))])]) (fun _ => [(0, .c (.imm (.sl 7 (List.map t_api_Block p0)))), (8, .c (.imm (.sl 7 (List.map t_api_Block p0)))), (9, .c (.imm (tI (List.length p0 : Int)))), (10, .c (.imm (tI a96)))]) (fun _ => []) (S_weak ⟨rfl, rfl, rfl, rfl, rfl, rfl, rfl, rfl, trivial⟩ ⟨rfl, trivial⟩) ?_ ?_
                · rintro ⟨⟩ hF
                  refine W_regV (by decide) ?_
                  refine QV rfl ?_
                  exact cont_0 _ _ _ (Option.some.inj hF).symm (S_weak ⟨rfl, rfl, rfl, rfl, trivial⟩ trivial)
                · rintro a163 x_1 hF cont_1 brk_1 fin_1
                  unfold memory_Check_L1 at hF
                  refine W_seq ?_
                  refine W_regV (by decide) ?_
                  refine QV rfl ?_
                  refine W_seq ?_
                  refine W_condL (t := (decide (a163 < (List.length y147 : Int)))) rfl (fun h175 => ?_) (fun h175 => ?_)
                  · have hF := bT h175 hF
                    refine W_skip ?_
                    refine W_seq ?_
                    refine W_block ?_
                    refine W_seq ?_
                    refine W_regV (by decide) ?_
                    obtain ⟨y170, hy170, hF⟩ := bB hF
                    refine R_step SV trivial (T_ixT (tc := t_api_Block) y147 rfl rfl hy170 ?_)
                    refine QV rfl ?_
                    refine W_seq ?_
                    refine W_join (fun _ _ h => h) hF (fun v171 => [(0, .c (.imm (.sl 7 (List.map t_api_Block p0)))), (4, .c (.ptrO (4,0) 0)), (8, .c (.imm (.sl 7 (List.map t_api_Block p0)))), (9, .c (.imm (tI (List.length p0 : Int)))), (10, .c (.imm (tI a96))), (72, .c (.imm (.sl 7 (List.map t_api_Block y147)))), (73, .c (.imm (tI (List.length y147 : Int)))), (74, .c (.imm (tI a163))), (100, .c (.imm (.sc (.bool v171))))]) (fun v171 => [((4,0), .box [.imm (tI y143.fId), .imm (tI y143.fThread), .imm (tI y143.fSize), .imm (tI y143.fSpan.fFrom), .imm (tI y143.fSpan.fTo), .imm (.sl 1 (List.map t_str y143.fStack)), .imm (.sc (.bool y143.fLive))])]) ?_ ?_
                    · rintro v171 hF
                      refine W_condL (t := v171) rfl (fun h172 => ?_) (fun h172 => ?_)
                      · have hF := bT h172 hF
                        refine W_seq ?_
                        refine W_regV (by decide) ?_
                        refine QV rfl ?_
                        have hF := fin_1 _ (Option.some.inj hF).symm
                        have hF := fin_0 _ (Option.some.inj hF).symm
                        refine W_ret ?_
                        cases hF
                        exact ⟨_, rfl, rfl, ⟨rfl, fun _ => rfl⟩, noOut _⟩
                      · have hF := bF h172 hF
                        refine W_skip ?_
                        refine W_regV (by decide) ?_
                        refine QV rfl ?_
                        exact cont_1 _ _ _ (Option.some.inj hF).symm (S_weak ⟨rfl, rfl, rfl, rfl, rfl, rfl, rfl, rfl, trivial⟩ ⟨rfl, trivial⟩)
                    · intro join hF
                      refine W_regV (by decide) ?_
                      refine Q_run SV 6 rfl ?_
                      cases h173 : (decide (y170.fId = y143.fId))
                      · have hF := bF' h173 hF
                        refine QV rfl ?_
                        exact join false _ _ hF (S_weak ⟨rfl, rfl, rfl, rfl, rfl, rfl, rfl, rfl, rfl, trivial⟩ ⟨rfl, trivial⟩)
                      · have hF := bT' h173 hF
                        refine Q_run SV 9 rfl ?_
                        cases h174 : (decide (y170.fSpan.fFrom < y143.fSpan.fTo))
                        · have hF := bF' h174 hF
                          refine QV rfl ?_
                          exact join false _ _ hF (S_weak ⟨rfl, rfl, rfl, rfl, rfl, rfl, rfl, rfl, rfl, trivial⟩ ⟨rfl, trivial⟩)
                        · have hF := bT' h174 hF
                          refine QV rfl ?_
                          exact join (decide (y143.fSpan.fFrom < y170.fSpan.fTo)) _ _ hF (S_weak ⟨rfl, rfl, rfl, rfl, rfl, rfl, rfl, rfl, rfl, trivial⟩ ⟨rfl, trivial⟩)
                  · have hF := bF h175 hF
                    refine W_exit ?_
                    refine thenQ_exit ?_
                    refine thenQ_exit ?_
                    refine blockQ_hit ?_
                    exact brk_1 _ _ _ (Option.some.inj hF).symm (S_weak ⟨rfl, rfl, rfl, rfl, trivial⟩ trivial)
            · intro join hF
              refine W_regD (by decide) (by kernel_rfl) rfl ?_
              refine Q_run SP 3 rfl ?_
              cases h177 : (decide (0 < a96))
              · have hF := bF' h177 hF
                refine QP rfl ?_
                exact join false _ _ hF (S_weak ⟨rfl, rfl, rfl, rfl, rfl, rfl, rfl, trivial⟩ ⟨rfl, trivial⟩)
              · have hF := bT' h177 hF
                refine Q_run SP 6 rfl ?_
                obtain ⟨y178, hy178, hF⟩ := bB' hF
                refine R_step SP rfl (T_ixT (tc := t_api_Block) p0 rfl rfl hy178 ?_)
                refine QP rfl ?_
                exact join (decide (y143.fSpan.fFrom < y178.fSpan.fFrom)) _ _ hF (S_weak ⟨rfl, rfl, rfl, rfl, rfl, rfl, rfl, trivial⟩ ⟨rfl, trivial⟩)
      · intro join hF
        refine W_regV (by decide) ?_
        refine Q_run SV 4 rfl ?_
        cases h181 : (decide (y143.fId < 0))
        · have hF := bF' h181 hF
          refine Q_run SV 5 rfl ?_
          cases h182 : (decide (1000000000000000 < y143.fId))
          · have hF := bF' h182 hF
            refine Q_run SV 5 rfl ?_
            cases h183 : (decide (y143.fThread < 0))
            · have hF := bF' h183 hF
              refine Q_run SV 5 rfl ?_
              cases h184 : (decide (1000000000000000 < y143.fThread))
              · have hF := bF' h184 hF
                refine Q_run SV 5 rfl ?_
                cases h185 : (decide (y143.fSize < 1))
                · have hF := bF' h185 hF
                  refine Q_run SV 5 rfl ?_
                  cases h186 : (decide (1000000000000 < y143.fSize))
                  · have hF := bF' h186 hF
                    refine Q_run SV 2 rfl ?_
                    obtain ⟨r187, hr187, hF⟩ := bB' hF
                    refine R_step SV rfl (T_call (spans_Valid_fun _ _ hr187) ⟨⟨rfl, rfl, trivial⟩, trivial⟩ rfl (.inl rfl) ?_)
                    refine QV rfl ?_
                    exact join (!r187) _ _ hF (S_weak ⟨rfl, rfl, rfl, rfl, rfl, rfl, rfl, trivial⟩ ⟨rfl, trivial⟩)
                  · have hF := bT' h186 hF
                    refine QV rfl ?_
                    exact join true _ _ hF (S_weak ⟨rfl, rfl, rfl, rfl, rfl, rfl, rfl, trivial⟩ ⟨rfl, trivial⟩)
                · have hF := bT' h185 hF
                  refine QV rfl ?_
                  exact join true _ _ hF (S_weak ⟨rfl, rfl, rfl, rfl, rfl, rfl, rfl, trivial⟩ ⟨rfl, trivial⟩)
              · have hF := bT' h184 hF
                refine QV rfl ?_
                exact join true _ _ hF (S_weak ⟨rfl, rfl, rfl, rfl, rfl, rfl, rfl, trivial⟩ ⟨rfl, trivial⟩)
            · have hF := bT' h183 hF
              refine QV rfl ?_
              exact join true _ _ hF (S_weak ⟨rfl, rfl, rfl, rfl, rfl, rfl, rfl, trivial⟩ ⟨rfl, trivial⟩)
          · have hF := bT' h182 hF
            refine QV rfl ?_
            exact join true _ _ hF (S_weak ⟨rfl, rfl, rfl, rfl, rfl, rfl, rfl, trivial⟩ ⟨rfl, trivial⟩)
        · have hF := bT' h181 hF
          refine QV rfl ?_
          exact join true _ _ hF (S_weak ⟨rfl, rfl, rfl, rfl, rfl, rfl, rfl, trivial⟩ ⟨rfl, trivial⟩)
    · have hF := bF h188 hF
      refine W_exit ?_
      refine thenQ_exit ?_
      refine thenQ_exit ?_
      refine blockQ_hit ?_
      exact brk_0 _ _ _ (Option.some.inj hF).symm (S_weak trivial trivial)
def trace_tables_5 (p0 : api_Block) : Option Int :=
  some p0.fThread
set_option maxRecDepth 100000 in
set_option maxHeartbeats 4000000 in
theorem trace_tables_5_fun (p0 : api_Block) (r : Int) (hF : trace_tables_5 p0 = some r) : Fun Try.prog 42 true [] [.agg [.imm (tI p0.fId), .imm (tI p0.fThread), .imm (tI p0.fSize), .imm (tI p0.fSpan.fFrom), .imm (tI p0.fSpan.fTo), .imm (.sl 1 (List.map t_str p0.fStack)), .imm (.sc (.bool p0.fLive))]] noHeap (.c (.imm (tI r))) noHeap := by
  refine Fun.of_walk0 Try.func42 c42 (by kernel_rfl) (rs := [.tmp 2]) (by kernel_rfl) ?_
  unfold v42
  unfold trace_tables_5 at hF
  refine W_seq ?_
  refine W_regV (by decide) ?_
  refine QV rfl ?_
  refine W_seq ?_
  refine W_regV (by decide) ?_
  refine QV rfl ?_
  refine W_ret ?_
  cases hF
  exact ⟨_, rfl, rfl, ⟨rfl, fun _ => rfl⟩, noOut _⟩
def trace_known_api_Block_k1_L1 (p1 : (List (Int × ByteArray))) (p2 : (List api_Block)) : Int → Option (Int ⊕ (Unit ⊕ Int)) := fun a12 =>
  (bif (decide (a12 < (List.length p2 : Int))) then ((idx p2 a12).bind fun y17 => ((trace_tables_5 y17).bind fun r18 => (bif (!(Option.isSome (mget r18 p1))) then some (.inr (.inr 5)) else some (.inl (w64 (a12 + 1)))))) else some (.inr (.inl ())))
def trace_known_api_Block_k1 (p0 : Int) (p1 : (List (Int × ByteArray))) (p2 : (List api_Block)) : Option Int :=
  (bif (!decide (p0 = 0)) then some p0 else ((loop (trace_known_api_Block_k1_L1 p1 p2) 0).bind fun | .inl _ => some 0 | .inr rv => some rv))
set_option maxRecDepth 100000 in
set_option maxHeartbeats 4000000 in
theorem trace_known_api_Block_k1_fun (p0 : Int) (p1 : (List (Int × ByteArray))) (p2 : (List api_Block)) (r : Int) (hF : trace_known_api_Block_k1 p0 p1 p2 = some r) : Fun Try.prog 40 false [(2600,0)] [.c (.imm (tI p0)), .c (.mapO (2600,0)), .c (.imm (.sl 7 (List.map t_api_Block p2))), .c (.fn 42 [])] (heapOf [((2600,0), mapOb (.int .i64) (fun n : Int => .int .i64 n) (fun y : ByteArray => (.one (.sc (.string y)) : MT)) p1)]) (.c (.imm (tI r))) (heapOf [((2600,0), mapOb (.int .i64) (fun n : Int => .int .i64 n) (fun y : ByteArray => (.one (.sc (.string y)) : MT)) p1)]) := by
  refine Fun.of_walkM [(2600,0)] (some [(2600,0)]) Try.func40 c40 (by kernel_rfl) (rs := [.tmp 8]) (by kernel_rfl) rfl rfl rfl ?_
  unfold v40
  unfold trace_known_api_Block_k1 at hF
  refine W_seq ?_
  refine W_regV (by decide) ?_
  refine QV rfl ?_
  refine W_seq ?_
  refine W_seq ?_
  refine W_regV (by decide) ?_
  refine QV rfl ?_
  refine W_condL (t := (!decide (p0 = 0))) rfl (fun h21 => ?_) (fun h21 => ?_)
  · have hF := bT h21 hF
    refine W_seq ?_
    refine W_regV (by decide) ?_
    refine QV rfl ?_
    refine W_ret ?_
    cases hF
    exact ⟨_, _, S_refl, _, rfl, rfl, ⟨rfl, fun _ => rfl⟩, (AgM.weak ⟨rfl, trivial⟩)⟩
  · have hF := bF h21 hF
    refine W_skip ?_
    refine W_seq ?_
    refine W_seq ?_
    refine W_regV (by decide) ?_
    refine Q_run SV 1 rfl ?_
    refine R_step SV trivial (T_len (tc := t_api_Block) p2 .tree ?_)
    refine QV rfl ?_
    refine W_for (fun _ _ h => h) hF (.inl) (fun a12 => [(1, .c (.mapO (2600,0))), (3, .c (.fn 42 [])), (16, .c (.imm (.sl 7 (List.map t_api_Block p2)))), (17, .c (.imm (tI (List.length p2 : Int)))), (18, .c (.imm (tI a12)))]) (fun a12 => [((2600,0), mapOb (.int .i64) (fun n : Int => .int .i64 n) (fun y : ByteArray => (.one (.sc (.string y)) : MT)) p1)]) (fun _ => []) (fun _ => [((2600,0), mapOb (.int .i64) (fun n : Int => .int .i64 n) (fun y : ByteArray => (.one (.sc (.string y)) : MT)) p1)]) (S_weak ⟨rfl, rfl, rfl, rfl, rfl, trivial⟩ ⟨rfl, trivial⟩) ?_ ?_
    · rintro ⟨⟩ hF
      refine W_seq ?_
      refine W_regV (by decide) ?_
      refine QV rfl ?_
      refine W_ret ?_
      cases hF
      exact ⟨_, _, S_refl, _, rfl, rfl, ⟨rfl, fun _ => rfl⟩, (AgM.weak ⟨rfl, trivial⟩)⟩
    · rintro a12 x_0 hF cont_0 brk_0 fin_0
      unfold trace_known_api_Block_k1_L1 at hF
      refine W_seq ?_
      refine W_regV (by decide) ?_
      refine QV rfl ?_
      refine W_seq ?_
      refine W_condL (t := (decide (a12 < (List.length p2 : Int)))) rfl (fun h20 => ?_) (fun h20 => ?_)
      · have hF := bT h20 hF
        refine W_skip ?_
        refine W_seq ?_
        refine W_block ?_
        refine W_seq ?_
        refine W_regV (by decide) ?_
        obtain ⟨y17, hy17, hF⟩ := bB hF
        refine R_step SV trivial (T_ixT (tc := t_api_Block) p2 rfl rfl hy17 ?_)
        refine QV rfl ?_
        refine W_seq ?_
        refine W_regV (by decide) ?_
        refine Q_run SV 3 rfl ?_
        obtain ⟨r18, hr18, hF⟩ := bB hF
        refine R_stepX trivial (X_call (callW _ rfl fnOk42) (trace_tables_5_fun _ _ hr18) ⟨⟨rfl, rfl, rfl, rfl, rfl, rfl, rfl, trivial⟩, trivial⟩ rfl (.inl rfl) ?_)
        refine R_step SV trivial (T_lookOk (keyI .i64) (vv := (fun y : ByteArray => (.one (.sc (.string y)) : MT))) p1 r18 ⟨#[]⟩ (.own _ rfl) rfl rfl ?_)
        refine QV rfl ?_
        refine W_seq ?_
        refine W_regV (by decide) ?_
        refine QV rfl ?_
        refine W_condL (t := (!(Option.isSome (mget r18 p1)))) rfl (fun h19 => ?_) (fun h19 => ?_)
        · have hF := bT h19 hF
          refine W_seq ?_
          refine W_regV (by decide) ?_
          refine QV rfl ?_
          have hF := fin_0 _ (Option.some.inj hF).symm
          refine W_ret ?_
          cases hF
          exact ⟨_, _, S_refl, _, rfl, rfl, ⟨rfl, fun _ => rfl⟩, (AgM.weak ⟨rfl, trivial⟩)⟩
        · have hF := bF h19 hF
          refine W_skip ?_
          refine W_regV (by decide) ?_
          refine QV rfl ?_
          exact cont_0 _ _ _ (Option.some.inj hF).symm (S_weak ⟨rfl, rfl, rfl, rfl, rfl, trivial⟩ ⟨rfl, trivial⟩)
      · have hF := bF h20 hF
        refine W_exit ?_
        refine thenQ_exit ?_
        refine thenQ_exit ?_
        refine blockQ_hit ?_
        exact brk_0 _ _ _ (Option.some.inj hF).symm (S_weak trivial ⟨rfl, trivial⟩)
def trace_losses_k1_L1 (p0 : (List (Int × ByteArray))) (p1 : (List api_Loss)) : Int → Option (Int ⊕ (Unit ⊕ Int)) := fun a20 =>
  (bif (decide (a20 < (List.length p1 : Int))) then ((idx p1 a20).bind fun y29 => (bif (!(Option.isSome (mget y29.fThread p0))) then some (.inr (.inr 5)) else ((((spans_Valid y29.fSpan).bind fun r32 => (bif (!r32) then some true else (bif (decide (y29.fCount < 1)) then some true else some (decide (1000000000000000 < y29.fCount))))) : Option Bool).bind fun v30 => (bif v30 then some (.inr (.inr 2)) else some (.inl (w64 (a20 + 1))))))) else some (.inr (.inl ())))
def trace_losses_k1 (p0 : (List (Int × ByteArray))) (p1 : (List api_Loss)) : Option Int :=
  ((loop (trace_losses_k1_L1 p0 p1) 0).bind fun | .inl _ => some 0 | .inr rv => some rv)
set_option maxRecDepth 100000 in
set_option maxHeartbeats 4000000 in
theorem trace_losses_k1_fun (p0 : (List (Int × ByteArray))) (p1 : (List api_Loss)) (r : Int) (hF : trace_losses_k1 p0 p1 = some r) : Fun Try.prog 43 false [(2720,0)] [.c (.mapO (2720,0)), .c (.imm (.sl 4 (List.map t_api_Loss p1)))] (heapOf [((2720,0), mapOb (.int .i64) (fun n : Int => .int .i64 n) (fun y : ByteArray => (.one (.sc (.string y)) : MT)) p0)]) (.c (.imm (tI r))) (heapOf [((2720,0), mapOb (.int .i64) (fun n : Int => .int .i64 n) (fun y : ByteArray => (.one (.sc (.string y)) : MT)) p0)]) := by
  refine Fun.of_walkM [(2720,0)] (some [(2720,0)]) Try.func43 c43 (by kernel_rfl) (rs := [.tmp 4]) (by kernel_rfl) rfl rfl rfl ?_
  unfold v43
  unfold trace_losses_k1 at hF
  refine W_seq ?_
  refine W_regV (by decide) ?_
  refine QV rfl ?_
  refine W_seq ?_
  refine W_seq ?_
  refine W_regV (by decide) ?_
  refine Q_run SV 1 rfl ?_
  refine R_step SV trivial (T_len (tc := t_api_Loss) p1 .tree ?_)
  refine QV rfl ?_
  refine W_for (fun _ _ h => h) hF (.inl) (fun a20 => [(0, .c (.mapO (2720,0))), (9, .c (.imm (.sl 4 (List.map t_api_Loss p1)))), (10, .c (.imm (tI (List.length p1 : Int)))), (11, .c (.imm (tI a20)))]) (fun a20 => [((2720,0), mapOb (.int .i64) (fun n : Int => .int .i64 n) (fun y : ByteArray => (.one (.sc (.string y)) : MT)) p0)]) (fun _ => []) (fun _ => [((2720,0), mapOb (.int .i64) (fun n : Int => .int .i64 n) (fun y : ByteArray => (.one (.sc (.string y)) : MT)) p0)]) (S_weak ⟨rfl, rfl, rfl, rfl, trivial⟩ ⟨rfl, trivial⟩) ?_ ?_
  · rintro ⟨⟩ hF
    refine W_seq ?_
    refine W_regV (by decide) ?_
    refine QV rfl ?_
    refine W_ret ?_
    cases hF
    exact ⟨_, _, S_refl, _, rfl, rfl, ⟨rfl, fun _ => rfl⟩, (AgM.weak ⟨rfl, trivial⟩)⟩
  · rintro a20 x_0 hF cont_0 brk_0 fin_0
    unfold trace_losses_k1_L1 at hF
    refine W_seq ?_
    refine W_regV (by decide) ?_
    refine QV rfl ?_
    refine W_seq ?_
    refine W_condL (t := (decide (a20 < (List.length p1 : Int)))) rfl (fun h36 => ?_) (fun h36 => ?_)
    · have hF := bT h36 hF
      refine W_skip ?_
      refine W_seq ?_
      refine W_block ?_
      refine W_seq ?_
      refine W_regV (by decide) ?_
      obtain ⟨y29, hy29, hF⟩ := bB hF
      refine R_step SV trivial (T_ixT (tc := t_api_Loss) p1 rfl rfl hy29 ?_)
      refine QV rfl ?_
      refine W_seq ?_
      refine W_seq ?_
      refine W_regV (by decide) ?_
      refine Q_run SV 3 rfl ?_
      refine R_step SV trivial (T_lookOk (keyI .i64) (vv := (fun y : ByteArray => (.one (.sc (.string y)) : MT))) p0 y29.fThread ⟨#[]⟩ (.own _ rfl) rfl rfl ?_)
      refine QV rfl ?_
      refine W_seq ?_
      refine W_regV (by decide) ?_
      refine QV rfl ?_
      refine W_condL (t := (!(Option.isSome (mget y29.fThread p0)))) rfl (fun h35 => ?_) (fun h35 => ?_)
      · have hF := bT h35 hF
        refine W_seq ?_
        refine W_regV (by decide) ?_
        refine QV rfl ?_
        have hF := fin_0 _ (Option.some.inj hF).symm
        refine W_ret ?_
        cases hF
        exact ⟨_, _, S_refl, _, rfl, rfl, ⟨rfl, fun _ => rfl⟩, (AgM.weak ⟨rfl, trivial⟩)⟩
      · have hF := bF h35 hF
        refine W_skip ?_
        refine W_seq ?_
        refine W_join (fun _ _ h => h) hF (fun v30 => [(0, .c (.mapO (2720,0))), (9, .c (.imm (.sl 4 (List.map t_api_Loss p1)))), (10, .c (.imm (tI (List.length p1 : Int)))), (11, .c (.imm (tI a20))), (37, .c (.imm (.sc (.bool v30))))]) (fun v30 => [((2720,0), mapOb (.int .i64) (fun n : Int => .int .i64 n) (fun y : ByteArray => (.one (.sc (.string y)) : MT)) p0)]) ?_ ?_
        · rintro v30 hF
          refine W_condL (t := v30) rfl (fun h31 => ?_) (fun h31 => ?_)
          · have hF := bT h31 hF
            refine W_seq ?_
            refine W_regV (by decide) ?_
            refine QV rfl ?_
            have hF := fin_0 _ (Option.some.inj hF).symm
            refine W_ret ?_
            cases hF
            exact ⟨_, _, S_refl, _, rfl, rfl, ⟨rfl, fun _ => rfl⟩, (AgM.weak ⟨rfl, trivial⟩)⟩
          · have hF := bF h31 hF
            refine W_skip ?_
            refine W_regV (by decide) ?_
            refine QV rfl ?_
            exact cont_0 _ _ _ (Option.some.inj hF).symm (S_weak ⟨rfl, rfl, rfl, rfl, trivial⟩ ⟨rfl, trivial⟩)
        · intro join hF
          refine W_regV (by decide) ?_
          refine Q_run SV 2 rfl ?_
          obtain ⟨r32, hr32, hF⟩ := bB' hF
          refine R_step SV trivial (T_call (spans_Valid_fun _ _ hr32) ⟨⟨rfl, rfl, trivial⟩, trivial⟩ rfl (.inl rfl) ?_)
          refine Q_run SV 2 rfl ?_
          cases h33 : (!r32)
          · have hF := bF' h33 hF
            refine Q_run SV 5 rfl ?_
            cases h34 : (decide (y29.fCount < 1))
            · have hF := bF' h34 hF
              refine QV rfl ?_
              exact join (decide (1000000000000000 < y29.fCount)) _ _ hF (S_weak ⟨rfl, rfl, rfl, rfl, rfl, trivial⟩ ⟨rfl, trivial⟩)
            · have hF := bT' h34 hF
              refine QV rfl ?_
              exact join true _ _ hF (S_weak ⟨rfl, rfl, rfl, rfl, rfl, trivial⟩ ⟨rfl, trivial⟩)
          · have hF := bT' h33 hF
            refine QV rfl ?_
            exact join true _ _ hF (S_weak ⟨rfl, rfl, rfl, rfl, rfl, trivial⟩ ⟨rfl, trivial⟩)
    · have hF := bF h36 hF
      refine W_exit ?_
      refine thenQ_exit ?_
      refine thenQ_exit ?_
      refine blockQ_hit ?_
      exact brk_0 _ _ _ (Option.some.inj hF).symm (S_weak trivial ⟨rfl, trivial⟩)
def trace_tables (p0 : api_Trace) : Option Int :=
  ((trace_threads p0).bind fun | .inl r1_0 => (bif (!decide (r1_0.2 = 0)) then some r1_0.2 else ((slice_Check p0.fSlices).bind fun r2 => none)) | .inr r1_1 => (bif (!decide (r1_1.2 = 0)) then some r1_1.2 else ((slice_Check p0.fSlices).bind fun r4 => ((trace_known_api_Slice_k1 r4 r1_1.1 p0.fSlices).bind fun r5 => (bif (!decide (r5 = 0)) then some r5 else ((state_Check p0.fThreads p0.fStates).bind fun r6 => (bif (!decide (r6 = 0)) then some r6 else ((flow_Check p0.fFlows).bind fun r7 => ((trace_known_api_Flow_k1 r7 r1_1.1 p0.fFlows).bind fun r8 => ((trace_known_api_Flow_k2 r8 r1_1.1 p0.fFlows).bind fun r9 => (bif (!decide (r9 = 0)) then some r9 else ((sample_Check p0.fSamples).bind fun r10 => ((trace_known_api_Sample_k1 r10 r1_1.1 p0.fSamples).bind fun r11 => (bif (!decide (r11 = 0)) then some r11 else ((counter_Check p0.fSteps).bind fun r12 => (bif (!decide (r12 = 0)) then some r12 else ((memory_Check p0.fBlocks).bind fun r13 => ((trace_known_api_Block_k1 r13 r1_1.1 p0.fBlocks).bind fun r14 => (bif (!decide (r14 = 0)) then some r14 else ((trace_losses_k1 r1_1.1 p0.fLost).bind fun r15 => some r15))))))))))))))))))))
set_option maxRecDepth 100000 in
set_option maxHeartbeats 4000000 in
theorem trace_tables_fun (p0 : api_Trace) (r : Int) (hF : trace_tables p0 = some r) : Fun Try.prog 23 true [] [.agg [.imm (tI p0.fSpan.fFrom), .imm (tI p0.fSpan.fTo), .imm (.sl 3 (List.map t_api_Thread p0.fThreads)), .imm (.sl 8 (List.map t_api_Slice p0.fSlices)), .imm (.sl 7 (List.map t_api_State p0.fStates)), .imm (.sl 7 (List.map t_api_Flow p0.fFlows)), .imm (.sl 4 (List.map t_api_Sample p0.fSamples)), .imm (.sl 3 (List.map t_api_Step p0.fSteps)), .imm (.sl 7 (List.map t_api_Block p0.fBlocks)), .imm (.sl 4 (List.map t_api_Loss p0.fLost))]] noHeap (.c (.imm (tI r))) noHeap := by
  refine Fun.of_walk0 Try.func23 c23 (by kernel_rfl) (rs := [.tmp 2]) (by kernel_rfl) ?_
  unfold v23
  unfold trace_tables at hF
  refine W_seq ?_
  refine W_regV (by decide) ?_
  refine QV rfl ?_
  refine W_seq ?_
  refine W_regV (by decide) ?_
  refine Q_run SV 1 rfl ?_
  obtain ⟨r1, hr1, hF⟩ := bB hF
  rcases r1 with r1_0 | r1_1
  · refine R_stepX trivial (X_callG [] rfl (callN _) (trace_threads_fun _ _ hr1) trivial ⟨.inr ⟨rfl, rfl, rfl, rfl, rfl, rfl, rfl, rfl, rfl, rfl, trivial⟩, trivial⟩ rfl rfl rfl ?_)
    refine QV rfl ?_
    refine W_seq ?_
    refine W_seq ?_
    refine W_regV (by decide) ?_
    refine QV rfl ?_
    refine W_condL (t := (!decide (r1_0.2 = 0))) rfl (fun h3 => ?_) (fun h3 => ?_)
    · have hF := bT h3 hF
      refine W_seq ?_
      refine W_regV (by decide) ?_
      refine QV rfl ?_
      refine W_ret ?_
      cases hF
      exact ⟨_, rfl, rfl, ⟨rfl, fun _ => rfl⟩, noOut _⟩
    · have hF := bF h3 hF
      refine W_skip ?_
      refine W_seq ?_
      refine W_seq ?_
      refine W_regD (by decide) (by kernel_rfl) rfl ?_
      refine Q_run SP 2 rfl ?_
      obtain ⟨r2, hr2, hF⟩ := bB hF
      refine R_step SP trivial (T_call (slice_Check_fun _ _ hr2) ⟨rfl, trivial⟩ rfl (.inl rfl) ?_)
      refine Q_run SP 3 rfl ?_
      simp at hF
  · refine R_stepX trivial (X_callG [((902,1080),(13,1))] rfl (callN _) (trace_threads_fun _ _ hr1) trivial ⟨.inr ⟨rfl, rfl, rfl, rfl, rfl, rfl, rfl, rfl, rfl, rfl, trivial⟩, trivial⟩ rfl rfl rfl ?_)
    refine QV rfl ?_
    refine W_seq ?_
    refine W_seq ?_
    refine W_regV (by decide) ?_
    refine QV rfl ?_
    refine W_condL (t := (!decide (r1_1.2 = 0))) rfl (fun h22 => ?_) (fun h22 => ?_)
    · have hF := bT h22 hF
      refine W_seq ?_
      refine W_regV (by decide) ?_
      refine QV rfl ?_
      refine W_ret ?_
      cases hF
      exact ⟨_, rfl, rfl, ⟨rfl, fun _ => rfl⟩, noOut _⟩
    · have hF := bF h22 hF
      refine W_skip ?_
      refine W_seq ?_
      refine W_seq ?_
      refine W_regD (by decide) (by kernel_rfl) rfl ?_
      refine Q_run SP 2 rfl ?_
      obtain ⟨r4, hr4, hF⟩ := bB hF
      refine R_step SP trivial (T_call (slice_Check_fun _ _ hr4) ⟨rfl, trivial⟩ rfl (.inl rfl) ?_)
      refine Q_run SP 3 rfl ?_
      obtain ⟨r5, hr5, hF⟩ := bB hF
      refine R_step SP trivial (T_callO [((2120,0),(13,1))] rfl (trace_known_api_Slice_k1_fun _ _ _ _ hr5) ⟨rfl, trivial⟩ rfl rfl (.inr ⟨.inl rfl, .inl rfl, .inl rfl, .inl rfl, trivial⟩) ?_)
      refine QP rfl ?_
      refine W_seq ?_
      refine W_regV (by decide) ?_
      refine QV rfl ?_
      refine W_condL (t := (!decide (r5 = 0))) rfl (fun h21 => ?_) (fun h21 => ?_)
      · have hF := bT h21 hF
        refine W_seq ?_
        refine W_regV (by decide) ?_
        refine QV rfl ?_
        refine W_ret ?_
        cases hF
        exact ⟨_, rfl, rfl, ⟨rfl, fun _ => rfl⟩, noOut _⟩
      · have hF := bF h21 hF
        refine W_skip ?_
        refine W_seq ?_
        refine W_seq ?_
        refine W_regV (by decide) ?_
        refine Q_run SV 4 rfl ?_
        obtain ⟨r6, hr6, hF⟩ := bB hF
        refine R_step SV trivial (T_call (state_Check_fun _ _ _ hr6) ⟨rfl, rfl, trivial⟩ rfl (.inl rfl) ?_)
        refine QV rfl ?_
        refine W_seq ?_
        refine W_regV (by decide) ?_
        refine QV rfl ?_
        refine W_condL (t := (!decide (r6 = 0))) rfl (fun h20 => ?_) (fun h20 => ?_)
        · have hF := bT h20 hF
          refine W_seq ?_
          refine W_regV (by decide) ?_
          refine QV rfl ?_
          refine W_ret ?_
          cases hF
          exact ⟨_, rfl, rfl, ⟨rfl, fun _ => rfl⟩, noOut _⟩
        · have hF := bF h20 hF
          refine W_skip ?_
          refine W_seq ?_
          refine W_regD (by decide) (by kernel_rfl) rfl ?_
          refine Q_run SP 2 rfl ?_
          obtain ⟨r7, hr7, hF⟩ := bB hF
          refine R_step SP trivial (T_call (flow_Check_fun _ _ hr7) ⟨rfl, trivial⟩ rfl (.inl rfl) ?_)
          refine Q_run SP 3 rfl ?_
          obtain ⟨r8, hr8, hF⟩ := bB hF
          refine R_step SP trivial (T_callO [((2280,0),(13,1))] rfl (trace_known_api_Flow_k1_fun _ _ _ _ hr8) ⟨rfl, trivial⟩ rfl rfl (.inr ⟨.inl rfl, .inl rfl, .inl rfl, .inl rfl, trivial⟩) ?_)
          refine QP rfl ?_
          refine W_seq ?_
          refine W_seq ?_
          refine W_regV (by decide) ?_
          refine Q_run SV 4 rfl ?_
          obtain ⟨r9, hr9, hF⟩ := bB hF
          refine R_step SV trivial (T_callO [((2280,0),(13,1))] rfl (trace_known_api_Flow_k2_fun _ _ _ _ hr9) ⟨rfl, trivial⟩ rfl rfl (.inr ⟨.inl rfl, .inl rfl, .inl rfl, .inl rfl, trivial⟩) ?_)
          refine QV rfl ?_
          refine W_seq ?_
          refine W_regV (by decide) ?_
          refine QV rfl ?_
          refine W_condL (t := (!decide (r9 = 0))) rfl (fun h19 => ?_) (fun h19 => ?_)
          · have hF := bT h19 hF
            refine W_seq ?_
            refine W_regV (by decide) ?_
            refine QV rfl ?_
            refine W_ret ?_
            cases hF
            exact ⟨_, rfl, rfl, ⟨rfl, fun _ => rfl⟩, noOut _⟩
          · have hF := bF h19 hF
            refine W_skip ?_
            refine W_seq ?_
            refine W_seq ?_
            refine W_regD (by decide) (by kernel_rfl) rfl ?_
            refine Q_run SP 2 rfl ?_
            obtain ⟨r10, hr10, hF⟩ := bB hF
            refine R_step SP trivial (T_call (sample_Check_fun _ _ hr10) ⟨rfl, trivial⟩ rfl (.inl rfl) ?_)
            refine Q_run SP 3 rfl ?_
            obtain ⟨r11, hr11, hF⟩ := bB hF
            refine R_step SP trivial (T_callO [((2440,0),(13,1))] rfl (trace_known_api_Sample_k1_fun _ _ _ _ hr11) ⟨rfl, trivial⟩ rfl rfl (.inr ⟨.inl rfl, .inl rfl, .inl rfl, .inl rfl, trivial⟩) ?_)
            refine QP rfl ?_
            refine W_seq ?_
            refine W_regV (by decide) ?_
            refine QV rfl ?_
            refine W_condL (t := (!decide (r11 = 0))) rfl (fun h18 => ?_) (fun h18 => ?_)
            · have hF := bT h18 hF
              refine W_seq ?_
              refine W_regV (by decide) ?_
              refine QV rfl ?_
              refine W_ret ?_
              cases hF
              exact ⟨_, rfl, rfl, ⟨rfl, fun _ => rfl⟩, noOut _⟩
            · have hF := bF h18 hF
              refine W_skip ?_
              refine W_seq ?_
              refine W_seq ?_
              refine W_regV (by decide) ?_
              refine Q_run SV 2 rfl ?_
              obtain ⟨r12, hr12, hF⟩ := bB hF
              refine R_step SV trivial (T_call (counter_Check_fun _ _ hr12) ⟨rfl, trivial⟩ rfl (.inl rfl) ?_)
              refine QV rfl ?_
              refine W_seq ?_
              refine W_regV (by decide) ?_
              refine QV rfl ?_
              refine W_condL (t := (!decide (r12 = 0))) rfl (fun h17 => ?_) (fun h17 => ?_)
              · have hF := bT h17 hF
                refine W_seq ?_
                refine W_regV (by decide) ?_
                refine QV rfl ?_
                refine W_ret ?_
                cases hF
                exact ⟨_, rfl, rfl, ⟨rfl, fun _ => rfl⟩, noOut _⟩
              · have hF := bF h17 hF
                refine W_skip ?_
                refine W_seq ?_
                refine W_seq ?_
                refine W_regD (by decide) (by kernel_rfl) rfl ?_
                refine Q_run SP 2 rfl ?_
                obtain ⟨r13, hr13, hF⟩ := bB hF
                refine R_step SP trivial (T_call (memory_Check_fun _ _ hr13) ⟨rfl, trivial⟩ rfl (.inl rfl) ?_)
                refine Q_run SP 3 rfl ?_
                obtain ⟨r14, hr14, hF⟩ := bB hF
                refine R_step SP trivial (T_callO [((2600,0),(13,1))] rfl (trace_known_api_Block_k1_fun _ _ _ _ hr14) ⟨rfl, trivial⟩ rfl rfl (.inr ⟨.inl rfl, .inl rfl, .inl rfl, .inl rfl, trivial⟩) ?_)
                refine QP rfl ?_
                refine W_seq ?_
                refine W_regV (by decide) ?_
                refine QV rfl ?_
                refine W_condL (t := (!decide (r14 = 0))) rfl (fun h16 => ?_) (fun h16 => ?_)
                · have hF := bT h16 hF
                  refine W_seq ?_
                  refine W_regV (by decide) ?_
                  refine QV rfl ?_
                  refine W_ret ?_
                  cases hF
                  exact ⟨_, rfl, rfl, ⟨rfl, fun _ => rfl⟩, noOut _⟩
                · have hF := bF h16 hF
                  refine W_skip ?_
                  refine W_seq ?_
                  refine W_regV (by decide) ?_
                  refine Q_run SV 3 rfl ?_
                  obtain ⟨r15, hr15, hF⟩ := bB hF
                  refine R_step SV trivial (T_callO [((2720,0),(13,1))] rfl (trace_losses_k1_fun _ _ _ hr15) ⟨rfl, trivial⟩ rfl rfl (.inr ⟨.inl rfl, .inl rfl, trivial⟩) ?_)
                  refine QV rfl ?_
                  refine W_ret ?_
                  cases hF
                  exact ⟨_, rfl, rfl, ⟨rfl, fun _ => rfl⟩, noOut _⟩
def trace_within (p0 : api_Span) (p1 : api_Span) : Option Bool :=
  (((bif (decide (p1.fFrom ≤ p0.fFrom)) then some (decide (p0.fTo ≤ p1.fTo)) else some false) : Option Bool).bind fun v1 => some v1)
set_option maxRecDepth 100000 in
set_option maxHeartbeats 4000000 in
theorem trace_within_fun (p0 : api_Span) (p1 : api_Span) (r : Bool) (hF : trace_within p0 p1 = some r) : Fun Try.prog 46 true [] [.agg [.imm (tI p0.fFrom), .imm (tI p0.fTo)], .agg [.imm (tI p1.fFrom), .imm (tI p1.fTo)]] noHeap (.c (.imm (.sc (.bool r)))) noHeap := by
  refine Fun.of_walk0 Try.func46 c46 (by kernel_rfl) (rs := [.tmp 4]) (by kernel_rfl) ?_
  unfold v46
  unfold trace_within at hF
  refine W_seq ?_
  refine W_regV (by decide) ?_
  refine QV rfl ?_
  refine W_seq ?_
  refine W_join (fun _ _ h => h) hF (fun v1 => [(4, .c (.imm (.sc (.bool v1))))]) (fun v1 => []) ?_ ?_
  · rintro v1 hF
    refine W_ret ?_
    cases hF
    exact ⟨_, rfl, rfl, ⟨rfl, fun _ => rfl⟩, noOut _⟩
  · intro join hF
    refine W_regV (by decide) ?_
    refine Q_run SV 6 rfl ?_
    cases h2 : (decide (p1.fFrom ≤ p0.fFrom))
    · have hF := bF' h2 hF
      refine QV rfl ?_
      exact join false _ _ hF (S_weak ⟨rfl, trivial⟩ trivial)
    · have hF := bT' h2 hF
      refine QV rfl ?_
      exact join (decide (p0.fTo ≤ p1.fTo)) _ _ hF (S_weak ⟨rfl, trivial⟩ trivial)
def trace_outside_1_k1 (p0 : api_Slice) (p1 : api_Span) : Option Bool :=
  ((trace_within p0.fSpan p1).bind fun r1 => some (!r1))
set_option maxRecDepth 100000 in
set_option maxHeartbeats 4000000 in
theorem trace_outside_1_k1_fun (p0 : api_Slice) (p1 : api_Span) (r : Bool) (hF : trace_outside_1_k1 p0 p1 = some r) : Fun Try.prog 45 true [] [.agg [.imm (tI p0.fThread), .imm (tI p0.fParent), .imm (tI p0.fDepth), .imm (.sc (.string p0.fName)), .imm (tI p0.fSpan.fFrom), .imm (tI p0.fSpan.fTo), .imm (tI p0.fSelf), .imm (.sc (.bool p0.fOpen))], .c (.ptrI [tI p1.fFrom, tI p1.fTo])] noHeap (.c (.imm (.sc (.bool r)))) noHeap := by
  refine Fun.of_walk0 Try.func45 c45 (by kernel_rfl) (rs := [.tmp 3]) (by kernel_rfl) ?_
  unfold v45
  unfold trace_outside_1_k1 at hF
  refine W_seq ?_
  refine W_regV (by decide) ?_
  refine QV rfl ?_
  refine W_seq ?_
  refine W_regV (by decide) ?_
  refine Q_run SV 3 rfl ?_
  obtain ⟨r1, hr1, hF⟩ := bB hF
  refine R_step SV trivial (T_call (trace_within_fun _ _ _ hr1) ⟨⟨rfl, rfl, trivial⟩, ⟨rfl, rfl, trivial⟩, trivial⟩ rfl (.inl rfl) ?_)
  refine QV rfl ?_
  refine W_ret ?_
  cases hF
  exact ⟨_, rfl, rfl, ⟨rfl, fun _ => rfl⟩, noOut _⟩
def slices_IndexFunc_api_Slice_api_Slice_k1_L1 (p0 : (List api_Slice)) (p1_0 : api_Span) : Int → Option (Int ⊕ (Unit ⊕ Int)) := fun a12 =>
  (bif (decide (a12 < (List.length p0 : Int))) then ((idx p0 a12).bind fun y17 => ((trace_outside_1_k1 y17 p1_0).bind fun r18 => (bif r18 then some (.inr (.inr a12)) else some (.inl (w64 (a12 + 1)))))) else some (.inr (.inl ())))
def slices_IndexFunc_api_Slice_api_Slice_k1 (p0 : (List api_Slice)) (p1_0 : api_Span) : Option Int :=
  ((loop (slices_IndexFunc_api_Slice_api_Slice_k1_L1 p0 p1_0) 0).bind fun | .inl _ => some (-1) | .inr rv => some rv)
set_option maxRecDepth 100000 in
set_option maxHeartbeats 4000000 in
theorem slices_IndexFunc_api_Slice_api_Slice_k1_fun (p0 : (List api_Slice)) (p1_0 : api_Span) (r : Int) (hF : slices_IndexFunc_api_Slice_api_Slice_k1 p0 p1_0 = some r) : Fun Try.prog 73 false [(3920,0)] [.c (.imm (.sl 8 (List.map t_api_Slice p0))), .c (.fn 45 [.ptr (3920,0)])] (heapOf [((3920,0), .box [.imm (tI p1_0.fFrom), .imm (tI p1_0.fTo)])]) (.c (.imm (tI r))) (heapOf [((3920,0), .box [.imm (tI p1_0.fFrom), .imm (tI p1_0.fTo)])]) := by
  refine Fun.of_walkM [(3920,0)] (some [(3920,0)]) Try.func73 c73 (by kernel_rfl) (rs := [.tmp 4]) (by kernel_rfl) rfl rfl rfl ?_
  unfold v73
  unfold slices_IndexFunc_api_Slice_api_Slice_k1 at hF
  refine W_seq ?_
  refine W_regV (by decide) ?_
  refine QV rfl ?_
  refine W_seq ?_
  refine W_seq ?_
  refine W_regV (by decide) ?_
  refine Q_run SV 1 rfl ?_
  refine R_step SV trivial (T_len (tc := t_api_Slice) p0 .tree ?_)
  refine QV rfl ?_
  refine W_for (fun _ _ h => h) hF (.inl) (fun a12 => [(0, .c (.imm (.sl 8 (List.map t_api_Slice p0)))), (1, .c (.fn 45 [.ptr (3920,0)])), (7, .c (.imm (tI (List.length p0 : Int)))), (8, .c (.imm (tI a12)))]) (fun a12 => [((3920,0), .box [.imm (tI p1_0.fFrom), .imm (tI p1_0.fTo)])]) (fun _ => []) (fun _ => [((3920,0), .box [.imm (tI p1_0.fFrom), .imm (tI p1_0.fTo)])]) (S_weak ⟨rfl, rfl, rfl, rfl, trivial⟩ ⟨rfl, trivial⟩) ?_ ?_
  · rintro ⟨⟩ hF
    refine W_seq ?_
    refine W_regV (by decide) ?_
    refine QV rfl ?_
    refine W_ret ?_
    cases hF
    exact ⟨_, _, S_refl, _, rfl, rfl, ⟨rfl, fun _ => rfl⟩, (AgM.weak ⟨rfl, trivial⟩)⟩
  · rintro a12 x_0 hF cont_0 brk_0 fin_0
    unfold slices_IndexFunc_api_Slice_api_Slice_k1_L1 at hF
    refine W_seq ?_
    refine W_regV (by decide) ?_
    refine QV rfl ?_
    refine W_seq ?_
    refine W_condL (t := (decide (a12 < (List.length p0 : Int)))) rfl (fun h20 => ?_) (fun h20 => ?_)
    · have hF := bT h20 hF
      refine W_skip ?_
      refine W_seq ?_
      refine W_block ?_
      refine W_seq ?_
      refine W_regV (by decide) ?_
      refine QV rfl ?_
      refine W_seq ?_
      refine W_regV (by decide) ?_
      refine Q_run SV 3 rfl ?_
      obtain ⟨y17, hy17, hF⟩ := bB hF
      refine R_step SV trivial (T_ixT (tc := t_api_Slice) p0 rfl rfl hy17 ?_)
      refine Q_run SV 1 rfl ?_
      obtain ⟨r18, hr18, hF⟩ := bB hF
      refine R_stepX trivial (X_call (callW _ rfl fnOk45) (trace_outside_1_k1_fun _ _ _ hr18) ⟨⟨rfl, rfl, rfl, rfl, rfl, rfl, rfl, rfl, trivial⟩, ⟨_, rfl, ⟨rfl, rfl, trivial⟩⟩, trivial⟩ rfl (.inl rfl) ?_)
      refine QV rfl ?_
      refine W_condL (t := r18) rfl (fun h19 => ?_) (fun h19 => ?_)
      · have hF := bT h19 hF
        refine W_seq ?_
        refine W_regV (by decide) ?_
        refine QV rfl ?_
        have hF := fin_0 _ (Option.some.inj hF).symm
        refine W_ret ?_
        cases hF
        exact ⟨_, _, S_refl, _, rfl, rfl, ⟨rfl, fun _ => rfl⟩, (AgM.weak ⟨rfl, trivial⟩)⟩
      · have hF := bF h19 hF
        refine W_skip ?_
        refine W_regV (by decide) ?_
        refine QV rfl ?_
        exact cont_0 _ _ _ (Option.some.inj hF).symm (S_weak ⟨rfl, rfl, rfl, rfl, trivial⟩ ⟨rfl, trivial⟩)
    · have hF := bF h20 hF
      refine W_exit ?_
      refine thenQ_exit ?_
      refine thenQ_exit ?_
      refine blockQ_hit ?_
      exact brk_0 _ _ _ (Option.some.inj hF).symm (S_weak trivial ⟨rfl, trivial⟩)
def slices_ContainsFunc_api_Slice_api_Slice_k1 (p0 : (List api_Slice)) (p1_0 : api_Span) : Option Bool :=
  ((slices_IndexFunc_api_Slice_api_Slice_k1 p0 p1_0).bind fun r1 => some (decide (0 ≤ r1)))
set_option maxRecDepth 100000 in
set_option maxHeartbeats 4000000 in
theorem slices_ContainsFunc_api_Slice_api_Slice_k1_fun (p0 : (List api_Slice)) (p1_0 : api_Span) (r : Bool) (hF : slices_ContainsFunc_api_Slice_api_Slice_k1 p0 p1_0 = some r) : Fun Try.prog 44 false [(2760,0)] [.c (.imm (.sl 8 (List.map t_api_Slice p0))), .c (.fn 45 [.ptr (2760,0)])] (heapOf [((2760,0), .box [.imm (tI p1_0.fFrom), .imm (tI p1_0.fTo)])]) (.c (.imm (.sc (.bool r)))) (heapOf [((2760,0), .box [.imm (tI p1_0.fFrom), .imm (tI p1_0.fTo)])]) := by
  refine Fun.of_walkM [(2760,0)] (some [(2760,0)]) Try.func44 c44 (by kernel_rfl) (rs := [.tmp 4]) (by kernel_rfl) rfl rfl rfl ?_
  unfold v44
  unfold slices_ContainsFunc_api_Slice_api_Slice_k1 at hF
  refine W_seq ?_
  refine W_regV (by decide) ?_
  refine QV rfl ?_
  refine W_seq ?_
  refine W_regV (by decide) ?_
  refine Q_run SV 2 rfl ?_
  obtain ⟨r1, hr1, hF⟩ := bB hF
  refine R_step SV trivial (T_callO [((3920,0),(2760,0))] rfl (slices_IndexFunc_api_Slice_api_Slice_k1_fun _ _ _ hr1) ⟨rfl, trivial⟩ rfl rfl (.inr ⟨.inl rfl, .inl rfl, trivial⟩) ?_)
  refine QV rfl ?_
  refine W_ret ?_
  cases hF
  exact ⟨_, _, S_refl, _, rfl, rfl, ⟨rfl, fun _ => rfl⟩, (AgM.weak ⟨rfl, trivial⟩)⟩
def trace_outside_2_k1 (p0 : api_State) (p1 : api_Span) : Option Bool :=
  ((trace_within p0.fSpan p1).bind fun r1 => some (!r1))
set_option maxRecDepth 100000 in
set_option maxHeartbeats 4000000 in
theorem trace_outside_2_k1_fun (p0 : api_State) (p1 : api_Span) (r : Bool) (hF : trace_outside_2_k1 p0 p1 = some r) : Fun Try.prog 48 true [] [.agg [.imm (tI p0.fThread), .imm (tI p0.fState), .imm (tI p0.fSpan.fFrom), .imm (tI p0.fSpan.fTo), .imm (tI p0.fCpu), .imm (tI p0.fOn), .imm (tI p0.fBy)], .c (.ptrI [tI p1.fFrom, tI p1.fTo])] noHeap (.c (.imm (.sc (.bool r)))) noHeap := by
  refine Fun.of_walk0 Try.func48 c48 (by kernel_rfl) (rs := [.tmp 3]) (by kernel_rfl) ?_
  unfold v48
  unfold trace_outside_2_k1 at hF
  refine W_seq ?_
  refine W_regV (by decide) ?_
  refine QV rfl ?_
  refine W_seq ?_
  refine W_regV (by decide) ?_
  refine Q_run SV 3 rfl ?_
  obtain ⟨r1, hr1, hF⟩ := bB hF
  refine R_step SV trivial (T_call (trace_within_fun _ _ _ hr1) ⟨⟨rfl, rfl, trivial⟩, ⟨rfl, rfl, trivial⟩, trivial⟩ rfl (.inl rfl) ?_)
  refine QV rfl ?_
  refine W_ret ?_
  cases hF
  exact ⟨_, rfl, rfl, ⟨rfl, fun _ => rfl⟩, noOut _⟩
def slices_IndexFunc_api_State_api_State_k1_L1 (p0 : (List api_State)) (p1_0 : api_Span) : Int → Option (Int ⊕ (Unit ⊕ Int)) := fun a12 =>
  (bif (decide (a12 < (List.length p0 : Int))) then ((idx p0 a12).bind fun y17 => ((trace_outside_2_k1 y17 p1_0).bind fun r18 => (bif r18 then some (.inr (.inr a12)) else some (.inl (w64 (a12 + 1)))))) else some (.inr (.inl ())))
def slices_IndexFunc_api_State_api_State_k1 (p0 : (List api_State)) (p1_0 : api_Span) : Option Int :=
  ((loop (slices_IndexFunc_api_State_api_State_k1_L1 p0 p1_0) 0).bind fun | .inl _ => some (-1) | .inr rv => some rv)
set_option maxRecDepth 100000 in
set_option maxHeartbeats 4000000 in
theorem slices_IndexFunc_api_State_api_State_k1_fun (p0 : (List api_State)) (p1_0 : api_Span) (r : Int) (hF : slices_IndexFunc_api_State_api_State_k1 p0 p1_0 = some r) : Fun Try.prog 74 false [(3960,0)] [.c (.imm (.sl 7 (List.map t_api_State p0))), .c (.fn 48 [.ptr (3960,0)])] (heapOf [((3960,0), .box [.imm (tI p1_0.fFrom), .imm (tI p1_0.fTo)])]) (.c (.imm (tI r))) (heapOf [((3960,0), .box [.imm (tI p1_0.fFrom), .imm (tI p1_0.fTo)])]) := by
  refine Fun.of_walkM [(3960,0)] (some [(3960,0)]) Try.func74 c74 (by kernel_rfl) (rs := [.tmp 4]) (by kernel_rfl) rfl rfl rfl ?_
  unfold v74
  unfold slices_IndexFunc_api_State_api_State_k1 at hF
  refine W_seq ?_
  refine W_regV (by decide) ?_
  refine QV rfl ?_
  refine W_seq ?_
  refine W_seq ?_
  refine W_regV (by decide) ?_
  refine Q_run SV 1 rfl ?_
  refine R_step SV trivial (T_len (tc := t_api_State) p0 .tree ?_)
  refine QV rfl ?_
  refine W_for (fun _ _ h => h) hF (.inl) (fun a12 => [(0, .c (.imm (.sl 7 (List.map t_api_State p0)))), (1, .c (.fn 48 [.ptr (3960,0)])), (7, .c (.imm (tI (List.length p0 : Int)))), (8, .c (.imm (tI a12)))]) (fun a12 => [((3960,0), .box [.imm (tI p1_0.fFrom), .imm (tI p1_0.fTo)])]) (fun _ => []) (fun _ => [((3960,0), .box [.imm (tI p1_0.fFrom), .imm (tI p1_0.fTo)])]) (S_weak ⟨rfl, rfl, rfl, rfl, trivial⟩ ⟨rfl, trivial⟩) ?_ ?_
  · rintro ⟨⟩ hF
    refine W_seq ?_
    refine W_regV (by decide) ?_
    refine QV rfl ?_
    refine W_ret ?_
    cases hF
    exact ⟨_, _, S_refl, _, rfl, rfl, ⟨rfl, fun _ => rfl⟩, (AgM.weak ⟨rfl, trivial⟩)⟩
  · rintro a12 x_0 hF cont_0 brk_0 fin_0
    unfold slices_IndexFunc_api_State_api_State_k1_L1 at hF
    refine W_seq ?_
    refine W_regV (by decide) ?_
    refine QV rfl ?_
    refine W_seq ?_
    refine W_condL (t := (decide (a12 < (List.length p0 : Int)))) rfl (fun h20 => ?_) (fun h20 => ?_)
    · have hF := bT h20 hF
      refine W_skip ?_
      refine W_seq ?_
      refine W_block ?_
      refine W_seq ?_
      refine W_regV (by decide) ?_
      refine QV rfl ?_
      refine W_seq ?_
      refine W_regV (by decide) ?_
      refine Q_run SV 3 rfl ?_
      obtain ⟨y17, hy17, hF⟩ := bB hF
      refine R_step SV trivial (T_ixT (tc := t_api_State) p0 rfl rfl hy17 ?_)
      refine Q_run SV 1 rfl ?_
      obtain ⟨r18, hr18, hF⟩ := bB hF
      refine R_stepX trivial (X_call (callW _ rfl fnOk48) (trace_outside_2_k1_fun _ _ _ hr18) ⟨⟨rfl, rfl, rfl, rfl, rfl, rfl, rfl, trivial⟩, ⟨_, rfl, ⟨rfl, rfl, trivial⟩⟩, trivial⟩ rfl (.inl rfl) ?_)
      refine QV rfl ?_
      refine W_condL (t := r18) rfl (fun h19 => ?_) (fun h19 => ?_)
      · have hF := bT h19 hF
        refine W_seq ?_
        refine W_regV (by decide) ?_
        refine QV rfl ?_
        have hF := fin_0 _ (Option.some.inj hF).symm
        refine W_ret ?_
        cases hF
        exact ⟨_, _, S_refl, _, rfl, rfl, ⟨rfl, fun _ => rfl⟩, (AgM.weak ⟨rfl, trivial⟩)⟩
      · have hF := bF h19 hF
        refine W_skip ?_
        refine W_regV (by decide) ?_
        refine QV rfl ?_
        exact cont_0 _ _ _ (Option.some.inj hF).symm (S_weak ⟨rfl, rfl, rfl, rfl, trivial⟩ ⟨rfl, trivial⟩)
    · have hF := bF h20 hF
      refine W_exit ?_
      refine thenQ_exit ?_
      refine thenQ_exit ?_
      refine blockQ_hit ?_
      exact brk_0 _ _ _ (Option.some.inj hF).symm (S_weak trivial ⟨rfl, trivial⟩)
def slices_ContainsFunc_api_State_api_State_k1 (p0 : (List api_State)) (p1_0 : api_Span) : Option Bool :=
  ((slices_IndexFunc_api_State_api_State_k1 p0 p1_0).bind fun r1 => some (decide (0 ≤ r1)))
set_option maxRecDepth 100000 in
set_option maxHeartbeats 4000000 in
theorem slices_ContainsFunc_api_State_api_State_k1_fun (p0 : (List api_State)) (p1_0 : api_Span) (r : Bool) (hF : slices_ContainsFunc_api_State_api_State_k1 p0 p1_0 = some r) : Fun Try.prog 47 false [(2880,0)] [.c (.imm (.sl 7 (List.map t_api_State p0))), .c (.fn 48 [.ptr (2880,0)])] (heapOf [((2880,0), .box [.imm (tI p1_0.fFrom), .imm (tI p1_0.fTo)])]) (.c (.imm (.sc (.bool r)))) (heapOf [((2880,0), .box [.imm (tI p1_0.fFrom), .imm (tI p1_0.fTo)])]) := by
  refine Fun.of_walkM [(2880,0)] (some [(2880,0)]) Try.func47 c47 (by kernel_rfl) (rs := [.tmp 4]) (by kernel_rfl) rfl rfl rfl ?_
  unfold v47
  unfold slices_ContainsFunc_api_State_api_State_k1 at hF
  refine W_seq ?_
  refine W_regV (by decide) ?_
  refine QV rfl ?_
  refine W_seq ?_
  refine W_regV (by decide) ?_
  refine Q_run SV 2 rfl ?_
  obtain ⟨r1, hr1, hF⟩ := bB hF
  refine R_step SV trivial (T_callO [((3960,0),(2880,0))] rfl (slices_IndexFunc_api_State_api_State_k1_fun _ _ _ hr1) ⟨rfl, trivial⟩ rfl rfl (.inr ⟨.inl rfl, .inl rfl, trivial⟩) ?_)
  refine QV rfl ?_
  refine W_ret ?_
  cases hF
  exact ⟨_, _, S_refl, _, rfl, rfl, ⟨rfl, fun _ => rfl⟩, (AgM.weak ⟨rfl, trivial⟩)⟩
def trace_outside_3_k1 (p0 : api_Block) (p1 : api_Span) : Option Bool :=
  ((trace_within p0.fSpan p1).bind fun r1 => some (!r1))
set_option maxRecDepth 100000 in
set_option maxHeartbeats 4000000 in
theorem trace_outside_3_k1_fun (p0 : api_Block) (p1 : api_Span) (r : Bool) (hF : trace_outside_3_k1 p0 p1 = some r) : Fun Try.prog 50 true [] [.agg [.imm (tI p0.fId), .imm (tI p0.fThread), .imm (tI p0.fSize), .imm (tI p0.fSpan.fFrom), .imm (tI p0.fSpan.fTo), .imm (.sl 1 (List.map t_str p0.fStack)), .imm (.sc (.bool p0.fLive))], .c (.ptrI [tI p1.fFrom, tI p1.fTo])] noHeap (.c (.imm (.sc (.bool r)))) noHeap := by
  refine Fun.of_walk0 Try.func50 c50 (by kernel_rfl) (rs := [.tmp 3]) (by kernel_rfl) ?_
  unfold v50
  unfold trace_outside_3_k1 at hF
  refine W_seq ?_
  refine W_regV (by decide) ?_
  refine QV rfl ?_
  refine W_seq ?_
  refine W_regV (by decide) ?_
  refine Q_run SV 3 rfl ?_
  obtain ⟨r1, hr1, hF⟩ := bB hF
  refine R_step SV trivial (T_call (trace_within_fun _ _ _ hr1) ⟨⟨rfl, rfl, trivial⟩, ⟨rfl, rfl, trivial⟩, trivial⟩ rfl (.inl rfl) ?_)
  refine QV rfl ?_
  refine W_ret ?_
  cases hF
  exact ⟨_, rfl, rfl, ⟨rfl, fun _ => rfl⟩, noOut _⟩
def slices_IndexFunc_api_Block_api_Block_k1_L1 (p0 : (List api_Block)) (p1_0 : api_Span) : Int → Option (Int ⊕ (Unit ⊕ Int)) := fun a12 =>
  (bif (decide (a12 < (List.length p0 : Int))) then ((idx p0 a12).bind fun y17 => ((trace_outside_3_k1 y17 p1_0).bind fun r18 => (bif r18 then some (.inr (.inr a12)) else some (.inl (w64 (a12 + 1)))))) else some (.inr (.inl ())))
def slices_IndexFunc_api_Block_api_Block_k1 (p0 : (List api_Block)) (p1_0 : api_Span) : Option Int :=
  ((loop (slices_IndexFunc_api_Block_api_Block_k1_L1 p0 p1_0) 0).bind fun | .inl _ => some (-1) | .inr rv => some rv)
set_option maxRecDepth 100000 in
set_option maxHeartbeats 4000000 in
theorem slices_IndexFunc_api_Block_api_Block_k1_fun (p0 : (List api_Block)) (p1_0 : api_Span) (r : Int) (hF : slices_IndexFunc_api_Block_api_Block_k1 p0 p1_0 = some r) : Fun Try.prog 75 false [(4000,0)] [.c (.imm (.sl 7 (List.map t_api_Block p0))), .c (.fn 50 [.ptr (4000,0)])] (heapOf [((4000,0), .box [.imm (tI p1_0.fFrom), .imm (tI p1_0.fTo)])]) (.c (.imm (tI r))) (heapOf [((4000,0), .box [.imm (tI p1_0.fFrom), .imm (tI p1_0.fTo)])]) := by
  refine Fun.of_walkM [(4000,0)] (some [(4000,0)]) Try.func75 c75 (by kernel_rfl) (rs := [.tmp 4]) (by kernel_rfl) rfl rfl rfl ?_
  unfold v75
  unfold slices_IndexFunc_api_Block_api_Block_k1 at hF
  refine W_seq ?_
  refine W_regV (by decide) ?_
  refine QV rfl ?_
  refine W_seq ?_
  refine W_seq ?_
  refine W_regV (by decide) ?_
  refine Q_run SV 1 rfl ?_
  refine R_step SV trivial (T_len (tc := t_api_Block) p0 .tree ?_)
  refine QV rfl ?_
  refine W_for (fun _ _ h => h) hF (.inl) (fun a12 => [(0, .c (.imm (.sl 7 (List.map t_api_Block p0)))), (1, .c (.fn 50 [.ptr (4000,0)])), (7, .c (.imm (tI (List.length p0 : Int)))), (8, .c (.imm (tI a12)))]) (fun a12 => [((4000,0), .box [.imm (tI p1_0.fFrom), .imm (tI p1_0.fTo)])]) (fun _ => []) (fun _ => [((4000,0), .box [.imm (tI p1_0.fFrom), .imm (tI p1_0.fTo)])]) (S_weak ⟨rfl, rfl, rfl, rfl, trivial⟩ ⟨rfl, trivial⟩) ?_ ?_
  · rintro ⟨⟩ hF
    refine W_seq ?_
    refine W_regV (by decide) ?_
    refine QV rfl ?_
    refine W_ret ?_
    cases hF
    exact ⟨_, _, S_refl, _, rfl, rfl, ⟨rfl, fun _ => rfl⟩, (AgM.weak ⟨rfl, trivial⟩)⟩
  · rintro a12 x_0 hF cont_0 brk_0 fin_0
    unfold slices_IndexFunc_api_Block_api_Block_k1_L1 at hF
    refine W_seq ?_
    refine W_regV (by decide) ?_
    refine QV rfl ?_
    refine W_seq ?_
    refine W_condL (t := (decide (a12 < (List.length p0 : Int)))) rfl (fun h20 => ?_) (fun h20 => ?_)
    · have hF := bT h20 hF
      refine W_skip ?_
      refine W_seq ?_
      refine W_block ?_
      refine W_seq ?_
      refine W_regV (by decide) ?_
      refine QV rfl ?_
      refine W_seq ?_
      refine W_regV (by decide) ?_
      refine Q_run SV 3 rfl ?_
      obtain ⟨y17, hy17, hF⟩ := bB hF
      refine R_step SV trivial (T_ixT (tc := t_api_Block) p0 rfl rfl hy17 ?_)
      refine Q_run SV 1 rfl ?_
      obtain ⟨r18, hr18, hF⟩ := bB hF
      refine R_stepX trivial (X_call (callW _ rfl fnOk50) (trace_outside_3_k1_fun _ _ _ hr18) ⟨⟨rfl, rfl, rfl, rfl, rfl, rfl, rfl, trivial⟩, ⟨_, rfl, ⟨rfl, rfl, trivial⟩⟩, trivial⟩ rfl (.inl rfl) ?_)
      refine QV rfl ?_
      refine W_condL (t := r18) rfl (fun h19 => ?_) (fun h19 => ?_)
      · have hF := bT h19 hF
        refine W_seq ?_
        refine W_regV (by decide) ?_
        refine QV rfl ?_
        have hF := fin_0 _ (Option.some.inj hF).symm
        refine W_ret ?_
        cases hF
        exact ⟨_, _, S_refl, _, rfl, rfl, ⟨rfl, fun _ => rfl⟩, (AgM.weak ⟨rfl, trivial⟩)⟩
      · have hF := bF h19 hF
        refine W_skip ?_
        refine W_regV (by decide) ?_
        refine QV rfl ?_
        exact cont_0 _ _ _ (Option.some.inj hF).symm (S_weak ⟨rfl, rfl, rfl, rfl, trivial⟩ ⟨rfl, trivial⟩)
    · have hF := bF h20 hF
      refine W_exit ?_
      refine thenQ_exit ?_
      refine thenQ_exit ?_
      refine blockQ_hit ?_
      exact brk_0 _ _ _ (Option.some.inj hF).symm (S_weak trivial ⟨rfl, trivial⟩)
def slices_ContainsFunc_api_Block_api_Block_k1 (p0 : (List api_Block)) (p1_0 : api_Span) : Option Bool :=
  ((slices_IndexFunc_api_Block_api_Block_k1 p0 p1_0).bind fun r1 => some (decide (0 ≤ r1)))
set_option maxRecDepth 100000 in
set_option maxHeartbeats 4000000 in
theorem slices_ContainsFunc_api_Block_api_Block_k1_fun (p0 : (List api_Block)) (p1_0 : api_Span) (r : Bool) (hF : slices_ContainsFunc_api_Block_api_Block_k1 p0 p1_0 = some r) : Fun Try.prog 49 false [(2960,0)] [.c (.imm (.sl 7 (List.map t_api_Block p0))), .c (.fn 50 [.ptr (2960,0)])] (heapOf [((2960,0), .box [.imm (tI p1_0.fFrom), .imm (tI p1_0.fTo)])]) (.c (.imm (.sc (.bool r)))) (heapOf [((2960,0), .box [.imm (tI p1_0.fFrom), .imm (tI p1_0.fTo)])]) := by
  refine Fun.of_walkM [(2960,0)] (some [(2960,0)]) Try.func49 c49 (by kernel_rfl) (rs := [.tmp 4]) (by kernel_rfl) rfl rfl rfl ?_
  unfold v49
  unfold slices_ContainsFunc_api_Block_api_Block_k1 at hF
  refine W_seq ?_
  refine W_regV (by decide) ?_
  refine QV rfl ?_
  refine W_seq ?_
  refine W_regV (by decide) ?_
  refine Q_run SV 2 rfl ?_
  obtain ⟨r1, hr1, hF⟩ := bB hF
  refine R_step SV trivial (T_callO [((4000,0),(2960,0))] rfl (slices_IndexFunc_api_Block_api_Block_k1_fun _ _ _ hr1) ⟨rfl, trivial⟩ rfl rfl (.inr ⟨.inl rfl, .inl rfl, trivial⟩) ?_)
  refine QV rfl ?_
  refine W_ret ?_
  cases hF
  exact ⟨_, _, S_refl, _, rfl, rfl, ⟨rfl, fun _ => rfl⟩, (AgM.weak ⟨rfl, trivial⟩)⟩
def trace_inside (p0 : api_Span) (p1 : Int) : Option Bool :=
  (((bif (decide (p0.fFrom ≤ p1)) then some (decide (p1 < p0.fTo)) else some false) : Option Bool).bind fun v1 => some v1)
set_option maxRecDepth 100000 in
set_option maxHeartbeats 4000000 in
theorem trace_inside_fun (p0 : api_Span) (p1 : Int) (r : Bool) (hF : trace_inside p0 p1 = some r) : Fun Try.prog 53 true [] [.agg [.imm (tI p0.fFrom), .imm (tI p0.fTo)], .c (.imm (tI p1))] noHeap (.c (.imm (.sc (.bool r)))) noHeap := by
  refine Fun.of_walk0 Try.func53 c53 (by kernel_rfl) (rs := [.tmp 4]) (by kernel_rfl) ?_
  unfold v53
  unfold trace_inside at hF
  refine W_seq ?_
  refine W_regV (by decide) ?_
  refine QV rfl ?_
  refine W_seq ?_
  refine W_join (fun _ _ h => h) hF (fun v1 => [(4, .c (.imm (.sc (.bool v1))))]) (fun v1 => []) ?_ ?_
  · rintro v1 hF
    refine W_ret ?_
    cases hF
    exact ⟨_, rfl, rfl, ⟨rfl, fun _ => rfl⟩, noOut _⟩
  · intro join hF
    refine W_regV (by decide) ?_
    refine Q_run SV 5 rfl ?_
    cases h2 : (decide (p0.fFrom ≤ p1))
    · have hF := bF' h2 hF
      refine QV rfl ?_
      exact join false _ _ hF (S_weak ⟨rfl, trivial⟩ trivial)
    · have hF := bT' h2 hF
      refine QV rfl ?_
      exact join (decide (p1 < p0.fTo)) _ _ hF (S_weak ⟨rfl, trivial⟩ trivial)
def trace_outside_4_k1 (p0 : api_Flow) (p1 : api_Span) : Option Bool :=
  ((((trace_inside p1 p0.fSend).bind fun r2 => (bif (!r2) then some true else ((trace_inside p1 p0.fRecv).bind fun r4 => some (!r4)))) : Option Bool).bind fun v1 => some v1)
set_option maxRecDepth 100000 in
set_option maxHeartbeats 4000000 in
theorem trace_outside_4_k1_fun (p0 : api_Flow) (p1 : api_Span) (r : Bool) (hF : trace_outside_4_k1 p0 p1 = some r) : Fun Try.prog 52 true [] [.agg [.imm (tI p0.fId), .imm (tI p0.fFrom.fThread), .imm (tI p0.fFrom.fSerial), .imm (tI p0.fTo.fThread), .imm (tI p0.fTo.fSerial), .imm (tI p0.fSend), .imm (tI p0.fRecv)], .c (.ptrI [tI p1.fFrom, tI p1.fTo])] noHeap (.c (.imm (.sc (.bool r)))) noHeap := by
  refine Fun.of_walk0 Try.func52 c52 (by kernel_rfl) (rs := [.tmp 3]) (by kernel_rfl) ?_
  unfold v52
  unfold trace_outside_4_k1 at hF
  refine W_seq ?_
  refine W_regV (by decide) ?_
  refine QV rfl ?_
  refine W_seq ?_
  refine W_join (fun _ _ h => h) hF (fun v1 => [(3, .c (.imm (.sc (.bool v1))))]) (fun v1 => []) ?_ ?_
  · rintro v1 hF
    refine W_ret ?_
    cases hF
    exact ⟨_, rfl, rfl, ⟨rfl, fun _ => rfl⟩, noOut _⟩
  · intro join hF
    refine W_regV (by decide) ?_
    refine Q_run SV 3 rfl ?_
    obtain ⟨r2, hr2, hF⟩ := bB' hF
    refine R_step SV trivial (T_call (trace_inside_fun _ _ _ hr2) ⟨⟨rfl, rfl, trivial⟩, rfl, trivial⟩ rfl (.inl rfl) ?_)
    refine Q_run SV 2 rfl ?_
    cases h3 : (!r2)
    · have hF := bF' h3 hF
      refine Q_run SV 3 rfl ?_
      obtain ⟨r4, hr4, hF⟩ := bB' hF
      refine R_step SV rfl (T_call (trace_inside_fun _ _ _ hr4) ⟨⟨rfl, rfl, trivial⟩, rfl, trivial⟩ rfl (.inl rfl) ?_)
      refine QV rfl ?_
      exact join (!r4) _ _ hF (S_weak ⟨rfl, trivial⟩ trivial)
    · have hF := bT' h3 hF
      refine QV rfl ?_
      exact join true _ _ hF (S_weak ⟨rfl, trivial⟩ trivial)
def slices_IndexFunc_api_Flow_api_Flow_k1_L1 (p0 : (List api_Flow)) (p1_0 : api_Span) : Int → Option (Int ⊕ (Unit ⊕ Int)) := fun a12 =>
  (bif (decide (a12 < (List.length p0 : Int))) then ((idx p0 a12).bind fun y17 => ((trace_outside_4_k1 y17 p1_0).bind fun r18 => (bif r18 then some (.inr (.inr a12)) else some (.inl (w64 (a12 + 1)))))) else some (.inr (.inl ())))
def slices_IndexFunc_api_Flow_api_Flow_k1 (p0 : (List api_Flow)) (p1_0 : api_Span) : Option Int :=
  ((loop (slices_IndexFunc_api_Flow_api_Flow_k1_L1 p0 p1_0) 0).bind fun | .inl _ => some (-1) | .inr rv => some rv)
set_option maxRecDepth 100000 in
set_option maxHeartbeats 4000000 in
theorem slices_IndexFunc_api_Flow_api_Flow_k1_fun (p0 : (List api_Flow)) (p1_0 : api_Span) (r : Int) (hF : slices_IndexFunc_api_Flow_api_Flow_k1 p0 p1_0 = some r) : Fun Try.prog 76 false [(4040,0)] [.c (.imm (.sl 7 (List.map t_api_Flow p0))), .c (.fn 52 [.ptr (4040,0)])] (heapOf [((4040,0), .box [.imm (tI p1_0.fFrom), .imm (tI p1_0.fTo)])]) (.c (.imm (tI r))) (heapOf [((4040,0), .box [.imm (tI p1_0.fFrom), .imm (tI p1_0.fTo)])]) := by
  refine Fun.of_walkM [(4040,0)] (some [(4040,0)]) Try.func76 c76 (by kernel_rfl) (rs := [.tmp 4]) (by kernel_rfl) rfl rfl rfl ?_
  unfold v76
  unfold slices_IndexFunc_api_Flow_api_Flow_k1 at hF
  refine W_seq ?_
  refine W_regV (by decide) ?_
  refine QV rfl ?_
  refine W_seq ?_
  refine W_seq ?_
  refine W_regV (by decide) ?_
  refine Q_run SV 1 rfl ?_
  refine R_step SV trivial (T_len (tc := t_api_Flow) p0 .tree ?_)
  refine QV rfl ?_
  refine W_for (fun _ _ h => h) hF (.inl) (fun a12 => [(0, .c (.imm (.sl 7 (List.map t_api_Flow p0)))), (1, .c (.fn 52 [.ptr (4040,0)])), (7, .c (.imm (tI (List.length p0 : Int)))), (8, .c (.imm (tI a12)))]) (fun a12 => [((4040,0), .box [.imm (tI p1_0.fFrom), .imm (tI p1_0.fTo)])]) (fun _ => []) (fun _ => [((4040,0), .box [.imm (tI p1_0.fFrom), .imm (tI p1_0.fTo)])]) (S_weak ⟨rfl, rfl, rfl, rfl, trivial⟩ ⟨rfl, trivial⟩) ?_ ?_
  · rintro ⟨⟩ hF
    refine W_seq ?_
    refine W_regV (by decide) ?_
    refine QV rfl ?_
    refine W_ret ?_
    cases hF
    exact ⟨_, _, S_refl, _, rfl, rfl, ⟨rfl, fun _ => rfl⟩, (AgM.weak ⟨rfl, trivial⟩)⟩
  · rintro a12 x_0 hF cont_0 brk_0 fin_0
    unfold slices_IndexFunc_api_Flow_api_Flow_k1_L1 at hF
    refine W_seq ?_
    refine W_regV (by decide) ?_
    refine QV rfl ?_
    refine W_seq ?_
    refine W_condL (t := (decide (a12 < (List.length p0 : Int)))) rfl (fun h20 => ?_) (fun h20 => ?_)
    · have hF := bT h20 hF
      refine W_skip ?_
      refine W_seq ?_
      refine W_block ?_
      refine W_seq ?_
      refine W_regV (by decide) ?_
      refine QV rfl ?_
      refine W_seq ?_
      refine W_regV (by decide) ?_
      refine Q_run SV 3 rfl ?_
      obtain ⟨y17, hy17, hF⟩ := bB hF
      refine R_step SV trivial (T_ixT (tc := t_api_Flow) p0 rfl rfl hy17 ?_)
      refine Q_run SV 1 rfl ?_
      obtain ⟨r18, hr18, hF⟩ := bB hF
      refine R_stepX trivial (X_call (callW _ rfl fnOk52) (trace_outside_4_k1_fun _ _ _ hr18) ⟨⟨rfl, rfl, rfl, rfl, rfl, rfl, rfl, trivial⟩, ⟨_, rfl, ⟨rfl, rfl, trivial⟩⟩, trivial⟩ rfl (.inl rfl) ?_)
      refine QV rfl ?_
      refine W_condL (t := r18) rfl (fun h19 => ?_) (fun h19 => ?_)
      · have hF := bT h19 hF
        refine W_seq ?_
        refine W_regV (by decide) ?_
        refine QV rfl ?_
        have hF := fin_0 _ (Option.some.inj hF).symm
        refine W_ret ?_
        cases hF
        exact ⟨_, _, S_refl, _, rfl, rfl, ⟨rfl, fun _ => rfl⟩, (AgM.weak ⟨rfl, trivial⟩)⟩
      · have hF := bF h19 hF
        refine W_skip ?_
        refine W_regV (by decide) ?_
        refine QV rfl ?_
        exact cont_0 _ _ _ (Option.some.inj hF).symm (S_weak ⟨rfl, rfl, rfl, rfl, trivial⟩ ⟨rfl, trivial⟩)
    · have hF := bF h20 hF
      refine W_exit ?_
      refine thenQ_exit ?_
      refine thenQ_exit ?_
      refine blockQ_hit ?_
      exact brk_0 _ _ _ (Option.some.inj hF).symm (S_weak trivial ⟨rfl, trivial⟩)
def slices_ContainsFunc_api_Flow_api_Flow_k1 (p0 : (List api_Flow)) (p1_0 : api_Span) : Option Bool :=
  ((slices_IndexFunc_api_Flow_api_Flow_k1 p0 p1_0).bind fun r1 => some (decide (0 ≤ r1)))
set_option maxRecDepth 100000 in
set_option maxHeartbeats 4000000 in
theorem slices_ContainsFunc_api_Flow_api_Flow_k1_fun (p0 : (List api_Flow)) (p1_0 : api_Span) (r : Bool) (hF : slices_ContainsFunc_api_Flow_api_Flow_k1 p0 p1_0 = some r) : Fun Try.prog 51 false [(3040,0)] [.c (.imm (.sl 7 (List.map t_api_Flow p0))), .c (.fn 52 [.ptr (3040,0)])] (heapOf [((3040,0), .box [.imm (tI p1_0.fFrom), .imm (tI p1_0.fTo)])]) (.c (.imm (.sc (.bool r)))) (heapOf [((3040,0), .box [.imm (tI p1_0.fFrom), .imm (tI p1_0.fTo)])]) := by
  refine Fun.of_walkM [(3040,0)] (some [(3040,0)]) Try.func51 c51 (by kernel_rfl) (rs := [.tmp 4]) (by kernel_rfl) rfl rfl rfl ?_
  unfold v51
  unfold slices_ContainsFunc_api_Flow_api_Flow_k1 at hF
  refine W_seq ?_
  refine W_regV (by decide) ?_
  refine QV rfl ?_
  refine W_seq ?_
  refine W_regV (by decide) ?_
  refine Q_run SV 2 rfl ?_
  obtain ⟨r1, hr1, hF⟩ := bB hF
  refine R_step SV trivial (T_callO [((4040,0),(3040,0))] rfl (slices_IndexFunc_api_Flow_api_Flow_k1_fun _ _ _ hr1) ⟨rfl, trivial⟩ rfl rfl (.inr ⟨.inl rfl, .inl rfl, trivial⟩) ?_)
  refine QV rfl ?_
  refine W_ret ?_
  cases hF
  exact ⟨_, _, S_refl, _, rfl, rfl, ⟨rfl, fun _ => rfl⟩, (AgM.weak ⟨rfl, trivial⟩)⟩
def trace_outside_5_k1 (p0 : api_Sample) (p1 : api_Span) : Option Bool :=
  ((trace_inside p1 p0.fAt).bind fun r1 => some (!r1))
set_option maxRecDepth 100000 in
set_option maxHeartbeats 4000000 in
theorem trace_outside_5_k1_fun (p0 : api_Sample) (p1 : api_Span) (r : Bool) (hF : trace_outside_5_k1 p0 p1 = some r) : Fun Try.prog 55 true [] [.agg [.imm (tI p0.fThread), .imm (tI p0.fAt), .imm (tI p0.fWeight), .imm (.sl 1 (List.map t_str p0.fStack))], .c (.ptrI [tI p1.fFrom, tI p1.fTo])] noHeap (.c (.imm (.sc (.bool r)))) noHeap := by
  refine Fun.of_walk0 Try.func55 c55 (by kernel_rfl) (rs := [.tmp 3]) (by kernel_rfl) ?_
  unfold v55
  unfold trace_outside_5_k1 at hF
  refine W_seq ?_
  refine W_regV (by decide) ?_
  refine QV rfl ?_
  refine W_seq ?_
  refine W_regV (by decide) ?_
  refine Q_run SV 3 rfl ?_
  obtain ⟨r1, hr1, hF⟩ := bB hF
  refine R_step SV trivial (T_call (trace_inside_fun _ _ _ hr1) ⟨⟨rfl, rfl, trivial⟩, rfl, trivial⟩ rfl (.inl rfl) ?_)
  refine QV rfl ?_
  refine W_ret ?_
  cases hF
  exact ⟨_, rfl, rfl, ⟨rfl, fun _ => rfl⟩, noOut _⟩
def slices_IndexFunc_api_Sample_api_Sample_k1_L1 (p0 : (List api_Sample)) (p1_0 : api_Span) : Int → Option (Int ⊕ (Unit ⊕ Int)) := fun a12 =>
  (bif (decide (a12 < (List.length p0 : Int))) then ((idx p0 a12).bind fun y17 => ((trace_outside_5_k1 y17 p1_0).bind fun r18 => (bif r18 then some (.inr (.inr a12)) else some (.inl (w64 (a12 + 1)))))) else some (.inr (.inl ())))
def slices_IndexFunc_api_Sample_api_Sample_k1 (p0 : (List api_Sample)) (p1_0 : api_Span) : Option Int :=
  ((loop (slices_IndexFunc_api_Sample_api_Sample_k1_L1 p0 p1_0) 0).bind fun | .inl _ => some (-1) | .inr rv => some rv)
set_option maxRecDepth 100000 in
set_option maxHeartbeats 4000000 in
theorem slices_IndexFunc_api_Sample_api_Sample_k1_fun (p0 : (List api_Sample)) (p1_0 : api_Span) (r : Int) (hF : slices_IndexFunc_api_Sample_api_Sample_k1 p0 p1_0 = some r) : Fun Try.prog 77 false [(4080,0)] [.c (.imm (.sl 4 (List.map t_api_Sample p0))), .c (.fn 55 [.ptr (4080,0)])] (heapOf [((4080,0), .box [.imm (tI p1_0.fFrom), .imm (tI p1_0.fTo)])]) (.c (.imm (tI r))) (heapOf [((4080,0), .box [.imm (tI p1_0.fFrom), .imm (tI p1_0.fTo)])]) := by
  refine Fun.of_walkM [(4080,0)] (some [(4080,0)]) Try.func77 c77 (by kernel_rfl) (rs := [.tmp 4]) (by kernel_rfl) rfl rfl rfl ?_
  unfold v77
  unfold slices_IndexFunc_api_Sample_api_Sample_k1 at hF
  refine W_seq ?_
  refine W_regV (by decide) ?_
  refine QV rfl ?_
  refine W_seq ?_
  refine W_seq ?_
  refine W_regV (by decide) ?_
  refine Q_run SV 1 rfl ?_
  refine R_step SV trivial (T_len (tc := t_api_Sample) p0 .tree ?_)
  refine QV rfl ?_
  refine W_for (fun _ _ h => h) hF (.inl) (fun a12 => [(0, .c (.imm (.sl 4 (List.map t_api_Sample p0)))), (1, .c (.fn 55 [.ptr (4080,0)])), (7, .c (.imm (tI (List.length p0 : Int)))), (8, .c (.imm (tI a12)))]) (fun a12 => [((4080,0), .box [.imm (tI p1_0.fFrom), .imm (tI p1_0.fTo)])]) (fun _ => []) (fun _ => [((4080,0), .box [.imm (tI p1_0.fFrom), .imm (tI p1_0.fTo)])]) (S_weak ⟨rfl, rfl, rfl, rfl, trivial⟩ ⟨rfl, trivial⟩) ?_ ?_
  · rintro ⟨⟩ hF
    refine W_seq ?_
    refine W_regV (by decide) ?_
    refine QV rfl ?_
    refine W_ret ?_
    cases hF
    exact ⟨_, _, S_refl, _, rfl, rfl, ⟨rfl, fun _ => rfl⟩, (AgM.weak ⟨rfl, trivial⟩)⟩
  · rintro a12 x_0 hF cont_0 brk_0 fin_0
    unfold slices_IndexFunc_api_Sample_api_Sample_k1_L1 at hF
    refine W_seq ?_
    refine W_regV (by decide) ?_
    refine QV rfl ?_
    refine W_seq ?_
    refine W_condL (t := (decide (a12 < (List.length p0 : Int)))) rfl (fun h20 => ?_) (fun h20 => ?_)
    · have hF := bT h20 hF
      refine W_skip ?_
      refine W_seq ?_
      refine W_block ?_
      refine W_seq ?_
      refine W_regV (by decide) ?_
      refine QV rfl ?_
      refine W_seq ?_
      refine W_regV (by decide) ?_
      refine Q_run SV 3 rfl ?_
      obtain ⟨y17, hy17, hF⟩ := bB hF
      refine R_step SV trivial (T_ixT (tc := t_api_Sample) p0 rfl rfl hy17 ?_)
      refine Q_run SV 1 rfl ?_
      obtain ⟨r18, hr18, hF⟩ := bB hF
      refine R_stepX trivial (X_call (callW _ rfl fnOk55) (trace_outside_5_k1_fun _ _ _ hr18) ⟨⟨rfl, rfl, rfl, rfl, trivial⟩, ⟨_, rfl, ⟨rfl, rfl, trivial⟩⟩, trivial⟩ rfl (.inl rfl) ?_)
      refine QV rfl ?_
      refine W_condL (t := r18) rfl (fun h19 => ?_) (fun h19 => ?_)
      · have hF := bT h19 hF
        refine W_seq ?_
        refine W_regV (by decide) ?_
        refine QV rfl ?_
        have hF := fin_0 _ (Option.some.inj hF).symm
        refine W_ret ?_
        cases hF
        exact ⟨_, _, S_refl, _, rfl, rfl, ⟨rfl, fun _ => rfl⟩, (AgM.weak ⟨rfl, trivial⟩)⟩
      · have hF := bF h19 hF
        refine W_skip ?_
        refine W_regV (by decide) ?_
        refine QV rfl ?_
        exact cont_0 _ _ _ (Option.some.inj hF).symm (S_weak ⟨rfl, rfl, rfl, rfl, trivial⟩ ⟨rfl, trivial⟩)
    · have hF := bF h20 hF
      refine W_exit ?_
      refine thenQ_exit ?_
      refine thenQ_exit ?_
      refine blockQ_hit ?_
      exact brk_0 _ _ _ (Option.some.inj hF).symm (S_weak trivial ⟨rfl, trivial⟩)
def slices_ContainsFunc_api_Sample_api_Sample_k1 (p0 : (List api_Sample)) (p1_0 : api_Span) : Option Bool :=
  ((slices_IndexFunc_api_Sample_api_Sample_k1 p0 p1_0).bind fun r1 => some (decide (0 ≤ r1)))
set_option maxRecDepth 100000 in
set_option maxHeartbeats 4000000 in
theorem slices_ContainsFunc_api_Sample_api_Sample_k1_fun (p0 : (List api_Sample)) (p1_0 : api_Span) (r : Bool) (hF : slices_ContainsFunc_api_Sample_api_Sample_k1 p0 p1_0 = some r) : Fun Try.prog 54 false [(3160,0)] [.c (.imm (.sl 4 (List.map t_api_Sample p0))), .c (.fn 55 [.ptr (3160,0)])] (heapOf [((3160,0), .box [.imm (tI p1_0.fFrom), .imm (tI p1_0.fTo)])]) (.c (.imm (.sc (.bool r)))) (heapOf [((3160,0), .box [.imm (tI p1_0.fFrom), .imm (tI p1_0.fTo)])]) := by
  refine Fun.of_walkM [(3160,0)] (some [(3160,0)]) Try.func54 c54 (by kernel_rfl) (rs := [.tmp 4]) (by kernel_rfl) rfl rfl rfl ?_
  unfold v54
  unfold slices_ContainsFunc_api_Sample_api_Sample_k1 at hF
  refine W_seq ?_
  refine W_regV (by decide) ?_
  refine QV rfl ?_
  refine W_seq ?_
  refine W_regV (by decide) ?_
  refine Q_run SV 2 rfl ?_
  obtain ⟨r1, hr1, hF⟩ := bB hF
  refine R_step SV trivial (T_callO [((4080,0),(3160,0))] rfl (slices_IndexFunc_api_Sample_api_Sample_k1_fun _ _ _ hr1) ⟨rfl, trivial⟩ rfl rfl (.inr ⟨.inl rfl, .inl rfl, trivial⟩) ?_)
  refine QV rfl ?_
  refine W_ret ?_
  cases hF
  exact ⟨_, _, S_refl, _, rfl, rfl, ⟨rfl, fun _ => rfl⟩, (AgM.weak ⟨rfl, trivial⟩)⟩
def trace_outside_6_k1 (p0 : api_Step) (p1 : api_Span) : Option Bool :=
  ((trace_inside p1 p0.fAt).bind fun r1 => some (!r1))
set_option maxRecDepth 100000 in
set_option maxHeartbeats 4000000 in
theorem trace_outside_6_k1_fun (p0 : api_Step) (p1 : api_Span) (r : Bool) (hF : trace_outside_6_k1 p0 p1 = some r) : Fun Try.prog 57 true [] [.agg [.imm (.sc (.string p0.fName)), .imm (tI p0.fAt), .imm (tI p0.fValue)], .c (.ptrI [tI p1.fFrom, tI p1.fTo])] noHeap (.c (.imm (.sc (.bool r)))) noHeap := by
  refine Fun.of_walk0 Try.func57 c57 (by kernel_rfl) (rs := [.tmp 3]) (by kernel_rfl) ?_
  unfold v57
  unfold trace_outside_6_k1 at hF
  refine W_seq ?_
  refine W_regV (by decide) ?_
  refine QV rfl ?_
  refine W_seq ?_
  refine W_regV (by decide) ?_
  refine Q_run SV 3 rfl ?_
  obtain ⟨r1, hr1, hF⟩ := bB hF
  refine R_step SV trivial (T_call (trace_inside_fun _ _ _ hr1) ⟨⟨rfl, rfl, trivial⟩, rfl, trivial⟩ rfl (.inl rfl) ?_)
  refine QV rfl ?_
  refine W_ret ?_
  cases hF
  exact ⟨_, rfl, rfl, ⟨rfl, fun _ => rfl⟩, noOut _⟩
def slices_IndexFunc_api_Step_api_Step_k1_L1 (p0 : (List api_Step)) (p1_0 : api_Span) : Int → Option (Int ⊕ (Unit ⊕ Int)) := fun a12 =>
  (bif (decide (a12 < (List.length p0 : Int))) then ((idx p0 a12).bind fun y17 => ((trace_outside_6_k1 y17 p1_0).bind fun r18 => (bif r18 then some (.inr (.inr a12)) else some (.inl (w64 (a12 + 1)))))) else some (.inr (.inl ())))
def slices_IndexFunc_api_Step_api_Step_k1 (p0 : (List api_Step)) (p1_0 : api_Span) : Option Int :=
  ((loop (slices_IndexFunc_api_Step_api_Step_k1_L1 p0 p1_0) 0).bind fun | .inl _ => some (-1) | .inr rv => some rv)
set_option maxRecDepth 100000 in
set_option maxHeartbeats 4000000 in
theorem slices_IndexFunc_api_Step_api_Step_k1_fun (p0 : (List api_Step)) (p1_0 : api_Span) (r : Int) (hF : slices_IndexFunc_api_Step_api_Step_k1 p0 p1_0 = some r) : Fun Try.prog 78 false [(4120,0)] [.c (.imm (.sl 3 (List.map t_api_Step p0))), .c (.fn 57 [.ptr (4120,0)])] (heapOf [((4120,0), .box [.imm (tI p1_0.fFrom), .imm (tI p1_0.fTo)])]) (.c (.imm (tI r))) (heapOf [((4120,0), .box [.imm (tI p1_0.fFrom), .imm (tI p1_0.fTo)])]) := by
  refine Fun.of_walkM [(4120,0)] (some [(4120,0)]) Try.func78 c78 (by kernel_rfl) (rs := [.tmp 4]) (by kernel_rfl) rfl rfl rfl ?_
  unfold v78
  unfold slices_IndexFunc_api_Step_api_Step_k1 at hF
  refine W_seq ?_
  refine W_regV (by decide) ?_
  refine QV rfl ?_
  refine W_seq ?_
  refine W_seq ?_
  refine W_regV (by decide) ?_
  refine Q_run SV 1 rfl ?_
  refine R_step SV trivial (T_len (tc := t_api_Step) p0 .tree ?_)
  refine QV rfl ?_
  refine W_for (fun _ _ h => h) hF (.inl) (fun a12 => [(0, .c (.imm (.sl 3 (List.map t_api_Step p0)))), (1, .c (.fn 57 [.ptr (4120,0)])), (7, .c (.imm (tI (List.length p0 : Int)))), (8, .c (.imm (tI a12)))]) (fun a12 => [((4120,0), .box [.imm (tI p1_0.fFrom), .imm (tI p1_0.fTo)])]) (fun _ => []) (fun _ => [((4120,0), .box [.imm (tI p1_0.fFrom), .imm (tI p1_0.fTo)])]) (S_weak ⟨rfl, rfl, rfl, rfl, trivial⟩ ⟨rfl, trivial⟩) ?_ ?_
  · rintro ⟨⟩ hF
    refine W_seq ?_
    refine W_regV (by decide) ?_
    refine QV rfl ?_
    refine W_ret ?_
    cases hF
    exact ⟨_, _, S_refl, _, rfl, rfl, ⟨rfl, fun _ => rfl⟩, (AgM.weak ⟨rfl, trivial⟩)⟩
  · rintro a12 x_0 hF cont_0 brk_0 fin_0
    unfold slices_IndexFunc_api_Step_api_Step_k1_L1 at hF
    refine W_seq ?_
    refine W_regV (by decide) ?_
    refine QV rfl ?_
    refine W_seq ?_
    refine W_condL (t := (decide (a12 < (List.length p0 : Int)))) rfl (fun h20 => ?_) (fun h20 => ?_)
    · have hF := bT h20 hF
      refine W_skip ?_
      refine W_seq ?_
      refine W_block ?_
      refine W_seq ?_
      refine W_regV (by decide) ?_
      refine QV rfl ?_
      refine W_seq ?_
      refine W_regV (by decide) ?_
      refine Q_run SV 3 rfl ?_
      obtain ⟨y17, hy17, hF⟩ := bB hF
      refine R_step SV trivial (T_ixT (tc := t_api_Step) p0 rfl rfl hy17 ?_)
      refine Q_run SV 1 rfl ?_
      obtain ⟨r18, hr18, hF⟩ := bB hF
      refine R_stepX trivial (X_call (callW _ rfl fnOk57) (trace_outside_6_k1_fun _ _ _ hr18) ⟨⟨rfl, rfl, rfl, trivial⟩, ⟨_, rfl, ⟨rfl, rfl, trivial⟩⟩, trivial⟩ rfl (.inl rfl) ?_)
      refine QV rfl ?_
      refine W_condL (t := r18) rfl (fun h19 => ?_) (fun h19 => ?_)
      · have hF := bT h19 hF
        refine W_seq ?_
        refine W_regV (by decide) ?_
        refine QV rfl ?_
        have hF := fin_0 _ (Option.some.inj hF).symm
        refine W_ret ?_
        cases hF
        exact ⟨_, _, S_refl, _, rfl, rfl, ⟨rfl, fun _ => rfl⟩, (AgM.weak ⟨rfl, trivial⟩)⟩
      · have hF := bF h19 hF
        refine W_skip ?_
        refine W_regV (by decide) ?_
        refine QV rfl ?_
        exact cont_0 _ _ _ (Option.some.inj hF).symm (S_weak ⟨rfl, rfl, rfl, rfl, trivial⟩ ⟨rfl, trivial⟩)
    · have hF := bF h20 hF
      refine W_exit ?_
      refine thenQ_exit ?_
      refine thenQ_exit ?_
      refine blockQ_hit ?_
      exact brk_0 _ _ _ (Option.some.inj hF).symm (S_weak trivial ⟨rfl, trivial⟩)
def slices_ContainsFunc_api_Step_api_Step_k1 (p0 : (List api_Step)) (p1_0 : api_Span) : Option Bool :=
  ((slices_IndexFunc_api_Step_api_Step_k1 p0 p1_0).bind fun r1 => some (decide (0 ≤ r1)))
set_option maxRecDepth 100000 in
set_option maxHeartbeats 4000000 in
theorem slices_ContainsFunc_api_Step_api_Step_k1_fun (p0 : (List api_Step)) (p1_0 : api_Span) (r : Bool) (hF : slices_ContainsFunc_api_Step_api_Step_k1 p0 p1_0 = some r) : Fun Try.prog 56 false [(3240,0)] [.c (.imm (.sl 3 (List.map t_api_Step p0))), .c (.fn 57 [.ptr (3240,0)])] (heapOf [((3240,0), .box [.imm (tI p1_0.fFrom), .imm (tI p1_0.fTo)])]) (.c (.imm (.sc (.bool r)))) (heapOf [((3240,0), .box [.imm (tI p1_0.fFrom), .imm (tI p1_0.fTo)])]) := by
  refine Fun.of_walkM [(3240,0)] (some [(3240,0)]) Try.func56 c56 (by kernel_rfl) (rs := [.tmp 4]) (by kernel_rfl) rfl rfl rfl ?_
  unfold v56
  unfold slices_ContainsFunc_api_Step_api_Step_k1 at hF
  refine W_seq ?_
  refine W_regV (by decide) ?_
  refine QV rfl ?_
  refine W_seq ?_
  refine W_regV (by decide) ?_
  refine Q_run SV 2 rfl ?_
  obtain ⟨r1, hr1, hF⟩ := bB hF
  refine R_step SV trivial (T_callO [((4120,0),(3240,0))] rfl (slices_IndexFunc_api_Step_api_Step_k1_fun _ _ _ hr1) ⟨rfl, trivial⟩ rfl rfl (.inr ⟨.inl rfl, .inl rfl, trivial⟩) ?_)
  refine QV rfl ?_
  refine W_ret ?_
  cases hF
  exact ⟨_, _, S_refl, _, rfl, rfl, ⟨rfl, fun _ => rfl⟩, (AgM.weak ⟨rfl, trivial⟩)⟩
def trace_outside (p0 : api_Trace) : Option Bool :=
  ((((slices_ContainsFunc_api_Slice_api_Slice_k1 p0.fSlices p0.fSpan).bind fun r2 => (bif r2 then some true else ((slices_ContainsFunc_api_State_api_State_k1 p0.fStates p0.fSpan).bind fun r4 => (bif r4 then some true else ((slices_ContainsFunc_api_Block_api_Block_k1 p0.fBlocks p0.fSpan).bind fun r6 => (bif r6 then some true else ((slices_ContainsFunc_api_Flow_api_Flow_k1 p0.fFlows p0.fSpan).bind fun r8 => (bif r8 then some true else ((slices_ContainsFunc_api_Sample_api_Sample_k1 p0.fSamples p0.fSpan).bind fun r10 => (bif r10 then some true else ((slices_ContainsFunc_api_Step_api_Step_k1 p0.fSteps p0.fSpan).bind fun r12 => some r12))))))))))) : Option Bool).bind fun v1 => some v1)
set_option maxRecDepth 100000 in
set_option maxHeartbeats 4000000 in
theorem trace_outside_fun (p0 : api_Trace) (r : Bool) (hF : trace_outside p0 = some r) : Fun Try.prog 24 true [] [.agg [.imm (tI p0.fSpan.fFrom), .imm (tI p0.fSpan.fTo), .imm (.sl 3 (List.map t_api_Thread p0.fThreads)), .imm (.sl 8 (List.map t_api_Slice p0.fSlices)), .imm (.sl 7 (List.map t_api_State p0.fStates)), .imm (.sl 7 (List.map t_api_Flow p0.fFlows)), .imm (.sl 4 (List.map t_api_Sample p0.fSamples)), .imm (.sl 3 (List.map t_api_Step p0.fSteps)), .imm (.sl 7 (List.map t_api_Block p0.fBlocks)), .imm (.sl 4 (List.map t_api_Loss p0.fLost))]] noHeap (.c (.imm (.sc (.bool r)))) noHeap := by
  refine Fun.of_walk0 Try.func24 c24 (by kernel_rfl) (rs := [.tmp 2]) (by kernel_rfl) ?_
  unfold v24
  unfold trace_outside at hF
  refine W_seq ?_
  refine W_regV (by decide) ?_
  refine QV rfl ?_
  refine W_seq ?_
  refine W_regV (by decide) ?_
  refine QV rfl ?_
  refine W_seq ?_
  refine W_join (fun _ _ h => h) hF (fun v1 => [(2, .c (.imm (.sc (.bool v1))))]) (fun v1 => []) ?_ ?_
  · rintro v1 hF
    refine W_ret ?_
    cases hF
    exact ⟨_, rfl, rfl, ⟨rfl, fun _ => rfl⟩, noOut _⟩
  · intro join hF
    refine W_regV (by decide) ?_
    refine Q_run SV 3 rfl ?_
    obtain ⟨r2, hr2, hF⟩ := bB' hF
    refine R_step SV trivial (T_callO [((2760,0),(3,0))] rfl (slices_ContainsFunc_api_Slice_api_Slice_k1_fun _ _ _ hr2) ⟨rfl, trivial⟩ rfl rfl (.inr ⟨.inl rfl, .inl rfl, trivial⟩) ?_)
    refine Q_run SV 1 rfl ?_
    cases h3 : r2
    · have hF := bF' h3 hF
      refine Q_run SV 3 rfl ?_
      obtain ⟨r4, hr4, hF⟩ := bB' hF
      refine R_step SV rfl (T_callO [((2880,0),(3,0))] rfl (slices_ContainsFunc_api_State_api_State_k1_fun _ _ _ hr4) ⟨rfl, trivial⟩ rfl rfl (.inr ⟨.inl rfl, .inl rfl, trivial⟩) ?_)
      refine Q_run SV 2 rfl ?_
      cases h5 : r4
      · have hF := bF' h5 hF
        refine Q_run SV 3 rfl ?_
        obtain ⟨r6, hr6, hF⟩ := bB' hF
        refine R_step SV rfl (T_callO [((2960,0),(3,0))] rfl (slices_ContainsFunc_api_Block_api_Block_k1_fun _ _ _ hr6) ⟨rfl, trivial⟩ rfl rfl (.inr ⟨.inl rfl, .inl rfl, trivial⟩) ?_)
        refine Q_run SV 2 rfl ?_
        cases h7 : r6
        · have hF := bF' h7 hF
          refine Q_run SV 3 rfl ?_
          obtain ⟨r8, hr8, hF⟩ := bB' hF
          refine R_step SV rfl (T_callO [((3040,0),(3,0))] rfl (slices_ContainsFunc_api_Flow_api_Flow_k1_fun _ _ _ hr8) ⟨rfl, trivial⟩ rfl rfl (.inr ⟨.inl rfl, .inl rfl, trivial⟩) ?_)
          refine Q_run SV 2 rfl ?_
          cases h9 : r8
          · have hF := bF' h9 hF
            refine Q_run SV 3 rfl ?_
            obtain ⟨r10, hr10, hF⟩ := bB' hF
            refine R_step SV rfl (T_callO [((3160,0),(3,0))] rfl (slices_ContainsFunc_api_Sample_api_Sample_k1_fun _ _ _ hr10) ⟨rfl, trivial⟩ rfl rfl (.inr ⟨.inl rfl, .inl rfl, trivial⟩) ?_)
            refine Q_run SV 2 rfl ?_
            cases h11 : r10
            · have hF := bF' h11 hF
              refine Q_run SV 3 rfl ?_
              obtain ⟨r12, hr12, hF⟩ := bB' hF
              refine R_step SV rfl (T_callO [((3240,0),(3,0))] rfl (slices_ContainsFunc_api_Step_api_Step_k1_fun _ _ _ hr12) ⟨rfl, trivial⟩ rfl rfl (.inr ⟨.inl rfl, .inl rfl, trivial⟩) ?_)
              refine QV rfl ?_
              exact join r12 _ _ hF (S_weak ⟨rfl, trivial⟩ trivial)
            · have hF := bT' h11 hF
              refine QV rfl ?_
              exact join true _ _ hF (S_weak ⟨rfl, trivial⟩ trivial)
          · have hF := bT' h9 hF
            refine QV rfl ?_
            exact join true _ _ hF (S_weak ⟨rfl, trivial⟩ trivial)
        · have hF := bT' h7 hF
          refine QV rfl ?_
          exact join true _ _ hF (S_weak ⟨rfl, trivial⟩ trivial)
      · have hF := bT' h5 hF
        refine QV rfl ?_
        exact join true _ _ hF (S_weak ⟨rfl, trivial⟩ trivial)
    · have hF := bT' h3 hF
      refine QV rfl ?_
      exact join true _ _ hF (S_weak ⟨rfl, trivial⟩ trivial)
def trace_Check (p0 : api_Trace) : Option Int :=
  ((trace_tables p0).bind fun r1 => (bif (!decide (r1 = 0)) then some r1 else (((bif (decide (p0.fSpan.fFrom < 0)) then some true else (bif (decide (p0.fSpan.fTo < p0.fSpan.fFrom)) then some true else some (decide (1000000000000 < p0.fSpan.fTo)))) : Option Bool).bind fun v2 => (bif v2 then some 2 else ((trace_outside p0).bind fun r3 => (bif r3 then some 10 else some 0))))))
set_option maxRecDepth 100000 in
set_option maxHeartbeats 4000000 in
theorem trace_Check_fun (p0 : api_Trace) (r : Int) (hF : trace_Check p0 = some r) : Fun Try.prog 21 true [] [.agg [.imm (tI p0.fSpan.fFrom), .imm (tI p0.fSpan.fTo), .imm (.sl 3 (List.map t_api_Thread p0.fThreads)), .imm (.sl 8 (List.map t_api_Slice p0.fSlices)), .imm (.sl 7 (List.map t_api_State p0.fStates)), .imm (.sl 7 (List.map t_api_Flow p0.fFlows)), .imm (.sl 4 (List.map t_api_Sample p0.fSamples)), .imm (.sl 3 (List.map t_api_Step p0.fSteps)), .imm (.sl 7 (List.map t_api_Block p0.fBlocks)), .imm (.sl 4 (List.map t_api_Loss p0.fLost))]] noHeap (.c (.imm (tI r))) noHeap := by
  refine Fun.of_walk0 Try.func21 c21 (by kernel_rfl) (rs := [.tmp 2]) (by kernel_rfl) ?_
  unfold v21
  unfold trace_Check at hF
  refine W_seq ?_
  refine W_regV (by decide) ?_
  refine QV rfl ?_
  refine W_seq ?_
  refine W_seq ?_
  refine W_regV (by decide) ?_
  refine Q_run SV 1 rfl ?_
  obtain ⟨r1, hr1, hF⟩ := bB hF
  refine R_step SV trivial (T_call (trace_tables_fun _ _ hr1) ⟨⟨rfl, rfl, rfl, rfl, rfl, rfl, rfl, rfl, rfl, rfl, trivial⟩, trivial⟩ rfl (.inl rfl) ?_)
  refine QV rfl ?_
  refine W_seq ?_
  refine W_regV (by decide) ?_
  refine QV rfl ?_
  refine W_condL (t := (!decide (r1 = 0))) rfl (fun h8 => ?_) (fun h8 => ?_)
  · have hF := bT h8 hF
    refine W_seq ?_
    refine W_regV (by decide) ?_
    refine QV rfl ?_
    refine W_ret ?_
    cases hF
    exact ⟨_, rfl, rfl, ⟨rfl, fun _ => rfl⟩, noOut _⟩
  · have hF := bF h8 hF
    refine W_skip ?_
    refine W_seq ?_
    refine W_seq ?_
    refine W_join (fun _ _ h => h) hF (fun v2 => [(1, .c (.ptrO (1,0) 0)), (27, .c (.imm (.sc (.bool v2))))]) (fun v2 => [((1,0), .box [.imm (tI p0.fSpan.fFrom), .imm (tI p0.fSpan.fTo), .imm (.sl 3 (List.map t_api_Thread p0.fThreads)), .imm (.sl 8 (List.map t_api_Slice p0.fSlices)), .imm (.sl 7 (List.map t_api_State p0.fStates)), .imm (.sl 7 (List.map t_api_Flow p0.fFlows)), .imm (.sl 4 (List.map t_api_Sample p0.fSamples)), .imm (.sl 3 (List.map t_api_Step p0.fSteps)), .imm (.sl 7 (List.map t_api_Block p0.fBlocks)), .imm (.sl 4 (List.map t_api_Loss p0.fLost))])]) ?_ ?_
    · rintro v2 hF
      refine W_condL (t := v2) rfl (fun h5 => ?_) (fun h5 => ?_)
      · have hF := bT h5 hF
        refine W_seq ?_
        refine W_regV (by decide) ?_
        refine QV rfl ?_
        refine W_ret ?_
        cases hF
        exact ⟨_, rfl, rfl, ⟨rfl, fun _ => rfl⟩, noOut _⟩
      · have hF := bF h5 hF
        refine W_skip ?_
        refine W_seq ?_
        refine W_seq ?_
        refine W_regV (by decide) ?_
        refine Q_run SV 1 rfl ?_
        obtain ⟨r3, hr3, hF⟩ := bB hF
        refine R_step SV trivial (T_call (trace_outside_fun _ _ hr3) ⟨⟨rfl, rfl, rfl, rfl, rfl, rfl, rfl, rfl, rfl, rfl, trivial⟩, trivial⟩ rfl (.inl rfl) ?_)
        refine QV rfl ?_
        refine W_condL (t := r3) rfl (fun h4 => ?_) (fun h4 => ?_)
        · have hF := bT h4 hF
          refine W_seq ?_
          refine W_regV (by decide) ?_
          refine QV rfl ?_
          refine W_ret ?_
          cases hF
          exact ⟨_, rfl, rfl, ⟨rfl, fun _ => rfl⟩, noOut _⟩
        · have hF := bF h4 hF
          refine W_skip ?_
          refine W_seq ?_
          refine W_regV (by decide) ?_
          refine QV rfl ?_
          refine W_ret ?_
          cases hF
          exact ⟨_, rfl, rfl, ⟨rfl, fun _ => rfl⟩, noOut _⟩
    · intro join hF
      refine W_regV (by decide) ?_
      refine Q_run SV 5 rfl ?_
      cases h6 : (decide (p0.fSpan.fFrom < 0))
      · have hF := bF' h6 hF
        refine Q_run SV 9 rfl ?_
        cases h7 : (decide (p0.fSpan.fTo < p0.fSpan.fFrom))
        · have hF := bF' h7 hF
          refine QV rfl ?_
          exact join (decide (1000000000000 < p0.fSpan.fTo)) _ _ hF (S_weak ⟨rfl, rfl, trivial⟩ ⟨rfl, trivial⟩)
        · have hF := bT' h7 hF
          refine QV rfl ?_
          exact join true _ _ hF (S_weak ⟨rfl, rfl, trivial⟩ ⟨rfl, trivial⟩)
      · have hF := bT' h6 hF
        refine QV rfl ?_
        exact join true _ _ hF (S_weak ⟨rfl, rfl, trivial⟩ ⟨rfl, trivial⟩)
def critical_known_1_k1 (p0 : api_Thread) (p1 : Int) : Option Bool :=
  some (decide (p0.fId = p1))
set_option maxRecDepth 100000 in
set_option maxHeartbeats 4000000 in
theorem critical_known_1_k1_fun (p0 : api_Thread) (p1 : Int) (r : Bool) (hF : critical_known_1_k1 p0 p1 = some r) : Fun Try.prog 26 true [] [.agg [.imm (tI p0.fId), .imm (.sc (.string p0.fName)), .imm (tI p0.fDomain)], .c (.ptrI [tI p1])] noHeap (.c (.imm (.sc (.bool r)))) noHeap := by
  refine Fun.of_walk0 Try.func26 c26 (by kernel_rfl) (rs := [.tmp 3]) (by kernel_rfl) ?_
  unfold v26
  unfold critical_known_1_k1 at hF
  refine W_seq ?_
  refine W_regV (by decide) ?_
  refine QV rfl ?_
  refine W_seq ?_
  refine W_regV (by decide) ?_
  refine QV rfl ?_
  refine W_ret ?_
  cases hF
  exact ⟨_, rfl, rfl, ⟨rfl, fun _ => rfl⟩, noOut _⟩
def slices_IndexFunc_api_Thread_api_Thread_k1_L1 (p0 : (List api_Thread)) (p1_0 : Int) : Int → Option (Int ⊕ (Unit ⊕ Int)) := fun a12 =>
  (bif (decide (a12 < (List.length p0 : Int))) then ((idx p0 a12).bind fun y17 => ((critical_known_1_k1 y17 p1_0).bind fun r18 => (bif r18 then some (.inr (.inr a12)) else some (.inl (w64 (a12 + 1)))))) else some (.inr (.inl ())))
def slices_IndexFunc_api_Thread_api_Thread_k1 (p0 : (List api_Thread)) (p1_0 : Int) : Option Int :=
  ((loop (slices_IndexFunc_api_Thread_api_Thread_k1_L1 p0 p1_0) 0).bind fun | .inl _ => some (-1) | .inr rv => some rv)
set_option maxRecDepth 100000 in
set_option maxHeartbeats 4000000 in
theorem slices_IndexFunc_api_Thread_api_Thread_k1_fun (p0 : (List api_Thread)) (p1_0 : Int) (r : Int) (hF : slices_IndexFunc_api_Thread_api_Thread_k1 p0 p1_0 = some r) : Fun Try.prog 58 false [(3320,0)] [.c (.imm (.sl 3 (List.map t_api_Thread p0))), .c (.fn 26 [.ptr (3320,0)])] (heapOf [((3320,0), .box [.imm (tI p1_0)])]) (.c (.imm (tI r))) (heapOf [((3320,0), .box [.imm (tI p1_0)])]) := by
  refine Fun.of_walkM [(3320,0)] (some [(3320,0)]) Try.func58 c58 (by kernel_rfl) (rs := [.tmp 4]) (by kernel_rfl) rfl rfl rfl ?_
  unfold v58
  unfold slices_IndexFunc_api_Thread_api_Thread_k1 at hF
  refine W_seq ?_
  refine W_regV (by decide) ?_
  refine QV rfl ?_
  refine W_seq ?_
  refine W_seq ?_
  refine W_regV (by decide) ?_
  refine Q_run SV 1 rfl ?_
  refine R_step SV trivial (T_len (tc := t_api_Thread) p0 .tree ?_)
  refine QV rfl ?_
  refine W_for (fun _ _ h => h) hF (.inl) (fun a12 => [(0, .c (.imm (.sl 3 (List.map t_api_Thread p0)))), (1, .c (.fn 26 [.ptr (3320,0)])), (7, .c (.imm (tI (List.length p0 : Int)))), (8, .c (.imm (tI a12)))]) (fun a12 => [((3320,0), .box [.imm (tI p1_0)])]) (fun _ => []) (fun _ => [((3320,0), .box [.imm (tI p1_0)])]) (S_weak ⟨rfl, rfl, rfl, rfl, trivial⟩ ⟨rfl, trivial⟩) ?_ ?_
  · rintro ⟨⟩ hF
    refine W_seq ?_
    refine W_regV (by decide) ?_
    refine QV rfl ?_
    refine W_ret ?_
    cases hF
    exact ⟨_, _, S_refl, _, rfl, rfl, ⟨rfl, fun _ => rfl⟩, (AgM.weak ⟨rfl, trivial⟩)⟩
  · rintro a12 x_0 hF cont_0 brk_0 fin_0
    unfold slices_IndexFunc_api_Thread_api_Thread_k1_L1 at hF
    refine W_seq ?_
    refine W_regV (by decide) ?_
    refine QV rfl ?_
    refine W_seq ?_
    refine W_condL (t := (decide (a12 < (List.length p0 : Int)))) rfl (fun h20 => ?_) (fun h20 => ?_)
    · have hF := bT h20 hF
      refine W_skip ?_
      refine W_seq ?_
      refine W_block ?_
      refine W_seq ?_
      refine W_regV (by decide) ?_
      refine QV rfl ?_
      refine W_seq ?_
      refine W_regV (by decide) ?_
      refine Q_run SV 3 rfl ?_
      obtain ⟨y17, hy17, hF⟩ := bB hF
      refine R_step SV trivial (T_ixT (tc := t_api_Thread) p0 rfl rfl hy17 ?_)
      refine Q_run SV 1 rfl ?_
      obtain ⟨r18, hr18, hF⟩ := bB hF
      refine R_stepX trivial (X_call (callW _ rfl fnOk26) (critical_known_1_k1_fun _ _ _ hr18) ⟨⟨rfl, rfl, rfl, trivial⟩, ⟨_, rfl, ⟨rfl, trivial⟩⟩, trivial⟩ rfl (.inl rfl) ?_)
      refine QV rfl ?_
      refine W_condL (t := r18) rfl (fun h19 => ?_) (fun h19 => ?_)
      · have hF := bT h19 hF
        refine W_seq ?_
        refine W_regV (by decide) ?_
        refine QV rfl ?_
        have hF := fin_0 _ (Option.some.inj hF).symm
        refine W_ret ?_
        cases hF
        exact ⟨_, _, S_refl, _, rfl, rfl, ⟨rfl, fun _ => rfl⟩, (AgM.weak ⟨rfl, trivial⟩)⟩
      · have hF := bF h19 hF
        refine W_skip ?_
        refine W_regV (by decide) ?_
        refine QV rfl ?_
        exact cont_0 _ _ _ (Option.some.inj hF).symm (S_weak ⟨rfl, rfl, rfl, rfl, trivial⟩ ⟨rfl, trivial⟩)
    · have hF := bF h20 hF
      refine W_exit ?_
      refine thenQ_exit ?_
      refine thenQ_exit ?_
      refine blockQ_hit ?_
      exact brk_0 _ _ _ (Option.some.inj hF).symm (S_weak trivial ⟨rfl, trivial⟩)
def slices_ContainsFunc_api_Thread_api_Thread_k1 (p0 : (List api_Thread)) (p1_0 : Int) : Option Bool :=
  ((slices_IndexFunc_api_Thread_api_Thread_k1 p0 p1_0).bind fun r1 => some (decide (0 ≤ r1)))
set_option maxRecDepth 100000 in
set_option maxHeartbeats 4000000 in
theorem slices_ContainsFunc_api_Thread_api_Thread_k1_fun (p0 : (List api_Thread)) (p1_0 : Int) (r : Bool) (hF : slices_ContainsFunc_api_Thread_api_Thread_k1 p0 p1_0 = some r) : Fun Try.prog 25 false [(2000,0)] [.c (.imm (.sl 3 (List.map t_api_Thread p0))), .c (.fn 26 [.ptr (2000,0)])] (heapOf [((2000,0), .box [.imm (tI p1_0)])]) (.c (.imm (.sc (.bool r)))) (heapOf [((2000,0), .box [.imm (tI p1_0)])]) := by
  refine Fun.of_walkM [(2000,0)] (some [(2000,0)]) Try.func25 c25 (by kernel_rfl) (rs := [.tmp 4]) (by kernel_rfl) rfl rfl rfl ?_
  unfold v25
  unfold slices_ContainsFunc_api_Thread_api_Thread_k1 at hF
  refine W_seq ?_
  refine W_regV (by decide) ?_
  refine QV rfl ?_
  refine W_seq ?_
  refine W_regV (by decide) ?_
  refine Q_run SV 2 rfl ?_
  obtain ⟨r1, hr1, hF⟩ := bB hF
  refine R_step SV trivial (T_callO [((3320,0),(2000,0))] rfl (slices_IndexFunc_api_Thread_api_Thread_k1_fun _ _ _ hr1) ⟨rfl, trivial⟩ rfl rfl (.inr ⟨.inl rfl, .inl rfl, trivial⟩) ?_)
  refine QV rfl ?_
  refine W_ret ?_
  cases hF
  exact ⟨_, _, S_refl, _, rfl, rfl, ⟨rfl, fun _ => rfl⟩, (AgM.weak ⟨rfl, trivial⟩)⟩
def critical_known (p0 : api_Trace) (p1 : Int) : Option Bool :=
  ((slices_ContainsFunc_api_Thread_api_Thread_k1 p0.fThreads p1).bind fun r1 => some r1)
set_option maxRecDepth 100000 in
set_option maxHeartbeats 4000000 in
theorem critical_known_fun (p0 : api_Trace) (p1 : Int) (r : Bool) (hF : critical_known p0 p1 = some r) : Fun Try.prog 22 true [] [.agg [.imm (tI p0.fSpan.fFrom), .imm (tI p0.fSpan.fTo), .imm (.sl 3 (List.map t_api_Thread p0.fThreads)), .imm (.sl 8 (List.map t_api_Slice p0.fSlices)), .imm (.sl 7 (List.map t_api_State p0.fStates)), .imm (.sl 7 (List.map t_api_Flow p0.fFlows)), .imm (.sl 4 (List.map t_api_Sample p0.fSamples)), .imm (.sl 3 (List.map t_api_Step p0.fSteps)), .imm (.sl 7 (List.map t_api_Block p0.fBlocks)), .imm (.sl 4 (List.map t_api_Loss p0.fLost))], .c (.imm (tI p1))] noHeap (.c (.imm (.sc (.bool r)))) noHeap := by
  refine Fun.of_walk0 Try.func22 c22 (by kernel_rfl) (rs := [.tmp 4]) (by kernel_rfl) ?_
  unfold v22
  unfold critical_known at hF
  refine W_seq ?_
  refine W_regV (by decide) ?_
  refine QV rfl ?_
  refine W_seq ?_
  refine W_regV (by decide) ?_
  refine Q_run SV 3 rfl ?_
  obtain ⟨r1, hr1, hF⟩ := bB hF
  refine R_step SV trivial (T_callO [((2000,0),(3,0))] rfl (slices_ContainsFunc_api_Thread_api_Thread_k1_fun _ _ _ hr1) ⟨rfl, trivial⟩ rfl rfl (.inr ⟨.inl rfl, .inl rfl, trivial⟩) ?_)
  refine QV rfl ?_
  refine W_ret ?_
  cases hF
  exact ⟨_, rfl, rfl, ⟨rfl, fun _ => rfl⟩, noOut _⟩
def state_At_L1 (p0 : (List api_State)) (p1 : Int) (p2 : Int) : Int → Option (Int ⊕ (Unit ⊕ (api_State × Bool))) := fun a16 =>
  (bif (decide (a16 < (List.length p0 : Int))) then ((idx p0 a16).bind fun y23 => (((bif (decide (y23.fThread = p1)) then (bif (decide (y23.fSpan.fFrom ≤ p2)) then some (decide (p2 < y23.fSpan.fTo)) else some false) else some false) : Option Bool).bind fun v24 => (bif v24 then some (.inr (.inr (y23, true))) else some (.inl (w64 (a16 + 1)))))) else some (.inr (.inl ())))
def state_At (p0 : (List api_State)) (p1 : Int) (p2 : Int) : Option (api_State × Bool) :=
  ((loop (state_At_L1 p0 p1 p2) 0).bind fun | .inl _ => some (({ fThread := 0, fState := 0, fSpan := ({ fFrom := 0, fTo := 0 } : api_Span), fCpu := 0, fOn := 0, fBy := 0 } : api_State), false) | .inr rv => some rv)
set_option maxRecDepth 100000 in
set_option maxHeartbeats 4000000 in
theorem state_At_fun (p0 : (List api_State)) (p1 : Int) (p2 : Int) (r : (api_State × Bool)) (hF : state_At p0 p1 p2 = some r) : Fun Try.prog 9 true [] [.c (.imm (.sl 7 (List.map t_api_State p0))), .c (.imm (tI p1)), .c (.imm (tI p2))] noHeap (.tup [.agg [.imm (tI r.1.fThread), .imm (tI r.1.fState), .imm (tI r.1.fSpan.fFrom), .imm (tI r.1.fSpan.fTo), .imm (tI r.1.fCpu), .imm (tI r.1.fOn), .imm (tI r.1.fBy)], .c (.imm (.sc (.bool r.2)))]) noHeap := by
  refine Fun.of_walk0 Try.func9 c9 (by kernel_rfl) (rs := [.cell 6 7 true, .tmp 7]) (by kernel_rfl) ?_
  unfold v9
  unfold state_At at hF
  refine W_seq ?_
  refine W_regV (by decide) ?_
  refine QV rfl ?_
  refine W_seq ?_
  refine W_seq ?_
  refine W_regV (by decide) ?_
  refine Q_run SV 1 rfl ?_
  refine R_step SV trivial (T_len (tc := t_api_State) p0 .tree ?_)
  refine QV rfl ?_
  refine W_for (fun _ _ h => h) hF (.inl) (fun a16 => [(1, .c (.imm (tI p1))), (2, .c (.imm (tI p2))), (6, .c (.ptrO (6,0) 0)), (10, .c (.imm (.sl 7 (List.map t_api_State p0)))), (11, .c (.imm (tI (List.length p0 : Int)))), (12, .c (.imm (tI a16)))]) (fun a16 => [((6,0), .box [.imm (tI 0), .imm (tI 0), .imm (tI 0), .imm (tI 0), .imm (tI 0), .imm (tI 0), .imm (tI 0)])]) (fun _ => [(6, .c (.ptrO (6,0) 0))]) (fun _ => [((6,0), .box [.imm (tI 0), .imm (tI 0), .imm (tI 0), .imm (tI 0), .imm (tI 0), .imm (tI 0), .imm (tI 0)])]) (S_weak ⟨rfl, rfl, rfl, rfl, rfl, rfl, trivial⟩ ⟨rfl, trivial⟩) ?_ ?_
  · rintro ⟨⟩ hF
    refine W_seq ?_
    refine W_regV (by decide) ?_
    refine QV rfl ?_
    refine W_ret ?_
    cases hF
    exact ⟨_, rfl, rfl, ⟨⟨⟨rfl, fun _ => rfl⟩, ⟨rfl, fun _ => rfl⟩, ⟨rfl, fun _ => rfl⟩, ⟨rfl, fun _ => rfl⟩, ⟨rfl, fun _ => rfl⟩, ⟨rfl, fun _ => rfl⟩, ⟨rfl, fun _ => rfl⟩, trivial⟩, ⟨rfl, fun _ => rfl⟩, trivial⟩, noOut _⟩
  · rintro a16 x_0 hF cont_0 brk_0 fin_0
    unfold state_At_L1 at hF
    refine W_seq ?_
    refine W_regV (by decide) ?_
    refine QV rfl ?_
    refine W_seq ?_
    refine W_condL (t := (decide (a16 < (List.length p0 : Int)))) rfl (fun h28 => ?_) (fun h28 => ?_)
    · have hF := bT h28 hF
      refine W_skip ?_
      refine W_seq ?_
      refine W_block ?_
      refine W_seq ?_
      refine W_regV (by decide) ?_
      obtain ⟨y23, hy23, hF⟩ := bB hF
      refine R_step SV trivial (T_ixT (tc := t_api_State) p0 rfl rfl hy23 ?_)
      refine QV rfl ?_
      refine W_seq ?_
      refine W_join (fun _ _ h => h) hF (fun v24 => [(1, .c (.imm (tI p1))), (2, .c (.imm (tI p2))), (6, .c (.ptrO (6,0) 0)), (9, .c (.ptrO (9,0) 0)), (10, .c (.imm (.sl 7 (List.map t_api_State p0)))), (11, .c (.imm (tI (List.length p0 : Int)))), (12, .c (.imm (tI a16))), (33, .c (.imm (.sc (.bool v24))))]) (fun v24 => [((6,0), .box [.imm (tI 0), .imm (tI 0), .imm (tI 0), .imm (tI 0), .imm (tI 0), .imm (tI 0), .imm (tI 0)]), ((9,0), .box [.imm (tI y23.fThread), .imm (tI y23.fState), .imm (tI y23.fSpan.fFrom), .imm (tI y23.fSpan.fTo), .imm (tI y23.fCpu), .imm (tI y23.fOn), .imm (tI y23.fBy)])]) ?_ ?_
      · rintro v24 hF
        refine W_condL (t := v24) rfl (fun h25 => ?_) (fun h25 => ?_)
        · have hF := bT h25 hF
          refine W_seq ?_
          refine W_regV (by decide) ?_
          refine QV rfl ?_
          have hF := fin_0 _ (Option.some.inj hF).symm
          refine W_ret ?_
          cases hF
          exact ⟨_, rfl, rfl, ⟨⟨⟨rfl, fun _ => rfl⟩, ⟨rfl, fun _ => rfl⟩, ⟨rfl, fun _ => rfl⟩, ⟨rfl, fun _ => rfl⟩, ⟨rfl, fun _ => rfl⟩, ⟨rfl, fun _ => rfl⟩, ⟨rfl, fun _ => rfl⟩, trivial⟩, ⟨rfl, fun _ => rfl⟩, trivial⟩, noOut _⟩
        · have hF := bF h25 hF
          refine W_skip ?_
          refine W_regV (by decide) ?_
          refine QV rfl ?_
          exact cont_0 _ _ _ (Option.some.inj hF).symm (S_weak ⟨rfl, rfl, rfl, rfl, rfl, rfl, trivial⟩ ⟨rfl, trivial⟩)
      · intro join hF
        refine W_regV (by decide) ?_
        refine Q_run SV 5 rfl ?_
        cases h26 : (decide (y23.fThread = p1))
        · have hF := bF' h26 hF
          refine QV rfl ?_
          exact join false _ _ hF (S_weak ⟨rfl, rfl, rfl, rfl, rfl, rfl, rfl, rfl, trivial⟩ ⟨rfl, rfl, trivial⟩)
        · have hF := bT' h26 hF
          refine Q_run SV 7 rfl ?_
          cases h27 : (decide (y23.fSpan.fFrom ≤ p2))
          · have hF := bF' h27 hF
            refine QV rfl ?_
            exact join false _ _ hF (S_weak ⟨rfl, rfl, rfl, rfl, rfl, rfl, rfl, rfl, trivial⟩ ⟨rfl, rfl, trivial⟩)
          · have hF := bT' h27 hF
            refine QV rfl ?_
            exact join (decide (p2 < y23.fSpan.fTo)) _ _ hF (S_weak ⟨rfl, rfl, rfl, rfl, rfl, rfl, rfl, rfl, trivial⟩ ⟨rfl, rfl, trivial⟩)
    · have hF := bF h28 hF
      refine W_exit ?_
      refine thenQ_exit ?_
      refine thenQ_exit ?_
      refine blockQ_hit ?_
      exact brk_0 _ _ _ (Option.some.inj hF).symm (S_weak ⟨rfl, trivial⟩ ⟨rfl, trivial⟩)
def critical_check (p0 : api_Trace) (p1 : Int) (p2 : api_Span) : Option Int :=
  ((trace_Check p0).bind fun r1 => (bif (!decide (r1 = 0)) then some r1 else ((critical_known p0 p1).bind fun r2 => (bif (!r2) then some 5 else ((state_At p0.fStates p1 p2.fFrom).bind fun r3 => ((state_At p0.fStates p1 (w64 (p2.fTo - 1))).bind fun r4 => ((((spans_Valid p2).bind fun r7 => (bif (!r7) then some true else (bif (!r3.2) then some true else some (!r4.2)))) : Option Bool).bind fun v5 => (bif v5 then some 1 else some 0))))))))
set_option maxRecDepth 100000 in
set_option maxHeartbeats 4000000 in
theorem critical_check_fun (p0 : api_Trace) (p1 : Int) (p2 : api_Span) (r : Int) (hF : critical_check p0 p1 p2 = some r) : Fun Try.prog 15 true [] [.agg [.imm (tI p0.fSpan.fFrom), .imm (tI p0.fSpan.fTo), .imm (.sl 3 (List.map t_api_Thread p0.fThreads)), .imm (.sl 8 (List.map t_api_Slice p0.fSlices)), .imm (.sl 7 (List.map t_api_State p0.fStates)), .imm (.sl 7 (List.map t_api_Flow p0.fFlows)), .imm (.sl 4 (List.map t_api_Sample p0.fSamples)), .imm (.sl 3 (List.map t_api_Step p0.fSteps)), .imm (.sl 7 (List.map t_api_Block p0.fBlocks)), .imm (.sl 4 (List.map t_api_Loss p0.fLost))], .c (.imm (tI p1)), .agg [.imm (tI p2.fFrom), .imm (tI p2.fTo)]] noHeap (.c (.imm (tI r))) noHeap := by
  refine Fun.of_walk0 Try.func15 c15 (by kernel_rfl) (rs := [.tmp 6]) (by kernel_rfl) ?_
  unfold v15
  unfold critical_check at hF
  refine W_seq ?_
  refine W_regV (by decide) ?_
  refine QV rfl ?_
  refine W_seq ?_
  refine W_seq ?_
  refine W_regV (by decide) ?_
  refine Q_run SV 1 rfl ?_
  obtain ⟨r1, hr1, hF⟩ := bB hF
  refine R_step SV trivial (T_call (trace_Check_fun _ _ hr1) ⟨⟨rfl, rfl, rfl, rfl, rfl, rfl, rfl, rfl, rfl, rfl, trivial⟩, trivial⟩ rfl (.inl rfl) ?_)
  refine QV rfl ?_
  refine W_seq ?_
  refine W_regV (by decide) ?_
  refine QV rfl ?_
  refine W_condL (t := (!decide (r1 = 0))) rfl (fun h11 => ?_) (fun h11 => ?_)
  · have hF := bT h11 hF
    refine W_seq ?_
    refine W_regV (by decide) ?_
    refine QV rfl ?_
    refine W_ret ?_
    cases hF
    exact ⟨_, rfl, rfl, ⟨rfl, fun _ => rfl⟩, noOut _⟩
  · have hF := bF h11 hF
    refine W_skip ?_
    refine W_seq ?_
    refine W_seq ?_
    refine W_regV (by decide) ?_
    refine Q_run SV 2 rfl ?_
    obtain ⟨r2, hr2, hF⟩ := bB hF
    refine R_step SV trivial (T_call (critical_known_fun _ _ _ hr2) ⟨⟨rfl, rfl, rfl, rfl, rfl, rfl, rfl, rfl, rfl, rfl, trivial⟩, rfl, trivial⟩ rfl (.inl rfl) ?_)
    refine QV rfl ?_
    refine W_condL (t := (!r2)) rfl (fun h10 => ?_) (fun h10 => ?_)
    · have hF := bT h10 hF
      refine W_seq ?_
      refine W_regV (by decide) ?_
      refine QV rfl ?_
      refine W_ret ?_
      cases hF
      exact ⟨_, rfl, rfl, ⟨rfl, fun _ => rfl⟩, noOut _⟩
    · have hF := bF h10 hF
      refine W_skip ?_
      refine W_seq ?_
      refine W_regV (by decide) ?_
      refine Q_run SV 5 rfl ?_
      obtain ⟨r3, hr3, hF⟩ := bB hF
      refine R_step SV trivial (T_call (state_At_fun _ _ _ _ hr3) ⟨rfl, rfl, rfl, trivial⟩ rfl (.inl rfl) ?_)
      refine QV rfl ?_
      refine W_seq ?_
      refine W_regV (by decide) ?_
      refine Q_run SV 6 rfl ?_
      obtain ⟨r4, hr4, hF⟩ := bB hF
      refine R_step SV trivial (T_call (state_At_fun _ _ _ _ hr4) ⟨rfl, rfl, rfl, trivial⟩ rfl (.inl rfl) ?_)
      refine QV rfl ?_
      refine W_seq ?_
      refine W_seq ?_
      refine W_join (fun _ _ h => h) hF (fun v5 => [(50, .c (.imm (.sc (.bool v5))))]) (fun v5 => []) ?_ ?_
      · rintro v5 hF
        refine W_condL (t := v5) rfl (fun h6 => ?_) (fun h6 => ?_)
        · have hF := bT h6 hF
          refine W_seq ?_
          refine W_regV (by decide) ?_
          refine QV rfl ?_
          refine W_ret ?_
          cases hF
          exact ⟨_, rfl, rfl, ⟨rfl, fun _ => rfl⟩, noOut _⟩
        · have hF := bF h6 hF
          refine W_skip ?_
          refine W_seq ?_
          refine W_regV (by decide) ?_
          refine QV rfl ?_
          refine W_ret ?_
          cases hF
          exact ⟨_, rfl, rfl, ⟨rfl, fun _ => rfl⟩, noOut _⟩
      · intro join hF
        refine W_regV (by decide) ?_
        refine Q_run SV 1 rfl ?_
        obtain ⟨r7, hr7, hF⟩ := bB' hF
        refine R_step SV trivial (T_call (spans_Valid_fun _ _ hr7) ⟨⟨rfl, rfl, trivial⟩, trivial⟩ rfl (.inl rfl) ?_)
        refine Q_run SV 2 rfl ?_
        cases h8 : (!r7)
        · have hF := bF' h8 hF
          refine Q_run SV 4 rfl ?_
          cases h9 : (!r3.2)
          · have hF := bF' h9 hF
            refine QV rfl ?_
            exact join (!r4.2) _ _ hF (S_weak ⟨rfl, trivial⟩ trivial)
          · have hF := bT' h9 hF
            refine QV rfl ?_
            exact join true _ _ hF (S_weak ⟨rfl, trivial⟩ trivial)
        · have hF := bT' h8 hF
          refine QV rfl ?_
          exact join true _ _ hF (S_weak ⟨rfl, trivial⟩ trivial)
def critical_waker (p0 : api_Trace) (p1 : Int) (p2 : Int) : Option (Int × Bool) :=
  ((state_At p0.fStates p1 (w64 (p2 - 1))).bind fun r1 => (((bif (decide (r1.1.fState = 1)) then some true else some (decide (r1.1.fState = 2))) : Option Bool).bind fun v2 => (((bif (!r1.2) then some true else (bif (!v2) then some true else (bif (!decide (r1.1.fSpan.fTo = p2)) then some true else ((critical_known p0 r1.1.fBy).bind fun r8 => some (!r8))))) : Option Bool).bind fun v3 => (bif v3 then some (0, false) else some (r1.1.fBy, true)))))
set_option maxRecDepth 100000 in
set_option maxHeartbeats 4000000 in
theorem critical_waker_fun (p0 : api_Trace) (p1 : Int) (p2 : Int) (r : (Int × Bool)) (hF : critical_waker p0 p1 p2 = some r) : Fun Try.prog 16 true [] [.agg [.imm (tI p0.fSpan.fFrom), .imm (tI p0.fSpan.fTo), .imm (.sl 3 (List.map t_api_Thread p0.fThreads)), .imm (.sl 8 (List.map t_api_Slice p0.fSlices)), .imm (.sl 7 (List.map t_api_State p0.fStates)), .imm (.sl 7 (List.map t_api_Flow p0.fFlows)), .imm (.sl 4 (List.map t_api_Sample p0.fSamples)), .imm (.sl 3 (List.map t_api_Step p0.fSteps)), .imm (.sl 7 (List.map t_api_Block p0.fBlocks)), .imm (.sl 4 (List.map t_api_Loss p0.fLost))], .c (.imm (tI p1)), .c (.imm (tI p2))] noHeap (.tup [.c (.imm (tI r.1)), .c (.imm (.sc (.bool r.2)))]) noHeap := by
  refine Fun.of_walk0 Try.func16 c16 (by kernel_rfl) (rs := [.tmp 6, .tmp 7]) (by kernel_rfl) ?_
  unfold v16
  unfold critical_waker at hF
  refine W_seq ?_
  refine W_regV (by decide) ?_
  refine QV rfl ?_
  refine W_seq ?_
  refine W_regV (by decide) ?_
  refine Q_run SV 5 rfl ?_
  obtain ⟨r1, hr1, hF⟩ := bB hF
  refine R_step SV trivial (T_call (state_At_fun _ _ _ _ hr1) ⟨rfl, rfl, rfl, trivial⟩ rfl (.inl rfl) ?_)
  refine QV rfl ?_
  refine W_seq ?_
  refine W_join (fun _ _ h => h) hF (fun v2 => [(2, .c (.imm (tI p2))), (3, .c (.ptrO (3,0) 0)), (8, .c (.ptrO (8,0) 0)), (9, .c (.imm (.sc (.bool r1.2)))), (10, .c (.imm (.sc (.bool v2))))]) (fun v2 => [((3,0), .box [.imm (tI p0.fSpan.fFrom), .imm (tI p0.fSpan.fTo), .imm (.sl 3 (List.map t_api_Thread p0.fThreads)), .imm (.sl 8 (List.map t_api_Slice p0.fSlices)), .imm (.sl 7 (List.map t_api_State p0.fStates)), .imm (.sl 7 (List.map t_api_Flow p0.fFlows)), .imm (.sl 4 (List.map t_api_Sample p0.fSamples)), .imm (.sl 3 (List.map t_api_Step p0.fSteps)), .imm (.sl 7 (List.map t_api_Block p0.fBlocks)), .imm (.sl 4 (List.map t_api_Loss p0.fLost))]), ((8,0), .box [.imm (tI r1.1.fThread), .imm (tI r1.1.fState), .imm (tI r1.1.fSpan.fFrom), .imm (tI r1.1.fSpan.fTo), .imm (tI r1.1.fCpu), .imm (tI r1.1.fOn), .imm (tI r1.1.fBy)])]) ?_ ?_
  · rintro v2 hF
    refine W_seq ?_
    refine W_seq ?_
    refine W_join (fun _ _ h => h) hF (fun v3 => [(8, .c (.ptrO (8,0) 0)), (47, .c (.imm (.sc (.bool v3))))]) (fun v3 => [((8,0), .box [.imm (tI r1.1.fThread), .imm (tI r1.1.fState), .imm (tI r1.1.fSpan.fFrom), .imm (tI r1.1.fSpan.fTo), .imm (tI r1.1.fCpu), .imm (tI r1.1.fOn), .imm (tI r1.1.fBy)])]) ?_ ?_
    · rintro v3 hF
      refine W_condL (t := v3) rfl (fun h4 => ?_) (fun h4 => ?_)
      · have hF := bT h4 hF
        refine W_seq ?_
        refine W_regV (by decide) ?_
        refine QV rfl ?_
        refine W_ret ?_
        cases hF
        exact ⟨_, rfl, rfl, ⟨⟨rfl, fun _ => rfl⟩, ⟨rfl, fun _ => rfl⟩, trivial⟩, noOut _⟩
      · have hF := bF h4 hF
        refine W_skip ?_
        refine W_seq ?_
        refine W_regV (by decide) ?_
        refine QV rfl ?_
        refine W_ret ?_
        cases hF
        exact ⟨_, rfl, rfl, ⟨⟨rfl, fun _ => rfl⟩, ⟨rfl, fun _ => rfl⟩, trivial⟩, noOut _⟩
    · intro join hF
      refine W_regV (by decide) ?_
      refine Q_run SV 3 rfl ?_
      cases h5 : (!r1.2)
      · have hF := bF' h5 hF
        refine Q_run SV 4 rfl ?_
        cases h6 : (!v2)
        · have hF := bF' h6 hF
          refine Q_run SV 7 rfl ?_
          cases h7 : (!decide (r1.1.fSpan.fTo = p2))
          · have hF := bF' h7 hF
            refine Q_run SV 3 rfl ?_
            obtain ⟨r8, hr8, hF⟩ := bB' hF
            refine R_step SV rfl (T_call (critical_known_fun _ _ _ hr8) ⟨⟨rfl, rfl, rfl, rfl, rfl, rfl, rfl, rfl, rfl, rfl, trivial⟩, rfl, trivial⟩ rfl (.inl rfl) ?_)
            refine QV rfl ?_
            exact join (!r8) _ _ hF (S_weak ⟨rfl, rfl, trivial⟩ ⟨rfl, trivial⟩)
          · have hF := bT' h7 hF
            refine QV rfl ?_
            exact join true _ _ hF (S_weak ⟨rfl, rfl, trivial⟩ ⟨rfl, trivial⟩)
        · have hF := bT' h6 hF
          refine QV rfl ?_
          exact join true _ _ hF (S_weak ⟨rfl, rfl, trivial⟩ ⟨rfl, trivial⟩)
      · have hF := bT' h5 hF
        refine QV rfl ?_
        exact join true _ _ hF (S_weak ⟨rfl, rfl, trivial⟩ ⟨rfl, trivial⟩)
  · intro join hF
    refine W_regV (by decide) ?_
    refine Q_run SV 4 rfl ?_
    cases h9 : (decide (r1.1.fState = 1))
    · have hF := bF' h9 hF
      refine QV rfl ?_
      exact join (decide (r1.1.fState = 2)) _ _ hF (S_weak ⟨rfl, rfl, rfl, rfl, rfl, trivial⟩ ⟨rfl, rfl, trivial⟩)
    · have hF := bT' h9 hF
      refine QV rfl ?_
      exact join true _ _ hF (S_weak ⟨rfl, rfl, rfl, rfl, rfl, trivial⟩ ⟨rfl, rfl, trivial⟩)
def slices_Reverse_api_Hop_api_Hop_k1_L1  : ((List api_Hop) × Int × Int) → Option (((List api_Hop) × Int × Int) ⊕ (List api_Hop)) := fun (a20, a21, a22) =>
  (bif (decide (a21 < a22)) then ((idx a20 a22).bind fun y23 => ((idx a20 a21).bind fun y24 => ((idx a20 a21).bind fun y25 => ((idx (List.set a20 (Int.toNat a21) y23) a22).bind fun y26 => some (.inl ((List.set (List.set a20 (Int.toNat a21) y23) (Int.toNat a22) y24), (w64 (a21 + 1)), (w64 (a22 - 1)))))))) else some (.inr a20))
def slices_Reverse_api_Hop_api_Hop_k1 (p0 : (List api_Hop)) : Option (List api_Hop) :=
  (loop (slices_Reverse_api_Hop_api_Hop_k1_L1) (p0, 0, (w64 ((List.length p0 : Int) - 1))))
set_option maxRecDepth 100000 in
set_option maxHeartbeats 4000000 in
theorem slices_Reverse_api_Hop_api_Hop_k1_fun (p0 : (List api_Hop)) (r : (List api_Hop)) (hF : slices_Reverse_api_Hop_api_Hop_k1 p0 = some r) : Fun Try.prog 17 false [(1680,0)] [.c (.slO (1680,0))] (heapOf [((1680,0), .arr 44 4 (List.map t_api_Hop p0))]) (.tup []) (heapOf [((1680,0), .arr 44 4 (List.map t_api_Hop r))]) := by
  refine Fun.of_walkM [(1680,0)] (some [(1680,0)]) Try.func17 c17 (by kernel_rfl) (rs := []) (by kernel_rfl) rfl rfl rfl ?_
  unfold v17
  unfold slices_Reverse_api_Hop_api_Hop_k1 at hF
  refine W_seq ?_
  refine W_regV (by decide) ?_
  refine Q_run SV 1 rfl ?_
  refine R_step SV trivial (T_len (tc := t_api_Hop) p0 (.own _ _ rfl) ?_)
  refine QV rfl ?_
  refine W_for0 hF (fun (a20, a21, a22) => [(0, .c (.slO (1680,0))), (2, .c (.imm (tI a21))), (3, .c (.imm (tI a22)))]) (fun (a20, a21, a22) => [((1680,0), .arr 44 4 (List.map t_api_Hop a20))]) (S_weak ⟨rfl, rfl, rfl, trivial⟩ ⟨rfl, trivial⟩) ?_
  rintro ⟨a20, a21, a22⟩ x_0 hF cont_0 fin_0
  unfold slices_Reverse_api_Hop_api_Hop_k1_L1 at hF
  refine W_seq ?_
  refine W_seq ?_
  refine W_regV (by decide) ?_
  refine QV rfl ?_
  refine W_condL (t := (decide (a21 < a22))) rfl (fun h27 => ?_) (fun h27 => ?_)
  · have hF := bT h27 hF
    refine W_skip ?_
    refine W_seq ?_
    refine W_block ?_
    refine W_regD (by decide) (by kernel_rfl) rfl ?_
    refine Q_run SP 6 rfl ?_
    obtain ⟨y23, hy23, hF⟩ := bB hF
    refine R_step SP trivial (T_ixO (tc := t_api_Hop) a20 rfl rfl rfl hy23 ?_)
    refine R_step SP trivial (T_ldE (tc := t_api_Hop) a20 rfl rfl (idx_get hy23).2.1 rfl ?_)
    refine Q_run SP 2 rfl ?_
    obtain ⟨y24, hy24, hF⟩ := bB hF
    refine R_step SP trivial (T_ixO (tc := t_api_Hop) a20 rfl rfl rfl hy24 ?_)
    refine R_step SP trivial (T_ldE (tc := t_api_Hop) a20 rfl rfl (idx_get hy24).2.1 rfl ?_)
    obtain ⟨y25, hy25, hF⟩ := bB hF
    refine R_step SP trivial (T_ixO (tc := t_api_Hop) a20 rfl rfl rfl hy25 ?_)
    refine R_step SP trivial (T_stE (tc := t_api_Hop) a20 y23 rfl rfl (idx_get hy25).2.1 rfl rfl rfl rfl rfl ?_)
    obtain ⟨y26, hy26, hF⟩ := bB hF
    refine R_step SP trivial (T_ixO (tc := t_api_Hop) (List.set a20 (Int.toNat a21) y23) rfl rfl rfl hy26 ?_)
    refine R_step SP trivial (T_stE (tc := t_api_Hop) (List.set a20 (Int.toNat a21) y23) y24 rfl rfl (idx_get hy26).2.1 rfl rfl rfl rfl rfl ?_)
    refine QP rfl ?_
    refine W_regV (by decide) ?_
    refine QV rfl ?_
    exact cont_0 _ _ _ (Option.some.inj hF).symm (S_weak ⟨rfl, rfl, rfl, trivial⟩ ⟨rfl, trivial⟩)
  · have hF := bF h27 hF
    refine W_exit ?_
    refine thenQ_exit ?_
    refine thenQ_exit ?_
    refine blockQ_hit ?_
    have hF := fin_0 _ (Option.some.inj hF).symm
    cases hF
    exact ⟨_, _, S_refl, _, rfl, rfl, trivial, (AgM.weak ⟨rfl, trivial⟩)⟩
def critical_Path_L1 (p0 : api_Trace) (a89 : Int) : (Int × (List (Int × Bool)) × Int × Bool) → Option ((Int × (List (Int × Bool)) × Int × Bool) ⊕ Int) := fun (a151, a152, a153, a154) =>
  (((bif a154 then some (!(Option.getD (mget a153 a152) false)) else some false) : Option Bool).bind fun v163 => (bif v163 then ((critical_waker p0 a153 a89).bind fun r164 => some (.inl (a153, (mput a153 true a152), r164.1, r164.2))) else some (.inr a151)))
def critical_Path_L2 (p0 : api_Trace) (p2 : api_Span) : (Int × (List api_Hop) × Int) → Option ((Int × (List api_Hop) × Int) ⊕ ((List api_Hop) ⊕ ((List api_Hop) × Int))) := fun (a87, a88, a89) =>
  (bif (decide (p2.fFrom < a89)) then ((critical_waker p0 a87 a89).bind fun r130 => ((loop (critical_Path_L1 p0 a89) (a87, (mput a87 true []), r130.1, r130.2)).bind fun e159 => ((state_At p0.fStates e159 (w64 (a89 - 1))).bind fun r160 => (bif (!r160.2) then some (.inr (.inr ([], 1))) else (bif room 32 (List.length a88 + List.length [({ fThread := e159, fState := r160.1.fState, fSpan := ({ fFrom := (max r160.1.fSpan.fFrom p2.fFrom), fTo := a89 } : api_Span) } : api_Hop)]) then some (.inl (e159, (a88 ++ [({ fThread := e159, fState := r160.1.fState, fSpan := ({ fFrom := (max r160.1.fSpan.fFrom p2.fFrom), fTo := a89 } : api_Span) } : api_Hop)]), (max r160.1.fSpan.fFrom p2.fFrom))) else none))))) else some (.inr (.inl a88)))
def critical_Path (p0 : api_Trace) (p1 : Int) (p2 : api_Span) : Option ((List api_Hop) × Int) :=
  ((critical_check p0 p1 p2).bind fun r1 => (bif (!decide (r1 = 0)) then some ([], r1) else ((loop (critical_Path_L2 p0 p2) (p1, [], p2.fTo)).bind fun | .inl e128 => ((slices_Reverse_api_Hop_api_Hop_k1 e128).bind fun r129 => some (r129, 0)) | .inr rv => some rv)))
set_option maxRecDepth 100000 in
set_option maxHeartbeats 4000000 in
theorem critical_Path_fun (p0 : api_Trace) (p1 : Int) (p2 : api_Span) (r : ((List api_Hop) × Int)) (hF : critical_Path p0 p1 p2 = some r) : Fun Try.prog 8 false [] [.agg [.imm (tI p0.fSpan.fFrom), .imm (tI p0.fSpan.fTo), .imm (.sl 3 (List.map t_api_Thread p0.fThreads)), .imm (.sl 8 (List.map t_api_Slice p0.fSlices)), .imm (.sl 7 (List.map t_api_State p0.fStates)), .imm (.sl 7 (List.map t_api_Flow p0.fFlows)), .imm (.sl 4 (List.map t_api_Sample p0.fSamples)), .imm (.sl 3 (List.map t_api_Step p0.fSteps)), .imm (.sl 7 (List.map t_api_Block p0.fBlocks)), .imm (.sl 4 (List.map t_api_Loss p0.fLost))], .c (.imm (tI p1)), .agg [.imm (tI p2.fFrom), .imm (tI p2.fTo)]] (heapOf []) (.tup [.c (.slO (902,320)), .c (.imm (tI r.2))]) (heapOf [((902,320), .arr 44 4 (List.map t_api_Hop r.1))]) := by
  refine Fun.of_walkM [] (some []) Try.func8 c8 (by kernel_rfl) (rs := [.tmp 6, .tmp 7]) (by kernel_rfl) rfl rfl rfl ?_
  unfold v8
  unfold critical_Path at hF
  refine W_seq ?_
  refine W_regV (by decide) ?_
  refine QV rfl ?_
  refine W_seq ?_
  refine W_seq ?_
  refine W_regV (by decide) ?_
  refine Q_run SV 3 rfl ?_
  obtain ⟨r1, hr1, hF⟩ := bB hF
  refine R_step SV trivial (T_call (critical_check_fun _ _ _ _ hr1) ⟨⟨rfl, rfl, rfl, rfl, rfl, rfl, rfl, rfl, rfl, rfl, trivial⟩, rfl, ⟨rfl, rfl, trivial⟩, trivial⟩ rfl (.inl rfl) ?_)
  refine QV rfl ?_
  refine W_seq ?_
  refine W_regV (by decide) ?_
  refine QV rfl ?_
  refine W_condL (t := (!decide (r1 = 0))) rfl (fun h168 => ?_) (fun h168 => ?_)
  · have hF := bT h168 hF
    refine W_seq ?_
    refine W_regV (by decide) ?_
    refine QV rfl ?_
    refine W_ret ?_
    cases hF
    exact ⟨_, _, (S_own 6 (902,320) 44 4 rfl rfl rfl rfl S_refl), _, rfl, rfl, ⟨rfl, ⟨rfl, fun _ => rfl⟩, trivial⟩, (AgM.weak ⟨rfl, trivial⟩)⟩
  · have hF := bF h168 hF
    refine W_skip ?_
    refine W_seq ?_
    refine W_regV (by decide) ?_
    refine QV rfl ?_
    refine W_seq ?_
    refine W_seq ?_
    refine W_regV (by decide) ?_
    refine QV rfl ?_
    refine W_for (fun _ _ h => h) hF (.inl) (fun (a87, a88, a89) => [(1, .c (.imm (tI a87))), (3, .c (.ptrO (3,0) 0)), (5, .c (.ptrO (5,0) 0)), (9, .c (.slO (83,1))), (10, .c (.imm (tI a89)))]) (fun (a87, a88, a89) => [((3,0), .box [.imm (tI p0.fSpan.fFrom), .imm (tI p0.fSpan.fTo), .imm (.sl 3 (List.map t_api_Thread p0.fThreads)), .imm (.sl 8 (List.map t_api_Slice p0.fSlices)), .imm (.sl 7 (List.map t_api_State p0.fStates)), .imm (.sl 7 (List.map t_api_Flow p0.fFlows)), .imm (.sl 4 (List.map t_api_Sample p0.fSamples)), .imm (.sl 3 (List.map t_api_Step p0.fSteps)), .imm (.sl 7 (List.map t_api_Block p0.fBlocks)), .imm (.sl 4 (List.map t_api_Loss p0.fLost))]), ((5,0), .box [.imm (tI p2.fFrom), .imm (tI p2.fTo)]), ((83,1), .arr 44 4 (List.map t_api_Hop a88))]) (fun e128 => [(9, .c (.slO (83,1)))]) (fun e128 => [((83,1), .arr 44 4 (List.map t_api_Hop e128))]) (S_own 9 (83,1) 44 4 rfl rfl rfl rfl (S_weak ⟨rfl, rfl, rfl, rfl, rfl, trivial⟩ ⟨rfl, rfl, rfl, trivial⟩)) ?_ ?_
    · rintro e128 hF
      refine W_seq ?_
      refine W_regV (by decide) ?_
      refine Q_run SV 1 rfl ?_
      obtain ⟨r129, hr129, hF⟩ := bB hF
      refine R_stepX trivial (X_callG [((1680,0),(83,1))] rfl (callN _) (slices_Reverse_api_Hop_api_Hop_k1_fun _ _ hr129) ⟨rfl, trivial⟩ ⟨.inl rfl, trivial⟩ rfl rfl rfl ?_)
      refine QV rfl ?_
      refine W_seq ?_
      refine W_regV (by decide) ?_
      refine QV rfl ?_
      refine W_ret ?_
      cases hF
      exact ⟨_, _, (S_ren (83,1) (902,320) rfl rfl S_refl), _, rfl, rfl, ⟨rfl, ⟨rfl, fun _ => rfl⟩, trivial⟩, (AgM.weak ⟨rfl, trivial⟩)⟩
    · rintro ⟨a87, a88, a89⟩ x_0 hF cont_0 brk_0 fin_0
      unfold critical_Path_L2 at hF
      refine W_seq ?_
      refine W_seq ?_
      refine W_regV (by decide) ?_
      refine QV rfl ?_
      refine W_condL (t := (decide (p2.fFrom < a89))) rfl (fun h167 => ?_) (fun h167 => ?_)
      · have hF := bT h167 hF
        refine W_skip ?_
        refine W_block ?_
        refine W_seq ?_
        refine W_regV (by decide) ?_
        refine R_step SV trivial (T_mkmap (kd := (.int .i64)) (kv := (fun n : Int => .int .i64 n)) (vv := (fun y : Bool => (.one (.sc (.bool y)) : MT))) rfl ?_)
        refine Q_run SV 1 rfl ?_
        refine R_step SV trivial (T_mupd (keyI .i64) (vv := (fun y : Bool => (.one (.sc (.bool y)) : MT))) [] a87 true rfl rfl rfl rfl ?_)
        refine QV rfl ?_
        refine W_seq ?_
        refine W_seq ?_
        refine W_regV (by decide) ?_
        refine Q_run SV 3 rfl ?_
        obtain ⟨r130, hr130, hF⟩ := bB hF
        refine R_step SV trivial (T_call (critical_waker_fun _ _ _ _ hr130) ⟨⟨rfl, rfl, rfl, rfl, rfl, rfl, rfl, rfl, rfl, rfl, trivial⟩, rfl, rfl, trivial⟩ rfl (.inl rfl) ?_)
        refine QV rfl ?_
        refine W_for (fun _ _ h => h) hF (id) (fun (a151, a152, a153, a154) => [(1, .c (.imm (tI a151))), (3, .c (.ptrO (3,0) 0)), (5, .c (.ptrO (5,0) 0)), (9, .c (.slO (83,1))), (10, .c (.imm (tI a89))), (11, .c (.mapO (30,0))), (12, .c (.imm (tI a153))), (13, .c (.imm (.sc (.bool a154))))]) (fun (a151, a152, a153, a154) => [((3,0), .box [.imm (tI p0.fSpan.fFrom), .imm (tI p0.fSpan.fTo), .imm (.sl 3 (List.map t_api_Thread p0.fThreads)), .imm (.sl 8 (List.map t_api_Slice p0.fSlices)), .imm (.sl 7 (List.map t_api_State p0.fStates)), .imm (.sl 7 (List.map t_api_Flow p0.fFlows)), .imm (.sl 4 (List.map t_api_Sample p0.fSamples)), .imm (.sl 3 (List.map t_api_Step p0.fSteps)), .imm (.sl 7 (List.map t_api_Block p0.fBlocks)), .imm (.sl 4 (List.map t_api_Loss p0.fLost))]), ((5,0), .box [.imm (tI p2.fFrom), .imm (tI p2.fTo)]), ((83,1), .arr 44 4 (List.map t_api_Hop a88)), ((30,0), mapOb (.int .i64) (fun n : Int => .int .i64 n) (fun y : Bool => (.one (.sc (.bool y)) : MT)) a152)]) (fun e159 => [(1, .c (.imm (tI e159))), (3, .c (.ptrO (3,0) 0)), (5, .c (.ptrO (5,0) 0)), (9, .c (.slO (83,1))), (10, .c (.imm (tI a89)))]) (fun e159 => [((3,0), .box [.imm (tI p0.fSpan.fFrom), .imm (tI p0.fSpan.fTo), .imm (.sl 3 (List.map t_api_Thread p0.fThreads)), .imm (.sl 8 (List.map t_api_Slice p0.fSlices)), .imm (.sl 7 (List.map t_api_State p0.fStates)), .imm (.sl 7 (List.map t_api_Flow p0.fFlows)), .imm (.sl 4 (List.map t_api_Sample p0.fSamples)), .imm (.sl 3 (List.map t_api_Step p0.fSteps)), .imm (.sl 7 (List.map t_api_Block p0.fBlocks)), .imm (.sl 4 (List.map t_api_Loss p0.fLost))]), ((5,0), .box [.imm (tI p2.fFrom), .imm (tI p2.fTo)]), ((83,1), .arr 44 4 (List.map t_api_Hop a88))]) (S_weak ⟨rfl, rfl, rfl, rfl, rfl, rfl, rfl, rfl, trivial⟩ ⟨rfl, rfl, rfl, rfl, trivial⟩) ?_ ?_
        · rintro e159 hF
          refine W_seq ?_
          refine W_regV (by decide) ?_
          refine Q_run SV 5 rfl ?_
          obtain ⟨r160, hr160, hF⟩ := bB hF
          refine R_step SV trivial (T_call (state_At_fun _ _ _ _ hr160) ⟨rfl, rfl, rfl, trivial⟩ rfl (.inl rfl) ?_)
          refine QV rfl ?_
          refine W_seq ?_
          refine W_seq ?_
          refine W_regV (by decide) ?_
          refine QV rfl ?_
          refine W_condL (t := (!r160.2)) rfl (fun h162 => ?_) (fun h162 => ?_)
          · have hF := bT h162 hF
            refine W_seq ?_
            refine W_regV (by decide) ?_
            refine QV rfl ?_
            have hF := fin_0 _ (Option.some.inj hF).symm
            refine W_ret ?_
            cases hF
            exact ⟨_, _, (S_own 6 (902,320) 44 4 rfl rfl rfl rfl S_refl), _, rfl, rfl, ⟨rfl, ⟨rfl, fun _ => rfl⟩, trivial⟩, (AgM.weak ⟨rfl, trivial⟩)⟩
          · have hF := bF h162 hF
            refine W_skip ?_
            refine W_seq ?_
            refine W_regV (by decide) ?_
            refine QV rfl ?_
            refine W_seq ?_
            refine W_regV (by decide) ?_
            refine Q_run SV 2 rfl ?_
            refine R_step SV trivial (T_bsl (tc := t_api_Hop) [({ fThread := e159, fState := r160.1.fState, fSpan := ({ fFrom := (max r160.1.fSpan.fFrom p2.fFrom), fTo := a89 } : api_Span) } : api_Hop)] rfl ⟨rfl, rfl, rfl, rfl, trivial⟩ rfl (fun _ => rfl) rfl ?_)
            obtain ⟨h161, hF⟩ := roomT hF
            refine R_step SV trivial (T_appO (tc := t_api_Hop) a88 [({ fThread := e159, fState := r160.1.fState, fSpan := ({ fFrom := (max r160.1.fSpan.fFrom p2.fFrom), fTo := a89 } : api_Span) } : api_Hop)] rfl rfl (.own _ _ rfl) h161 rfl ?_)
            refine QV rfl ?_
            refine W_regV (by decide) ?_
            refine QV rfl ?_
            exact cont_0 _ _ _ (Option.some.inj hF).symm (S_ren (83,0) (83,1) rfl rfl (S_weak ⟨rfl, rfl, rfl, rfl, rfl, trivial⟩ ⟨rfl, rfl, rfl, trivial⟩))
        · rintro ⟨a151, a152, a153, a154⟩ x_1 hF cont_1 brk_1 fin_1
          unfold critical_Path_L1 at hF
          refine W_seq ?_
          refine W_seq ?_
          refine W_join (fun _ _ h => h) hF (fun v163 => [(1, .c (.imm (tI a151))), (3, .c (.ptrO (3,0) 0)), (5, .c (.ptrO (5,0) 0)), (9, .c (.slO (83,1))), (10, .c (.imm (tI a89))), (11, .c (.mapO (30,0))), (12, .c (.imm (tI a153))), (46, .c (.imm (.sc (.bool v163))))]) (fun v163 => [((3,0), .box [.imm (tI p0.fSpan.fFrom), .imm (tI p0.fSpan.fTo), .imm (.sl 3 (List.map t_api_Thread p0.fThreads)), .imm (.sl 8 (List.map t_api_Slice p0.fSlices)), .imm (.sl 7 (List.map t_api_State p0.fStates)), .imm (.sl 7 (List.map t_api_Flow p0.fFlows)), .imm (.sl 4 (List.map t_api_Sample p0.fSamples)), .imm (.sl 3 (List.map t_api_Step p0.fSteps)), .imm (.sl 7 (List.map t_api_Block p0.fBlocks)), .imm (.sl 4 (List.map t_api_Loss p0.fLost))]), ((5,0), .box [.imm (tI p2.fFrom), .imm (tI p2.fTo)]), ((83,1), .arr 44 4 (List.map t_api_Hop a88)), ((30,0), mapOb (.int .i64) (fun n : Int => .int .i64 n) (fun y : Bool => (.one (.sc (.bool y)) : MT)) a152)]) ?_ ?_
          · rintro v163 hF
            refine W_condL (t := v163) rfl (fun h165 => ?_) (fun h165 => ?_)
            · have hF := bT h165 hF
              refine W_skip ?_
              refine W_seq ?_
              refine W_block ?_
              refine W_seq ?_
              refine W_regV (by decide) ?_
              refine QV rfl ?_
              refine W_regV (by decide) ?_
              refine Q_run SV 2 rfl ?_
              refine R_step SV trivial (T_mupd (keyI .i64) (vv := (fun y : Bool => (.one (.sc (.bool y)) : MT))) a152 a153 true rfl rfl rfl rfl ?_)
              refine QV rfl ?_
              refine W_regV (by decide) ?_
              refine Q_run SV 3 rfl ?_
              obtain ⟨r164, hr164, hF⟩ := bB hF
              refine R_step SV trivial (T_call (critical_waker_fun _ _ _ _ hr164) ⟨⟨rfl, rfl, rfl, rfl, rfl, rfl, rfl, rfl, rfl, rfl, trivial⟩, rfl, rfl, trivial⟩ rfl (.inl rfl) ?_)
              refine QV rfl ?_
              exact cont_1 _ _ _ (Option.some.inj hF).symm (S_weak ⟨rfl, rfl, rfl, rfl, rfl, rfl, rfl, rfl, trivial⟩ ⟨rfl, rfl, rfl, rfl, trivial⟩)
            · have hF := bF h165 hF
              refine W_exit ?_
              refine thenQ_exit ?_
              refine thenQ_exit ?_
              refine blockQ_hit ?_
              exact brk_1 _ _ _ (Option.some.inj hF).symm (S_weak ⟨rfl, rfl, rfl, rfl, rfl, trivial⟩ ⟨rfl, rfl, rfl, trivial⟩)
          · intro join hF
            refine W_regV (by decide) ?_
            refine Q_run SV 2 rfl ?_
            cases h166 : a154
            · have hF := bF' h166 hF
              refine QV rfl ?_
              exact join false _ _ hF (S_weak ⟨rfl, rfl, rfl, rfl, rfl, rfl, rfl, rfl, trivial⟩ ⟨rfl, rfl, rfl, rfl, trivial⟩)
            · have hF := bT' h166 hF
              refine Q_run SV 2 rfl ?_
              refine R_step SV rfl (T_look (keyI .i64) (vv := (fun y : Bool => (.one (.sc (.bool y)) : MT))) a152 a153 false (.own _ rfl) rfl rfl ?_)
              refine QV rfl ?_
              exact join (!(Option.getD (mget a153 a152) false)) _ _ hF (S_weak ⟨rfl, rfl, rfl, rfl, rfl, rfl, rfl, rfl, trivial⟩ ⟨rfl, rfl, rfl, rfl, trivial⟩)
      · have hF := bF h167 hF
        refine W_exit ?_
        refine thenQ_exit ?_
        refine thenQ_exit ?_
        refine blockQ_hit ?_
        exact brk_0 _ _ _ (Option.some.inj hF).symm (S_weak ⟨rfl, trivial⟩ ⟨rfl, trivial⟩)
def tracebookref48_Same_L1 (p0 : (List api_Hop)) (p1 : (List api_Hop)) : Int → Option (Int ⊕ (Unit ⊕ Bool)) := fun a12 =>
  (bif (decide (a12 < (List.length p0 : Int))) then ((idx p0 a12).bind fun y17 => ((idx p1 a12).bind fun y18 => (bif ((decide (y17.fThread = y18.fThread) && (decide (y17.fState = y18.fState) && (decide (y17.fSpan.fFrom = y18.fSpan.fFrom) && (decide (y17.fSpan.fTo = y18.fSpan.fTo) && true)))) != true) then some (.inr (.inr false)) else some (.inl (w64 (a12 + 1)))))) else some (.inr (.inl ())))
def tracebookref48_Same (p0 : (List api_Hop)) (p1 : (List api_Hop)) : Option Bool :=
  (bif (!decide ((List.length p0 : Int) = (List.length p1 : Int))) then some false else ((loop (tracebookref48_Same_L1 p0 p1) 0).bind fun | .inl _ => some true | .inr rv => some rv))
set_option maxRecDepth 100000 in
set_option maxHeartbeats 4000000 in
theorem tracebookref48_Same_fun (p0 : (List api_Hop)) (p1 : (List api_Hop)) (r : Bool) (hF : tracebookref48_Same p0 p1 = some r) : Fun Try.prog 14 true [] [.c (.imm (.sl 4 (List.map t_api_Hop p0))), .c (.imm (.sl 4 (List.map t_api_Hop p1)))] noHeap (.c (.imm (.sc (.bool r)))) noHeap := by
  refine Fun.of_walk0 Try.func14 c14 (by kernel_rfl) (rs := [.tmp 4]) (by kernel_rfl) ?_
  unfold v14
  unfold tracebookref48_Same at hF
  refine W_seq ?_
  refine W_regV (by decide) ?_
  refine QV rfl ?_
  refine W_seq ?_
  refine W_seq ?_
  refine W_regV (by decide) ?_
  refine Q_run SV 1 rfl ?_
  refine R_step SV trivial (T_len (tc := t_api_Hop) p0 .tree ?_)
  refine Q_run SV 1 rfl ?_
  refine R_step SV trivial (T_len (tc := t_api_Hop) p1 .tree ?_)
  refine QV rfl ?_
  refine W_condL (t := (!decide ((List.length p0 : Int) = (List.length p1 : Int)))) rfl (fun h21 => ?_) (fun h21 => ?_)
  · have hF := bT h21 hF
    refine W_seq ?_
    refine W_regV (by decide) ?_
    refine QV rfl ?_
    refine W_ret ?_
    cases hF
    exact ⟨_, rfl, rfl, ⟨rfl, fun _ => rfl⟩, noOut _⟩
  · have hF := bF h21 hF
    refine W_skip ?_
    refine W_seq ?_
    refine W_seq ?_
    refine W_regV (by decide) ?_
    refine QV rfl ?_
    refine W_for (fun _ _ h => h) hF (.inl) (fun a12 => [(0, .c (.imm (.sl 4 (List.map t_api_Hop p0)))), (1, .c (.imm (.sl 4 (List.map t_api_Hop p1)))), (5, .c (.imm (tI a12)))]) (fun a12 => []) (fun _ => []) (fun _ => []) (S_weak ⟨rfl, rfl, rfl, trivial⟩ trivial) ?_ ?_
    · rintro ⟨⟩ hF
      refine W_seq ?_
      refine W_regV (by decide) ?_
      refine QV rfl ?_
      refine W_ret ?_
      cases hF
      exact ⟨_, rfl, rfl, ⟨rfl, fun _ => rfl⟩, noOut _⟩
    · rintro a12 x_0 hF cont_0 brk_0 fin_0
      unfold tracebookref48_Same_L1 at hF
      refine W_seq ?_
      refine W_seq ?_
      refine W_regV (by decide) ?_
      refine Q_run SV 2 rfl ?_
      refine R_step SV trivial (T_len (tc := t_api_Hop) p0 .tree ?_)
      refine QV rfl ?_
      refine W_condL (t := (decide (a12 < (List.length p0 : Int)))) rfl (fun h20 => ?_) (fun h20 => ?_)
      · have hF := bT h20 hF
        refine W_skip ?_
        refine W_seq ?_
        refine W_block ?_
        refine W_seq ?_
        refine W_regD (by decide) (by kernel_rfl) rfl ?_
        refine Q_run SP 2 rfl ?_
        obtain ⟨y17, hy17, hF⟩ := bB hF
        refine R_step SP trivial (T_ixT (tc := t_api_Hop) p0 rfl rfl hy17 ?_)
        refine Q_run SP 3 rfl ?_
        obtain ⟨y18, hy18, hF⟩ := bB hF
        refine R_step SP trivial (T_ixT (tc := t_api_Hop) p1 rfl rfl hy18 ?_)
        refine Q_run SP 1 rfl ?_
        refine R_step SP trivial (T_aeq (b := (decide (y17.fThread = y18.fThread) && (decide (y17.fState = y18.fState) && (decide (y17.fSpan.fFrom = y18.fSpan.fFrom) && (decide (y17.fSpan.fTo = y18.fSpan.fTo) && true))))) (eqOk_of (n := 4) (sh := [.int .i64, .int .i64, .int .i64, .int .i64]) Try.underlying43 (by kernel_rfl) (by kernel_rfl)) rfl rfl rfl rfl ?_)
        refine QP rfl ?_
        refine W_condL (t := ((decide (y17.fThread = y18.fThread) && (decide (y17.fState = y18.fState) && (decide (y17.fSpan.fFrom = y18.fSpan.fFrom) && (decide (y17.fSpan.fTo = y18.fSpan.fTo) && true)))) != true)) rfl (fun h19 => ?_) (fun h19 => ?_)
        · have hF := bT h19 hF
          refine W_seq ?_
          refine W_regV (by decide) ?_
          refine QV rfl ?_
          have hF := fin_0 _ (Option.some.inj hF).symm
          refine W_ret ?_
          cases hF
          exact ⟨_, rfl, rfl, ⟨rfl, fun _ => rfl⟩, noOut _⟩
        · have hF := bF h19 hF
          refine W_skip ?_
          refine W_regV (by decide) ?_
          refine QV rfl ?_
          exact cont_0 _ _ _ (Option.some.inj hF).symm (S_weak ⟨rfl, rfl, rfl, trivial⟩ trivial)
      · have hF := bF h20 hF
        refine W_exit ?_
        refine thenQ_exit ?_
        refine thenQ_exit ?_
        refine blockQ_hit ?_
        exact brk_0 _ _ _ (Option.some.inj hF).symm (S_weak trivial trivial)
def critical_within (p0 : api_Trace) (p1 : api_Hop) : Option Bool :=
  ((state_At p0.fStates p1.fThread p1.fSpan.fFrom).bind fun r1 => (((bif r1.2 then (bif (decide (r1.1.fState = p1.fState)) then some (decide (p1.fSpan.fTo ≤ r1.1.fSpan.fTo)) else some false) else some false) : Option Bool).bind fun v2 => some v2))
set_option maxRecDepth 100000 in
set_option maxHeartbeats 4000000 in
theorem critical_within_fun (p0 : api_Trace) (p1 : api_Hop) (r : Bool) (hF : critical_within p0 p1 = some r) : Fun Try.prog 19 true [] [.agg [.imm (tI p0.fSpan.fFrom), .imm (tI p0.fSpan.fTo), .imm (.sl 3 (List.map t_api_Thread p0.fThreads)), .imm (.sl 8 (List.map t_api_Slice p0.fSlices)), .imm (.sl 7 (List.map t_api_State p0.fStates)), .imm (.sl 7 (List.map t_api_Flow p0.fFlows)), .imm (.sl 4 (List.map t_api_Sample p0.fSamples)), .imm (.sl 3 (List.map t_api_Step p0.fSteps)), .imm (.sl 7 (List.map t_api_Block p0.fBlocks)), .imm (.sl 4 (List.map t_api_Loss p0.fLost))], .agg [.imm (tI p1.fThread), .imm (tI p1.fState), .imm (tI p1.fSpan.fFrom), .imm (tI p1.fSpan.fTo)]] noHeap (.c (.imm (.sc (.bool r)))) noHeap := by
  refine Fun.of_walk0 Try.func19 c19 (by kernel_rfl) (rs := [.tmp 4]) (by kernel_rfl) ?_
  unfold v19
  unfold critical_within at hF
  refine W_seq ?_
  refine W_regV (by decide) ?_
  refine QV rfl ?_
  refine W_seq ?_
  refine W_regV (by decide) ?_
  refine Q_run SV 7 rfl ?_
  obtain ⟨r1, hr1, hF⟩ := bB hF
  refine R_step SV trivial (T_call (state_At_fun _ _ _ _ hr1) ⟨rfl, rfl, rfl, trivial⟩ rfl (.inl rfl) ?_)
  refine QV rfl ?_
  refine W_seq ?_
  refine W_join (fun _ _ h => h) hF (fun v2 => [(4, .c (.imm (.sc (.bool v2))))]) (fun v2 => []) ?_ ?_
  · rintro v2 hF
    refine W_ret ?_
    cases hF
    exact ⟨_, rfl, rfl, ⟨rfl, fun _ => rfl⟩, noOut _⟩
  · intro join hF
    refine W_regV (by decide) ?_
    refine Q_run SV 2 rfl ?_
    cases h3 : r1.2
    · have hF := bF' h3 hF
      refine QV rfl ?_
      exact join false _ _ hF (S_weak ⟨rfl, trivial⟩ trivial)
    · have hF := bT' h3 hF
      refine Q_run SV 7 rfl ?_
      cases h4 : (decide (r1.1.fState = p1.fState))
      · have hF := bF' h4 hF
        refine QV rfl ?_
        exact join false _ _ hF (S_weak ⟨rfl, trivial⟩ trivial)
      · have hF := bT' h4 hF
        refine QV rfl ?_
        exact join (decide (p1.fSpan.fTo ≤ r1.1.fSpan.fTo)) _ _ hF (S_weak ⟨rfl, trivial⟩ trivial)
def critical_comes_L1 (p0 : api_Trace) (p2 : Int) (p3 : Int) : (Int × (List (Int × Bool))) → Option ((Int × (List (Int × Bool))) ⊕ (Unit ⊕ Bool)) := fun (a15, a16) =>
  (bif (!(Option.getD (mget a15 a16) false)) then (bif (decide (a15 = p2)) then some (.inr (.inr true)) else ((critical_waker p0 a15 p3).bind fun r21 => (bif (!r21.2) then some (.inr (.inr false)) else some (.inl (r21.1, (mput a15 true a16)))))) else some (.inr (.inl ())))
def critical_comes (p0 : api_Trace) (p1 : Int) (p2 : Int) (p3 : Int) : Option Bool :=
  ((loop (critical_comes_L1 p0 p2 p3) (p1, [])).bind fun | .inl _ => some false | .inr rv => some rv)
set_option maxRecDepth 100000 in
set_option maxHeartbeats 4000000 in
theorem critical_comes_fun (p0 : api_Trace) (p1 : Int) (p2 : Int) (p3 : Int) (r : Bool) (hF : critical_comes p0 p1 p2 p3 = some r) : Fun Try.prog 20 true [] [.agg [.imm (tI p0.fSpan.fFrom), .imm (tI p0.fSpan.fTo), .imm (.sl 3 (List.map t_api_Thread p0.fThreads)), .imm (.sl 8 (List.map t_api_Slice p0.fSlices)), .imm (.sl 7 (List.map t_api_State p0.fStates)), .imm (.sl 7 (List.map t_api_Flow p0.fFlows)), .imm (.sl 4 (List.map t_api_Sample p0.fSamples)), .imm (.sl 3 (List.map t_api_Step p0.fSteps)), .imm (.sl 7 (List.map t_api_Block p0.fBlocks)), .imm (.sl 4 (List.map t_api_Loss p0.fLost))], .c (.imm (tI p1)), .c (.imm (tI p2)), .c (.imm (tI p3))] noHeap (.c (.imm (.sc (.bool r)))) noHeap := by
  refine Fun.of_walk0 Try.func20 c20 (by kernel_rfl) (rs := [.tmp 8]) (by kernel_rfl) ?_
  unfold v20
  unfold critical_comes at hF
  refine W_seq ?_
  refine W_regV (by decide) ?_
  refine QV rfl ?_
  refine W_seq ?_
  refine W_seq ?_
  refine W_regV (by decide) ?_
  refine R_step SV trivial (T_mkmap (kd := (.int .i64)) (kv := (fun n : Int => .int .i64 n)) (vv := (fun y : Bool => (.one (.sc (.bool y)) : MT))) rfl ?_)
  refine QV rfl ?_
  refine W_for (fun _ _ h => h) hF (.inl) (fun (a15, a16) => [(1, .c (.imm (tI a15))), (2, .c (.imm (tI p2))), (3, .c (.imm (tI p3))), (4, .c (.ptrO (4,0) 0)), (9, .c (.mapO (12,0)))]) (fun (a15, a16) => [((4,0), .box [.imm (tI p0.fSpan.fFrom), .imm (tI p0.fSpan.fTo), .imm (.sl 3 (List.map t_api_Thread p0.fThreads)), .imm (.sl 8 (List.map t_api_Slice p0.fSlices)), .imm (.sl 7 (List.map t_api_State p0.fStates)), .imm (.sl 7 (List.map t_api_Flow p0.fFlows)), .imm (.sl 4 (List.map t_api_Sample p0.fSamples)), .imm (.sl 3 (List.map t_api_Step p0.fSteps)), .imm (.sl 7 (List.map t_api_Block p0.fBlocks)), .imm (.sl 4 (List.map t_api_Loss p0.fLost))]), ((12,0), mapOb (.int .i64) (fun n : Int => .int .i64 n) (fun y : Bool => (.one (.sc (.bool y)) : MT)) a16)]) (fun _ => []) (fun _ => []) (S_weak ⟨rfl, rfl, rfl, rfl, rfl, trivial⟩ ⟨rfl, rfl, trivial⟩) ?_ ?_
  · rintro ⟨⟩ hF
    refine W_seq ?_
    refine W_regV (by decide) ?_
    refine QV rfl ?_
    refine W_ret ?_
    cases hF
    exact ⟨_, rfl, rfl, ⟨rfl, fun _ => rfl⟩, noOut _⟩
  · rintro ⟨a15, a16⟩ x_0 hF cont_0 brk_0 fin_0
    unfold critical_comes_L1 at hF
    refine W_seq ?_
    refine W_seq ?_
    refine W_regV (by decide) ?_
    refine Q_run SV 2 rfl ?_
    refine R_step SV trivial (T_look (keyI .i64) (vv := (fun y : Bool => (.one (.sc (.bool y)) : MT))) a16 a15 false (.own _ rfl) rfl rfl ?_)
    refine QV rfl ?_
    refine W_condL (t := (!(Option.getD (mget a15 a16) false))) rfl (fun h24 => ?_) (fun h24 => ?_)
    · have hF := bT h24 hF
      refine W_skip ?_
      refine W_block ?_
      refine W_seq ?_
      refine W_seq ?_
      refine W_regV (by decide) ?_
      refine QV rfl ?_
      refine W_condL (t := (decide (a15 = p2))) rfl (fun h23 => ?_) (fun h23 => ?_)
      · have hF := bT h23 hF
        refine W_seq ?_
        refine W_regV (by decide) ?_
        refine QV rfl ?_
        have hF := fin_0 _ (Option.some.inj hF).symm
        refine W_ret ?_
        cases hF
        exact ⟨_, rfl, rfl, ⟨rfl, fun _ => rfl⟩, noOut _⟩
      · have hF := bF h23 hF
        refine W_skip ?_
        refine W_seq ?_
        refine W_regV (by decide) ?_
        refine Q_run SV 2 rfl ?_
        refine R_step SV trivial (T_mupd (keyI .i64) (vv := (fun y : Bool => (.one (.sc (.bool y)) : MT))) a16 a15 true rfl rfl rfl rfl ?_)
        refine QV rfl ?_
        refine W_seq ?_
        refine W_regV (by decide) ?_
        refine Q_run SV 3 rfl ?_
        obtain ⟨r21, hr21, hF⟩ := bB hF
        refine R_step SV trivial (T_call (critical_waker_fun _ _ _ _ hr21) ⟨⟨rfl, rfl, rfl, rfl, rfl, rfl, rfl, rfl, rfl, rfl, trivial⟩, rfl, rfl, trivial⟩ rfl (.inl rfl) ?_)
        refine QV rfl ?_
        refine W_seq ?_
        refine W_seq ?_
        refine W_regV (by decide) ?_
        refine QV rfl ?_
        refine W_condL (t := (!r21.2)) rfl (fun h22 => ?_) (fun h22 => ?_)
        · have hF := bT h22 hF
          refine W_seq ?_
          refine W_regV (by decide) ?_
          refine QV rfl ?_
          have hF := fin_0 _ (Option.some.inj hF).symm
          refine W_ret ?_
          cases hF
          exact ⟨_, rfl, rfl, ⟨rfl, fun _ => rfl⟩, noOut _⟩
        · have hF := bF h22 hF
          refine W_skip ?_
          refine W_regV (by decide) ?_
          refine QV rfl ?_
          exact cont_0 _ _ _ (Option.some.inj hF).symm (S_weak ⟨rfl, rfl, rfl, rfl, rfl, trivial⟩ ⟨rfl, rfl, trivial⟩)
    · have hF := bF h24 hF
      refine W_exit ?_
      refine thenQ_exit ?_
      refine thenQ_exit ?_
      refine blockQ_hit ?_
      exact brk_0 _ _ _ (Option.some.inj hF).symm (S_weak trivial trivial)
def critical_Check_L1 (p0 : api_Trace) (p1 : Int) (p3 : (List api_Hop)) : Int → Option (Int ⊕ (Unit ⊕ Bool)) := fun a45 =>
  (bif (decide (a45 < (List.length p3 : Int))) then ((idx p3 a45).bind fun y66 => (bif (decide ((w64 (a45 + 1)) < (List.length p3 : Int))) then ((idx p3 (w64 (a45 + 1))).bind fun y67 => ((idx p3 (w64 (a45 + 1))).bind fun y68 => (bif (!decide (y68.fSpan.fFrom = y66.fSpan.fTo)) then some (.inr (.inr false)) else ((((spans_Valid y66.fSpan).bind fun r71 => (bif (!r71) then some true else ((critical_within p0 y66).bind fun r73 => (bif (!r73) then some true else ((critical_comes p0 y67.fThread y66.fThread y66.fSpan.fTo).bind fun r75 => some (!r75)))))) : Option Bool).bind fun v69 => (bif v69 then some (.inr (.inr false)) else some (.inl (w64 (a45 + 1)))))))) else ((((spans_Valid y66.fSpan).bind fun r79 => (bif (!r79) then some true else ((critical_within p0 y66).bind fun r81 => (bif (!r81) then some true else ((critical_comes p0 p1 y66.fThread y66.fSpan.fTo).bind fun r83 => some (!r83)))))) : Option Bool).bind fun v77 => (bif v77 then some (.inr (.inr false)) else some (.inl (w64 (a45 + 1))))))) else some (.inr (.inl ())))
def critical_Check (p0 : api_Trace) (p1 : Int) (p2 : api_Span) (p3 : (List api_Hop)) : Option Bool :=
  ((((critical_check p0 p1 p2).bind fun r87 => (bif (!decide (r87 = 0)) then some true else (bif (decide ((List.length p3 : Int) = 0)) then some true else ((idx p3 0).bind fun y90 => (bif (!decide (y90.fSpan.fFrom = p2.fFrom)) then some true else ((idx p3 (w64 ((List.length p3 : Int) - 1))).bind fun y92 => some (!decide (y92.fSpan.fTo = p2.fTo)))))))) : Option Bool).bind fun v1 => (bif v1 then some false else ((loop (critical_Check_L1 p0 p1 p3) 0).bind fun | .inl _ => some true | .inr rv => some rv)))
set_option maxRecDepth 100000 in
set_option maxHeartbeats 4000000 in
theorem critical_Check_fun (p0 : api_Trace) (p1 : Int) (p2 : api_Span) (p3 : (List api_Hop)) (r : Bool) (hF : critical_Check p0 p1 p2 p3 = some r) : Fun Try.prog 11 true [] [.agg [.imm (tI p0.fSpan.fFrom), .imm (tI p0.fSpan.fTo), .imm (.sl 3 (List.map t_api_Thread p0.fThreads)), .imm (.sl 8 (List.map t_api_Slice p0.fSlices)), .imm (.sl 7 (List.map t_api_State p0.fStates)), .imm (.sl 7 (List.map t_api_Flow p0.fFlows)), .imm (.sl 4 (List.map t_api_Sample p0.fSamples)), .imm (.sl 3 (List.map t_api_Step p0.fSteps)), .imm (.sl 7 (List.map t_api_Block p0.fBlocks)), .imm (.sl 4 (List.map t_api_Loss p0.fLost))], .c (.imm (tI p1)), .agg [.imm (tI p2.fFrom), .imm (tI p2.fTo)], .c (.imm (.sl 4 (List.map t_api_Hop p3)))] noHeap (.c (.imm (.sc (.bool r)))) noHeap := by
  refine Fun.of_walk0 Try.func11 c11 (by kernel_rfl) (rs := [.tmp 8]) (by kernel_rfl) ?_
  unfold v11
  unfold critical_Check at hF
  refine W_seq ?_
  refine W_regV (by decide) ?_
  refine QV rfl ?_
  refine W_seq ?_
  refine W_seq ?_
  refine W_join (fun _ _ h => h) hF (fun v1 => [(1, .c (.imm (tI p1))), (3, .c (.imm (.sl 4 (List.map t_api_Hop p3)))), (4, .c (.ptrO (4,0) 0)), (44, .c (.imm (.sc (.bool v1))))]) (fun v1 => [((4,0), .box [.imm (tI p0.fSpan.fFrom), .imm (tI p0.fSpan.fTo), .imm (.sl 3 (List.map t_api_Thread p0.fThreads)), .imm (.sl 8 (List.map t_api_Slice p0.fSlices)), .imm (.sl 7 (List.map t_api_State p0.fStates)), .imm (.sl 7 (List.map t_api_Flow p0.fFlows)), .imm (.sl 4 (List.map t_api_Sample p0.fSamples)), .imm (.sl 3 (List.map t_api_Step p0.fSteps)), .imm (.sl 7 (List.map t_api_Block p0.fBlocks)), .imm (.sl 4 (List.map t_api_Loss p0.fLost))])]) ?_ ?_
  · rintro v1 hF
    refine W_condL (t := v1) rfl (fun h86 => ?_) (fun h86 => ?_)
    · have hF := bT h86 hF
      refine W_seq ?_
      refine W_regV (by decide) ?_
      refine QV rfl ?_
      refine W_ret ?_
      cases hF
      exact ⟨_, rfl, rfl, ⟨rfl, fun _ => rfl⟩, noOut _⟩
    · have hF := bF h86 hF
      refine W_skip ?_
      refine W_seq ?_
      refine W_seq ?_
      refine W_regV (by decide) ?_
      refine Q_run SV 1 rfl ?_
      refine R_step SV trivial (T_len (tc := t_api_Hop) p3 .tree ?_)
      refine QV rfl ?_
      refine W_for (fun _ _ h => h) hF (.inl) (fun a45 => [(1, .c (.imm (tI p1))), (3, .c (.imm (.sl 4 (List.map t_api_Hop p3)))), (4, .c (.ptrO (4,0) 0)), (45, .c (.imm (.sl 4 (List.map t_api_Hop p3)))), (46, .c (.imm (tI (List.length p3 : Int)))), (47, .c (.imm (tI a45)))]) (fun a45 => [((4,0), .box [.imm (tI p0.fSpan.fFrom), .imm (tI p0.fSpan.fTo), .imm (.sl 3 (List.map t_api_Thread p0.fThreads)), .imm (.sl 8 (List.map t_api_Slice p0.fSlices)), .imm (.sl 7 (List.map t_api_State p0.fStates)), .imm (.sl 7 (List.map t_api_Flow p0.fFlows)), .imm (.sl 4 (List.map t_api_Sample p0.fSamples)), .imm (.sl 3 (List.map t_api_Step p0.fSteps)), .imm (.sl 7 (List.map t_api_Block p0.fBlocks)), .imm (.sl 4 (List.map t_api_Loss p0.fLost))])]) (fun _ => []) (fun _ => []) (S_weak ⟨rfl, rfl, rfl, rfl, rfl, rfl, trivial⟩ ⟨rfl, trivial⟩) ?_ ?_
      · rintro ⟨⟩ hF
        refine W_seq ?_
        refine W_regV (by decide) ?_
        refine QV rfl ?_
        refine W_ret ?_
        cases hF
        exact ⟨_, rfl, rfl, ⟨rfl, fun _ => rfl⟩, noOut _⟩
      · rintro a45 x_0 hF cont_0 brk_0 fin_0
        unfold critical_Check_L1 at hF
        refine W_seq ?_
        refine W_regV (by decide) ?_
        refine QV rfl ?_
        refine W_seq ?_
        refine W_condL (t := (decide (a45 < (List.length p3 : Int)))) rfl (fun h85 => ?_) (fun h85 => ?_)
        · have hF := bT h85 hF
          refine W_skip ?_
          refine W_seq ?_
          refine W_block ?_
          refine W_seq ?_
          refine W_regV (by decide) ?_
          refine Q_run SV 1 rfl ?_
          obtain ⟨y66, hy66, hF⟩ := bB hF
          refine R_step SV trivial (T_ixT (tc := t_api_Hop) p3 rfl rfl hy66 ?_)
          refine QV rfl ?_
          refine W_seq ?_
          refine W_regV (by decide) ?_
          refine QV rfl ?_
          refine W_seq ?_
          refine W_seq ?_
          refine W_regV (by decide) ?_
          refine Q_run SV 3 rfl ?_
          refine R_step SV trivial (T_len (tc := t_api_Hop) p3 .tree ?_)
          refine QV rfl ?_
          refine W_condL (t := (decide ((w64 (a45 + 1)) < (List.length p3 : Int)))) rfl (fun h84 => ?_) (fun h84 => ?_)
          · have hF := bT h84 hF
            refine W_seq ?_
            refine W_regV (by decide) ?_
            refine Q_run SV 3 rfl ?_
            obtain ⟨y67, hy67, hF⟩ := bB hF
            refine R_step SV trivial (T_ixT (tc := t_api_Hop) p3 rfl rfl hy67 ?_)
            refine QV rfl ?_
            refine W_seq ?_
            refine W_regD (by decide) (by kernel_rfl) rfl ?_
            refine Q_run SP 3 rfl ?_
            obtain ⟨y68, hy68, hF⟩ := bB hF
            refine R_step SP trivial (T_ixT (tc := t_api_Hop) p3 rfl rfl hy68 ?_)
            refine QP rfl ?_
            refine W_condL (t := (!decide (y68.fSpan.fFrom = y66.fSpan.fTo))) rfl (fun h76 => ?_) (fun h76 => ?_)
            · have hF := bT h76 hF
              refine W_seq ?_
              refine W_regV (by decide) ?_
              refine QV rfl ?_
              have hF := fin_0 _ (Option.some.inj hF).symm
              refine W_ret ?_
              cases hF
              exact ⟨_, rfl, rfl, ⟨rfl, fun _ => rfl⟩, noOut _⟩
            · have hF := bF h76 hF
              refine W_skip ?_
              refine W_seq ?_
              refine W_join (fun _ _ h => h) hF (fun v69 => [(1, .c (.imm (tI p1))), (3, .c (.imm (.sl 4 (List.map t_api_Hop p3)))), (4, .c (.ptrO (4,0) 0)), (45, .c (.imm (.sl 4 (List.map t_api_Hop p3)))), (46, .c (.imm (tI (List.length p3 : Int)))), (47, .c (.imm (tI a45))), (95, .c (.imm (.sc (.bool v69))))]) (fun v69 => [((4,0), .box [.imm (tI p0.fSpan.fFrom), .imm (tI p0.fSpan.fTo), .imm (.sl 3 (List.map t_api_Thread p0.fThreads)), .imm (.sl 8 (List.map t_api_Slice p0.fSlices)), .imm (.sl 7 (List.map t_api_State p0.fStates)), .imm (.sl 7 (List.map t_api_Flow p0.fFlows)), .imm (.sl 4 (List.map t_api_Sample p0.fSamples)), .imm (.sl 3 (List.map t_api_Step p0.fSteps)), .imm (.sl 7 (List.map t_api_Block p0.fBlocks)), .imm (.sl 4 (List.map t_api_Loss p0.fLost))])]) ?_ ?_
              · rintro v69 hF
                refine W_condL (t := v69) rfl (fun h70 => ?_) (fun h70 => ?_)
                · have hF := bT h70 hF
                  refine W_seq ?_
                  refine W_regV (by decide) ?_
                  refine QV rfl ?_
                  have hF := fin_0 _ (Option.some.inj hF).symm
                  refine W_ret ?_
                  cases hF
                  exact ⟨_, rfl, rfl, ⟨rfl, fun _ => rfl⟩, noOut _⟩
                · have hF := bF h70 hF
                  refine W_skip ?_
                  refine W_regV (by decide) ?_
                  refine QV rfl ?_
                  exact cont_0 _ _ _ (Option.some.inj hF).symm (S_weak ⟨rfl, rfl, rfl, rfl, rfl, rfl, trivial⟩ ⟨rfl, trivial⟩)
              · intro join hF
                refine W_regV (by decide) ?_
                refine Q_run SV 2 rfl ?_
                obtain ⟨r71, hr71, hF⟩ := bB' hF
                refine R_step SV trivial (T_call (spans_Valid_fun _ _ hr71) ⟨⟨rfl, rfl, trivial⟩, trivial⟩ rfl (.inl rfl) ?_)
                refine Q_run SV 2 rfl ?_
                cases h72 : (!r71)
                · have hF := bF' h72 hF
                  refine Q_run SV 2 rfl ?_
                  obtain ⟨r73, hr73, hF⟩ := bB' hF
                  refine R_step SV rfl (T_call (critical_within_fun _ _ _ hr73) ⟨⟨rfl, rfl, rfl, rfl, rfl, rfl, rfl, rfl, rfl, rfl, trivial⟩, ⟨rfl, rfl, rfl, rfl, trivial⟩, trivial⟩ rfl (.inl rfl) ?_)
                  refine Q_run SV 3 rfl ?_
                  cases h74 : (!r73)
                  · have hF := bF' h74 hF
                    refine Q_run SV 7 rfl ?_
                    obtain ⟨r75, hr75, hF⟩ := bB' hF
                    refine R_step SV rfl (T_call (critical_comes_fun _ _ _ _ _ hr75) ⟨⟨rfl, rfl, rfl, rfl, rfl, rfl, rfl, rfl, rfl, rfl, trivial⟩, rfl, rfl, rfl, trivial⟩ rfl (.inl rfl) ?_)
                    refine QV rfl ?_
                    exact join (!r75) _ _ hF (S_weak ⟨rfl, rfl, rfl, rfl, rfl, rfl, rfl, trivial⟩ ⟨rfl, trivial⟩)
                  · have hF := bT' h74 hF
                    refine QV rfl ?_
                    exact join true _ _ hF (S_weak ⟨rfl, rfl, rfl, rfl, rfl, rfl, rfl, trivial⟩ ⟨rfl, trivial⟩)
                · have hF := bT' h72 hF
                  refine QV rfl ?_
                  exact join true _ _ hF (S_weak ⟨rfl, rfl, rfl, rfl, rfl, rfl, rfl, trivial⟩ ⟨rfl, trivial⟩)
          · have hF := bF h84 hF
            refine W_skip ?_
            refine W_seq ?_
            refine W_join (fun _ _ h => h) hF (fun v77 => [(1, .c (.imm (tI p1))), (3, .c (.imm (.sl 4 (List.map t_api_Hop p3)))), (4, .c (.ptrO (4,0) 0)), (45, .c (.imm (.sl 4 (List.map t_api_Hop p3)))), (46, .c (.imm (tI (List.length p3 : Int)))), (47, .c (.imm (tI a45))), (95, .c (.imm (.sc (.bool v77))))]) (fun v77 => [((4,0), .box [.imm (tI p0.fSpan.fFrom), .imm (tI p0.fSpan.fTo), .imm (.sl 3 (List.map t_api_Thread p0.fThreads)), .imm (.sl 8 (List.map t_api_Slice p0.fSlices)), .imm (.sl 7 (List.map t_api_State p0.fStates)), .imm (.sl 7 (List.map t_api_Flow p0.fFlows)), .imm (.sl 4 (List.map t_api_Sample p0.fSamples)), .imm (.sl 3 (List.map t_api_Step p0.fSteps)), .imm (.sl 7 (List.map t_api_Block p0.fBlocks)), .imm (.sl 4 (List.map t_api_Loss p0.fLost))])]) ?_ ?_
            · rintro v77 hF
              refine W_condL (t := v77) rfl (fun h78 => ?_) (fun h78 => ?_)
              · have hF := bT h78 hF
                refine W_seq ?_
                refine W_regV (by decide) ?_
                refine QV rfl ?_
                have hF := fin_0 _ (Option.some.inj hF).symm
                refine W_ret ?_
                cases hF
                exact ⟨_, rfl, rfl, ⟨rfl, fun _ => rfl⟩, noOut _⟩
              · have hF := bF h78 hF
                refine W_skip ?_
                refine W_regV (by decide) ?_
                refine QV rfl ?_
                exact cont_0 _ _ _ (Option.some.inj hF).symm (S_weak ⟨rfl, rfl, rfl, rfl, rfl, rfl, trivial⟩ ⟨rfl, trivial⟩)
            · intro join hF
              refine W_regV (by decide) ?_
              refine Q_run SV 2 rfl ?_
              obtain ⟨r79, hr79, hF⟩ := bB' hF
              refine R_step SV trivial (T_call (spans_Valid_fun _ _ hr79) ⟨⟨rfl, rfl, trivial⟩, trivial⟩ rfl (.inl rfl) ?_)
              refine Q_run SV 2 rfl ?_
              cases h80 : (!r79)
              · have hF := bF' h80 hF
                refine Q_run SV 2 rfl ?_
                obtain ⟨r81, hr81, hF⟩ := bB' hF
                refine R_step SV rfl (T_call (critical_within_fun _ _ _ hr81) ⟨⟨rfl, rfl, rfl, rfl, rfl, rfl, rfl, rfl, rfl, rfl, trivial⟩, ⟨rfl, rfl, rfl, rfl, trivial⟩, trivial⟩ rfl (.inl rfl) ?_)
                refine Q_run SV 3 rfl ?_
                cases h82 : (!r81)
                · have hF := bF' h82 hF
                  refine Q_run SV 7 rfl ?_
                  obtain ⟨r83, hr83, hF⟩ := bB' hF
                  refine R_step SV rfl (T_call (critical_comes_fun _ _ _ _ _ hr83) ⟨⟨rfl, rfl, rfl, rfl, rfl, rfl, rfl, rfl, rfl, rfl, trivial⟩, rfl, rfl, rfl, trivial⟩ rfl (.inl rfl) ?_)
                  refine QV rfl ?_
                  exact join (!r83) _ _ hF (S_weak ⟨rfl, rfl, rfl, rfl, rfl, rfl, rfl, trivial⟩ ⟨rfl, trivial⟩)
                · have hF := bT' h82 hF
                  refine QV rfl ?_
                  exact join true _ _ hF (S_weak ⟨rfl, rfl, rfl, rfl, rfl, rfl, rfl, trivial⟩ ⟨rfl, trivial⟩)
              · have hF := bT' h80 hF
                refine QV rfl ?_
                exact join true _ _ hF (S_weak ⟨rfl, rfl, rfl, rfl, rfl, rfl, rfl, trivial⟩ ⟨rfl, trivial⟩)
        · have hF := bF h85 hF
          refine W_exit ?_
          refine thenQ_exit ?_
          refine thenQ_exit ?_
          refine blockQ_hit ?_
          exact brk_0 _ _ _ (Option.some.inj hF).symm (S_weak trivial trivial)
  · intro join hF
    refine W_regD (by decide) (by kernel_rfl) rfl ?_
    refine Q_run SP 3 rfl ?_
    obtain ⟨r87, hr87, hF⟩ := bB' hF
    refine R_step SP trivial (T_call (critical_check_fun _ _ _ _ hr87) ⟨⟨rfl, rfl, rfl, rfl, rfl, rfl, rfl, rfl, rfl, rfl, trivial⟩, rfl, ⟨rfl, rfl, trivial⟩, trivial⟩ rfl (.inl rfl) ?_)
    refine Q_run SP 2 rfl ?_
    cases h88 : (!decide (r87 = 0))
    · have hF := bF' h88 hF
      refine Q_run SP 1 rfl ?_
      refine R_step SP rfl (T_len (tc := t_api_Hop) p3 .tree ?_)
      refine Q_run SP 3 rfl ?_
      cases h89 : (decide ((List.length p3 : Int) = 0))
      · have hF := bF' h89 hF
        refine Q_run SP 1 rfl ?_
        obtain ⟨y90, hy90, hF⟩ := bB' hF
        refine R_step SP rfl (T_ixT (tc := t_api_Hop) p3 rfl rfl hy90 ?_)
        refine Q_run SP 8 rfl ?_
        cases h91 : (!decide (y90.fSpan.fFrom = p2.fFrom))
        · have hF := bF' h91 hF
          refine Q_run SP 2 rfl ?_
          refine R_step SP rfl (T_len (tc := t_api_Hop) p3 .tree ?_)
          refine Q_run SP 1 rfl ?_
          obtain ⟨y92, hy92, hF⟩ := bB' hF
          refine R_step SP rfl (T_ixT (tc := t_api_Hop) p3 rfl rfl hy92 ?_)
          refine QP rfl ?_
          exact join (!decide (y92.fSpan.fTo = p2.fTo)) _ _ hF (S_weak ⟨rfl, rfl, rfl, rfl, trivial⟩ ⟨rfl, trivial⟩)
        · have hF := bT' h91 hF
          refine QP rfl ?_
          exact join true _ _ hF (S_weak ⟨rfl, rfl, rfl, rfl, trivial⟩ ⟨rfl, trivial⟩)
      · have hF := bT' h89 hF
        refine QP rfl ?_
        exact join true _ _ hF (S_weak ⟨rfl, rfl, rfl, rfl, trivial⟩ ⟨rfl, trivial⟩)
    · have hF := bT' h88 hF
      refine QP rfl ?_
      exact join true _ _ hF (S_weak ⟨rfl, rfl, rfl, rfl, trivial⟩ ⟨rfl, trivial⟩)
def tracebooklaw48_awake  : Option Bool :=
  ((tracebooklaw48_piece 1 4 0 5 (-1) (-1)).bind fun r1 => ((tracebooklaw48_piece 1 2 5 9 2 2).bind fun r2 => ((tracebooklaw48_piece 1 4 9 10 (-1) (-1)).bind fun r3 => ((tracebooklaw48_piece 2 1 0 3 (-1) (-1)).bind fun r4 => ((tracebooklaw48_piece 2 4 3 9 (-1) (-1)).bind fun r5 => ((tracebooklaw48_piece 2 0 9 10 (-1) (-1)).bind fun r6 => ((tracebooklaw48_pair [r1, r2, r3, r4, r5, r6]).bind fun r7 => ((critical_Path r7 1 ({ fFrom := 4, fTo := 9 } : api_Span)).bind fun r8 => ((tracebooklaw48_piece 1 2 0 6 2 2).bind fun r9 => ((tracebooklaw48_piece 1 4 6 10 (-1) (-1)).bind fun r10 => ((tracebooklaw48_piece 2 2 0 6 1 1).bind fun r11 => ((tracebooklaw48_piece 2 4 6 10 (-1) (-1)).bind fun r12 => ((tracebooklaw48_pair [r9, r10, r11, r12]).bind fun r13 => ((critical_Path r13 1 ({ fFrom := 2, fTo := 6 } : api_Span)).bind fun r14 => ((critical_Path r13 1 ({ fFrom := 7, fTo := 9 } : api_Span)).bind fun r15 => (((bif (decide (r8.2 = 0)) then ((tracebookref48_Same r8.1 [({ fThread := 2, fState := 4, fSpan := ({ fFrom := 4, fTo := 9 } : api_Span) } : api_Hop)]).bind fun r18 => (bif r18 then (bif (decide (r14.2 = 0)) then ((tracebookref48_Same r14.1 [({ fThread := 2, fState := 2, fSpan := ({ fFrom := 2, fTo := 6 } : api_Span) } : api_Hop)]).bind fun r21 => (bif r21 then (bif (decide (r15.2 = 0)) then (bif (decide ((List.length r15.1 : Int) = 1)) then ((critical_Check r13 1 ({ fFrom := 2, fTo := 6 } : api_Span) r14.1).bind fun r25 => some r25) else some false) else some false) else some false)) else some false) else some false)) else some false) : Option Bool).bind fun v16 => some v16))))))))))))))))
set_option maxRecDepth 100000 in
set_option maxHeartbeats 4000000 in
theorem tracebooklaw48_awake_fun  (r : Bool) (hF : tracebooklaw48_awake  = some r) : Fun Try.prog 6 true [] [] noHeap (.c (.imm (.sc (.bool r)))) noHeap := by
  refine Fun.of_walk0 Try.func6 c6 (by kernel_rfl) (rs := [.tmp 0]) (by kernel_rfl) ?_
  unfold v6
  unfold tracebooklaw48_awake at hF
  refine W_seq ?_
  refine W_regV (by decide) ?_
  refine QV rfl ?_
  refine W_seq ?_
  refine W_regV (by decide) ?_
  obtain ⟨r1, hr1, hF⟩ := bB hF
  refine R_step SV trivial (T_call (tracebooklaw48_piece_fun _ _ _ _ _ _ _ hr1) ⟨rfl, rfl, rfl, rfl, rfl, rfl, trivial⟩ rfl (.inl rfl) ?_)
  obtain ⟨r2, hr2, hF⟩ := bB hF
  refine R_step SV trivial (T_call (tracebooklaw48_piece_fun _ _ _ _ _ _ _ hr2) ⟨rfl, rfl, rfl, rfl, rfl, rfl, trivial⟩ rfl (.inl rfl) ?_)
  obtain ⟨r3, hr3, hF⟩ := bB hF
  refine R_step SV trivial (T_call (tracebooklaw48_piece_fun _ _ _ _ _ _ _ hr3) ⟨rfl, rfl, rfl, rfl, rfl, rfl, trivial⟩ rfl (.inl rfl) ?_)
  obtain ⟨r4, hr4, hF⟩ := bB hF
  refine R_step SV trivial (T_call (tracebooklaw48_piece_fun _ _ _ _ _ _ _ hr4) ⟨rfl, rfl, rfl, rfl, rfl, rfl, trivial⟩ rfl (.inl rfl) ?_)
  obtain ⟨r5, hr5, hF⟩ := bB hF
  refine R_step SV trivial (T_call (tracebooklaw48_piece_fun _ _ _ _ _ _ _ hr5) ⟨rfl, rfl, rfl, rfl, rfl, rfl, trivial⟩ rfl (.inl rfl) ?_)
  obtain ⟨r6, hr6, hF⟩ := bB hF
  refine R_step SV trivial (T_call (tracebooklaw48_piece_fun _ _ _ _ _ _ _ hr6) ⟨rfl, rfl, rfl, rfl, rfl, rfl, trivial⟩ rfl (.inl rfl) ?_)
  refine R_step SV trivial (T_bsl (tc := t_api_State) [r1, r2, r3, r4, r5, r6] rfl ⟨rfl, rfl, rfl, rfl, rfl, rfl, rfl, rfl, rfl, rfl, rfl, rfl, rfl, rfl, rfl, rfl, rfl, rfl, rfl, rfl, rfl, rfl, rfl, rfl, rfl, rfl, rfl, rfl, rfl, rfl, rfl, rfl, rfl, rfl, rfl, rfl, rfl, rfl, rfl, rfl, rfl, rfl, trivial⟩ rfl (fun _ => rfl) rfl ?_)
  obtain ⟨r7, hr7, hF⟩ := bB hF
  refine R_shift trivial (S_frz (15,0) rfl rfl S_refl) (X_callG [((902,480),(16,1))] rfl (callN _) (tracebooklaw48_pair_fun _ _ hr7) trivial ⟨.inl rfl, trivial⟩ rfl rfl rfl ?_)
  refine QV rfl ?_
  refine W_seq ?_
  refine W_regV (by decide) ?_
  refine Q_run SV 2 rfl ?_
  obtain ⟨r8, hr8, hF⟩ := bB hF
  refine R_stepX trivial (X_callL [((902,320),(20,1))] rfl (callN _) (critical_Path_fun _ _ _ _ hr8) trivial ⟨.inr ⟨rfl, rfl, ⟨_, rfl⟩, rfl, rfl, rfl, rfl, rfl, rfl, rfl, trivial⟩, .inr rfl, .inr ⟨rfl, rfl, trivial⟩, trivial⟩ rfl rfl rfl rfl ⟨(flatArr fun _ => rfl), trivial⟩ ?_)
  refine QV rfl ?_
  refine W_seq ?_
  refine W_regV (by decide) ?_
  obtain ⟨r9, hr9, hF⟩ := bB hF
  refine R_step SV trivial (T_call (tracebooklaw48_piece_fun _ _ _ _ _ _ _ hr9) ⟨rfl, rfl, rfl, rfl, rfl, rfl, trivial⟩ rfl (.inl rfl) ?_)
  obtain ⟨r10, hr10, hF⟩ := bB hF
  refine R_step SV trivial (T_call (tracebooklaw48_piece_fun _ _ _ _ _ _ _ hr10) ⟨rfl, rfl, rfl, rfl, rfl, rfl, trivial⟩ rfl (.inl rfl) ?_)
  obtain ⟨r11, hr11, hF⟩ := bB hF
  refine R_step SV trivial (T_call (tracebooklaw48_piece_fun _ _ _ _ _ _ _ hr11) ⟨rfl, rfl, rfl, rfl, rfl, rfl, trivial⟩ rfl (.inl rfl) ?_)
  obtain ⟨r12, hr12, hF⟩ := bB hF
  refine R_step SV trivial (T_call (tracebooklaw48_piece_fun _ _ _ _ _ _ _ hr12) ⟨rfl, rfl, rfl, rfl, rfl, rfl, trivial⟩ rfl (.inl rfl) ?_)
  refine R_step SV trivial (T_bsl (tc := t_api_State) [r9, r10, r11, r12] rfl ⟨rfl, rfl, rfl, rfl, rfl, rfl, rfl, rfl, rfl, rfl, rfl, rfl, rfl, rfl, rfl, rfl, rfl, rfl, rfl, rfl, rfl, rfl, rfl, rfl, rfl, rfl, rfl, rfl, trivial⟩ rfl (fun _ => rfl) rfl ?_)
  obtain ⟨r13, hr13, hF⟩ := bB hF
  refine R_shift trivial (S_frz (27,0) rfl rfl S_refl) (X_callG [((902,480),(28,1))] rfl (callN _) (tracebooklaw48_pair_fun _ _ hr13) trivial ⟨.inl rfl, trivial⟩ rfl rfl rfl ?_)
  refine QV rfl ?_
  refine W_seq ?_
  refine W_regV (by decide) ?_
  refine Q_run SV 2 rfl ?_
  obtain ⟨r14, hr14, hF⟩ := bB hF
  refine R_stepX trivial (X_callL [((902,320),(32,1))] rfl (callN _) (critical_Path_fun _ _ _ _ hr14) trivial ⟨.inr ⟨rfl, rfl, ⟨_, rfl⟩, rfl, rfl, rfl, rfl, rfl, rfl, rfl, trivial⟩, .inr rfl, .inr ⟨rfl, rfl, trivial⟩, trivial⟩ rfl rfl rfl rfl ⟨(flatArr fun _ => rfl), trivial⟩ ?_)
  refine QV rfl ?_
  refine W_seq ?_
  refine W_regV (by decide) ?_
  refine Q_run SV 2 rfl ?_
  obtain ⟨r15, hr15, hF⟩ := bB hF
  refine R_stepX trivial (X_callL [((902,320),(38,1))] rfl (callN _) (critical_Path_fun _ _ _ _ hr15) trivial ⟨.inr ⟨rfl, rfl, ⟨_, rfl⟩, rfl, rfl, rfl, rfl, rfl, rfl, rfl, trivial⟩, .inr rfl, .inr ⟨rfl, rfl, trivial⟩, trivial⟩ rfl rfl rfl rfl ⟨(flatArr fun _ => rfl), trivial⟩ ?_)
  refine QV rfl ?_
  refine W_seq ?_
  refine W_join (fun _ _ h => h) hF (fun v16 => [(0, .c (.imm (.sc (.bool v16))))]) (fun v16 => []) ?_ ?_
  · rintro v16 hF
    refine W_ret ?_
    cases hF
    exact ⟨_, rfl, rfl, ⟨rfl, fun _ => rfl⟩, noOut _⟩
  · intro join hF
    refine W_regV (by decide) ?_
    refine Q_run SV 3 rfl ?_
    cases h17 : (decide (r8.2 = 0))
    · have hF := bF' h17 hF
      refine QV rfl ?_
      exact join false _ _ hF (S_weak ⟨rfl, trivial⟩ trivial)
    · have hF := bT' h17 hF
      refine Q_run SV 3 rfl ?_
      refine R_step SV rfl (T_bsl (tc := t_api_Hop) [({ fThread := 2, fState := 4, fSpan := ({ fFrom := 4, fTo := 9 } : api_Span) } : api_Hop)] rfl ⟨rfl, rfl, rfl, rfl, trivial⟩ rfl (fun _ => rfl) rfl ?_)
      obtain ⟨r18, hr18, hF⟩ := bB' hF
      refine R_step SV rfl (T_call (tracebookref48_Same_fun _ _ _ hr18) ⟨⟨_, rfl⟩, ⟨_, rfl⟩, trivial⟩ rfl (.inl rfl) ?_)
      refine Q_run SV 2 rfl ?_
      cases h19 : r18
      · have hF := bF' h19 hF
        refine QV rfl ?_
        exact join false _ _ hF (S_weak ⟨rfl, trivial⟩ trivial)
      · have hF := bT' h19 hF
        refine Q_run SV 4 rfl ?_
        cases h20 : (decide (r14.2 = 0))
        · have hF := bF' h20 hF
          refine QV rfl ?_
          exact join false _ _ hF (S_weak ⟨rfl, trivial⟩ trivial)
        · have hF := bT' h20 hF
          refine Q_run SV 3 rfl ?_
          refine R_step SV rfl (T_bsl (tc := t_api_Hop) [({ fThread := 2, fState := 2, fSpan := ({ fFrom := 2, fTo := 6 } : api_Span) } : api_Hop)] rfl ⟨rfl, rfl, rfl, rfl, trivial⟩ rfl (fun _ => rfl) rfl ?_)
          obtain ⟨r21, hr21, hF⟩ := bB' hF
          refine R_step SV rfl (T_call (tracebookref48_Same_fun _ _ _ hr21) ⟨⟨_, rfl⟩, ⟨_, rfl⟩, trivial⟩ rfl (.inl rfl) ?_)
          refine Q_run SV 2 rfl ?_
          cases h22 : r21
          · have hF := bF' h22 hF
            refine QV rfl ?_
            exact join false _ _ hF (S_weak ⟨rfl, trivial⟩ trivial)
          · have hF := bT' h22 hF
            refine Q_run SV 4 rfl ?_
            cases h23 : (decide (r15.2 = 0))
            · have hF := bF' h23 hF
              refine QV rfl ?_
              exact join false _ _ hF (S_weak ⟨rfl, trivial⟩ trivial)
            · have hF := bT' h23 hF
              refine Q_run SV 1 rfl ?_
              refine R_step SV rfl (T_len (tc := t_api_Hop) r15.1 (.own _ _ rfl) ?_)
              refine Q_run SV 3 rfl ?_
              cases h24 : (decide ((List.length r15.1 : Int) = 1))
              · have hF := bF' h24 hF
                refine QV rfl ?_
                exact join false _ _ hF (S_weak ⟨rfl, trivial⟩ trivial)
              · have hF := bT' h24 hF
                refine Q_run SV 3 rfl ?_
                obtain ⟨r25, hr25, hF⟩ := bB' hF
                refine R_step SV rfl (T_call (critical_Check_fun _ _ _ _ _ hr25) ⟨⟨rfl, rfl, ⟨_, rfl⟩, rfl, rfl, rfl, rfl, rfl, rfl, rfl, trivial⟩, rfl, ⟨rfl, rfl, trivial⟩, ⟨_, rfl⟩, trivial⟩ rfl (.inl rfl) ?_)
                refine QV rfl ?_
                exact join r25 _ _ hF (S_weak ⟨rfl, trivial⟩ trivial)
def state_Total_L1 (p0 : (List api_State)) (p1 : Int) (p2 : Int) (p3 : api_Span) : (Int × Int) → Option ((Int × Int) ⊕ Int) := fun (a20, a21) =>
  (bif (decide (a21 < (List.length p0 : Int))) then ((((idx p0 a21).bind fun y30 => (((bif (decide (y30.fThread = p1)) then some (decide (y30.fState = p2)) else some false) : Option Bool).bind fun v31 => (bif v31 then some (w64 (a20 + (max 0 (w64 ((min y30.fSpan.fTo p3.fTo) - (max y30.fSpan.fFrom p3.fFrom)))))) else some a20))) : Option Int).bind fun v29 => some (.inl (v29, (w64 (a21 + 1))))) else some (.inr a20))
def state_Total (p0 : (List api_State)) (p1 : Int) (p2 : Int) (p3 : api_Span) : Option Int :=
  ((spans_Valid p3).bind fun r1 => (bif (!r1) then some 0 else ((loop (state_Total_L1 p0 p1 p2 p3) (0, 0)).bind fun e28 => some e28)))
set_option maxRecDepth 100000 in
set_option maxHeartbeats 4000000 in
theorem state_Total_fun (p0 : (List api_State)) (p1 : Int) (p2 : Int) (p3 : api_Span) (r : Int) (hF : state_Total p0 p1 p2 p3 = some r) : Fun Try.prog 10 true [] [.c (.imm (.sl 7 (List.map t_api_State p0))), .c (.imm (tI p1)), .c (.imm (tI p2)), .agg [.imm (tI p3.fFrom), .imm (tI p3.fTo)]] noHeap (.c (.imm (tI r))) noHeap := by
  refine Fun.of_walk0 Try.func10 c10 (by kernel_rfl) (rs := [.tmp 8]) (by kernel_rfl) ?_
  unfold v10
  unfold state_Total at hF
  refine W_seq ?_
  refine W_regV (by decide) ?_
  refine QV rfl ?_
  refine W_seq ?_
  refine W_seq ?_
  refine W_regV (by decide) ?_
  refine Q_run SV 1 rfl ?_
  obtain ⟨r1, hr1, hF⟩ := bB hF
  refine R_step SV trivial (T_call (spans_Valid_fun _ _ hr1) ⟨⟨rfl, rfl, trivial⟩, trivial⟩ rfl (.inl rfl) ?_)
  refine QV rfl ?_
  refine W_condL (t := (!r1)) rfl (fun h35 => ?_) (fun h35 => ?_)
  · have hF := bT h35 hF
    refine W_seq ?_
    refine W_regV (by decide) ?_
    refine QV rfl ?_
    refine W_ret ?_
    cases hF
    exact ⟨_, rfl, rfl, ⟨rfl, fun _ => rfl⟩, noOut _⟩
  · have hF := bF h35 hF
    refine W_skip ?_
    refine W_seq ?_
    refine W_regV (by decide) ?_
    refine QV rfl ?_
    refine W_seq ?_
    refine W_seq ?_
    refine W_regV (by decide) ?_
    refine Q_run SV 1 rfl ?_
    refine R_step SV trivial (T_len (tc := t_api_State) p0 .tree ?_)
    refine QV rfl ?_
    refine W_for (fun _ _ h => h) hF (id) (fun (a20, a21) => [(1, .c (.imm (tI p1))), (2, .c (.imm (tI p2))), (7, .c (.ptrO (7,0) 0)), (9, .c (.imm (tI a20))), (15, .c (.imm (.sl 7 (List.map t_api_State p0)))), (16, .c (.imm (tI (List.length p0 : Int)))), (17, .c (.imm (tI a21)))]) (fun (a20, a21) => [((7,0), .box [.imm (tI p3.fFrom), .imm (tI p3.fTo)])]) (fun e28 => [(9, .c (.imm (tI e28)))]) (fun e28 => []) (S_weak ⟨rfl, rfl, rfl, rfl, rfl, rfl, rfl, trivial⟩ ⟨rfl, trivial⟩) ?_ ?_
    · rintro e28 hF
      refine W_seq ?_
      refine W_regV (by decide) ?_
      refine QV rfl ?_
      refine W_ret ?_
      cases hF
      exact ⟨_, rfl, rfl, ⟨rfl, fun _ => rfl⟩, noOut _⟩
    · rintro ⟨a20, a21⟩ x_0 hF cont_0 brk_0 fin_0
      unfold state_Total_L1 at hF
      refine W_seq ?_
      refine W_regV (by decide) ?_
      refine QV rfl ?_
      refine W_seq ?_
      refine W_condL (t := (decide (a21 < (List.length p0 : Int)))) rfl (fun h34 => ?_) (fun h34 => ?_)
      · have hF := bT h34 hF
        refine W_skip ?_
        refine W_seq ?_
        refine W_join (fun _ _ h => h) hF (fun v29 => [(1, .c (.imm (tI p1))), (2, .c (.imm (tI p2))), (7, .c (.ptrO (7,0) 0)), (9, .c (.imm (tI v29))), (15, .c (.imm (.sl 7 (List.map t_api_State p0)))), (16, .c (.imm (tI (List.length p0 : Int)))), (17, .c (.imm (tI a21)))]) (fun v29 => [((7,0), .box [.imm (tI p3.fFrom), .imm (tI p3.fTo)])]) ?_ ?_
        · rintro v29 hF
          refine W_regV (by decide) ?_
          refine QV rfl ?_
          exact cont_0 _ _ _ (Option.some.inj hF).symm (S_weak ⟨rfl, rfl, rfl, rfl, rfl, rfl, rfl, trivial⟩ ⟨rfl, trivial⟩)
        · intro join hF
          refine W_block ?_
          refine W_seq ?_
          refine W_regV (by decide) ?_
          obtain ⟨y30, hy30, hF⟩ := bB' hF
          refine R_step SV trivial (T_ixT (tc := t_api_State) p0 rfl rfl hy30 ?_)
          refine QV rfl ?_
          refine W_seq ?_
          have hF := bA hF
          refine W_join (fun _ _ h => h) hF (fun v31 => [(1, .c (.imm (tI p1))), (2, .c (.imm (tI p2))), (7, .c (.ptrO (7,0) 0)), (9, .c (.imm (tI a20))), (11, .c (.ptrO (11,0) 0)), (15, .c (.imm (.sl 7 (List.map t_api_State p0)))), (16, .c (.imm (tI (List.length p0 : Int)))), (17, .c (.imm (tI a21))), (30, .c (.imm (.sc (.bool v31))))]) (fun v31 => [((7,0), .box [.imm (tI p3.fFrom), .imm (tI p3.fTo)]), ((11,0), .box [.imm (tI y30.fThread), .imm (tI y30.fState), .imm (tI y30.fSpan.fFrom), .imm (tI y30.fSpan.fTo), .imm (tI y30.fCpu), .imm (tI y30.fOn), .imm (tI y30.fBy)])]) ?_ ?_
          · rintro v31 hF
            refine W_condL (t := v31) rfl (fun h32 => ?_) (fun h32 => ?_)
            · have hF := bT' h32 hF
              refine W_regV (by decide) ?_
              refine QV rfl ?_
              exact join (w64 (a20 + (max 0 (w64 ((min y30.fSpan.fTo p3.fTo) - (max y30.fSpan.fFrom p3.fFrom)))))) _ _ hF (S_weak ⟨rfl, rfl, rfl, rfl, rfl, rfl, rfl, trivial⟩ ⟨rfl, trivial⟩)
            · have hF := bF' h32 hF
              refine W_skip ?_
              exact join a20 _ _ hF (S_weak ⟨rfl, rfl, rfl, rfl, rfl, rfl, rfl, trivial⟩ ⟨rfl, trivial⟩)
          · intro join hF
            refine W_regV (by decide) ?_
            refine Q_run SV 5 rfl ?_
            cases h33 : (decide (y30.fThread = p1))
            · have hF := bF' h33 hF
              refine QV rfl ?_
              exact join false _ _ hF (S_weak ⟨rfl, rfl, rfl, rfl, rfl, rfl, rfl, rfl, rfl, trivial⟩ ⟨rfl, rfl, trivial⟩)
            · have hF := bT' h33 hF
              refine QV rfl ?_
              exact join (decide (y30.fState = p2)) _ _ hF (S_weak ⟨rfl, rfl, rfl, rfl, rfl, rfl, rfl, rfl, rfl, trivial⟩ ⟨rfl, rfl, trivial⟩)
      · have hF := bF h34 hF
        refine W_exit ?_
        refine thenQ_exit ?_
        refine thenQ_exit ?_
        refine blockQ_hit ?_
        exact brk_0 _ _ _ (Option.some.inj hF).symm (S_weak ⟨rfl, trivial⟩ trivial)
def tracebooklaw48_CriticalCaused_L1 (p0 : api_Trace) (r3 : ((List api_Hop) × Int)) : Int → Option (Int ⊕ (Unit ⊕ Bool)) := fun a16 =>
  (bif (decide (a16 < (List.length r3.1 : Int))) then ((idx r3.1 a16).bind fun y25 => ((state_Total p0.fStates y25.fThread y25.fState y25.fSpan).bind fun r26 => (bif (!decide (r26 = (w64 (y25.fSpan.fTo - y25.fSpan.fFrom)))) then some (.inr (.inr false)) else some (.inl (w64 (a16 + 1)))))) else some (.inr (.inl ())))
def tracebooklaw48_CriticalCaused (p0 : api_Trace) (p1 : Int) (p2 : api_Span) : Option Bool :=
  ((tracebooklaw48_few p0).bind fun r1 => (bif (!r1) then ((tracebooklaw48_awake ).bind fun r2 => some r2) else ((critical_Path p0 p1 p2).bind fun r3 => (bif (!decide (r3.2 = 0)) then ((tracebooklaw48_awake ).bind fun r4 => some r4) else ((loop (tracebooklaw48_CriticalCaused_L1 p0 r3) 0).bind fun | .inl _ => ((((critical_Check p0 p1 p2 r3.1).bind fun r22 => (bif r22 then ((tracebooklaw48_awake ).bind fun r24 => some r24) else some false)) : Option Bool).bind fun v21 => some v21) | .inr rv => some rv)))))
set_option maxRecDepth 100000 in
set_option maxHeartbeats 4000000 in
theorem tracebooklaw48_CriticalCaused_fun (p0 : api_Trace) (p1 : Int) (p2 : api_Span) (r : Bool) (hF : tracebooklaw48_CriticalCaused p0 p1 p2 = some r) : Fun Try.prog 4 true [] [.agg [.imm (tI p0.fSpan.fFrom), .imm (tI p0.fSpan.fTo), .imm (.sl 3 (List.map t_api_Thread p0.fThreads)), .imm (.sl 8 (List.map t_api_Slice p0.fSlices)), .imm (.sl 7 (List.map t_api_State p0.fStates)), .imm (.sl 7 (List.map t_api_Flow p0.fFlows)), .imm (.sl 4 (List.map t_api_Sample p0.fSamples)), .imm (.sl 3 (List.map t_api_Step p0.fSteps)), .imm (.sl 7 (List.map t_api_Block p0.fBlocks)), .imm (.sl 4 (List.map t_api_Loss p0.fLost))], .c (.imm (tI p1)), .agg [.imm (tI p2.fFrom), .imm (tI p2.fTo)]] noHeap (.c (.imm (.sc (.bool r)))) noHeap := by
  refine Fun.of_walk0 Try.func4 c4 (by kernel_rfl) (rs := [.tmp 6]) (by kernel_rfl) ?_
  unfold v4
  unfold tracebooklaw48_CriticalCaused at hF
  refine W_seq ?_
  refine W_regV (by decide) ?_
  refine QV rfl ?_
  refine W_seq ?_
  refine W_seq ?_
  refine W_regV (by decide) ?_
  refine Q_run SV 1 rfl ?_
  obtain ⟨r1, hr1, hF⟩ := bB hF
  refine R_step SV trivial (T_call (tracebooklaw48_few_fun _ _ hr1) ⟨⟨rfl, rfl, rfl, rfl, rfl, rfl, rfl, rfl, rfl, rfl, trivial⟩, trivial⟩ rfl (.inl rfl) ?_)
  refine QV rfl ?_
  refine W_condL (t := (!r1)) rfl (fun h30 => ?_) (fun h30 => ?_)
  · have hF := bT h30 hF
    refine W_seq ?_
    refine W_regV (by decide) ?_
    obtain ⟨r2, hr2, hF⟩ := bB hF
    refine R_step SV trivial (T_call (tracebooklaw48_awake_fun _ hr2) trivial rfl (.inl rfl) ?_)
    refine QV rfl ?_
    refine W_ret ?_
    cases hF
    exact ⟨_, rfl, rfl, ⟨rfl, fun _ => rfl⟩, noOut _⟩
  · have hF := bF h30 hF
    refine W_skip ?_
    refine W_seq ?_
    refine W_regV (by decide) ?_
    refine Q_run SV 3 rfl ?_
    obtain ⟨r3, hr3, hF⟩ := bB hF
    refine R_stepX trivial (X_callG [((902,320),(19,1))] rfl (callN _) (critical_Path_fun _ _ _ _ hr3) trivial ⟨.inr ⟨rfl, rfl, rfl, rfl, rfl, rfl, rfl, rfl, rfl, rfl, trivial⟩, .inl rfl, .inr ⟨rfl, rfl, trivial⟩, trivial⟩ rfl rfl rfl ?_)
    refine QV rfl ?_
    refine W_seq ?_
    refine W_seq ?_
    refine W_regV (by decide) ?_
    refine QV rfl ?_
    refine W_condL (t := (!decide (r3.2 = 0))) rfl (fun h29 => ?_) (fun h29 => ?_)
    · have hF := bT h29 hF
      refine W_seq ?_
      refine W_regV (by decide) ?_
      obtain ⟨r4, hr4, hF⟩ := bB hF
      refine R_step SV trivial (T_call (tracebooklaw48_awake_fun _ hr4) trivial rfl (.inl rfl) ?_)
      refine QV rfl ?_
      refine W_ret ?_
      cases hF
      exact ⟨_, rfl, rfl, ⟨rfl, fun _ => rfl⟩, noOut _⟩
    · have hF := bF h29 hF
      refine W_skip ?_
      refine W_seq ?_
      refine W_seq ?_
      refine W_regV (by decide) ?_
      refine Q_run SV 1 rfl ?_
      refine R_step SV trivial (T_len (tc := t_api_Hop) r3.1 (.own _ _ rfl) ?_)
      refine QV rfl ?_
      refine W_for (fun _ _ h => h) hF (.inl) (fun a16 => [(1, .c (.imm (tI p1))), (3, .c (.ptrO (3,0) 0)), (5, .c (.ptrO (5,0) 0)), (7, .c (.slO (19,1))), (25, .c (.slO (19,1))), (26, .c (.imm (tI (List.length r3.1 : Int)))), (27, .c (.imm (tI a16)))]) (fun a16 => [((3,0), .box [.imm (tI p0.fSpan.fFrom), .imm (tI p0.fSpan.fTo), .imm (.sl 3 (List.map t_api_Thread p0.fThreads)), .imm (.sl 8 (List.map t_api_Slice p0.fSlices)), .imm (.sl 7 (List.map t_api_State p0.fStates)), .imm (.sl 7 (List.map t_api_Flow p0.fFlows)), .imm (.sl 4 (List.map t_api_Sample p0.fSamples)), .imm (.sl 3 (List.map t_api_Step p0.fSteps)), .imm (.sl 7 (List.map t_api_Block p0.fBlocks)), .imm (.sl 4 (List.map t_api_Loss p0.fLost))]), ((5,0), .box [.imm (tI p2.fFrom), .imm (tI p2.fTo)]), ((19,1), .arr 44 4 (List.map t_api_Hop r3.1))]) (fun _ => [(1, .c (.imm (tI p1))), (3, .c (.ptrO (3,0) 0)), (5, .c (.ptrO (5,0) 0)), (7, .c (.slO (19,1)))]) (fun _ => [((3,0), .box [.imm (tI p0.fSpan.fFrom), .imm (tI p0.fSpan.fTo), .imm (.sl 3 (List.map t_api_Thread p0.fThreads)), .imm (.sl 8 (List.map t_api_Slice p0.fSlices)), .imm (.sl 7 (List.map t_api_State p0.fStates)), .imm (.sl 7 (List.map t_api_Flow p0.fFlows)), .imm (.sl 4 (List.map t_api_Sample p0.fSamples)), .imm (.sl 3 (List.map t_api_Step p0.fSteps)), .imm (.sl 7 (List.map t_api_Block p0.fBlocks)), .imm (.sl 4 (List.map t_api_Loss p0.fLost))]), ((5,0), .box [.imm (tI p2.fFrom), .imm (tI p2.fTo)]), ((19,1), .arr 44 4 (List.map t_api_Hop r3.1))]) (S_weak ⟨rfl, rfl, rfl, rfl, rfl, rfl, rfl, trivial⟩ ⟨rfl, rfl, rfl, trivial⟩) ?_ ?_
      · rintro ⟨⟩ hF
        refine W_seq ?_
        refine W_join (fun _ _ h => h) hF (fun v21 => [(6, .c (.imm (.sc (.bool v21))))]) (fun v21 => []) ?_ ?_
        · rintro v21 hF
          refine W_ret ?_
          cases hF
          exact ⟨_, rfl, rfl, ⟨rfl, fun _ => rfl⟩, noOut _⟩
        · intro join hF
          refine W_regV (by decide) ?_
          refine Q_run SV 4 rfl ?_
          obtain ⟨r22, hr22, hF⟩ := bB' hF
          refine R_step SV trivial (T_call (critical_Check_fun _ _ _ _ _ hr22) ⟨⟨rfl, rfl, rfl, rfl, rfl, rfl, rfl, rfl, rfl, rfl, trivial⟩, rfl, ⟨rfl, rfl, trivial⟩, ⟨_, rfl⟩, trivial⟩ rfl (.inl rfl) ?_)
          refine Q_run SV 1 rfl ?_
          cases h23 : r22
          · have hF := bF' h23 hF
            refine QV rfl ?_
            exact join false _ _ hF (S_weak ⟨rfl, trivial⟩ trivial)
          · have hF := bT' h23 hF
            obtain ⟨r24, hr24, hF⟩ := bB' hF
            refine R_step SV rfl (T_call (tracebooklaw48_awake_fun _ hr24) trivial rfl (.inl rfl) ?_)
            refine QV rfl ?_
            exact join r24 _ _ hF (S_weak ⟨rfl, trivial⟩ trivial)
      · rintro a16 x_0 hF cont_0 brk_0 fin_0
        unfold tracebooklaw48_CriticalCaused_L1 at hF
        refine W_seq ?_
        refine W_regV (by decide) ?_
        refine QV rfl ?_
        refine W_seq ?_
        refine W_condL (t := (decide (a16 < (List.length r3.1 : Int)))) rfl (fun h28 => ?_) (fun h28 => ?_)
        · have hF := bT h28 hF
          refine W_skip ?_
          refine W_seq ?_
          refine W_block ?_
          refine W_seq ?_
          refine W_regV (by decide) ?_
          obtain ⟨y25, hy25, hF⟩ := bB hF
          refine R_step SV trivial (T_ixO (tc := t_api_Hop) r3.1 rfl rfl rfl hy25 ?_)
          refine R_step SV trivial (T_ldE (tc := t_api_Hop) r3.1 rfl rfl (idx_get hy25).2.1 rfl ?_)
          refine QV rfl ?_
          refine W_seq ?_
          refine W_regD (by decide) (by kernel_rfl) rfl ?_
          refine Q_run SP 8 rfl ?_
          obtain ⟨r26, hr26, hF⟩ := bB hF
          refine R_step SP trivial (T_call (state_Total_fun _ _ _ _ _ hr26) ⟨rfl, rfl, rfl, ⟨rfl, rfl, trivial⟩, trivial⟩ rfl (.inl rfl) ?_)
          refine QP rfl ?_
          refine W_condL (t := (!decide (r26 = (w64 (y25.fSpan.fTo - y25.fSpan.fFrom))))) rfl (fun h27 => ?_) (fun h27 => ?_)
          · have hF := bT h27 hF
            refine W_seq ?_
            refine W_regV (by decide) ?_
            refine QV rfl ?_
            have hF := fin_0 _ (Option.some.inj hF).symm
            refine W_ret ?_
            cases hF
            exact ⟨_, rfl, rfl, ⟨rfl, fun _ => rfl⟩, noOut _⟩
          · have hF := bF h27 hF
            refine W_skip ?_
            refine W_regV (by decide) ?_
            refine QV rfl ?_
            exact cont_0 _ _ _ (Option.some.inj hF).symm (S_weak ⟨rfl, rfl, rfl, rfl, rfl, rfl, rfl, trivial⟩ ⟨rfl, rfl, rfl, trivial⟩)
        · have hF := bF h28 hF
          refine W_exit ?_
          refine thenQ_exit ?_
          refine thenQ_exit ?_
          refine blockQ_hit ?_
          exact brk_0 _ _ _ (Option.some.inj hF).symm (S_weak ⟨rfl, rfl, rfl, rfl, trivial⟩ ⟨rfl, rfl, rfl, trivial⟩)
def tracebookref32_Has_L1 (p0 : api_Trace) (p1 : Int) : Int → Option (Int ⊕ (Unit ⊕ Bool)) := fun a10 =>
  (bif (decide (a10 < (List.length p0.fThreads : Int))) then ((idx p0.fThreads a10).bind fun y14 => (bif (decide (y14.fId = p1)) then some (.inr (.inr true)) else some (.inl (w64 (a10 + 1))))) else some (.inr (.inl ())))
def tracebookref32_Has (p0 : api_Trace) (p1 : Int) : Option Bool :=
  ((loop (tracebookref32_Has_L1 p0 p1) 0).bind fun | .inl _ => some false | .inr rv => some rv)
set_option maxRecDepth 100000 in
set_option maxHeartbeats 4000000 in
theorem tracebookref32_Has_fun (p0 : api_Trace) (p1 : Int) (r : Bool) (hF : tracebookref32_Has p0 p1 = some r) : Fun Try.prog 7 true [] [.agg [.imm (tI p0.fSpan.fFrom), .imm (tI p0.fSpan.fTo), .imm (.sl 3 (List.map t_api_Thread p0.fThreads)), .imm (.sl 8 (List.map t_api_Slice p0.fSlices)), .imm (.sl 7 (List.map t_api_State p0.fStates)), .imm (.sl 7 (List.map t_api_Flow p0.fFlows)), .imm (.sl 4 (List.map t_api_Sample p0.fSamples)), .imm (.sl 3 (List.map t_api_Step p0.fSteps)), .imm (.sl 7 (List.map t_api_Block p0.fBlocks)), .imm (.sl 4 (List.map t_api_Loss p0.fLost))], .c (.imm (tI p1))] noHeap (.c (.imm (.sc (.bool r)))) noHeap := by
  refine Fun.of_walk0 Try.func7 c7 (by kernel_rfl) (rs := [.tmp 4]) (by kernel_rfl) ?_
  unfold v7
  unfold tracebookref32_Has at hF
  refine W_seq ?_
  refine W_regV (by decide) ?_
  refine QV rfl ?_
  refine W_seq ?_
  refine W_seq ?_
  refine W_regV (by decide) ?_
  refine QV rfl ?_
  refine W_for (fun _ _ h => h) hF (.inl) (fun a10 => [(1, .c (.imm (tI p1))), (2, .c (.ptrO (2,0) 0)), (5, .c (.imm (tI a10)))]) (fun a10 => [((2,0), .box [.imm (tI p0.fSpan.fFrom), .imm (tI p0.fSpan.fTo), .imm (.sl 3 (List.map t_api_Thread p0.fThreads)), .imm (.sl 8 (List.map t_api_Slice p0.fSlices)), .imm (.sl 7 (List.map t_api_State p0.fStates)), .imm (.sl 7 (List.map t_api_Flow p0.fFlows)), .imm (.sl 4 (List.map t_api_Sample p0.fSamples)), .imm (.sl 3 (List.map t_api_Step p0.fSteps)), .imm (.sl 7 (List.map t_api_Block p0.fBlocks)), .imm (.sl 4 (List.map t_api_Loss p0.fLost))])]) (fun _ => []) (fun _ => []) (S_weak ⟨rfl, rfl, rfl, trivial⟩ ⟨rfl, trivial⟩) ?_ ?_
  · rintro ⟨⟩ hF
    refine W_seq ?_
    refine W_regV (by decide) ?_
    refine QV rfl ?_
    refine W_ret ?_
    cases hF
    exact ⟨_, rfl, rfl, ⟨rfl, fun _ => rfl⟩, noOut _⟩
  · rintro a10 x_0 hF cont_0 brk_0 fin_0
    unfold tracebookref32_Has_L1 at hF
    refine W_seq ?_
    refine W_seq ?_
    refine W_regV (by decide) ?_
    refine Q_run SV 3 rfl ?_
    refine R_step SV trivial (T_len (tc := t_api_Thread) p0.fThreads .tree ?_)
    refine QV rfl ?_
    refine W_condL (t := (decide (a10 < (List.length p0.fThreads : Int)))) rfl (fun h16 => ?_) (fun h16 => ?_)
    · have hF := bT h16 hF
      refine W_skip ?_
      refine W_seq ?_
      refine W_block ?_
      refine W_seq ?_
      refine W_regV (by decide) ?_
      refine Q_run SV 3 rfl ?_
      obtain ⟨y14, hy14, hF⟩ := bB hF
      refine R_step SV trivial (T_ixT (tc := t_api_Thread) p0.fThreads rfl rfl hy14 ?_)
      refine QV rfl ?_
      refine W_condL (t := (decide (y14.fId = p1))) rfl (fun h15 => ?_) (fun h15 => ?_)
      · have hF := bT h15 hF
        refine W_seq ?_
        refine W_regV (by decide) ?_
        refine QV rfl ?_
        have hF := fin_0 _ (Option.some.inj hF).symm
        refine W_ret ?_
        cases hF
        exact ⟨_, rfl, rfl, ⟨rfl, fun _ => rfl⟩, noOut _⟩
      · have hF := bF h15 hF
        refine W_skip ?_
        refine W_regV (by decide) ?_
        refine QV rfl ?_
        exact cont_0 _ _ _ (Option.some.inj hF).symm (S_weak ⟨rfl, rfl, rfl, trivial⟩ ⟨rfl, trivial⟩)
    · have hF := bF h16 hF
      refine W_exit ?_
      refine thenQ_exit ?_
      refine thenQ_exit ?_
      refine blockQ_hit ?_
      exact brk_0 _ _ _ (Option.some.inj hF).symm (S_weak trivial trivial)
def tracebooklaw48_CriticalAlone_L1 (p0 : api_Trace) (p1 : Int) (r28 : ((List api_Hop) × Int)) : Int → Option (Int ⊕ (Unit ⊕ Bool)) := fun a57 =>
  (bif (decide (a57 < (List.length r28.1 : Int))) then ((idx r28.1 a57).bind fun y71 => ((state_At p0.fStates p1 y71.fSpan.fFrom).bind fun r72 => (((bif (!r72.2) then some true else (bif (!decide (y71.fThread = p1)) then some true else (bif (!decide (y71.fState = r72.1.fState)) then some true else (bif (decide (0 < a57)) then (bif (!decide (y71.fSpan.fFrom = r72.1.fSpan.fFrom)) then some true else (bif (decide ((w64 (a57 + 1)) < (List.length r28.1 : Int))) then some (!decide (y71.fSpan.fTo = r72.1.fSpan.fTo)) else some false)) else (bif (decide ((w64 (a57 + 1)) < (List.length r28.1 : Int))) then some (!decide (y71.fSpan.fTo = r72.1.fSpan.fTo)) else some false))))) : Option Bool).bind fun v73 => (bif v73 then some (.inr (.inr false)) else some (.inl (w64 (a57 + 1))))))) else some (.inr (.inl ())))
def tracebooklaw48_CriticalAlone_L2 (p0 : api_Trace) : Int → Option (Int ⊕ (Unit ⊕ Bool)) := fun a20 =>
  (bif (decide (a20 < (List.length p0.fStates : Int))) then ((idx p0.fStates a20).bind fun y84 => (((bif (decide (0 ≤ y84.fBy)) then ((tracebookref32_Has p0 y84.fBy).bind fun r89 => some r89) else some false) : Option Bool).bind fun v85 => (bif v85 then ((tracebooklaw48_awake ).bind fun r86 => some (.inr (.inr r86))) else some (.inl (w64 (a20 + 1)))))) else some (.inr (.inl ())))
def tracebooklaw48_CriticalAlone (p0 : api_Trace) (p1 : Int) (p2 : api_Span) : Option Bool :=
  ((tracebooklaw48_few p0).bind fun r1 => (bif (!r1) then ((tracebooklaw48_awake ).bind fun r2 => some r2) else ((loop (tracebooklaw48_CriticalAlone_L2 p0) 0).bind fun | .inl _ => ((critical_Path p0 p1 p2).bind fun r28 => (bif (!decide (r28.2 = 0)) then ((tracebooklaw48_awake ).bind fun r29 => some r29) else ((loop (tracebooklaw48_CriticalAlone_L1 p0 p1 r28) 0).bind fun | .inl _ => ((tracebooklaw48_awake ).bind fun r70 => some r70) | .inr rv => some rv))) | .inr rv => some rv)))
set_option maxRecDepth 100000 in
set_option maxHeartbeats 4000000 in
theorem tracebooklaw48_CriticalAlone_fun (p0 : api_Trace) (p1 : Int) (p2 : api_Span) (r : Bool) (hF : tracebooklaw48_CriticalAlone p0 p1 p2 = some r) : Fun Try.prog 3 true [] [.agg [.imm (tI p0.fSpan.fFrom), .imm (tI p0.fSpan.fTo), .imm (.sl 3 (List.map t_api_Thread p0.fThreads)), .imm (.sl 8 (List.map t_api_Slice p0.fSlices)), .imm (.sl 7 (List.map t_api_State p0.fStates)), .imm (.sl 7 (List.map t_api_Flow p0.fFlows)), .imm (.sl 4 (List.map t_api_Sample p0.fSamples)), .imm (.sl 3 (List.map t_api_Step p0.fSteps)), .imm (.sl 7 (List.map t_api_Block p0.fBlocks)), .imm (.sl 4 (List.map t_api_Loss p0.fLost))], .c (.imm (tI p1)), .agg [.imm (tI p2.fFrom), .imm (tI p2.fTo)]] noHeap (.c (.imm (.sc (.bool r)))) noHeap := by
  refine Fun.of_walk0 Try.func3 c3 (by kernel_rfl) (rs := [.tmp 6]) (by kernel_rfl) ?_
  unfold v3
  unfold tracebooklaw48_CriticalAlone at hF
  refine W_seq ?_
  refine W_regV (by decide) ?_
  refine QV rfl ?_
  refine W_seq ?_
  refine W_seq ?_
  refine W_regV (by decide) ?_
  refine Q_run SV 1 rfl ?_
  obtain ⟨r1, hr1, hF⟩ := bB hF
  refine R_step SV trivial (T_call (tracebooklaw48_few_fun _ _ hr1) ⟨⟨rfl, rfl, rfl, rfl, rfl, rfl, rfl, rfl, rfl, rfl, trivial⟩, trivial⟩ rfl (.inl rfl) ?_)
  refine QV rfl ?_
  refine W_condL (t := (!r1)) rfl (fun h91 => ?_) (fun h91 => ?_)
  · have hF := bT h91 hF
    refine W_seq ?_
    refine W_regV (by decide) ?_
    obtain ⟨r2, hr2, hF⟩ := bB hF
    refine R_step SV trivial (T_call (tracebooklaw48_awake_fun _ hr2) trivial rfl (.inl rfl) ?_)
    refine QV rfl ?_
    refine W_ret ?_
    cases hF
    exact ⟨_, rfl, rfl, ⟨rfl, fun _ => rfl⟩, noOut _⟩
  · have hF := bF h91 hF
    refine W_skip ?_
    refine W_seq ?_
    refine W_seq ?_
    refine W_regV (by decide) ?_
    refine Q_run SV 2 rfl ?_
    refine R_step SV trivial (T_len (tc := t_api_State) p0.fStates .tree ?_)
    refine QV rfl ?_
    refine W_for (fun _ _ h => h) hF (.inl) (fun a20 => [(1, .c (.imm (tI p1))), (3, .c (.ptrO (3,0) 0)), (5, .c (.ptrO (5,0) 0)), (20, .c (.imm (.sl 7 (List.map t_api_State p0.fStates)))), (21, .c (.imm (tI (List.length p0.fStates : Int)))), (22, .c (.imm (tI a20)))]) (fun a20 => [((3,0), .box [.imm (tI p0.fSpan.fFrom), .imm (tI p0.fSpan.fTo), .imm (.sl 3 (List.map t_api_Thread p0.fThreads)), .imm (.sl 8 (List.map t_api_Slice p0.fSlices)), .imm (.sl 7 (List.map t_api_State p0.fStates)), .imm (.sl 7 (List.map t_api_Flow p0.fFlows)), .imm (.sl 4 (List.map t_api_Sample p0.fSamples)), .imm (.sl 3 (List.map t_api_Step p0.fSteps)), .imm (.sl 7 (List.map t_api_Block p0.fBlocks)), .imm (.sl 4 (List.map t_api_Loss p0.fLost))]), ((5,0), .box [.imm (tI p2.fFrom), .imm (tI p2.fTo)])]) (fun _ => [(1, .c (.imm (tI p1))), (3, .c (.ptrO (3,0) 0)), (5, .c (.ptrO (5,0) 0))]) (fun _ => [((3,0), .box [.imm (tI p0.fSpan.fFrom), .imm (tI p0.fSpan.fTo), .imm (.sl 3 (List.map t_api_Thread p0.fThreads)), .imm (.sl 8 (List.map t_api_Slice p0.fSlices)), .imm (.sl 7 (List.map t_api_State p0.fStates)), .imm (.sl 7 (List.map t_api_Flow p0.fFlows)), .imm (.sl 4 (List.map t_api_Sample p0.fSamples)), .imm (.sl 3 (List.map t_api_Step p0.fSteps)), .imm (.sl 7 (List.map t_api_Block p0.fBlocks)), .imm (.sl 4 (List.map t_api_Loss p0.fLost))]), ((5,0), .box [.imm (tI p2.fFrom), .imm (tI p2.fTo)])]) (S_weak ⟨rfl, rfl, rfl, rfl, rfl, rfl, trivial⟩ ⟨rfl, rfl, trivial⟩) ?_ ?_
    · rintro ⟨⟩ hF
      refine W_seq ?_
      refine W_regV (by decide) ?_
      refine Q_run SV 3 rfl ?_
      obtain ⟨r28, hr28, hF⟩ := bB hF
      refine R_stepX trivial (X_callG [((902,320),(41,1))] rfl (callN _) (critical_Path_fun _ _ _ _ hr28) trivial ⟨.inr ⟨rfl, rfl, rfl, rfl, rfl, rfl, rfl, rfl, rfl, rfl, trivial⟩, .inl rfl, .inr ⟨rfl, rfl, trivial⟩, trivial⟩ rfl rfl rfl ?_)
      refine QV rfl ?_
      refine W_seq ?_
      refine W_seq ?_
      refine W_regV (by decide) ?_
      refine QV rfl ?_
      refine W_condL (t := (!decide (r28.2 = 0))) rfl (fun h83 => ?_) (fun h83 => ?_)
      · have hF := bT h83 hF
        refine W_seq ?_
        refine W_regV (by decide) ?_
        obtain ⟨r29, hr29, hF⟩ := bB hF
        refine R_step SV trivial (T_call (tracebooklaw48_awake_fun _ hr29) trivial rfl (.inl rfl) ?_)
        refine QV rfl ?_
        refine W_ret ?_
        cases hF
        exact ⟨_, rfl, rfl, ⟨rfl, fun _ => rfl⟩, noOut _⟩
      · have hF := bF h83 hF
        refine W_skip ?_
        refine W_seq ?_
        refine W_seq ?_
        refine W_regV (by decide) ?_
        refine Q_run SV 1 rfl ?_
        refine R_step SV trivial (T_len (tc := t_api_Hop) r28.1 (.own _ _ rfl) ?_)
        refine QV rfl ?_
        refine W_for (fun _ _ h => h) hF (.inl) (fun a57 => [(1, .c (.imm (tI p1))), (3, .c (.ptrO (3,0) 0)), (9, .c (.slO (41,1))), (47, .c (.slO (41,1))), (48, .c (.imm (tI (List.length r28.1 : Int)))), (49, .c (.imm (tI a57)))]) (fun a57 => [((3,0), .box [.imm (tI p0.fSpan.fFrom), .imm (tI p0.fSpan.fTo), .imm (.sl 3 (List.map t_api_Thread p0.fThreads)), .imm (.sl 8 (List.map t_api_Slice p0.fSlices)), .imm (.sl 7 (List.map t_api_State p0.fStates)), .imm (.sl 7 (List.map t_api_Flow p0.fFlows)), .imm (.sl 4 (List.map t_api_Sample p0.fSamples)), .imm (.sl 3 (List.map t_api_Step p0.fSteps)), .imm (.sl 7 (List.map t_api_Block p0.fBlocks)), .imm (.sl 4 (List.map t_api_Loss p0.fLost))]), ((41,1), .arr 44 4 (List.map t_api_Hop r28.1))]) (fun _ => []) (fun _ => []) (S_weak ⟨rfl, rfl, rfl, rfl, rfl, rfl, trivial⟩ ⟨rfl, rfl, trivial⟩) ?_ ?_
        · rintro ⟨⟩ hF
          refine W_seq ?_
          refine W_regV (by decide) ?_
          obtain ⟨r70, hr70, hF⟩ := bB hF
          refine R_step SV trivial (T_call (tracebooklaw48_awake_fun _ hr70) trivial rfl (.inl rfl) ?_)
          refine QV rfl ?_
          refine W_ret ?_
          cases hF
          exact ⟨_, rfl, rfl, ⟨rfl, fun _ => rfl⟩, noOut _⟩
        · rintro a57 x_0 hF cont_0 brk_0 fin_0
          unfold tracebooklaw48_CriticalAlone_L1 at hF
          refine W_seq ?_
          refine W_regV (by decide) ?_
          refine QV rfl ?_
          refine W_seq ?_
          refine W_condL (t := (decide (a57 < (List.length r28.1 : Int)))) rfl (fun h82 => ?_) (fun h82 => ?_)
          · have hF := bT h82 hF
            refine W_skip ?_
            refine W_seq ?_
            refine W_block ?_
            refine W_seq ?_
            refine W_regV (by decide) ?_
            refine Q_run SV 1 rfl ?_
            obtain ⟨y71, hy71, hF⟩ := bB hF
            refine R_step SV trivial (T_ixO (tc := t_api_Hop) r28.1 rfl rfl rfl hy71 ?_)
            refine R_step SV trivial (T_ldE (tc := t_api_Hop) r28.1 rfl rfl (idx_get hy71).2.1 rfl ?_)
            refine QV rfl ?_
            refine W_seq ?_
            refine W_regV (by decide) ?_
            refine Q_run SV 6 rfl ?_
            obtain ⟨r72, hr72, hF⟩ := bB hF
            refine R_step SV trivial (T_call (state_At_fun _ _ _ _ hr72) ⟨rfl, rfl, rfl, trivial⟩ rfl (.inl rfl) ?_)
            refine QV rfl ?_
            refine W_seq ?_
            refine W_join (fun _ _ h => h) hF (fun v73 => [(1, .c (.imm (tI p1))), (3, .c (.ptrO (3,0) 0)), (9, .c (.slO (41,1))), (47, .c (.slO (41,1))), (48, .c (.imm (tI (List.length r28.1 : Int)))), (49, .c (.imm (tI a57))), (107, .c (.imm (.sc (.bool v73))))]) (fun v73 => [((3,0), .box [.imm (tI p0.fSpan.fFrom), .imm (tI p0.fSpan.fTo), .imm (.sl 3 (List.map t_api_Thread p0.fThreads)), .imm (.sl 8 (List.map t_api_Slice p0.fSlices)), .imm (.sl 7 (List.map t_api_State p0.fStates)), .imm (.sl 7 (List.map t_api_Flow p0.fFlows)), .imm (.sl 4 (List.map t_api_Sample p0.fSamples)), .imm (.sl 3 (List.map t_api_Step p0.fSteps)), .imm (.sl 7 (List.map t_api_Block p0.fBlocks)), .imm (.sl 4 (List.map t_api_Loss p0.fLost))]), ((41,1), .arr 44 4 (List.map t_api_Hop r28.1))]) ?_ ?_
            · rintro v73 hF
              refine W_condL (t := v73) rfl (fun h74 => ?_) (fun h74 => ?_)
              · have hF := bT h74 hF
                refine W_seq ?_
                refine W_regV (by decide) ?_
                refine QV rfl ?_
                have hF := fin_0 _ (Option.some.inj hF).symm
                refine W_ret ?_
                cases hF
                exact ⟨_, rfl, rfl, ⟨rfl, fun _ => rfl⟩, noOut _⟩
              · have hF := bF h74 hF
                refine W_skip ?_
                refine W_regV (by decide) ?_
                refine QV rfl ?_
                exact cont_0 _ _ _ (Option.some.inj hF).symm (S_weak ⟨rfl, rfl, rfl, rfl, rfl, rfl, trivial⟩ ⟨rfl, rfl, trivial⟩)
            · intro join hF
              refine W_regV (by decide) ?_
              refine Q_run SV 3 rfl ?_
              cases h75 : (!r72.2)
              · have hF := bF' h75 hF
                refine Q_run SV 6 rfl ?_
                cases h76 : (!decide (y71.fThread = p1))
                · have hF := bF' h76 hF
                  refine Q_run SV 7 rfl ?_
                  cases h77 : (!decide (y71.fState = r72.1.fState))
                  · have hF := bF' h77 hF
                    refine Q_run SV 3 rfl ?_
                    cases h78 : (decide (0 < a57))
                    · have hF := bF' h78 hF
                      refine Q_run SV 13 rfl ?_
                      refine R_step SV rfl (T_len (tc := t_api_Hop) r28.1 (.own _ _ rfl) ?_)
                      refine Q_run SV 2 rfl ?_
                      cases h79 : (decide ((w64 (a57 + 1)) < (List.length r28.1 : Int)))
                      · have hF := bF' h79 hF
                        refine QV rfl ?_
                        exact join false _ _ hF (S_weak ⟨rfl, rfl, rfl, rfl, rfl, rfl, rfl, trivial⟩ ⟨rfl, rfl, trivial⟩)
                      · have hF := bT' h79 hF
                        refine QV rfl ?_
                        exact join (!decide (y71.fSpan.fTo = r72.1.fSpan.fTo)) _ _ hF (S_weak ⟨rfl, rfl, rfl, rfl, rfl, rfl, rfl, trivial⟩ ⟨rfl, rfl, trivial⟩)
                    · have hF := bT' h78 hF
                      refine Q_run SV 10 rfl ?_
                      cases h80 : (!decide (y71.fSpan.fFrom = r72.1.fSpan.fFrom))
                      · have hF := bF' h80 hF
                        refine Q_run SV 3 rfl ?_
                        refine R_step SV rfl (T_len (tc := t_api_Hop) r28.1 (.own _ _ rfl) ?_)
                        refine Q_run SV 2 rfl ?_
                        cases h81 : (decide ((w64 (a57 + 1)) < (List.length r28.1 : Int)))
                        · have hF := bF' h81 hF
                          refine QV rfl ?_
                          exact join false _ _ hF (S_weak ⟨rfl, rfl, rfl, rfl, rfl, rfl, rfl, trivial⟩ ⟨rfl, rfl, trivial⟩)
                        · have hF := bT' h81 hF
                          refine QV rfl ?_
                          exact join (!decide (y71.fSpan.fTo = r72.1.fSpan.fTo)) _ _ hF (S_weak ⟨rfl, rfl, rfl, rfl, rfl, rfl, rfl, trivial⟩ ⟨rfl, rfl, trivial⟩)
                      · have hF := bT' h80 hF
                        refine QV rfl ?_
                        exact join true _ _ hF (S_weak ⟨rfl, rfl, rfl, rfl, rfl, rfl, rfl, trivial⟩ ⟨rfl, rfl, trivial⟩)
                  · have hF := bT' h77 hF
                    refine QV rfl ?_
                    exact join true _ _ hF (S_weak ⟨rfl, rfl, rfl, rfl, rfl, rfl, rfl, trivial⟩ ⟨rfl, rfl, trivial⟩)
                · have hF := bT' h76 hF
                  refine QV rfl ?_
                  exact join true _ _ hF (S_weak ⟨rfl, rfl, rfl, rfl, rfl, rfl, rfl, trivial⟩ ⟨rfl, rfl, trivial⟩)
              · have hF := bT' h75 hF
                refine QV rfl ?_
                exact join true _ _ hF (S_weak ⟨rfl, rfl, rfl, rfl, rfl, rfl, rfl, trivial⟩ ⟨rfl, rfl, trivial⟩)
          · have hF := bF h82 hF
            refine W_exit ?_
            refine thenQ_exit ?_
            refine thenQ_exit ?_
            refine blockQ_hit ?_
            exact brk_0 _ _ _ (Option.some.inj hF).symm (S_weak trivial trivial)
    · rintro a20 x_0 hF cont_0 brk_0 fin_0
      unfold tracebooklaw48_CriticalAlone_L2 at hF
      refine W_seq ?_
      refine W_regV (by decide) ?_
      refine QV rfl ?_
      refine W_seq ?_
      refine W_condL (t := (decide (a20 < (List.length p0.fStates : Int)))) rfl (fun h90 => ?_) (fun h90 => ?_)
      · have hF := bT h90 hF
        refine W_skip ?_
        refine W_seq ?_
        refine W_block ?_
        refine W_seq ?_
        refine W_regV (by decide) ?_
        obtain ⟨y84, hy84, hF⟩ := bB hF
        refine R_step SV trivial (T_ixT (tc := t_api_State) p0.fStates rfl rfl hy84 ?_)
        refine QV rfl ?_
        refine W_seq ?_
        refine W_join (fun _ _ h => h) hF (fun v85 => [(1, .c (.imm (tI p1))), (3, .c (.ptrO (3,0) 0)), (5, .c (.ptrO (5,0) 0)), (20, .c (.imm (.sl 7 (List.map t_api_State p0.fStates)))), (21, .c (.imm (tI (List.length p0.fStates : Int)))), (22, .c (.imm (tI a20))), (34, .c (.imm (.sc (.bool v85))))]) (fun v85 => [((3,0), .box [.imm (tI p0.fSpan.fFrom), .imm (tI p0.fSpan.fTo), .imm (.sl 3 (List.map t_api_Thread p0.fThreads)), .imm (.sl 8 (List.map t_api_Slice p0.fSlices)), .imm (.sl 7 (List.map t_api_State p0.fStates)), .imm (.sl 7 (List.map t_api_Flow p0.fFlows)), .imm (.sl 4 (List.map t_api_Sample p0.fSamples)), .imm (.sl 3 (List.map t_api_Step p0.fSteps)), .imm (.sl 7 (List.map t_api_Block p0.fBlocks)), .imm (.sl 4 (List.map t_api_Loss p0.fLost))]), ((5,0), .box [.imm (tI p2.fFrom), .imm (tI p2.fTo)])]) ?_ ?_
        · rintro v85 hF
          refine W_condL (t := v85) rfl (fun h87 => ?_) (fun h87 => ?_)
          · have hF := bT h87 hF
            refine W_seq ?_
            refine W_regV (by decide) ?_
            obtain ⟨r86, hr86, hF⟩ := bB hF
            refine R_step SV trivial (T_call (tracebooklaw48_awake_fun _ hr86) trivial rfl (.inl rfl) ?_)
            refine QV rfl ?_
            have hF := fin_0 _ (Option.some.inj hF).symm
            refine W_ret ?_
            cases hF
            exact ⟨_, rfl, rfl, ⟨rfl, fun _ => rfl⟩, noOut _⟩
          · have hF := bF h87 hF
            refine W_skip ?_
            refine W_regV (by decide) ?_
            refine QV rfl ?_
            exact cont_0 _ _ _ (Option.some.inj hF).symm (S_weak ⟨rfl, rfl, rfl, rfl, rfl, rfl, trivial⟩ ⟨rfl, rfl, trivial⟩)
        · intro join hF
          refine W_regV (by decide) ?_
          refine Q_run SV 4 rfl ?_
          cases h88 : (decide (0 ≤ y84.fBy))
          · have hF := bF' h88 hF
            refine QV rfl ?_
            exact join false _ _ hF (S_weak ⟨rfl, rfl, rfl, rfl, rfl, rfl, rfl, trivial⟩ ⟨rfl, rfl, trivial⟩)
          · have hF := bT' h88 hF
            refine Q_run SV 3 rfl ?_
            obtain ⟨r89, hr89, hF⟩ := bB' hF
            refine R_step SV rfl (T_call (tracebookref32_Has_fun _ _ _ hr89) ⟨⟨rfl, rfl, rfl, rfl, rfl, rfl, rfl, rfl, rfl, rfl, trivial⟩, rfl, trivial⟩ rfl (.inl rfl) ?_)
            refine QV rfl ?_
            exact join r89 _ _ hF (S_weak ⟨rfl, rfl, rfl, rfl, rfl, rfl, rfl, trivial⟩ ⟨rfl, rfl, trivial⟩)
      · have hF := bF h90 hF
        refine W_exit ?_
        refine thenQ_exit ?_
        refine thenQ_exit ?_
        refine blockQ_hit ?_
        exact brk_0 _ _ _ (Option.some.inj hF).symm (S_weak ⟨rfl, rfl, rfl, trivial⟩ ⟨rfl, rfl, trivial⟩)
end Go.VM
